/- The disk's Crash, walked. Conditions: the disk is a block with rows of its own; its state is in order; what is kept is read. -/
import Derived.Test.YthaoaaboempajaaDisk10
namespace Go.Proofs.Ythaoaaboempajaa.Disk
open Go.RowKit Go.Proofs.YthaoaaboempajaaW.PrintWords Go.Proofs.YthaoaaboempajaaW.PrintLast Go.Proofs.YthaoaaboempajaaW.PrintMore Go.Proofs.YthaoaaboempajaaX Go.Proofs.Ythaoaaboempajaa.QDiskRuns
set_option linter.unusedVariables false
set_option linter.unusedSimpArgs false
theorem at_I {w : World} {A : Option Addr} {n : Nat} {xs : List Int} (h : (Kd.int .i64).C w A n xs) (i : Nat) (h1 : i < n) : ∃ ad, A = some ad ∧ w.cell? (ad.add i) = some (.int .i64 (xs.getD i 0)) := by
  obtain ⟨ad, c, e, _, hK, hc0⟩ := Kd.C_get h 0 (i : Int) (by omega) (by omega)
  rw [Int.toNat_natCast] at hK hc0
  obtain rfl : c = [.int .i64 (xs.getD i 0)] := hK
  exact ⟨ad, e, by have := hc0 0 _ rfl; rwa [show (Kd.int .i64).sz = 1 from rfl, Nat.mul_one, Nat.add_zero] at this⟩
theorem how_keep {keep : List Int} {j : Nat} (h : 0 < keep.length) : howOf keep j = keep.getD (j % keep.length) 0 := by unfold howOf; rw [if_neg (by omega)]
theorem how_none {keep : List Int} {j : Nat} (h : keep.length = 0) : howOf keep j = 0 := by unfold howOf; rw [if_pos h]
theorem crashB_step (f : Int) (keep : List Int) {ws : List Chg} {j : Nat} (h : j < ws.length) (l : ByteArray) : crashB f keep 0 (ws.take (j + 1)) l = kept1 (howOf keep j) (chgAt ws j) f (crashB f keep 0 (ws.take j) l) := by
  rw [take_succ_chg h, crashB_snoc]
  congr 2
  rw [List.length_take]
  omega
def keptAs (h : Int) (c : Chg) : Chg := if h = 2 then halved c else c
theorem kept1_ne {h : Int} {c : Chg} {f : Int} {s : ByteArray} (hne : c.file ≠ f) : kept1 h c f s = s := if_neg (fun h => hne h.1)
theorem kept1_no {h : Int} {c : Chg} {f : Int} {s : ByteArray} (hne : ¬ (h = 1 ∨ h = 2)) : kept1 h c f s = s := if_neg (fun h => hne h.2)
theorem kept1_eq {h : Int} {c : Chg} {f : Int} {s : ByteArray} (he : c.file = f) (hy : h = 1 ∨ h = 2) : kept1 h c f s = onB (keptAs h c) s := if_pos ⟨he, hy⟩
theorem keptAs_le (h : Int) (c : Chg) : (keptAs h c).at_ = c.at_ ∧ (keptAs h c).text.size ≤ c.text.size ∧ (keptAs h c).file = c.file := by
  unfold keptAs
  split
  · exact halved_le c
  · exact ⟨rfl, Nat.le_refl _, rfl⟩
def chgCells (c : Chg) : Array Value := #[.int .i64 c.file, .int .i64 (c.at_ : Int), .string c.text, .bool c.cut]
set_option maxHeartbeats 8000000 in
set_option maxRecDepth 100000 in
theorem crash.calls (g : Nat) (O : Nat → Prop) (s : St) (m : Nat) (Ak : Option Addr) (ck : Nat) (keep : List Int) (w0 w : World) (hB : Below w0.heap.size w0 w) (hD : DD w w0.heap.size g O s) (hok : s.ok m) (hm : m ≤ 1000000000)
    (hk : ∀ W', Kept w W' O → (Kd.int .i64).C W' Ak keep.length keep) (hkl : keep.length ≤ 9223372036854775807) :
    Calls Try.prog 73 #[.pointer (some ⟨g, 0, none⟩), .slice Ak keep.length ck] w fun e w' => e = .returned (.tuple #[]) ∧
      DD w' w0.heap.size g (fun k => O k ∨ w.heap.size ≤ k) (s.crashed keep) ∧ Below w0.heap.size w0 w' ∧ Kept w w' O := by
  obtain ⟨lab, x0, x1, x2, x3, x4, hb, hg, hO, hlb, hr⟩ := hD
  have hcs := hok.c
  have hns := hok.n
  have HW := Aside0.mk (show s.ws.length ≤ 1000000000 by omega)
  have HWS := Aside0.mk hok.ws
  have HL0 := Aside0.mk hok.l0
  have HL1 := Aside0.mk hok.l1
  have HB := Aside0.mk hB
  have HG := Aside0.mk hg
  have HO := Aside0.mk hO
  have HLB := Aside0.mk hlb
  have HR := Aside0.mk hr
  have HX := Aside0.mk hb
  have HKP := Aside0.mk hk
  have HKL := Aside0.mk hkl
  clear hB hb hg hO hlb hr hok hm hcs hns hk hkl
  obtain ⟨A4, c4, e4⟩ := Kd.R_slice HR.out.r4
  subst e4
  go_enter Try.func73, Try.ntmps73
  have q4 : w.cell? ⟨g, 4, none⟩ = some (.slice A4 s.ws.length c4) := (blk_cell HX.out 4).trans rfl
  go_wp2_with (fail)
  clear q4
  go_loopw [15] (fun v15 wr => ∃ (j : Nat), j ≤ s.ws.length ∧ v15 = .int .i64 (j : Int) ∧ Aside0 (∃ lb y0 y2, wr.heap[g]? = some (.cells (dcells y0 x1 y2 x3 (.slice A4 s.ws.length c4) s.f s.d s.c) 146 (0, 0)) ∧ lb g = 5 ∧ Rws wr w0.heap.size (fun k => O k ∨ w.heap.size ≤ k) lb y0 x1 y2 x3 (.slice A4 s.ws.length c4) (bytesOf (crashB 0 keep 0 (s.ws.take j) s.l0)) (bytesOf s.s0) (bytesOf (crashB 1 keep 0 (s.ws.take j) s.l1)) (bytesOf s.s1) s.ws) ∧ Aside0 (Below w0.heap.size w0 wr) ∧ Aside0 (Kept w wr O)) (fun v15 _ => s.ws.length - (intOf v15).toNat)
  case atStart => exact ⟨0, Nat.zero_le _, rfl, ⟨lab, x0, x2, HX.out, HLB.out, HR.out.mono (fun k hk => .inl hk)⟩, HB, ⟨Kept.refl _ _⟩⟩
  case round =>
    clear HB HLB HR HX
    obtain ⟨j, hj, rfl, HDr, HBr, HKr⟩ := hrel
    obtain ⟨lb, y0, y2, hx, hlb, hr⟩ := HDr.out
    have HXr := Aside0.mk hx
    have HLr := Aside0.mk hlb
    have HRr := Aside0.mk hr
    clear HDr hx hlb hr
    obtain ⟨A0, c0, e0⟩ := Kd.R_slice HRr.out.r0
    subst e0
    obtain ⟨A2, c2, e2⟩ := Kd.R_slice HRr.out.r2
    subst e2
    have hm := HW.out
    by_cases hlt : j < s.ws.length
    · have t_ : decide ((j : Int) < (s.ws.length : Int)) = true := decide_eq_true (by omega)
      obtain ⟨ad, hA, f0, f1, f2, f3⟩ := at_C (Kd.R_reads' HRr.out.r4).2.2 j hlt
      subst hA
      have HC0 := Aside0.mk (crashB_step 0 keep hlt s.l0)
      have HC1 := Aside0.mk (crashB_step 1 keep hlt s.l1)
      have HCH := Aside0.mk (HWS.out (chgAt s.ws j) (by unfold chgAt; rw [List.getD_eq_getElem?_getD, List.getElem?_eq_getElem hlt, Option.getD_some]; exact List.getElem_mem hlt))
      have HS0 := Aside0.mk (size_crashB 0 keep (s.ws.take j) 0 s.l0 HL0.out (fun c hc => (HWS.out c (List.mem_of_mem_take hc)).2))
      have HS1 := Aside0.mk (size_crashB 1 keep (s.ws.take j) 0 s.l1 HL1.out (fun c hc => (HWS.out c (List.mem_of_mem_take hc)).2))
      generalize chgAt s.ws j = ch at f0 f1 f2 f3 HC0 HC1 HCH
      generalize crashB 0 keep 0 (s.ws.take j) s.l0 = m0 at HRr HXr HC0 HS0
      generalize crashB 1 keep 0 (s.ws.take j) s.l1 = m1 at HRr HXr HC1 HS1
      go_upto_region 3 with ((with_reducible refine gate_dst (N := 5) rfl ?_); refine box_event ?hg (N := 5) ?hd (cs := #[.int .i64 0, .int .i64 0, .string ⟨#[]⟩, .bool false]) (t := 172) ?hr ?_; (case hd => rfl); (case hg => rfl); (case hr => first | (go_simp; done) | (go_simp; rfl)); intro gb hgb w7 hbox hb; have HXb := Aside0.mk hbox; have HBb := Aside0.mk hb; have HGb := Aside0.mk hgb; have b0 : w7.cell? ⟨gb, 0, none⟩ = some (.int .i64 0) := (blk_cell hbox 0).trans rfl; have b1 : w7.cell? ⟨gb, 1, none⟩ = some (.int .i64 0) := (blk_cell hbox 1).trans rfl; have b2 : w7.cell? ⟨gb, 2, none⟩ = some (.string ⟨#[]⟩) := (blk_cell hbox 2).trans rfl; have b3 : w7.cell? ⟨gb, 3, none⟩ = some (.bool false) := (blk_cell hbox 3).trans rfl; have y0 := blk_frozen hbox 0; have y1 := blk_frozen hbox 1; have y2 := blk_frozen hbox 2; have y3 := blk_frozen hbox 3; clear hgb hbox hb)
      have hput : (((w7.setCell ⟨gb, 0, none⟩ (.int .i64 ch.file)).setCell ⟨gb, 1, none⟩ (.int .i64 (ch.at_ : Int))).setCell ⟨gb, 2, none⟩ (.string ch.text)).setCell ⟨gb, 3, none⟩ (.bool ch.cut) = put4 w7 gb (.int .i64 ch.file) (.int .i64 (ch.at_ : Int)) (.string ch.text) (.bool ch.cut) := rfl
      rw [hput]
      clear hput
      have HX8 := Aside0.mk (put4_blk (a := .int .i64 ch.file) (b := .int .i64 (ch.at_ : Int)) (c := .string ch.text) (d := .bool ch.cut) HXb.out)
      have HB8 := Aside0.mk (HBb.out.setCell (p := ⟨gb, 0, none⟩) (by rw [HGb.out]; exact Nat.le_refl _) (.int .i64 ch.file) |>.setCell (p := ⟨gb, 1, none⟩) (by rw [HGb.out]; exact Nat.le_refl _) (.int .i64 (ch.at_ : Int)) |>.setCell (p := ⟨gb, 2, none⟩) (by rw [HGb.out]; exact Nat.le_refl _) (.string ch.text) |>.setCell (p := ⟨gb, 3, none⟩) (by rw [HGb.out]; exact Nat.le_refl _) (.bool ch.cut))
      change Aside0 (Below wr.heap.size wr (put4 w7 gb (.int .i64 ch.file) (.int .i64 (ch.at_ : Int)) (.string ch.text) (.bool ch.cut))) at HB8
      clear b0 b1 b2 b3 y0 y1 y2 y3 f0 f1 f2 f3 HXb HBb
      generalize put4 w7 gb (.int .i64 ch.file) (.int .i64 (ch.at_ : Int)) (.string ch.text) (.bool ch.cut) = w8 at HX8 HB8 ⊢
      have q0 : w8.cell? ⟨gb, 0, none⟩ = some (.int .i64 ch.file) := (blk_cell HX8.out 0).trans rfl
      have q1 : w8.cell? ⟨gb, 1, none⟩ = some (.int .i64 (ch.at_ : Int)) := (blk_cell HX8.out 1).trans rfl
      have q2 : w8.cell? ⟨gb, 2, none⟩ = some (.string ch.text) := (blk_cell HX8.out 2).trans rfl
      have q3 : w8.cell? ⟨gb, 3, none⟩ = some (.bool ch.cut) := (blk_cell HX8.out 3).trans rfl
      have HKb := Aside0.mk (HKr.out.below HB8.out)
      have HKC := Aside0.mk (HKP.out _ HKb.out)
      have HHW := Aside0.mk (show ∃ h, h = howOf keep j from ⟨_, rfl⟩)
      clear q0 q1 q2 q3
      go_upto_if 22 with (fail)
      go_cut [6] from 22 to 29 (fun v6 wx => v6 = .int .i64 (howOf keep j) ∧ w8 = wx)
      case first =>
        by_cases hk0 : keep.length = 0
        · have e_ : howOf keep j = 0 := how_none hk0
          have HEE := Aside0.mk e_
          have g_ : decide ((keep.length : Int) > 0) = false := decide_eq_false (by omega)
          have g2_ : ¬ 0 < keep.length := by omega
          have g3_ : decide (0 < keep.length) = false := decide_eq_false g2_
          have g4_ : ¬ (0 : Int) < (keep.length : Int) := by omega
          clear hk0 e_
          go_wp2_with (fail)
          go_meet
          case rel => exact ⟨by rw [HEE.out], rfl⟩
        · have e_ : howOf keep j = keep.getD (j % keep.length) 0 := how_keep (by omega)
          have HEE := Aside0.mk e_
          have g_ : decide ((keep.length : Int) > 0) = true := decide_eq_true (by omega)
          have g2_ : 0 < keep.length := by omega
          have g3_ : decide (0 < keep.length) = true := decide_eq_true g2_
          have hlt2 : j % keep.length < keep.length := Nat.mod_lt _ (by omega)
          obtain ⟨adk, hAk, fk⟩ := at_I HKC.out (j % keep.length) hlt2
          subst hAk
          have m_ : Int.tmod (j : Int) (keep.length : Int) = ((j % keep.length : Nat) : Int) := (Int.ofNat_tmod j keep.length).symm
          have hkl := HKL.out
          have m0_ : ¬ ((keep.length : Int) = 0) := by omega
          have m1_ : ((keep.length : Int) == 0) = false := by simpa using m0_
          have m2_ : IntKind.i64.wrap ((j % keep.length : Nat) : Int) = ((j % keep.length : Nat) : Int) := IntWalk.i64_in _ (by omega)
          generalize j % keep.length = jk at *
          generalize keep.getD jk 0 = kv at fk HEE
          clear hk0 e_
          go_wp2_with (fail)
          go_meet
          case rel => exact ⟨by rw [HEE.out], rfl⟩
      case rest =>
        obtain ⟨rfl, hw⟩ := hcut
        subst hw
        clear HHW HKC
        have HRn := Aside0.mk (HRr.out.narrow.below HB8.out)
        have HXn := Aside0.mk (blk_below HXr.out HB8.out)
        have HNEg := Aside0.mk (show gb ≠ g by rw [HGb.out]; exact Nat.ne_of_gt (blk_lt HXr.out))
        have HGw := Aside0.mk (show w0.heap.size ≤ gb by rw [HGb.out]; exact HBr.out.size)
        have HGk := Aside0.mk (show w.heap.size ≤ gb by rw [HGb.out]; exact HKr.out.1)
        have HBn := Aside0.mk (below_step HBr.out HB8.out)
        have HNB := Aside0.mk (show ∀ k, ((O k ∨ w.heap.size ≤ k) ∧ k < wr.heap.size) → k ≠ gb from fun k hk he => by have h1 := hk.2; rw [he, HGb.out] at h1; exact Nat.lt_irrefl _ h1)
        clear HB8 HRr HXr HBr HKr
        generalize howOf keep j = h at HC0 HC1 ⊢
        have q3 : w8.cell? ⟨gb, 3, none⟩ = some (.bool ch.cut) := (blk_cell HX8.out 3).trans rfl
        go_upto_region 6 with (fail)
        go_cut [36] from 30 to 36 (fun v36 wx => v36 = .bool (decide (h = 2 ∧ ch.cut = false)) ∧ w8 = wx)
        case first =>
          by_cases h2 : h = 2
          · subst h2
            by_cases hcc : ch.cut = false
            · rw [hcc] at q3
              have HCC := Aside0.mk hcc
              clear hcc
              go_wp2_with (fail)
              go_meet
              case rel => exact ⟨by have hq := HCC.out; simp [hq], rfl⟩
            · have hcc' : ch.cut = true := by simpa using hcc
              rw [hcc'] at q3
              have HCC := Aside0.mk hcc
              clear hcc'
              clear hcc
              go_wp2_with (fail)
              go_meet
              case rel => exact ⟨by rw [decide_eq_false (fun hh => HCC.out hh.2)], rfl⟩
          · have e2 : (h == 2) = false := beq_false h2
            have HN2 := Aside0.mk h2
            clear h2
            go_wp2_with (fail)
            go_meet
            case rel => exact ⟨by rw [decide_eq_false (fun hh => HN2.out hh.1)], rfl⟩
        case rest =>
        obtain ⟨rfl, hw⟩ := hcut
        subst hw
        clear q3
        go_upto_if 36 with (fail)
        go_cut [] from 36 to 44 (fun wx => Aside0 (wx.heap[gb]? = some (.cells (chgCells (keptAs h ch)) 172 (0, 0))) ∧ Aside0 (Kept w8 wx (fun k => k = gb)) ∧ Aside0 (Below w0.heap.size w0 wx) ∧ Aside0 (Kept w wx O))
        case first =>
          have q2 : w8.cell? ⟨gb, 2, none⟩ = some (.string ch.text) := (blk_cell HX8.out 2).trans rfl
          have z2 := blk_frozen HX8.out 2
          by_cases h2 : h = 2 ∧ ch.cut = false
          · have HH2 := Aside0.mk h2
            have g_ : decide (h = 2 ∧ ch.cut = false) = true := decide_eq_true h2
            rw [g_]
            clear g_ h2
            have s_ : ch.text.size ≤ 67108864 := by have := HCH.out.2; unfold maxFile at this; omega
            have d_ : Int.tdiv (ch.text.size : Int) 2 = ((ch.text.size / 2 : Nat) : Int) := rfl
            have w_ : IntKind.i64.wrap ((ch.text.size / 2 : Nat) : Int) = ((ch.text.size / 2 : Nat) : Int) := IntWalk.i64_in _ (by omega)
            have l_ : ch.text.size / 2 ≤ ch.text.size := by omega
            go_wp2_with (fail)
            go_meet
            case rel => exact ⟨⟨by
              have hp := blk_put HX8.out 2 (.string (ch.text.extract 0 (ch.text.size / 2))) rfl
              have hk2 : keptAs h ch = { ch with text := ch.text.extract 0 (ch.text.size / 2) } := by
                unfold keptAs halved
                rw [if_pos HH2.out.1, if_neg (by rw [HH2.out.2]; decide)]
              rw [hk2]
              exact hp⟩, ⟨set_kept⟩, ⟨HBn.out.setCell (p := ⟨gb, 2, none⟩) HGw.out _⟩, ⟨HKb.out.setCell (p := ⟨gb, 2, none⟩) (.inr HGk.out) _⟩⟩
          · have HH2 := Aside0.mk h2
            have g_ : decide (h = 2 ∧ ch.cut = false) = false := decide_eq_false h2
            rw [g_]
            clear g_ h2
            go_wp2_with (fail)
            go_meet
            case rel => exact ⟨⟨by
              have hk2 : keptAs h ch = ch := by
                unfold keptAs halved
                split
                · rename_i h3
                  rw [if_pos]
                  cases hc : ch.cut
                  · exact absurd ⟨h3, hc⟩ HH2.out
                  · rfl
                · rfl
              rw [hk2]
              exact HX8.out⟩, ⟨Kept.refl _ _⟩, HBn, HKb⟩
        case rest =>
        obtain ⟨HXb, HK9, HB9, HKw9⟩ := hcut
        have HR9 := Aside0.mk (show Rws wc w0.heap.size (fun k => (O k ∨ w.heap.size ≤ k) ∧ k < wr.heap.size) lb _ x1 _ x3 _ (bytesOf m0) _ (bytesOf m1) _ s.ws from HRn.out.apart HK9.out HNB.out)
        have HX9 := Aside0.mk (blk_kept HXn.out HK9.out (fun he => HNEg.out he.symm))
        have HS9 := Aside0.mk (show w.heap.size ≤ wc.heap.size from HKw9.out.1)
        clear HX8 HK9 HRn HXn HBn HKb
        go_upto_region 8 with (fail)
        go_cut [50] from 45 to 50 (fun v50 wx => v50 = .bool (decide (h = 1 ∨ h = 2)) ∧ wc = wx)
        case first =>
          by_cases h1 : h = 1
          · subst h1
            go_wp2_with (fail)
            go_meet
            case rel => exact ⟨by simp, rfl⟩
          · by_cases h2 : h = 2
            · subst h2
              go_wp2_with (fail)
              go_meet
              case rel => exact ⟨by simp, rfl⟩
            · have e1 : (h == 1) = false := beq_false h1
              have e2 : (h == 2) = false := beq_false h2
              have HN := Aside0.mk (show ¬ (h = 1 ∨ h = 2) from fun hh => hh.elim h1 h2)
              clear h1 h2
              go_wp2_with (fail)
              go_meet
              case rel => exact ⟨by rw [decide_eq_false HN.out], rfl⟩
        case rest =>
        obtain ⟨rfl, hw⟩ := hcut
        subst hw
        go_upto_if 50 with (fail)
        by_cases hy : h = 1 ∨ h = 2
        · rw [decide_eq_true hy]
          have HY := Aside0.mk hy
          clear hy
          have HLE := Aside0.mk (keptAs_le h ch)
          obtain ⟨c2_, hc2⟩ : ∃ c2_, c2_ = keptAs h ch := ⟨_, rfl⟩
          rw [← hc2] at HXb HLE
          have HC2 := Aside0.mk hc2
          clear hc2
          obtain ⟨f2, a2, t2, u2⟩ := c2_
          have HAT := Aside0.mk (show a2 + t2.size ≤ 67108864 by have h1 := HLE.out; have h2 := HCH.out.2; unfold maxFile at h2; dsimp only at h1; omega)
          have HFF := Aside0.mk (show f2 = ch.file from HLE.out.2.2)
          have HSm0 := Aside0.mk (show m0.size ≤ 67108864 from HS0.out)
          have HSm1 := Aside0.mk (show m1.size ≤ 67108864 from HS1.out)
          clear HLE
          rcases HCH.out.1 with hf | hf
          · have HCF := Aside0.mk hf
            obtain rfl : f2 = 0 := HFF.out.trans hf
            clear hf
            have q0 : wc.cell? ⟨gb, 0, none⟩ = some (.int .i64 0) := (blk_cell HXb.out 0).trans rfl
            have q1 : wc.cell? ⟨gb, 1, none⟩ = some (.int .i64 (a2 : Int)) := (blk_cell HXb.out 1).trans rfl
            have q2 : wc.cell? ⟨gb, 2, none⟩ = some (.string t2) := (blk_cell HXb.out 2).trans rfl
            have q3 : wc.cell? ⟨gb, 3, none⟩ = some (.bool u2) := (blk_cell HXb.out 3).trans rfl
            go_upto_region 9 with (fail)
            go_quiet (fail)
            go_upto_region 10 with (fail)
            clear q0 q1 q2 q3
            have HXc := Aside0.mk (blk_drewN HXb.out nq)
            have HX5 := Aside0.mk (blk_drewN HX9.out nq)
            have HR5 := Aside0.mk (HR9.out.below (pw_below_drewN (Below.refl _ wc) nq))
            have HB5 := Aside0.mk (pw_below_drewN HB9.out nq)
            have HK5 := Aside0.mk (Kept.drewN HKw9.out nq)
            have HS5 := Aside0.mk (show w.heap.size ≤ (wc.drewN nq).heap.size from HS9.out)
            clear HXb HX9 HR9 HB9 HKw9 HS9
            generalize wc.drewN nq = w5 at HXc HX5 HR5 HB5 HK5 HS5 ⊢
            have q0 : w5.cell? ⟨gb, 0, none⟩ = some (.int .i64 0) := (blk_cell HXc.out 0).trans rfl
            have q1 : w5.cell? ⟨gb, 1, none⟩ = some (.int .i64 (a2 : Int)) := (blk_cell HXc.out 1).trans rfl
            have q2 : w5.cell? ⟨gb, 2, none⟩ = some (.string t2) := (blk_cell HXc.out 2).trans rfl
            have q3 : w5.cell? ⟨gb, 3, none⟩ = some (.bool u2) := (blk_cell HXc.out 3).trans rfl
            have q4 : w5.cell? ⟨g, 0, none⟩ = some (.slice A0 (bytesOf m0).length c0) := (blk_cell HX5.out 0).trans rfl
            go_region_law (first
              | (refine goes_ Try.func150 (by kernel_rfl) rfl #[chgV ⟨0, a2, t2, u2⟩, .slice A0 (bytesOf m0).length c0] (by rfl) rfl rfl (by (try simp only [List.map_toArray, List.map_cons, List.map_nil]); first | done | rfl) ?_; refine (done.calls _ _ _ ⟨0, a2, t2, u2⟩ w0 _ (below_drew1 HB5.out) (Kd.R_drew HR5.out.r0) (Nat.le_trans HAT.out (by decide)) (by rw [bytesOf_length]; exact Nat.le_trans HSm0.out (by decide))).mono ?_; rintro e w6 ⟨v6, rfl, ho, hb, hk⟩; obtain ⟨A6, c6, e6⟩ := Kd.R_slice ho; subst e6; refine ⟨_, rfl, ?_⟩; have HO9 := Aside0.mk ho; have HB6 := Aside0.mk hb; have HK6 := Aside0.mk hk; have HXA := Aside0.mk (blk_kept (blk_drew HX5.out) hk (fun he => absurd (HLr.out.symm.trans he.2) (by decide))); have z6 := blk_frozen HXA.out 0; have c6_ : w6.cell? ⟨g, 0, none⟩ = some (.slice A0 (bytesOf m0).length c0) := (blk_cell HXA.out 0).trans rfl; clear ho hb hk))
            all_goals
              clear q0 q1 q2 q3 q4
              go_wp2_with (fail)
              have HL9 := Aside0.mk (show relab w5.drew.heap.size lb 0 g = 5 by unfold relab; rw [if_pos (blk_lt (blk_drew HX5.out))]; exact HLr.out)
              have HRF := Aside0.mk ((((HR5.out.below (below_drew (Below.refl _ w5))).up0 HK6.out HO9.out).set HL9.out 0 (.slice A6 (doneL (bytesOf m0) a2 t2 u2).length c6)).mono (O' := fun k => O k ∨ w.heap.size ≤ k) (fun k hk => hk.elim (fun h1 => h1.1) (fun h1 => .inr (Nat.le_trans HS5.out h1))))
              have HXF := Aside0.mk (blk_put HXA.out 0 (.slice A6 (doneL (bytesOf m0) a2 t2 u2).length c6) rfl)
              have HBF := Aside0.mk (HB6.out.setCell (p := ⟨g, 0, none⟩) HG.out (.slice A6 (doneL (bytesOf m0) a2 t2 u2).length c6))
              have HKF := Aside0.mk (((Kept.drew HK5.out).then_ HK6.out (fun k hk => hk.1.1)).setCell (p := ⟨g, 0, none⟩) (.inl HO.out) (.slice A6 (doneL (bytesOf m0) a2 t2 u2).length c6))
              go_roundw
              case rel =>
                refine ⟨j + 1, by omega, by go_num, ⟨?_⟩, HBF, HKF⟩
                rw [HC0.out, HC1.out, kept1_eq HCF.out HY.out, kept1_ne (f := 1) (by rw [HCF.out]; decide), ← HC2.out, bytesOf_onB]
                exact ⟨_, _, _, HXF.out, HL9.out, HRF.out⟩
              case measure => simp [intOf]; omega
          · have HCF := Aside0.mk hf
            obtain rfl : f2 = 1 := HFF.out.trans hf
            clear hf
            have q0 : wc.cell? ⟨gb, 0, none⟩ = some (.int .i64 1) := (blk_cell HXb.out 0).trans rfl
            have q1 : wc.cell? ⟨gb, 1, none⟩ = some (.int .i64 (a2 : Int)) := (blk_cell HXb.out 1).trans rfl
            have q2 : wc.cell? ⟨gb, 2, none⟩ = some (.string t2) := (blk_cell HXb.out 2).trans rfl
            have q3 : wc.cell? ⟨gb, 3, none⟩ = some (.bool u2) := (blk_cell HXb.out 3).trans rfl
            go_upto_region 9 with (fail)
            go_quiet (fail)
            go_upto_region 10 with (fail)
            clear q0 q1 q2 q3
            have HXc := Aside0.mk (blk_drewN HXb.out nq)
            have HX5 := Aside0.mk (blk_drewN HX9.out nq)
            have HR5 := Aside0.mk (HR9.out.below (pw_below_drewN (Below.refl _ wc) nq))
            have HB5 := Aside0.mk (pw_below_drewN HB9.out nq)
            have HK5 := Aside0.mk (Kept.drewN HKw9.out nq)
            have HS5 := Aside0.mk (show w.heap.size ≤ (wc.drewN nq).heap.size from HS9.out)
            clear HXb HX9 HR9 HB9 HKw9 HS9
            generalize wc.drewN nq = w5 at HXc HX5 HR5 HB5 HK5 HS5 ⊢
            have q0 : w5.cell? ⟨gb, 0, none⟩ = some (.int .i64 1) := (blk_cell HXc.out 0).trans rfl
            have q1 : w5.cell? ⟨gb, 1, none⟩ = some (.int .i64 (a2 : Int)) := (blk_cell HXc.out 1).trans rfl
            have q2 : w5.cell? ⟨gb, 2, none⟩ = some (.string t2) := (blk_cell HXc.out 2).trans rfl
            have q3 : w5.cell? ⟨gb, 3, none⟩ = some (.bool u2) := (blk_cell HXc.out 3).trans rfl
            have q4 : w5.cell? ⟨g, 2, none⟩ = some (.slice A2 (bytesOf m1).length c2) := (blk_cell HX5.out 2).trans rfl
            go_region_law (first
              | (refine goes_ Try.func150 (by kernel_rfl) rfl #[chgV ⟨1, a2, t2, u2⟩, .slice A2 (bytesOf m1).length c2] (by rfl) rfl rfl (by (try simp only [List.map_toArray, List.map_cons, List.map_nil]); first | done | rfl) ?_; refine (done.calls _ _ _ ⟨1, a2, t2, u2⟩ w0 _ (below_drew1 HB5.out) (Kd.R_drew HR5.out.r2) (Nat.le_trans HAT.out (by decide)) (by rw [bytesOf_length]; exact Nat.le_trans HSm1.out (by decide))).mono ?_; rintro e w6 ⟨v6, rfl, ho, hb, hk⟩; obtain ⟨A6, c6, e6⟩ := Kd.R_slice ho; subst e6; refine ⟨_, rfl, ?_⟩; have HO9 := Aside0.mk ho; have HB6 := Aside0.mk hb; have HK6 := Aside0.mk hk; have HXA := Aside0.mk (blk_kept (blk_drew HX5.out) hk (fun he => absurd (HLr.out.symm.trans he.2) (by decide))); have z6 := blk_frozen HXA.out 2; have c6_ : w6.cell? ⟨g, 2, none⟩ = some (.slice A2 (bytesOf m1).length c2) := (blk_cell HXA.out 2).trans rfl; clear ho hb hk))
            all_goals
              clear q0 q1 q2 q3 q4
              go_wp2_with (fail)
              have HL9 := Aside0.mk (show relab w5.drew.heap.size lb 2 g = 5 by unfold relab; rw [if_pos (blk_lt (blk_drew HX5.out))]; exact HLr.out)
              have HRF := Aside0.mk ((((HR5.out.below (below_drew (Below.refl _ w5))).up2 HK6.out HO9.out).set HL9.out 2 (.slice A6 (doneL (bytesOf m1) a2 t2 u2).length c6)).mono (O' := fun k => O k ∨ w.heap.size ≤ k) (fun k hk => hk.elim (fun h1 => h1.1) (fun h1 => .inr (Nat.le_trans HS5.out h1))))
              have HXF := Aside0.mk (blk_put HXA.out 2 (.slice A6 (doneL (bytesOf m1) a2 t2 u2).length c6) rfl)
              have HBF := Aside0.mk (HB6.out.setCell (p := ⟨g, 2, none⟩) HG.out (.slice A6 (doneL (bytesOf m1) a2 t2 u2).length c6))
              have HKF := Aside0.mk (((Kept.drew HK5.out).then_ HK6.out (fun k hk => hk.1.1)).setCell (p := ⟨g, 2, none⟩) (.inl HO.out) (.slice A6 (doneL (bytesOf m1) a2 t2 u2).length c6))
              go_roundw
              case rel =>
                refine ⟨j + 1, by omega, by go_num, ⟨?_⟩, HBF, HKF⟩
                rw [HC0.out, HC1.out, kept1_ne (f := 0) (by rw [HCF.out]; decide), kept1_eq HCF.out HY.out, ← HC2.out, bytesOf_onB]
                exact ⟨_, _, _, HXF.out, HL9.out, HRF.out⟩
              case measure => simp [intOf]; omega
        · rw [decide_eq_false hy]
          have HY := Aside0.mk hy
          clear hy
          go_wp2_with (fail)
          go_roundw
          case rel => exact ⟨j + 1, by omega, by go_num, ⟨by rw [HC0.out, HC1.out, kept1_no HY.out, kept1_no HY.out]; exact ⟨_, _, _, HX9.out, HLr.out, HR9.out.mono (fun k hk => hk.1)⟩⟩, HB9, HKw9⟩
          case measure => simp [intOf]; omega
    · obtain rfl : j = s.ws.length := by omega
      rw [List.take_length] at HRr
      rw [List.take_length] at HXr
      clear hlt hj
      have HS0 := Aside0.mk (size_crashB 0 keep s.ws 0 s.l0 HL0.out (fun c hc => (HWS.out c hc).2))
      have HS1 := Aside0.mk (size_crashB 1 keep s.ws 0 s.l1 HL1.out (fun c hc => (HWS.out c hc).2))
      have HM0 := Aside0.mk (show ∃ m0, m0 = crashB 0 keep 0 s.ws s.l0 from ⟨_, rfl⟩)
      have HM1 := Aside0.mk (show ∃ m1, m1 = crashB 1 keep 0 s.ws s.l1 from ⟨_, rfl⟩)
      obtain ⟨m0, hm0⟩ := HM0.out
      obtain ⟨m1, hm1⟩ := HM1.out
      rw [← hm0] at HRr HXr HS0
      rw [← hm1] at HRr HXr HS1
      replace HM0 := Aside0.mk hm0
      replace HM1 := Aside0.mk hm1
      clear hm0 hm1
      go_wp2_with (fail)
      have HBS := Aside0.mk (show w.heap.size ≤ wr.heap.size from HKr.out.1)
      go_loopw [67] (fun v67 ws2 => ∃ (i : Nat), i ≤ 2 ∧ v67 = .int .i64 (i : Int) ∧ Aside0 (∃ lb z1 z3, ws2.heap[g]? = some (.cells (dcells (.slice A0 (bytesOf m0).length c0) z1 (.slice A2 (bytesOf m1).length c2) z3 (.slice A4 s.ws.length c4) s.f s.d s.c) 146 (0, 0)) ∧ lb g = 5 ∧ Rws ws2 w0.heap.size (fun k => O k ∨ w.heap.size ≤ k) lb (.slice A0 (bytesOf m0).length c0) z1 (.slice A2 (bytesOf m1).length c2) z3 (.slice A4 s.ws.length c4) (bytesOf m0) (bytesOf (if 1 ≤ i then m0 else s.s0)) (bytesOf m1) (bytesOf (if 2 ≤ i then m1 else s.s1)) s.ws) ∧ Aside0 (Below w0.heap.size w0 ws2) ∧ Aside0 (Kept w ws2 O)) (fun v67 _ => 2 - (intOf v67).toNat)
      case atStart => exact ⟨0, Nat.zero_le _, rfl, ⟨lb, x1, x3, HXr.out, HLr.out, HRr.out⟩, HBr, HKr⟩
      case round =>
        clear HBr HKr HXr HLr HRr HBS
        obtain ⟨i, hi, rfl, HD2, HB2, HK2⟩ := hrel
        obtain ⟨lb2, z1, z3, hx, hlb, hr⟩ := HD2.out
        have HX2 := Aside0.mk hx
        have HL2 := Aside0.mk hlb
        have HR2 := Aside0.mk hr
        have HS2 := Aside0.mk (show w.heap.size ≤ wr.heap.size from HK2.out.1)
        clear HD2 hx hlb hr
        rcases (show i = 0 ∨ i = 1 ∨ i = 2 by omega) with rfl | rfl | rfl
        · have q0 : wr.cell? ⟨g, 0, none⟩ = some (.slice A0 (bytesOf m0).length c0) := (blk_cell HX2.out 0).trans rfl
          have hl_ : (bytesOf m0).length ≤ 140737488355000 := by rw [bytesOf_length]; exact Nat.le_trans HS0.out (by decide)
          have HRC := Aside0.mk (Kd.R_reads' HR2.out.r0).2.2
          go_wp2_with (first
            | ((with_reducible refine gate_builtin (b := .append) (xs := #[.const (.slice none 0 0), .tmp 79]) rfl ?_); at_builtin; refine Kd.R_append_rows (Kd.int .u8) (Rr := (Kd.int .u8).K wr) (W := wr) (w0 := w0) w0.heap.size rfl _ _ 55 5 (.int .u8 0) 1 rfl Try.underlying55 info5 rfl (by decide) (by omega) (.slice none 0 0) [] (bytesOf m0) A0 (bytesOf m0).length c0 (fun k => wr.heap.size ≤ k) (fun _ => False) rfl rfl (Kd.R_nil _ _ _ _ _) HRC.out (fun _ _ h => h) (fun _ hk => hk.elim) (fun k hk => hk) HB2.out (below_size HB2.out) (by simp; omega) ?_; intro v1 w3 ho hb hgr hat; obtain ⟨A5, c5, e5⟩ := Kd.R_slice ho; rw [List.nil_append] at e5 ho; subst e5; have HO3 := Aside0.mk ho; have HB3 := Aside0.mk hb; have HK3 := Aside0.mk (show Kept wr w3 (fun k => (O k ∨ w.heap.size ≤ k) ∧ lb2 k = 1) from Kept.of_grown hgr (Kept.refl wr _) (fun k hk => by cases hk)); have HX3 := Aside0.mk (blk_grown HX2.out hgr (by intro h; cases h)); have y3 := blk_frozen HX3.out 1; have d3_ : ∃ v, w3.cell? ⟨g, 1, none⟩ = some v := ⟨_, (blk_cell HX3.out 1).trans rfl⟩; obtain ⟨v3_, d3_⟩ := d3_; clear ho hb hgr hat))
          have HL9 := Aside0.mk (show relab wr.heap.size lb2 1 g = 5 by unfold relab; rw [if_pos (blk_lt HX2.out)]; exact HL2.out)
          have HRF := Aside0.mk (((HR2.out.up1 HK3.out (Kd.R_mono HO3.out (fun k hk => .inr hk))).set HL9.out 1 (.slice A5 (bytesOf m0).length c5)).mono (O' := fun k => O k ∨ w.heap.size ≤ k) (fun k hk => hk.elim id (fun h1 => .inr (Nat.le_trans HS2.out h1))))
          have HXF := Aside0.mk (blk_put HX3.out 1 (.slice A5 (bytesOf m0).length c5) rfl)
          have HBF := Aside0.mk (HB3.out.setCell (p := ⟨g, 1, none⟩) HG.out (.slice A5 (bytesOf m0).length c5))
          have HKF := Aside0.mk ((HK2.out.then_ HK3.out (fun k hk => hk.1)).setCell (p := ⟨g, 1, none⟩) (.inl HO.out) (.slice A5 (bytesOf m0).length c5))
          go_roundw
          case rel => exact ⟨0 + 1, by omega, by go_num, ⟨_, _, _, HXF.out, HL9.out, HRF.out⟩, HBF, HKF⟩
          case measure => simp [intOf]
        · have q0 : wr.cell? ⟨g, 2, none⟩ = some (.slice A2 (bytesOf m1).length c2) := (blk_cell HX2.out 2).trans rfl
          have hl_ : (bytesOf m1).length ≤ 140737488355000 := by rw [bytesOf_length]; exact Nat.le_trans HS1.out (by decide)
          have HRC := Aside0.mk (Kd.R_reads' HR2.out.r2).2.2
          go_wp2_with (first
            | ((with_reducible refine gate_builtin (b := .append) (xs := #[.const (.slice none 0 0), .tmp 79]) rfl ?_); at_builtin; refine Kd.R_append_rows (Kd.int .u8) (Rr := (Kd.int .u8).K wr) (W := wr) (w0 := w0) w0.heap.size rfl _ _ 55 5 (.int .u8 0) 1 rfl Try.underlying55 info5 rfl (by decide) (by omega) (.slice none 0 0) [] (bytesOf m1) A2 (bytesOf m1).length c2 (fun k => wr.heap.size ≤ k) (fun _ => False) rfl rfl (Kd.R_nil _ _ _ _ _) HRC.out (fun _ _ h => h) (fun _ hk => hk.elim) (fun k hk => hk) HB2.out (below_size HB2.out) (by simp; omega) ?_; intro v1 w3 ho hb hgr hat; obtain ⟨A5, c5, e5⟩ := Kd.R_slice ho; rw [List.nil_append] at e5 ho; subst e5; have HO3 := Aside0.mk ho; have HB3 := Aside0.mk hb; have HK3 := Aside0.mk (show Kept wr w3 (fun k => (O k ∨ w.heap.size ≤ k) ∧ lb2 k = 3) from Kept.of_grown hgr (Kept.refl wr _) (fun k hk => by cases hk)); have HX3 := Aside0.mk (blk_grown HX2.out hgr (by intro h; cases h)); have y3 := blk_frozen HX3.out 3; have d3_ : ∃ v, w3.cell? ⟨g, 3, none⟩ = some v := ⟨_, (blk_cell HX3.out 3).trans rfl⟩; obtain ⟨v3_, d3_⟩ := d3_; clear ho hb hgr hat))
          have HL9 := Aside0.mk (show relab wr.heap.size lb2 3 g = 5 by unfold relab; rw [if_pos (blk_lt HX2.out)]; exact HL2.out)
          have HRF := Aside0.mk (((HR2.out.up3 HK3.out (Kd.R_mono HO3.out (fun k hk => .inr hk))).set HL9.out 3 (.slice A5 (bytesOf m1).length c5)).mono (O' := fun k => O k ∨ w.heap.size ≤ k) (fun k hk => hk.elim id (fun h1 => .inr (Nat.le_trans HS2.out h1))))
          have HXF := Aside0.mk (blk_put HX3.out 3 (.slice A5 (bytesOf m1).length c5) rfl)
          have HBF := Aside0.mk (HB3.out.setCell (p := ⟨g, 3, none⟩) HG.out (.slice A5 (bytesOf m1).length c5))
          have HKF := Aside0.mk ((HK2.out.then_ HK3.out (fun k hk => hk.1)).setCell (p := ⟨g, 3, none⟩) (.inl HO.out) (.slice A5 (bytesOf m1).length c5))
          go_roundw
          case rel => exact ⟨1 + 1, by omega, by go_num, ⟨_, _, _, HXF.out, HL9.out, HRF.out⟩, HBF, HKF⟩
          case measure => simp [intOf]
        · rw [if_pos (by decide), if_pos (by decide)] at HR2
          have p4 : ∃ v, wr.cell? ⟨g, 4, none⟩ = some v := ⟨_, (blk_cell HX2.out 4).trans rfl⟩
          have p5 : ∃ v, wr.cell? ⟨g, 5, none⟩ = some v := ⟨_, (blk_cell HX2.out 5).trans rfl⟩
          have p6 : ∃ v, wr.cell? ⟨g, 6, none⟩ = some v := ⟨_, (blk_cell HX2.out 6).trans rfl⟩
          obtain ⟨v4, p4⟩ := p4
          obtain ⟨v5, p5⟩ := p5
          obtain ⟨v6, p6⟩ := p6
          have z4 := blk_frozen HX2.out 4
          have z5 := blk_frozen HX2.out 5
          have z6 := blk_frozen HX2.out 6
          go_wp2_with (fail)
          refine bodyPost_end (v := .tuple #[]) (by first | rfl | (simp [results, Try.f73]; done) | (simp [results, Try.f73]; rfl)) rfl ?_
          refine ⟨rfl, ?_, ((HB2.out.setCell (p := ⟨g, 4, none⟩) HG.out _).setCell (p := ⟨g, 5, none⟩) HG.out _).setCell (p := ⟨g, 6, none⟩) HG.out _, ((HK2.out.setCell (p := ⟨g, 4, none⟩) (.inl HO.out) _).setCell (p := ⟨g, 5, none⟩) (.inl HO.out) _).setCell (p := ⟨g, 6, none⟩) (.inl HO.out) _⟩
          have hR := HR2.out
          have hR' : Rws wr w0.heap.size (fun k => O k ∨ w.heap.size ≤ k) lb2 (.slice A0 (bytesOf m0).length c0) z1 (.slice A2 (bytesOf m1).length c2) z3 (.slice none 0 0) (bytesOf m0) (bytesOf m0) (bytesOf m1) (bytesOf m1) [] := ⟨hR.r0, hR.r1, hR.r2, hR.r3, Kd.R_nil _ _ _ _ _⟩
          exact DX.of (lab := lb2) (blk_put (blk_put (blk_put HX2.out 4 (.slice none 0 0) rfl) 5 (.int .i64 (-1)) rfl) 6 (.bool false) rfl) HG.out (.inl HO.out) HL2.out (((hR'.set HL2.out 4 _).set HL2.out 5 _).set HL2.out 6 _) (by rw [HM0.out]; rfl) (by rw [HM0.out]; rfl) (by rw [HM1.out]; rfl) (by rw [HM1.out]; rfl)
end Go.Proofs.Ythaoaaboempajaa.Disk
