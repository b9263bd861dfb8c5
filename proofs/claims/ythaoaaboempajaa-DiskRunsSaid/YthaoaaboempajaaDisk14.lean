/- The document's disk: Crash, walked. Conditions: the disk is a block with a row of its own; its state is in order; what is kept is read. -/
import Derived.Test.YthaoaaboempajaaDisk13
namespace Go.Proofs.Ythaoaaboempajaa.Disk
open Go.RowKit Go.Proofs.YthaoaaboempajaaW.PrintWords Go.Proofs.YthaoaaboempajaaW.PrintLast Go.Proofs.YthaoaaboempajaaW.PrintMore Go.Proofs.YthaoaaboempajaaX Go.Proofs.Ythaoaaboempajaa.QDiskRuns
set_option linter.unusedVariables false
set_option linter.unusedSimpArgs false
set_option maxHeartbeats 8000000 in
set_option maxRecDepth 100000 in
theorem rcrash.calls (g : Nat) (O : Nat → Prop) (s : St) (m : Nat) (Ak : Option Addr) (ck : Nat) (keep : List Int) (w0 w : World) (hB : Below w0.heap.size w0 w) (hD : RD w w0.heap.size g O s) (hok : s.ok m) (hm : m ≤ 1000000000)
    (hk : ∀ W', Kept w W' O → (Kd.int .i64).C W' Ak keep.length keep) (hkl : keep.length ≤ 9223372036854775807) :
    Calls Try.prog 85 #[.pointer (some ⟨g, 0, none⟩), .slice Ak keep.length ck] w fun e w' => e = .returned (.tuple #[]) ∧
      RD w' w0.heap.size g (fun k => O k ∨ w.heap.size ≤ k) (s.crashed keep) ∧ Below w0.heap.size w0 w' ∧ Kept w w' O := by
  obtain ⟨x2, hb, hg, hO, hr⟩ := hD
  have hcs := hok.c
  have hns := hok.n
  have HW := Aside0.mk (show s.ws.length ≤ 1000000000 by omega)
  have HWS := Aside0.mk hok.ws
  have HL0 := Aside0.mk hok.l0
  have HL1 := Aside0.mk hok.l1
  have HB := Aside0.mk hB
  have HG := Aside0.mk hg
  have HO := Aside0.mk hO
  have HR := Aside0.mk (Kd.R_mono (Kd.R_bound hr) (ok' := fun k => (O k ∧ k ≠ g) ∧ k < w.heap.size) (fun k h => ⟨h.1, h.2.2.1⟩))
  have HX := Aside0.mk hb
  have HKP := Aside0.mk hk
  have HKL := Aside0.mk hkl
  clear hB hb hg hO hr hok hm hcs hns hk hkl
  obtain ⟨A4, c4, e4⟩ := Kd.R_slice HR.out
  subst e4
  go_enter Try.func85, Try.ntmps85
  have q4 : w.cell? ⟨g, 2, none⟩ = some (.slice A4 s.ws.length c4) := (blk_cell HX.out 2).trans rfl
  go_wp2_with (fail)
  clear q4
  go_loopw [12] (fun v12 wr => ∃ (j : Nat), j ≤ s.ws.length ∧ v12 = .int .i64 (j : Int) ∧ Aside0 (wr.heap[g]? = some (.cells (rcells (.string (crashB 0 keep 0 (s.ws.take j) s.l0)) (.string (crashB 1 keep 0 (s.ws.take j) s.l1)) (.slice A4 s.ws.length c4) s.f s.d s.c) 150 (0, 0))) ∧ Aside0 (kC.R 181 wr w0.heap.size (fun k => (O k ∧ k ≠ g) ∧ k < w.heap.size) (.slice A4 s.ws.length c4) s.ws) ∧ Aside0 (Below w0.heap.size w0 wr) ∧ Aside0 (Kept w wr O)) (fun v12 _ => s.ws.length - (intOf v12).toNat)
  case atStart => exact ⟨0, Nat.zero_le _, rfl, HX, HR, HB, ⟨Kept.refl _ _⟩⟩
  case round =>
    clear HB HR HX
    obtain ⟨j, hj, rfl, HXr, HRr, HBr, HKr⟩ := hrel
    have hm := HW.out
    by_cases hlt : j < s.ws.length
    · have t_ : decide ((j : Int) < (s.ws.length : Int)) = true := decide_eq_true (by omega)
      obtain ⟨ad, hA, f0, f1, f2, f3⟩ := at_C (Kd.R_reads' HRr.out).2.2 j hlt
      subst hA
      have HC0 := Aside0.mk (crashB_step 0 keep hlt s.l0)
      have HC1 := Aside0.mk (crashB_step 1 keep hlt s.l1)
      have HCH := Aside0.mk (HWS.out (chgAt s.ws j) (by unfold chgAt; rw [List.getD_eq_getElem?_getD, List.getElem?_eq_getElem hlt, Option.getD_some]; exact List.getElem_mem hlt))
      have HS0 := Aside0.mk (size_crashB 0 keep (s.ws.take j) 0 s.l0 HL0.out (fun c hc => (HWS.out c (List.mem_of_mem_take hc)).2))
      have HS1 := Aside0.mk (size_crashB 1 keep (s.ws.take j) 0 s.l1 HL1.out (fun c hc => (HWS.out c (List.mem_of_mem_take hc)).2))
      generalize chgAt s.ws j = ch at f0 f1 f2 f3 HC0 HC1 HCH
      generalize crashB 0 keep 0 (s.ws.take j) s.l0 = m0 at HXr HC0 HS0
      generalize crashB 1 keep 0 (s.ws.take j) s.l1 = m1 at HXr HC1 HS1
      go_upto_region 3 with ((with_reducible refine gate_dst (N := 5) rfl ?_); refine box_event ?hg (N := 5) ?hd (cs := #[.int .i64 0, .int .i64 0, .string ⟨#[]⟩, .bool false]) (t := 181) ?hr ?_; (case hd => rfl); (case hg => rfl); (case hr => first | (go_simp; done) | (go_simp; rfl)); intro gb hgb w7 hbox hb; have HXb := Aside0.mk hbox; have HBb := Aside0.mk hb; have HGb := Aside0.mk hgb; have b0 : w7.cell? ⟨gb, 0, none⟩ = some (.int .i64 0) := (blk_cell hbox 0).trans rfl; have b1 : w7.cell? ⟨gb, 1, none⟩ = some (.int .i64 0) := (blk_cell hbox 1).trans rfl; have b2 : w7.cell? ⟨gb, 2, none⟩ = some (.string ⟨#[]⟩) := (blk_cell hbox 2).trans rfl; have b3 : w7.cell? ⟨gb, 3, none⟩ = some (.bool false) := (blk_cell hbox 3).trans rfl; have y0 := blk_frozen hbox 0; have y1 := blk_frozen hbox 1; have y2 := blk_frozen hbox 2; have y3 := blk_frozen hbox 3; clear hgb hbox hb)
      have hput : (((w7.setCell ⟨gb, 0, none⟩ (.int .i64 ch.file)).setCell ⟨gb, 1, none⟩ (.int .i64 (ch.at_ : Int))).setCell ⟨gb, 2, none⟩ (.string ch.text)).setCell ⟨gb, 3, none⟩ (.bool ch.cut) = put4 w7 gb (.int .i64 ch.file) (.int .i64 (ch.at_ : Int)) (.string ch.text) (.bool ch.cut) := rfl
      rw [hput]
      clear hput
      have HX8 := Aside0.mk (put4_blk (a := .int .i64 ch.file) (b := .int .i64 (ch.at_ : Int)) (c := .string ch.text) (d := .bool ch.cut) HXb.out)
      have HB8 := Aside0.mk (HBb.out.setCell (p := ⟨gb, 0, none⟩) (by rw [HGb.out]; exact Nat.le_refl _) (.int .i64 ch.file) |>.setCell (p := ⟨gb, 1, none⟩) (by rw [HGb.out]; exact Nat.le_refl _) (.int .i64 (ch.at_ : Int)) |>.setCell (p := ⟨gb, 2, none⟩) (by rw [HGb.out]; exact Nat.le_refl _) (.string ch.text) |>.setCell (p := ⟨gb, 3, none⟩) (by rw [HGb.out]; exact Nat.le_refl _) (.bool ch.cut))
      change Aside0 (Below wr.heap.size wr (put4 w7 gb (.int .i64 ch.file) (.int .i64 (ch.at_ : Int)) (.string ch.text) (.bool ch.cut))) at HB8
      clear b0 b1 b2 b3 y0 y1 y2 y3 f0 f1 f2 f3 HXb HBb
      generalize put4 w7 gb (.int .i64 ch.file) (.int .i64 (ch.at_ : Int)) (.string ch.text) (.bool ch.cut) = w8 at HX8 HB8 ⊢
      have q0 : w8.cell? ⟨gb, 0, none⟩ = some (.int .i64 ch.file) := (blk_cell HX8.out 0).trans rfl
      have q1 : w8.cell? ⟨gb, 1, none⟩ = some (.int .i64 (ch.at_ : Int)) := (blk_cell HX8.out 1).trans rfl
      have q2 : w8.cell? ⟨gb, 2, none⟩ = some (.string ch.text) := (blk_cell HX8.out 2).trans rfl
      have q3 : w8.cell? ⟨gb, 3, none⟩ = some (.bool ch.cut) := (blk_cell HX8.out 3).trans rfl
      have HKb := Aside0.mk (HKr.out.below HB8.out)
      have HKC := Aside0.mk (HKP.out _ HKb.out)
      have HHW := Aside0.mk (show ∃ h, h = howOf keep j from ⟨_, rfl⟩)
      clear q0 q1 q2 q3
      go_upto_if 19 with (fail)
      go_cut [6] from 19 to 26 (fun v6 wx => v6 = .int .i64 (howOf keep j) ∧ w8 = wx)
      case first =>
        by_cases hk0 : keep.length = 0
        · have e_ : howOf keep j = 0 := how_none hk0
          have HEE := Aside0.mk e_
          have g_ : decide ((keep.length : Int) > 0) = false := decide_eq_false (by omega)
          have g2_ : ¬ 0 < keep.length := by omega
          have g3_ : decide (0 < keep.length) = false := decide_eq_false g2_
          have g4_ : ¬ (0 : Int) < (keep.length : Int) := by omega
          clear hk0 e_
          go_wp2_with (fail)
          go_meet
          case rel => exact ⟨by rw [HEE.out], rfl⟩
        · have e_ : howOf keep j = keep.getD (j % keep.length) 0 := how_keep (by omega)
          have HEE := Aside0.mk e_
          have g_ : decide ((keep.length : Int) > 0) = true := decide_eq_true (by omega)
          have g2_ : 0 < keep.length := by omega
          have g3_ : decide (0 < keep.length) = true := decide_eq_true g2_
          have hlt2 : j % keep.length < keep.length := Nat.mod_lt _ (by omega)
          obtain ⟨adk, hAk, fk⟩ := at_I HKC.out (j % keep.length) hlt2
          subst hAk
          have m_ : Int.tmod (j : Int) (keep.length : Int) = ((j % keep.length : Nat) : Int) := (Int.ofNat_tmod j keep.length).symm
          have hkl := HKL.out
          have m0_ : ¬ ((keep.length : Int) = 0) := by omega
          have m1_ : ((keep.length : Int) == 0) = false := by simpa using m0_
          have m2_ : IntKind.i64.wrap ((j % keep.length : Nat) : Int) = ((j % keep.length : Nat) : Int) := IntWalk.i64_in _ (by omega)
          generalize j % keep.length = jk at *
          generalize keep.getD jk 0 = kv at fk HEE
          clear hk0 e_
          go_wp2_with (fail)
          go_meet
          case rel => exact ⟨by rw [HEE.out], rfl⟩
      case rest =>
        obtain ⟨rfl, hw⟩ := hcut
        subst hw
        clear HHW HKC
        have HRn := Aside0.mk (Kd.R_below HRr.out HB8.out)
        have HXn := Aside0.mk (blk_below HXr.out HB8.out)
        have HNEg := Aside0.mk (show gb ≠ g by rw [HGb.out]; exact Nat.ne_of_gt (blk_lt HXr.out))
        have HGw := Aside0.mk (show w0.heap.size ≤ gb by rw [HGb.out]; exact HBr.out.size)
        have HGk := Aside0.mk (show w.heap.size ≤ gb by rw [HGb.out]; exact HKr.out.1)
        have HBn := Aside0.mk (below_step HBr.out HB8.out)
        clear HB8 HRr HXr HBr HKr
        generalize howOf keep j = h at HC0 HC1 ⊢
        go_upto_region 6 with (fail)
        go_cut [32] from 27 to 32 (fun v32 wx => v32 = .bool (decide (¬ (h = 1 ∨ h = 2))) ∧ w8 = wx)
        case first =>
          by_cases h1 : h = 1
          · subst h1
            go_wp2_with (fail)
            go_meet
            case rel => exact ⟨by simp, rfl⟩
          · by_cases h2 : h = 2
            · subst h2
              go_wp2_with (fail)
              go_meet
              case rel => exact ⟨by simp, rfl⟩
            · have e1 : (h == 1) = false := beq_false h1
              have e2 : (h == 2) = false := beq_false h2
              have e3 : (h != 1) = true := by simp [bne, e1]
              have e4 : (h != 2) = true := by simp [bne, e2]
              have HN := Aside0.mk (show ¬ (h = 1 ∨ h = 2) from fun hh => hh.elim h1 h2)
              clear h1 h2
              go_wp2_with (fail)
              go_meet
              case rel => exact ⟨by rw [decide_eq_true HN.out], rfl⟩
        case rest =>
        obtain ⟨rfl, hw⟩ := hcut
        subst hw
        go_upto_if 32 with (fail)
        by_cases hy : h = 1 ∨ h = 2
        · rw [decide_eq_false (not_not_intro hy)]
          have HY := Aside0.mk hy
          clear hy
          have q3 : w8.cell? ⟨gb, 3, none⟩ = some (.bool ch.cut) := (blk_cell HX8.out 3).trans rfl
          go_upto_region 7 with (fail)
          go_cut [39] from 33 to 39 (fun v39 wx => v39 = .bool (decide (h = 2 ∧ ch.cut = false)) ∧ w8 = wx)
          case first =>
            by_cases h2 : h = 2
            · subst h2
              by_cases hcc : ch.cut = false
              · rw [hcc] at q3
                have HCC := Aside0.mk hcc
                clear hcc
                go_wp2_with (fail)
                go_meet
                case rel => exact ⟨by have hq := HCC.out; simp [hq], rfl⟩
              · have hcc' : ch.cut = true := by simpa using hcc
                rw [hcc'] at q3
                have HCC := Aside0.mk hcc
                clear hcc'
                clear hcc
                go_wp2_with (fail)
                go_meet
                case rel => exact ⟨by rw [decide_eq_false (fun hh => HCC.out hh.2)], rfl⟩
            · have e2 : (h == 2) = false := beq_false h2
              have HN2 := Aside0.mk h2
              clear h2
              go_wp2_with (fail)
              go_meet
              case rel => exact ⟨by rw [decide_eq_false (fun hh => HN2.out hh.1)], rfl⟩
          case rest =>
          obtain ⟨rfl, hw⟩ := hcut
          subst hw
          clear q3
          go_upto_if 39 with (fail)
          go_cut [] from 39 to 47 (fun wx => Aside0 (wx.heap[gb]? = some (.cells (chgCells (keptAs h ch)) 181 (0, 0))) ∧ Aside0 (Kept w8 wx (fun k => k = gb)) ∧ Aside0 (Below w0.heap.size w0 wx) ∧ Aside0 (Kept w wx O))
          case first =>
            have q2 : w8.cell? ⟨gb, 2, none⟩ = some (.string ch.text) := (blk_cell HX8.out 2).trans rfl
            have z2 := blk_frozen HX8.out 2
            by_cases h2 : h = 2 ∧ ch.cut = false
            · have HH2 := Aside0.mk h2
              have g_ : decide (h = 2 ∧ ch.cut = false) = true := decide_eq_true h2
              rw [g_]
              clear g_ h2
              have s_ : ch.text.size ≤ 67108864 := by have := HCH.out.2; unfold maxFile at this; omega
              have d_ : Int.tdiv (ch.text.size : Int) 2 = ((ch.text.size / 2 : Nat) : Int) := rfl
              have w_ : IntKind.i64.wrap ((ch.text.size / 2 : Nat) : Int) = ((ch.text.size / 2 : Nat) : Int) := IntWalk.i64_in _ (by omega)
              have l_ : ch.text.size / 2 ≤ ch.text.size := by omega
              go_wp2_with (fail)
              go_meet
              case rel => exact ⟨⟨by
                have hp := blk_put HX8.out 2 (.string (ch.text.extract 0 (ch.text.size / 2))) rfl
                have hk2 : keptAs h ch = { ch with text := ch.text.extract 0 (ch.text.size / 2) } := by
                  unfold keptAs halved
                  rw [if_pos HH2.out.1, if_neg (by rw [HH2.out.2]; decide)]
                rw [hk2]
                exact hp⟩, ⟨set_kept⟩, ⟨HBn.out.setCell (p := ⟨gb, 2, none⟩) HGw.out _⟩, ⟨HKb.out.setCell (p := ⟨gb, 2, none⟩) (.inr HGk.out) _⟩⟩
            · have HH2 := Aside0.mk h2
              have g_ : decide (h = 2 ∧ ch.cut = false) = false := decide_eq_false h2
              rw [g_]
              clear g_ h2
              go_wp2_with (fail)
              go_meet
              case rel => exact ⟨⟨by
                have hk2 : keptAs h ch = ch := by
                  unfold keptAs halved
                  split
                  · rename_i h3
                    rw [if_pos]
                    cases hc : ch.cut
                    · exact absurd ⟨h3, hc⟩ HH2.out
                    · rfl
                  · rfl
                rw [hk2]
                exact HX8.out⟩, ⟨Kept.refl _ _⟩, HBn, HKb⟩
          case rest =>
          obtain ⟨HXb, HK9, HB9, HKw9⟩ := hcut
          have HR9 := Aside0.mk (Kd.R_kept HRn.out HK9.out (fun k h1 he => by have h2 := h1.2; rw [he] at h2; exact absurd HGk.out (Nat.not_le.mpr h2)))
          have HX9 := Aside0.mk (blk_kept HXn.out HK9.out (fun he => HNEg.out he.symm))
          have HS9 := Aside0.mk (show w.heap.size ≤ wc.heap.size from HKw9.out.1)
          clear HX8 HK9 HRn HXn HBn HKb
          have HLE := Aside0.mk (keptAs_le h ch)
          obtain ⟨c2_, hc2⟩ : ∃ c2_, c2_ = keptAs h ch := ⟨_, rfl⟩
          rw [← hc2] at HXb HLE
          have HC2 := Aside0.mk hc2
          clear hc2
          obtain ⟨f2, a2, t2, u2⟩ := c2_
          have HAT := Aside0.mk (show a2 + t2.size ≤ 67108864 by have h1 := HLE.out; have h2 := HCH.out.2; unfold maxFile at h2; dsimp only at h1; omega)
          have HFF := Aside0.mk (show f2 = ch.file from HLE.out.2.2)
          have HSm0 := Aside0.mk (show m0.size ≤ 67108864 from HS0.out)
          have HSm1 := Aside0.mk (show m1.size ≤ 67108864 from HS1.out)
          clear HLE
          rcases HCH.out.1 with hf | hf
          · have HCF := Aside0.mk hf
            obtain rfl : f2 = 0 := HFF.out.trans hf
            clear hf
            have q0 : wc.cell? ⟨gb, 0, none⟩ = some (.int .i64 0) := (blk_cell HXb.out 0).trans rfl
            have q1 : wc.cell? ⟨gb, 1, none⟩ = some (.int .i64 (a2 : Int)) := (blk_cell HXb.out 1).trans rfl
            have q2 : wc.cell? ⟨gb, 2, none⟩ = some (.string t2) := (blk_cell HXb.out 2).trans rfl
            have q3 : wc.cell? ⟨gb, 3, none⟩ = some (.bool u2) := (blk_cell HXb.out 3).trans rfl
            have q4 : wc.cell? ⟨g, 0, none⟩ = some (.string m0) := (blk_cell HX9.out 0).trans rfl
            have HON := Aside0.mk (act_on_is ⟨0, a2, t2, u2⟩ m0 HSm0.out HAT.out)
            go_upto_region 9 with (fail)
            go_region_law (first
              | (refine goes_ Try.func154 (by kernel_rfl) rfl #[chgV ⟨0, a2, t2, u2⟩, .string m0] (by rfl) rfl rfl (by (try simp only [List.map_toArray, List.map_cons, List.map_nil]); first | done | rfl) ?_; refine (relstoreref_act_on.calls 0 (a2 : Int) t2 u2 m0 (onB ⟨0, a2, t2, u2⟩ m0) _ HON.out).mono ?_; rintro e w6 ⟨rfl, hb⟩; refine ⟨_, rfl, ?_⟩; have HB6 := Aside0.mk (below_step (below_drew (Below.refl _ wc)) hb); have HXA := Aside0.mk (blk_below (blk_drew HX9.out) hb); have z6 := blk_frozen HXA.out 0; have c6_ : w6.cell? ⟨g, 0, none⟩ = some (.string m0) := (blk_cell HXA.out 0).trans rfl; have p6_ : w6.cell? ⟨gb, 0, none⟩ = some (.int .i64 0) := (blk_cell (blk_below (blk_drew HXb.out) hb) 0).trans rfl; clear hb))
            all_goals
              clear q0 q1 q2 q3 q4
              go_wp2_with (fail)
              have HXF := Aside0.mk (blk_put HXA.out 0 (.string (onB ⟨0, a2, t2, u2⟩ m0)) rfl)
              have HRF := Aside0.mk (Kd.R_far (Kd.R_below HR9.out HB6.out) (p := ⟨g, 0, none⟩) (fun k hk => hk.1.2) (.string (onB ⟨0, a2, t2, u2⟩ m0)))
              have HBF := Aside0.mk ((below_step HB9.out HB6.out).setCell (p := ⟨g, 0, none⟩) HG.out (.string (onB ⟨0, a2, t2, u2⟩ m0)))
              have HKF := Aside0.mk ((HKw9.out.below HB6.out).setCell (p := ⟨g, 0, none⟩) (.inl HO.out) (.string (onB ⟨0, a2, t2, u2⟩ m0)))
              go_roundw
              case rel =>
                refine ⟨j + 1, by omega, by go_num, ⟨?_⟩, HRF, HBF, HKF⟩
                rw [HC0.out, HC1.out, kept1_eq HCF.out HY.out, kept1_ne (f := 1) (by rw [HCF.out]; decide), ← HC2.out]
                exact HXF.out
              case measure => simp [intOf]; omega
          · have HCF := Aside0.mk hf
            obtain rfl : f2 = 1 := HFF.out.trans hf
            clear hf
            have q0 : wc.cell? ⟨gb, 0, none⟩ = some (.int .i64 1) := (blk_cell HXb.out 0).trans rfl
            have q1 : wc.cell? ⟨gb, 1, none⟩ = some (.int .i64 (a2 : Int)) := (blk_cell HXb.out 1).trans rfl
            have q2 : wc.cell? ⟨gb, 2, none⟩ = some (.string t2) := (blk_cell HXb.out 2).trans rfl
            have q3 : wc.cell? ⟨gb, 3, none⟩ = some (.bool u2) := (blk_cell HXb.out 3).trans rfl
            have q4 : wc.cell? ⟨g, 1, none⟩ = some (.string m1) := (blk_cell HX9.out 1).trans rfl
            have HON := Aside0.mk (act_on_is ⟨1, a2, t2, u2⟩ m1 HSm1.out HAT.out)
            go_upto_region 9 with (fail)
            go_region_law (first
              | (refine goes_ Try.func154 (by kernel_rfl) rfl #[chgV ⟨1, a2, t2, u2⟩, .string m1] (by rfl) rfl rfl (by (try simp only [List.map_toArray, List.map_cons, List.map_nil]); first | done | rfl) ?_; refine (relstoreref_act_on.calls 1 (a2 : Int) t2 u2 m1 (onB ⟨1, a2, t2, u2⟩ m1) _ HON.out).mono ?_; rintro e w6 ⟨rfl, hb⟩; refine ⟨_, rfl, ?_⟩; have HB6 := Aside0.mk (below_step (below_drew (Below.refl _ wc)) hb); have HXA := Aside0.mk (blk_below (blk_drew HX9.out) hb); have z6 := blk_frozen HXA.out 1; have c6_ : w6.cell? ⟨g, 1, none⟩ = some (.string m1) := (blk_cell HXA.out 1).trans rfl; have p6_ : w6.cell? ⟨gb, 0, none⟩ = some (.int .i64 1) := (blk_cell (blk_below (blk_drew HXb.out) hb) 0).trans rfl; clear hb))
            all_goals
              clear q0 q1 q2 q3 q4
              go_wp2_with (fail)
              have HXF := Aside0.mk (blk_put HXA.out 1 (.string (onB ⟨1, a2, t2, u2⟩ m1)) rfl)
              have HRF := Aside0.mk (Kd.R_far (Kd.R_below HR9.out HB6.out) (p := ⟨g, 1, none⟩) (fun k hk => hk.1.2) (.string (onB ⟨1, a2, t2, u2⟩ m1)))
              have HBF := Aside0.mk ((below_step HB9.out HB6.out).setCell (p := ⟨g, 1, none⟩) HG.out (.string (onB ⟨1, a2, t2, u2⟩ m1)))
              have HKF := Aside0.mk ((HKw9.out.below HB6.out).setCell (p := ⟨g, 1, none⟩) (.inl HO.out) (.string (onB ⟨1, a2, t2, u2⟩ m1)))
              go_roundw
              case rel =>
                refine ⟨j + 1, by omega, by go_num, ⟨?_⟩, HRF, HBF, HKF⟩
                rw [HC0.out, HC1.out, kept1_ne (f := 0) (by rw [HCF.out]; decide), kept1_eq HCF.out HY.out, ← HC2.out]
                exact HXF.out
              case measure => simp [intOf]; omega
        · rw [decide_eq_true hy]
          have HY := Aside0.mk hy
          clear hy
          go_wp2_with (fail)
          go_roundw
          case rel => exact ⟨j + 1, by omega, by go_num, ⟨by rw [HC0.out, HC1.out, kept1_no HY.out, kept1_no HY.out]; exact HXn.out⟩, HRn, HBn, HKb⟩
          case measure => simp [intOf]; omega
    · obtain rfl : j = s.ws.length := by omega
      rw [List.take_length] at HXr
      clear hlt hj
      generalize hm0 : crashB 0 keep 0 s.ws s.l0 = m0 at HXr
      generalize hm1 : crashB 1 keep 0 s.ws s.l1 = m1 at HXr
      have HM0 := Aside0.mk hm0
      have HM1 := Aside0.mk hm1
      clear hm0 hm1
      have p2 : wr.cell? ⟨g, 2, none⟩ = some (.slice A4 s.ws.length c4) := (blk_cell HXr.out 2).trans rfl
      have p3 : wr.cell? ⟨g, 3, none⟩ = some (.int .i64 s.f) := (blk_cell HXr.out 3).trans rfl
      have p4 : wr.cell? ⟨g, 4, none⟩ = some (.bool s.d) := (blk_cell HXr.out 4).trans rfl
      have z2 := blk_frozen HXr.out 2
      have z3 := blk_frozen HXr.out 3
      have z4 := blk_frozen HXr.out 4
      go_wp2_with (fail)
      refine bodyPost_end (v := .tuple #[]) (by first | rfl | (simp [results, Try.f85]; done) | (simp [results, Try.f85]; rfl)) rfl ?_
      refine ⟨rfl, ?_, ((HBr.out.setCell (p := ⟨g, 2, none⟩) HG.out _).setCell (p := ⟨g, 3, none⟩) HG.out _).setCell (p := ⟨g, 4, none⟩) HG.out _, ((HKr.out.setCell (p := ⟨g, 2, none⟩) (.inl HO.out) _).setCell (p := ⟨g, 3, none⟩) (.inl HO.out) _).setCell (p := ⟨g, 4, none⟩) (.inl HO.out) _⟩
      refine ⟨.slice none 0 0, ?_, HG.out, .inl HO.out, Kd.R_nil _ _ _ _ _⟩
      have hp := blk_put (blk_put (blk_put HXr.out 2 (.slice none 0 0) rfl) 3 (.int .i64 (-1)) rfl) 4 (.bool false) rfl
      show _ = some (Obj.cells (rcells (.string (crashB 0 keep 0 s.ws s.l0)) (.string (crashB 1 keep 0 s.ws s.l1)) (.slice none 0 0) (-1) false s.c) 150 (0, 0))
      rw [HM0.out, HM1.out]
      exact hp
end Go.Proofs.Ythaoaaboempajaa.Disk
