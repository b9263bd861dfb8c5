/- The disk's Sync, walked. Conditions: the disk is a block with rows of its own; its state is in order. -/
import Derived.Test.YthaoaaboempajaaDisk9
namespace Go.Proofs.Ythaoaaboempajaa.Disk
open Go.RowKit Go.Proofs.YthaoaaboempajaaW.PrintWords Go.Proofs.YthaoaaboempajaaW.PrintLast Go.Proofs.YthaoaaboempajaaW.PrintMore Go.Proofs.YthaoaaboempajaaX Go.Proofs.Ythaoaaboempajaa.QDiskRuns
set_option linter.unusedVariables false
set_option linter.unusedSimpArgs false
def chgAt (ws : List Chg) (i : Nat) : Chg := ws.getD i noChg
theorem at_C {w : World} {A : Option Addr} {n : Nat} {ws : List Chg} (h : kC.C w A n ws) (i : Nat) (h1 : i < n) : ∃ ad, A = some ad ∧ w.cell? (ad.add (i * 4)) = some (.int .i64 (chgAt ws i).file) ∧
    w.cell? ⟨(ad.add (i * 4)).block, (ad.add (i * 4)).off + 1, none⟩ = some (.int .i64 ((chgAt ws i).at_ : Int)) ∧ w.cell? ⟨(ad.add (i * 4)).block, (ad.add (i * 4)).off + 2, none⟩ = some (.string (chgAt ws i).text) ∧ w.cell? ⟨(ad.add (i * 4)).block, (ad.add (i * 4)).off + 3, none⟩ = some (.bool (chgAt ws i).cut) := by
  obtain ⟨ad, c, e, _, hK, hc0⟩ := Kd.C_get h noChg (i : Int) (by omega) (by omega)
  rw [Int.toNat_natCast] at hK hc0
  have hc : ∀ j u, c[j]? = some u → w.cell? (ad.add (i * 4 + j)) = some u := hc0
  obtain rfl := kC_open hK
  exact ⟨ad, e, hc 0 _ rfl, by rw [← add_field _ _ 1 (by omega)]; exact hc 1 _ rfl, by rw [← add_field _ _ 2 (by omega)]; exact hc 2 _ rfl, by rw [← add_field _ _ 3 (by omega)]; exact hc 3 _ rfl⟩
theorem take_succ_chg {ws : List Chg} {j : Nat} (h : j < ws.length) : ws.take (j + 1) = ws.take j ++ [chgAt ws j] := by
  rw [List.take_succ_eq_append_getElem h]
  congr 2
  unfold chgAt
  rw [List.getD_eq_getElem?_getD, List.getElem?_eq_getElem h, Option.getD_some]
theorem others_snoc (f : Int) (l : List Chg) (c : Chg) : others f (l ++ [c]) = if (c.file != f) = true then others f l ++ [c] else others f l := by
  unfold others
  rw [List.filter_append, List.filter_cons, List.filter_nil]
  split <;> simp
def put4 (W : World) (g : Nat) (a b c d : Value) : World := (((W.setCell ⟨g, 0, none⟩ a).setCell ⟨g, 1, none⟩ b).setCell ⟨g, 2, none⟩ c).setCell ⟨g, 3, none⟩ d
theorem put4_blk {W : World} {g t : Nat} {x y z u a b c d : Value} (h : W.heap[g]? = some (.cells #[x, y, z, u] t (0, 0))) : (put4 W g a b c d).heap[g]? = some (.cells #[a, b, c, d] t (0, 0)) :=
  blk_put (blk_put (blk_put (blk_put h 0 a rfl) 1 b rfl) 2 c rfl) 3 d rfl
theorem put4_below {B g : Nat} {w W : World} {a b c d : Value} (h : Below B w W) (hg : B ≤ g) : Below B w (put4 W g a b c d) :=
  (((h.setCell (p := ⟨g, 0, none⟩) hg a).setCell (p := ⟨g, 1, none⟩) hg b).setCell (p := ⟨g, 2, none⟩) hg c).setCell (p := ⟨g, 3, none⟩) hg d
theorem put4_only {W : World} {g : Nat} {a b c d : Value} : Kept W (put4 W g a b c d) (fun k => k = g) :=
  Kept.then_ (Kept.then_ (Kept.then_ set_kept set_kept (fun _ h => .inl h)) set_kept (fun _ h => .inl h)) set_kept (fun _ h => .inl h)
set_option maxHeartbeats 8000000 in
set_option maxRecDepth 100000 in
theorem sync.calls0 (g : Nat) (O : Nat → Prop) (s : St) (m : Nat) (w0 w : World) (hB : Below w0.heap.size w0 w) (hD : DD w w0.heap.size g O s) (hok : s.ok m) (hm : m ≤ 1000000000) :
    Calls Try.prog 131 #[.pointer (some ⟨g, 0, none⟩), .int .i64 0] w fun e w' => e = .returned (.int .i64 (turn s.f s.d s.c).1) ∧
      DD w' w0.heap.size g (fun k => O k ∨ w.heap.size ≤ k) (s.synced 0) ∧ Below w0.heap.size w0 w' ∧ Kept w w' O := by
  obtain ⟨lab, x0, x1, x2, x3, x4, hb, hg, hO, hlb, hr⟩ := hD
  have hcs := hok.c
  have hns := hok.n
  have hfs := hok.f
  have h3 := hok.s0
  have HF := Aside0.mk (show -9223372036854775808 ≤ s.f ∧ s.f < 9223372036854775808 by omega)
  have HC := Aside0.mk (show 0 ≤ s.c ∧ s.c < 9223372036854775807 by omega)
  have HL := Aside0.mk (show s.s0.size ≤ 140737488355000 by unfold maxFile at h3; omega)
  have HW := Aside0.mk (show s.ws.length ≤ 1000000000 by omega)
  have HB := Aside0.mk hB
  have HG := Aside0.mk hg
  have HO := Aside0.mk hO
  have HLB := Aside0.mk hlb
  have HR := Aside0.mk hr
  have HX := Aside0.mk hb
  clear hB hb hg hO hlb hr hok hm hcs hns hfs h3
  obtain ⟨A4, c4, e4⟩ := Kd.R_slice HR.out.r4
  subst e4
  obtain ⟨A1, c1, e1⟩ := Kd.R_slice HR.out.r1
  subst e1
  go_enter Try.func131, Try.ntmps131
  go_upto_region 3 with (go_at_call 164; (refine (disk_right.calls 0 0 0 true _ (by rw [right_is, show rightB 0 0 0 = true by decide])).mono ?_); rintro e1 w1 ⟨rfl, hd1⟩; have HW1 := Aside0.mk hd1; clear hd1)
  have HX0 := Aside0.mk (blk_below HX.out HW1.out.below)
  have HR0 := Aside0.mk (HR.out.below HW1.out.below)
  have HB1 := Aside0.mk (below_step HB.out HW1.out.below)
  have HK1 := Aside0.mk (Kept.of_below HW1.out.below O)
  clear HX HR HB HW1
  go_upto_region 4 with (go_at_call 168; (refine (turn.calls g _ _ _ _ _ s.f s.d s.c w0 _ HB1.out HG.out HX0.out HF.out HC.out).mono ?_); rintro e2 w2 ⟨rfl, hx2, hb2, hk2, hs2⟩; have HX2 := Aside0.mk hx2; have HB2 := Aside0.mk hb2; have HK2 := Aside0.mk hk2; have HS2 := Aside0.mk hs2; clear hx2 hb2 hk2 hs2)
  have HR2 := Aside0.mk (HR0.out.only HK2.out HLB.out)
  have HSZ := Aside0.mk (show w.heap.size ≤ w2.heap.size by rw [HS2.out]; exact HK1.out.1)
  have HKw := Aside0.mk (Kept.then_ HK1.out HK2.out (fun k hk => .inl (by rw [hk]; exact HO.out)))
  clear HX0 HR0 HB1 HK1 HK2 HS2
  rcases turn_cases s.f s.d s.c with ⟨e0, -⟩ | ⟨e0, -⟩
  · have HE := Aside0.mk e0
    rw [e0]
    clear e0
    go_upto_region 6 with (fail)
    have q1 : w2.cell? ⟨g, 1, none⟩ = some (.slice A1 (bytesOf s.s0).length c1) := (blk_cell HX2.out 1).trans rfl
    have HL' : (bytesOf s.s0).length ≤ 140737488355000 := by rw [bytesOf_length]; exact HL.out
    have HRC := Aside0.mk (Kd.C_below (Kd.R_reads' HR2.out.r1).2.2 (below_drew (Below.refl _ w2)))
    go_region_law (refine Kd.R_append_rows_step (Kd.int .u8) (Rr := (Kd.int .u8).K w2.drew) (W := w2.drew) (w0 := w0) w0.heap.size rfl _ _ 55 5 (.int .u8 0) 1 rfl Try.underlying55 info5 rfl (by decide) (by omega) (.slice none 0 0) [] (bytesOf s.s0) A1 (bytesOf s.s0).length c1 (fun k => w2.heap.size ≤ k) (fun _ => False) rfl rfl (Kd.R_nil _ _ _ _ _) HRC.out (fun _ _ h => h) (fun _ hk => hk.elim) (fun k hk => hk) (below_drew1 HB2.out) (below_size (below_drew1 HB2.out)) (by simp; omega) ?_; intro v1 w3 ho hb hgr hat; obtain ⟨A5, c5, e5⟩ := Kd.R_slice ho; rw [List.nil_append] at e5 ho; subst e5; have HO3 := Aside0.mk ho; have HB3 := Aside0.mk hb; have HK3 := Aside0.mk (show Kept w2 w3 (fun k => O k ∧ lab k = 0) from Kept.of_grown hgr (Kept.drew (Kept.refl w2 _)) (fun k hk => by cases hk)); have HX3 := Aside0.mk (blk_grown (blk_drew HX2.out) hgr (by intro h; cases h)); have z3 := blk_frozen HX3.out 0; have c3_ : ∃ v, w3.cell? ⟨g, 0, none⟩ = some v := ⟨_, (blk_cell HX3.out 0).trans rfl⟩; obtain ⟨v3_, c3_⟩ := c3_; clear ho hb hgr hat)
    clear q1 HL' HRC z3 c3_
    have HLB3 := Aside0.mk (show relab w2.heap.size lab 0 g = 5 by unfold relab; rw [if_pos (blk_lt HX2.out)]; exact HLB.out)
    have HR4 := Aside0.mk ((HR2.out.up0 HK3.out (Kd.R_mono HO3.out (fun k hk => .inr hk))).set HLB3.out 0 (.slice A5 (bytesOf s.s0).length c5))
    have HX4 := Aside0.mk (show (w3.setCell ⟨g, 0, none⟩ (.slice A5 (bytesOf s.s0).length c5)).heap[g]? = some (.cells (dcells (.slice A5 (bytesOf s.s0).length c5) (.slice A1 (bytesOf s.s0).length c1) x2 x3 (.slice A4 s.ws.length c4) (turn s.f s.d s.c).2.1 (turn s.f s.d s.c).2.2.1 (turn s.f s.d s.c).2.2.2) 146 (0, 0)) from blk_put HX3.out 0 _ rfl)
    have HB4 := Aside0.mk (HB3.out.setCell (p := ⟨g, 0, none⟩) HG.out (.slice A5 (bytesOf s.s0).length c5))
    have HK4 := Aside0.mk ((HKw.out.then_ HK3.out (fun k hk => .inl hk.1)).setCell (p := ⟨g, 0, none⟩) (.inl HO.out) (.slice A5 (bytesOf s.s0).length c5))
    have HS4 := Aside0.mk (show w2.heap.size ≤ (w3.setCell ⟨g, 0, none⟩ (.slice A5 (bytesOf s.s0).length c5)).heap.size by simp; exact HK3.out.1)
    clear HX2 HR2 HB2 HK3 HX3 HO3 HB3
    generalize w3.setCell ⟨g, 0, none⟩ (.slice A5 (bytesOf s.s0).length c5) = w4 at HR4 HX4 HB4 HK4 HS4 ⊢
    have q4 : w4.cell? ⟨g, 4, none⟩ = some (.slice A4 s.ws.length c4) := (blk_cell HX4.out 4).trans rfl
    have HCW := Aside0.mk (Kd.R_reads' HR4.out.r4).2.2
    go_wp2_with (fail)
    clear q4
    go_loopw [6, 36] (fun v6 v36 wr => ∃ (j : Nat), j ≤ s.ws.length ∧ v36 = .int .i64 (j : Int) ∧ Aside0 (kC.R 172 wr w4.heap.size (fun _ => True) v6 (others 0 (s.ws.take j))) ∧ Aside0 (Below w4.heap.size w4 wr)) (fun _ v36 _ => s.ws.length - (intOf v36).toNat)
    case atStart => exact ⟨0, Nat.zero_le _, rfl, ⟨Kd.R_nil _ _ _ _ _⟩, ⟨Below.refl _ _⟩⟩
    case round =>
      obtain ⟨j, hj, rfl, HOr, HBr⟩ := hrel
      obtain ⟨A6, c6, e6⟩ := Kd.R_slice HOr.out
      subst e6
      have hm := HW.out
      by_cases hlt : j < s.ws.length
      · have t_ : decide ((j : Int) < (s.ws.length : Int)) = true := decide_eq_true (by omega)
        obtain ⟨ad, hA, f0, f1, f2, f3⟩ := at_C HCW.out j hlt
        subst hA
        replace f0 := (HBr.out.cell (World.block_lt_of_cell? w4 _ f0)).trans f0
        replace f1 := (HBr.out.cell (World.block_lt_of_cell? w4 _ f1)).trans f1
        replace f2 := (HBr.out.cell (World.block_lt_of_cell? w4 _ f2)).trans f2
        replace f3 := (HBr.out.cell (World.block_lt_of_cell? w4 _ f3)).trans f3
        have HT := Aside0.mk (take_succ_chg hlt)
        have HLN := Aside0.mk (show (others 0 (s.ws.take j)).length ≤ 1000000000 by have := List.length_filter_le (fun c : Chg => c.file != 0) (s.ws.take j); rw [List.length_take] at this; unfold others; omega)
        have HTN := Aside0.mk (show others 0 (s.ws.take (j + 1)) = if ((chgAt s.ws j).file != 0) = true then others 0 (s.ws.take j) ++ [chgAt s.ws j] else others 0 (s.ws.take j) by rw [take_succ_chg hlt]; exact others_snoc _ _ _)
        clear HT
        generalize chgAt s.ws j = ch at f0 f1 f2 f3 HTN
        generalize others 0 (s.ws.take j) = ls at HOr HLN HTN
        go_upto_region 11 with ((with_reducible refine gate_dst (N := 8) rfl ?_); refine box_event ?hg (N := 8) ?hd (cs := #[.int .i64 0, .int .i64 0, .string ⟨#[]⟩, .bool false]) (t := 172) ?hr ?_; (case hd => rfl); (case hg => rfl); (case hr => first | (go_simp; done) | (go_simp; rfl)); intro gb hgb w7 hbox hb; have HXb := Aside0.mk hbox; have HBb := Aside0.mk hb; have HGb := Aside0.mk hgb; have b0 : w7.cell? ⟨gb, 0, none⟩ = some (.int .i64 0) := (blk_cell hbox 0).trans rfl; have b1 : w7.cell? ⟨gb, 1, none⟩ = some (.int .i64 0) := (blk_cell hbox 1).trans rfl; have b2 : w7.cell? ⟨gb, 2, none⟩ = some (.string ⟨#[]⟩) := (blk_cell hbox 2).trans rfl; have b3 : w7.cell? ⟨gb, 3, none⟩ = some (.bool false) := (blk_cell hbox 3).trans rfl; have y0 := blk_frozen hbox 0; have y1 := blk_frozen hbox 1; have y2 := blk_frozen hbox 2; have y3 := blk_frozen hbox 3; clear hgb hbox hb)
        have hput : (((w7.setCell ⟨gb, 0, none⟩ (.int .i64 ch.file)).setCell ⟨gb, 1, none⟩ (.int .i64 (ch.at_ : Int))).setCell ⟨gb, 2, none⟩ (.string ch.text)).setCell ⟨gb, 3, none⟩ (.bool ch.cut) = put4 w7 gb (.int .i64 ch.file) (.int .i64 (ch.at_ : Int)) (.string ch.text) (.bool ch.cut) := rfl
        rw [hput]
        clear hput
        have HX8 := Aside0.mk (put4_blk (a := .int .i64 ch.file) (b := .int .i64 (ch.at_ : Int)) (c := .string ch.text) (d := .bool ch.cut) HXb.out)
        have HB8 := Aside0.mk (HBb.out.setCell (p := ⟨gb, 0, none⟩) (by rw [HGb.out]; exact Nat.le_refl _) (.int .i64 ch.file) |>.setCell (p := ⟨gb, 1, none⟩) (by rw [HGb.out]; exact Nat.le_refl _) (.int .i64 (ch.at_ : Int)) |>.setCell (p := ⟨gb, 2, none⟩) (by rw [HGb.out]; exact Nat.le_refl _) (.string ch.text) |>.setCell (p := ⟨gb, 3, none⟩) (by rw [HGb.out]; exact Nat.le_refl _) (.bool ch.cut))
        change Aside0 (Below wr.heap.size wr (put4 w7 gb (.int .i64 ch.file) (.int .i64 (ch.at_ : Int)) (.string ch.text) (.bool ch.cut))) at HB8
        clear b0 b1 b2 b3 y0 y1 y2 y3 f0 f1 f2 f3 HXb HBb
        generalize put4 w7 gb (.int .i64 ch.file) (.int .i64 (ch.at_ : Int)) (.string ch.text) (.bool ch.cut) = w8 at HX8 HB8 ⊢
        have q0 : w8.cell? ⟨gb, 0, none⟩ = some (.int .i64 ch.file) := (blk_cell HX8.out 0).trans rfl
        have q1 : w8.cell? ⟨gb, 1, none⟩ = some (.int .i64 (ch.at_ : Int)) := (blk_cell HX8.out 1).trans rfl
        have q2 : w8.cell? ⟨gb, 2, none⟩ = some (.string ch.text) := (blk_cell HX8.out 2).trans rfl
        have q3 : w8.cell? ⟨gb, 3, none⟩ = some (.bool ch.cut) := (blk_cell HX8.out 3).trans rfl
        by_cases hne : (ch.file != 0) = true
        · have HNE := Aside0.mk hne
          have hls := HLN.out
          go_wp2_with (first
            | ((with_reducible refine gate_builtin (b := .append) (xs := #[.tmp 44, .tmp 46]) rfl ?_); at_builtin; refine Kd.R_append kC (w0 := w4) w4.heap.size rfl (.tmp 44) (.tmp 46) 144 172 (.agg #[.int .i64 0, .int .i64 0, .string ⟨#[]⟩, .bool false]) 40 rfl Try.underlying144 info172 rfl (by decide) (by omega) (.slice A6 ls.length c6) ls ch _ (fun _ => True) (fun _ => False) rfl rfl ?aP (fun _ hk => hk.elim) ?aF ?aO ?aB ?aS ?aL ?_; (case aP => exact kC_M ch); (case aB => exact below_step HBr.out HB8.out); (case aF => exact (fun _ _ => trivial)); (case aO => exact Kd.R_below HOr.out HB8.out); (case aS => exact below_size (below_step HBr.out HB8.out)); (case aL => omega); intro v1 w9 ho hb hg hat; have HO9 := Aside0.mk ho; have HB9 := Aside0.mk hb; clear ho hb hg hat))
          go_roundw
          case rel => exact ⟨j + 1, by omega, by go_num, ⟨by rw [HTN.out, if_pos HNE.out]; exact HO9.out⟩, HB9⟩
          case measure => simp [intOf]; omega
        · have hne' : (ch.file != 0) = false := by simpa using hne
          have HNE := Aside0.mk hne
          clear hne
          go_wp2_with (fail)
          go_roundw
          case rel => exact ⟨j + 1, by omega, by go_num, ⟨by rw [HTN.out, if_neg HNE.out]; exact Kd.R_below HOr.out HB8.out⟩, ⟨below_step HBr.out HB8.out⟩⟩
          case measure => simp [intOf]; omega
      · obtain rfl : j = s.ws.length := by omega
        rw [List.take_length] at HOr ⊢
        clear hlt hj
        have q4 : wr.cell? ⟨g, 4, none⟩ = some (.slice A4 s.ws.length c4) := (blk_cell (blk_below HX4.out HBr.out) 4).trans rfl
        have z4 := blk_frozen (blk_below HX4.out HBr.out) 4
        go_wp2_with (fail)
        go_ret
        have HLX := Aside0.mk (show relab w4.heap.size (relab w2.heap.size lab 0) 4 g = 5 by unfold relab; rw [if_pos (blk_lt HX4.out)]; exact HLB3.out)
        have HN4 := Aside0.mk (Kd.R_lower (Kd.R_mono (Kd.R_bound HOr.out) (ok' := fun k => ((O k ∨ w2.heap.size ≤ k) ∧ relab w2.heap.size lab 0 k = 4) ∨ w4.heap.size ≤ k) (fun k hk => .inr hk.2.1)) (below_size HB4.out))
        refine ⟨by rw [HE.out]; rfl, ?_, (below_then HB4.out (below_size HB4.out) HBr.out).setCell (p := ⟨g, 4, none⟩) HG.out _, (HK4.out.below HBr.out).setCell (p := ⟨g, 4, none⟩) (.inl HO.out) _⟩
        unfold St.synced
        rw [if_pos HE.out]
        refine DX.mono (O := fun k => (O k ∨ w2.heap.size ≤ k) ∨ w4.heap.size ≤ k) (DX.of (lab := relab w4.heap.size (relab w2.heap.size lab 0) 4) (blk_put (blk_below HX4.out HBr.out) 4 _ rfl) HG.out (.inl (.inl HO.out)) HLX.out ((HR4.out.up4 (Kept.of_below HBr.out _) HN4.out).set HLX.out 4 _) rfl (congrArg bytesOf (seenB_others_self 0 s.ws s.s0)) rfl (congrArg bytesOf (seenB_others_ne (by decide) s.ws s.l1))) ?_
        rintro k ((hk | hk) | hk)
        · exact .inl hk
        · exact .inr (Nat.le_trans HSZ.out hk)
        · exact .inr (Nat.le_trans HSZ.out (Nat.le_trans HS4.out hk))
  · have HE := Aside0.mk e0
    rw [e0]
    clear e0
    go_upto_region 5 with (fail)
    go_wp2_with (fail)
    go_ret
    refine ⟨by rw [HE.out]; rfl, DX.mono ?_ (fun k hk => .inl hk), HB2.out, HKw.out⟩
    unfold St.synced
    rw [if_neg (by rw [HE.out]; decide)]
    exact ⟨lab, _, _, _, _, _, HX2.out, HG.out, HO.out, HLB.out, HR2.out⟩
set_option maxHeartbeats 8000000 in
set_option maxRecDepth 100000 in
theorem sync.calls1 (g : Nat) (O : Nat → Prop) (s : St) (m : Nat) (w0 w : World) (hB : Below w0.heap.size w0 w) (hD : DD w w0.heap.size g O s) (hok : s.ok m) (hm : m ≤ 1000000000) :
    Calls Try.prog 131 #[.pointer (some ⟨g, 0, none⟩), .int .i64 1] w fun e w' => e = .returned (.int .i64 (turn s.f s.d s.c).1) ∧
      DD w' w0.heap.size g (fun k => O k ∨ w.heap.size ≤ k) (s.synced 1) ∧ Below w0.heap.size w0 w' ∧ Kept w w' O := by
  obtain ⟨lab, x0, x1, x2, x3, x4, hb, hg, hO, hlb, hr⟩ := hD
  have hcs := hok.c
  have hns := hok.n
  have hfs := hok.f
  have h3 := hok.s1
  have HF := Aside0.mk (show -9223372036854775808 ≤ s.f ∧ s.f < 9223372036854775808 by omega)
  have HC := Aside0.mk (show 0 ≤ s.c ∧ s.c < 9223372036854775807 by omega)
  have HL := Aside0.mk (show s.s1.size ≤ 140737488355000 by unfold maxFile at h3; omega)
  have HW := Aside0.mk (show s.ws.length ≤ 1000000000 by omega)
  have HB := Aside0.mk hB
  have HG := Aside0.mk hg
  have HO := Aside0.mk hO
  have HLB := Aside0.mk hlb
  have HR := Aside0.mk hr
  have HX := Aside0.mk hb
  clear hB hb hg hO hlb hr hok hm hcs hns hfs h3
  obtain ⟨A4, c4, e4⟩ := Kd.R_slice HR.out.r4
  subst e4
  obtain ⟨A1, c1, e1⟩ := Kd.R_slice HR.out.r3
  subst e1
  go_enter Try.func131, Try.ntmps131
  go_upto_region 3 with (go_at_call 164; (refine (disk_right.calls 1 0 0 true _ (by rw [right_is, show rightB 1 0 0 = true by decide])).mono ?_); rintro e1 w1 ⟨rfl, hd1⟩; have HW1 := Aside0.mk hd1; clear hd1)
  have HX0 := Aside0.mk (blk_below HX.out HW1.out.below)
  have HR0 := Aside0.mk (HR.out.below HW1.out.below)
  have HB1 := Aside0.mk (below_step HB.out HW1.out.below)
  have HK1 := Aside0.mk (Kept.of_below HW1.out.below O)
  clear HX HR HB HW1
  go_upto_region 4 with (go_at_call 168; (refine (turn.calls g _ _ _ _ _ s.f s.d s.c w0 _ HB1.out HG.out HX0.out HF.out HC.out).mono ?_); rintro e2 w2 ⟨rfl, hx2, hb2, hk2, hs2⟩; have HX2 := Aside0.mk hx2; have HB2 := Aside0.mk hb2; have HK2 := Aside0.mk hk2; have HS2 := Aside0.mk hs2; clear hx2 hb2 hk2 hs2)
  have HR2 := Aside0.mk (HR0.out.only HK2.out HLB.out)
  have HSZ := Aside0.mk (show w.heap.size ≤ w2.heap.size by rw [HS2.out]; exact HK1.out.1)
  have HKw := Aside0.mk (Kept.then_ HK1.out HK2.out (fun k hk => .inl (by rw [hk]; exact HO.out)))
  clear HX0 HR0 HB1 HK1 HK2 HS2
  rcases turn_cases s.f s.d s.c with ⟨e0, -⟩ | ⟨e0, -⟩
  · have HE := Aside0.mk e0
    rw [e0]
    clear e0
    go_upto_region 6 with (fail)
    have q1 : w2.cell? ⟨g, 3, none⟩ = some (.slice A1 (bytesOf s.s1).length c1) := (blk_cell HX2.out 3).trans rfl
    have HL' : (bytesOf s.s1).length ≤ 140737488355000 := by rw [bytesOf_length]; exact HL.out
    have HRC := Aside0.mk (Kd.C_below (Kd.R_reads' HR2.out.r3).2.2 (below_drew (Below.refl _ w2)))
    go_region_law (refine Kd.R_append_rows_step (Kd.int .u8) (Rr := (Kd.int .u8).K w2.drew) (W := w2.drew) (w0 := w0) w0.heap.size rfl _ _ 55 5 (.int .u8 0) 1 rfl Try.underlying55 info5 rfl (by decide) (by omega) (.slice none 0 0) [] (bytesOf s.s1) A1 (bytesOf s.s1).length c1 (fun k => w2.heap.size ≤ k) (fun _ => False) rfl rfl (Kd.R_nil _ _ _ _ _) HRC.out (fun _ _ h => h) (fun _ hk => hk.elim) (fun k hk => hk) (below_drew1 HB2.out) (below_size (below_drew1 HB2.out)) (by simp; omega) ?_; intro v1 w3 ho hb hgr hat; obtain ⟨A5, c5, e5⟩ := Kd.R_slice ho; rw [List.nil_append] at e5 ho; subst e5; have HO3 := Aside0.mk ho; have HB3 := Aside0.mk hb; have HK3 := Aside0.mk (show Kept w2 w3 (fun k => O k ∧ lab k = 2) from Kept.of_grown hgr (Kept.drew (Kept.refl w2 _)) (fun k hk => by cases hk)); have HX3 := Aside0.mk (blk_grown (blk_drew HX2.out) hgr (by intro h; cases h)); have z3 := blk_frozen HX3.out 2; have c3_ : ∃ v, w3.cell? ⟨g, 2, none⟩ = some v := ⟨_, (blk_cell HX3.out 2).trans rfl⟩; obtain ⟨v3_, c3_⟩ := c3_; clear ho hb hgr hat)
    clear q1 HL' HRC z3 c3_
    have HLB3 := Aside0.mk (show relab w2.heap.size lab 2 g = 5 by unfold relab; rw [if_pos (blk_lt HX2.out)]; exact HLB.out)
    have HR4 := Aside0.mk ((HR2.out.up2 HK3.out (Kd.R_mono HO3.out (fun k hk => .inr hk))).set HLB3.out 2 (.slice A5 (bytesOf s.s1).length c5))
    have HX4 := Aside0.mk (show (w3.setCell ⟨g, 2, none⟩ (.slice A5 (bytesOf s.s1).length c5)).heap[g]? = some (.cells (dcells x0 x1 (.slice A5 (bytesOf s.s1).length c5) (.slice A1 (bytesOf s.s1).length c1) (.slice A4 s.ws.length c4) (turn s.f s.d s.c).2.1 (turn s.f s.d s.c).2.2.1 (turn s.f s.d s.c).2.2.2) 146 (0, 0)) from blk_put HX3.out 2 _ rfl)
    have HB4 := Aside0.mk (HB3.out.setCell (p := ⟨g, 2, none⟩) HG.out (.slice A5 (bytesOf s.s1).length c5))
    have HK4 := Aside0.mk ((HKw.out.then_ HK3.out (fun k hk => .inl hk.1)).setCell (p := ⟨g, 2, none⟩) (.inl HO.out) (.slice A5 (bytesOf s.s1).length c5))
    have HS4 := Aside0.mk (show w2.heap.size ≤ (w3.setCell ⟨g, 2, none⟩ (.slice A5 (bytesOf s.s1).length c5)).heap.size by simp; exact HK3.out.1)
    clear HX2 HR2 HB2 HK3 HX3 HO3 HB3
    generalize w3.setCell ⟨g, 2, none⟩ (.slice A5 (bytesOf s.s1).length c5) = w4 at HR4 HX4 HB4 HK4 HS4 ⊢
    have q4 : w4.cell? ⟨g, 4, none⟩ = some (.slice A4 s.ws.length c4) := (blk_cell HX4.out 4).trans rfl
    have HCW := Aside0.mk (Kd.R_reads' HR4.out.r4).2.2
    go_wp2_with (fail)
    clear q4
    go_loopw [6, 36] (fun v6 v36 wr => ∃ (j : Nat), j ≤ s.ws.length ∧ v36 = .int .i64 (j : Int) ∧ Aside0 (kC.R 172 wr w4.heap.size (fun _ => True) v6 (others 1 (s.ws.take j))) ∧ Aside0 (Below w4.heap.size w4 wr)) (fun _ v36 _ => s.ws.length - (intOf v36).toNat)
    case atStart => exact ⟨0, Nat.zero_le _, rfl, ⟨Kd.R_nil _ _ _ _ _⟩, ⟨Below.refl _ _⟩⟩
    case round =>
      obtain ⟨j, hj, rfl, HOr, HBr⟩ := hrel
      obtain ⟨A6, c6, e6⟩ := Kd.R_slice HOr.out
      subst e6
      have hm := HW.out
      by_cases hlt : j < s.ws.length
      · have t_ : decide ((j : Int) < (s.ws.length : Int)) = true := decide_eq_true (by omega)
        obtain ⟨ad, hA, f0, f1, f2, f3⟩ := at_C HCW.out j hlt
        subst hA
        replace f0 := (HBr.out.cell (World.block_lt_of_cell? w4 _ f0)).trans f0
        replace f1 := (HBr.out.cell (World.block_lt_of_cell? w4 _ f1)).trans f1
        replace f2 := (HBr.out.cell (World.block_lt_of_cell? w4 _ f2)).trans f2
        replace f3 := (HBr.out.cell (World.block_lt_of_cell? w4 _ f3)).trans f3
        have HT := Aside0.mk (take_succ_chg hlt)
        have HLN := Aside0.mk (show (others 1 (s.ws.take j)).length ≤ 1000000000 by have := List.length_filter_le (fun c : Chg => c.file != 1) (s.ws.take j); rw [List.length_take] at this; unfold others; omega)
        have HTN := Aside0.mk (show others 1 (s.ws.take (j + 1)) = if ((chgAt s.ws j).file != 1) = true then others 1 (s.ws.take j) ++ [chgAt s.ws j] else others 1 (s.ws.take j) by rw [take_succ_chg hlt]; exact others_snoc _ _ _)
        clear HT
        generalize chgAt s.ws j = ch at f0 f1 f2 f3 HTN
        generalize others 1 (s.ws.take j) = ls at HOr HLN HTN
        go_upto_region 11 with ((with_reducible refine gate_dst (N := 8) rfl ?_); refine box_event ?hg (N := 8) ?hd (cs := #[.int .i64 0, .int .i64 0, .string ⟨#[]⟩, .bool false]) (t := 172) ?hr ?_; (case hd => rfl); (case hg => rfl); (case hr => first | (go_simp; done) | (go_simp; rfl)); intro gb hgb w7 hbox hb; have HXb := Aside0.mk hbox; have HBb := Aside0.mk hb; have HGb := Aside0.mk hgb; have b0 : w7.cell? ⟨gb, 0, none⟩ = some (.int .i64 0) := (blk_cell hbox 0).trans rfl; have b1 : w7.cell? ⟨gb, 1, none⟩ = some (.int .i64 0) := (blk_cell hbox 1).trans rfl; have b2 : w7.cell? ⟨gb, 2, none⟩ = some (.string ⟨#[]⟩) := (blk_cell hbox 2).trans rfl; have b3 : w7.cell? ⟨gb, 3, none⟩ = some (.bool false) := (blk_cell hbox 3).trans rfl; have y0 := blk_frozen hbox 0; have y1 := blk_frozen hbox 1; have y2 := blk_frozen hbox 2; have y3 := blk_frozen hbox 3; clear hgb hbox hb)
        have hput : (((w7.setCell ⟨gb, 0, none⟩ (.int .i64 ch.file)).setCell ⟨gb, 1, none⟩ (.int .i64 (ch.at_ : Int))).setCell ⟨gb, 2, none⟩ (.string ch.text)).setCell ⟨gb, 3, none⟩ (.bool ch.cut) = put4 w7 gb (.int .i64 ch.file) (.int .i64 (ch.at_ : Int)) (.string ch.text) (.bool ch.cut) := rfl
        rw [hput]
        clear hput
        have HX8 := Aside0.mk (put4_blk (a := .int .i64 ch.file) (b := .int .i64 (ch.at_ : Int)) (c := .string ch.text) (d := .bool ch.cut) HXb.out)
        have HB8 := Aside0.mk (HBb.out.setCell (p := ⟨gb, 0, none⟩) (by rw [HGb.out]; exact Nat.le_refl _) (.int .i64 ch.file) |>.setCell (p := ⟨gb, 1, none⟩) (by rw [HGb.out]; exact Nat.le_refl _) (.int .i64 (ch.at_ : Int)) |>.setCell (p := ⟨gb, 2, none⟩) (by rw [HGb.out]; exact Nat.le_refl _) (.string ch.text) |>.setCell (p := ⟨gb, 3, none⟩) (by rw [HGb.out]; exact Nat.le_refl _) (.bool ch.cut))
        change Aside0 (Below wr.heap.size wr (put4 w7 gb (.int .i64 ch.file) (.int .i64 (ch.at_ : Int)) (.string ch.text) (.bool ch.cut))) at HB8
        clear b0 b1 b2 b3 y0 y1 y2 y3 f0 f1 f2 f3 HXb HBb
        generalize put4 w7 gb (.int .i64 ch.file) (.int .i64 (ch.at_ : Int)) (.string ch.text) (.bool ch.cut) = w8 at HX8 HB8 ⊢
        have q0 : w8.cell? ⟨gb, 0, none⟩ = some (.int .i64 ch.file) := (blk_cell HX8.out 0).trans rfl
        have q1 : w8.cell? ⟨gb, 1, none⟩ = some (.int .i64 (ch.at_ : Int)) := (blk_cell HX8.out 1).trans rfl
        have q2 : w8.cell? ⟨gb, 2, none⟩ = some (.string ch.text) := (blk_cell HX8.out 2).trans rfl
        have q3 : w8.cell? ⟨gb, 3, none⟩ = some (.bool ch.cut) := (blk_cell HX8.out 3).trans rfl
        by_cases hne : (ch.file != 1) = true
        · have HNE := Aside0.mk hne
          have hls := HLN.out
          go_wp2_with (first
            | ((with_reducible refine gate_builtin (b := .append) (xs := #[.tmp 44, .tmp 46]) rfl ?_); at_builtin; refine Kd.R_append kC (w0 := w4) w4.heap.size rfl (.tmp 44) (.tmp 46) 144 172 (.agg #[.int .i64 0, .int .i64 0, .string ⟨#[]⟩, .bool false]) 40 rfl Try.underlying144 info172 rfl (by decide) (by omega) (.slice A6 ls.length c6) ls ch _ (fun _ => True) (fun _ => False) rfl rfl ?aP (fun _ hk => hk.elim) ?aF ?aO ?aB ?aS ?aL ?_; (case aP => exact kC_M ch); (case aB => exact below_step HBr.out HB8.out); (case aF => exact (fun _ _ => trivial)); (case aO => exact Kd.R_below HOr.out HB8.out); (case aS => exact below_size (below_step HBr.out HB8.out)); (case aL => omega); intro v1 w9 ho hb hg hat; have HO9 := Aside0.mk ho; have HB9 := Aside0.mk hb; clear ho hb hg hat))
          go_roundw
          case rel => exact ⟨j + 1, by omega, by go_num, ⟨by rw [HTN.out, if_pos HNE.out]; exact HO9.out⟩, HB9⟩
          case measure => simp [intOf]; omega
        · have hne' : (ch.file != 1) = false := by simpa using hne
          have HNE := Aside0.mk hne
          clear hne
          go_wp2_with (fail)
          go_roundw
          case rel => exact ⟨j + 1, by omega, by go_num, ⟨by rw [HTN.out, if_neg HNE.out]; exact Kd.R_below HOr.out HB8.out⟩, ⟨below_step HBr.out HB8.out⟩⟩
          case measure => simp [intOf]; omega
      · obtain rfl : j = s.ws.length := by omega
        rw [List.take_length] at HOr ⊢
        clear hlt hj
        have q4 : wr.cell? ⟨g, 4, none⟩ = some (.slice A4 s.ws.length c4) := (blk_cell (blk_below HX4.out HBr.out) 4).trans rfl
        have z4 := blk_frozen (blk_below HX4.out HBr.out) 4
        go_wp2_with (fail)
        go_ret
        have HLX := Aside0.mk (show relab w4.heap.size (relab w2.heap.size lab 2) 4 g = 5 by unfold relab; rw [if_pos (blk_lt HX4.out)]; exact HLB3.out)
        have HN4 := Aside0.mk (Kd.R_lower (Kd.R_mono (Kd.R_bound HOr.out) (ok' := fun k => ((O k ∨ w2.heap.size ≤ k) ∧ relab w2.heap.size lab 2 k = 4) ∨ w4.heap.size ≤ k) (fun k hk => .inr hk.2.1)) (below_size HB4.out))
        refine ⟨by rw [HE.out]; rfl, ?_, (below_then HB4.out (below_size HB4.out) HBr.out).setCell (p := ⟨g, 4, none⟩) HG.out _, (HK4.out.below HBr.out).setCell (p := ⟨g, 4, none⟩) (.inl HO.out) _⟩
        unfold St.synced
        rw [if_pos HE.out]
        refine DX.mono (O := fun k => (O k ∨ w2.heap.size ≤ k) ∨ w4.heap.size ≤ k) (DX.of (lab := relab w4.heap.size (relab w2.heap.size lab 2) 4) (blk_put (blk_below HX4.out HBr.out) 4 _ rfl) HG.out (.inl (.inl HO.out)) HLX.out ((HR4.out.up4 (Kept.of_below HBr.out _) HN4.out).set HLX.out 4 _) rfl (congrArg bytesOf (seenB_others_ne (by decide) s.ws s.l0)) rfl (congrArg bytesOf (seenB_others_self 1 s.ws s.s1))) ?_
        rintro k ((hk | hk) | hk)
        · exact .inl hk
        · exact .inr (Nat.le_trans HSZ.out hk)
        · exact .inr (Nat.le_trans HSZ.out (Nat.le_trans HS4.out hk))
  · have HE := Aside0.mk e0
    rw [e0]
    clear e0
    go_upto_region 5 with (fail)
    go_wp2_with (fail)
    go_ret
    refine ⟨by rw [HE.out]; rfl, DX.mono ?_ (fun k hk => .inl hk), HB2.out, HKw.out⟩
    unfold St.synced
    rw [if_neg (by rw [HE.out]; decide)]
    exact ⟨lab, _, _, _, _, _, HX2.out, HG.out, HO.out, HLB.out, HR2.out⟩
end Go.Proofs.Ythaoaaboempajaa.Disk
