/- The document's disk: Size, Read, Sync, walked. Conditions: the disk is a block with a row of its own; its state is in order. -/
import Derived.Test.YthaoaaboempajaaDisk12
namespace Go.Proofs.Ythaoaaboempajaa.Disk
open Go.RowKit Go.Proofs.YthaoaaboempajaaW.PrintWords Go.Proofs.YthaoaaboempajaaW.PrintLast Go.Proofs.YthaoaaboempajaaW.PrintMore Go.Proofs.YthaoaaboempajaaX Go.Proofs.Ythaoaaboempajaa.QDiskRuns
set_option linter.unusedVariables false
set_option linter.unusedSimpArgs false
theorem in_is (f : Int) : relstoreref_in.f f 0 1 = some (rightB f 0 0) := by
  unfold relstoreref_in.f rightB
  by_cases h : f ≥ 0
  · rw [if_pos h]; congr 1; rw [decide_eq_decide]; omega
  · rw [if_neg h]; congr 1; symm; rw [decide_eq_false_iff_not]; omega
set_option maxHeartbeats 4000000 in
theorem rsize.calls (g : Nat) (O : Nat → Prop) (s : St) (f : Int) (m base : Nat) (w : World) (hD : RD w base g O s) (hok : s.ok m) (hm : m ≤ 1000000000) :
    Calls Try.prog 130 #[.pointer (some ⟨g, 0, none⟩), .int .i64 f] w fun e w' => e = .returned (.tuple #[.int .i64 (s.size f).1, .int .i64 (s.size f).2]) ∧ Below w.heap.size w w' := by
  have HD := Aside0.mk hD
  have HOK := Aside0.mk hok
  have HM := Aside0.mk hm
  obtain ⟨x2, hb, hD_⟩ := hD
  have HX := Aside0.mk hb
  clear hb hD_ hok hm
  by_cases hr : rightB f 0 0 = true
  · obtain ⟨hf, -, -, -⟩ := right_file hr
    have HRT := Aside0.mk hr
    have HF := Aside0.mk hf
    have hs : s.size f = if s.d = true then (0, 2) else (((seenOf s f).size : Int), 0) := by unfold St.size; rw [if_pos hr]
    have HS := Aside0.mk hs
    clear hr hf hs
    go_enter Try.func130, Try.ntmps130
    go_upto_region 3 with (go_at_call 105; (refine (relstoreref_in.calls f 0 1 true _ (by rw [in_is, HRT.out])).mono ?_); rintro e2 w2 ⟨rfl, hd2⟩; obtain ⟨n2, rfl⟩ := hd2.out; have HW2 := Aside0.mk hd2; clear hd2)
    have c6 : w.cell? ⟨g, 4, none⟩ = some (.bool s.d) := (blk_cell HX.out 4).trans rfl
    cases hd : s.d with
    | true =>
      rw [hd] at c6
      have HSD := Aside0.mk hd
      clear hd
      go_wp2_with (fail)
      go_ret2
      exact ⟨by rw [HS.out, if_pos HSD.out]; rfl, HW2.out.below⟩
    | false =>
      rw [hd] at c6
      have HSD := Aside0.mk (show ¬ s.d = true by rw [hd]; decide)
      clear hd
      go_upto_region 5 with (fail)
      rcases HF.out with rfl | rfl
      · go_wp2_with (go_at_call 136; (refine (seen.calls0 g O s m base _ (drawn_keepR HW2.out HD.out) HOK.out (Nat.le_trans HM.out (by decide))).mono ?_); rintro e3 w3 ⟨rfl, hb3⟩; have HB3 := Aside0.mk hb3; clear hb3)
        go_ret2
        exact ⟨by rw [HS.out, if_neg HSD.out, seenOf0]; rfl, below_step HW2.out.below HB3.out⟩
      · go_wp2_with (go_at_call 136; (refine (seen.calls1 g O s m base _ (drawn_keepR HW2.out HD.out) HOK.out (Nat.le_trans HM.out (by decide))).mono ?_); rintro e3 w3 ⟨rfl, hb3⟩; have HB3 := Aside0.mk hb3; clear hb3)
        go_ret2
        exact ⟨by rw [HS.out, if_neg HSD.out, seenOf1]; rfl, below_step HW2.out.below HB3.out⟩
  · have hr' : rightB f 0 0 = false := by simpa using hr
    have HRT := Aside0.mk hr'
    have hs : s.size f = (0, 1) := by unfold St.size; rw [if_neg hr]
    have HS := Aside0.mk hs
    clear hr hr' hs
    go_enter Try.func130, Try.ntmps130
    go_wp2_with (go_at_call 105; (refine (relstoreref_in.calls f 0 1 false _ (by rw [in_is, HRT.out])).mono ?_); rintro e2 w2 ⟨rfl, hd2⟩; have HW2 := Aside0.mk hd2; clear hd2)
    go_ret2
    exact ⟨by rw [HS.out]; rfl, HW2.out.below⟩
set_option maxHeartbeats 4000000 in
theorem rread.calls (g : Nat) (O : Nat → Prop) (s : St) (f a n : Int) (m base : Nat) (w : World) (hD : RD w base g O s) (hok : s.ok m) (hm : m ≤ 1000000000) :
    Calls Try.prog 124 #[.pointer (some ⟨g, 0, none⟩), .int .i64 f, .int .i64 a, .int .i64 n] w fun e w' => e = .returned (.tuple #[.string (s.read f a n).1, .int .i64 (s.read f a n).2]) ∧ Below w.heap.size w w' := by
  have HD := Aside0.mk hD
  have HOK := Aside0.mk hok
  have HM := Aside0.mk hm
  obtain ⟨x2, hb, hD_⟩ := hD
  have HX := Aside0.mk hb
  clear hb hD_ hok hm
  by_cases hr : rightB f a n = true
  · obtain ⟨hf, ha, hn, han⟩ := right_file hr
    have HRT := Aside0.mk hr
    have HF := Aside0.mk hf
    have hs : s.read f a n = if s.d = true then (ByteArray.empty, 2) else (if a + n > (seenOf s f).size then (ByteArray.empty, 3) else ((seenOf s f).extract a.toNat (a + n).toNat, 0)) := by unfold St.read; rw [if_pos hr]
    have HS := Aside0.mk hs
    have HAN := Aside0.mk (And.intro ha (And.intro hn han))
    clear hr hf hs ha hn han
    go_enter Try.func124, Try.ntmps124
    go_upto_region 3 with (go_at_call 165; (refine (relstoreref_fits.calls f a n true _ (by rw [fits_is, HRT.out])).mono ?_); rintro e2 w2 ⟨rfl, hd2⟩; obtain ⟨n2, rfl⟩ := hd2.out; have HW2 := Aside0.mk hd2; clear hd2)
    have c6 : w.cell? ⟨g, 4, none⟩ = some (.bool s.d) := (blk_cell HX.out 4).trans rfl
    cases hd : s.d with
    | true =>
      rw [hd] at c6
      have HSD := Aside0.mk hd
      clear hd
      go_wp2_with (fail)
      go_ret2
      exact ⟨by rw [HS.out, if_pos HSD.out]; rfl, HW2.out.below⟩
    | false =>
      rw [hd] at c6
      have HSD := Aside0.mk (show ¬ s.d = true by rw [hd]; decide)
      clear hd
      go_upto_region 5 with (fail)
      rcases HF.out with rfl | rfl
      · go_upto_region 6 with (go_at_call 136; (refine (seen.calls0 g O s m base _ (drawn_keepR HW2.out HD.out) HOK.out (Nat.le_trans HM.out (by decide))).mono ?_); rintro e3 w3 ⟨rfl, hb3⟩; have HB3 := Aside0.mk hb3; clear hb3)
        obtain ⟨ha, hn, han⟩ := HAN.out
        have w_ : IntKind.i64.wrap (a + n) = a + n := IntWalk.i64_in _ (by omega)
        by_cases hgt : a + n > s.s0.size
        · have HGT := Aside0.mk hgt
          have d_ : decide (a + n > (s.s0.size : Int)) = true := decide_eq_true hgt
          clear hgt
          go_wp2_with (fail)
          go_ret2
          exact ⟨by rw [HS.out, if_neg HSD.out, seenOf0, if_pos (show a + n > (s.s0.size : Int) by have := HGT.out; omega)]; rfl, below_step HW2.out.below HB3.out⟩
        · have HGT := Aside0.mk hgt
          have d_ : decide (a + n > (s.s0.size : Int)) = false := decide_eq_false hgt
          have h1_ : a ≤ a + n := by omega
          have h2_ : 0 ≤ a + n := by omega
          have h3_ : a + n ≤ (s.s0.size : Int) := by omega
          go_wp2_with (fail)
          go_ret2
          exact ⟨by rw [HS.out, if_neg HSD.out, seenOf0, if_neg (show ¬ (a + n > (s.s0.size : Int)) by have := HGT.out; omega)]; rfl, below_step HW2.out.below HB3.out⟩
      · go_upto_region 6 with (go_at_call 136; (refine (seen.calls1 g O s m base _ (drawn_keepR HW2.out HD.out) HOK.out (Nat.le_trans HM.out (by decide))).mono ?_); rintro e3 w3 ⟨rfl, hb3⟩; have HB3 := Aside0.mk hb3; clear hb3)
        obtain ⟨ha, hn, han⟩ := HAN.out
        have w_ : IntKind.i64.wrap (a + n) = a + n := IntWalk.i64_in _ (by omega)
        by_cases hgt : a + n > s.s1.size
        · have HGT := Aside0.mk hgt
          have d_ : decide (a + n > (s.s1.size : Int)) = true := decide_eq_true hgt
          clear hgt
          go_wp2_with (fail)
          go_ret2
          exact ⟨by rw [HS.out, if_neg HSD.out, seenOf1, if_pos (show a + n > (s.s1.size : Int) by have := HGT.out; omega)]; rfl, below_step HW2.out.below HB3.out⟩
        · have HGT := Aside0.mk hgt
          have d_ : decide (a + n > (s.s1.size : Int)) = false := decide_eq_false hgt
          have h1_ : a ≤ a + n := by omega
          have h2_ : 0 ≤ a + n := by omega
          have h3_ : a + n ≤ (s.s1.size : Int) := by omega
          go_wp2_with (fail)
          go_ret2
          exact ⟨by rw [HS.out, if_neg HSD.out, seenOf1, if_neg (show ¬ (a + n > (s.s1.size : Int)) by have := HGT.out; omega)]; rfl, below_step HW2.out.below HB3.out⟩
  · have hr' : rightB f a n = false := by simpa using hr
    have HRT := Aside0.mk hr'
    have hs : s.read f a n = (ByteArray.empty, 1) := by unfold St.read; rw [if_neg hr]
    have HS := Aside0.mk hs
    clear hr hr' hs
    go_enter Try.func124, Try.ntmps124
    go_wp2_with (go_at_call 165; (refine (relstoreref_fits.calls f a n false _ (by rw [fits_is, HRT.out])).mono ?_); rintro e2 w2 ⟨rfl, hd2⟩; have HW2 := Aside0.mk hd2; clear hd2)
    go_ret2
    exact ⟨by rw [HS.out]; rfl, HW2.out.below⟩
set_option maxHeartbeats 8000000 in
set_option maxRecDepth 100000 in
theorem rsync.calls0 (g : Nat) (O : Nat → Prop) (s : St) (m : Nat) (w0 w : World) (hB : Below w0.heap.size w0 w) (hD : RD w w0.heap.size g O s) (hok : s.ok m) (hm : m ≤ 1000000000) :
    Calls Try.prog 132 #[.pointer (some ⟨g, 0, none⟩), .int .i64 0] w fun e w' => e = .returned (.int .i64 (turn s.f s.d s.c).1) ∧
      RD w' w0.heap.size g (fun k => O k ∨ w.heap.size ≤ k) (s.synced 0) ∧ Below w0.heap.size w0 w' ∧ Kept w w' O := by
  have HOK := Aside0.mk hok.turned
  have HM := Aside0.mk (show m + 1 ≤ 1000000000 + 1 by omega)
  obtain ⟨x2, hb, hg, hO, hr⟩ := hD
  have hcs := hok.c
  have hns := hok.n
  have hfs := hok.f
  have HF := Aside0.mk (show -9223372036854775808 ≤ s.f ∧ s.f < 9223372036854775808 by omega)
  have HC := Aside0.mk (show 0 ≤ s.c ∧ s.c < 9223372036854775807 by omega)
  have HW := Aside0.mk (show s.ws.length ≤ 1000000000 by omega)
  have HB := Aside0.mk hB
  have HG := Aside0.mk hg
  have HO := Aside0.mk hO
  have HR := Aside0.mk hr
  have HX := Aside0.mk hb
  clear hB hb hg hO hr hok hm hcs hns hfs
  obtain ⟨A4, c4, e4⟩ := Kd.R_slice HR.out
  subst e4
  go_enter Try.func132, Try.ntmps132
  go_upto_region 3 with (go_at_call 105; (refine (relstoreref_in.calls 0 0 1 true _ (by rw [in_is, show rightB 0 0 0 = true by decide])).mono ?_); rintro e1 w1 ⟨rfl, hd1⟩; have HW1 := Aside0.mk hd1; clear hd1)
  have HX0 := Aside0.mk (blk_below HX.out HW1.out.below)
  have HR0 := Aside0.mk (Kd.R_below HR.out HW1.out.below)
  have HB1 := Aside0.mk (below_step HB.out HW1.out.below)
  have HK1 := Aside0.mk (Kept.of_below HW1.out.below O)
  clear HX HR HB HW1
  go_upto_region 4 with (go_at_call 169; (refine (rturn.calls g _ _ _ s.f s.d s.c w0 _ HB1.out HG.out HX0.out HF.out HC.out).mono ?_); rintro e2 w2 ⟨rfl, hx2, hb2, hk2, hs2⟩; have HX2 := Aside0.mk hx2; have HB2 := Aside0.mk hb2; have HK2 := Aside0.mk hk2; have HS2 := Aside0.mk hs2; clear hx2 hb2 hk2 hs2)
  have HR2 := Aside0.mk (Kd.R_kept HR0.out HK2.out (fun k h1 he => h1.2 he))
  have HSZ := Aside0.mk (show w.heap.size ≤ w2.heap.size by rw [HS2.out]; exact HK1.out.1)
  have HKw := Aside0.mk (Kept.then_ HK1.out HK2.out (fun k hk => .inl (by rw [hk]; exact HO.out)))
  have HD2 := Aside0.mk (show RD w2 w0.heap.size g O s.turned from ⟨_, HX2.out, HG.out, HO.out, HR2.out⟩)
  clear HX0 HR0 HB1 HK1 HK2 HS2
  rcases turn_cases s.f s.d s.c with ⟨e0, -⟩ | ⟨e0, -⟩
  · have HE := Aside0.mk e0
    rw [e0]
    clear e0
    go_upto_region 6 with (fail)
    go_region_law (first
      | (refine goes_ Try.func136 (by kernel_rfl) rfl #[.pointer (some ⟨g, 0, none⟩), .int .i64 0] (by rfl) rfl rfl (by (try simp only [List.map_toArray, List.map_cons, List.map_nil]); first | done | rfl) ?_; refine (seen.calls0 g O s.turned (m + 1) w0.heap.size _ (drawn_keepR ⟨⟨1, rfl⟩⟩ HD2.out) HOK.out (Nat.le_trans HM.out (by decide))).mono ?_; rintro e w3 ⟨rfl, hb⟩; refine ⟨_, rfl, ?_⟩; have HB3 := Aside0.mk (below_step (below_drew (Below.refl _ w2)) hb); have z3 := blk_frozen (blk_below (blk_drew HX2.out) hb) 0; have c3_ : w3.cell? ⟨g, 0, none⟩ = some (.string s.l0) := (blk_cell (blk_below (blk_drew HX2.out) hb) 0).trans rfl; clear hb))
    have HX4 := Aside0.mk (show (w3.setCell ⟨g, 0, none⟩ (.string s.turned.s0)).heap[g]? = some (.cells (rcells (.string s.turned.s0) (.string s.l1) (.slice A4 s.ws.length c4) (turn s.f s.d s.c).2.1 (turn s.f s.d s.c).2.2.1 (turn s.f s.d s.c).2.2.2) 150 (0, 0)) from blk_put (blk_below HX2.out HB3.out) 0 _ rfl)
    have HR4 := Aside0.mk (Kd.R_far (Kd.R_below HR2.out HB3.out) (p := ⟨g, 0, none⟩) (fun k hk => hk.2) (.string s.turned.s0))
    have HB4 := Aside0.mk ((below_step HB2.out HB3.out).setCell (p := ⟨g, 0, none⟩) HG.out (.string s.turned.s0))
    have HK4 := Aside0.mk ((HKw.out.below HB3.out).setCell (p := ⟨g, 0, none⟩) (.inl HO.out) (.string s.turned.s0))
    have HS4 := Aside0.mk (show w2.heap.size ≤ (w3.setCell ⟨g, 0, none⟩ (.string s.turned.s0)).heap.size by simp; exact HB3.out.size)
    clear HX2 HR2 HB2 HB3 HD2 z3 c3_
    generalize w3.setCell ⟨g, 0, none⟩ (.string s.turned.s0) = w4 at HR4 HX4 HB4 HK4 HS4 ⊢
    have q4 : w4.cell? ⟨g, 2, none⟩ = some (.slice A4 s.ws.length c4) := (blk_cell HX4.out 2).trans rfl
    have HCW := Aside0.mk (Kd.R_reads' HR4.out).2.2
    go_wp2_with (fail)
    clear q4
    go_loopw [6, 30] (fun v6 v36 wr => ∃ (j : Nat), j ≤ s.ws.length ∧ v36 = .int .i64 (j : Int) ∧ Aside0 (kC.R 181 wr w4.heap.size (fun _ => True) v6 (others 0 (s.ws.take j))) ∧ Aside0 (Below w4.heap.size w4 wr)) (fun _ v36 _ => s.ws.length - (intOf v36).toNat)
    case atStart => exact ⟨0, Nat.zero_le _, rfl, ⟨Kd.R_nil _ _ _ _ _⟩, ⟨Below.refl _ _⟩⟩
    case round =>
      obtain ⟨j, hj, rfl, HOr, HBr⟩ := hrel
      obtain ⟨A6, c6, e6⟩ := Kd.R_slice HOr.out
      subst e6
      have hm := HW.out
      by_cases hlt : j < s.ws.length
      · have t_ : decide ((j : Int) < (s.ws.length : Int)) = true := decide_eq_true (by omega)
        obtain ⟨ad, hA, f0, f1, f2, f3⟩ := at_C HCW.out j hlt
        subst hA
        replace f0 := (HBr.out.cell (World.block_lt_of_cell? w4 _ f0)).trans f0
        replace f1 := (HBr.out.cell (World.block_lt_of_cell? w4 _ f1)).trans f1
        replace f2 := (HBr.out.cell (World.block_lt_of_cell? w4 _ f2)).trans f2
        replace f3 := (HBr.out.cell (World.block_lt_of_cell? w4 _ f3)).trans f3
        have HT := Aside0.mk (take_succ_chg hlt)
        have HLN := Aside0.mk (show (others 0 (s.ws.take j)).length ≤ 1000000000 by have := List.length_filter_le (fun c : Chg => c.file != 0) (s.ws.take j); rw [List.length_take] at this; unfold others; omega)
        have HTN := Aside0.mk (show others 0 (s.ws.take (j + 1)) = if ((chgAt s.ws j).file != 0) = true then others 0 (s.ws.take j) ++ [chgAt s.ws j] else others 0 (s.ws.take j) by rw [take_succ_chg hlt]; exact others_snoc _ _ _)
        clear HT
        generalize chgAt s.ws j = ch at f0 f1 f2 f3 HTN
        generalize others 0 (s.ws.take j) = ls at HOr HLN HTN
        go_upto_region 11 with ((with_reducible refine gate_dst (N := 8) rfl ?_); refine box_event ?hg (N := 8) ?hd (cs := #[.int .i64 0, .int .i64 0, .string ⟨#[]⟩, .bool false]) (t := 181) ?hr ?_; (case hd => rfl); (case hg => rfl); (case hr => first | (go_simp; done) | (go_simp; rfl)); intro gb hgb w7 hbox hb; have HXb := Aside0.mk hbox; have HBb := Aside0.mk hb; have HGb := Aside0.mk hgb; have b0 : w7.cell? ⟨gb, 0, none⟩ = some (.int .i64 0) := (blk_cell hbox 0).trans rfl; have b1 : w7.cell? ⟨gb, 1, none⟩ = some (.int .i64 0) := (blk_cell hbox 1).trans rfl; have b2 : w7.cell? ⟨gb, 2, none⟩ = some (.string ⟨#[]⟩) := (blk_cell hbox 2).trans rfl; have b3 : w7.cell? ⟨gb, 3, none⟩ = some (.bool false) := (blk_cell hbox 3).trans rfl; have y0 := blk_frozen hbox 0; have y1 := blk_frozen hbox 1; have y2 := blk_frozen hbox 2; have y3 := blk_frozen hbox 3; clear hgb hbox hb)
        have hput : (((w7.setCell ⟨gb, 0, none⟩ (.int .i64 ch.file)).setCell ⟨gb, 1, none⟩ (.int .i64 (ch.at_ : Int))).setCell ⟨gb, 2, none⟩ (.string ch.text)).setCell ⟨gb, 3, none⟩ (.bool ch.cut) = put4 w7 gb (.int .i64 ch.file) (.int .i64 (ch.at_ : Int)) (.string ch.text) (.bool ch.cut) := rfl
        rw [hput]
        clear hput
        have HX8 := Aside0.mk (put4_blk (a := .int .i64 ch.file) (b := .int .i64 (ch.at_ : Int)) (c := .string ch.text) (d := .bool ch.cut) HXb.out)
        have HB8 := Aside0.mk (HBb.out.setCell (p := ⟨gb, 0, none⟩) (by rw [HGb.out]; exact Nat.le_refl _) (.int .i64 ch.file) |>.setCell (p := ⟨gb, 1, none⟩) (by rw [HGb.out]; exact Nat.le_refl _) (.int .i64 (ch.at_ : Int)) |>.setCell (p := ⟨gb, 2, none⟩) (by rw [HGb.out]; exact Nat.le_refl _) (.string ch.text) |>.setCell (p := ⟨gb, 3, none⟩) (by rw [HGb.out]; exact Nat.le_refl _) (.bool ch.cut))
        change Aside0 (Below wr.heap.size wr (put4 w7 gb (.int .i64 ch.file) (.int .i64 (ch.at_ : Int)) (.string ch.text) (.bool ch.cut))) at HB8
        clear b0 b1 b2 b3 y0 y1 y2 y3 f0 f1 f2 f3 HXb HBb
        generalize put4 w7 gb (.int .i64 ch.file) (.int .i64 (ch.at_ : Int)) (.string ch.text) (.bool ch.cut) = w8 at HX8 HB8 ⊢
        have q0 : w8.cell? ⟨gb, 0, none⟩ = some (.int .i64 ch.file) := (blk_cell HX8.out 0).trans rfl
        have q1 : w8.cell? ⟨gb, 1, none⟩ = some (.int .i64 (ch.at_ : Int)) := (blk_cell HX8.out 1).trans rfl
        have q2 : w8.cell? ⟨gb, 2, none⟩ = some (.string ch.text) := (blk_cell HX8.out 2).trans rfl
        have q3 : w8.cell? ⟨gb, 3, none⟩ = some (.bool ch.cut) := (blk_cell HX8.out 3).trans rfl
        by_cases hne : (ch.file != 0) = true
        · have HNE := Aside0.mk hne
          have hls := HLN.out
          go_wp2_with (first
            | ((with_reducible refine gate_builtin (b := .append) (xs := #[.tmp 38, .tmp 40]) rfl ?_); at_builtin; refine Kd.R_append kC (w0 := w4) w4.heap.size rfl (.tmp 38) (.tmp 40) 148 181 (.agg #[.int .i64 0, .int .i64 0, .string ⟨#[]⟩, .bool false]) 40 rfl Try.underlying148 info181 rfl (by decide) (by omega) (.slice A6 ls.length c6) ls ch _ (fun _ => True) (fun _ => False) rfl rfl ?aP (fun _ hk => hk.elim) ?aF ?aO ?aB ?aS ?aL ?_; (case aP => exact kC_M ch); (case aB => exact below_step HBr.out HB8.out); (case aF => exact (fun _ _ => trivial)); (case aO => exact Kd.R_below HOr.out HB8.out); (case aS => exact below_size (below_step HBr.out HB8.out)); (case aL => omega); intro v1 w9 ho hb hg hat; have HO9 := Aside0.mk ho; have HB9 := Aside0.mk hb; clear ho hb hg hat))
          go_roundw
          case rel => exact ⟨j + 1, by omega, by go_num, ⟨by rw [HTN.out, if_pos HNE.out]; exact HO9.out⟩, HB9⟩
          case measure => simp [intOf]; omega
        · have hne' : (ch.file != 0) = false := by simpa using hne
          have HNE := Aside0.mk hne
          clear hne
          go_wp2_with (fail)
          go_roundw
          case rel => exact ⟨j + 1, by omega, by go_num, ⟨by rw [HTN.out, if_neg HNE.out]; exact Kd.R_below HOr.out HB8.out⟩, ⟨below_step HBr.out HB8.out⟩⟩
          case measure => simp [intOf]; omega
      · obtain rfl : j = s.ws.length := by omega
        rw [List.take_length] at HOr ⊢
        clear hlt hj
        have q4 : wr.cell? ⟨g, 2, none⟩ = some (.slice A4 s.ws.length c4) := (blk_cell (blk_below HX4.out HBr.out) 2).trans rfl
        have z4 := blk_frozen (blk_below HX4.out HBr.out) 2
        go_wp2_with (fail)
        go_ret
        have HN4 := Aside0.mk (Kd.R_lower (Kd.R_mono (Kd.R_bound HOr.out) (ok' := fun k => (O k ∨ w.heap.size ≤ k) ∧ k ≠ g) (fun k hk => ⟨.inr (Nat.le_trans (Nat.le_trans HSZ.out HS4.out) hk.2.1), fun he => absurd (blk_lt HX4.out) (Nat.not_lt.mpr (by rw [← he]; exact hk.2.1))⟩)) (below_size HB4.out))
        refine ⟨by rw [HE.out]; rfl, ?_, (below_then HB4.out (below_size HB4.out) HBr.out).setCell (p := ⟨g, 2, none⟩) HG.out _, (HK4.out.below HBr.out).setCell (p := ⟨g, 2, none⟩) (.inl HO.out) _⟩
        unfold St.synced
        rw [if_pos HE.out]
        exact ⟨_, blk_put (blk_below HX4.out HBr.out) 2 _ rfl, HG.out, .inl HO.out, Kd.R_far HN4.out (fun k hk => hk.2) _⟩
  · have HE := Aside0.mk e0
    rw [e0]
    clear e0
    go_wp2_with (fail)
    go_ret
    refine ⟨by rw [HE.out]; rfl, RD.mono ?_ (fun k hk => .inl hk), HB2.out, HKw.out⟩
    unfold St.synced
    rw [if_neg (by rw [HE.out]; decide)]
    exact HD2.out
set_option maxHeartbeats 8000000 in
set_option maxRecDepth 100000 in
theorem rsync.calls1 (g : Nat) (O : Nat → Prop) (s : St) (m : Nat) (w0 w : World) (hB : Below w0.heap.size w0 w) (hD : RD w w0.heap.size g O s) (hok : s.ok m) (hm : m ≤ 1000000000) :
    Calls Try.prog 132 #[.pointer (some ⟨g, 0, none⟩), .int .i64 1] w fun e w' => e = .returned (.int .i64 (turn s.f s.d s.c).1) ∧
      RD w' w0.heap.size g (fun k => O k ∨ w.heap.size ≤ k) (s.synced 1) ∧ Below w0.heap.size w0 w' ∧ Kept w w' O := by
  have HOK := Aside0.mk hok.turned
  have HM := Aside0.mk (show m + 1 ≤ 1000000000 + 1 by omega)
  obtain ⟨x2, hb, hg, hO, hr⟩ := hD
  have hcs := hok.c
  have hns := hok.n
  have hfs := hok.f
  have HF := Aside0.mk (show -9223372036854775808 ≤ s.f ∧ s.f < 9223372036854775808 by omega)
  have HC := Aside0.mk (show 0 ≤ s.c ∧ s.c < 9223372036854775807 by omega)
  have HW := Aside0.mk (show s.ws.length ≤ 1000000000 by omega)
  have HB := Aside0.mk hB
  have HG := Aside0.mk hg
  have HO := Aside0.mk hO
  have HR := Aside0.mk hr
  have HX := Aside0.mk hb
  clear hB hb hg hO hr hok hm hcs hns hfs
  obtain ⟨A4, c4, e4⟩ := Kd.R_slice HR.out
  subst e4
  go_enter Try.func132, Try.ntmps132
  go_upto_region 3 with (go_at_call 105; (refine (relstoreref_in.calls 1 0 1 true _ (by rw [in_is, show rightB 1 0 0 = true by decide])).mono ?_); rintro e1 w1 ⟨rfl, hd1⟩; have HW1 := Aside0.mk hd1; clear hd1)
  have HX0 := Aside0.mk (blk_below HX.out HW1.out.below)
  have HR0 := Aside0.mk (Kd.R_below HR.out HW1.out.below)
  have HB1 := Aside0.mk (below_step HB.out HW1.out.below)
  have HK1 := Aside0.mk (Kept.of_below HW1.out.below O)
  clear HX HR HB HW1
  go_upto_region 4 with (go_at_call 169; (refine (rturn.calls g _ _ _ s.f s.d s.c w0 _ HB1.out HG.out HX0.out HF.out HC.out).mono ?_); rintro e2 w2 ⟨rfl, hx2, hb2, hk2, hs2⟩; have HX2 := Aside0.mk hx2; have HB2 := Aside0.mk hb2; have HK2 := Aside0.mk hk2; have HS2 := Aside0.mk hs2; clear hx2 hb2 hk2 hs2)
  have HR2 := Aside0.mk (Kd.R_kept HR0.out HK2.out (fun k h1 he => h1.2 he))
  have HSZ := Aside0.mk (show w.heap.size ≤ w2.heap.size by rw [HS2.out]; exact HK1.out.1)
  have HKw := Aside0.mk (Kept.then_ HK1.out HK2.out (fun k hk => .inl (by rw [hk]; exact HO.out)))
  have HD2 := Aside0.mk (show RD w2 w0.heap.size g O s.turned from ⟨_, HX2.out, HG.out, HO.out, HR2.out⟩)
  clear HX0 HR0 HB1 HK1 HK2 HS2
  rcases turn_cases s.f s.d s.c with ⟨e0, -⟩ | ⟨e0, -⟩
  · have HE := Aside0.mk e0
    rw [e0]
    clear e0
    go_upto_region 6 with (fail)
    go_region_law (first
      | (refine goes_ Try.func136 (by kernel_rfl) rfl #[.pointer (some ⟨g, 0, none⟩), .int .i64 1] (by rfl) rfl rfl (by (try simp only [List.map_toArray, List.map_cons, List.map_nil]); first | done | rfl) ?_; refine (seen.calls1 g O s.turned (m + 1) w0.heap.size _ (drawn_keepR ⟨⟨1, rfl⟩⟩ HD2.out) HOK.out (Nat.le_trans HM.out (by decide))).mono ?_; rintro e w3 ⟨rfl, hb⟩; refine ⟨_, rfl, ?_⟩; have HB3 := Aside0.mk (below_step (below_drew (Below.refl _ w2)) hb); have z3 := blk_frozen (blk_below (blk_drew HX2.out) hb) 1; have c3_ : w3.cell? ⟨g, 1, none⟩ = some (.string s.l1) := (blk_cell (blk_below (blk_drew HX2.out) hb) 1).trans rfl; clear hb))
    have HX4 := Aside0.mk (show (w3.setCell ⟨g, 1, none⟩ (.string s.turned.s1)).heap[g]? = some (.cells (rcells (.string s.l0) (.string s.turned.s1) (.slice A4 s.ws.length c4) (turn s.f s.d s.c).2.1 (turn s.f s.d s.c).2.2.1 (turn s.f s.d s.c).2.2.2) 150 (0, 0)) from blk_put (blk_below HX2.out HB3.out) 1 _ rfl)
    have HR4 := Aside0.mk (Kd.R_far (Kd.R_below HR2.out HB3.out) (p := ⟨g, 1, none⟩) (fun k hk => hk.2) (.string s.turned.s1))
    have HB4 := Aside0.mk ((below_step HB2.out HB3.out).setCell (p := ⟨g, 1, none⟩) HG.out (.string s.turned.s1))
    have HK4 := Aside0.mk ((HKw.out.below HB3.out).setCell (p := ⟨g, 1, none⟩) (.inl HO.out) (.string s.turned.s1))
    have HS4 := Aside0.mk (show w2.heap.size ≤ (w3.setCell ⟨g, 1, none⟩ (.string s.turned.s1)).heap.size by simp; exact HB3.out.size)
    clear HX2 HR2 HB2 HB3 HD2 z3 c3_
    generalize w3.setCell ⟨g, 1, none⟩ (.string s.turned.s1) = w4 at HR4 HX4 HB4 HK4 HS4 ⊢
    have q4 : w4.cell? ⟨g, 2, none⟩ = some (.slice A4 s.ws.length c4) := (blk_cell HX4.out 2).trans rfl
    have HCW := Aside0.mk (Kd.R_reads' HR4.out).2.2
    go_wp2_with (fail)
    clear q4
    go_loopw [6, 30] (fun v6 v36 wr => ∃ (j : Nat), j ≤ s.ws.length ∧ v36 = .int .i64 (j : Int) ∧ Aside0 (kC.R 181 wr w4.heap.size (fun _ => True) v6 (others 1 (s.ws.take j))) ∧ Aside0 (Below w4.heap.size w4 wr)) (fun _ v36 _ => s.ws.length - (intOf v36).toNat)
    case atStart => exact ⟨0, Nat.zero_le _, rfl, ⟨Kd.R_nil _ _ _ _ _⟩, ⟨Below.refl _ _⟩⟩
    case round =>
      obtain ⟨j, hj, rfl, HOr, HBr⟩ := hrel
      obtain ⟨A6, c6, e6⟩ := Kd.R_slice HOr.out
      subst e6
      have hm := HW.out
      by_cases hlt : j < s.ws.length
      · have t_ : decide ((j : Int) < (s.ws.length : Int)) = true := decide_eq_true (by omega)
        obtain ⟨ad, hA, f0, f1, f2, f3⟩ := at_C HCW.out j hlt
        subst hA
        replace f0 := (HBr.out.cell (World.block_lt_of_cell? w4 _ f0)).trans f0
        replace f1 := (HBr.out.cell (World.block_lt_of_cell? w4 _ f1)).trans f1
        replace f2 := (HBr.out.cell (World.block_lt_of_cell? w4 _ f2)).trans f2
        replace f3 := (HBr.out.cell (World.block_lt_of_cell? w4 _ f3)).trans f3
        have HT := Aside0.mk (take_succ_chg hlt)
        have HLN := Aside0.mk (show (others 1 (s.ws.take j)).length ≤ 1000000000 by have := List.length_filter_le (fun c : Chg => c.file != 1) (s.ws.take j); rw [List.length_take] at this; unfold others; omega)
        have HTN := Aside0.mk (show others 1 (s.ws.take (j + 1)) = if ((chgAt s.ws j).file != 1) = true then others 1 (s.ws.take j) ++ [chgAt s.ws j] else others 1 (s.ws.take j) by rw [take_succ_chg hlt]; exact others_snoc _ _ _)
        clear HT
        generalize chgAt s.ws j = ch at f0 f1 f2 f3 HTN
        generalize others 1 (s.ws.take j) = ls at HOr HLN HTN
        go_upto_region 11 with ((with_reducible refine gate_dst (N := 8) rfl ?_); refine box_event ?hg (N := 8) ?hd (cs := #[.int .i64 0, .int .i64 0, .string ⟨#[]⟩, .bool false]) (t := 181) ?hr ?_; (case hd => rfl); (case hg => rfl); (case hr => first | (go_simp; done) | (go_simp; rfl)); intro gb hgb w7 hbox hb; have HXb := Aside0.mk hbox; have HBb := Aside0.mk hb; have HGb := Aside0.mk hgb; have b0 : w7.cell? ⟨gb, 0, none⟩ = some (.int .i64 0) := (blk_cell hbox 0).trans rfl; have b1 : w7.cell? ⟨gb, 1, none⟩ = some (.int .i64 0) := (blk_cell hbox 1).trans rfl; have b2 : w7.cell? ⟨gb, 2, none⟩ = some (.string ⟨#[]⟩) := (blk_cell hbox 2).trans rfl; have b3 : w7.cell? ⟨gb, 3, none⟩ = some (.bool false) := (blk_cell hbox 3).trans rfl; have y0 := blk_frozen hbox 0; have y1 := blk_frozen hbox 1; have y2 := blk_frozen hbox 2; have y3 := blk_frozen hbox 3; clear hgb hbox hb)
        have hput : (((w7.setCell ⟨gb, 0, none⟩ (.int .i64 ch.file)).setCell ⟨gb, 1, none⟩ (.int .i64 (ch.at_ : Int))).setCell ⟨gb, 2, none⟩ (.string ch.text)).setCell ⟨gb, 3, none⟩ (.bool ch.cut) = put4 w7 gb (.int .i64 ch.file) (.int .i64 (ch.at_ : Int)) (.string ch.text) (.bool ch.cut) := rfl
        rw [hput]
        clear hput
        have HX8 := Aside0.mk (put4_blk (a := .int .i64 ch.file) (b := .int .i64 (ch.at_ : Int)) (c := .string ch.text) (d := .bool ch.cut) HXb.out)
        have HB8 := Aside0.mk (HBb.out.setCell (p := ⟨gb, 0, none⟩) (by rw [HGb.out]; exact Nat.le_refl _) (.int .i64 ch.file) |>.setCell (p := ⟨gb, 1, none⟩) (by rw [HGb.out]; exact Nat.le_refl _) (.int .i64 (ch.at_ : Int)) |>.setCell (p := ⟨gb, 2, none⟩) (by rw [HGb.out]; exact Nat.le_refl _) (.string ch.text) |>.setCell (p := ⟨gb, 3, none⟩) (by rw [HGb.out]; exact Nat.le_refl _) (.bool ch.cut))
        change Aside0 (Below wr.heap.size wr (put4 w7 gb (.int .i64 ch.file) (.int .i64 (ch.at_ : Int)) (.string ch.text) (.bool ch.cut))) at HB8
        clear b0 b1 b2 b3 y0 y1 y2 y3 f0 f1 f2 f3 HXb HBb
        generalize put4 w7 gb (.int .i64 ch.file) (.int .i64 (ch.at_ : Int)) (.string ch.text) (.bool ch.cut) = w8 at HX8 HB8 ⊢
        have q0 : w8.cell? ⟨gb, 0, none⟩ = some (.int .i64 ch.file) := (blk_cell HX8.out 0).trans rfl
        have q1 : w8.cell? ⟨gb, 1, none⟩ = some (.int .i64 (ch.at_ : Int)) := (blk_cell HX8.out 1).trans rfl
        have q2 : w8.cell? ⟨gb, 2, none⟩ = some (.string ch.text) := (blk_cell HX8.out 2).trans rfl
        have q3 : w8.cell? ⟨gb, 3, none⟩ = some (.bool ch.cut) := (blk_cell HX8.out 3).trans rfl
        by_cases hne : (ch.file != 1) = true
        · have HNE := Aside0.mk hne
          have hls := HLN.out
          go_wp2_with (first
            | ((with_reducible refine gate_builtin (b := .append) (xs := #[.tmp 38, .tmp 40]) rfl ?_); at_builtin; refine Kd.R_append kC (w0 := w4) w4.heap.size rfl (.tmp 38) (.tmp 40) 148 181 (.agg #[.int .i64 0, .int .i64 0, .string ⟨#[]⟩, .bool false]) 40 rfl Try.underlying148 info181 rfl (by decide) (by omega) (.slice A6 ls.length c6) ls ch _ (fun _ => True) (fun _ => False) rfl rfl ?aP (fun _ hk => hk.elim) ?aF ?aO ?aB ?aS ?aL ?_; (case aP => exact kC_M ch); (case aB => exact below_step HBr.out HB8.out); (case aF => exact (fun _ _ => trivial)); (case aO => exact Kd.R_below HOr.out HB8.out); (case aS => exact below_size (below_step HBr.out HB8.out)); (case aL => omega); intro v1 w9 ho hb hg hat; have HO9 := Aside0.mk ho; have HB9 := Aside0.mk hb; clear ho hb hg hat))
          go_roundw
          case rel => exact ⟨j + 1, by omega, by go_num, ⟨by rw [HTN.out, if_pos HNE.out]; exact HO9.out⟩, HB9⟩
          case measure => simp [intOf]; omega
        · have hne' : (ch.file != 1) = false := by simpa using hne
          have HNE := Aside0.mk hne
          clear hne
          go_wp2_with (fail)
          go_roundw
          case rel => exact ⟨j + 1, by omega, by go_num, ⟨by rw [HTN.out, if_neg HNE.out]; exact Kd.R_below HOr.out HB8.out⟩, ⟨below_step HBr.out HB8.out⟩⟩
          case measure => simp [intOf]; omega
      · obtain rfl : j = s.ws.length := by omega
        rw [List.take_length] at HOr ⊢
        clear hlt hj
        have q4 : wr.cell? ⟨g, 2, none⟩ = some (.slice A4 s.ws.length c4) := (blk_cell (blk_below HX4.out HBr.out) 2).trans rfl
        have z4 := blk_frozen (blk_below HX4.out HBr.out) 2
        go_wp2_with (fail)
        go_ret
        have HN4 := Aside0.mk (Kd.R_lower (Kd.R_mono (Kd.R_bound HOr.out) (ok' := fun k => (O k ∨ w.heap.size ≤ k) ∧ k ≠ g) (fun k hk => ⟨.inr (Nat.le_trans (Nat.le_trans HSZ.out HS4.out) hk.2.1), fun he => absurd (blk_lt HX4.out) (Nat.not_lt.mpr (by rw [← he]; exact hk.2.1))⟩)) (below_size HB4.out))
        refine ⟨by rw [HE.out]; rfl, ?_, (below_then HB4.out (below_size HB4.out) HBr.out).setCell (p := ⟨g, 2, none⟩) HG.out _, (HK4.out.below HBr.out).setCell (p := ⟨g, 2, none⟩) (.inl HO.out) _⟩
        unfold St.synced
        rw [if_pos HE.out]
        exact ⟨_, blk_put (blk_below HX4.out HBr.out) 2 _ rfl, HG.out, .inl HO.out, Kd.R_far HN4.out (fun k hk => hk.2) _⟩
  · have HE := Aside0.mk e0
    rw [e0]
    clear e0
    go_wp2_with (fail)
    go_ret
    refine ⟨by rw [HE.out]; rfl, RD.mono ?_ (fun k hk => .inl hk), HB2.out, HKw.out⟩
    unfold St.synced
    rw [if_neg (by rw [HE.out]; decide)]
    exact HD2.out
end Go.Proofs.Ythaoaaboempajaa.Disk
