-- Lines written for this claim by a program of this session (wip/print). Lean checks them.
import Derived.Test.YthaoaaboempajaaQValueReckonsx0
import Derived.Test.YthaoaaboempajaaQValueReckonsx3
import Derived.Test.YthaoaaboempajaaQValueReckonsx4
import Derived.Test.YthaoaaboempajaaQValueReckonsx5
namespace Go.Proofs.Ythaoaaboempajaa.QValueReckons
open Go.RowKit Go.Proofs.YthaoaaboempajaaW.PrintWords Go.Proofs.YthaoaaboempajaaW.PrintLast Go.Proofs.YthaoaaboempajaaW.PrintMore Go.Proofs.YthaoaaboempajaaX
attribute [local go_sem] max2_int min2_int max_two min_two max_three min_three max_four min_four   -- for this text's walks alone
set_option linter.unusedVariables false
set_option linter.unusedSimpArgs false

/-! ### relstoreref_Reckon: function 41 (a contract of this session's own) -/
/-! ### relstoreref_Reckon: function 41 -/
mutual
def relstoreref_Reckon.j0 : Nat → Int → Bool → Int → Int → ByteArray → Int → Int → ByteArray → Option (Int × Int × ByteArray)
 | 0, _, _, _, _, _, _, _, _ => none
 | k + 1, x0, x16, x206000, x206001, x206002, x207000, x207001, x207002 => if x16 = true then ((relstoreref_null.f).bind fun bt208 => (some (bt208.1, bt208.2.1, bt208.2.2))) else ((relstoreref_longOf.f k x206001).bind fun bt211 => ((relstoreref_longOf.f k x207001).bind fun bt215 => (if x0 = 5 then ((relstoreref_long_plus.f k bt211.1 bt211.2 bt215.1 bt215.2).bind fun bt221 => ((relstoreref_long_value.f k bt221.1 bt221.2).bind fun bt225 => (some (bt225.1, bt225.2.1, bt225.2.2)))) else (if x0 = 6 then ((relstoreref_long_plus.f k bt211.1 bt211.2 (!bt215.1) bt215.2).bind fun bt228 => ((relstoreref_long_value.f k bt228.1 bt228.2).bind fun bt232 => (some (bt232.1, bt232.2.1, bt232.2.2)))) else (if x0 = 7 then ((relstoreref_long_times.f k bt211.1 bt211.2 bt215.1 bt215.2).bind fun bt235 => ((relstoreref_long_value.f k bt235.1 bt235.2).bind fun bt239 => (some (bt239.1, bt239.2.1, bt239.2.2)))) else (if x0 = 8 then (relstoreref_Reckon.j1 k x0 (x0 == 8) x206000 x206001 x206002 x207000 x207001 x207002) else (relstoreref_Reckon.j1 k x0 (x0 == 9) x206000 x206001 x206002 x207000 x207001 x207002)))))))
def relstoreref_Reckon.j1 : Nat → Int → Bool → Int → Int → ByteArray → Int → Int → ByteArray → Option (Int × Int × ByteArray)
 | 0, _, _, _, _, _, _, _, _ => none
 | k + 1, x0, x47, x206000, x206001, x206002, x207000, x207001, x207002 => if x47 = true then ((relstoreref_divided.f k x0 x206001 x207001).bind fun bt242 => (some (bt242.1, bt242.2.1, bt242.2.2))) else ((relstoreref_null.f).bind fun bt245 => (some (bt245.1, bt245.2.1, bt245.2.2)))
end
def relstoreref_Reckon.f (k : Nat) (a0 : Int) (a1_0 : Int) (a1_1 : Int) (a1_2 : ByteArray) (a2_0 : Int) (a2_1 : Int) (a2_2 : ByteArray) : Option (Int × Int × ByteArray) := if a1_0 = 2 then (relstoreref_Reckon.j0 k a0 (a2_0 != 2) a1_0 a1_1 a1_2 a2_0 a2_1 a2_2) else (relstoreref_Reckon.j0 k a0 true a1_0 a1_1 a1_2 a2_0 a2_1 a2_2)
theorem relstoreref_Reckon.mono_l : ∀ k, (∀ y0 y1 y2 y3 y4 y5 y6 y7, LeO (relstoreref_Reckon.j0 k y0 y1 y2 y3 y4 y5 y6 y7) (relstoreref_Reckon.j0 (k + 1) y0 y1 y2 y3 y4 y5 y6 y7)) ∧ (∀ y0 y1 y2 y3 y4 y5 y6 y7, LeO (relstoreref_Reckon.j1 k y0 y1 y2 y3 y4 y5 y6 y7) (relstoreref_Reckon.j1 (k + 1) y0 y1 y2 y3 y4 y5 y6 y7))
 | 0 => ⟨fun _ _ _ _ _ _ _ _ r h => by simp [relstoreref_Reckon.j0] at h, fun _ _ _ _ _ _ _ _ r h => by simp [relstoreref_Reckon.j1] at h⟩
 | k + 1 => by
  obtain ⟨ih0, ih1⟩ := relstoreref_Reckon.mono_l k
  refine ⟨?_, ?_⟩
  ·intro y0 y1 y2 y3 y4 y5 y6 y7
   unfold relstoreref_Reckon.j0
   repeat' first
   | (with_reducible exact ih0 _ _ _ _ _ _ _ _)
   | (with_reducible exact ih1 _ _ _ _ _ _ _ _)
   | (with_reducible exact relstoreref_divided.mono _ _ _ _)
   | (with_reducible exact relstoreref_longOf.mono _ _)
   | (with_reducible exact relstoreref_long_plus.mono _ _ _ _ _)
   | (with_reducible exact relstoreref_long_times.mono _ _ _ _ _)
   | (with_reducible exact relstoreref_long_value.mono _ _ _)
   | (with_reducible exact LeO.refl _)
   | (with_reducible exact LeO.none _)
   | (with_reducible refine LeO.ite ?_ ?_)
   | (with_reducible refine LeO.bind ?_ (fun _ => ?_))
   | exact ih0 _ _ _ _ _ _ _ _
   | exact ih1 _ _ _ _ _ _ _ _
   | exact relstoreref_divided.mono _ _ _ _
   | exact relstoreref_longOf.mono _ _
   | exact relstoreref_long_plus.mono _ _ _ _ _
   | exact relstoreref_long_times.mono _ _ _ _ _
   | exact relstoreref_long_value.mono _ _ _
   | exact LeO.none _
   | refine LeO.ite ?_ ?_
   | refine LeO.bind ?_ (fun _ => ?_)
  ·intro y0 y1 y2 y3 y4 y5 y6 y7
   unfold relstoreref_Reckon.j1
   repeat' first
   | (with_reducible exact ih0 _ _ _ _ _ _ _ _)
   | (with_reducible exact ih1 _ _ _ _ _ _ _ _)
   | (with_reducible exact relstoreref_divided.mono _ _ _ _)
   | (with_reducible exact relstoreref_longOf.mono _ _)
   | (with_reducible exact relstoreref_long_plus.mono _ _ _ _ _)
   | (with_reducible exact relstoreref_long_times.mono _ _ _ _ _)
   | (with_reducible exact relstoreref_long_value.mono _ _ _)
   | (with_reducible exact LeO.refl _)
   | (with_reducible exact LeO.none _)
   | (with_reducible refine LeO.ite ?_ ?_)
   | (with_reducible refine LeO.bind ?_ (fun _ => ?_))
   | exact ih0 _ _ _ _ _ _ _ _
   | exact ih1 _ _ _ _ _ _ _ _
   | exact relstoreref_divided.mono _ _ _ _
   | exact relstoreref_longOf.mono _ _
   | exact relstoreref_long_plus.mono _ _ _ _ _
   | exact relstoreref_long_times.mono _ _ _ _ _
   | exact relstoreref_long_value.mono _ _ _
   | exact LeO.none _
   | refine LeO.ite ?_ ?_
   | refine LeO.bind ?_ (fun _ => ?_)
theorem relstoreref_Reckon.mono : ∀ a0 a1 a2 a3 a4 a5 a6 k, LeO (relstoreref_Reckon.f k a0 a1 a2 a3 a4 a5 a6) (relstoreref_Reckon.f (k + 1) a0 a1 a2 a3 a4 a5 a6) := by
 intro a0 a1 a2 a3 a4 a5 a6 k
 obtain ⟨ih0, ih1⟩ := relstoreref_Reckon.mono_l k
 unfold relstoreref_Reckon.f
 repeat' first
   | (with_reducible exact ih0 _ _ _ _ _ _ _ _)
   | (with_reducible exact ih1 _ _ _ _ _ _ _ _)
   | (with_reducible exact relstoreref_divided.mono _ _ _ _)
   | (with_reducible exact relstoreref_longOf.mono _ _)
   | (with_reducible exact relstoreref_long_plus.mono _ _ _ _ _)
   | (with_reducible exact relstoreref_long_times.mono _ _ _ _ _)
   | (with_reducible exact relstoreref_long_value.mono _ _ _)
   | (with_reducible exact LeO.refl _)
   | (with_reducible exact LeO.none _)
   | (with_reducible refine LeO.ite ?_ ?_)
   | (with_reducible refine LeO.bind ?_ (fun _ => ?_))
   | exact ih0 _ _ _ _ _ _ _ _
   | exact ih1 _ _ _ _ _ _ _ _
   | exact relstoreref_divided.mono _ _ _ _
   | exact relstoreref_longOf.mono _ _
   | exact relstoreref_long_plus.mono _ _ _ _ _
   | exact relstoreref_long_times.mono _ _ _ _ _
   | exact relstoreref_long_value.mono _ _ _
   | exact LeO.none _
   | refine LeO.ite ?_ ?_
   | refine LeO.bind ?_ (fun _ => ?_)
def relstoreref_Reckon.T3 : Bool × List (List Nat × List Nat) := (true, [([], []), ([0], [0]), ([1], [1]), ([], []), ([3], [3]), ([4, 2], [4]), ([], []), ([], []), ([6, 2, 5, 0, 1, 2, 6, 7], [2, 6]), ([7, 5, 8, 0, 1, 2, 3, 4, 5, 6, 7, 8], [5, 7])])
def relstoreref_Reckon.B3 : List Nat := [0, 1, 3, 0, 8, 31, 0, 0, 255, 511]
theorem relstoreref_Reckon.tab3 : rtab .any (opsOf Try.f41 3) = relstoreref_Reckon.T3 := by kernel_rfl
theorem relstoreref_Reckon.bits3 : waitsOk relstoreref_Reckon.T3.2 relstoreref_Reckon.B3 = true := by kernel_rfl
set_option maxHeartbeats 8000000 in
set_option maxRecDepth 100000 in
theorem relstoreref_Reckon.calls (k : Nat) (a0 : Int) (a1_0 : Int) (a1_1 : Int) (a1_2 : ByteArray) (a2_0 : Int) (a2_1 : Int) (a2_2 : ByteArray) (r1 : Int) (r2 : Int) (r3 : ByteArray) (w : World) (h : relstoreref_Reckon.f k a0 a1_0 a1_1 a1_2 a2_0 a2_1 a2_2 = some (r1, r2, r3)) :
  Calls Try.prog 41 #[.int .i64 a0, .agg #[.int .i64 a1_0, .int .i64 a1_1, .string a1_2], .agg #[.int .i64 a2_0, .int .i64 a2_1, .string a2_2]] w fun e w' => e = .returned (.agg #[.int .i64 r1, .int .i64 r2, .string r3]) ∧ Below w.heap.size w w' := by
 have hu29 := Try.underlying29
 have hu129 := Try.underlying129
 have HB := Aside0.mk (Below.refl w.heap.size w)
 have H : (if a1_0 = 2 then (relstoreref_Reckon.j0 k a0 (a2_0 != 2) a1_0 a1_1 a1_2 a2_0 a2_1 a2_2) else (relstoreref_Reckon.j0 k a0 true a1_0 a1_1 a1_2 a2_0 a2_1 a2_2)) = some (r1, r2, r3) := h
 clear h
 have HC4 := Aside0.mk H
 clear H
 go_enter Try.func41, Try.ntmps41
 go_upto_region 1 with (first | ((with_reducible refine gate_dst (N := 4) rfl ?_); refine box_event ?hg (N := 4) ?hd (cs := #[.int .i64 a1_0, .int .i64 a1_1, .string a1_2]) (t := 29) ?hr ?_; (case hd => rfl); (case hg => rfl); (case hr => first | (go_simp; done) | (go_simp; rfl)); intro gb205 hg w5 hbox hb; have n0_ := Aside0.mk (below_step (by repeat (first | (with_reducible first | exact HB.out | apply below_alloc | apply pw_below_drewN | apply below_drew1) | exact HB.out)) hb); have n1_ := Aside0.mk (hbox); have n2_ := Aside0.mk ((by rw [hg]; exact (below_size (by repeat (first | (with_reducible first | exact HB.out | apply below_alloc | apply pw_below_drewN | apply below_drew1) | exact HB.out))) : w.heap.size ≤ gb205)); have n3_ := Aside0.mk ((by rw [hg]; exact (below_size (by repeat (first | (with_reducible first | exact HB.out | apply below_alloc | apply pw_below_drewN | apply below_drew1) | exact HB.out))) : w.heap.size ≤ gb205)); clear HB; have HB := n0_; have BK205 := n1_; have GW205 := n2_; have GE205 := n3_; clear n0_ n1_ n2_ n3_; clear hb hbox hg) | ((with_reducible refine gate_dst (N := 5) rfl ?_); refine box_event ?hg (N := 5) ?hd (cs := #[.int .i64 a2_0, .int .i64 a2_1, .string a2_2]) (t := 29) ?hr ?_; (case hd => rfl); (case hg => rfl); (case hr => first | (go_simp; done) | (go_simp; rfl)); intro gb206 hg w6 hbox hb; have n0_ := Aside0.mk (blk_below (g := gb205) (o := .cells #[.int .i64 a1_0, .int .i64 a1_1, .string a1_2] 29 (0, 0)) (by (with_reducible repeat (first | refine blk_drewN ?_ _ | refine blk_drew ?_ | refine blk_alloc ?_ _)); exact BK205.out) hb); have n1_ := Aside0.mk (below_step (by repeat (first | (with_reducible first | exact HB.out | apply below_alloc | apply pw_below_drewN | apply below_drew1 | refine below_set ?_ GE205.out) | exact HB.out)) hb); have n2_ := Aside0.mk (hbox); have n3_ := Aside0.mk ((by rw [hg]; exact (below_size (by repeat (first | (with_reducible first | exact HB.out | apply below_alloc | apply pw_below_drewN | apply below_drew1 | refine below_set ?_ GE205.out) | exact HB.out))) : w.heap.size ≤ gb206)); have n4_ := Aside0.mk ((by rw [hg]; exact (below_size (by repeat (first | (with_reducible first | exact HB.out | apply below_alloc | apply pw_below_drewN | apply below_drew1 | refine below_set ?_ GE205.out) | exact HB.out))) : w.heap.size ≤ gb206)); have n5_ := Aside0.mk ((by rw [hg]; exact Nat.ne_of_lt (blk_lt (g := gb205) (o := .cells #[.int .i64 a1_0, .int .i64 a1_1, .string a1_2] 29 (0, 0)) (by (with_reducible repeat (first | refine blk_drewN ?_ _ | refine blk_drew ?_ | refine blk_alloc ?_ _)); exact BK205.out)) : gb205 ≠ gb206)); have n6_ := Aside0.mk ((by rw [hg]; exact Nat.ne_of_gt (blk_lt (g := gb205) (o := .cells #[.int .i64 a1_0, .int .i64 a1_1, .string a1_2] 29 (0, 0)) (by (with_reducible repeat (first | refine blk_drewN ?_ _ | refine blk_drew ?_ | refine blk_alloc ?_ _)); exact BK205.out)) : gb206 ≠ gb205)); clear BK205; clear HB; have BK205 := n0_; have HB := n1_; have BK206 := n2_; have GW206 := n3_; have GE206 := n4_; have NB205_206 := n5_; have NB206_205 := n6_; clear n0_ n1_ n2_ n3_ n4_ n5_ n6_; clear hb hbox hg) | ((with_reducible refine gate_dst (N := 6) rfl ?_); refine box_event ?hg (N := 6) ?hd (cs := #[.int .i64 0, .int .i64 0, .string (⟨#[]⟩ : ByteArray)]) (t := 29) ?hr ?_; (case hd => rfl); (case hg => rfl); (case hr => first | (go_simp; done) | (go_simp; rfl)); intro gb207 hg w7 hbox hb; have n0_ := Aside0.mk (blk_below (g := gb205) (o := .cells #[.int .i64 a1_0, .int .i64 a1_1, .string a1_2] 29 (0, 0)) (by (with_reducible repeat (first | refine blk_drewN ?_ _ | refine blk_drew ?_ | refine blk_alloc ?_ _)); exact BK205.out) hb); have n1_ := Aside0.mk (blk_below (g := gb206) (o := .cells #[.int .i64 a2_0, .int .i64 a2_1, .string a2_2] 29 (0, 0)) (by (with_reducible repeat (first | refine blk_drewN ?_ _ | refine blk_drew ?_ | refine blk_alloc ?_ _)); exact BK206.out) hb); have n2_ := Aside0.mk (below_step (by repeat (first | (with_reducible first | exact HB.out | apply below_alloc | apply pw_below_drewN | apply below_drew1 | refine below_set ?_ GE205.out | refine below_set ?_ GE206.out) | exact HB.out)) hb); have n3_ := Aside0.mk (hbox); have n4_ := Aside0.mk ((by rw [hg]; exact (below_size (by repeat (first | (with_reducible first | exact HB.out | apply below_alloc | apply pw_below_drewN | apply below_drew1 | refine below_set ?_ GE205.out | refine below_set ?_ GE206.out) | exact HB.out))) : w.heap.size ≤ gb207)); have n5_ := Aside0.mk ((by rw [hg]; exact (below_size (by repeat (first | (with_reducible first | exact HB.out | apply below_alloc | apply pw_below_drewN | apply below_drew1 | refine below_set ?_ GE205.out | refine below_set ?_ GE206.out) | exact HB.out))) : w.heap.size ≤ gb207)); have n6_ := Aside0.mk ((by rw [hg]; exact Nat.ne_of_lt (blk_lt (g := gb205) (o := .cells #[.int .i64 a1_0, .int .i64 a1_1, .string a1_2] 29 (0, 0)) (by (with_reducible repeat (first | refine blk_drewN ?_ _ | refine blk_drew ?_ | refine blk_alloc ?_ _)); exact BK205.out)) : gb205 ≠ gb207)); have n7_ := Aside0.mk ((by rw [hg]; exact Nat.ne_of_gt (blk_lt (g := gb205) (o := .cells #[.int .i64 a1_0, .int .i64 a1_1, .string a1_2] 29 (0, 0)) (by (with_reducible repeat (first | refine blk_drewN ?_ _ | refine blk_drew ?_ | refine blk_alloc ?_ _)); exact BK205.out)) : gb207 ≠ gb205)); have n8_ := Aside0.mk ((by rw [hg]; exact Nat.ne_of_lt (blk_lt (g := gb206) (o := .cells #[.int .i64 a2_0, .int .i64 a2_1, .string a2_2] 29 (0, 0)) (by (with_reducible repeat (first | refine blk_drewN ?_ _ | refine blk_drew ?_ | refine blk_alloc ?_ _)); exact BK206.out)) : gb206 ≠ gb207)); have n9_ := Aside0.mk ((by rw [hg]; exact Nat.ne_of_gt (blk_lt (g := gb206) (o := .cells #[.int .i64 a2_0, .int .i64 a2_1, .string a2_2] 29 (0, 0)) (by (with_reducible repeat (first | refine blk_drewN ?_ _ | refine blk_drew ?_ | refine blk_alloc ?_ _)); exact BK206.out)) : gb207 ≠ gb206)); clear BK205; clear BK206; clear HB; have BK205 := n0_; have BK206 := n1_; have HB := n2_; have BK207 := n3_; have GW207 := n4_; have GE207 := n5_; have NB205_207 := n6_; have NB207_205 := n7_; have NB206_207 := n8_; have NB207_206 := n9_; clear n0_ n1_ n2_ n3_ n4_ n5_ n6_ n7_ n8_ n9_; clear hb hbox hg))
 (try simp only [Act.put, List.setIfInBounds_toArray, List.set_cons_zero, List.set_cons_succ])
 go_cut [16] (fun v16 wc => ∃ (kq : Nat) (x16_3 : Bool), v16 = .bool x16_3 ∧ Aside0 (relstoreref_Reckon.j0 kq a0 x16_3 a1_0 a1_1 a1_2 a2_0 a2_1 a2_2 = some (r1, r2, r3)) ∧ Aside0 (kq ≤ k) ∧ Aside0 (wc.heap[gb205]? = some (.cells #[.int .i64 a1_0, .int .i64 a1_1, .string a1_2] 29 (0, 0))) ∧ Aside0 (wc.heap[gb206]? = some (.cells #[.int .i64 a2_0, .int .i64 a2_1, .string a2_2] 29 (0, 0))) ∧ Aside0 (wc.heap[gb207]? = some (.cells #[.int .i64 0, .int .i64 0, .string (⟨#[]⟩ : ByteArray)] 29 (0, 0))) ∧ Aside0 (Below w.heap.size w wc))
 case first =>
  have H := HC4.out
  clear HC4
  by_cases c8 : a1_0 = 2
  ·rw [if_pos c8] at H
   have c8b0 : (a1_0 == 2) = true := beq_iff_eq.mpr c8
   have c8b1 : (a1_0 != 2) = false := bne_eq_false_iff_eq.mpr c8
   clear c8
   (first | rw [c8b0] | (simp only [i64_w, i32_w]; rw [c8b0]) | skip)
   have H' := Aside0.mk H
   clear H
   have hnb9 := NB205_206.out
   have hnc9 := NB206_205.out
   have hnb10 := NB205_207.out
   have hnc10 := NB207_205.out
   have hcz11_0 : w7.cell? ⟨gb205, 0, none⟩ = some (.int .i64 a1_0) := (blk_cell BK205.out 0).trans rfl
   have hcz11_1 : w7.cell? ⟨gb205, 1, none⟩ = some (.int .i64 a1_1) := (blk_cell BK205.out 1).trans rfl
   have hcz11_2 : w7.cell? ⟨gb205, 2, none⟩ = some (.string a1_2) := (blk_cell BK205.out 2).trans rfl
   have hfz11_0 := blk_frozen BK205.out 0
   have hfz11_1 := blk_frozen BK205.out 1
   have hfz11_2 := blk_frozen BK205.out 2
   have hnb12 := NB206_207.out
   have hnc12 := NB207_206.out
   have hcz13_0 : w7.cell? ⟨gb206, 0, none⟩ = some (.int .i64 a2_0) := (blk_cell BK206.out 0).trans rfl
   have hcz13_1 : w7.cell? ⟨gb206, 1, none⟩ = some (.int .i64 a2_1) := (blk_cell BK206.out 1).trans rfl
   have hcz13_2 : w7.cell? ⟨gb206, 2, none⟩ = some (.string a2_2) := (blk_cell BK206.out 2).trans rfl
   have hfz13_0 := blk_frozen BK206.out 0
   have hfz13_1 := blk_frozen BK206.out 1
   have hfz13_2 := blk_frozen BK206.out 2
   go_wp2
   go_meet
   case rel => exact ⟨_, ((a2_0 != 2)), (by first | rfl | (simp; done) | (simp [*]; done) | exact bq1 _ _ | exact bq2 _ _ | exact congrArg Value.bool (bq2 _ _) | exact congrArg Value.bool (bq1 _ _) | exact congrArg Value.bool (bq1' _ _) | exact bq1' _ _ | exact congrArg Value.bool (bq2' _ _) | exact bq2' _ _), H', ⟨by first | omega | exact Nat.le_refl _⟩, ⟨by (with_reducible repeat (first | refine blk_drewN ?_ _ | refine blk_drew ?_ | refine blk_alloc ?_ _)); exact BK205.out⟩, ⟨by (with_reducible repeat (first | refine blk_drewN ?_ _ | refine blk_drew ?_ | refine blk_alloc ?_ _)); exact BK206.out⟩, ⟨by (with_reducible repeat (first | refine blk_drewN ?_ _ | refine blk_drew ?_ | refine blk_alloc ?_ _)); exact BK207.out⟩, ⟨by repeat (first | (with_reducible first | exact HB.out | apply below_alloc | apply pw_below_drewN | apply below_drew1 | refine below_set ?_ GE205.out | refine below_set ?_ GE206.out | refine below_set ?_ GE207.out) | exact HB.out)⟩⟩
  ·rw [if_neg c8] at H
   have c8b0 : (a1_0 == 2) = false := beq_eq_false_iff_ne.mpr c8
   have c8b1 : (a1_0 != 2) = true := bne_iff_ne.mpr c8
   (first | rw [c8b0] | (simp only [i64_w, i32_w]; rw [c8b0]) | skip)
   have H' := Aside0.mk H
   clear H
   have hnb14 := NB205_206.out
   have hnc14 := NB206_205.out
   have hnb15 := NB205_207.out
   have hnc15 := NB207_205.out
   have hcz16_0 : w7.cell? ⟨gb205, 0, none⟩ = some (.int .i64 a1_0) := (blk_cell BK205.out 0).trans rfl
   have hcz16_1 : w7.cell? ⟨gb205, 1, none⟩ = some (.int .i64 a1_1) := (blk_cell BK205.out 1).trans rfl
   have hcz16_2 : w7.cell? ⟨gb205, 2, none⟩ = some (.string a1_2) := (blk_cell BK205.out 2).trans rfl
   have hfz16_0 := blk_frozen BK205.out 0
   have hfz16_1 := blk_frozen BK205.out 1
   have hfz16_2 := blk_frozen BK205.out 2
   go_wp2
   go_meet
   case rel => exact ⟨_, (true), (by first | rfl | (simp; done) | (simp [*]; done) | exact bq1 _ _ | exact bq2 _ _ | exact congrArg Value.bool (bq2 _ _) | exact congrArg Value.bool (bq1 _ _) | exact congrArg Value.bool (bq1' _ _) | exact bq1' _ _ | exact congrArg Value.bool (bq2' _ _) | exact bq2' _ _), H', ⟨by first | omega | exact Nat.le_refl _⟩, ⟨by (with_reducible repeat (first | refine blk_drewN ?_ _ | refine blk_drew ?_ | refine blk_alloc ?_ _)); exact BK205.out⟩, ⟨by (with_reducible repeat (first | refine blk_drewN ?_ _ | refine blk_drew ?_ | refine blk_alloc ?_ _)); exact BK206.out⟩, ⟨by (with_reducible repeat (first | refine blk_drewN ?_ _ | refine blk_drew ?_ | refine blk_alloc ?_ _)); exact BK207.out⟩, ⟨by repeat (first | (with_reducible first | exact HB.out | apply below_alloc | apply pw_below_drewN | apply below_drew1 | refine below_set ?_ GE205.out | refine below_set ?_ GE206.out | refine below_set ?_ GE207.out) | exact HB.out)⟩⟩
 case rest =>
  clear HC4
  try clear c1
  try clear q1
  try clear p2
  try clear q2
  try clear c4
  try clear c8
  try clear c8b0
  try clear c8b1
  try clear c9
  try clear c10
  try clear c12
  try clear c14
  try clear c15
  try clear hcz11_0
  try clear hcz11_1
  try clear hcz11_2
  try clear hcz13_0
  try clear hcz13_1
  try clear hcz13_2
  try clear hcz16_0
  try clear hcz16_1
  try clear hcz16_2
  try clear hfz11_0
  try clear hfz11_1
  try clear hfz11_2
  try clear hfz13_0
  try clear hfz13_1
  try clear hfz13_2
  try clear hfz16_0
  try clear hfz16_1
  try clear hfz16_2
  obtain ⟨kq, x16_3, rfl, HA, HJ3, BK205, BK206, BK207, HB⟩ := hcut
  cases kq with
  | zero => exact absurd HA.out (by simp [relstoreref_Reckon.j0])
  | succ kj3 =>
   have H := HA.out
   clear HA
   simp only [relstoreref_Reckon.j0] at H
   by_cases c17 : x16_3 = true
   ·subst c17
    have H1 : ((relstoreref_null.f).bind fun bt208 => (some (bt208.1, bt208.2.1, bt208.2.2))) = some (r1, r2, r3) := by rw [if_pos rfl] at H; exact H
    clear H
    have H := H1
    clear H1
    replace H := Option.bind_eq_some_iff.mp H
    obtain ⟨⟨t208, t209, t210⟩, A180, H⟩ := H
    replace H : (some (t208, t209, t210)) = some (r1, r2, r3) := H
    have A18 := Aside0.mk A180
    clear A180
    simp only [Option.some.injEq, Prod.mk.injEq] at H
    obtain ⟨rfl, rfl, rfl⟩ := H
    go_wp2_with (first | ((with_reducible refine gate_callee (f := 102) rfl ?_); refine goesL_ (some 17) rfl rfl Try.func102 (by kernel_rfl) rfl #[] rfl (by (try simp only [List.map_toArray, List.map_cons, List.map_nil]); first | done | rfl | (simp only [List.length_drop, List.length_take]; rfl) | (simp only [Int.ofNat_lt, Int.ofNat_le]; done) | (simp only [Int.ofNat_lt, Int.ofNat_le]; rfl) | (simp only [ByteArray.size_append, Int.natCast_add]; rfl)) ?_; (with_reducible refine (relstoreref_null.calls  t208 t209 t210 _ A18.out).mono ?_); rintro e w19 ⟨rfl, hb⟩; refine ⟨_, rfl, ?_⟩; have n0_ := Aside0.mk (blk_below (g := gb205) (o := .cells #[.int .i64 a1_0, .int .i64 a1_1, .string a1_2] 29 (0, 0)) (by (with_reducible repeat (first | refine blk_drewN ?_ _ | refine blk_drew ?_ | refine blk_alloc ?_ _)); exact BK205.out) hb); have n1_ := Aside0.mk (blk_below (g := gb206) (o := .cells #[.int .i64 a2_0, .int .i64 a2_1, .string a2_2] 29 (0, 0)) (by (with_reducible repeat (first | refine blk_drewN ?_ _ | refine blk_drew ?_ | refine blk_alloc ?_ _)); exact BK206.out) hb); have n2_ := Aside0.mk (blk_below (g := gb207) (o := .cells #[.int .i64 0, .int .i64 0, .string (⟨#[]⟩ : ByteArray)] 29 (0, 0)) (by (with_reducible repeat (first | refine blk_drewN ?_ _ | refine blk_drew ?_ | refine blk_alloc ?_ _)); exact BK207.out) hb); have n3_ := Aside0.mk (below_step (by repeat (first | (with_reducible first | exact HB.out | apply below_alloc | apply pw_below_drewN | apply below_drew1 | refine below_set ?_ GE205.out | refine below_set ?_ GE206.out | refine below_set ?_ GE207.out) | exact HB.out)) hb); clear BK205; clear BK206; clear BK207; clear HB; have BK205 := n0_; have BK206 := n1_; have BK207 := n2_; have HB := n3_; clear n0_ n1_ n2_ n3_; (try clear hb); (try clear hb2); (try clear hk); (try clear hi); have hnb20 := NB207_205.out; have hnc20 := NB205_207.out; have hnb21 := NB207_206.out; have hnc21 := NB206_207.out; have hcz22_0 : w19.cell? ⟨gb207, 0, none⟩ = some (.int .i64 0) := (blk_cell BK207.out 0).trans rfl; have hcz22_1 : w19.cell? ⟨gb207, 1, none⟩ = some (.int .i64 0) := (blk_cell BK207.out 1).trans rfl; have hcz22_2 : w19.cell? ⟨gb207, 2, none⟩ = some (.string (⟨#[]⟩ : ByteArray)) := (blk_cell BK207.out 2).trans rfl; have hfz22_0 := blk_frozen BK207.out 0; have hfz22_1 := blk_frozen BK207.out 1; have hfz22_2 := blk_frozen BK207.out 2))
    refine bodyPost_ret (results_cell_row rfl _ _ gb207 29 #[.int .i64 t208, .int .i64 t209, .string t210] (0, 0) _ rfl (by (with_reducible repeat (first | refine blk_drewN ?_ _ | refine blk_drew ?_ | refine blk_alloc ?_ _)); refine blk_put (cs := #[.int .i64 t208, .int .i64 t209, .string (⟨#[]⟩ : ByteArray)]) ?_ 2 _ rfl; (with_reducible repeat (first | refine blk_drewN ?_ _ | refine blk_drew ?_ | refine blk_alloc ?_ _)); refine blk_put (cs := #[.int .i64 t208, .int .i64 0, .string (⟨#[]⟩ : ByteArray)]) ?_ 1 _ rfl; (with_reducible repeat (first | refine blk_drewN ?_ _ | refine blk_drew ?_ | refine blk_alloc ?_ _)); refine blk_put (cs := #[.int .i64 0, .int .i64 0, .string (⟨#[]⟩ : ByteArray)]) ?_ 0 _ rfl; (with_reducible repeat (first | refine blk_drewN ?_ _ | refine blk_drew ?_ | refine blk_alloc ?_ _)); exact BK207.out) Try.underlying29 rfl (by kernel_rfl)) rfl ?_
    exact ⟨by first | rfl | (simp [errW_none, errW_some] <;> rfl) | (simp [*, errW_none, errW_some] <;> rfl), by repeat (first | (with_reducible first | exact HB.out | apply below_alloc | apply pw_below_drewN | apply below_drew1 | refine below_set ?_ GE205.out | refine below_set ?_ GE206.out | refine below_set ?_ GE207.out) | exact HB.out)⟩
   ·replace c17 := Bool.eq_false_iff.mpr c17
    subst c17
    have H1 : ((relstoreref_longOf.f kj3 a1_1).bind fun bt211 => ((relstoreref_longOf.f kj3 a2_1).bind fun bt215 => (if a0 = 5 then ((relstoreref_long_plus.f kj3 bt211.1 bt211.2 bt215.1 bt215.2).bind fun bt221 => ((relstoreref_long_value.f kj3 bt221.1 bt221.2).bind fun bt225 => (some (bt225.1, bt225.2.1, bt225.2.2)))) else (if a0 = 6 then ((relstoreref_long_plus.f kj3 bt211.1 bt211.2 (!bt215.1) bt215.2).bind fun bt228 => ((relstoreref_long_value.f kj3 bt228.1 bt228.2).bind fun bt232 => (some (bt232.1, bt232.2.1, bt232.2.2)))) else (if a0 = 7 then ((relstoreref_long_times.f kj3 bt211.1 bt211.2 bt215.1 bt215.2).bind fun bt235 => ((relstoreref_long_value.f kj3 bt235.1 bt235.2).bind fun bt239 => (some (bt239.1, bt239.2.1, bt239.2.2)))) else (if a0 = 8 then (relstoreref_Reckon.j1 kj3 a0 (a0 == 8) a1_0 a1_1 a1_2 a2_0 a2_1 a2_2) else (relstoreref_Reckon.j1 kj3 a0 (a0 == 9) a1_0 a1_1 a1_2 a2_0 a2_1 a2_2))))))) = some (r1, r2, r3) := by rw [if_neg (show ¬ (false = true) by decide)] at H; exact H
    clear H
    have H := H1
    clear H1
    replace H := Option.bind_eq_some_iff.mp H
    obtain ⟨⟨t211, t212⟩, A230, H⟩ := H
    replace H : ((relstoreref_longOf.f kj3 a2_1).bind fun bt215 => (if a0 = 5 then ((relstoreref_long_plus.f kj3 t211 t212 bt215.1 bt215.2).bind fun bt221 => ((relstoreref_long_value.f kj3 bt221.1 bt221.2).bind fun bt225 => (some (bt225.1, bt225.2.1, bt225.2.2)))) else (if a0 = 6 then ((relstoreref_long_plus.f kj3 t211 t212 (!bt215.1) bt215.2).bind fun bt228 => ((relstoreref_long_value.f kj3 bt228.1 bt228.2).bind fun bt232 => (some (bt232.1, bt232.2.1, bt232.2.2)))) else (if a0 = 7 then ((relstoreref_long_times.f kj3 t211 t212 bt215.1 bt215.2).bind fun bt235 => ((relstoreref_long_value.f kj3 bt235.1 bt235.2).bind fun bt239 => (some (bt239.1, bt239.2.1, bt239.2.2)))) else (if a0 = 8 then (relstoreref_Reckon.j1 kj3 a0 (a0 == 8) a1_0 a1_1 a1_2 a2_0 a2_1 a2_2) else (relstoreref_Reckon.j1 kj3 a0 (a0 == 9) a1_0 a1_1 a1_2 a2_0 a2_1 a2_2)))))) = some (r1, r2, r3) := H
    have A23 := Aside0.mk A230
    clear A230
    replace H := Option.bind_eq_some_iff.mp H
    obtain ⟨⟨t215, t216⟩, A240, H⟩ := H
    replace H : (if a0 = 5 then ((relstoreref_long_plus.f kj3 t211 t212 t215 t216).bind fun bt221 => ((relstoreref_long_value.f kj3 bt221.1 bt221.2).bind fun bt225 => (some (bt225.1, bt225.2.1, bt225.2.2)))) else (if a0 = 6 then ((relstoreref_long_plus.f kj3 t211 t212 (!t215) t216).bind fun bt228 => ((relstoreref_long_value.f kj3 bt228.1 bt228.2).bind fun bt232 => (some (bt232.1, bt232.2.1, bt232.2.2)))) else (if a0 = 7 then ((relstoreref_long_times.f kj3 t211 t212 t215 t216).bind fun bt235 => ((relstoreref_long_value.f kj3 bt235.1 bt235.2).bind fun bt239 => (some (bt239.1, bt239.2.1, bt239.2.2)))) else (if a0 = 8 then (relstoreref_Reckon.j1 kj3 a0 (a0 == 8) a1_0 a1_1 a1_2 a2_0 a2_1 a2_2) else (relstoreref_Reckon.j1 kj3 a0 (a0 == 9) a1_0 a1_1 a1_2 a2_0 a2_1 a2_2))))) = some (r1, r2, r3) := H
    have A24 := Aside0.mk A240
    clear A240
    try go_wp2
    have n0_ := Aside0.mk (blk_drew BK205.out)
    have n1_ := Aside0.mk (blk_drew BK206.out)
    have n2_ := Aside0.mk (blk_drew BK207.out)
    have n3_ := Aside0.mk (below_drew1 HB.out)
    clear BK205
    clear BK206
    clear BK207
    clear HB
    have BK205 := n0_
    have BK206 := n1_
    have BK207 := n2_
    have HB := n3_
    clear n0_ n1_ n2_ n3_
    refine start_ (n := 10) (S := fun w' => True) (ds := []) #[false, false, false, false, false, false, false, false, false, false] (by kernel_rfl) rfl rfl trivial (fun hHeld => ?_); refine with_tabW relstoreref_Reckon.tab3 relstoreref_Reckon.bits3 (fun HT_ HW_ => ?_)
    generalize wc.drew = w28 at BK205 BK206 BK207 HB hHeld ⊢
    refine pure_ (i := 0) (N := some 18) (v := ?_) (a' := ?_) #[true, false, false, false, false, false, false, false, false, false] rfl rfl (any_of HT_.out (by kernel_rfl)) (fun _ _ _ h => h) (Or.inl ⟨by rfl, ?_⟩) ?_ ?_
    rotate_left
    ·intro w'
     go_simp
     with_reducible rfl
    rotate_left
    ·simp only [Act.put, List.setIfInBounds_toArray, List.set_cons_zero, List.set_cons_succ, i64_w, i32_w]
     rfl
    refine pure_ (i := 3) (N := some 21) (v := ?_) (a' := ?_) #[true, false, false, true, false, false, false, false, false, false] rfl rfl (any_of HT_.out (by kernel_rfl)) (fun _ _ _ h => h) (Or.inl ⟨by rfl, ?_⟩) ?_ ?_
    rotate_left
    ·intro w'
     go_simp
     with_reducible rfl
    rotate_left
    ·simp only [Act.put, List.setIfInBounds_toArray, List.set_cons_zero, List.set_cons_succ, i64_w, i32_w]
     rfl
    refine inv_at [1, 2, 4, 5, 6, 7, 8, 9] (fun a0_ b a w' => ∃ (v213 : Value) (v217 : Value) (gb219 : Nat) (gb220 : Nat) (m2_ : Value) (m5_ : Value) (m6_ : Value) (m7_ : Value), a = putSel a0_ b [(1, 19, .int .i64 a1_1), (2, 20, m2_), (4, 22, .int .i64 a2_1), (5, 23, m5_), (6, 7, m6_), (7, 8, m7_)] ∧ (w'.heap[gb205]? = some (.cells #[.int .i64 a1_0, .int .i64 a1_1, .string a1_2] 29 (0, 0))) ∧ (w'.heap[gb206]? = some (.cells #[.int .i64 a2_0, .int .i64 a2_1, .string a2_2] 29 (0, 0))) ∧ (w'.heap[gb207]? = some (.cells #[.int .i64 0, .int .i64 0, .string (⟨#[]⟩ : ByteArray)] 29 (0, 0))) ∧ (Below w.heap.size w w') ∧ (b 6 = true → b 7 = true → gb220 ≠ gb219) ∧ (b 6 = true → b 7 = true → gb219 ≠ gb220) ∧ (b 2 = true → Kd.R (Kd.int .i64) 3 w' w.heap.size (fun _ => True) v213 t212) ∧ (b 5 = true → Kd.R (Kd.int .i64) 3 w' w.heap.size (fun _ => True) v217 t216) ∧ (b 6 = true → b 8 = false → w'.heap[gb219]? = some (.cells #[.bool false, .slice none 0 0] 129 (0, 0))) ∧ (b 6 = true → w.heap.size ≤ gb219) ∧ (b 6 = true → w.heap.size ≤ gb219) ∧ (b 6 = true → gb205 ≠ gb219) ∧ (b 6 = true → gb219 ≠ gb205) ∧ (b 6 = true → gb206 ≠ gb219) ∧ (b 6 = true → gb219 ≠ gb206) ∧ (b 6 = true → gb207 ≠ gb219) ∧ (b 6 = true → gb219 ≠ gb207) ∧ (b 7 = true → b 9 = false → w'.heap[gb220]? = some (.cells #[.bool false, .slice none 0 0] 129 (0, 0))) ∧ (b 7 = true → w.heap.size ≤ gb220) ∧ (b 7 = true → w.heap.size ≤ gb220) ∧ (b 7 = true → gb205 ≠ gb220) ∧ (b 7 = true → gb220 ≠ gb205) ∧ (b 7 = true → gb206 ≠ gb220) ∧ (b 7 = true → gb220 ≠ gb206) ∧ (b 7 = true → gb207 ≠ gb220) ∧ (b 7 = true → gb220 ≠ gb207) ∧ (b 8 = true → w'.heap[gb219]? = some (.cells #[.bool t211, v213] 129 (0, 0))) ∧ (b 9 = true → w'.heap[gb220]? = some (.cells #[.bool t215, v217] 129 (0, 0))) ∧ (b 2 = true → (m2_ : Value) = .agg #[.bool t211, v213]) ∧ (b 5 = true → (m5_ : Value) = .agg #[.bool t215, v217]) ∧ (b 6 = true → (m6_ : Value) = .pointer (some ⟨gb219, 0, none⟩)) ∧ (b 7 = true → (m7_ : Value) = .pointer (some ⟨gb220, 0, none⟩))) HT_.out HW_.out (by kernel_rfl) (by kernel_rfl) ?_ ?_ ?_
    ·exact ⟨.bool false, .bool false, 0, 0, .bool false, .bool false, .bool false, .bool false, by simp only [putSel, Bool.false_eq_true, if_false], BK205.out, BK206.out, BK207.out, HB.out, fun h_ => absurd h_ (by decide), fun h_ => absurd h_ (by decide), fun h_ => absurd h_ (by decide), fun h_ => absurd h_ (by decide), fun h_ => absurd h_ (by decide), fun h_ => absurd h_ (by decide), fun h_ => absurd h_ (by decide), fun h_ => absurd h_ (by decide), fun h_ => absurd h_ (by decide), fun h_ => absurd h_ (by decide), fun h_ => absurd h_ (by decide), fun h_ => absurd h_ (by decide), fun h_ => absurd h_ (by decide), fun h_ => absurd h_ (by decide), fun h_ => absurd h_ (by decide), fun h_ => absurd h_ (by decide), fun h_ => absurd h_ (by decide), fun h_ => absurd h_ (by decide), fun h_ => absurd h_ (by decide), fun h_ => absurd h_ (by decide), fun h_ => absurd h_ (by decide), fun h_ => absurd h_ (by decide), fun h_ => absurd h_ (by decide), fun h_ => absurd h_ (by decide), fun h_ => absurd h_ (by decide), fun h_ => absurd h_ (by decide), fun h_ => absurd h_ (by decide), fun h_ => absurd h_ (by decide)⟩
    ·skip
     clear BK205 BK206 BK207 HB
     refine steps_cons ?_ ?_
     ·rintro b a w' ⟨v213, v217, gb219, gb220, m2_, m5_, m6_, m7_, ha, Q_BK205, Q_BK206, Q_BK207, Q_HB, Q_NB220_219, Q_NB219_220, Q_HO214, Q_HO218, Q_BK219, Q_GW219, Q_GE219, Q_NB205_219, Q_NB219_205, Q_NB206_219, Q_NB219_206, Q_NB207_219, Q_NB219_207, Q_BK220, Q_GW220, Q_GE220, Q_NB205_220, Q_NB220_205, Q_NB206_220, Q_NB220_206, Q_NB207_220, Q_NB220_207, Q_BK219_e8, Q_BK220_e9, Q_X2_, Q_X5_, Q_X6_, Q_X7_⟩ hb_ hon hoff
      refine ⟨_, rfl, fun K hK => ?_⟩
      have e18 : a.tmps[18]? = some (.pointer (some ⟨gb205, 1, none⟩)) := by rw [ha]; exact (putSel_off rfl).trans rfl
      replace ha := Aside0.mk ha
      have BK205 := Aside0.mk Q_BK205
      have BK206 := Aside0.mk Q_BK206
      have BK207 := Aside0.mk Q_BK207
      have HB := Aside0.mk Q_HB
      have hc0_ : w'.cell? ⟨gb205, 0, none⟩ = some (.int .i64 a1_0) := (blk_cell BK205.out 0).trans rfl
      have hc1_ : w'.cell? ⟨gb205, 1, none⟩ = some (.int .i64 a1_1) := (blk_cell BK205.out 1).trans rfl
      have hc2_ : w'.cell? ⟨gb205, 2, none⟩ = some (.string a1_2) := (blk_cell BK205.out 2).trans rfl
      refine value_ (w1 := w') (v := .int .i64 a1_1) (by rfl) rfl ?_ ?_
      ·go_simp
       (try simp only [i64_w])
       try rfl
      refine hK.out _ _ ⟨v213, v217, gb219, gb220, m2_, m5_, m6_, m7_, (by rw [ha.out]; exact putSel_upk 0 hb_ rfl rfl rfl), Q_BK205, Q_BK206, Q_BK207, Q_HB, Q_NB220_219, Q_NB219_220, fun h0_ => absurd ((hoff 2 (by kernel_rfl)).symm.trans h0_) (by decide), fun h0_ => absurd ((hoff 5 (by kernel_rfl)).symm.trans h0_) (by decide), Q_BK219, Q_GW219, Q_GE219, Q_NB205_219, Q_NB219_205, Q_NB206_219, Q_NB219_206, Q_NB207_219, Q_NB219_207, Q_BK220, Q_GW220, Q_GE220, Q_NB205_220, Q_NB220_205, Q_NB206_220, Q_NB220_206, Q_NB207_220, Q_NB220_207, fun h0_ => absurd ((hoff 8 (by kernel_rfl)).symm.trans h0_) (by decide), fun h0_ => absurd ((hoff 9 (by kernel_rfl)).symm.trans h0_) (by decide), fun h0_ => absurd ((hoff 2 (by kernel_rfl)).symm.trans h0_) (by decide), fun h0_ => absurd ((hoff 5 (by kernel_rfl)).symm.trans h0_) (by decide), Q_X6_, Q_X7_⟩
     refine steps_cons ?_ ?_
     ·rintro b a w' ⟨v213, v217, gb219, gb220, m2_, m5_, m6_, m7_, ha, Q_BK205, Q_BK206, Q_BK207, Q_HB, Q_NB220_219, Q_NB219_220, Q_HO214, Q_HO218, Q_BK219, Q_GW219, Q_GE219, Q_NB205_219, Q_NB219_205, Q_NB206_219, Q_NB219_206, Q_NB207_219, Q_NB219_207, Q_BK220, Q_GW220, Q_GE220, Q_NB205_220, Q_NB220_205, Q_NB206_220, Q_NB220_206, Q_NB207_220, Q_NB220_207, Q_BK219_e8, Q_BK220_e9, Q_X2_, Q_X5_, Q_X6_, Q_X7_⟩ hb_ hon hoff
      refine ⟨_, rfl, fun K hK => ?_⟩
      have e19 : a.tmps[19]? = some (.int .i64 a1_1) := by rw [ha]; exact putSel_on (e := (1, 19, .int .i64 a1_1)) 0 rfl rfl (hon 1 (by kernel_rfl)) rfl
      replace ha := Aside0.mk ha
      have BK205 := Aside0.mk Q_BK205
      have BK206 := Aside0.mk Q_BK206
      have BK207 := Aside0.mk Q_BK207
      have HB := Aside0.mk Q_HB
      refine goes_ Try.func112 (by kernel_rfl) rfl #[.int .i64 a1_1] (by rfl) rfl rfl (by first | (simp only [List.map_toArray, List.map_cons, List.map_nil, Act.eval, Array.getD_eq_getD_getElem?, Option.getD_some, e19]; done) | (simp only [List.map_toArray, List.map_cons, List.map_nil, Act.eval, Array.getD_eq_getD_getElem?, Option.getD_some, e19]; rfl)) ?_
      with_reducible refine (relstoreref_longOf.calls kj3 a1_1 t211 t212 _ A23.out).mono ?_
      rintro e w29 ⟨v213, rfl, ho0, hb⟩
      refine ⟨_, rfl, ?_⟩
      have n0_ := Aside0.mk (Kd.R_lower ho0 (below_size (by repeat (first | (with_reducible first | exact HB.out | apply below_alloc | apply pw_below_drewN | apply below_drew1 | refine below_set ?_ GE205.out | refine below_set ?_ GE206.out | refine below_set ?_ GE207.out) | exact HB.out))))
      have n1_ := Aside0.mk (blk_below (g := gb205) (o := .cells #[.int .i64 a1_0, .int .i64 a1_1, .string a1_2] 29 (0, 0)) (by (with_reducible repeat (first | refine blk_drewN ?_ _ | refine blk_drew ?_ | refine blk_alloc ?_ _)); exact BK205.out) hb)
      have n2_ := Aside0.mk (blk_below (g := gb206) (o := .cells #[.int .i64 a2_0, .int .i64 a2_1, .string a2_2] 29 (0, 0)) (by (with_reducible repeat (first | refine blk_drewN ?_ _ | refine blk_drew ?_ | refine blk_alloc ?_ _)); exact BK206.out) hb)
      have n3_ := Aside0.mk (blk_below (g := gb207) (o := .cells #[.int .i64 0, .int .i64 0, .string (⟨#[]⟩ : ByteArray)] 29 (0, 0)) (by (with_reducible repeat (first | refine blk_drewN ?_ _ | refine blk_drew ?_ | refine blk_alloc ?_ _)); exact BK207.out) hb)
      have n4_ := Aside0.mk (below_step (by repeat (first | (with_reducible first | exact HB.out | apply below_alloc | apply pw_below_drewN | apply below_drew1 | refine below_set ?_ GE205.out | refine below_set ?_ GE206.out | refine below_set ?_ GE207.out) | exact HB.out)) hb)
      have z_BK219 := fun (h0_ : b 6 = true) (h1_ : b 8 = false) => (show w29.heap[gb219]? = some (.cells #[.bool false, .slice none 0 0] 129 (0, 0)) from by first | exact (blk_below (g := gb219) (o := .cells #[.bool false, .slice none 0 0] 129 (0, 0)) (by (with_reducible repeat (first | refine blk_drewN ?_ _ | refine blk_drew ?_ | refine blk_alloc ?_ _)); exact (Q_BK219 h0_ h1_)) hb))
      have z_BK220 := fun (h0_ : b 7 = true) (h1_ : b 9 = false) => (show w29.heap[gb220]? = some (.cells #[.bool false, .slice none 0 0] 129 (0, 0)) from by first | exact (blk_below (g := gb220) (o := .cells #[.bool false, .slice none 0 0] 129 (0, 0)) (by (with_reducible repeat (first | refine blk_drewN ?_ _ | refine blk_drew ?_ | refine blk_alloc ?_ _)); exact (Q_BK220 h0_ h1_)) hb))
      clear BK205
      clear BK206
      clear BK207
      clear HB
      have HO214 := n0_
      have BK205 := n1_
      have BK206 := n2_
      have BK207 := n3_
      have HB := n4_
      clear n0_ n1_ n2_ n3_ n4_
      (try clear hb)
      (try clear hb2)
      (try clear hk)
      (try clear hi)
      (try clear ho0)
      refine hK.out _ _ ⟨v213, v217, gb219, gb220, (.agg #[.bool t211, v213]), m5_, m6_, m7_, (by rw [ha.out]; exact putSel_upk 1 hb_ rfl rfl rfl), (by (with_reducible repeat (first | refine blk_drewN ?_ _ | refine blk_drew ?_ | refine blk_alloc ?_ _)); exact BK205.out), (by (with_reducible repeat (first | refine blk_drewN ?_ _ | refine blk_drew ?_ | refine blk_alloc ?_ _)); exact BK206.out), (by (with_reducible repeat (first | refine blk_drewN ?_ _ | refine blk_drew ?_ | refine blk_alloc ?_ _)); exact BK207.out), (by repeat (first | (with_reducible first | exact HB.out | apply below_alloc | apply pw_below_drewN | apply below_drew1 | refine below_set ?_ GE205.out | refine below_set ?_ GE206.out | refine below_set ?_ GE207.out) | exact HB.out)), Q_NB220_219, Q_NB219_220, fun _ => (by (with_reducible repeat (first | apply Kd.R_alloc | apply Kd.R_drewN | apply Kd.R_drew)); exact HO214.out), fun h0_ => absurd ((hoff 5 (by kernel_rfl)).symm.trans h0_) (by decide), z_BK219, Q_GW219, Q_GE219, Q_NB205_219, Q_NB219_205, Q_NB206_219, Q_NB219_206, Q_NB207_219, Q_NB219_207, z_BK220, Q_GW220, Q_GE220, Q_NB205_220, Q_NB220_205, Q_NB206_220, Q_NB220_206, Q_NB207_220, Q_NB220_207, fun h0_ => absurd ((hoff 8 (by kernel_rfl)).symm.trans h0_) (by decide), fun h0_ => absurd ((hoff 9 (by kernel_rfl)).symm.trans h0_) (by decide), fun _ => rfl, fun h0_ => absurd ((hoff 5 (by kernel_rfl)).symm.trans h0_) (by decide), Q_X6_, Q_X7_⟩
     refine steps_cons ?_ ?_
     ·rintro b a w' ⟨v213, v217, gb219, gb220, m2_, m5_, m6_, m7_, ha, Q_BK205, Q_BK206, Q_BK207, Q_HB, Q_NB220_219, Q_NB219_220, Q_HO214, Q_HO218, Q_BK219, Q_GW219, Q_GE219, Q_NB205_219, Q_NB219_205, Q_NB206_219, Q_NB219_206, Q_NB207_219, Q_NB219_207, Q_BK220, Q_GW220, Q_GE220, Q_NB205_220, Q_NB220_205, Q_NB206_220, Q_NB220_206, Q_NB207_220, Q_NB220_207, Q_BK219_e8, Q_BK220_e9, Q_X2_, Q_X5_, Q_X6_, Q_X7_⟩ hb_ hon hoff
      refine ⟨_, rfl, fun K hK => ?_⟩
      have e21 : a.tmps[21]? = some (.pointer (some ⟨gb206, 1, none⟩)) := by rw [ha]; exact (putSel_off rfl).trans rfl
      replace ha := Aside0.mk ha
      have BK205 := Aside0.mk Q_BK205
      have BK206 := Aside0.mk Q_BK206
      have BK207 := Aside0.mk Q_BK207
      have HB := Aside0.mk Q_HB
      have hc0_ : w'.cell? ⟨gb206, 0, none⟩ = some (.int .i64 a2_0) := (blk_cell BK206.out 0).trans rfl
      have hc1_ : w'.cell? ⟨gb206, 1, none⟩ = some (.int .i64 a2_1) := (blk_cell BK206.out 1).trans rfl
      have hc2_ : w'.cell? ⟨gb206, 2, none⟩ = some (.string a2_2) := (blk_cell BK206.out 2).trans rfl
      refine value_ (w1 := w') (v := .int .i64 a2_1) (by rfl) rfl ?_ ?_
      ·go_simp
       (try simp only [i64_w])
       try rfl
      refine hK.out _ _ ⟨v213, v217, gb219, gb220, m2_, m5_, m6_, m7_, (by rw [ha.out]; exact putSel_upk 2 hb_ rfl rfl rfl), Q_BK205, Q_BK206, Q_BK207, Q_HB, Q_NB220_219, Q_NB219_220, Q_HO214, fun h0_ => absurd ((hoff 5 (by kernel_rfl)).symm.trans h0_) (by decide), Q_BK219, Q_GW219, Q_GE219, Q_NB205_219, Q_NB219_205, Q_NB206_219, Q_NB219_206, Q_NB207_219, Q_NB219_207, Q_BK220, Q_GW220, Q_GE220, Q_NB205_220, Q_NB220_205, Q_NB206_220, Q_NB220_206, Q_NB207_220, Q_NB220_207, fun h0_ => absurd ((hoff 8 (by kernel_rfl)).symm.trans h0_) (by decide), fun h0_ => absurd ((hoff 9 (by kernel_rfl)).symm.trans h0_) (by decide), Q_X2_, fun h0_ => absurd ((hoff 5 (by kernel_rfl)).symm.trans h0_) (by decide), Q_X6_, Q_X7_⟩
     refine steps_cons ?_ ?_
     ·rintro b a w' ⟨v213, v217, gb219, gb220, m2_, m5_, m6_, m7_, ha, Q_BK205, Q_BK206, Q_BK207, Q_HB, Q_NB220_219, Q_NB219_220, Q_HO214, Q_HO218, Q_BK219, Q_GW219, Q_GE219, Q_NB205_219, Q_NB219_205, Q_NB206_219, Q_NB219_206, Q_NB207_219, Q_NB219_207, Q_BK220, Q_GW220, Q_GE220, Q_NB205_220, Q_NB220_205, Q_NB206_220, Q_NB220_206, Q_NB207_220, Q_NB220_207, Q_BK219_e8, Q_BK220_e9, Q_X2_, Q_X5_, Q_X6_, Q_X7_⟩ hb_ hon hoff
      refine ⟨_, rfl, fun K hK => ?_⟩
      have e22 : a.tmps[22]? = some (.int .i64 a2_1) := by rw [ha]; exact putSel_on (e := (4, 22, .int .i64 a2_1)) 2 rfl rfl (hon 4 (by kernel_rfl)) rfl
      replace ha := Aside0.mk ha
      have BK205 := Aside0.mk Q_BK205
      have BK206 := Aside0.mk Q_BK206
      have BK207 := Aside0.mk Q_BK207
      have HB := Aside0.mk Q_HB
      have HO214 := Aside0.mk (Q_HO214 (hon 2 (by kernel_rfl)))
      refine goes_ Try.func112 (by kernel_rfl) rfl #[.int .i64 a2_1] (by rfl) rfl rfl (by first | (simp only [List.map_toArray, List.map_cons, List.map_nil, Act.eval, Array.getD_eq_getD_getElem?, Option.getD_some, e22]; done) | (simp only [List.map_toArray, List.map_cons, List.map_nil, Act.eval, Array.getD_eq_getD_getElem?, Option.getD_some, e22]; rfl)) ?_
      with_reducible refine (relstoreref_longOf.calls kj3 a2_1 t215 t216 _ A24.out).mono ?_
      rintro e w31 ⟨v217, rfl, ho0, hb⟩
      refine ⟨_, rfl, ?_⟩
      have n0_ := Aside0.mk (Kd.R_elder' (by (with_reducible repeat (first | apply Kd.R_alloc | apply Kd.R_drewN | apply Kd.R_drew)); exact HO214.out) (Kd.R_base ho0) hb)
      have n1_ := Aside0.mk (Kd.R_lower (Kd.R_new' ho0 (Kd.R_lt (by (with_reducible repeat (first | apply Kd.R_alloc | apply Kd.R_drewN | apply Kd.R_drew)); exact HO214.out))) (below_size (by repeat (first | (with_reducible first | exact HB.out | apply below_alloc | apply pw_below_drewN | apply below_drew1 | refine below_set ?_ GE205.out | refine below_set ?_ GE206.out | refine below_set ?_ GE207.out) | exact HB.out))))
      have n2_ := Aside0.mk (blk_below (g := gb205) (o := .cells #[.int .i64 a1_0, .int .i64 a1_1, .string a1_2] 29 (0, 0)) (by (with_reducible repeat (first | refine blk_drewN ?_ _ | refine blk_drew ?_ | refine blk_alloc ?_ _)); exact BK205.out) hb)
      have n3_ := Aside0.mk (blk_below (g := gb206) (o := .cells #[.int .i64 a2_0, .int .i64 a2_1, .string a2_2] 29 (0, 0)) (by (with_reducible repeat (first | refine blk_drewN ?_ _ | refine blk_drew ?_ | refine blk_alloc ?_ _)); exact BK206.out) hb)
      have n4_ := Aside0.mk (blk_below (g := gb207) (o := .cells #[.int .i64 0, .int .i64 0, .string (⟨#[]⟩ : ByteArray)] 29 (0, 0)) (by (with_reducible repeat (first | refine blk_drewN ?_ _ | refine blk_drew ?_ | refine blk_alloc ?_ _)); exact BK207.out) hb)
      have n5_ := Aside0.mk (below_step (by repeat (first | (with_reducible first | exact HB.out | apply below_alloc | apply pw_below_drewN | apply below_drew1 | refine below_set ?_ GE205.out | refine below_set ?_ GE206.out | refine below_set ?_ GE207.out) | exact HB.out)) hb)
      have z_BK219 := fun (h0_ : b 6 = true) (h1_ : b 8 = false) => (show w31.heap[gb219]? = some (.cells #[.bool false, .slice none 0 0] 129 (0, 0)) from by first | exact (blk_below (g := gb219) (o := .cells #[.bool false, .slice none 0 0] 129 (0, 0)) (by (with_reducible repeat (first | refine blk_drewN ?_ _ | refine blk_drew ?_ | refine blk_alloc ?_ _)); exact (Q_BK219 h0_ h1_)) hb))
      have z_BK220 := fun (h0_ : b 7 = true) (h1_ : b 9 = false) => (show w31.heap[gb220]? = some (.cells #[.bool false, .slice none 0 0] 129 (0, 0)) from by first | exact (blk_below (g := gb220) (o := .cells #[.bool false, .slice none 0 0] 129 (0, 0)) (by (with_reducible repeat (first | refine blk_drewN ?_ _ | refine blk_drew ?_ | refine blk_alloc ?_ _)); exact (Q_BK220 h0_ h1_)) hb))
      clear HO214
      clear BK205
      clear BK206
      clear BK207
      clear HB
      have HO214 := n0_
      have HO218 := n1_
      have BK205 := n2_
      have BK206 := n3_
      have BK207 := n4_
      have HB := n5_
      clear n0_ n1_ n2_ n3_ n4_ n5_
      (try clear hb)
      (try clear hb2)
      (try clear hk)
      (try clear hi)
      (try clear ho0)
      refine hK.out _ _ ⟨v213, v217, gb219, gb220, m2_, (.agg #[.bool t215, v217]), m6_, m7_, (by rw [ha.out]; exact putSel_upk 3 hb_ rfl rfl rfl), (by (with_reducible repeat (first | refine blk_drewN ?_ _ | refine blk_drew ?_ | refine blk_alloc ?_ _)); exact BK205.out), (by (with_reducible repeat (first | refine blk_drewN ?_ _ | refine blk_drew ?_ | refine blk_alloc ?_ _)); exact BK206.out), (by (with_reducible repeat (first | refine blk_drewN ?_ _ | refine blk_drew ?_ | refine blk_alloc ?_ _)); exact BK207.out), (by repeat (first | (with_reducible first | exact HB.out | apply below_alloc | apply pw_below_drewN | apply below_drew1 | refine below_set ?_ GE205.out | refine below_set ?_ GE206.out | refine below_set ?_ GE207.out) | exact HB.out)), Q_NB220_219, Q_NB219_220, fun _ => (by (with_reducible repeat (first | apply Kd.R_alloc | apply Kd.R_drewN | apply Kd.R_drew)); exact Kd.R_mono HO214.out (fun _ _ => trivial)), fun _ => (by (with_reducible repeat (first | apply Kd.R_alloc | apply Kd.R_drewN | apply Kd.R_drew)); exact Kd.R_mono HO218.out (fun _ _ => trivial)), z_BK219, Q_GW219, Q_GE219, Q_NB205_219, Q_NB219_205, Q_NB206_219, Q_NB219_206, Q_NB207_219, Q_NB219_207, z_BK220, Q_GW220, Q_GE220, Q_NB205_220, Q_NB220_205, Q_NB206_220, Q_NB220_206, Q_NB207_220, Q_NB220_207, fun h0_ => absurd ((hoff 8 (by kernel_rfl)).symm.trans h0_) (by decide), fun h0_ => absurd ((hoff 9 (by kernel_rfl)).symm.trans h0_) (by decide), Q_X2_, fun _ => rfl, Q_X6_, Q_X7_⟩
     refine steps_cons ?_ ?_
     ·rintro b a w' ⟨v213, v217, gb219, gb220, m2_, m5_, m6_, m7_, ha, Q_BK205, Q_BK206, Q_BK207, Q_HB, Q_NB220_219, Q_NB219_220, Q_HO214, Q_HO218, Q_BK219, Q_GW219, Q_GE219, Q_NB205_219, Q_NB219_205, Q_NB206_219, Q_NB219_206, Q_NB207_219, Q_NB219_207, Q_BK220, Q_GW220, Q_GE220, Q_NB205_220, Q_NB220_205, Q_NB206_220, Q_NB220_206, Q_NB207_220, Q_NB220_207, Q_BK219_e8, Q_BK220_e9, Q_X2_, Q_X5_, Q_X6_, Q_X7_⟩ hb_ hon hoff
      refine ⟨_, rfl, fun K hK => ?_⟩
      replace ha := Aside0.mk ha
      have BK205 := Aside0.mk Q_BK205
      have BK206 := Aside0.mk Q_BK206
      have BK207 := Aside0.mk Q_BK207
      have HB := Aside0.mk Q_HB
      refine box_step ?hg (N := 7) ?hd (cs := #[.bool false, .slice none 0 0]) (t := 129) ?hr ?_; (case hd => rfl); (case hg => rfl); (case hr => first | (go_simp; done) | (go_simp; rfl))
      intro gb219 hg w29 hbox hb
      have n0_ := Aside0.mk (blk_below (g := gb205) (o := .cells #[.int .i64 a1_0, .int .i64 a1_1, .string a1_2] 29 (0, 0)) (by (with_reducible repeat (first | refine blk_drewN ?_ _ | refine blk_drew ?_ | refine blk_alloc ?_ _)); exact BK205.out) hb)
      have n1_ := Aside0.mk (blk_below (g := gb206) (o := .cells #[.int .i64 a2_0, .int .i64 a2_1, .string a2_2] 29 (0, 0)) (by (with_reducible repeat (first | refine blk_drewN ?_ _ | refine blk_drew ?_ | refine blk_alloc ?_ _)); exact BK206.out) hb)
      have n2_ := Aside0.mk (blk_below (g := gb207) (o := .cells #[.int .i64 0, .int .i64 0, .string (⟨#[]⟩ : ByteArray)] 29 (0, 0)) (by (with_reducible repeat (first | refine blk_drewN ?_ _ | refine blk_drew ?_ | refine blk_alloc ?_ _)); exact BK207.out) hb)
      have n3_ := Aside0.mk (below_step (by repeat (first | (with_reducible first | exact HB.out | apply below_alloc | apply pw_below_drewN | apply below_drew1 | refine below_set ?_ GE205.out | refine below_set ?_ GE206.out | refine below_set ?_ GE207.out) | exact HB.out)) hb)
      have n4_ := Aside0.mk (hbox)
      have n5_ := Aside0.mk ((by rw [hg]; exact (below_size (by repeat (first | (with_reducible first | exact HB.out | apply below_alloc | apply pw_below_drewN | apply below_drew1 | refine below_set ?_ GE205.out | refine below_set ?_ GE206.out | refine below_set ?_ GE207.out) | exact HB.out))) : w.heap.size ≤ gb219))
      have n6_ := Aside0.mk ((by rw [hg]; exact (below_size (by repeat (first | (with_reducible first | exact HB.out | apply below_alloc | apply pw_below_drewN | apply below_drew1 | refine below_set ?_ GE205.out | refine below_set ?_ GE206.out | refine below_set ?_ GE207.out) | exact HB.out))) : w.heap.size ≤ gb219))
      have n7_ := Aside0.mk ((by rw [hg]; exact Nat.ne_of_lt (blk_lt (g := gb205) (o := .cells #[.int .i64 a1_0, .int .i64 a1_1, .string a1_2] 29 (0, 0)) (by (with_reducible repeat (first | refine blk_drewN ?_ _ | refine blk_drew ?_ | refine blk_alloc ?_ _)); exact BK205.out)) : gb205 ≠ gb219))
      have n8_ := Aside0.mk ((by rw [hg]; exact Nat.ne_of_gt (blk_lt (g := gb205) (o := .cells #[.int .i64 a1_0, .int .i64 a1_1, .string a1_2] 29 (0, 0)) (by (with_reducible repeat (first | refine blk_drewN ?_ _ | refine blk_drew ?_ | refine blk_alloc ?_ _)); exact BK205.out)) : gb219 ≠ gb205))
      have n9_ := Aside0.mk ((by rw [hg]; exact Nat.ne_of_lt (blk_lt (g := gb206) (o := .cells #[.int .i64 a2_0, .int .i64 a2_1, .string a2_2] 29 (0, 0)) (by (with_reducible repeat (first | refine blk_drewN ?_ _ | refine blk_drew ?_ | refine blk_alloc ?_ _)); exact BK206.out)) : gb206 ≠ gb219))
      have n10_ := Aside0.mk ((by rw [hg]; exact Nat.ne_of_gt (blk_lt (g := gb206) (o := .cells #[.int .i64 a2_0, .int .i64 a2_1, .string a2_2] 29 (0, 0)) (by (with_reducible repeat (first | refine blk_drewN ?_ _ | refine blk_drew ?_ | refine blk_alloc ?_ _)); exact BK206.out)) : gb219 ≠ gb206))
      have n11_ := Aside0.mk ((by rw [hg]; exact Nat.ne_of_lt (blk_lt (g := gb207) (o := .cells #[.int .i64 0, .int .i64 0, .string (⟨#[]⟩ : ByteArray)] 29 (0, 0)) (by (with_reducible repeat (first | refine blk_drewN ?_ _ | refine blk_drew ?_ | refine blk_alloc ?_ _)); exact BK207.out)) : gb207 ≠ gb219))
      have n12_ := Aside0.mk ((by rw [hg]; exact Nat.ne_of_gt (blk_lt (g := gb207) (o := .cells #[.int .i64 0, .int .i64 0, .string (⟨#[]⟩ : ByteArray)] 29 (0, 0)) (by (with_reducible repeat (first | refine blk_drewN ?_ _ | refine blk_drew ?_ | refine blk_alloc ?_ _)); exact BK207.out)) : gb219 ≠ gb207))
      have z_NB220_219 := fun (h0_ : up b 6 6 = true) (h1_ : up b 6 7 = true) => (show gb220 ≠ gb219 from by rw [hg]; exact Nat.ne_of_lt (blk_lt (Q_BK220 ((up_ne (by decide)).symm.trans h1_) (hoff 9 (by kernel_rfl)))))
      have z_NB219_220 := fun (h0_ : up b 6 6 = true) (h1_ : up b 6 7 = true) => (show gb219 ≠ gb220 from by rw [hg]; exact Nat.ne_of_gt (blk_lt (Q_BK220 ((up_ne (by decide)).symm.trans h1_) (hoff 9 (by kernel_rfl)))))
      have z_HO214 := fun (h0_ : b 2 = true) => (show Kd.R (Kd.int .i64) 3 w29 w.heap.size (fun _ => True) v213 t212 from by first | exact (Kd.R_below (by (with_reducible repeat (first | apply Kd.R_alloc | apply Kd.R_drewN | apply Kd.R_drew)); exact (Q_HO214 h0_)) hb) | exact Kd.R_mono (Kd.R_below (by (with_reducible repeat (first | apply Kd.R_alloc | apply Kd.R_drewN | apply Kd.R_drew)); exact (Q_HO214 h0_)) hb) (fun _ h_ => by first | trivial | exact h_ | exact h_.1))
      have z_HO218 := fun (h0_ : b 5 = true) => (show Kd.R (Kd.int .i64) 3 w29 w.heap.size (fun _ => True) v217 t216 from by first | exact (Kd.R_below (by (with_reducible repeat (first | apply Kd.R_alloc | apply Kd.R_drewN | apply Kd.R_drew)); exact (Q_HO218 h0_)) hb) | exact Kd.R_mono (Kd.R_below (by (with_reducible repeat (first | apply Kd.R_alloc | apply Kd.R_drewN | apply Kd.R_drew)); exact (Q_HO218 h0_)) hb) (fun _ h_ => by first | trivial | exact h_ | exact h_.1))
      have z_BK220 := fun (h0_ : b 7 = true) (h1_ : b 9 = false) => (show w29.heap[gb220]? = some (.cells #[.bool false, .slice none 0 0] 129 (0, 0)) from by first | exact (blk_below (g := gb220) (o := .cells #[.bool false, .slice none 0 0] 129 (0, 0)) (by (with_reducible repeat (first | refine blk_drewN ?_ _ | refine blk_drew ?_ | refine blk_alloc ?_ _)); exact (Q_BK220 h0_ h1_)) hb))
      clear BK205
      clear BK206
      clear BK207
      clear HB
      have BK205 := n0_
      have BK206 := n1_
      have BK207 := n2_
      have HB := n3_
      have BK219 := n4_
      have GW219 := n5_
      have GE219 := n6_
      have NB205_219 := n7_
      have NB219_205 := n8_
      have NB206_219 := n9_
      have NB219_206 := n10_
      have NB207_219 := n11_
      have NB219_207 := n12_
      clear n0_ n1_ n2_ n3_ n4_ n5_ n6_ n7_ n8_ n9_ n10_ n11_ n12_
      clear hb hbox hg
      refine hK.out _ _ ⟨v213, v217, gb219, gb220, m2_, m5_, (.pointer (some ⟨gb219, 0, none⟩)), m7_, (by rw [ha.out]; exact putSel_upk 4 hb_ rfl rfl rfl), (by (with_reducible repeat (first | refine blk_drewN ?_ _ | refine blk_drew ?_ | refine blk_alloc ?_ _)); exact BK205.out), (by (with_reducible repeat (first | refine blk_drewN ?_ _ | refine blk_drew ?_ | refine blk_alloc ?_ _)); exact BK206.out), (by (with_reducible repeat (first | refine blk_drewN ?_ _ | refine blk_drew ?_ | refine blk_alloc ?_ _)); exact BK207.out), (by repeat (first | (with_reducible first | exact HB.out | apply below_alloc | apply pw_below_drewN | apply below_drew1 | refine below_set ?_ GE205.out | refine below_set ?_ GE206.out | refine below_set ?_ GE207.out | refine below_set ?_ GE219.out) | exact HB.out)), z_NB220_219, z_NB219_220, z_HO214, z_HO218, fun _ _ => (by (with_reducible repeat (first | refine blk_drewN ?_ _ | refine blk_drew ?_ | refine blk_alloc ?_ _)); exact BK219.out), fun _ => GW219.out, fun _ => GE219.out, fun _ => NB205_219.out, fun _ => NB219_205.out, fun _ => NB206_219.out, fun _ => NB219_206.out, fun _ => NB207_219.out, fun _ => NB219_207.out, z_BK220, Q_GW220, Q_GE220, Q_NB205_220, Q_NB220_205, Q_NB206_220, Q_NB220_206, Q_NB207_220, Q_NB220_207, fun h0_ => absurd ((hoff 8 (by kernel_rfl)).symm.trans h0_) (by decide), fun h0_ => absurd ((hoff 9 (by kernel_rfl)).symm.trans h0_) (by decide), Q_X2_, Q_X5_, fun _ => rfl, Q_X7_⟩
     refine steps_cons ?_ ?_
     ·rintro b a w' ⟨v213, v217, gb219, gb220, m2_, m5_, m6_, m7_, ha, Q_BK205, Q_BK206, Q_BK207, Q_HB, Q_NB220_219, Q_NB219_220, Q_HO214, Q_HO218, Q_BK219, Q_GW219, Q_GE219, Q_NB205_219, Q_NB219_205, Q_NB206_219, Q_NB219_206, Q_NB207_219, Q_NB219_207, Q_BK220, Q_GW220, Q_GE220, Q_NB205_220, Q_NB220_205, Q_NB206_220, Q_NB220_206, Q_NB207_220, Q_NB220_207, Q_BK219_e8, Q_BK220_e9, Q_X2_, Q_X5_, Q_X6_, Q_X7_⟩ hb_ hon hoff
      refine ⟨_, rfl, fun K hK => ?_⟩
      replace ha := Aside0.mk ha
      have BK205 := Aside0.mk Q_BK205
      have BK206 := Aside0.mk Q_BK206
      have BK207 := Aside0.mk Q_BK207
      have HB := Aside0.mk Q_HB
      refine box_step ?hg (N := 8) ?hd (cs := #[.bool false, .slice none 0 0]) (t := 129) ?hr ?_; (case hd => rfl); (case hg => rfl); (case hr => first | (go_simp; done) | (go_simp; rfl))
      intro gb220 hg w29 hbox hb
      have n0_ := Aside0.mk (blk_below (g := gb205) (o := .cells #[.int .i64 a1_0, .int .i64 a1_1, .string a1_2] 29 (0, 0)) (by (with_reducible repeat (first | refine blk_drewN ?_ _ | refine blk_drew ?_ | refine blk_alloc ?_ _)); exact BK205.out) hb)
      have n1_ := Aside0.mk (blk_below (g := gb206) (o := .cells #[.int .i64 a2_0, .int .i64 a2_1, .string a2_2] 29 (0, 0)) (by (with_reducible repeat (first | refine blk_drewN ?_ _ | refine blk_drew ?_ | refine blk_alloc ?_ _)); exact BK206.out) hb)
      have n2_ := Aside0.mk (blk_below (g := gb207) (o := .cells #[.int .i64 0, .int .i64 0, .string (⟨#[]⟩ : ByteArray)] 29 (0, 0)) (by (with_reducible repeat (first | refine blk_drewN ?_ _ | refine blk_drew ?_ | refine blk_alloc ?_ _)); exact BK207.out) hb)
      have n3_ := Aside0.mk (below_step (by repeat (first | (with_reducible first | exact HB.out | apply below_alloc | apply pw_below_drewN | apply below_drew1 | refine below_set ?_ GE205.out | refine below_set ?_ GE206.out | refine below_set ?_ GE207.out) | exact HB.out)) hb)
      have n4_ := Aside0.mk (hbox)
      have n5_ := Aside0.mk ((by rw [hg]; exact (below_size (by repeat (first | (with_reducible first | exact HB.out | apply below_alloc | apply pw_below_drewN | apply below_drew1 | refine below_set ?_ GE205.out | refine below_set ?_ GE206.out | refine below_set ?_ GE207.out) | exact HB.out))) : w.heap.size ≤ gb220))
      have n6_ := Aside0.mk ((by rw [hg]; exact (below_size (by repeat (first | (with_reducible first | exact HB.out | apply below_alloc | apply pw_below_drewN | apply below_drew1 | refine below_set ?_ GE205.out | refine below_set ?_ GE206.out | refine below_set ?_ GE207.out) | exact HB.out))) : w.heap.size ≤ gb220))
      have n7_ := Aside0.mk ((by rw [hg]; exact Nat.ne_of_lt (blk_lt (g := gb205) (o := .cells #[.int .i64 a1_0, .int .i64 a1_1, .string a1_2] 29 (0, 0)) (by (with_reducible repeat (first | refine blk_drewN ?_ _ | refine blk_drew ?_ | refine blk_alloc ?_ _)); exact BK205.out)) : gb205 ≠ gb220))
      have n8_ := Aside0.mk ((by rw [hg]; exact Nat.ne_of_gt (blk_lt (g := gb205) (o := .cells #[.int .i64 a1_0, .int .i64 a1_1, .string a1_2] 29 (0, 0)) (by (with_reducible repeat (first | refine blk_drewN ?_ _ | refine blk_drew ?_ | refine blk_alloc ?_ _)); exact BK205.out)) : gb220 ≠ gb205))
      have n9_ := Aside0.mk ((by rw [hg]; exact Nat.ne_of_lt (blk_lt (g := gb206) (o := .cells #[.int .i64 a2_0, .int .i64 a2_1, .string a2_2] 29 (0, 0)) (by (with_reducible repeat (first | refine blk_drewN ?_ _ | refine blk_drew ?_ | refine blk_alloc ?_ _)); exact BK206.out)) : gb206 ≠ gb220))
      have n10_ := Aside0.mk ((by rw [hg]; exact Nat.ne_of_gt (blk_lt (g := gb206) (o := .cells #[.int .i64 a2_0, .int .i64 a2_1, .string a2_2] 29 (0, 0)) (by (with_reducible repeat (first | refine blk_drewN ?_ _ | refine blk_drew ?_ | refine blk_alloc ?_ _)); exact BK206.out)) : gb220 ≠ gb206))
      have n11_ := Aside0.mk ((by rw [hg]; exact Nat.ne_of_lt (blk_lt (g := gb207) (o := .cells #[.int .i64 0, .int .i64 0, .string (⟨#[]⟩ : ByteArray)] 29 (0, 0)) (by (with_reducible repeat (first | refine blk_drewN ?_ _ | refine blk_drew ?_ | refine blk_alloc ?_ _)); exact BK207.out)) : gb207 ≠ gb220))
      have n12_ := Aside0.mk ((by rw [hg]; exact Nat.ne_of_gt (blk_lt (g := gb207) (o := .cells #[.int .i64 0, .int .i64 0, .string (⟨#[]⟩ : ByteArray)] 29 (0, 0)) (by (with_reducible repeat (first | refine blk_drewN ?_ _ | refine blk_drew ?_ | refine blk_alloc ?_ _)); exact BK207.out)) : gb220 ≠ gb207))
      have z_NB220_219 := fun (h0_ : up b 7 6 = true) (h1_ : up b 7 7 = true) => (show gb220 ≠ gb219 from by rw [hg]; exact Nat.ne_of_gt ((by cases h8 : b 8 with | true => exact blk_lt (Q_BK219_e8 h8) | false => exact blk_lt (Q_BK219 ((up_ne (by decide)).symm.trans h0_) h8))))
      have z_NB219_220 := fun (h0_ : up b 7 6 = true) (h1_ : up b 7 7 = true) => (show gb219 ≠ gb220 from by rw [hg]; exact Nat.ne_of_lt ((by cases h8 : b 8 with | true => exact blk_lt (Q_BK219_e8 h8) | false => exact blk_lt (Q_BK219 ((up_ne (by decide)).symm.trans h0_) h8))))
      have z_HO214 := fun (h0_ : b 2 = true) => (show Kd.R (Kd.int .i64) 3 w29 w.heap.size (fun _ => True) v213 t212 from by first | exact (Kd.R_below (by (with_reducible repeat (first | apply Kd.R_alloc | apply Kd.R_drewN | apply Kd.R_drew)); exact (Q_HO214 h0_)) hb) | exact Kd.R_mono (Kd.R_below (by (with_reducible repeat (first | apply Kd.R_alloc | apply Kd.R_drewN | apply Kd.R_drew)); exact (Q_HO214 h0_)) hb) (fun _ h_ => by first | trivial | exact h_ | exact h_.1))
      have z_HO218 := fun (h0_ : b 5 = true) => (show Kd.R (Kd.int .i64) 3 w29 w.heap.size (fun _ => True) v217 t216 from by first | exact (Kd.R_below (by (with_reducible repeat (first | apply Kd.R_alloc | apply Kd.R_drewN | apply Kd.R_drew)); exact (Q_HO218 h0_)) hb) | exact Kd.R_mono (Kd.R_below (by (with_reducible repeat (first | apply Kd.R_alloc | apply Kd.R_drewN | apply Kd.R_drew)); exact (Q_HO218 h0_)) hb) (fun _ h_ => by first | trivial | exact h_ | exact h_.1))
      have z_BK219 := fun (h0_ : b 6 = true) (h1_ : b 8 = false) => (show w29.heap[gb219]? = some (.cells #[.bool false, .slice none 0 0] 129 (0, 0)) from by first | exact (blk_below (g := gb219) (o := .cells #[.bool false, .slice none 0 0] 129 (0, 0)) (by (with_reducible repeat (first | refine blk_drewN ?_ _ | refine blk_drew ?_ | refine blk_alloc ?_ _)); exact (Q_BK219 h0_ h1_)) hb))
      clear BK205
      clear BK206
      clear BK207
      clear HB
      have BK205 := n0_
      have BK206 := n1_
      have BK207 := n2_
      have HB := n3_
      have BK220 := n4_
      have GW220 := n5_
      have GE220 := n6_
      have NB205_220 := n7_
      have NB220_205 := n8_
      have NB206_220 := n9_
      have NB220_206 := n10_
      have NB207_220 := n11_
      have NB220_207 := n12_
      clear n0_ n1_ n2_ n3_ n4_ n5_ n6_ n7_ n8_ n9_ n10_ n11_ n12_
      clear hb hbox hg
      refine hK.out _ _ ⟨v213, v217, gb219, gb220, m2_, m5_, m6_, (.pointer (some ⟨gb220, 0, none⟩)), (by rw [ha.out]; exact putSel_upk 5 hb_ rfl rfl rfl), (by (with_reducible repeat (first | refine blk_drewN ?_ _ | refine blk_drew ?_ | refine blk_alloc ?_ _)); exact BK205.out), (by (with_reducible repeat (first | refine blk_drewN ?_ _ | refine blk_drew ?_ | refine blk_alloc ?_ _)); exact BK206.out), (by (with_reducible repeat (first | refine blk_drewN ?_ _ | refine blk_drew ?_ | refine blk_alloc ?_ _)); exact BK207.out), (by repeat (first | (with_reducible first | exact HB.out | apply below_alloc | apply pw_below_drewN | apply below_drew1 | refine below_set ?_ GE205.out | refine below_set ?_ GE206.out | refine below_set ?_ GE207.out | refine below_set ?_ GE220.out) | exact HB.out)), z_NB220_219, z_NB219_220, z_HO214, z_HO218, z_BK219, Q_GW219, Q_GE219, Q_NB205_219, Q_NB219_205, Q_NB206_219, Q_NB219_206, Q_NB207_219, Q_NB219_207, fun _ _ => (by (with_reducible repeat (first | refine blk_drewN ?_ _ | refine blk_drew ?_ | refine blk_alloc ?_ _)); exact BK220.out), fun _ => GW220.out, fun _ => GE220.out, fun _ => NB205_220.out, fun _ => NB220_205.out, fun _ => NB206_220.out, fun _ => NB220_206.out, fun _ => NB207_220.out, fun _ => NB220_207.out, fun h0_ => absurd ((hoff 8 (by kernel_rfl)).symm.trans h0_) (by decide), fun h0_ => absurd ((hoff 9 (by kernel_rfl)).symm.trans h0_) (by decide), Q_X2_, Q_X5_, Q_X6_, fun _ => rfl⟩
     refine steps_cons ?_ ?_
     ·rintro b a w' ⟨v213, v217, gb219, gb220, m2_, m5_, m6_, m7_, ha, Q_BK205, Q_BK206, Q_BK207, Q_HB, Q_NB220_219, Q_NB219_220, Q_HO214, Q_HO218, Q_BK219, Q_GW219, Q_GE219, Q_NB205_219, Q_NB219_205, Q_NB206_219, Q_NB219_206, Q_NB207_219, Q_NB219_207, Q_BK220, Q_GW220, Q_GE220, Q_NB205_220, Q_NB220_205, Q_NB206_220, Q_NB220_206, Q_NB207_220, Q_NB220_207, Q_BK219_e8, Q_BK220_e9, Q_X2_, Q_X5_, Q_X6_, Q_X7_⟩ hb_ hon hoff
      refine ⟨_, rfl, fun K hK => ?_⟩
      have e7 : a.tmps[7]? = some (m6_) := by rw [ha]; exact putSel_on (e := (6, 7, m6_)) 4 rfl rfl (hon 6 (by kernel_rfl)) rfl
      rw [Q_X6_ (hon 6 (by kernel_rfl))] at e7
      have e20 : a.tmps[20]? = some (m2_) := by rw [ha]; exact putSel_on (e := (2, 20, m2_)) 1 rfl rfl (hon 2 (by kernel_rfl)) rfl
      rw [Q_X2_ (hon 2 (by kernel_rfl))] at e20
      replace ha := Aside0.mk ha
      have BK205 := Aside0.mk Q_BK205
      have BK206 := Aside0.mk Q_BK206
      have BK207 := Aside0.mk Q_BK207
      have HB := Aside0.mk Q_HB
      have NB220_219 := Aside0.mk (Q_NB220_219 (hon 6 (by kernel_rfl)) (hon 7 (by kernel_rfl)))
      have NB219_220 := Aside0.mk (Q_NB219_220 (hon 6 (by kernel_rfl)) (hon 7 (by kernel_rfl)))
      have HO214 := Aside0.mk (Q_HO214 (hon 2 (by kernel_rfl)))
      have HO218 := Aside0.mk (Q_HO218 (hon 5 (by kernel_rfl)))
      have BK219 := Aside0.mk (Q_BK219 (hon 6 (by kernel_rfl)) hb_)
      have GW219 := Aside0.mk (Q_GW219 (hon 6 (by kernel_rfl)))
      have GE219 := Aside0.mk (Q_GE219 (hon 6 (by kernel_rfl)))
      have NB205_219 := Aside0.mk (Q_NB205_219 (hon 6 (by kernel_rfl)))
      have NB219_205 := Aside0.mk (Q_NB219_205 (hon 6 (by kernel_rfl)))
      have NB206_219 := Aside0.mk (Q_NB206_219 (hon 6 (by kernel_rfl)))
      have NB219_206 := Aside0.mk (Q_NB219_206 (hon 6 (by kernel_rfl)))
      have NB207_219 := Aside0.mk (Q_NB207_219 (hon 6 (by kernel_rfl)))
      have NB219_207 := Aside0.mk (Q_NB219_207 (hon 6 (by kernel_rfl)))
      have BK220 := Aside0.mk (Q_BK220 (hon 7 (by kernel_rfl)) (hoff 9 (by kernel_rfl)))
      have GW220 := Aside0.mk (Q_GW220 (hon 7 (by kernel_rfl)))
      have GE220 := Aside0.mk (Q_GE220 (hon 7 (by kernel_rfl)))
      have NB205_220 := Aside0.mk (Q_NB205_220 (hon 7 (by kernel_rfl)))
      have NB220_205 := Aside0.mk (Q_NB220_205 (hon 7 (by kernel_rfl)))
      have NB206_220 := Aside0.mk (Q_NB206_220 (hon 7 (by kernel_rfl)))
      have NB220_206 := Aside0.mk (Q_NB220_206 (hon 7 (by kernel_rfl)))
      have NB207_220 := Aside0.mk (Q_NB207_220 (hon 7 (by kernel_rfl)))
      have NB220_207 := Aside0.mk (Q_NB220_207 (hon 7 (by kernel_rfl)))
      obtain ⟨Ao35, co35, eo35⟩ := Kd.R_slice HO214.out
      (first | subst eo35 | (injection eo35 with f1_ f2_ f3_; have f4_ := f1_.symm; have f5_ := f3_.symm; clear f1_ f2_ f3_; subst f4_; subst f5_))
      have hs34 : w'.cell? ⟨gb219, 0, none⟩ = some (.bool false) := (blk_cell BK219.out 0).trans rfl
      have hfs34 := blk_frozen BK219.out 0
      have hns34_0 := NB205_219.out
      have hns34_1 := NB206_219.out
      have hns34_2 := NB207_219.out
      have hns34_4 := NB220_219.out
      have hms34_0 := NB219_205.out
      have hms34_1 := NB219_206.out
      have hms34_2 := NB219_207.out
      have hms34_4 := NB219_220.out
      have hs36 : w'.cell? ⟨gb219, 1, none⟩ = some (.slice none 0 0) := (blk_cell BK219.out 1).trans rfl
      have hfs36 := blk_frozen BK219.out 1
      have hns36_0 := NB205_219.out
      have hns36_1 := NB206_219.out
      have hns36_2 := NB207_219.out
      have hns36_4 := NB220_219.out
      have hms36_0 := NB219_205.out
      have hms36_1 := NB219_206.out
      have hms36_2 := NB219_207.out
      have hms36_4 := NB219_220.out
      refine skip_ (w1 := ?_) (by rfl) rfl ?_ ?_
      rotate_left
      ·go_simp
       rfl
      refine hK.out _ _ ⟨.slice Ao35 t212.length co35, v217, gb219, gb220, m2_, m5_, m6_, m7_, (by rw [ha.out]; exact putSel_none (v := undef) rfl), (by (with_reducible repeat (first | refine blk_drewN ?_ _ | refine blk_drew ?_ | refine blk_alloc ?_ _)); refine blk_far ?_ NB205_219.out _; (with_reducible repeat (first | refine blk_drewN ?_ _ | refine blk_drew ?_ | refine blk_alloc ?_ _)); refine blk_far ?_ NB205_219.out _; (with_reducible repeat (first | refine blk_drewN ?_ _ | refine blk_drew ?_ | refine blk_alloc ?_ _)); exact BK205.out), (by (with_reducible repeat (first | refine blk_drewN ?_ _ | refine blk_drew ?_ | refine blk_alloc ?_ _)); refine blk_far ?_ NB206_219.out _; (with_reducible repeat (first | refine blk_drewN ?_ _ | refine blk_drew ?_ | refine blk_alloc ?_ _)); refine blk_far ?_ NB206_219.out _; (with_reducible repeat (first | refine blk_drewN ?_ _ | refine blk_drew ?_ | refine blk_alloc ?_ _)); exact BK206.out), (by (with_reducible repeat (first | refine blk_drewN ?_ _ | refine blk_drew ?_ | refine blk_alloc ?_ _)); refine blk_far ?_ NB207_219.out _; (with_reducible repeat (first | refine blk_drewN ?_ _ | refine blk_drew ?_ | refine blk_alloc ?_ _)); refine blk_far ?_ NB207_219.out _; (with_reducible repeat (first | refine blk_drewN ?_ _ | refine blk_drew ?_ | refine blk_alloc ?_ _)); exact BK207.out), (by repeat (first | (with_reducible first | exact HB.out | apply below_alloc | apply pw_below_drewN | apply below_drew1 | refine below_set ?_ GE205.out | refine below_set ?_ GE206.out | refine below_set ?_ GE207.out | refine below_set ?_ GE219.out | refine below_set ?_ GE220.out) | exact HB.out)), fun _ _ => NB220_219.out, fun _ _ => NB219_220.out, fun _ => (by (with_reducible repeat (first | apply Kd.R_alloc | apply Kd.R_drewN | apply Kd.R_drew)); exact Kd.R_mono (Kd.R_far (p := ⟨gb219, 1, none⟩) (Kd.R_far (p := ⟨gb219, 0, none⟩) (Kd.R_types HO214.out BK219.out (by decide)) (fun _ hk => hk.2) (.bool t211)) (fun _ hk => hk.2) (.slice Ao35 t212.length co35)) (fun _ hk => hk.1)), fun _ => (by (with_reducible repeat (first | apply Kd.R_alloc | apply Kd.R_drewN | apply Kd.R_drew)); exact Kd.R_mono (Kd.R_far (p := ⟨gb219, 1, none⟩) (Kd.R_far (p := ⟨gb219, 0, none⟩) (Kd.R_types HO218.out BK219.out (by decide)) (fun _ hk => hk.2) (.bool t211)) (fun _ hk => hk.2) (.slice Ao35 t212.length co35)) (fun _ hk => hk.1)), fun _ h1_ => absurd ((up_self b 8).symm.trans h1_) (by decide), fun _ => GW219.out, fun _ => GE219.out, fun _ => NB205_219.out, fun _ => NB219_205.out, fun _ => NB206_219.out, fun _ => NB219_206.out, fun _ => NB207_219.out, fun _ => NB219_207.out, fun _ _ => (by (with_reducible repeat (first | refine blk_drewN ?_ _ | refine blk_drew ?_ | refine blk_alloc ?_ _)); refine blk_far ?_ NB220_219.out _; (with_reducible repeat (first | refine blk_drewN ?_ _ | refine blk_drew ?_ | refine blk_alloc ?_ _)); refine blk_far ?_ NB220_219.out _; (with_reducible repeat (first | refine blk_drewN ?_ _ | refine blk_drew ?_ | refine blk_alloc ?_ _)); exact BK220.out), fun _ => GW220.out, fun _ => GE220.out, fun _ => NB205_220.out, fun _ => NB220_205.out, fun _ => NB206_220.out, fun _ => NB220_206.out, fun _ => NB207_220.out, fun _ => NB220_207.out, fun _ => (by (with_reducible repeat (first | refine blk_drewN ?_ _ | refine blk_drew ?_ | refine blk_alloc ?_ _)); refine blk_put (cs := #[.bool t211, .slice none 0 0]) ?_ 1 _ rfl; (with_reducible repeat (first | refine blk_drewN ?_ _ | refine blk_drew ?_ | refine blk_alloc ?_ _)); refine blk_put (cs := #[.bool false, .slice none 0 0]) ?_ 0 _ rfl; (with_reducible repeat (first | refine blk_drewN ?_ _ | refine blk_drew ?_ | refine blk_alloc ?_ _)); exact BK219.out), fun h0_ => absurd ((hoff 9 (by kernel_rfl)).symm.trans h0_) (by decide), Q_X2_, Q_X5_, Q_X6_, Q_X7_⟩
     refine steps_cons ?_ ?_
     ·rintro b a w' ⟨v213, v217, gb219, gb220, m2_, m5_, m6_, m7_, ha, Q_BK205, Q_BK206, Q_BK207, Q_HB, Q_NB220_219, Q_NB219_220, Q_HO214, Q_HO218, Q_BK219, Q_GW219, Q_GE219, Q_NB205_219, Q_NB219_205, Q_NB206_219, Q_NB219_206, Q_NB207_219, Q_NB219_207, Q_BK220, Q_GW220, Q_GE220, Q_NB205_220, Q_NB220_205, Q_NB206_220, Q_NB220_206, Q_NB207_220, Q_NB220_207, Q_BK219_e8, Q_BK220_e9, Q_X2_, Q_X5_, Q_X6_, Q_X7_⟩ hb_ hon hoff
      refine ⟨_, rfl, fun K hK => ?_⟩
      have e8 : a.tmps[8]? = some (m7_) := by rw [ha]; exact putSel_on (e := (7, 8, m7_)) 5 rfl rfl (hon 7 (by kernel_rfl)) rfl
      rw [Q_X7_ (hon 7 (by kernel_rfl))] at e8
      have e23 : a.tmps[23]? = some (m5_) := by rw [ha]; exact putSel_on (e := (5, 23, m5_)) 3 rfl rfl (hon 5 (by kernel_rfl)) rfl
      rw [Q_X5_ (hon 5 (by kernel_rfl))] at e23
      replace ha := Aside0.mk ha
      have BK205 := Aside0.mk Q_BK205
      have BK206 := Aside0.mk Q_BK206
      have BK207 := Aside0.mk Q_BK207
      have HB := Aside0.mk Q_HB
      have NB220_219 := Aside0.mk (Q_NB220_219 (hon 6 (by kernel_rfl)) (hon 7 (by kernel_rfl)))
      have NB219_220 := Aside0.mk (Q_NB219_220 (hon 6 (by kernel_rfl)) (hon 7 (by kernel_rfl)))
      have HO214 := Aside0.mk (Q_HO214 (hon 2 (by kernel_rfl)))
      have HO218 := Aside0.mk (Q_HO218 (hon 5 (by kernel_rfl)))
      have GW219 := Aside0.mk (Q_GW219 (hon 6 (by kernel_rfl)))
      have GE219 := Aside0.mk (Q_GE219 (hon 6 (by kernel_rfl)))
      have NB205_219 := Aside0.mk (Q_NB205_219 (hon 6 (by kernel_rfl)))
      have NB219_205 := Aside0.mk (Q_NB219_205 (hon 6 (by kernel_rfl)))
      have NB206_219 := Aside0.mk (Q_NB206_219 (hon 6 (by kernel_rfl)))
      have NB219_206 := Aside0.mk (Q_NB219_206 (hon 6 (by kernel_rfl)))
      have NB207_219 := Aside0.mk (Q_NB207_219 (hon 6 (by kernel_rfl)))
      have NB219_207 := Aside0.mk (Q_NB219_207 (hon 6 (by kernel_rfl)))
      have BK220 := Aside0.mk (Q_BK220 (hon 7 (by kernel_rfl)) hb_)
      have GW220 := Aside0.mk (Q_GW220 (hon 7 (by kernel_rfl)))
      have GE220 := Aside0.mk (Q_GE220 (hon 7 (by kernel_rfl)))
      have NB205_220 := Aside0.mk (Q_NB205_220 (hon 7 (by kernel_rfl)))
      have NB220_205 := Aside0.mk (Q_NB220_205 (hon 7 (by kernel_rfl)))
      have NB206_220 := Aside0.mk (Q_NB206_220 (hon 7 (by kernel_rfl)))
      have NB220_206 := Aside0.mk (Q_NB220_206 (hon 7 (by kernel_rfl)))
      have NB207_220 := Aside0.mk (Q_NB207_220 (hon 7 (by kernel_rfl)))
      have NB220_207 := Aside0.mk (Q_NB220_207 (hon 7 (by kernel_rfl)))
      have BK219 := Aside0.mk (Q_BK219_e8 (hon 8 (by kernel_rfl)))
      obtain ⟨Ao38, co38, eo38⟩ := Kd.R_slice HO218.out
      (first | subst eo38 | (injection eo38 with f1_ f2_ f3_; have f4_ := f1_.symm; have f5_ := f3_.symm; clear f1_ f2_ f3_; subst f4_; subst f5_))
      have hs37 : w'.cell? ⟨gb220, 0, none⟩ = some (.bool false) := (blk_cell BK220.out 0).trans rfl
      have hfs37 := blk_frozen BK220.out 0
      have hns37_0 := NB205_220.out
      have hns37_1 := NB206_220.out
      have hns37_2 := NB207_220.out
      have hns37_3 := NB219_220.out
      have hms37_0 := NB220_205.out
      have hms37_1 := NB220_206.out
      have hms37_2 := NB220_207.out
      have hms37_3 := NB220_219.out
      have hs39 : w'.cell? ⟨gb220, 1, none⟩ = some (.slice none 0 0) := (blk_cell BK220.out 1).trans rfl
      have hfs39 := blk_frozen BK220.out 1
      have hns39_0 := NB205_220.out
      have hns39_1 := NB206_220.out
      have hns39_2 := NB207_220.out
      have hns39_3 := NB219_220.out
      have hms39_0 := NB220_205.out
      have hms39_1 := NB220_206.out
      have hms39_2 := NB220_207.out
      have hms39_3 := NB220_219.out
      refine skip_ (w1 := ?_) (by rfl) rfl ?_ ?_
      rotate_left
      ·go_simp
       rfl
      refine hK.out _ _ ⟨v213, .slice Ao38 t216.length co38, gb219, gb220, m2_, m5_, m6_, m7_, (by rw [ha.out]; exact putSel_none (v := undef) rfl), (by (with_reducible repeat (first | refine blk_drewN ?_ _ | refine blk_drew ?_ | refine blk_alloc ?_ _)); refine blk_far ?_ NB205_220.out _; (with_reducible repeat (first | refine blk_drewN ?_ _ | refine blk_drew ?_ | refine blk_alloc ?_ _)); refine blk_far ?_ NB205_220.out _; (with_reducible repeat (first | refine blk_drewN ?_ _ | refine blk_drew ?_ | refine blk_alloc ?_ _)); exact BK205.out), (by (with_reducible repeat (first | refine blk_drewN ?_ _ | refine blk_drew ?_ | refine blk_alloc ?_ _)); refine blk_far ?_ NB206_220.out _; (with_reducible repeat (first | refine blk_drewN ?_ _ | refine blk_drew ?_ | refine blk_alloc ?_ _)); refine blk_far ?_ NB206_220.out _; (with_reducible repeat (first | refine blk_drewN ?_ _ | refine blk_drew ?_ | refine blk_alloc ?_ _)); exact BK206.out), (by (with_reducible repeat (first | refine blk_drewN ?_ _ | refine blk_drew ?_ | refine blk_alloc ?_ _)); refine blk_far ?_ NB207_220.out _; (with_reducible repeat (first | refine blk_drewN ?_ _ | refine blk_drew ?_ | refine blk_alloc ?_ _)); refine blk_far ?_ NB207_220.out _; (with_reducible repeat (first | refine blk_drewN ?_ _ | refine blk_drew ?_ | refine blk_alloc ?_ _)); exact BK207.out), (by repeat (first | (with_reducible first | exact HB.out | apply below_alloc | apply pw_below_drewN | apply below_drew1 | refine below_set ?_ GE205.out | refine below_set ?_ GE206.out | refine below_set ?_ GE207.out | refine below_set ?_ GE219.out | refine below_set ?_ GE220.out) | exact HB.out)), fun _ _ => NB220_219.out, fun _ _ => NB219_220.out, fun _ => (by (with_reducible repeat (first | apply Kd.R_alloc | apply Kd.R_drewN | apply Kd.R_drew)); exact Kd.R_mono (Kd.R_far (p := ⟨gb220, 1, none⟩) (Kd.R_far (p := ⟨gb220, 0, none⟩) (Kd.R_types HO214.out BK220.out (by decide)) (fun _ hk => hk.2) (.bool t215)) (fun _ hk => hk.2) (.slice Ao38 t216.length co38)) (fun _ hk => hk.1)), fun _ => (by (with_reducible repeat (first | apply Kd.R_alloc | apply Kd.R_drewN | apply Kd.R_drew)); exact Kd.R_mono (Kd.R_far (p := ⟨gb220, 1, none⟩) (Kd.R_far (p := ⟨gb220, 0, none⟩) (Kd.R_types HO218.out BK220.out (by decide)) (fun _ hk => hk.2) (.bool t215)) (fun _ hk => hk.2) (.slice Ao38 t216.length co38)) (fun _ hk => hk.1)), fun _ h1_ => absurd ((hon 8 (by kernel_rfl)).symm.trans h1_) (by decide), fun _ => GW219.out, fun _ => GE219.out, fun _ => NB205_219.out, fun _ => NB219_205.out, fun _ => NB206_219.out, fun _ => NB219_206.out, fun _ => NB207_219.out, fun _ => NB219_207.out, fun _ h1_ => absurd ((up_self b 9).symm.trans h1_) (by decide), fun _ => GW220.out, fun _ => GE220.out, fun _ => NB205_220.out, fun _ => NB220_205.out, fun _ => NB206_220.out, fun _ => NB220_206.out, fun _ => NB207_220.out, fun _ => NB220_207.out, fun _ => (by (with_reducible repeat (first | refine blk_drewN ?_ _ | refine blk_drew ?_ | refine blk_alloc ?_ _)); refine blk_far ?_ NB219_220.out _; (with_reducible repeat (first | refine blk_drewN ?_ _ | refine blk_drew ?_ | refine blk_alloc ?_ _)); refine blk_far ?_ NB219_220.out _; (with_reducible repeat (first | refine blk_drewN ?_ _ | refine blk_drew ?_ | refine blk_alloc ?_ _)); exact BK219.out), fun _ => (by (with_reducible repeat (first | refine blk_drewN ?_ _ | refine blk_drew ?_ | refine blk_alloc ?_ _)); refine blk_put (cs := #[.bool t215, .slice none 0 0]) ?_ 1 _ rfl; (with_reducible repeat (first | refine blk_drewN ?_ _ | refine blk_drew ?_ | refine blk_alloc ?_ _)); refine blk_put (cs := #[.bool false, .slice none 0 0]) ?_ 0 _ rfl; (with_reducible repeat (first | refine blk_drewN ?_ _ | refine blk_drew ?_ | refine blk_alloc ?_ _)); exact BK220.out), Q_X2_, Q_X5_, Q_X6_, Q_X7_⟩
     exact steps_nil
    rintro b a w39 hall ⟨v213, v217, gb219, gb220, m2_, m5_, m6_, m7_, ha, Q_BK205, Q_BK206, Q_BK207, Q_HB, Q_NB220_219, Q_NB219_220, Q_HO214, Q_HO218, Q_BK219, Q_GW219, Q_GE219, Q_NB205_219, Q_NB219_205, Q_NB206_219, Q_NB219_206, Q_NB207_219, Q_NB219_207, Q_BK220, Q_GW220, Q_GE220, Q_NB205_220, Q_NB220_205, Q_NB206_220, Q_NB220_206, Q_NB207_220, Q_NB220_207, Q_BK219_e8, Q_BK220_e9, Q_X2_, Q_X5_, Q_X6_, Q_X7_⟩
    clear BK205 BK206 BK207 HB
    have hb1_ := hall 1 (by kernel_rfl)
    have hb2_ := hall 2 (by kernel_rfl)
    have hb4_ := hall 4 (by kernel_rfl)
    have hb5_ := hall 5 (by kernel_rfl)
    have hb6_ := hall 6 (by kernel_rfl)
    have hb7_ := hall 7 (by kernel_rfl)
    have hb8_ := hall 8 (by kernel_rfl)
    have hb9_ := hall 9 (by kernel_rfl)
    subst ha
    obtain rfl := Q_X2_ hb2_
    obtain rfl := Q_X5_ hb5_
    obtain rfl := Q_X6_ hb6_
    obtain rfl := Q_X7_ hb7_
    simp only [putSel, hb1_, hb2_, hb4_, hb5_, hb6_, hb7_, hb8_, hb9_, if_true, Act.put, List.setIfInBounds_toArray, List.set_cons_zero, List.set_cons_succ]
    have BK205 := Aside0.mk Q_BK205
    clear Q_BK205
    have BK206 := Aside0.mk Q_BK206
    clear Q_BK206
    have BK207 := Aside0.mk Q_BK207
    clear Q_BK207
    have HB := Aside0.mk Q_HB
    clear Q_HB
    have NB220_219 := Aside0.mk (Q_NB220_219 hb6_ hb7_)
    clear Q_NB220_219
    have NB219_220 := Aside0.mk (Q_NB219_220 hb6_ hb7_)
    clear Q_NB219_220
    have HO214 := Aside0.mk (Q_HO214 hb2_)
    clear Q_HO214
    have HO218 := Aside0.mk (Q_HO218 hb5_)
    clear Q_HO218
    clear Q_BK219
    have GW219 := Aside0.mk (Q_GW219 hb6_)
    clear Q_GW219
    have GE219 := Aside0.mk (Q_GE219 hb6_)
    clear Q_GE219
    have NB205_219 := Aside0.mk (Q_NB205_219 hb6_)
    clear Q_NB205_219
    have NB219_205 := Aside0.mk (Q_NB219_205 hb6_)
    clear Q_NB219_205
    have NB206_219 := Aside0.mk (Q_NB206_219 hb6_)
    clear Q_NB206_219
    have NB219_206 := Aside0.mk (Q_NB219_206 hb6_)
    clear Q_NB219_206
    have NB207_219 := Aside0.mk (Q_NB207_219 hb6_)
    clear Q_NB207_219
    have NB219_207 := Aside0.mk (Q_NB219_207 hb6_)
    clear Q_NB219_207
    clear Q_BK220
    have GW220 := Aside0.mk (Q_GW220 hb7_)
    clear Q_GW220
    have GE220 := Aside0.mk (Q_GE220 hb7_)
    clear Q_GE220
    have NB205_220 := Aside0.mk (Q_NB205_220 hb7_)
    clear Q_NB205_220
    have NB220_205 := Aside0.mk (Q_NB220_205 hb7_)
    clear Q_NB220_205
    have NB206_220 := Aside0.mk (Q_NB206_220 hb7_)
    clear Q_NB206_220
    have NB220_206 := Aside0.mk (Q_NB220_206 hb7_)
    clear Q_NB220_206
    have NB207_220 := Aside0.mk (Q_NB207_220 hb7_)
    clear Q_NB207_220
    have NB220_207 := Aside0.mk (Q_NB220_207 hb7_)
    clear Q_NB220_207
    have BK219 := Aside0.mk (Q_BK219_e8 hb8_)
    clear Q_BK219_e8
    have BK220 := Aside0.mk (Q_BK220_e9 hb9_)
    clear Q_BK220_e9
    clear hall hb1_ hb2_ hb4_ hb5_ hb6_ hb7_ hb8_ hb9_
    by_cases c25 : a0 = 5
    ·rw [if_pos c25] at H
     have c25b0 : (a0 == 5) = true := beq_iff_eq.mpr c25
     have c25b1 : (a0 != 5) = false := bne_eq_false_iff_eq.mpr c25
     clear c25
     replace H := Option.bind_eq_some_iff.mp H
     obtain ⟨⟨t221, t222⟩, A260, H⟩ := H
     replace H : ((relstoreref_long_value.f kj3 t221 t222).bind fun bt225 => (some (bt225.1, bt225.2.1, bt225.2.2))) = some (r1, r2, r3) := H
     have A26 := Aside0.mk A260
     clear A260
     replace H := Option.bind_eq_some_iff.mp H
     obtain ⟨⟨t225, t226, t227⟩, A270, H⟩ := H
     replace H : (some (t225, t226, t227)) = some (r1, r2, r3) := H
     have A27 := Aside0.mk A270
     clear A270
     simp only [Option.some.injEq, Prod.mk.injEq] at H
     obtain ⟨rfl, rfl, rfl⟩ := H
     have hnb40 := NB219_205.out
     have hnc40 := NB205_219.out
     have hnb41 := NB219_206.out
     have hnc41 := NB206_219.out
     have hnb42 := NB219_207.out
     have hnc42 := NB207_219.out
     have hnb43 := NB219_220.out
     have hnc43 := NB220_219.out
     have hcz44_0 : w39.cell? ⟨gb219, 0, none⟩ = some (.bool t211) := (blk_cell BK219.out 0).trans rfl
     have hcz44_1 : w39.cell? ⟨gb219, 1, none⟩ = some (v213) := (blk_cell BK219.out 1).trans rfl
     have hfz44_0 := blk_frozen BK219.out 0
     have hfz44_1 := blk_frozen BK219.out 1
     have hnb45 := NB220_205.out
     have hnc45 := NB205_220.out
     have hnb46 := NB220_206.out
     have hnc46 := NB206_220.out
     have hnb47 := NB220_207.out
     have hnc47 := NB207_220.out
     have hcz48_0 : w39.cell? ⟨gb220, 0, none⟩ = some (.bool t215) := (blk_cell BK220.out 0).trans rfl
     have hcz48_1 : w39.cell? ⟨gb220, 1, none⟩ = some (v217) := (blk_cell BK220.out 1).trans rfl
     have hfz48_0 := blk_frozen BK220.out 0
     have hfz48_1 := blk_frozen BK220.out 1
     obtain ⟨Ao49, co49, eo49⟩ := Kd.R_slice HO214.out
     subst eo49
     obtain ⟨Ao50, co50, eo50⟩ := Kd.R_slice HO218.out
     subst eo50
     try go_wp2_with (first | ((with_reducible refine gate_callee (f := 113) rfl ?_); refine goesL_ (some 29) rfl rfl Try.func113 (by kernel_rfl) rfl #[.agg #[.bool t211, .slice Ao49 t212.length co49], .agg #[.bool t215, .slice Ao50 t216.length co50]] rfl (by (try simp only [List.map_toArray, List.map_cons, List.map_nil]); first | done | rfl | (simp only [List.length_drop, List.length_take]; rfl) | (simp only [Int.ofNat_lt, Int.ofNat_le]; done) | (simp only [Int.ofNat_lt, Int.ofNat_le]; rfl) | (simp only [ByteArray.size_append, Int.natCast_add]; rfl)) ?_; (with_reducible refine (relstoreref_long_plus.calls kj3 t211 _ _ t212 t215 _ _ t216 t221 t222 _ ?side1 ?side2 ?side3 ?side4 A26.out).mono ?_); (case side1 => repeat (first | exact (Kd.R_reads' HO214.out).2.2 | (with_reducible refine Kd.C_alloc ?_ _) | (with_reducible refine Kd.C_drewN ?_ _) | (with_reducible refine Kd.C_drew ?_))); (case side2 => exact (Kd.R_reads' HO214.out).2.1); (case side3 => repeat (first | exact (Kd.R_reads' HO218.out).2.2 | (with_reducible refine Kd.C_alloc ?_ _) | (with_reducible refine Kd.C_drewN ?_ _) | (with_reducible refine Kd.C_drew ?_))); (case side4 => exact (Kd.R_reads' HO218.out).2.1); rintro e w51 ⟨v223, rfl, ho0, hb⟩; refine ⟨_, rfl, ?_⟩; have n0_ := Aside0.mk (Kd.R_below (by (with_reducible repeat (first | apply Kd.R_alloc | apply Kd.R_drewN | apply Kd.R_drew)); exact HO214.out) hb); have n1_ := Aside0.mk (Kd.R_below (by (with_reducible repeat (first | apply Kd.R_alloc | apply Kd.R_drewN | apply Kd.R_drew)); exact HO218.out) hb); have n2_ := Aside0.mk (Kd.V_lower (Kd.V_mono (ok' := fun k_ => some k_ ≠ (.slice Ao49 t212.length co49 : Value).ownBlock ∧ some k_ ≠ (.slice Ao50 t216.length co50 : Value).ownBlock ∧ k_ ≠ gb205 ∧ k_ ≠ gb206 ∧ k_ ≠ gb207 ∧ k_ ≠ gb219 ∧ k_ ≠ gb220) ho0 (fun k_ hk_ => ⟨(Kd.fresh' (Kd.R_lt (by (with_reducible repeat (first | apply Kd.R_alloc | apply Kd.R_drewN | apply Kd.R_drew)); exact HO214.out)) k_ hk_), (Kd.fresh' (Kd.R_lt (by (with_reducible repeat (first | apply Kd.R_alloc | apply Kd.R_drewN | apply Kd.R_drew)); exact HO218.out)) k_ hk_), (Kd.freshB (g := gb205) (o := .cells #[.int .i64 a1_0, .int .i64 a1_1, .string a1_2] 29 (0, 0)) (by (with_reducible repeat (first | refine blk_drewN ?_ _ | refine blk_drew ?_ | refine blk_alloc ?_ _)); exact BK205.out) k_ hk_), (Kd.freshB (g := gb206) (o := .cells #[.int .i64 a2_0, .int .i64 a2_1, .string a2_2] 29 (0, 0)) (by (with_reducible repeat (first | refine blk_drewN ?_ _ | refine blk_drew ?_ | refine blk_alloc ?_ _)); exact BK206.out) k_ hk_), (Kd.freshB (g := gb207) (o := .cells #[.int .i64 0, .int .i64 0, .string (⟨#[]⟩ : ByteArray)] 29 (0, 0)) (by (with_reducible repeat (first | refine blk_drewN ?_ _ | refine blk_drew ?_ | refine blk_alloc ?_ _)); exact BK207.out) k_ hk_), (Kd.freshB (g := gb219) (o := .cells #[.bool t211, .slice Ao49 t212.length co49] 129 (0, 0)) (by (with_reducible repeat (first | refine blk_drewN ?_ _ | refine blk_drew ?_ | refine blk_alloc ?_ _)); exact BK219.out) k_ hk_), (Kd.freshB (g := gb220) (o := .cells #[.bool t215, .slice Ao50 t216.length co50] 129 (0, 0)) (by (with_reducible repeat (first | refine blk_drewN ?_ _ | refine blk_drew ?_ | refine blk_alloc ?_ _)); exact BK220.out) k_ hk_)⟩)) (below_size (by repeat (first | (with_reducible first | exact HB.out | apply below_alloc | apply pw_below_drewN | apply below_drew1 | refine below_set ?_ GE205.out | refine below_set ?_ GE206.out | refine below_set ?_ GE207.out | refine below_set ?_ GE219.out | refine below_set ?_ GE220.out) | exact HB.out)))); have n3_ := Aside0.mk (blk_below (g := gb205) (o := .cells #[.int .i64 a1_0, .int .i64 a1_1, .string a1_2] 29 (0, 0)) (by (with_reducible repeat (first | refine blk_drewN ?_ _ | refine blk_drew ?_ | refine blk_alloc ?_ _)); exact BK205.out) hb); have n4_ := Aside0.mk (blk_below (g := gb206) (o := .cells #[.int .i64 a2_0, .int .i64 a2_1, .string a2_2] 29 (0, 0)) (by (with_reducible repeat (first | refine blk_drewN ?_ _ | refine blk_drew ?_ | refine blk_alloc ?_ _)); exact BK206.out) hb); have n5_ := Aside0.mk (blk_below (g := gb207) (o := .cells #[.int .i64 0, .int .i64 0, .string (⟨#[]⟩ : ByteArray)] 29 (0, 0)) (by (with_reducible repeat (first | refine blk_drewN ?_ _ | refine blk_drew ?_ | refine blk_alloc ?_ _)); exact BK207.out) hb); have n6_ := Aside0.mk (blk_below (g := gb219) (o := .cells #[.bool t211, .slice Ao49 t212.length co49] 129 (0, 0)) (by (with_reducible repeat (first | refine blk_drewN ?_ _ | refine blk_drew ?_ | refine blk_alloc ?_ _)); exact BK219.out) hb); have n7_ := Aside0.mk (blk_below (g := gb220) (o := .cells #[.bool t215, .slice Ao50 t216.length co50] 129 (0, 0)) (by (with_reducible repeat (first | refine blk_drewN ?_ _ | refine blk_drew ?_ | refine blk_alloc ?_ _)); exact BK220.out) hb); have n8_ := Aside0.mk (below_step (by repeat (first | (with_reducible first | exact HB.out | apply below_alloc | apply pw_below_drewN | apply below_drew1 | refine below_set ?_ GE205.out | refine below_set ?_ GE206.out | refine below_set ?_ GE207.out | refine below_set ?_ GE219.out | refine below_set ?_ GE220.out) | exact HB.out)) hb); clear HO214; clear HO218; clear BK205; clear BK206; clear BK207; clear BK219; clear BK220; clear HB; have HO214 := n0_; have HO218 := n1_; have HO224 := n2_; have BK205 := n3_; have BK206 := n4_; have BK207 := n5_; have BK219 := n6_; have BK220 := n7_; have HB := n8_; clear n0_ n1_ n2_ n3_ n4_ n5_ n6_ n7_ n8_; (try clear hb); (try clear hb2); (try clear hk); (try clear hi); (try clear ho0); obtain ⟨Ao52, co52, eo52⟩ := Kd.V_slice HO224.out; subst eo52) | ((with_reducible refine gate_callee (f := 114) rfl ?_); refine goesL_ (some 30) rfl rfl Try.func114 (by kernel_rfl) rfl #[.agg #[.bool t221, .slice Ao52 t222.length co52]] rfl (by (try simp only [List.map_toArray, List.map_cons, List.map_nil]); first | done | rfl | (simp only [List.length_drop, List.length_take]; rfl) | (simp only [Int.ofNat_lt, Int.ofNat_le]; done) | (simp only [Int.ofNat_lt, Int.ofNat_le]; rfl) | (simp only [ByteArray.size_append, Int.natCast_add]; rfl)) ?_; (with_reducible refine (relstoreref_long_value.calls kj3 t221 _ _ t222 t225 t226 t227 _ ?side1 ?side2 A27.out).mono ?_); (case side1 => repeat (first | exact (Kd.V_reads' HO224.out).2.2 | (with_reducible refine Kd.C_alloc ?_ _) | (with_reducible refine Kd.C_drewN ?_ _) | (with_reducible refine Kd.C_drew ?_))); (case side2 => exact (Kd.V_reads' HO224.out).2.1); rintro e w53 ⟨rfl, hb⟩; refine ⟨_, rfl, ?_⟩; have n0_ := Aside0.mk (Kd.R_below (by (with_reducible repeat (first | apply Kd.R_alloc | apply Kd.R_drewN | apply Kd.R_drew)); exact HO214.out) hb); have n1_ := Aside0.mk (Kd.R_below (by (with_reducible repeat (first | apply Kd.R_alloc | apply Kd.R_drewN | apply Kd.R_drew)); exact HO218.out) hb); have n2_ := Aside0.mk (Kd.V_below (by (with_reducible repeat (first | apply Kd.V_alloc | apply Kd.V_drewN | apply Kd.V_drew)); exact HO224.out) hb); have n3_ := Aside0.mk (blk_below (g := gb205) (o := .cells #[.int .i64 a1_0, .int .i64 a1_1, .string a1_2] 29 (0, 0)) (by (with_reducible repeat (first | refine blk_drewN ?_ _ | refine blk_drew ?_ | refine blk_alloc ?_ _)); exact BK205.out) hb); have n4_ := Aside0.mk (blk_below (g := gb206) (o := .cells #[.int .i64 a2_0, .int .i64 a2_1, .string a2_2] 29 (0, 0)) (by (with_reducible repeat (first | refine blk_drewN ?_ _ | refine blk_drew ?_ | refine blk_alloc ?_ _)); exact BK206.out) hb); have n5_ := Aside0.mk (blk_below (g := gb207) (o := .cells #[.int .i64 0, .int .i64 0, .string (⟨#[]⟩ : ByteArray)] 29 (0, 0)) (by (with_reducible repeat (first | refine blk_drewN ?_ _ | refine blk_drew ?_ | refine blk_alloc ?_ _)); exact BK207.out) hb); have n6_ := Aside0.mk (blk_below (g := gb219) (o := .cells #[.bool t211, .slice Ao49 t212.length co49] 129 (0, 0)) (by (with_reducible repeat (first | refine blk_drewN ?_ _ | refine blk_drew ?_ | refine blk_alloc ?_ _)); exact BK219.out) hb); have n7_ := Aside0.mk (blk_below (g := gb220) (o := .cells #[.bool t215, .slice Ao50 t216.length co50] 129 (0, 0)) (by (with_reducible repeat (first | refine blk_drewN ?_ _ | refine blk_drew ?_ | refine blk_alloc ?_ _)); exact BK220.out) hb); have n8_ := Aside0.mk (below_step (by repeat (first | (with_reducible first | exact HB.out | apply below_alloc | apply pw_below_drewN | apply below_drew1 | refine below_set ?_ GE205.out | refine below_set ?_ GE206.out | refine below_set ?_ GE207.out | refine below_set ?_ GE219.out | refine below_set ?_ GE220.out) | exact HB.out)) hb); clear HO214; clear HO218; clear HO224; clear BK205; clear BK206; clear BK207; clear BK219; clear BK220; clear HB; have HO214 := n0_; have HO218 := n1_; have HO224 := n2_; have BK205 := n3_; have BK206 := n4_; have BK207 := n5_; have BK219 := n6_; have BK220 := n7_; have HB := n8_; clear n0_ n1_ n2_ n3_ n4_ n5_ n6_ n7_ n8_; (try clear hb); (try clear hb2); (try clear hk); (try clear hi); have hnb54 := NB207_205.out; have hnc54 := NB205_207.out; have hnb55 := NB207_206.out; have hnc55 := NB206_207.out; have hcz56_0 : w53.cell? ⟨gb207, 0, none⟩ = some (.int .i64 0) := (blk_cell BK207.out 0).trans rfl; have hcz56_1 : w53.cell? ⟨gb207, 1, none⟩ = some (.int .i64 0) := (blk_cell BK207.out 1).trans rfl; have hcz56_2 : w53.cell? ⟨gb207, 2, none⟩ = some (.string (⟨#[]⟩ : ByteArray)) := (blk_cell BK207.out 2).trans rfl; have hfz56_0 := blk_frozen BK207.out 0; have hfz56_1 := blk_frozen BK207.out 1; have hfz56_2 := blk_frozen BK207.out 2))
     refine bodyPost_ret (results_cell_row rfl _ _ gb207 29 #[.int .i64 t225, .int .i64 t226, .string t227] (0, 0) _ rfl (by (with_reducible repeat (first | refine blk_drewN ?_ _ | refine blk_drew ?_ | refine blk_alloc ?_ _)); refine blk_put (cs := #[.int .i64 t225, .int .i64 t226, .string (⟨#[]⟩ : ByteArray)]) ?_ 2 _ rfl; (with_reducible repeat (first | refine blk_drewN ?_ _ | refine blk_drew ?_ | refine blk_alloc ?_ _)); refine blk_put (cs := #[.int .i64 t225, .int .i64 0, .string (⟨#[]⟩ : ByteArray)]) ?_ 1 _ rfl; (with_reducible repeat (first | refine blk_drewN ?_ _ | refine blk_drew ?_ | refine blk_alloc ?_ _)); refine blk_put (cs := #[.int .i64 0, .int .i64 0, .string (⟨#[]⟩ : ByteArray)]) ?_ 0 _ rfl; (with_reducible repeat (first | refine blk_drewN ?_ _ | refine blk_drew ?_ | refine blk_alloc ?_ _)); exact BK207.out) Try.underlying29 rfl (by kernel_rfl)) rfl ?_
     exact ⟨by first | rfl | (simp [errW_none, errW_some] <;> rfl) | (simp [*, errW_none, errW_some] <;> rfl), by repeat (first | (with_reducible first | exact HB.out | apply below_alloc | apply pw_below_drewN | apply below_drew1 | refine below_set ?_ GE205.out | refine below_set ?_ GE206.out | refine below_set ?_ GE207.out | refine below_set ?_ GE219.out | refine below_set ?_ GE220.out) | exact HB.out)⟩
    ·rw [if_neg c25] at H
     have c25b0 : (a0 == 5) = false := beq_eq_false_iff_ne.mpr c25
     have c25b1 : (a0 != 5) = true := bne_iff_ne.mpr c25
     by_cases c57 : a0 = 6
     ·rw [if_pos c57] at H
      have c57b0 : (a0 == 6) = true := beq_iff_eq.mpr c57
      have c57b1 : (a0 != 6) = false := bne_eq_false_iff_eq.mpr c57
      clear c57
      replace H := Option.bind_eq_some_iff.mp H
      obtain ⟨⟨t228, t229⟩, A580, H⟩ := H
      replace H : ((relstoreref_long_value.f kj3 t228 t229).bind fun bt232 => (some (bt232.1, bt232.2.1, bt232.2.2))) = some (r1, r2, r3) := H
      have A58 := Aside0.mk A580
      clear A580
      replace H := Option.bind_eq_some_iff.mp H
      obtain ⟨⟨t232, t233, t234⟩, A590, H⟩ := H
      replace H : (some (t232, t233, t234)) = some (r1, r2, r3) := H
      have A59 := Aside0.mk A590
      clear A590
      simp only [Option.some.injEq, Prod.mk.injEq] at H
      obtain ⟨rfl, rfl, rfl⟩ := H
      have hnb72 := NB220_205.out
      have hnc72 := NB205_220.out
      have hnb73 := NB220_206.out
      have hnc73 := NB206_220.out
      have hnb74 := NB220_207.out
      have hnc74 := NB207_220.out
      have hnb75 := NB220_219.out
      have hnc75 := NB219_220.out
      have hcz76_0 : w39.cell? ⟨gb220, 0, none⟩ = some (.bool t215) := (blk_cell BK220.out 0).trans rfl
      have hcz76_1 : w39.cell? ⟨gb220, 1, none⟩ = some (v217) := (blk_cell BK220.out 1).trans rfl
      have hfz76_0 := blk_frozen BK220.out 0
      have hfz76_1 := blk_frozen BK220.out 1
      have hnb77 := NB219_205.out
      have hnc77 := NB205_219.out
      have hnb78 := NB219_206.out
      have hnc78 := NB206_219.out
      have hnb79 := NB219_207.out
      have hnc79 := NB207_219.out
      have hcz80_0 : w39.cell? ⟨gb219, 0, none⟩ = some (.bool t211) := (blk_cell BK219.out 0).trans rfl
      have hcz80_1 : w39.cell? ⟨gb219, 1, none⟩ = some (v213) := (blk_cell BK219.out 1).trans rfl
      have hfz80_0 := blk_frozen BK219.out 0
      have hfz80_1 := blk_frozen BK219.out 1
      obtain ⟨Ao81, co81, eo81⟩ := Kd.R_slice HO214.out
      subst eo81
      obtain ⟨Ao82, co82, eo82⟩ := Kd.R_slice HO218.out
      subst eo82
      try go_wp2_with (first | ((with_reducible refine gate_callee (f := 113) rfl ?_); refine goesL_ (some 39) rfl rfl Try.func113 (by kernel_rfl) rfl #[.agg #[.bool t211, .slice Ao81 t212.length co81], .agg #[.bool (!t215), .slice Ao82 t216.length co82]] rfl (by (try simp only [List.map_toArray, List.map_cons, List.map_nil]); first | done | rfl | (simp only [List.length_drop, List.length_take]; rfl) | (simp only [Int.ofNat_lt, Int.ofNat_le]; done) | (simp only [Int.ofNat_lt, Int.ofNat_le]; rfl) | (simp only [ByteArray.size_append, Int.natCast_add]; rfl)) ?_; (with_reducible refine (relstoreref_long_plus.calls kj3 t211 _ _ t212 (!t215) _ _ t216 t228 t229 _ ?side1 ?side2 ?side3 ?side4 A58.out).mono ?_); (case side1 => refine (Kd.R_reads' (e := 3) (base := w.heap.size) (ok := fun _ => True) (n := t212.length) (c := co81) ?_).2.2; exact (by (with_reducible repeat (first | apply Kd.R_alloc | apply Kd.R_drewN | apply Kd.R_drew)); exact (Kd.R_mono (Kd.R_far (p := ⟨gb220, 0, none⟩) (Kd.R_types HO214.out BK220.out (by decide)) (fun _ hk => hk.2) (.bool (!t215))) (fun _ h_ => h_.1)))); (case side2 => exact (Kd.R_reads' HO214.out).2.1); (case side3 => refine (Kd.R_reads' (e := 3) (base := w.heap.size) (ok := fun _ => True) (n := t216.length) (c := co82) ?_).2.2; exact (by (with_reducible repeat (first | apply Kd.R_alloc | apply Kd.R_drewN | apply Kd.R_drew)); exact (Kd.R_mono (Kd.R_far (p := ⟨gb220, 0, none⟩) (Kd.R_types HO218.out BK220.out (by decide)) (fun _ hk => hk.2) (.bool (!t215))) (fun _ h_ => h_.1)))); (case side4 => exact (Kd.R_reads' HO218.out).2.1); rintro e w83 ⟨v230, rfl, ho0, hb⟩; refine ⟨_, rfl, ?_⟩; have n0_ := Aside0.mk (Kd.R_below (by (with_reducible repeat (first | apply Kd.R_alloc | apply Kd.R_drewN | apply Kd.R_drew)); exact (Kd.R_mono (Kd.R_far (p := ⟨gb220, 0, none⟩) (Kd.R_types HO214.out BK220.out (by decide)) (fun _ hk => hk.2) (.bool (!t215))) (fun _ h_ => h_.1))) hb); have n1_ := Aside0.mk (Kd.R_below (by (with_reducible repeat (first | apply Kd.R_alloc | apply Kd.R_drewN | apply Kd.R_drew)); exact (Kd.R_mono (Kd.R_far (p := ⟨gb220, 0, none⟩) (Kd.R_types HO218.out BK220.out (by decide)) (fun _ hk => hk.2) (.bool (!t215))) (fun _ h_ => h_.1))) hb); have n2_ := Aside0.mk (Kd.V_lower (Kd.V_mono (ok' := fun k_ => some k_ ≠ (.slice Ao81 t212.length co81 : Value).ownBlock ∧ some k_ ≠ (.slice Ao82 t216.length co82 : Value).ownBlock ∧ k_ ≠ gb205 ∧ k_ ≠ gb206 ∧ k_ ≠ gb207 ∧ k_ ≠ gb219 ∧ k_ ≠ gb220) ho0 (fun k_ hk_ => ⟨(Kd.fresh' (Kd.R_lt (by (with_reducible repeat (first | apply Kd.R_alloc | apply Kd.R_drewN | apply Kd.R_drew)); exact (Kd.R_mono (Kd.R_far (p := ⟨gb220, 0, none⟩) (Kd.R_types HO214.out BK220.out (by decide)) (fun _ hk => hk.2) (.bool (!t215))) (fun _ h_ => h_.1)))) k_ hk_), (Kd.fresh' (Kd.R_lt (by (with_reducible repeat (first | apply Kd.R_alloc | apply Kd.R_drewN | apply Kd.R_drew)); exact (Kd.R_mono (Kd.R_far (p := ⟨gb220, 0, none⟩) (Kd.R_types HO218.out BK220.out (by decide)) (fun _ hk => hk.2) (.bool (!t215))) (fun _ h_ => h_.1)))) k_ hk_), (Kd.freshB (g := gb205) (o := .cells #[.int .i64 a1_0, .int .i64 a1_1, .string a1_2] 29 (0, 0)) (by (with_reducible repeat (first | refine blk_drewN ?_ _ | refine blk_drew ?_ | refine blk_alloc ?_ _)); refine blk_far ?_ NB205_220.out _; (with_reducible repeat (first | refine blk_drewN ?_ _ | refine blk_drew ?_ | refine blk_alloc ?_ _)); exact BK205.out) k_ hk_), (Kd.freshB (g := gb206) (o := .cells #[.int .i64 a2_0, .int .i64 a2_1, .string a2_2] 29 (0, 0)) (by (with_reducible repeat (first | refine blk_drewN ?_ _ | refine blk_drew ?_ | refine blk_alloc ?_ _)); refine blk_far ?_ NB206_220.out _; (with_reducible repeat (first | refine blk_drewN ?_ _ | refine blk_drew ?_ | refine blk_alloc ?_ _)); exact BK206.out) k_ hk_), (Kd.freshB (g := gb207) (o := .cells #[.int .i64 0, .int .i64 0, .string (⟨#[]⟩ : ByteArray)] 29 (0, 0)) (by (with_reducible repeat (first | refine blk_drewN ?_ _ | refine blk_drew ?_ | refine blk_alloc ?_ _)); refine blk_far ?_ NB207_220.out _; (with_reducible repeat (first | refine blk_drewN ?_ _ | refine blk_drew ?_ | refine blk_alloc ?_ _)); exact BK207.out) k_ hk_), (Kd.freshB (g := gb219) (o := .cells #[.bool t211, .slice Ao81 t212.length co81] 129 (0, 0)) (by (with_reducible repeat (first | refine blk_drewN ?_ _ | refine blk_drew ?_ | refine blk_alloc ?_ _)); refine blk_far ?_ NB219_220.out _; (with_reducible repeat (first | refine blk_drewN ?_ _ | refine blk_drew ?_ | refine blk_alloc ?_ _)); exact BK219.out) k_ hk_), (Kd.freshB (g := gb220) (o := .cells #[.bool (!t215), .slice Ao82 t216.length co82] 129 (0, 0)) (by (with_reducible repeat (first | refine blk_drewN ?_ _ | refine blk_drew ?_ | refine blk_alloc ?_ _)); refine blk_put (cs := #[.bool t215, .slice Ao82 t216.length co82]) ?_ 0 _ rfl; (with_reducible repeat (first | refine blk_drewN ?_ _ | refine blk_drew ?_ | refine blk_alloc ?_ _)); exact BK220.out) k_ hk_)⟩)) (below_size (by repeat (first | (with_reducible first | exact HB.out | apply below_alloc | apply pw_below_drewN | apply below_drew1 | refine below_set ?_ GE205.out | refine below_set ?_ GE206.out | refine below_set ?_ GE207.out | refine below_set ?_ GE219.out | refine below_set ?_ GE220.out) | exact HB.out)))); have n3_ := Aside0.mk (blk_below (g := gb205) (o := .cells #[.int .i64 a1_0, .int .i64 a1_1, .string a1_2] 29 (0, 0)) (by (with_reducible repeat (first | refine blk_drewN ?_ _ | refine blk_drew ?_ | refine blk_alloc ?_ _)); refine blk_far ?_ NB205_220.out _; (with_reducible repeat (first | refine blk_drewN ?_ _ | refine blk_drew ?_ | refine blk_alloc ?_ _)); exact BK205.out) hb); have n4_ := Aside0.mk (blk_below (g := gb206) (o := .cells #[.int .i64 a2_0, .int .i64 a2_1, .string a2_2] 29 (0, 0)) (by (with_reducible repeat (first | refine blk_drewN ?_ _ | refine blk_drew ?_ | refine blk_alloc ?_ _)); refine blk_far ?_ NB206_220.out _; (with_reducible repeat (first | refine blk_drewN ?_ _ | refine blk_drew ?_ | refine blk_alloc ?_ _)); exact BK206.out) hb); have n5_ := Aside0.mk (blk_below (g := gb207) (o := .cells #[.int .i64 0, .int .i64 0, .string (⟨#[]⟩ : ByteArray)] 29 (0, 0)) (by (with_reducible repeat (first | refine blk_drewN ?_ _ | refine blk_drew ?_ | refine blk_alloc ?_ _)); refine blk_far ?_ NB207_220.out _; (with_reducible repeat (first | refine blk_drewN ?_ _ | refine blk_drew ?_ | refine blk_alloc ?_ _)); exact BK207.out) hb); have n6_ := Aside0.mk (blk_below (g := gb219) (o := .cells #[.bool t211, .slice Ao81 t212.length co81] 129 (0, 0)) (by (with_reducible repeat (first | refine blk_drewN ?_ _ | refine blk_drew ?_ | refine blk_alloc ?_ _)); refine blk_far ?_ NB219_220.out _; (with_reducible repeat (first | refine blk_drewN ?_ _ | refine blk_drew ?_ | refine blk_alloc ?_ _)); exact BK219.out) hb); have n7_ := Aside0.mk (blk_below (g := gb220) (o := .cells #[.bool (!t215), .slice Ao82 t216.length co82] 129 (0, 0)) (by (with_reducible repeat (first | refine blk_drewN ?_ _ | refine blk_drew ?_ | refine blk_alloc ?_ _)); refine blk_put (cs := #[.bool t215, .slice Ao82 t216.length co82]) ?_ 0 _ rfl; (with_reducible repeat (first | refine blk_drewN ?_ _ | refine blk_drew ?_ | refine blk_alloc ?_ _)); exact BK220.out) hb); have n8_ := Aside0.mk (below_step (by repeat (first | (with_reducible first | exact HB.out | apply below_alloc | apply pw_below_drewN | apply below_drew1 | refine below_set ?_ GE205.out | refine below_set ?_ GE206.out | refine below_set ?_ GE207.out | refine below_set ?_ GE219.out | refine below_set ?_ GE220.out) | exact HB.out)) hb); clear HO214; clear HO218; clear BK205; clear BK206; clear BK207; clear BK219; clear BK220; clear HB; have HO214 := n0_; have HO218 := n1_; have HO231 := n2_; have BK205 := n3_; have BK206 := n4_; have BK207 := n5_; have BK219 := n6_; have BK220 := n7_; have HB := n8_; clear n0_ n1_ n2_ n3_ n4_ n5_ n6_ n7_ n8_; (try clear hb); (try clear hb2); (try clear hk); (try clear hi); (try clear ho0); obtain ⟨Ao84, co84, eo84⟩ := Kd.V_slice HO231.out; subst eo84) | ((with_reducible refine gate_callee (f := 114) rfl ?_); refine goesL_ (some 40) rfl rfl Try.func114 (by kernel_rfl) rfl #[.agg #[.bool t228, .slice Ao84 t229.length co84]] rfl (by (try simp only [List.map_toArray, List.map_cons, List.map_nil]); first | done | rfl | (simp only [List.length_drop, List.length_take]; rfl) | (simp only [Int.ofNat_lt, Int.ofNat_le]; done) | (simp only [Int.ofNat_lt, Int.ofNat_le]; rfl) | (simp only [ByteArray.size_append, Int.natCast_add]; rfl)) ?_; (with_reducible refine (relstoreref_long_value.calls kj3 t228 _ _ t229 t232 t233 t234 _ ?side1 ?side2 A59.out).mono ?_); (case side1 => repeat (first | exact (Kd.V_reads' HO231.out).2.2 | (with_reducible refine Kd.C_alloc ?_ _) | (with_reducible refine Kd.C_drewN ?_ _) | (with_reducible refine Kd.C_drew ?_))); (case side2 => exact (Kd.V_reads' HO231.out).2.1); rintro e w85 ⟨rfl, hb⟩; refine ⟨_, rfl, ?_⟩; have n0_ := Aside0.mk (Kd.R_below (by (with_reducible repeat (first | apply Kd.R_alloc | apply Kd.R_drewN | apply Kd.R_drew)); exact HO214.out) hb); have n1_ := Aside0.mk (Kd.R_below (by (with_reducible repeat (first | apply Kd.R_alloc | apply Kd.R_drewN | apply Kd.R_drew)); exact HO218.out) hb); have n2_ := Aside0.mk (Kd.V_below (by (with_reducible repeat (first | apply Kd.V_alloc | apply Kd.V_drewN | apply Kd.V_drew)); exact HO231.out) hb); have n3_ := Aside0.mk (blk_below (g := gb205) (o := .cells #[.int .i64 a1_0, .int .i64 a1_1, .string a1_2] 29 (0, 0)) (by (with_reducible repeat (first | refine blk_drewN ?_ _ | refine blk_drew ?_ | refine blk_alloc ?_ _)); exact BK205.out) hb); have n4_ := Aside0.mk (blk_below (g := gb206) (o := .cells #[.int .i64 a2_0, .int .i64 a2_1, .string a2_2] 29 (0, 0)) (by (with_reducible repeat (first | refine blk_drewN ?_ _ | refine blk_drew ?_ | refine blk_alloc ?_ _)); exact BK206.out) hb); have n5_ := Aside0.mk (blk_below (g := gb207) (o := .cells #[.int .i64 0, .int .i64 0, .string (⟨#[]⟩ : ByteArray)] 29 (0, 0)) (by (with_reducible repeat (first | refine blk_drewN ?_ _ | refine blk_drew ?_ | refine blk_alloc ?_ _)); exact BK207.out) hb); have n6_ := Aside0.mk (blk_below (g := gb219) (o := .cells #[.bool t211, .slice Ao81 t212.length co81] 129 (0, 0)) (by (with_reducible repeat (first | refine blk_drewN ?_ _ | refine blk_drew ?_ | refine blk_alloc ?_ _)); exact BK219.out) hb); have n7_ := Aside0.mk (blk_below (g := gb220) (o := .cells #[.bool (!t215), .slice Ao82 t216.length co82] 129 (0, 0)) (by (with_reducible repeat (first | refine blk_drewN ?_ _ | refine blk_drew ?_ | refine blk_alloc ?_ _)); exact BK220.out) hb); have n8_ := Aside0.mk (below_step (by repeat (first | (with_reducible first | exact HB.out | apply below_alloc | apply pw_below_drewN | apply below_drew1 | refine below_set ?_ GE205.out | refine below_set ?_ GE206.out | refine below_set ?_ GE207.out | refine below_set ?_ GE219.out | refine below_set ?_ GE220.out) | exact HB.out)) hb); clear HO214; clear HO218; clear HO231; clear BK205; clear BK206; clear BK207; clear BK219; clear BK220; clear HB; have HO214 := n0_; have HO218 := n1_; have HO231 := n2_; have BK205 := n3_; have BK206 := n4_; have BK207 := n5_; have BK219 := n6_; have BK220 := n7_; have HB := n8_; clear n0_ n1_ n2_ n3_ n4_ n5_ n6_ n7_ n8_; (try clear hb); (try clear hb2); (try clear hk); (try clear hi); have hnb86 := NB207_205.out; have hnc86 := NB205_207.out; have hnb87 := NB207_206.out; have hnc87 := NB206_207.out; have hcz88_0 : w85.cell? ⟨gb207, 0, none⟩ = some (.int .i64 0) := (blk_cell BK207.out 0).trans rfl; have hcz88_1 : w85.cell? ⟨gb207, 1, none⟩ = some (.int .i64 0) := (blk_cell BK207.out 1).trans rfl; have hcz88_2 : w85.cell? ⟨gb207, 2, none⟩ = some (.string (⟨#[]⟩ : ByteArray)) := (blk_cell BK207.out 2).trans rfl; have hfz88_0 := blk_frozen BK207.out 0; have hfz88_1 := blk_frozen BK207.out 1; have hfz88_2 := blk_frozen BK207.out 2))
      refine bodyPost_ret (results_cell_row rfl _ _ gb207 29 #[.int .i64 t232, .int .i64 t233, .string t234] (0, 0) _ rfl (by (with_reducible repeat (first | refine blk_drewN ?_ _ | refine blk_drew ?_ | refine blk_alloc ?_ _)); refine blk_put (cs := #[.int .i64 t232, .int .i64 t233, .string (⟨#[]⟩ : ByteArray)]) ?_ 2 _ rfl; (with_reducible repeat (first | refine blk_drewN ?_ _ | refine blk_drew ?_ | refine blk_alloc ?_ _)); refine blk_put (cs := #[.int .i64 t232, .int .i64 0, .string (⟨#[]⟩ : ByteArray)]) ?_ 1 _ rfl; (with_reducible repeat (first | refine blk_drewN ?_ _ | refine blk_drew ?_ | refine blk_alloc ?_ _)); refine blk_put (cs := #[.int .i64 0, .int .i64 0, .string (⟨#[]⟩ : ByteArray)]) ?_ 0 _ rfl; (with_reducible repeat (first | refine blk_drewN ?_ _ | refine blk_drew ?_ | refine blk_alloc ?_ _)); exact BK207.out) Try.underlying29 rfl (by kernel_rfl)) rfl ?_
      exact ⟨by first | rfl | (simp [errW_none, errW_some] <;> rfl) | (simp [*, errW_none, errW_some] <;> rfl), by repeat (first | (with_reducible first | exact HB.out | apply below_alloc | apply pw_below_drewN | apply below_drew1 | refine below_set ?_ GE205.out | refine below_set ?_ GE206.out | refine below_set ?_ GE207.out | refine below_set ?_ GE219.out | refine below_set ?_ GE220.out) | exact HB.out)⟩
     ·rw [if_neg c57] at H
      have c57b0 : (a0 == 6) = false := beq_eq_false_iff_ne.mpr c57
      have c57b1 : (a0 != 6) = true := bne_iff_ne.mpr c57
      by_cases c89 : a0 = 7
      ·rw [if_pos c89] at H
       have c89b0 : (a0 == 7) = true := beq_iff_eq.mpr c89
       have c89b1 : (a0 != 7) = false := bne_eq_false_iff_eq.mpr c89
       clear c89
       replace H := Option.bind_eq_some_iff.mp H
       obtain ⟨⟨t235, t236⟩, A900, H⟩ := H
       replace H : ((relstoreref_long_value.f kj3 t235 t236).bind fun bt239 => (some (bt239.1, bt239.2.1, bt239.2.2))) = some (r1, r2, r3) := H
       have A90 := Aside0.mk A900
       clear A900
       replace H := Option.bind_eq_some_iff.mp H
       obtain ⟨⟨t239, t240, t241⟩, A910, H⟩ := H
       replace H : (some (t239, t240, t241)) = some (r1, r2, r3) := H
       have A91 := Aside0.mk A910
       clear A910
       simp only [Option.some.injEq, Prod.mk.injEq] at H
       obtain ⟨rfl, rfl, rfl⟩ := H
       have hnb104 := NB219_205.out
       have hnc104 := NB205_219.out
       have hnb105 := NB219_206.out
       have hnc105 := NB206_219.out
       have hnb106 := NB219_207.out
       have hnc106 := NB207_219.out
       have hnb107 := NB219_220.out
       have hnc107 := NB220_219.out
       have hcz108_0 : w39.cell? ⟨gb219, 0, none⟩ = some (.bool t211) := (blk_cell BK219.out 0).trans rfl
       have hcz108_1 : w39.cell? ⟨gb219, 1, none⟩ = some (v213) := (blk_cell BK219.out 1).trans rfl
       have hfz108_0 := blk_frozen BK219.out 0
       have hfz108_1 := blk_frozen BK219.out 1
       have hnb109 := NB220_205.out
       have hnc109 := NB205_220.out
       have hnb110 := NB220_206.out
       have hnc110 := NB206_220.out
       have hnb111 := NB220_207.out
       have hnc111 := NB207_220.out
       have hcz112_0 : w39.cell? ⟨gb220, 0, none⟩ = some (.bool t215) := (blk_cell BK220.out 0).trans rfl
       have hcz112_1 : w39.cell? ⟨gb220, 1, none⟩ = some (v217) := (blk_cell BK220.out 1).trans rfl
       have hfz112_0 := blk_frozen BK220.out 0
       have hfz112_1 := blk_frozen BK220.out 1
       obtain ⟨Ao113, co113, eo113⟩ := Kd.R_slice HO214.out
       subst eo113
       obtain ⟨Ao114, co114, eo114⟩ := Kd.R_slice HO218.out
       subst eo114
       try go_wp2_with (first | ((with_reducible refine gate_callee (f := 115) rfl ?_); refine goesL_ (some 45) rfl rfl Try.func115 (by kernel_rfl) rfl #[.agg #[.bool t211, .slice Ao113 t212.length co113], .agg #[.bool t215, .slice Ao114 t216.length co114]] rfl (by (try simp only [List.map_toArray, List.map_cons, List.map_nil]); first | done | rfl | (simp only [List.length_drop, List.length_take]; rfl) | (simp only [Int.ofNat_lt, Int.ofNat_le]; done) | (simp only [Int.ofNat_lt, Int.ofNat_le]; rfl) | (simp only [ByteArray.size_append, Int.natCast_add]; rfl)) ?_; (with_reducible refine (relstoreref_long_times.calls kj3 t211 _ _ t212 t215 _ _ t216 t235 t236 _ ?side1 ?side2 ?side3 ?side4 A90.out).mono ?_); (case side1 => repeat (first | exact (Kd.R_reads' HO214.out).2.2 | (with_reducible refine Kd.C_alloc ?_ _) | (with_reducible refine Kd.C_drewN ?_ _) | (with_reducible refine Kd.C_drew ?_))); (case side2 => exact (Kd.R_reads' HO214.out).2.1); (case side3 => repeat (first | exact (Kd.R_reads' HO218.out).2.2 | (with_reducible refine Kd.C_alloc ?_ _) | (with_reducible refine Kd.C_drewN ?_ _) | (with_reducible refine Kd.C_drew ?_))); (case side4 => exact (Kd.R_reads' HO218.out).2.1); rintro e w115 ⟨v237, rfl, ho0, hb⟩; refine ⟨_, rfl, ?_⟩; have n0_ := Aside0.mk (Kd.R_below (by (with_reducible repeat (first | apply Kd.R_alloc | apply Kd.R_drewN | apply Kd.R_drew)); exact HO214.out) hb); have n1_ := Aside0.mk (Kd.R_below (by (with_reducible repeat (first | apply Kd.R_alloc | apply Kd.R_drewN | apply Kd.R_drew)); exact HO218.out) hb); have n2_ := Aside0.mk (Kd.V_lower (Kd.V_mono (ok' := fun k_ => some k_ ≠ (.slice Ao113 t212.length co113 : Value).ownBlock ∧ some k_ ≠ (.slice Ao114 t216.length co114 : Value).ownBlock ∧ k_ ≠ gb205 ∧ k_ ≠ gb206 ∧ k_ ≠ gb207 ∧ k_ ≠ gb219 ∧ k_ ≠ gb220) ho0 (fun k_ hk_ => ⟨(Kd.fresh' (Kd.R_lt (by (with_reducible repeat (first | apply Kd.R_alloc | apply Kd.R_drewN | apply Kd.R_drew)); exact HO214.out)) k_ hk_), (Kd.fresh' (Kd.R_lt (by (with_reducible repeat (first | apply Kd.R_alloc | apply Kd.R_drewN | apply Kd.R_drew)); exact HO218.out)) k_ hk_), (Kd.freshB (g := gb205) (o := .cells #[.int .i64 a1_0, .int .i64 a1_1, .string a1_2] 29 (0, 0)) (by (with_reducible repeat (first | refine blk_drewN ?_ _ | refine blk_drew ?_ | refine blk_alloc ?_ _)); exact BK205.out) k_ hk_), (Kd.freshB (g := gb206) (o := .cells #[.int .i64 a2_0, .int .i64 a2_1, .string a2_2] 29 (0, 0)) (by (with_reducible repeat (first | refine blk_drewN ?_ _ | refine blk_drew ?_ | refine blk_alloc ?_ _)); exact BK206.out) k_ hk_), (Kd.freshB (g := gb207) (o := .cells #[.int .i64 0, .int .i64 0, .string (⟨#[]⟩ : ByteArray)] 29 (0, 0)) (by (with_reducible repeat (first | refine blk_drewN ?_ _ | refine blk_drew ?_ | refine blk_alloc ?_ _)); exact BK207.out) k_ hk_), (Kd.freshB (g := gb219) (o := .cells #[.bool t211, .slice Ao113 t212.length co113] 129 (0, 0)) (by (with_reducible repeat (first | refine blk_drewN ?_ _ | refine blk_drew ?_ | refine blk_alloc ?_ _)); exact BK219.out) k_ hk_), (Kd.freshB (g := gb220) (o := .cells #[.bool t215, .slice Ao114 t216.length co114] 129 (0, 0)) (by (with_reducible repeat (first | refine blk_drewN ?_ _ | refine blk_drew ?_ | refine blk_alloc ?_ _)); exact BK220.out) k_ hk_)⟩)) (below_size (by repeat (first | (with_reducible first | exact HB.out | apply below_alloc | apply pw_below_drewN | apply below_drew1 | refine below_set ?_ GE205.out | refine below_set ?_ GE206.out | refine below_set ?_ GE207.out | refine below_set ?_ GE219.out | refine below_set ?_ GE220.out) | exact HB.out)))); have n3_ := Aside0.mk (blk_below (g := gb205) (o := .cells #[.int .i64 a1_0, .int .i64 a1_1, .string a1_2] 29 (0, 0)) (by (with_reducible repeat (first | refine blk_drewN ?_ _ | refine blk_drew ?_ | refine blk_alloc ?_ _)); exact BK205.out) hb); have n4_ := Aside0.mk (blk_below (g := gb206) (o := .cells #[.int .i64 a2_0, .int .i64 a2_1, .string a2_2] 29 (0, 0)) (by (with_reducible repeat (first | refine blk_drewN ?_ _ | refine blk_drew ?_ | refine blk_alloc ?_ _)); exact BK206.out) hb); have n5_ := Aside0.mk (blk_below (g := gb207) (o := .cells #[.int .i64 0, .int .i64 0, .string (⟨#[]⟩ : ByteArray)] 29 (0, 0)) (by (with_reducible repeat (first | refine blk_drewN ?_ _ | refine blk_drew ?_ | refine blk_alloc ?_ _)); exact BK207.out) hb); have n6_ := Aside0.mk (blk_below (g := gb219) (o := .cells #[.bool t211, .slice Ao113 t212.length co113] 129 (0, 0)) (by (with_reducible repeat (first | refine blk_drewN ?_ _ | refine blk_drew ?_ | refine blk_alloc ?_ _)); exact BK219.out) hb); have n7_ := Aside0.mk (blk_below (g := gb220) (o := .cells #[.bool t215, .slice Ao114 t216.length co114] 129 (0, 0)) (by (with_reducible repeat (first | refine blk_drewN ?_ _ | refine blk_drew ?_ | refine blk_alloc ?_ _)); exact BK220.out) hb); have n8_ := Aside0.mk (below_step (by repeat (first | (with_reducible first | exact HB.out | apply below_alloc | apply pw_below_drewN | apply below_drew1 | refine below_set ?_ GE205.out | refine below_set ?_ GE206.out | refine below_set ?_ GE207.out | refine below_set ?_ GE219.out | refine below_set ?_ GE220.out) | exact HB.out)) hb); clear HO214; clear HO218; clear BK205; clear BK206; clear BK207; clear BK219; clear BK220; clear HB; have HO214 := n0_; have HO218 := n1_; have HO238 := n2_; have BK205 := n3_; have BK206 := n4_; have BK207 := n5_; have BK219 := n6_; have BK220 := n7_; have HB := n8_; clear n0_ n1_ n2_ n3_ n4_ n5_ n6_ n7_ n8_; (try clear hb); (try clear hb2); (try clear hk); (try clear hi); (try clear ho0); obtain ⟨Ao116, co116, eo116⟩ := Kd.V_slice HO238.out; subst eo116) | ((with_reducible refine gate_callee (f := 114) rfl ?_); refine goesL_ (some 46) rfl rfl Try.func114 (by kernel_rfl) rfl #[.agg #[.bool t235, .slice Ao116 t236.length co116]] rfl (by (try simp only [List.map_toArray, List.map_cons, List.map_nil]); first | done | rfl | (simp only [List.length_drop, List.length_take]; rfl) | (simp only [Int.ofNat_lt, Int.ofNat_le]; done) | (simp only [Int.ofNat_lt, Int.ofNat_le]; rfl) | (simp only [ByteArray.size_append, Int.natCast_add]; rfl)) ?_; (with_reducible refine (relstoreref_long_value.calls kj3 t235 _ _ t236 t239 t240 t241 _ ?side1 ?side2 A91.out).mono ?_); (case side1 => repeat (first | exact (Kd.V_reads' HO238.out).2.2 | (with_reducible refine Kd.C_alloc ?_ _) | (with_reducible refine Kd.C_drewN ?_ _) | (with_reducible refine Kd.C_drew ?_))); (case side2 => exact (Kd.V_reads' HO238.out).2.1); rintro e w117 ⟨rfl, hb⟩; refine ⟨_, rfl, ?_⟩; have n0_ := Aside0.mk (Kd.R_below (by (with_reducible repeat (first | apply Kd.R_alloc | apply Kd.R_drewN | apply Kd.R_drew)); exact HO214.out) hb); have n1_ := Aside0.mk (Kd.R_below (by (with_reducible repeat (first | apply Kd.R_alloc | apply Kd.R_drewN | apply Kd.R_drew)); exact HO218.out) hb); have n2_ := Aside0.mk (Kd.V_below (by (with_reducible repeat (first | apply Kd.V_alloc | apply Kd.V_drewN | apply Kd.V_drew)); exact HO238.out) hb); have n3_ := Aside0.mk (blk_below (g := gb205) (o := .cells #[.int .i64 a1_0, .int .i64 a1_1, .string a1_2] 29 (0, 0)) (by (with_reducible repeat (first | refine blk_drewN ?_ _ | refine blk_drew ?_ | refine blk_alloc ?_ _)); exact BK205.out) hb); have n4_ := Aside0.mk (blk_below (g := gb206) (o := .cells #[.int .i64 a2_0, .int .i64 a2_1, .string a2_2] 29 (0, 0)) (by (with_reducible repeat (first | refine blk_drewN ?_ _ | refine blk_drew ?_ | refine blk_alloc ?_ _)); exact BK206.out) hb); have n5_ := Aside0.mk (blk_below (g := gb207) (o := .cells #[.int .i64 0, .int .i64 0, .string (⟨#[]⟩ : ByteArray)] 29 (0, 0)) (by (with_reducible repeat (first | refine blk_drewN ?_ _ | refine blk_drew ?_ | refine blk_alloc ?_ _)); exact BK207.out) hb); have n6_ := Aside0.mk (blk_below (g := gb219) (o := .cells #[.bool t211, .slice Ao113 t212.length co113] 129 (0, 0)) (by (with_reducible repeat (first | refine blk_drewN ?_ _ | refine blk_drew ?_ | refine blk_alloc ?_ _)); exact BK219.out) hb); have n7_ := Aside0.mk (blk_below (g := gb220) (o := .cells #[.bool t215, .slice Ao114 t216.length co114] 129 (0, 0)) (by (with_reducible repeat (first | refine blk_drewN ?_ _ | refine blk_drew ?_ | refine blk_alloc ?_ _)); exact BK220.out) hb); have n8_ := Aside0.mk (below_step (by repeat (first | (with_reducible first | exact HB.out | apply below_alloc | apply pw_below_drewN | apply below_drew1 | refine below_set ?_ GE205.out | refine below_set ?_ GE206.out | refine below_set ?_ GE207.out | refine below_set ?_ GE219.out | refine below_set ?_ GE220.out) | exact HB.out)) hb); clear HO214; clear HO218; clear HO238; clear BK205; clear BK206; clear BK207; clear BK219; clear BK220; clear HB; have HO214 := n0_; have HO218 := n1_; have HO238 := n2_; have BK205 := n3_; have BK206 := n4_; have BK207 := n5_; have BK219 := n6_; have BK220 := n7_; have HB := n8_; clear n0_ n1_ n2_ n3_ n4_ n5_ n6_ n7_ n8_; (try clear hb); (try clear hb2); (try clear hk); (try clear hi); have hnb118 := NB207_205.out; have hnc118 := NB205_207.out; have hnb119 := NB207_206.out; have hnc119 := NB206_207.out; have hcz120_0 : w117.cell? ⟨gb207, 0, none⟩ = some (.int .i64 0) := (blk_cell BK207.out 0).trans rfl; have hcz120_1 : w117.cell? ⟨gb207, 1, none⟩ = some (.int .i64 0) := (blk_cell BK207.out 1).trans rfl; have hcz120_2 : w117.cell? ⟨gb207, 2, none⟩ = some (.string (⟨#[]⟩ : ByteArray)) := (blk_cell BK207.out 2).trans rfl; have hfz120_0 := blk_frozen BK207.out 0; have hfz120_1 := blk_frozen BK207.out 1; have hfz120_2 := blk_frozen BK207.out 2))
       refine bodyPost_ret (results_cell_row rfl _ _ gb207 29 #[.int .i64 t239, .int .i64 t240, .string t241] (0, 0) _ rfl (by (with_reducible repeat (first | refine blk_drewN ?_ _ | refine blk_drew ?_ | refine blk_alloc ?_ _)); refine blk_put (cs := #[.int .i64 t239, .int .i64 t240, .string (⟨#[]⟩ : ByteArray)]) ?_ 2 _ rfl; (with_reducible repeat (first | refine blk_drewN ?_ _ | refine blk_drew ?_ | refine blk_alloc ?_ _)); refine blk_put (cs := #[.int .i64 t239, .int .i64 0, .string (⟨#[]⟩ : ByteArray)]) ?_ 1 _ rfl; (with_reducible repeat (first | refine blk_drewN ?_ _ | refine blk_drew ?_ | refine blk_alloc ?_ _)); refine blk_put (cs := #[.int .i64 0, .int .i64 0, .string (⟨#[]⟩ : ByteArray)]) ?_ 0 _ rfl; (with_reducible repeat (first | refine blk_drewN ?_ _ | refine blk_drew ?_ | refine blk_alloc ?_ _)); exact BK207.out) Try.underlying29 rfl (by kernel_rfl)) rfl ?_
       exact ⟨by first | rfl | (simp [errW_none, errW_some] <;> rfl) | (simp [*, errW_none, errW_some] <;> rfl), by repeat (first | (with_reducible first | exact HB.out | apply below_alloc | apply pw_below_drewN | apply below_drew1 | refine below_set ?_ GE205.out | refine below_set ?_ GE206.out | refine below_set ?_ GE207.out | refine below_set ?_ GE219.out | refine below_set ?_ GE220.out) | exact HB.out)⟩
      ·rw [if_neg c89] at H
       have c89b0 : (a0 == 7) = false := beq_eq_false_iff_ne.mpr c89
       have c89b1 : (a0 != 7) = true := bne_iff_ne.mpr c89
       have HC121 := Aside0.mk H
       clear H
       go_upto_if 47 with (fail)
       go_cut [47] (fun v47 wc => ∃ (kq : Nat) (x47_120 : Bool), v47 = .bool x47_120 ∧ Aside0 (relstoreref_Reckon.j1 kq a0 x47_120 a1_0 a1_1 a1_2 a2_0 a2_1 a2_2 = some (r1, r2, r3)) ∧ Aside0 (kq ≤ kj3) ∧ Aside0 (Kd.R (Kd.int .i64) 3 wc w.heap.size (fun _ => True) v213 t212) ∧ Aside0 (Kd.R (Kd.int .i64) 3 wc w.heap.size (fun _ => True) v217 t216) ∧ Aside0 (wc.heap[gb205]? = some (.cells #[.int .i64 a1_0, .int .i64 a1_1, .string a1_2] 29 (0, 0))) ∧ Aside0 (wc.heap[gb206]? = some (.cells #[.int .i64 a2_0, .int .i64 a2_1, .string a2_2] 29 (0, 0))) ∧ Aside0 (wc.heap[gb207]? = some (.cells #[.int .i64 0, .int .i64 0, .string (⟨#[]⟩ : ByteArray)] 29 (0, 0))) ∧ Aside0 (wc.heap[gb219]? = some (.cells #[.bool t211, v213] 129 (0, 0))) ∧ Aside0 (wc.heap[gb220]? = some (.cells #[.bool t215, v217] 129 (0, 0))) ∧ Aside0 (Below w.heap.size w wc))
       case first =>
        have H := HC121.out
        clear HC121
        by_cases c134 : a0 = 8
        ·rw [if_pos c134] at H
         have c134b0 : (a0 == 8) = true := beq_iff_eq.mpr c134
         have c134b1 : (a0 != 8) = false := bne_eq_false_iff_eq.mpr c134
         clear c134
         (first | rw [c134b0] | (simp only [i64_w, i32_w]; rw [c134b0]) | skip)
         have H' := Aside0.mk H
         clear H
         go_wp2
         go_meet
         case rel => exact ⟨_, ((a0 == 8)), (by first | rfl | (simp; done) | (simp [*]; done) | exact bq1 _ _ | exact bq2 _ _ | exact congrArg Value.bool (bq2 _ _) | exact congrArg Value.bool (bq1 _ _) | exact congrArg Value.bool (bq1' _ _) | exact bq1' _ _ | exact congrArg Value.bool (bq2' _ _) | exact bq2' _ _), H', ⟨by have := HJ3.out; first | omega | exact Nat.le_refl _⟩, ⟨by (with_reducible repeat (first | apply Kd.R_alloc | apply Kd.R_drewN | apply Kd.R_drew)); exact HO214.out⟩, ⟨by (with_reducible repeat (first | apply Kd.R_alloc | apply Kd.R_drewN | apply Kd.R_drew)); exact HO218.out⟩, ⟨by (with_reducible repeat (first | refine blk_drewN ?_ _ | refine blk_drew ?_ | refine blk_alloc ?_ _)); exact BK205.out⟩, ⟨by (with_reducible repeat (first | refine blk_drewN ?_ _ | refine blk_drew ?_ | refine blk_alloc ?_ _)); exact BK206.out⟩, ⟨by (with_reducible repeat (first | refine blk_drewN ?_ _ | refine blk_drew ?_ | refine blk_alloc ?_ _)); exact BK207.out⟩, ⟨by (with_reducible repeat (first | refine blk_drewN ?_ _ | refine blk_drew ?_ | refine blk_alloc ?_ _)); exact BK219.out⟩, ⟨by (with_reducible repeat (first | refine blk_drewN ?_ _ | refine blk_drew ?_ | refine blk_alloc ?_ _)); exact BK220.out⟩, ⟨by repeat (first | (with_reducible first | exact HB.out | apply below_alloc | apply pw_below_drewN | apply below_drew1 | refine below_set ?_ GE205.out | refine below_set ?_ GE206.out | refine below_set ?_ GE207.out | refine below_set ?_ GE219.out | refine below_set ?_ GE220.out) | exact HB.out)⟩⟩
        ·rw [if_neg c134] at H
         have c134b0 : (a0 == 8) = false := beq_eq_false_iff_ne.mpr c134
         have c134b1 : (a0 != 8) = true := bne_iff_ne.mpr c134
         (first | rw [c134b0] | (simp only [i64_w, i32_w]; rw [c134b0]) | skip)
         have H' := Aside0.mk H
         clear H
         go_wp2
         go_meet
         case rel => exact ⟨_, ((a0 == 9)), (by first | rfl | (simp; done) | (simp [*]; done) | exact bq1 _ _ | exact bq2 _ _ | exact congrArg Value.bool (bq2 _ _) | exact congrArg Value.bool (bq1 _ _) | exact congrArg Value.bool (bq1' _ _) | exact bq1' _ _ | exact congrArg Value.bool (bq2' _ _) | exact bq2' _ _), H', ⟨by have := HJ3.out; first | omega | exact Nat.le_refl _⟩, ⟨by (with_reducible repeat (first | apply Kd.R_alloc | apply Kd.R_drewN | apply Kd.R_drew)); exact HO214.out⟩, ⟨by (with_reducible repeat (first | apply Kd.R_alloc | apply Kd.R_drewN | apply Kd.R_drew)); exact HO218.out⟩, ⟨by (with_reducible repeat (first | refine blk_drewN ?_ _ | refine blk_drew ?_ | refine blk_alloc ?_ _)); exact BK205.out⟩, ⟨by (with_reducible repeat (first | refine blk_drewN ?_ _ | refine blk_drew ?_ | refine blk_alloc ?_ _)); exact BK206.out⟩, ⟨by (with_reducible repeat (first | refine blk_drewN ?_ _ | refine blk_drew ?_ | refine blk_alloc ?_ _)); exact BK207.out⟩, ⟨by (with_reducible repeat (first | refine blk_drewN ?_ _ | refine blk_drew ?_ | refine blk_alloc ?_ _)); exact BK219.out⟩, ⟨by (with_reducible repeat (first | refine blk_drewN ?_ _ | refine blk_drew ?_ | refine blk_alloc ?_ _)); exact BK220.out⟩, ⟨by repeat (first | (with_reducible first | exact HB.out | apply below_alloc | apply pw_below_drewN | apply below_drew1 | refine below_set ?_ GE205.out | refine below_set ?_ GE206.out | refine below_set ?_ GE207.out | refine below_set ?_ GE219.out | refine below_set ?_ GE220.out) | exact HB.out)⟩⟩
       case rest =>
        clear HC121
        try clear c1
        try clear q1
        try clear c2
        try clear p2
        try clear q2
        try clear c8
        try clear c10
        try clear c11
        try clear c13
        try clear c89
        try clear c89b0
        try clear c89b1
        try clear c104
        try clear c105
        try clear c106
        try clear c107
        try clear c109
        try clear c110
        try clear c111
        try clear c112
        try clear c114
        try clear c115
        try clear c118
        try clear c119
        try clear c134
        try clear c134b0
        try clear c134b1
        try clear hcz108_0
        try clear hcz108_1
        try clear hcz112_0
        try clear hcz112_1
        try clear hcz120_0
        try clear hcz120_1
        try clear hcz120_2
        try clear hfz108_0
        try clear hfz108_1
        try clear hfz112_0
        try clear hfz112_1
        try clear hfz120_0
        try clear hfz120_1
        try clear hfz120_2
        obtain ⟨kq, x47_120, rfl, HA, HJ120, HO_220001, HO_221001, BK205, BK206, BK207, BK219, BK220, HB⟩ := hcut
        cases kq with
        | zero => exact absurd HA.out (by simp [relstoreref_Reckon.j1])
        | succ kj120 =>
         have H := HA.out
         clear HA
         simp only [relstoreref_Reckon.j1] at H
         by_cases c135 : x47_120 = true
         ·subst c135
          have H1 : ((relstoreref_divided.f kj120 a0 a1_1 a2_1).bind fun bt242 => (some (bt242.1, bt242.2.1, bt242.2.2))) = some (r1, r2, r3) := by rw [if_pos rfl] at H; exact H
          clear H
          have H := H1
          clear H1
          replace H := Option.bind_eq_some_iff.mp H
          obtain ⟨⟨t242, t243, t244⟩, A1360, H⟩ := H
          replace H : (some (t242, t243, t244)) = some (r1, r2, r3) := H
          have A136 := Aside0.mk A1360
          clear A1360
          simp only [Option.some.injEq, Prod.mk.injEq] at H
          obtain ⟨rfl, rfl, rfl⟩ := H
          have hnb137 := NB205_206.out
          have hnc137 := NB206_205.out
          have hnb138 := NB205_207.out
          have hnc138 := NB207_205.out
          have hnb139 := NB205_219.out
          have hnc139 := NB219_205.out
          have hnb140 := NB205_220.out
          have hnc140 := NB220_205.out
          have hcz141_0 : wc.cell? ⟨gb205, 0, none⟩ = some (.int .i64 a1_0) := (blk_cell BK205.out 0).trans rfl
          have hcz141_1 : wc.cell? ⟨gb205, 1, none⟩ = some (.int .i64 a1_1) := (blk_cell BK205.out 1).trans rfl
          have hcz141_2 : wc.cell? ⟨gb205, 2, none⟩ = some (.string a1_2) := (blk_cell BK205.out 2).trans rfl
          have hfz141_0 := blk_frozen BK205.out 0
          have hfz141_1 := blk_frozen BK205.out 1
          have hfz141_2 := blk_frozen BK205.out 2
          have hnb142 := NB206_207.out
          have hnc142 := NB207_206.out
          have hnb143 := NB206_219.out
          have hnc143 := NB219_206.out
          have hnb144 := NB206_220.out
          have hnc144 := NB220_206.out
          have hcz145_0 : wc.cell? ⟨gb206, 0, none⟩ = some (.int .i64 a2_0) := (blk_cell BK206.out 0).trans rfl
          have hcz145_1 : wc.cell? ⟨gb206, 1, none⟩ = some (.int .i64 a2_1) := (blk_cell BK206.out 1).trans rfl
          have hcz145_2 : wc.cell? ⟨gb206, 2, none⟩ = some (.string a2_2) := (blk_cell BK206.out 2).trans rfl
          have hfz145_0 := blk_frozen BK206.out 0
          have hfz145_1 := blk_frozen BK206.out 1
          have hfz145_2 := blk_frozen BK206.out 2
          go_wp2_with (first | ((with_reducible refine gate_callee (f := 116) rfl ?_); refine goesL_ (some 55) rfl rfl Try.func116 (by kernel_rfl) rfl #[.int .i64 a0, .int .i64 a1_1, .int .i64 a2_1] rfl (by (try simp only [List.map_toArray, List.map_cons, List.map_nil]); first | done | rfl | (simp only [List.length_drop, List.length_take]; rfl) | (simp only [Int.ofNat_lt, Int.ofNat_le]; done) | (simp only [Int.ofNat_lt, Int.ofNat_le]; rfl) | (simp only [ByteArray.size_append, Int.natCast_add]; rfl)) ?_; (with_reducible refine (relstoreref_divided.calls kj120 a0 a1_1 a2_1 t242 t243 t244 _ A136.out).mono ?_); rintro e w146 ⟨rfl, hb⟩; refine ⟨_, rfl, ?_⟩; have n0_ := Aside0.mk (Kd.R_below (by (with_reducible repeat (first | apply Kd.R_alloc | apply Kd.R_drewN | apply Kd.R_drew)); exact HO_220001.out) hb); have n1_ := Aside0.mk (Kd.R_below (by (with_reducible repeat (first | apply Kd.R_alloc | apply Kd.R_drewN | apply Kd.R_drew)); exact HO_221001.out) hb); have n2_ := Aside0.mk (blk_below (g := gb205) (o := .cells #[.int .i64 a1_0, .int .i64 a1_1, .string a1_2] 29 (0, 0)) (by (with_reducible repeat (first | refine blk_drewN ?_ _ | refine blk_drew ?_ | refine blk_alloc ?_ _)); exact BK205.out) hb); have n3_ := Aside0.mk (blk_below (g := gb206) (o := .cells #[.int .i64 a2_0, .int .i64 a2_1, .string a2_2] 29 (0, 0)) (by (with_reducible repeat (first | refine blk_drewN ?_ _ | refine blk_drew ?_ | refine blk_alloc ?_ _)); exact BK206.out) hb); have n4_ := Aside0.mk (blk_below (g := gb207) (o := .cells #[.int .i64 0, .int .i64 0, .string (⟨#[]⟩ : ByteArray)] 29 (0, 0)) (by (with_reducible repeat (first | refine blk_drewN ?_ _ | refine blk_drew ?_ | refine blk_alloc ?_ _)); exact BK207.out) hb); have n5_ := Aside0.mk (blk_below (g := gb219) (o := .cells #[.bool t211, v213] 129 (0, 0)) (by (with_reducible repeat (first | refine blk_drewN ?_ _ | refine blk_drew ?_ | refine blk_alloc ?_ _)); exact BK219.out) hb); have n6_ := Aside0.mk (blk_below (g := gb220) (o := .cells #[.bool t215, v217] 129 (0, 0)) (by (with_reducible repeat (first | refine blk_drewN ?_ _ | refine blk_drew ?_ | refine blk_alloc ?_ _)); exact BK220.out) hb); have n7_ := Aside0.mk (below_step (by repeat (first | (with_reducible first | exact HB.out | apply below_alloc | apply pw_below_drewN | apply below_drew1 | refine below_set ?_ GE205.out | refine below_set ?_ GE206.out | refine below_set ?_ GE207.out | refine below_set ?_ GE219.out | refine below_set ?_ GE220.out) | exact HB.out)) hb); clear HO_220001; clear HO_221001; clear BK205; clear BK206; clear BK207; clear BK219; clear BK220; clear HB; have HO_220001 := n0_; have HO_221001 := n1_; have BK205 := n2_; have BK206 := n3_; have BK207 := n4_; have BK219 := n5_; have BK220 := n6_; have HB := n7_; clear n0_ n1_ n2_ n3_ n4_ n5_ n6_ n7_; (try clear hb); (try clear hb2); (try clear hk); (try clear hi); have hnb147 := NB207_219.out; have hnc147 := NB219_207.out; have hnb148 := NB207_220.out; have hnc148 := NB220_207.out; have hcz149_0 : w146.cell? ⟨gb207, 0, none⟩ = some (.int .i64 0) := (blk_cell BK207.out 0).trans rfl; have hcz149_1 : w146.cell? ⟨gb207, 1, none⟩ = some (.int .i64 0) := (blk_cell BK207.out 1).trans rfl; have hcz149_2 : w146.cell? ⟨gb207, 2, none⟩ = some (.string (⟨#[]⟩ : ByteArray)) := (blk_cell BK207.out 2).trans rfl; have hfz149_0 := blk_frozen BK207.out 0; have hfz149_1 := blk_frozen BK207.out 1; have hfz149_2 := blk_frozen BK207.out 2))
          refine bodyPost_ret (results_cell_row rfl _ _ gb207 29 #[.int .i64 t242, .int .i64 t243, .string t244] (0, 0) _ rfl (by (with_reducible repeat (first | refine blk_drewN ?_ _ | refine blk_drew ?_ | refine blk_alloc ?_ _)); refine blk_put (cs := #[.int .i64 t242, .int .i64 t243, .string (⟨#[]⟩ : ByteArray)]) ?_ 2 _ rfl; (with_reducible repeat (first | refine blk_drewN ?_ _ | refine blk_drew ?_ | refine blk_alloc ?_ _)); refine blk_put (cs := #[.int .i64 t242, .int .i64 0, .string (⟨#[]⟩ : ByteArray)]) ?_ 1 _ rfl; (with_reducible repeat (first | refine blk_drewN ?_ _ | refine blk_drew ?_ | refine blk_alloc ?_ _)); refine blk_put (cs := #[.int .i64 0, .int .i64 0, .string (⟨#[]⟩ : ByteArray)]) ?_ 0 _ rfl; (with_reducible repeat (first | refine blk_drewN ?_ _ | refine blk_drew ?_ | refine blk_alloc ?_ _)); exact BK207.out) Try.underlying29 rfl (by kernel_rfl)) rfl ?_
          exact ⟨by first | rfl | (simp [errW_none, errW_some] <;> rfl) | (simp [*, errW_none, errW_some] <;> rfl), by repeat (first | (with_reducible first | exact HB.out | apply below_alloc | apply pw_below_drewN | apply below_drew1 | refine below_set ?_ GE205.out | refine below_set ?_ GE206.out | refine below_set ?_ GE207.out | refine below_set ?_ GE219.out | refine below_set ?_ GE220.out) | exact HB.out)⟩
         ·replace c135 := Bool.eq_false_iff.mpr c135
          subst c135
          have H1 : ((relstoreref_null.f).bind fun bt245 => (some (bt245.1, bt245.2.1, bt245.2.2))) = some (r1, r2, r3) := by rw [if_neg (show ¬ (false = true) by decide)] at H; exact H
          clear H
          have H := H1
          clear H1
          replace H := Option.bind_eq_some_iff.mp H
          obtain ⟨⟨t245, t246, t247⟩, A1500, H⟩ := H
          replace H : (some (t245, t246, t247)) = some (r1, r2, r3) := H
          have A150 := Aside0.mk A1500
          clear A1500
          simp only [Option.some.injEq, Prod.mk.injEq] at H
          obtain ⟨rfl, rfl, rfl⟩ := H
          go_wp2_with (first | ((with_reducible refine gate_callee (f := 102) rfl ?_); refine goesL_ (some 56) rfl rfl Try.func102 (by kernel_rfl) rfl #[] rfl (by (try simp only [List.map_toArray, List.map_cons, List.map_nil]); first | done | rfl | (simp only [List.length_drop, List.length_take]; rfl) | (simp only [Int.ofNat_lt, Int.ofNat_le]; done) | (simp only [Int.ofNat_lt, Int.ofNat_le]; rfl) | (simp only [ByteArray.size_append, Int.natCast_add]; rfl)) ?_; (with_reducible refine (relstoreref_null.calls  t245 t246 t247 _ A150.out).mono ?_); rintro e w151 ⟨rfl, hb⟩; refine ⟨_, rfl, ?_⟩; have n0_ := Aside0.mk (Kd.R_below (by (with_reducible repeat (first | apply Kd.R_alloc | apply Kd.R_drewN | apply Kd.R_drew)); exact HO_220001.out) hb); have n1_ := Aside0.mk (Kd.R_below (by (with_reducible repeat (first | apply Kd.R_alloc | apply Kd.R_drewN | apply Kd.R_drew)); exact HO_221001.out) hb); have n2_ := Aside0.mk (blk_below (g := gb205) (o := .cells #[.int .i64 a1_0, .int .i64 a1_1, .string a1_2] 29 (0, 0)) (by (with_reducible repeat (first | refine blk_drewN ?_ _ | refine blk_drew ?_ | refine blk_alloc ?_ _)); exact BK205.out) hb); have n3_ := Aside0.mk (blk_below (g := gb206) (o := .cells #[.int .i64 a2_0, .int .i64 a2_1, .string a2_2] 29 (0, 0)) (by (with_reducible repeat (first | refine blk_drewN ?_ _ | refine blk_drew ?_ | refine blk_alloc ?_ _)); exact BK206.out) hb); have n4_ := Aside0.mk (blk_below (g := gb207) (o := .cells #[.int .i64 0, .int .i64 0, .string (⟨#[]⟩ : ByteArray)] 29 (0, 0)) (by (with_reducible repeat (first | refine blk_drewN ?_ _ | refine blk_drew ?_ | refine blk_alloc ?_ _)); exact BK207.out) hb); have n5_ := Aside0.mk (blk_below (g := gb219) (o := .cells #[.bool t211, v213] 129 (0, 0)) (by (with_reducible repeat (first | refine blk_drewN ?_ _ | refine blk_drew ?_ | refine blk_alloc ?_ _)); exact BK219.out) hb); have n6_ := Aside0.mk (blk_below (g := gb220) (o := .cells #[.bool t215, v217] 129 (0, 0)) (by (with_reducible repeat (first | refine blk_drewN ?_ _ | refine blk_drew ?_ | refine blk_alloc ?_ _)); exact BK220.out) hb); have n7_ := Aside0.mk (below_step (by repeat (first | (with_reducible first | exact HB.out | apply below_alloc | apply pw_below_drewN | apply below_drew1 | refine below_set ?_ GE205.out | refine below_set ?_ GE206.out | refine below_set ?_ GE207.out | refine below_set ?_ GE219.out | refine below_set ?_ GE220.out) | exact HB.out)) hb); clear HO_220001; clear HO_221001; clear BK205; clear BK206; clear BK207; clear BK219; clear BK220; clear HB; have HO_220001 := n0_; have HO_221001 := n1_; have BK205 := n2_; have BK206 := n3_; have BK207 := n4_; have BK219 := n5_; have BK220 := n6_; have HB := n7_; clear n0_ n1_ n2_ n3_ n4_ n5_ n6_ n7_; (try clear hb); (try clear hb2); (try clear hk); (try clear hi); have hnb152 := NB207_205.out; have hnc152 := NB205_207.out; have hnb153 := NB207_206.out; have hnc153 := NB206_207.out; have hnb154 := NB207_219.out; have hnc154 := NB219_207.out; have hnb155 := NB207_220.out; have hnc155 := NB220_207.out; have hcz156_0 : w151.cell? ⟨gb207, 0, none⟩ = some (.int .i64 0) := (blk_cell BK207.out 0).trans rfl; have hcz156_1 : w151.cell? ⟨gb207, 1, none⟩ = some (.int .i64 0) := (blk_cell BK207.out 1).trans rfl; have hcz156_2 : w151.cell? ⟨gb207, 2, none⟩ = some (.string (⟨#[]⟩ : ByteArray)) := (blk_cell BK207.out 2).trans rfl; have hfz156_0 := blk_frozen BK207.out 0; have hfz156_1 := blk_frozen BK207.out 1; have hfz156_2 := blk_frozen BK207.out 2))
          refine bodyPost_ret (results_cell_row rfl _ _ gb207 29 #[.int .i64 t245, .int .i64 t246, .string t247] (0, 0) _ rfl (by (with_reducible repeat (first | refine blk_drewN ?_ _ | refine blk_drew ?_ | refine blk_alloc ?_ _)); refine blk_put (cs := #[.int .i64 t245, .int .i64 t246, .string (⟨#[]⟩ : ByteArray)]) ?_ 2 _ rfl; (with_reducible repeat (first | refine blk_drewN ?_ _ | refine blk_drew ?_ | refine blk_alloc ?_ _)); refine blk_put (cs := #[.int .i64 t245, .int .i64 0, .string (⟨#[]⟩ : ByteArray)]) ?_ 1 _ rfl; (with_reducible repeat (first | refine blk_drewN ?_ _ | refine blk_drew ?_ | refine blk_alloc ?_ _)); refine blk_put (cs := #[.int .i64 0, .int .i64 0, .string (⟨#[]⟩ : ByteArray)]) ?_ 0 _ rfl; (with_reducible repeat (first | refine blk_drewN ?_ _ | refine blk_drew ?_ | refine blk_alloc ?_ _)); exact BK207.out) Try.underlying29 rfl (by kernel_rfl)) rfl ?_
          exact ⟨by first | rfl | (simp [errW_none, errW_some] <;> rfl) | (simp [*, errW_none, errW_some] <;> rfl), by repeat (first | (with_reducible first | exact HB.out | apply below_alloc | apply pw_below_drewN | apply below_drew1 | refine below_set ?_ GE205.out | refine below_set ?_ GE206.out | refine below_set ?_ GE207.out | refine below_set ?_ GE219.out | refine below_set ?_ GE220.out) | exact HB.out)⟩

end Go.Proofs.Ythaoaaboempajaa.QValueReckons
