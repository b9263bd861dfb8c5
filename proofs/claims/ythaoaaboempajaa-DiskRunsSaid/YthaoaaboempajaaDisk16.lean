/- The law's look at both files, walked: it answers true. Conditions: both disks are in the same state, in order. -/
import Derived.Test.YthaoaaboempajaaDisk15
namespace Go.Proofs.Ythaoaaboempajaa.Disk
open Go.RowKit Go.Proofs.YthaoaaboempajaaW.PrintWords Go.Proofs.YthaoaaboempajaaW.PrintLast Go.Proofs.YthaoaaboempajaaW.PrintMore Go.Proofs.YthaoaaboempajaaX Go.Proofs.Ythaoaaboempajaa.QDiskRuns
set_option linter.unusedVariables false
set_option linter.unusedSimpArgs false
theorem extract_all (b : ByteArray) : b.extract 0 b.size = b := by
  apply bytesOf_inj
  rw [bytesOf_extract, List.drop_zero, Nat.sub_zero, List.take_of_length_le (by rw [bytesOf_length]; exact Nat.le_refl _)]
theorem size_up {s : St} {f : Int} (hf : f = 0 ∨ f = 1) (hd : s.d = false) : s.size f = (((seenOf s f).size : Int), 0) := by
  unfold St.size
  rw [if_pos (by rcases hf with rfl | rfl <;> decide), if_neg (by rw [hd]; decide)]
theorem size_down {s : St} {f : Int} (hf : f = 0 ∨ f = 1) (hd : s.d = true) : s.size f = (0, 2) := by
  unfold St.size
  rw [if_pos (by rcases hf with rfl | rfl <;> decide), if_pos hd]
theorem read_up {s : St} {m : Nat} (hok : s.ok m) {f : Int} (hf : f = 0 ∨ f = 1) (hd : s.d = false) : s.read f 0 ((seenOf s f).size : Int) = (seenOf s f, 0) := by
  have hs := seenOf_size hok f
  unfold maxFile at hs
  unfold St.read
  rw [if_pos (by unfold rightB; rw [decide_eq_true_iff]; omega), if_neg (by rw [hd]; decide), if_neg (by omega), Int.zero_add, Int.toNat_natCast, Int.toNat_zero, extract_all]
set_option maxHeartbeats 8000000 in
set_option maxRecDepth 100000 in
theorem files.calls {w0 w : World} {gd gr : Nat} {X : Nat → Prop} {s : St} {m : Nat} (h : LT w0 w gd gr X s s m) (hm : m ≤ 1000000) :
    Calls Try.prog 62 #[.pointer (some ⟨gd, 0, none⟩), .pointer (some ⟨gr, 0, none⟩)] w fun e w' => e = .returned (.bool true) ∧ Below w.heap.size w w' := by
  have HL := Aside0.mk h
  have HM := Aside0.mk hm
  clear h hm
  go_enter Try.func62, Try.ntmps62
  go_wp2_with (fail)
  go_loopw [5] (fun v5 wr => ∃ (j : Nat), j ≤ 2 ∧ v5 = .int .i64 (j : Int) ∧ Aside0 (Below w.heap.size w wr)) (fun v5 _ => 2 - (intOf v5).toNat)
  case atStart => exact ⟨0, Nat.zero_le _, rfl, ⟨Below.refl _ _⟩⟩
  case round =>
    obtain ⟨j, hj, rfl, HBr⟩ := hrel
    rcases (show j = 0 ∨ j = 1 ∨ j = 2 by omega) with rfl | rfl | rfl
    · go_upto_region 5 with (go_at_call 136; (refine ((HL.out.below HBr.out).seen HM.out 0 (by decide)).mono ?_); rintro e1 w1 ⟨rfl, hb1⟩; have HB1 := Aside0.mk (below_step HBr.out hb1); clear hb1)
      cases hd : s.d with
      | true =>
        have HSZ := Aside0.mk (show s.size 0 = (0, 2) from size_down (by decide) hd)
        have HDD := Aside0.mk hd
        clear hd
        go_upto_region 6 with (go_at_call 129; (refine (((HL.out.below HB1.out).size 0)).mono ?_); rw [HSZ.out]; rintro e2 w2 ⟨rfl, hb2⟩; have HB2 := Aside0.mk (below_step HB1.out hb2.below); clear hb2)
        obtain ⟨A, c, c4, -, -⟩ := (HL.out.below HB2.out).cells
        rw [HDD.out] at c4
        go_wp2_with (go_at_call 15; (refine (relstorelaw_num.calls 2 2 _ rfl).mono ?_); rintro e3 w3 ⟨rfl, hb3⟩; have HB3 := Aside0.mk (below_step HB2.out hb3.below); clear hb3)
        go_ret
        exact ⟨rfl, HB3.out⟩
      | false =>
        have HSZ := Aside0.mk (show s.size 0 = (((seenOf s 0).size : Int), 0) from size_up (by decide) hd)
        have HRD := Aside0.mk (show s.read 0 0 ((seenOf s 0).size : Int) = (seenOf s 0, 0) from read_up HL.out.ok.1 (by decide) hd)
        have HDD := Aside0.mk hd
        clear hd
        go_upto_region 6 with (go_at_call 129; (refine (((HL.out.below HB1.out).size 0)).mono ?_); rw [HSZ.out]; rintro e2 w2 ⟨rfl, hb2⟩; have HB2 := Aside0.mk (below_step HB1.out hb2.below); clear hb2)
        obtain ⟨A, c, c4, -, -⟩ := (HL.out.below HB2.out).cells
        rw [HDD.out] at c4
        go_upto_region 9 with (go_at_call 123; (refine (((HL.out.below HB2.out).read 0 0 ((seenOf s 0).size : Int))).mono ?_); rw [HRD.out]; rintro e3 w3 ⟨rfl, hb3⟩; have HB3 := Aside0.mk (below_step HB2.out hb3.below); clear hb3)
        clear c4
        go_wp2_with (go_at_call 15; (refine (relstorelaw_num.calls 0 0 _ rfl).mono ?_); rintro e4 w4 ⟨rfl, hb4⟩; replace HB3 := Aside0.mk (below_step HB3.out hb4.below); clear hb4)
        go_roundw
        case rel => exact ⟨0 + 1, by omega, by go_num, HB3⟩
        case measure => simp [intOf]
    · go_upto_region 5 with (go_at_call 136; (refine ((HL.out.below HBr.out).seen HM.out 1 (by decide)).mono ?_); rintro e1 w1 ⟨rfl, hb1⟩; have HB1 := Aside0.mk (below_step HBr.out hb1); clear hb1)
      cases hd : s.d with
      | true =>
        have HSZ := Aside0.mk (show s.size 1 = (0, 2) from size_down (by decide) hd)
        have HDD := Aside0.mk hd
        clear hd
        go_upto_region 6 with (go_at_call 129; (refine (((HL.out.below HB1.out).size 1)).mono ?_); rw [HSZ.out]; rintro e2 w2 ⟨rfl, hb2⟩; have HB2 := Aside0.mk (below_step HB1.out hb2.below); clear hb2)
        obtain ⟨A, c, c4, -, -⟩ := (HL.out.below HB2.out).cells
        rw [HDD.out] at c4
        go_wp2_with (go_at_call 15; (refine (relstorelaw_num.calls 2 2 _ rfl).mono ?_); rintro e3 w3 ⟨rfl, hb3⟩; have HB3 := Aside0.mk (below_step HB2.out hb3.below); clear hb3)
        go_ret
        exact ⟨rfl, HB3.out⟩
      | false =>
        have HSZ := Aside0.mk (show s.size 1 = (((seenOf s 1).size : Int), 0) from size_up (by decide) hd)
        have HRD := Aside0.mk (show s.read 1 0 ((seenOf s 1).size : Int) = (seenOf s 1, 0) from read_up HL.out.ok.1 (by decide) hd)
        have HDD := Aside0.mk hd
        clear hd
        go_upto_region 6 with (go_at_call 129; (refine (((HL.out.below HB1.out).size 1)).mono ?_); rw [HSZ.out]; rintro e2 w2 ⟨rfl, hb2⟩; have HB2 := Aside0.mk (below_step HB1.out hb2.below); clear hb2)
        obtain ⟨A, c, c4, -, -⟩ := (HL.out.below HB2.out).cells
        rw [HDD.out] at c4
        go_upto_region 9 with (go_at_call 123; (refine (((HL.out.below HB2.out).read 1 0 ((seenOf s 1).size : Int))).mono ?_); rw [HRD.out]; rintro e3 w3 ⟨rfl, hb3⟩; have HB3 := Aside0.mk (below_step HB2.out hb3.below); clear hb3)
        clear c4
        go_wp2_with (go_at_call 15; (refine (relstorelaw_num.calls 0 0 _ rfl).mono ?_); rintro e4 w4 ⟨rfl, hb4⟩; replace HB3 := Aside0.mk (below_step HB3.out hb4.below); clear hb4)
        go_roundw
        case rel => exact ⟨1 + 1, by omega, by go_num, HB3⟩
        case measure => simp [intOf]
    · go_wp2_with (fail)
      go_ret
      exact ⟨rfl, HBr.out⟩
end Go.Proofs.Ythaoaaboempajaa.Disk
