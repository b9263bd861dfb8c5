-- Lines written for this claim by a program of this session (wip/print). Lean checks them.
import Derived.Test.YthaoaaboempajaaQValueTestsx0
import Derived.Test.YthaoaaboempajaaQValueTestsx1
import Derived.Test.YthaoaaboempajaaQValueTestsx6
namespace Go.Proofs.Ythaoaaboempajaa.QValueTests
open Go.RowKit Go.Proofs.YthaoaaboempajaaW.PrintWords Go.Proofs.YthaoaaboempajaaW.PrintLast Go.Proofs.YthaoaaboempajaaW.PrintMore Go.Proofs.YthaoaaboempajaaX
attribute [local go_sem] max2_int min2_int max_two min_two max_three min_three max_four min_four   -- for this text's walks alone
set_option linter.unusedVariables false
set_option linter.unusedSimpArgs false

/-! ### relstoreref_Both: function 47 (a contract of this session's own) -/
def relstoreref_Both.tab : List (List Int) := [[0, 0, 0], [0, 1, 2], [0, 2, 2]]
def relstoreref_Both.f (a0_0 : Int) (a0_1 : Int) (a0_2 : ByteArray) (a1_0 : Int) (a1_1 : Int) (a1_2 : ByteArray) : Option (Int × Int × ByteArray) := (relstoreref_three.f a0_0 a0_1 a0_2).bind fun i => ((relstoreref_three.f a1_0 a1_1 a1_2).bind fun j => relstoreref_told.f ((relstoreref_Both.tab.getD i.toNat []).getD j.toNat 0))
theorem relstoreref_Both.three_in {a b : Int} {c : ByteArray} {r : Int} (h : relstoreref_three.f a b c = some r) : 0 ≤ r ∧ r < 3 := by
  unfold relstoreref_three.f at h
  split at h
  · split at h <;> (have := Option.some.inj h; omega)
  · have := Option.some.inj h; omega
def relstoreref_Both.T1 : Bool × List (List Nat × List Nat) := (true, [([], []), ([], []), ([], []), ([0, 1, 2], [0, 1, 2]), ([], []), ([4], [4]), ([3, 5], [3, 5]), ([6], [6]), ([], []), ([8, 5], [8]), ([7, 9], [7, 9]), ([10], [10]), ([11, 9], [11]), ([12, 12, 0, 1, 2, 3, 4, 5, 6, 7, 8, 9, 10, 11, 12], [12])])
def relstoreref_Both.B1 : List Nat := [0, 0, 0, 7, 0, 16, 63, 127, 0, 304, 1023, 2047, 4095, 8191]
theorem relstoreref_Both.tab1 : rtab .any (opsOf Try.f47 1) = relstoreref_Both.T1 := by kernel_rfl
theorem relstoreref_Both.bits1 : waitsOk relstoreref_Both.T1.2 relstoreref_Both.B1 = true := by kernel_rfl
set_option maxHeartbeats 8000000 in
set_option maxRecDepth 100000 in
theorem relstoreref_Both.calls (a0_0 : Int) (a0_1 : Int) (a0_2 : ByteArray) (a1_0 : Int) (a1_1 : Int) (a1_2 : ByteArray) (r1 : Int) (r2 : Int) (r3 : ByteArray) (w : World) (h : relstoreref_Both.f a0_0 a0_1 a0_2 a1_0 a1_1 a1_2 = some (r1, r2, r3)) :
    Calls Try.prog 47 #[.agg #[.int .i64 a0_0, .int .i64 a0_1, .string a0_2], .agg #[.int .i64 a1_0, .int .i64 a1_1, .string a1_2]] w fun e w' => e = .returned (.agg #[.int .i64 r1, .int .i64 r2, .string r3]) ∧ Below w.heap.size w w' := by
  have hu29 := Try.underlying29
  have rng3 : ∀ {x : Int}, 0 ≤ x → x < 3 → x = 0 ∨ x = 1 ∨ x = 2 := by intro x h0 h1; omega
  obtain ⟨i, hi, h⟩ := Option.bind_eq_some_iff.1 h
  obtain ⟨j, hj, h⟩ := Option.bind_eq_some_iff.1 h
  have Ri := Aside0.mk (relstoreref_Both.three_in hi)
  have Rj := Aside0.mk (relstoreref_Both.three_in hj)
  obtain ⟨t, ht⟩ : ∃ t : Int, (relstoreref_Both.tab.getD i.toNat []).getD j.toNat 0 = t := ⟨_, rfl⟩
  rw [ht] at h
  have HT := Aside0.mk ht
  have Ai := Aside0.mk hi
  have Aj := Aside0.mk hj
  have At := Aside0.mk h
  clear hi hj ht h
  have HB := Aside0.mk (Below.refl w.heap.size w)
  go_enter Try.func47, Try.ntmps47
  go_wp2_with (first | ((with_reducible refine gate_dst (N := 2) rfl ?_); refine box_event ?hg (N := 2) ?hd (cs := #[.int .i64 a0_0, .int .i64 a0_1, .string a0_2]) (t := 29) ?hr ?_; (case hd => rfl); (case hg => rfl); (case hr => first | (go_simp; done) | (go_simp; rfl)); intro ga hg w2 hbox hb; have n0_ := Aside0.mk (below_step HB.out hb); have KA := Aside0.mk hbox; have GA := Aside0.mk (by rw [hg]; exact below_size HB.out : w.heap.size ≤ ga); clear HB; have HB := n0_; clear n0_; clear hb hbox hg) | ((with_reducible refine gate_dst (N := 3) rfl ?_); refine box_event ?hg (N := 3) ?hd (cs := #[.int .i64 a1_0, .int .i64 a1_1, .string a1_2]) (t := 29) ?hr ?_; (case hd => rfl); (case hg => rfl); (case hr => first | (go_simp; done) | (go_simp; rfl)); intro gb hg w3 hbox hb; have n0_ := Aside0.mk (below_step HB.out hb); have KB := Aside0.mk hbox; have GB := Aside0.mk (by rw [hg]; exact below_size HB.out : w.heap.size ≤ gb); (have m_ := Aside0.mk (blk_below KA.out hb)); clear KA; have KA := m_; clear m_; clear HB; have HB := n0_; clear n0_; clear hb hbox hg) | ((with_reducible refine gate_dst (N := 4) rfl ?_); refine box_event ?hg (N := 4) ?hd (cs := #[.int .i64 0, .int .i64 0, .string (⟨#[]⟩ : ByteArray)]) (t := 29) ?hr ?_; (case hd => rfl); (case hg => rfl); (case hr => first | (go_simp; done) | (go_simp; rfl)); intro gr hg w4 hbox hb; have n0_ := Aside0.mk (below_step HB.out hb); have KR := Aside0.mk hbox; have GR := Aside0.mk (by rw [hg]; exact below_size HB.out : w.heap.size ≤ gr); (have m_ := Aside0.mk (blk_below KA.out hb)); clear KA; have KA := m_; clear m_; (have m_ := Aside0.mk (blk_below KB.out hb)); clear KB; have KB := m_; clear m_; clear HB; have HB := n0_; clear n0_; clear hb hbox hg))
  refine start_ (n := 14) (S := fun w' => True) (ds := []) #[false, false, false, false, false, false, false, false, false, false, false, false, false, false] (by kernel_rfl) rfl rfl trivial (fun hHeld => ?_); refine with_tabW relstoreref_Both.tab1 relstoreref_Both.bits1 (fun HT_ HW_ => ?_)
  clear hHeld
  replace HB := Aside0.mk (below_drew HB.out)
  replace KA := Aside0.mk (blk_drew KA.out)
  replace KB := Aside0.mk (blk_drew KB.out)
  replace KR := Aside0.mk (blk_drew KR.out)
  generalize w4.drew = wd at HB KA KB KR ⊢
  refine inv_at [0, 1, 2, 3, 4, 5, 6, 7, 8, 9, 10, 11, 12, 13] (fun a0_ b a w' => ∃ (g5 : Nat) (g6 : Nat) (g7 : Nat) (g8 : Nat) (gx : Nat) (m0_ : Value) (m1_ : Value) (m2_ : Value) (m3_ : Value) (m6_ : Value) (m7_ : Value) (m10_ : Value), a = putSel a0_ b [(0, 5, m0_), (1, 6, m1_), (2, 7, m2_), (3, 8, m3_), (4, 9, (.agg #[.int .i64 a0_0, .int .i64 a0_1, .string a0_2])), (5, 10, (.int .i64 i)), (6, 11, m6_), (7, 12, m7_), (8, 13, (.agg #[.int .i64 a1_0, .int .i64 a1_1, .string a1_2])), (9, 14, (.int .i64 j)), (10, 15, m10_), (11, 16, (.int .i64 t)), (12, 17, (.agg #[.int .i64 r1, .int .i64 r2, .string r3]))] ∧ (Below w.heap.size w w') ∧ (b 13 = false → w'.heap[ga]? = some (.cells #[.int .i64 a0_0, .int .i64 a0_1, .string a0_2] 29 (0, 0))) ∧ (b 13 = false → w'.heap[gb]? = some (.cells #[.int .i64 a1_0, .int .i64 a1_1, .string a1_2] 29 (0, 0))) ∧ (b 13 = false → w'.heap[gr]? = some (.cells #[.int .i64 0, .int .i64 0, .string (⟨#[]⟩ : ByteArray)] 29 (0, 0))) ∧ (b 13 = true → w'.heap[gr]? = some (.cells #[.int .i64 r1, .int .i64 r2, .string r3] 29 (0, 0))) ∧ (b 0 = true → b 13 = false → w'.heap[g5]? = some (.cells #[.int .i64 0, .int .i64 0, .int .i64 0] 3 (0, 0))) ∧ (b 1 = true → b 13 = false → w'.heap[g6]? = some (.cells #[.int .i64 0, .int .i64 1, .int .i64 2] 3 (0, 0))) ∧ (b 2 = true → b 13 = false → w'.heap[g7]? = some (.cells #[.int .i64 0, .int .i64 2, .int .i64 2] 3 (0, 0))) ∧ (b 3 = true → b 13 = false → w'.heap[g8]? = some (.cells #[.slice (some ⟨g5, 0, none⟩) 3 3, .slice (some ⟨g6, 0, none⟩) 3 3, .slice (some ⟨g7, 0, none⟩) 3 3] 75 (0, 0))) ∧ (b 7 = true → b 13 = false → gx = (if i = 0 then g5 else if i = 1 then g6 else g7)) ∧ (b 0 = true → (m0_ : Value) = (.slice (some ⟨g5, 0, none⟩) 3 3)) ∧ (b 1 = true → (m1_ : Value) = (.slice (some ⟨g6, 0, none⟩) 3 3)) ∧ (b 2 = true → (m2_ : Value) = (.slice (some ⟨g7, 0, none⟩) 3 3)) ∧ (b 3 = true → (m3_ : Value) = (.slice (some ⟨g8, 0, none⟩) 3 3)) ∧ (b 6 = true → (m6_ : Value) = (.pointer (some ⟨g8, i.toNat, none⟩))) ∧ (b 7 = true → (m7_ : Value) = (.slice (some ⟨gx, 0, none⟩) 3 3)) ∧ (b 10 = true → (m10_ : Value) = (.pointer (some ⟨gx, j.toNat, none⟩)))) HT_.out HW_.out (by kernel_rfl) (by kernel_rfl) ?_ ?_ ?_
  · exact ⟨0, 0, 0, 0, 0, .bool false, .bool false, .bool false, .bool false, .bool false, .bool false, .bool false, by simp only [putSel, Bool.false_eq_true, if_false], HB.out, fun _ => KA.out, fun _ => KB.out, fun _ => KR.out, fun h_ => absurd h_ (by decide), fun h_ => absurd h_ (by decide), fun h_ => absurd h_ (by decide), fun h_ => absurd h_ (by decide), fun h_ => absurd h_ (by decide), fun h_ => absurd h_ (by decide), fun h_ => absurd h_ (by decide), fun h_ => absurd h_ (by decide), fun h_ => absurd h_ (by decide), fun h_ => absurd h_ (by decide), fun h_ => absurd h_ (by decide), fun h_ => absurd h_ (by decide), fun h_ => absurd h_ (by decide)⟩
  · skip
    clear HB KA KB KR
    refine steps_cons ?_ ?_
    · rintro b a w' ⟨g5, g6, g7, g8, gx, m0_, m1_, m2_, m3_, m6_, m7_, m10_, ha, Q_HB, Q_KA, Q_KB, Q_KR, Q_KZ, Q_K5, Q_K6, Q_K7, Q_K8, Q_KX, Q_X0_, Q_X1_, Q_X2_, Q_X3_, Q_X6_, Q_X7_, Q_X10_⟩ hb_ hon hoff
      refine ⟨_, rfl, fun K hK => ?_⟩
      replace ha := Aside0.mk ha
      have HB := Aside0.mk Q_HB
      have KA := Aside0.mk (Q_KA (hoff 13 (by kernel_rfl)))
      have KB := Aside0.mk (Q_KB (hoff 13 (by kernel_rfl)))
      have KR := Aside0.mk (Q_KR (hoff 13 (by kernel_rfl)))
      have hb := below_alloc (Below.refl w'.heap.size w') (.cells #[.int .i64 0, .int .i64 0, .int .i64 0] 3 (0, 0))
      refine event_step (w1 := w'.alloc (.cells #[.int .i64 0, .int .i64 0, .int .i64 0] 3 (0, 0))) (v := .slice (some ⟨w'.heap.size, 0, none⟩) 3 3) (by rfl) ?_ ?_
      · go_simp
        try rfl
      refine hK.out _ _ ⟨w'.heap.size, g6, g7, g8, gx, ((.slice (some ⟨w'.heap.size, 0, none⟩) 3 3)), m1_, m2_, m3_, m6_, m7_, m10_, (by rw [ha.out]; exact putSel_upk 0 hb_ rfl rfl rfl), below_step HB.out hb, fun _ => blk_below KA.out hb, fun _ => blk_below KB.out hb, fun _ => blk_below KR.out hb, fun h0_ => absurd ((hoff 13 (by kernel_rfl)).symm.trans h0_) (by decide), fun _ _ => blk_new w' _, fun h0_ h1_ => blk_below (Q_K6 h0_ h1_) hb, fun h0_ h1_ => blk_below (Q_K7 h0_ h1_) hb, fun h0_ _ => absurd ((hoff 3 (by kernel_rfl)).symm.trans h0_) (by decide), fun h0_ _ => absurd ((hoff 7 (by kernel_rfl)).symm.trans h0_) (by decide), fun _ => rfl, Q_X1_, Q_X2_, fun h0_ => absurd ((hoff 3 (by kernel_rfl)).symm.trans h0_) (by decide), fun h0_ => absurd ((hoff 6 (by kernel_rfl)).symm.trans h0_) (by decide), fun h0_ => absurd ((hoff 7 (by kernel_rfl)).symm.trans h0_) (by decide), fun h0_ => absurd ((hoff 10 (by kernel_rfl)).symm.trans h0_) (by decide)⟩
    refine steps_cons ?_ ?_
    · rintro b a w' ⟨g5, g6, g7, g8, gx, m0_, m1_, m2_, m3_, m6_, m7_, m10_, ha, Q_HB, Q_KA, Q_KB, Q_KR, Q_KZ, Q_K5, Q_K6, Q_K7, Q_K8, Q_KX, Q_X0_, Q_X1_, Q_X2_, Q_X3_, Q_X6_, Q_X7_, Q_X10_⟩ hb_ hon hoff
      refine ⟨_, rfl, fun K hK => ?_⟩
      replace ha := Aside0.mk ha
      have HB := Aside0.mk Q_HB
      have KA := Aside0.mk (Q_KA (hoff 13 (by kernel_rfl)))
      have KB := Aside0.mk (Q_KB (hoff 13 (by kernel_rfl)))
      have KR := Aside0.mk (Q_KR (hoff 13 (by kernel_rfl)))
      have hb := below_alloc (Below.refl w'.heap.size w') (.cells #[.int .i64 0, .int .i64 1, .int .i64 2] 3 (0, 0))
      refine event_step (w1 := w'.alloc (.cells #[.int .i64 0, .int .i64 1, .int .i64 2] 3 (0, 0))) (v := .slice (some ⟨w'.heap.size, 0, none⟩) 3 3) (by rfl) ?_ ?_
      · go_simp
        try rfl
      refine hK.out _ _ ⟨g5, w'.heap.size, g7, g8, gx, m0_, ((.slice (some ⟨w'.heap.size, 0, none⟩) 3 3)), m2_, m3_, m6_, m7_, m10_, (by rw [ha.out]; exact putSel_upk 1 hb_ rfl rfl rfl), below_step HB.out hb, fun _ => blk_below KA.out hb, fun _ => blk_below KB.out hb, fun _ => blk_below KR.out hb, fun h0_ => absurd ((hoff 13 (by kernel_rfl)).symm.trans h0_) (by decide), fun h0_ h1_ => blk_below (Q_K5 h0_ h1_) hb, fun _ _ => blk_new w' _, fun h0_ h1_ => blk_below (Q_K7 h0_ h1_) hb, fun h0_ _ => absurd ((hoff 3 (by kernel_rfl)).symm.trans h0_) (by decide), fun h0_ _ => absurd ((hoff 7 (by kernel_rfl)).symm.trans h0_) (by decide), Q_X0_, fun _ => rfl, Q_X2_, fun h0_ => absurd ((hoff 3 (by kernel_rfl)).symm.trans h0_) (by decide), fun h0_ => absurd ((hoff 6 (by kernel_rfl)).symm.trans h0_) (by decide), fun h0_ => absurd ((hoff 7 (by kernel_rfl)).symm.trans h0_) (by decide), fun h0_ => absurd ((hoff 10 (by kernel_rfl)).symm.trans h0_) (by decide)⟩
    refine steps_cons ?_ ?_
    · rintro b a w' ⟨g5, g6, g7, g8, gx, m0_, m1_, m2_, m3_, m6_, m7_, m10_, ha, Q_HB, Q_KA, Q_KB, Q_KR, Q_KZ, Q_K5, Q_K6, Q_K7, Q_K8, Q_KX, Q_X0_, Q_X1_, Q_X2_, Q_X3_, Q_X6_, Q_X7_, Q_X10_⟩ hb_ hon hoff
      refine ⟨_, rfl, fun K hK => ?_⟩
      replace ha := Aside0.mk ha
      have HB := Aside0.mk Q_HB
      have KA := Aside0.mk (Q_KA (hoff 13 (by kernel_rfl)))
      have KB := Aside0.mk (Q_KB (hoff 13 (by kernel_rfl)))
      have KR := Aside0.mk (Q_KR (hoff 13 (by kernel_rfl)))
      have hb := below_alloc (Below.refl w'.heap.size w') (.cells #[.int .i64 0, .int .i64 2, .int .i64 2] 3 (0, 0))
      refine event_step (w1 := w'.alloc (.cells #[.int .i64 0, .int .i64 2, .int .i64 2] 3 (0, 0))) (v := .slice (some ⟨w'.heap.size, 0, none⟩) 3 3) (by rfl) ?_ ?_
      · go_simp
        try rfl
      refine hK.out _ _ ⟨g5, g6, w'.heap.size, g8, gx, m0_, m1_, ((.slice (some ⟨w'.heap.size, 0, none⟩) 3 3)), m3_, m6_, m7_, m10_, (by rw [ha.out]; exact putSel_upk 2 hb_ rfl rfl rfl), below_step HB.out hb, fun _ => blk_below KA.out hb, fun _ => blk_below KB.out hb, fun _ => blk_below KR.out hb, fun h0_ => absurd ((hoff 13 (by kernel_rfl)).symm.trans h0_) (by decide), fun h0_ h1_ => blk_below (Q_K5 h0_ h1_) hb, fun h0_ h1_ => blk_below (Q_K6 h0_ h1_) hb, fun _ _ => blk_new w' _, fun h0_ _ => absurd ((hoff 3 (by kernel_rfl)).symm.trans h0_) (by decide), fun h0_ _ => absurd ((hoff 7 (by kernel_rfl)).symm.trans h0_) (by decide), Q_X0_, Q_X1_, fun _ => rfl, fun h0_ => absurd ((hoff 3 (by kernel_rfl)).symm.trans h0_) (by decide), fun h0_ => absurd ((hoff 6 (by kernel_rfl)).symm.trans h0_) (by decide), fun h0_ => absurd ((hoff 7 (by kernel_rfl)).symm.trans h0_) (by decide), fun h0_ => absurd ((hoff 10 (by kernel_rfl)).symm.trans h0_) (by decide)⟩
    refine steps_cons ?_ ?_
    · rintro b a w' ⟨g5, g6, g7, g8, gx, m0_, m1_, m2_, m3_, m6_, m7_, m10_, ha, Q_HB, Q_KA, Q_KB, Q_KR, Q_KZ, Q_K5, Q_K6, Q_K7, Q_K8, Q_KX, Q_X0_, Q_X1_, Q_X2_, Q_X3_, Q_X6_, Q_X7_, Q_X10_⟩ hb_ hon hoff
      refine ⟨_, rfl, fun K hK => ?_⟩
      have e5 : a.tmps[5]? = some (m0_) := by rw [ha]; exact putSel_on (e := (0, 5, m0_)) 0 rfl rfl (hon 0 (by kernel_rfl)) rfl
      rw [Q_X0_ (hon 0 (by kernel_rfl))] at e5
      have e6 : a.tmps[6]? = some (m1_) := by rw [ha]; exact putSel_on (e := (1, 6, m1_)) 1 rfl rfl (hon 1 (by kernel_rfl)) rfl
      rw [Q_X1_ (hon 1 (by kernel_rfl))] at e6
      have e7 : a.tmps[7]? = some (m2_) := by rw [ha]; exact putSel_on (e := (2, 7, m2_)) 2 rfl rfl (hon 2 (by kernel_rfl)) rfl
      rw [Q_X2_ (hon 2 (by kernel_rfl))] at e7
      replace ha := Aside0.mk ha
      have HB := Aside0.mk Q_HB
      have KA := Aside0.mk (Q_KA (hoff 13 (by kernel_rfl)))
      have KB := Aside0.mk (Q_KB (hoff 13 (by kernel_rfl)))
      have KR := Aside0.mk (Q_KR (hoff 13 (by kernel_rfl)))
      have K5 := Aside0.mk (Q_K5 (hon 0 (by kernel_rfl)) (hoff 13 (by kernel_rfl)))
      have K6 := Aside0.mk (Q_K6 (hon 1 (by kernel_rfl)) (hoff 13 (by kernel_rfl)))
      have K7 := Aside0.mk (Q_K7 (hon 2 (by kernel_rfl)) (hoff 13 (by kernel_rfl)))
      have hb := below_alloc (Below.refl w'.heap.size w') (.cells #[.slice (some ⟨g5, 0, none⟩) 3 3, .slice (some ⟨g6, 0, none⟩) 3 3, .slice (some ⟨g7, 0, none⟩) 3 3] 75 (0, 0))
      refine event_step (w1 := w'.alloc (.cells #[.slice (some ⟨g5, 0, none⟩) 3 3, .slice (some ⟨g6, 0, none⟩) 3 3, .slice (some ⟨g7, 0, none⟩) 3 3] 75 (0, 0))) (v := .slice (some ⟨w'.heap.size, 0, none⟩) 3 3) (by rfl) ?_ ?_
      · go_simp
        try rfl
      refine hK.out _ _ ⟨g5, g6, g7, w'.heap.size, gx, m0_, m1_, m2_, ((.slice (some ⟨w'.heap.size, 0, none⟩) 3 3)), m6_, m7_, m10_, (by rw [ha.out]; exact putSel_upk 3 hb_ rfl rfl rfl), below_step HB.out hb, fun _ => blk_below KA.out hb, fun _ => blk_below KB.out hb, fun _ => blk_below KR.out hb, fun h0_ => absurd ((hoff 13 (by kernel_rfl)).symm.trans h0_) (by decide), fun _ _ => blk_below K5.out hb, fun _ _ => blk_below K6.out hb, fun _ _ => blk_below K7.out hb, fun _ _ => blk_new w' _, fun h0_ _ => absurd ((hoff 7 (by kernel_rfl)).symm.trans h0_) (by decide), Q_X0_, Q_X1_, Q_X2_, fun _ => rfl, fun h0_ => absurd ((hoff 6 (by kernel_rfl)).symm.trans h0_) (by decide), fun h0_ => absurd ((hoff 7 (by kernel_rfl)).symm.trans h0_) (by decide), fun h0_ => absurd ((hoff 10 (by kernel_rfl)).symm.trans h0_) (by decide)⟩
    refine steps_cons ?_ ?_
    · rintro b a w' ⟨g5, g6, g7, g8, gx, m0_, m1_, m2_, m3_, m6_, m7_, m10_, ha, Q_HB, Q_KA, Q_KB, Q_KR, Q_KZ, Q_K5, Q_K6, Q_K7, Q_K8, Q_KX, Q_X0_, Q_X1_, Q_X2_, Q_X3_, Q_X6_, Q_X7_, Q_X10_⟩ hb_ hon hoff
      refine ⟨_, rfl, fun K hK => ?_⟩
      have e2 : a.tmps[2]? = some (.pointer (some ⟨ga, 0, none⟩)) := by rw [ha]; exact (putSel_off rfl).trans rfl
      replace ha := Aside0.mk ha
      have HB := Aside0.mk Q_HB
      have KA := Aside0.mk (Q_KA (hoff 13 (by kernel_rfl)))
      have KB := Aside0.mk (Q_KB (hoff 13 (by kernel_rfl)))
      have KR := Aside0.mk (Q_KR (hoff 13 (by kernel_rfl)))
      have c0_ := blk_cell KA.out 0
      have c1_ := blk_cell KA.out 1
      have c2_ := blk_cell KA.out 2
      simp at c0_ c1_ c2_
      refine value_ (w1 := w') (v := (.agg #[.int .i64 a0_0, .int .i64 a0_1, .string a0_2])) (by rfl) rfl ?_ ?_
      · go_simp
        (try simp only [i64_w])
        try rfl
      refine hK.out _ _ ⟨g5, g6, g7, g8, gx, m0_, m1_, m2_, m3_, m6_, m7_, m10_, (by rw [ha.out]; exact putSel_upk 4 hb_ rfl rfl rfl), Q_HB, Q_KA, Q_KB, Q_KR, fun h0_ => absurd ((hoff 13 (by kernel_rfl)).symm.trans h0_) (by decide), Q_K5, Q_K6, Q_K7, Q_K8, fun h0_ _ => absurd ((hoff 7 (by kernel_rfl)).symm.trans h0_) (by decide), Q_X0_, Q_X1_, Q_X2_, Q_X3_, fun h0_ => absurd ((hoff 6 (by kernel_rfl)).symm.trans h0_) (by decide), fun h0_ => absurd ((hoff 7 (by kernel_rfl)).symm.trans h0_) (by decide), fun h0_ => absurd ((hoff 10 (by kernel_rfl)).symm.trans h0_) (by decide)⟩
    refine steps_cons ?_ ?_
    · rintro b a w' ⟨g5, g6, g7, g8, gx, m0_, m1_, m2_, m3_, m6_, m7_, m10_, ha, Q_HB, Q_KA, Q_KB, Q_KR, Q_KZ, Q_K5, Q_K6, Q_K7, Q_K8, Q_KX, Q_X0_, Q_X1_, Q_X2_, Q_X3_, Q_X6_, Q_X7_, Q_X10_⟩ hb_ hon hoff
      refine ⟨_, rfl, fun K hK => ?_⟩
      have e9 : a.tmps[9]? = some ((.agg #[.int .i64 a0_0, .int .i64 a0_1, .string a0_2])) := by rw [ha]; exact putSel_on (e := (4, 9, (.agg #[.int .i64 a0_0, .int .i64 a0_1, .string a0_2]))) 4 rfl rfl (hon 4 (by kernel_rfl)) rfl
      replace ha := Aside0.mk ha
      have HB := Aside0.mk Q_HB
      have KA := Aside0.mk (Q_KA (hoff 13 (by kernel_rfl)))
      have KB := Aside0.mk (Q_KB (hoff 13 (by kernel_rfl)))
      have KR := Aside0.mk (Q_KR (hoff 13 (by kernel_rfl)))
      refine goes_ Try.func118 (by kernel_rfl) rfl #[.agg #[.int .i64 a0_0, .int .i64 a0_1, .string a0_2]] (by rfl) rfl rfl (by first | (simp only [List.map_toArray, List.map_cons, List.map_nil, Act.eval, Array.getD_eq_getD_getElem?, Option.getD_some, e9]; done) | (simp only [List.map_toArray, List.map_cons, List.map_nil, Act.eval, Array.getD_eq_getD_getElem?, Option.getD_some, e9]; rfl)) ?_
      with_reducible refine (relstoreref_three.calls a0_0 a0_1 a0_2 i _ Ai.out).mono ?_
      rintro e w1 ⟨rfl, hb⟩
      refine ⟨_, rfl, ?_⟩
      refine hK.out _ _ ⟨g5, g6, g7, g8, gx, m0_, m1_, m2_, m3_, m6_, m7_, m10_, (by rw [ha.out]; exact putSel_upk 5 hb_ rfl rfl rfl), below_step HB.out hb, fun _ => blk_below KA.out hb, fun _ => blk_below KB.out hb, fun _ => blk_below KR.out hb, fun h0_ => absurd ((hoff 13 (by kernel_rfl)).symm.trans h0_) (by decide), fun h0_ h1_ => blk_below (Q_K5 h0_ h1_) hb, fun h0_ h1_ => blk_below (Q_K6 h0_ h1_) hb, fun h0_ h1_ => blk_below (Q_K7 h0_ h1_) hb, fun h0_ h1_ => blk_below (Q_K8 h0_ h1_) hb, fun h0_ _ => absurd ((hoff 7 (by kernel_rfl)).symm.trans h0_) (by decide), Q_X0_, Q_X1_, Q_X2_, Q_X3_, fun h0_ => absurd ((hoff 6 (by kernel_rfl)).symm.trans h0_) (by decide), fun h0_ => absurd ((hoff 7 (by kernel_rfl)).symm.trans h0_) (by decide), fun h0_ => absurd ((hoff 10 (by kernel_rfl)).symm.trans h0_) (by decide)⟩
    refine steps_cons ?_ ?_
    · rintro b a w' ⟨g5, g6, g7, g8, gx, m0_, m1_, m2_, m3_, m6_, m7_, m10_, ha, Q_HB, Q_KA, Q_KB, Q_KR, Q_KZ, Q_K5, Q_K6, Q_K7, Q_K8, Q_KX, Q_X0_, Q_X1_, Q_X2_, Q_X3_, Q_X6_, Q_X7_, Q_X10_⟩ hb_ hon hoff
      refine ⟨_, rfl, fun K hK => ?_⟩
      have e8 : a.tmps[8]? = some (m3_) := by rw [ha]; exact putSel_on (e := (3, 8, m3_)) 3 rfl rfl (hon 3 (by kernel_rfl)) rfl
      rw [Q_X3_ (hon 3 (by kernel_rfl))] at e8
      have e10 : a.tmps[10]? = some ((.int .i64 i)) := by rw [ha]; exact putSel_on (e := (5, 10, (.int .i64 i))) 5 rfl rfl (hon 5 (by kernel_rfl)) rfl
      replace ha := Aside0.mk ha
      have HB := Aside0.mk Q_HB
      have KA := Aside0.mk (Q_KA (hoff 13 (by kernel_rfl)))
      have KB := Aside0.mk (Q_KB (hoff 13 (by kernel_rfl)))
      have KR := Aside0.mk (Q_KR (hoff 13 (by kernel_rfl)))
      have K5 := Aside0.mk (Q_K5 (hon 0 (by kernel_rfl)) (hoff 13 (by kernel_rfl)))
      have K6 := Aside0.mk (Q_K6 (hon 1 (by kernel_rfl)) (hoff 13 (by kernel_rfl)))
      have K7 := Aside0.mk (Q_K7 (hon 2 (by kernel_rfl)) (hoff 13 (by kernel_rfl)))
      have K8 := Aside0.mk (Q_K8 (hon 3 (by kernel_rfl)) (hoff 13 (by kernel_rfl)))
      have z0_ := Ri.out.1
      have z1_ := Ri.out.2
      refine value_ (w1 := w') (v := (.pointer (some ⟨g8, i.toNat, none⟩))) (by rfl) rfl ?_ ?_
      · go_simp
        (try simp only [i64_w])
        try rfl
      refine hK.out _ _ ⟨g5, g6, g7, g8, gx, m0_, m1_, m2_, m3_, ((.pointer (some ⟨g8, i.toNat, none⟩))), m7_, m10_, (by rw [ha.out]; exact putSel_upk 6 hb_ rfl rfl rfl), Q_HB, Q_KA, Q_KB, Q_KR, fun h0_ => absurd ((hoff 13 (by kernel_rfl)).symm.trans h0_) (by decide), Q_K5, Q_K6, Q_K7, Q_K8, fun h0_ _ => absurd ((hoff 7 (by kernel_rfl)).symm.trans h0_) (by decide), Q_X0_, Q_X1_, Q_X2_, Q_X3_, fun _ => rfl, fun h0_ => absurd ((hoff 7 (by kernel_rfl)).symm.trans h0_) (by decide), fun h0_ => absurd ((hoff 10 (by kernel_rfl)).symm.trans h0_) (by decide)⟩
    refine steps_cons ?_ ?_
    · rintro b a w' ⟨g5, g6, g7, g8, gx, m0_, m1_, m2_, m3_, m6_, m7_, m10_, ha, Q_HB, Q_KA, Q_KB, Q_KR, Q_KZ, Q_K5, Q_K6, Q_K7, Q_K8, Q_KX, Q_X0_, Q_X1_, Q_X2_, Q_X3_, Q_X6_, Q_X7_, Q_X10_⟩ hb_ hon hoff
      refine ⟨_, rfl, fun K hK => ?_⟩
      have e11 : a.tmps[11]? = some (m6_) := by rw [ha]; exact putSel_on (e := (6, 11, m6_)) 6 rfl rfl (hon 6 (by kernel_rfl)) rfl
      rw [Q_X6_ (hon 6 (by kernel_rfl))] at e11
      replace ha := Aside0.mk ha
      have HB := Aside0.mk Q_HB
      have KA := Aside0.mk (Q_KA (hoff 13 (by kernel_rfl)))
      have KB := Aside0.mk (Q_KB (hoff 13 (by kernel_rfl)))
      have KR := Aside0.mk (Q_KR (hoff 13 (by kernel_rfl)))
      have K5 := Aside0.mk (Q_K5 (hon 0 (by kernel_rfl)) (hoff 13 (by kernel_rfl)))
      have K6 := Aside0.mk (Q_K6 (hon 1 (by kernel_rfl)) (hoff 13 (by kernel_rfl)))
      have K7 := Aside0.mk (Q_K7 (hon 2 (by kernel_rfl)) (hoff 13 (by kernel_rfl)))
      have K8 := Aside0.mk (Q_K8 (hon 3 (by kernel_rfl)) (hoff 13 (by kernel_rfl)))
      have c_ : w'.cell? ⟨g8, i.toNat, none⟩ = some (.slice (some ⟨(if i = 0 then g5 else if i = 1 then g6 else g7), 0, none⟩) 3 3) := by rw [blk_cell K8.out]; rcases rng3 Ri.out.1 Ri.out.2 with h_ | h_ | h_ <;> subst h_ <;> rfl
      refine value_ (w1 := w') (v := (.slice (some ⟨(if i = 0 then g5 else if i = 1 then g6 else g7), 0, none⟩) 3 3)) (by rfl) rfl ?_ ?_
      · go_simp
        (try simp only [i64_w])
        try rfl
      refine hK.out _ _ ⟨g5, g6, g7, g8, (if i = 0 then g5 else if i = 1 then g6 else g7), m0_, m1_, m2_, m3_, m6_, ((.slice (some ⟨(if i = 0 then g5 else if i = 1 then g6 else g7), 0, none⟩) 3 3)), m10_, (by rw [ha.out]; exact putSel_upk 7 hb_ rfl rfl rfl), Q_HB, Q_KA, Q_KB, Q_KR, fun h0_ => absurd ((hoff 13 (by kernel_rfl)).symm.trans h0_) (by decide), Q_K5, Q_K6, Q_K7, Q_K8, fun _ _ => rfl, Q_X0_, Q_X1_, Q_X2_, Q_X3_, Q_X6_, fun _ => rfl, fun h0_ => absurd ((hoff 10 (by kernel_rfl)).symm.trans h0_) (by decide)⟩
    refine steps_cons ?_ ?_
    · rintro b a w' ⟨g5, g6, g7, g8, gx, m0_, m1_, m2_, m3_, m6_, m7_, m10_, ha, Q_HB, Q_KA, Q_KB, Q_KR, Q_KZ, Q_K5, Q_K6, Q_K7, Q_K8, Q_KX, Q_X0_, Q_X1_, Q_X2_, Q_X3_, Q_X6_, Q_X7_, Q_X10_⟩ hb_ hon hoff
      refine ⟨_, rfl, fun K hK => ?_⟩
      have e3 : a.tmps[3]? = some (.pointer (some ⟨gb, 0, none⟩)) := by rw [ha]; exact (putSel_off rfl).trans rfl
      replace ha := Aside0.mk ha
      have HB := Aside0.mk Q_HB
      have KA := Aside0.mk (Q_KA (hoff 13 (by kernel_rfl)))
      have KB := Aside0.mk (Q_KB (hoff 13 (by kernel_rfl)))
      have KR := Aside0.mk (Q_KR (hoff 13 (by kernel_rfl)))
      have c0_ := blk_cell KB.out 0
      have c1_ := blk_cell KB.out 1
      have c2_ := blk_cell KB.out 2
      simp at c0_ c1_ c2_
      refine value_ (w1 := w') (v := (.agg #[.int .i64 a1_0, .int .i64 a1_1, .string a1_2])) (by rfl) rfl ?_ ?_
      · go_simp
        (try simp only [i64_w])
        try rfl
      refine hK.out _ _ ⟨g5, g6, g7, g8, gx, m0_, m1_, m2_, m3_, m6_, m7_, m10_, (by rw [ha.out]; exact putSel_upk 8 hb_ rfl rfl rfl), Q_HB, Q_KA, Q_KB, Q_KR, fun h0_ => absurd ((hoff 13 (by kernel_rfl)).symm.trans h0_) (by decide), Q_K5, Q_K6, Q_K7, Q_K8, Q_KX, Q_X0_, Q_X1_, Q_X2_, Q_X3_, Q_X6_, Q_X7_, fun h0_ => absurd ((hoff 10 (by kernel_rfl)).symm.trans h0_) (by decide)⟩
    refine steps_cons ?_ ?_
    · rintro b a w' ⟨g5, g6, g7, g8, gx, m0_, m1_, m2_, m3_, m6_, m7_, m10_, ha, Q_HB, Q_KA, Q_KB, Q_KR, Q_KZ, Q_K5, Q_K6, Q_K7, Q_K8, Q_KX, Q_X0_, Q_X1_, Q_X2_, Q_X3_, Q_X6_, Q_X7_, Q_X10_⟩ hb_ hon hoff
      refine ⟨_, rfl, fun K hK => ?_⟩
      have e13 : a.tmps[13]? = some ((.agg #[.int .i64 a1_0, .int .i64 a1_1, .string a1_2])) := by rw [ha]; exact putSel_on (e := (8, 13, (.agg #[.int .i64 a1_0, .int .i64 a1_1, .string a1_2]))) 8 rfl rfl (hon 8 (by kernel_rfl)) rfl
      replace ha := Aside0.mk ha
      have HB := Aside0.mk Q_HB
      have KA := Aside0.mk (Q_KA (hoff 13 (by kernel_rfl)))
      have KB := Aside0.mk (Q_KB (hoff 13 (by kernel_rfl)))
      have KR := Aside0.mk (Q_KR (hoff 13 (by kernel_rfl)))
      refine goes_ Try.func118 (by kernel_rfl) rfl #[.agg #[.int .i64 a1_0, .int .i64 a1_1, .string a1_2]] (by rfl) rfl rfl (by first | (simp only [List.map_toArray, List.map_cons, List.map_nil, Act.eval, Array.getD_eq_getD_getElem?, Option.getD_some, e13]; done) | (simp only [List.map_toArray, List.map_cons, List.map_nil, Act.eval, Array.getD_eq_getD_getElem?, Option.getD_some, e13]; rfl)) ?_
      with_reducible refine (relstoreref_three.calls a1_0 a1_1 a1_2 j _ Aj.out).mono ?_
      rintro e w1 ⟨rfl, hb⟩
      refine ⟨_, rfl, ?_⟩
      refine hK.out _ _ ⟨g5, g6, g7, g8, gx, m0_, m1_, m2_, m3_, m6_, m7_, m10_, (by rw [ha.out]; exact putSel_upk 9 hb_ rfl rfl rfl), below_step HB.out hb, fun _ => blk_below KA.out hb, fun _ => blk_below KB.out hb, fun _ => blk_below KR.out hb, fun h0_ => absurd ((hoff 13 (by kernel_rfl)).symm.trans h0_) (by decide), fun h0_ h1_ => blk_below (Q_K5 h0_ h1_) hb, fun h0_ h1_ => blk_below (Q_K6 h0_ h1_) hb, fun h0_ h1_ => blk_below (Q_K7 h0_ h1_) hb, fun h0_ h1_ => blk_below (Q_K8 h0_ h1_) hb, fun h0_ h1_ => (Q_KX h0_ h1_), Q_X0_, Q_X1_, Q_X2_, Q_X3_, Q_X6_, Q_X7_, fun h0_ => absurd ((hoff 10 (by kernel_rfl)).symm.trans h0_) (by decide)⟩
    refine steps_cons ?_ ?_
    · rintro b a w' ⟨g5, g6, g7, g8, gx, m0_, m1_, m2_, m3_, m6_, m7_, m10_, ha, Q_HB, Q_KA, Q_KB, Q_KR, Q_KZ, Q_K5, Q_K6, Q_K7, Q_K8, Q_KX, Q_X0_, Q_X1_, Q_X2_, Q_X3_, Q_X6_, Q_X7_, Q_X10_⟩ hb_ hon hoff
      refine ⟨_, rfl, fun K hK => ?_⟩
      have e12 : a.tmps[12]? = some (m7_) := by rw [ha]; exact putSel_on (e := (7, 12, m7_)) 7 rfl rfl (hon 7 (by kernel_rfl)) rfl
      rw [Q_X7_ (hon 7 (by kernel_rfl))] at e12
      have e14 : a.tmps[14]? = some ((.int .i64 j)) := by rw [ha]; exact putSel_on (e := (9, 14, (.int .i64 j))) 9 rfl rfl (hon 9 (by kernel_rfl)) rfl
      replace ha := Aside0.mk ha
      have HB := Aside0.mk Q_HB
      have KA := Aside0.mk (Q_KA (hoff 13 (by kernel_rfl)))
      have KB := Aside0.mk (Q_KB (hoff 13 (by kernel_rfl)))
      have KR := Aside0.mk (Q_KR (hoff 13 (by kernel_rfl)))
      have K5 := Aside0.mk (Q_K5 (hon 0 (by kernel_rfl)) (hoff 13 (by kernel_rfl)))
      have K6 := Aside0.mk (Q_K6 (hon 1 (by kernel_rfl)) (hoff 13 (by kernel_rfl)))
      have K7 := Aside0.mk (Q_K7 (hon 2 (by kernel_rfl)) (hoff 13 (by kernel_rfl)))
      have K8 := Aside0.mk (Q_K8 (hon 3 (by kernel_rfl)) (hoff 13 (by kernel_rfl)))
      have KX := Aside0.mk (Q_KX (hon 7 (by kernel_rfl)) (hoff 13 (by kernel_rfl)))
      have z0_ := Rj.out.1
      have z1_ := Rj.out.2
      refine value_ (w1 := w') (v := (.pointer (some ⟨gx, j.toNat, none⟩))) (by rfl) rfl ?_ ?_
      · go_simp
        (try simp only [i64_w])
        try rfl
      refine hK.out _ _ ⟨g5, g6, g7, g8, gx, m0_, m1_, m2_, m3_, m6_, m7_, ((.pointer (some ⟨gx, j.toNat, none⟩))), (by rw [ha.out]; exact putSel_upk 10 hb_ rfl rfl rfl), Q_HB, Q_KA, Q_KB, Q_KR, fun h0_ => absurd ((hoff 13 (by kernel_rfl)).symm.trans h0_) (by decide), Q_K5, Q_K6, Q_K7, Q_K8, Q_KX, Q_X0_, Q_X1_, Q_X2_, Q_X3_, Q_X6_, Q_X7_, fun _ => rfl⟩
    refine steps_cons ?_ ?_
    · rintro b a w' ⟨g5, g6, g7, g8, gx, m0_, m1_, m2_, m3_, m6_, m7_, m10_, ha, Q_HB, Q_KA, Q_KB, Q_KR, Q_KZ, Q_K5, Q_K6, Q_K7, Q_K8, Q_KX, Q_X0_, Q_X1_, Q_X2_, Q_X3_, Q_X6_, Q_X7_, Q_X10_⟩ hb_ hon hoff
      refine ⟨_, rfl, fun K hK => ?_⟩
      have e15 : a.tmps[15]? = some (m10_) := by rw [ha]; exact putSel_on (e := (10, 15, m10_)) 10 rfl rfl (hon 10 (by kernel_rfl)) rfl
      rw [Q_X10_ (hon 10 (by kernel_rfl))] at e15
      replace ha := Aside0.mk ha
      have HB := Aside0.mk Q_HB
      have KA := Aside0.mk (Q_KA (hoff 13 (by kernel_rfl)))
      have KB := Aside0.mk (Q_KB (hoff 13 (by kernel_rfl)))
      have KR := Aside0.mk (Q_KR (hoff 13 (by kernel_rfl)))
      have K5 := Aside0.mk (Q_K5 (hon 0 (by kernel_rfl)) (hoff 13 (by kernel_rfl)))
      have K6 := Aside0.mk (Q_K6 (hon 1 (by kernel_rfl)) (hoff 13 (by kernel_rfl)))
      have K7 := Aside0.mk (Q_K7 (hon 2 (by kernel_rfl)) (hoff 13 (by kernel_rfl)))
      have K8 := Aside0.mk (Q_K8 (hon 3 (by kernel_rfl)) (hoff 13 (by kernel_rfl)))
      have KX := Aside0.mk (Q_KX (hon 7 (by kernel_rfl)) (hoff 13 (by kernel_rfl)))
      have c_ : w'.cell? ⟨gx, j.toNat, none⟩ = some (.int .i64 t) := by rw [KX.out, ← HT.out]; rcases rng3 Ri.out.1 Ri.out.2 with h_ | h_ | h_ <;> subst h_ <;> rcases rng3 Rj.out.1 Rj.out.2 with k_ | k_ | k_ <;> subst k_ <;> first | (exact blk_cell K5.out _) | (exact blk_cell K6.out _) | (exact blk_cell K7.out _)
      refine value_ (w1 := w') (v := (.int .i64 t)) (by rfl) rfl ?_ ?_
      · go_simp
        (try simp only [i64_w])
        try rfl
      refine hK.out _ _ ⟨g5, g6, g7, g8, gx, m0_, m1_, m2_, m3_, m6_, m7_, m10_, (by rw [ha.out]; exact putSel_upk 11 hb_ rfl rfl rfl), Q_HB, Q_KA, Q_KB, Q_KR, fun h0_ => absurd ((hoff 13 (by kernel_rfl)).symm.trans h0_) (by decide), Q_K5, Q_K6, Q_K7, Q_K8, Q_KX, Q_X0_, Q_X1_, Q_X2_, Q_X3_, Q_X6_, Q_X7_, Q_X10_⟩
    refine steps_cons ?_ ?_
    · rintro b a w' ⟨g5, g6, g7, g8, gx, m0_, m1_, m2_, m3_, m6_, m7_, m10_, ha, Q_HB, Q_KA, Q_KB, Q_KR, Q_KZ, Q_K5, Q_K6, Q_K7, Q_K8, Q_KX, Q_X0_, Q_X1_, Q_X2_, Q_X3_, Q_X6_, Q_X7_, Q_X10_⟩ hb_ hon hoff
      refine ⟨_, rfl, fun K hK => ?_⟩
      have e16 : a.tmps[16]? = some ((.int .i64 t)) := by rw [ha]; exact putSel_on (e := (11, 16, (.int .i64 t))) 11 rfl rfl (hon 11 (by kernel_rfl)) rfl
      replace ha := Aside0.mk ha
      have HB := Aside0.mk Q_HB
      have KA := Aside0.mk (Q_KA (hoff 13 (by kernel_rfl)))
      have KB := Aside0.mk (Q_KB (hoff 13 (by kernel_rfl)))
      have KR := Aside0.mk (Q_KR (hoff 13 (by kernel_rfl)))
      have K5 := Aside0.mk (Q_K5 (hon 0 (by kernel_rfl)) (hoff 13 (by kernel_rfl)))
      have K6 := Aside0.mk (Q_K6 (hon 1 (by kernel_rfl)) (hoff 13 (by kernel_rfl)))
      have K7 := Aside0.mk (Q_K7 (hon 2 (by kernel_rfl)) (hoff 13 (by kernel_rfl)))
      have K8 := Aside0.mk (Q_K8 (hon 3 (by kernel_rfl)) (hoff 13 (by kernel_rfl)))
      have KX := Aside0.mk (Q_KX (hon 7 (by kernel_rfl)) (hoff 13 (by kernel_rfl)))
      refine goes_ Try.func117 (by kernel_rfl) rfl #[.int .i64 t] (by rfl) rfl rfl (by first | (simp only [List.map_toArray, List.map_cons, List.map_nil, Act.eval, Array.getD_eq_getD_getElem?, Option.getD_some, e16]; done) | (simp only [List.map_toArray, List.map_cons, List.map_nil, Act.eval, Array.getD_eq_getD_getElem?, Option.getD_some, e16]; rfl)) ?_
      with_reducible refine (relstoreref_told.calls t r1 r2 r3 _ At.out).mono ?_
      rintro e w1 ⟨rfl, hb⟩
      refine ⟨_, rfl, ?_⟩
      refine hK.out _ _ ⟨g5, g6, g7, g8, gx, m0_, m1_, m2_, m3_, m6_, m7_, m10_, (by rw [ha.out]; exact putSel_upk 12 hb_ rfl rfl rfl), below_step HB.out hb, fun _ => blk_below KA.out hb, fun _ => blk_below KB.out hb, fun _ => blk_below KR.out hb, fun h0_ => absurd ((hoff 13 (by kernel_rfl)).symm.trans h0_) (by decide), fun _ _ => blk_below K5.out hb, fun _ _ => blk_below K6.out hb, fun _ _ => blk_below K7.out hb, fun _ _ => blk_below K8.out hb, fun _ _ => KX.out, Q_X0_, Q_X1_, Q_X2_, Q_X3_, Q_X6_, Q_X7_, Q_X10_⟩
    refine steps_cons ?_ ?_
    · rintro b a w' ⟨g5, g6, g7, g8, gx, m0_, m1_, m2_, m3_, m6_, m7_, m10_, ha, Q_HB, Q_KA, Q_KB, Q_KR, Q_KZ, Q_K5, Q_K6, Q_K7, Q_K8, Q_KX, Q_X0_, Q_X1_, Q_X2_, Q_X3_, Q_X6_, Q_X7_, Q_X10_⟩ hb_ hon hoff
      refine ⟨_, rfl, fun K hK => ?_⟩
      have e4 : a.tmps[4]? = some (.pointer (some ⟨gr, 0, none⟩)) := by rw [ha]; exact (putSel_off rfl).trans rfl
      have e17 : a.tmps[17]? = some ((.agg #[.int .i64 r1, .int .i64 r2, .string r3])) := by rw [ha]; exact putSel_on (e := (12, 17, (.agg #[.int .i64 r1, .int .i64 r2, .string r3]))) 12 rfl rfl (hon 12 (by kernel_rfl)) rfl
      replace ha := Aside0.mk ha
      have HB := Aside0.mk Q_HB
      have KA := Aside0.mk (Q_KA hb_)
      have KB := Aside0.mk (Q_KB hb_)
      have KR := Aside0.mk (Q_KR hb_)
      have K5 := Aside0.mk (Q_K5 (hon 0 (by kernel_rfl)) hb_)
      have K6 := Aside0.mk (Q_K6 (hon 1 (by kernel_rfl)) hb_)
      have K7 := Aside0.mk (Q_K7 (hon 2 (by kernel_rfl)) hb_)
      have K8 := Aside0.mk (Q_K8 (hon 3 (by kernel_rfl)) hb_)
      have KX := Aside0.mk (Q_KX (hon 7 (by kernel_rfl)) hb_)
      have c0_ := blk_cell KR.out 0
      have c1_ := blk_cell KR.out 1
      have c2_ := blk_cell KR.out 2
      have f0_ := blk_frozen KR.out 0
      have f1_ := blk_frozen KR.out 1
      have f2_ := blk_frozen KR.out 2
      simp at c0_ c1_ c2_
      refine skip_ (w1 := ((w'.setCell ⟨gr, 0, none⟩ (.int .i64 r1)).setCell ⟨gr, 1, none⟩ (.int .i64 r2)).setCell ⟨gr, 2, none⟩ (.string r3)) (by rfl) rfl ?_ ?_
      · go_simp
        try rfl
      refine hK.out _ _ ⟨g5, g6, g7, g8, gx, m0_, m1_, m2_, m3_, m6_, m7_, m10_, (by rw [ha.out]; exact putSel_none (v := undef) rfl), below_set (below_set (below_set HB.out GR.out) GR.out) GR.out, fun h0_ => absurd ((up_self b 13).symm.trans h0_) (by decide), fun h0_ => absurd ((up_self b 13).symm.trans h0_) (by decide), fun h0_ => absurd ((up_self b 13).symm.trans h0_) (by decide), fun _ => blk_put (blk_put (blk_put KR.out 0 _ rfl) 1 _ rfl) 2 _ rfl, fun _ h1_ => absurd ((up_self b 13).symm.trans h1_) (by decide), fun _ h1_ => absurd ((up_self b 13).symm.trans h1_) (by decide), fun _ h1_ => absurd ((up_self b 13).symm.trans h1_) (by decide), fun _ h1_ => absurd ((up_self b 13).symm.trans h1_) (by decide), fun _ h1_ => absurd ((up_self b 13).symm.trans h1_) (by decide), Q_X0_, Q_X1_, Q_X2_, Q_X3_, Q_X6_, Q_X7_, Q_X10_⟩
    exact steps_nil
  · rintro b a w' hall ⟨g5, g6, g7, g8, gx, m0_, m1_, m2_, m3_, m6_, m7_, m10_, ha, Q_HB, Q_KA, Q_KB, Q_KR, Q_KZ, Q_K5, Q_K6, Q_K7, Q_K8, Q_KX, Q_X0_, Q_X1_, Q_X2_, Q_X3_, Q_X6_, Q_X7_, Q_X10_⟩
    clear HB KA KB KR
    have hb0_ := hall 0 (by kernel_rfl)
    have hb1_ := hall 1 (by kernel_rfl)
    have hb2_ := hall 2 (by kernel_rfl)
    have hb3_ := hall 3 (by kernel_rfl)
    have hb4_ := hall 4 (by kernel_rfl)
    have hb5_ := hall 5 (by kernel_rfl)
    have hb6_ := hall 6 (by kernel_rfl)
    have hb7_ := hall 7 (by kernel_rfl)
    have hb8_ := hall 8 (by kernel_rfl)
    have hb9_ := hall 9 (by kernel_rfl)
    have hb10_ := hall 10 (by kernel_rfl)
    have hb11_ := hall 11 (by kernel_rfl)
    have hb12_ := hall 12 (by kernel_rfl)
    have hb13_ := hall 13 (by kernel_rfl)
    subst ha
    obtain rfl := Q_X0_ hb0_
    obtain rfl := Q_X1_ hb1_
    obtain rfl := Q_X2_ hb2_
    obtain rfl := Q_X3_ hb3_
    obtain rfl := Q_X6_ hb6_
    obtain rfl := Q_X7_ hb7_
    obtain rfl := Q_X10_ hb10_
    simp only [putSel, hb0_, hb1_, hb2_, hb3_, hb4_, hb5_, hb6_, hb7_, hb8_, hb9_, hb10_, hb11_, hb12_, hb13_, if_true, Act.put, List.setIfInBounds_toArray, List.set_cons_zero, List.set_cons_succ]
    have HB := Aside0.mk Q_HB
    clear Q_HB
    clear Q_KA
    clear Q_KB
    clear Q_KR
    have KZ := Aside0.mk (Q_KZ hb13_)
    clear Q_KZ
    clear Q_K5
    clear Q_K6
    clear Q_K7
    clear Q_K8
    clear Q_KX
    clear hall hb0_ hb1_ hb2_ hb3_ hb4_ hb5_ hb6_ hb7_ hb8_ hb9_ hb10_ hb11_ hb12_ hb13_
    try go_wp2
    refine bodyPost_ret (results_cell_row rfl _ _ gr 29 #[.int .i64 r1, .int .i64 r2, .string r3] (0, 0) _ rfl (by (with_reducible repeat (first | refine blk_drewN ?_ _ | refine blk_drew ?_ | refine blk_alloc ?_ _)); exact KZ.out) Try.underlying29 rfl (by kernel_rfl)) rfl ?_
    exact ⟨rfl, HB.out⟩

/-! ### value_Not: function 50 -/
def value_Not.f (a0_0 : Int) (a0_1 : Int) (a0_2 : ByteArray) : Option (Int × Int × ByteArray) := if a0_0 = 1 then ((value_Flag.f (a0_1 == 0)).bind fun bt265 => (some (bt265.1, bt265.2.1, bt265.2.2))) else ((value_None.f).bind fun bt268 => (some (bt268.1, bt268.2.1, bt268.2.2)))
set_option maxHeartbeats 8000000 in
set_option maxRecDepth 100000 in
theorem value_Not.calls (a0_0 : Int) (a0_1 : Int) (a0_2 : ByteArray) (r1 : Int) (r2 : Int) (r3 : ByteArray) (w : World) (h : value_Not.f a0_0 a0_1 a0_2 = some (r1, r2, r3)) :
    Calls Try.prog 50 #[.agg #[.int .i64 a0_0, .int .i64 a0_1, .string a0_2]] w fun e w' => e = .returned (.agg #[.int .i64 r1, .int .i64 r2, .string r3]) ∧ Below w.heap.size w w' := by
  have hu29 := Try.underlying29
  have HB := Aside0.mk (Below.refl w.heap.size w)
  have H : (if a0_0 = 1 then ((value_Flag.f (a0_1 == 0)).bind fun bt265 => (some (bt265.1, bt265.2.1, bt265.2.2))) else ((value_None.f).bind fun bt268 => (some (bt268.1, bt268.2.1, bt268.2.2)))) = some (r1, r2, r3) := h
  clear h
  by_cases c2 : a0_0 = 1
  · rw [if_pos c2] at H
    have c2b0 : (a0_0 == 1) = true := beq_iff_eq.mpr c2
    have c2b1 : (a0_0 != 1) = false := bne_eq_false_iff_eq.mpr c2
    clear c2
    replace H := Option.bind_eq_some_iff.mp H
    obtain ⟨⟨t265, t266, t267⟩, A30, H⟩ := H
    replace H : (some (t265, t266, t267)) = some (r1, r2, r3) := H
    have A3 := Aside0.mk A30
    clear A30
    simp only [Option.some.injEq, Prod.mk.injEq] at H
    obtain ⟨rfl, rfl, rfl⟩ := H
    go_enter Try.func50, Try.ntmps50
    go_wp2_with (first | ((with_reducible refine gate_dst (N := 1) rfl ?_); refine box_event ?hg (N := 1) ?hd (cs := #[.int .i64 a0_0, .int .i64 a0_1, .string a0_2]) (t := 29) ?hr ?_; (case hd => rfl); (case hg => rfl); (case hr => first | (go_simp; done) | (go_simp; rfl)); intro gb263 hg w4 hbox hb; have n0_ := Aside0.mk (below_step (by repeat (first | (with_reducible first | exact HB.out | apply below_alloc | apply pw_below_drewN | apply below_drew1) | exact HB.out)) hb); have n1_ := Aside0.mk (hbox); have n2_ := Aside0.mk ((by rw [hg]; exact (below_size (by repeat (first | (with_reducible first | exact HB.out | apply below_alloc | apply pw_below_drewN | apply below_drew1) | exact HB.out))) : w.heap.size ≤ gb263)); have n3_ := Aside0.mk ((by rw [hg]; exact (below_size (by repeat (first | (with_reducible first | exact HB.out | apply below_alloc | apply pw_below_drewN | apply below_drew1) | exact HB.out))) : w.heap.size ≤ gb263)); clear HB; have HB := n0_; have BK263 := n1_; have GW263 := n2_; have GE263 := n3_; clear n0_ n1_ n2_ n3_; clear hb hbox hg) | ((with_reducible refine gate_dst (N := 2) rfl ?_); refine box_event ?hg (N := 2) ?hd (cs := #[.int .i64 0, .int .i64 0, .string (⟨#[]⟩ : ByteArray)]) (t := 29) ?hr ?_; (case hd => rfl); (case hg => rfl); (case hr => first | (go_simp; done) | (go_simp; rfl)); intro gb264 hg w5 hbox hb; have n0_ := Aside0.mk (blk_below (g := gb263) (o := .cells #[.int .i64 a0_0, .int .i64 a0_1, .string a0_2] 29 (0, 0)) (by (with_reducible repeat (first | refine blk_drewN ?_ _ | refine blk_drew ?_ | refine blk_alloc ?_ _)); exact BK263.out) hb); have n1_ := Aside0.mk (below_step (by repeat (first | (with_reducible first | exact HB.out | apply below_alloc | apply pw_below_drewN | apply below_drew1 | refine below_set ?_ GE263.out) | exact HB.out)) hb); have n2_ := Aside0.mk (hbox); have n3_ := Aside0.mk ((by rw [hg]; exact (below_size (by repeat (first | (with_reducible first | exact HB.out | apply below_alloc | apply pw_below_drewN | apply below_drew1 | refine below_set ?_ GE263.out) | exact HB.out))) : w.heap.size ≤ gb264)); have n4_ := Aside0.mk ((by rw [hg]; exact (below_size (by repeat (first | (with_reducible first | exact HB.out | apply below_alloc | apply pw_below_drewN | apply below_drew1 | refine below_set ?_ GE263.out) | exact HB.out))) : w.heap.size ≤ gb264)); have n5_ := Aside0.mk ((by rw [hg]; exact Nat.ne_of_lt (blk_lt (g := gb263) (o := .cells #[.int .i64 a0_0, .int .i64 a0_1, .string a0_2] 29 (0, 0)) (by (with_reducible repeat (first | refine blk_drewN ?_ _ | refine blk_drew ?_ | refine blk_alloc ?_ _)); exact BK263.out)) : gb263 ≠ gb264)); have n6_ := Aside0.mk ((by rw [hg]; exact Nat.ne_of_gt (blk_lt (g := gb263) (o := .cells #[.int .i64 a0_0, .int .i64 a0_1, .string a0_2] 29 (0, 0)) (by (with_reducible repeat (first | refine blk_drewN ?_ _ | refine blk_drew ?_ | refine blk_alloc ?_ _)); exact BK263.out)) : gb264 ≠ gb263)); clear BK263; clear HB; have BK263 := n0_; have HB := n1_; have BK264 := n2_; have GW264 := n3_; have GE264 := n4_; have NB263_264 := n5_; have NB264_263 := n6_; clear n0_ n1_ n2_ n3_ n4_ n5_ n6_; clear hb hbox hg; have hnb6 := NB263_264.out; have hnc6 := NB264_263.out; have hcz7_0 : w5.cell? ⟨gb263, 0, none⟩ = some (.int .i64 a0_0) := (blk_cell BK263.out 0).trans rfl; have hcz7_1 : w5.cell? ⟨gb263, 1, none⟩ = some (.int .i64 a0_1) := (blk_cell BK263.out 1).trans rfl; have hcz7_2 : w5.cell? ⟨gb263, 2, none⟩ = some (.string a0_2) := (blk_cell BK263.out 2).trans rfl; have hfz7_0 := blk_frozen BK263.out 0; have hfz7_1 := blk_frozen BK263.out 1; have hfz7_2 := blk_frozen BK263.out 2) | ((with_reducible refine gate_callee (f := 95) rfl ?_); refine goesL_ (some 10) rfl rfl Try.func95 (by kernel_rfl) rfl #[.bool (a0_1 == 0)] rfl (by (try simp only [List.map_toArray, List.map_cons, List.map_nil]); first | done | rfl | (simp only [List.length_drop, List.length_take]; rfl) | (simp only [Int.ofNat_lt, Int.ofNat_le]; done) | (simp only [Int.ofNat_lt, Int.ofNat_le]; rfl)) ?_; (with_reducible refine (value_Flag.calls (a0_1 == 0) t265 t266 t267 _ A3.out).mono ?_); rintro e w8 ⟨rfl, hb⟩; refine ⟨_, rfl, ?_⟩; have n0_ := Aside0.mk (blk_below (g := gb263) (o := .cells #[.int .i64 a0_0, .int .i64 a0_1, .string a0_2] 29 (0, 0)) (by (with_reducible repeat (first | refine blk_drewN ?_ _ | refine blk_drew ?_ | refine blk_alloc ?_ _)); exact BK263.out) hb); have n1_ := Aside0.mk (blk_below (g := gb264) (o := .cells #[.int .i64 0, .int .i64 0, .string (⟨#[]⟩ : ByteArray)] 29 (0, 0)) (by (with_reducible repeat (first | refine blk_drewN ?_ _ | refine blk_drew ?_ | refine blk_alloc ?_ _)); exact BK264.out) hb); have n2_ := Aside0.mk (below_step (by repeat (first | (with_reducible first | exact HB.out | apply below_alloc | apply pw_below_drewN | apply below_drew1 | refine below_set ?_ GE263.out | refine below_set ?_ GE264.out) | exact HB.out)) hb); clear BK263; clear BK264; clear HB; have BK263 := n0_; have BK264 := n1_; have HB := n2_; clear n0_ n1_ n2_; (try clear hb); (try clear hb2); (try clear hk); (try clear hi); have hcz9_0 : w8.cell? ⟨gb264, 0, none⟩ = some (.int .i64 0) := (blk_cell BK264.out 0).trans rfl; have hcz9_1 : w8.cell? ⟨gb264, 1, none⟩ = some (.int .i64 0) := (blk_cell BK264.out 1).trans rfl; have hcz9_2 : w8.cell? ⟨gb264, 2, none⟩ = some (.string (⟨#[]⟩ : ByteArray)) := (blk_cell BK264.out 2).trans rfl; have hfz9_0 := blk_frozen BK264.out 0; have hfz9_1 := blk_frozen BK264.out 1; have hfz9_2 := blk_frozen BK264.out 2))
    refine bodyPost_ret (results_cell_row rfl _ _ gb264 29 #[.int .i64 t265, .int .i64 t266, .string t267] (0, 0) _ rfl (by (with_reducible repeat (first | refine blk_drewN ?_ _ | refine blk_drew ?_ | refine blk_alloc ?_ _)); refine blk_put (cs := #[.int .i64 t265, .int .i64 t266, .string (⟨#[]⟩ : ByteArray)]) ?_ 2 _ rfl; (with_reducible repeat (first | refine blk_drewN ?_ _ | refine blk_drew ?_ | refine blk_alloc ?_ _)); refine blk_put (cs := #[.int .i64 t265, .int .i64 0, .string (⟨#[]⟩ : ByteArray)]) ?_ 1 _ rfl; (with_reducible repeat (first | refine blk_drewN ?_ _ | refine blk_drew ?_ | refine blk_alloc ?_ _)); refine blk_put (cs := #[.int .i64 0, .int .i64 0, .string (⟨#[]⟩ : ByteArray)]) ?_ 0 _ rfl; (with_reducible repeat (first | refine blk_drewN ?_ _ | refine blk_drew ?_ | refine blk_alloc ?_ _)); exact BK264.out) Try.underlying29 rfl (by kernel_rfl)) rfl ?_
    exact ⟨by first | rfl | (simp [errW_none, errW_some] <;> rfl) | (simp [*, errW_none, errW_some] <;> rfl), by repeat (first | (with_reducible first | exact HB.out | apply below_alloc | apply pw_below_drewN | apply below_drew1 | refine below_set ?_ GE263.out | refine below_set ?_ GE264.out) | exact HB.out)⟩
  · rw [if_neg c2] at H
    have c2b0 : (a0_0 == 1) = false := beq_eq_false_iff_ne.mpr c2
    have c2b1 : (a0_0 != 1) = true := bne_iff_ne.mpr c2
    replace H := Option.bind_eq_some_iff.mp H
    obtain ⟨⟨t268, t269, t270⟩, A100, H⟩ := H
    replace H : (some (t268, t269, t270)) = some (r1, r2, r3) := H
    have A10 := Aside0.mk A100
    clear A100
    simp only [Option.some.injEq, Prod.mk.injEq] at H
    obtain ⟨rfl, rfl, rfl⟩ := H
    go_enter Try.func50, Try.ntmps50
    go_wp2_with (first | ((with_reducible refine gate_dst (N := 1) rfl ?_); refine box_event ?hg (N := 1) ?hd (cs := #[.int .i64 a0_0, .int .i64 a0_1, .string a0_2]) (t := 29) ?hr ?_; (case hd => rfl); (case hg => rfl); (case hr => first | (go_simp; done) | (go_simp; rfl)); intro gb263 hg w11 hbox hb; have n0_ := Aside0.mk (below_step (by repeat (first | (with_reducible first | exact HB.out | apply below_alloc | apply pw_below_drewN | apply below_drew1) | exact HB.out)) hb); have n1_ := Aside0.mk (hbox); have n2_ := Aside0.mk ((by rw [hg]; exact (below_size (by repeat (first | (with_reducible first | exact HB.out | apply below_alloc | apply pw_below_drewN | apply below_drew1) | exact HB.out))) : w.heap.size ≤ gb263)); have n3_ := Aside0.mk ((by rw [hg]; exact (below_size (by repeat (first | (with_reducible first | exact HB.out | apply below_alloc | apply pw_below_drewN | apply below_drew1) | exact HB.out))) : w.heap.size ≤ gb263)); clear HB; have HB := n0_; have BK263 := n1_; have GW263 := n2_; have GE263 := n3_; clear n0_ n1_ n2_ n3_; clear hb hbox hg) | ((with_reducible refine gate_dst (N := 2) rfl ?_); refine box_event ?hg (N := 2) ?hd (cs := #[.int .i64 0, .int .i64 0, .string (⟨#[]⟩ : ByteArray)]) (t := 29) ?hr ?_; (case hd => rfl); (case hg => rfl); (case hr => first | (go_simp; done) | (go_simp; rfl)); intro gb264 hg w12 hbox hb; have n0_ := Aside0.mk (blk_below (g := gb263) (o := .cells #[.int .i64 a0_0, .int .i64 a0_1, .string a0_2] 29 (0, 0)) (by (with_reducible repeat (first | refine blk_drewN ?_ _ | refine blk_drew ?_ | refine blk_alloc ?_ _)); exact BK263.out) hb); have n1_ := Aside0.mk (below_step (by repeat (first | (with_reducible first | exact HB.out | apply below_alloc | apply pw_below_drewN | apply below_drew1 | refine below_set ?_ GE263.out) | exact HB.out)) hb); have n2_ := Aside0.mk (hbox); have n3_ := Aside0.mk ((by rw [hg]; exact (below_size (by repeat (first | (with_reducible first | exact HB.out | apply below_alloc | apply pw_below_drewN | apply below_drew1 | refine below_set ?_ GE263.out) | exact HB.out))) : w.heap.size ≤ gb264)); have n4_ := Aside0.mk ((by rw [hg]; exact (below_size (by repeat (first | (with_reducible first | exact HB.out | apply below_alloc | apply pw_below_drewN | apply below_drew1 | refine below_set ?_ GE263.out) | exact HB.out))) : w.heap.size ≤ gb264)); have n5_ := Aside0.mk ((by rw [hg]; exact Nat.ne_of_lt (blk_lt (g := gb263) (o := .cells #[.int .i64 a0_0, .int .i64 a0_1, .string a0_2] 29 (0, 0)) (by (with_reducible repeat (first | refine blk_drewN ?_ _ | refine blk_drew ?_ | refine blk_alloc ?_ _)); exact BK263.out)) : gb263 ≠ gb264)); have n6_ := Aside0.mk ((by rw [hg]; exact Nat.ne_of_gt (blk_lt (g := gb263) (o := .cells #[.int .i64 a0_0, .int .i64 a0_1, .string a0_2] 29 (0, 0)) (by (with_reducible repeat (first | refine blk_drewN ?_ _ | refine blk_drew ?_ | refine blk_alloc ?_ _)); exact BK263.out)) : gb264 ≠ gb263)); clear BK263; clear HB; have BK263 := n0_; have HB := n1_; have BK264 := n2_; have GW264 := n3_; have GE264 := n4_; have NB263_264 := n5_; have NB264_263 := n6_; clear n0_ n1_ n2_ n3_ n4_ n5_ n6_; clear hb hbox hg; have hnb13 := NB263_264.out; have hnc13 := NB264_263.out; have hcz14_0 : w12.cell? ⟨gb263, 0, none⟩ = some (.int .i64 a0_0) := (blk_cell BK263.out 0).trans rfl; have hcz14_1 : w12.cell? ⟨gb263, 1, none⟩ = some (.int .i64 a0_1) := (blk_cell BK263.out 1).trans rfl; have hcz14_2 : w12.cell? ⟨gb263, 2, none⟩ = some (.string a0_2) := (blk_cell BK263.out 2).trans rfl; have hfz14_0 := blk_frozen BK263.out 0; have hfz14_1 := blk_frozen BK263.out 1; have hfz14_2 := blk_frozen BK263.out 2) | ((with_reducible refine gate_callee (f := 98) rfl ?_); refine goesL_ (some 6) rfl rfl Try.func98 (by kernel_rfl) rfl #[] rfl (by (try simp only [List.map_toArray, List.map_cons, List.map_nil]); first | done | rfl | (simp only [List.length_drop, List.length_take]; rfl) | (simp only [Int.ofNat_lt, Int.ofNat_le]; done) | (simp only [Int.ofNat_lt, Int.ofNat_le]; rfl)) ?_; (with_reducible refine (value_None.calls  t268 t269 t270 _ A10.out).mono ?_); rintro e w15 ⟨rfl, hb⟩; refine ⟨_, rfl, ?_⟩; have n0_ := Aside0.mk (blk_below (g := gb263) (o := .cells #[.int .i64 a0_0, .int .i64 a0_1, .string a0_2] 29 (0, 0)) (by (with_reducible repeat (first | refine blk_drewN ?_ _ | refine blk_drew ?_ | refine blk_alloc ?_ _)); exact BK263.out) hb); have n1_ := Aside0.mk (blk_below (g := gb264) (o := .cells #[.int .i64 0, .int .i64 0, .string (⟨#[]⟩ : ByteArray)] 29 (0, 0)) (by (with_reducible repeat (first | refine blk_drewN ?_ _ | refine blk_drew ?_ | refine blk_alloc ?_ _)); exact BK264.out) hb); have n2_ := Aside0.mk (below_step (by repeat (first | (with_reducible first | exact HB.out | apply below_alloc | apply pw_below_drewN | apply below_drew1 | refine below_set ?_ GE263.out | refine below_set ?_ GE264.out) | exact HB.out)) hb); clear BK263; clear BK264; clear HB; have BK263 := n0_; have BK264 := n1_; have HB := n2_; clear n0_ n1_ n2_; (try clear hb); (try clear hb2); (try clear hk); (try clear hi); have hcz16_0 : w15.cell? ⟨gb264, 0, none⟩ = some (.int .i64 0) := (blk_cell BK264.out 0).trans rfl; have hcz16_1 : w15.cell? ⟨gb264, 1, none⟩ = some (.int .i64 0) := (blk_cell BK264.out 1).trans rfl; have hcz16_2 : w15.cell? ⟨gb264, 2, none⟩ = some (.string (⟨#[]⟩ : ByteArray)) := (blk_cell BK264.out 2).trans rfl; have hfz16_0 := blk_frozen BK264.out 0; have hfz16_1 := blk_frozen BK264.out 1; have hfz16_2 := blk_frozen BK264.out 2))
    refine bodyPost_ret (results_cell_row rfl _ _ gb264 29 #[.int .i64 t268, .int .i64 t269, .string t270] (0, 0) _ rfl (by (with_reducible repeat (first | refine blk_drewN ?_ _ | refine blk_drew ?_ | refine blk_alloc ?_ _)); refine blk_put (cs := #[.int .i64 t268, .int .i64 t269, .string (⟨#[]⟩ : ByteArray)]) ?_ 2 _ rfl; (with_reducible repeat (first | refine blk_drewN ?_ _ | refine blk_drew ?_ | refine blk_alloc ?_ _)); refine blk_put (cs := #[.int .i64 t268, .int .i64 0, .string (⟨#[]⟩ : ByteArray)]) ?_ 1 _ rfl; (with_reducible repeat (first | refine blk_drewN ?_ _ | refine blk_drew ?_ | refine blk_alloc ?_ _)); refine blk_put (cs := #[.int .i64 0, .int .i64 0, .string (⟨#[]⟩ : ByteArray)]) ?_ 0 _ rfl; (with_reducible repeat (first | refine blk_drewN ?_ _ | refine blk_drew ?_ | refine blk_alloc ?_ _)); exact BK264.out) Try.underlying29 rfl (by kernel_rfl)) rfl ?_
    exact ⟨by first | rfl | (simp [errW_none, errW_some] <;> rfl) | (simp [*, errW_none, errW_some] <;> rfl), by repeat (first | (with_reducible first | exact HB.out | apply below_alloc | apply pw_below_drewN | apply below_drew1 | refine below_set ?_ GE263.out | refine below_set ?_ GE264.out) | exact HB.out)⟩

/-! ### value_Either: function 48 -/
def value_Either.f (k : Nat) (a0_0 : Int) (a0_1 : Int) (a0_2 : ByteArray) (a1_0 : Int) (a1_1 : Int) (a1_2 : ByteArray) : Option (Int × Int × ByteArray) := (value_Not.f a0_0 a0_1 a0_2).bind fun bt274 => ((value_Not.f a1_0 a1_1 a1_2).bind fun bt277 => ((value_Both.f k bt274.1 bt274.2.1 bt274.2.2 bt277.1 bt277.2.1 bt277.2.2).bind fun bt280 => ((value_Not.f bt280.1 bt280.2.1 bt280.2.2).bind fun bt283 => (some (bt283.1, bt283.2.1, bt283.2.2)))))
theorem value_Either.mono : ∀ a0 a1 a2 a3 a4 a5 k, LeO (value_Either.f k a0 a1 a2 a3 a4 a5) (value_Either.f (k + 1) a0 a1 a2 a3 a4 a5) := by
  intro a0 a1 a2 a3 a4 a5 k
  unfold value_Either.f
  repeat' first
      | (with_reducible exact value_Both.mono _ _ _ _ _ _ _)
      | (with_reducible exact LeO.refl _)
      | (with_reducible exact LeO.none _)
      | (with_reducible refine LeO.ite ?_ ?_)
      | (with_reducible refine LeO.bind ?_ (fun _ => ?_))
      | exact value_Both.mono _ _ _ _ _ _ _
      | exact LeO.none _
      | refine LeO.ite ?_ ?_
      | refine LeO.bind ?_ (fun _ => ?_)
set_option maxHeartbeats 8000000 in
set_option maxRecDepth 100000 in
theorem value_Either.calls (k : Nat) (a0_0 : Int) (a0_1 : Int) (a0_2 : ByteArray) (a1_0 : Int) (a1_1 : Int) (a1_2 : ByteArray) (r1 : Int) (r2 : Int) (r3 : ByteArray) (w : World) (h : value_Either.f k a0_0 a0_1 a0_2 a1_0 a1_1 a1_2 = some (r1, r2, r3)) :
    Calls Try.prog 48 #[.agg #[.int .i64 a0_0, .int .i64 a0_1, .string a0_2], .agg #[.int .i64 a1_0, .int .i64 a1_1, .string a1_2]] w fun e w' => e = .returned (.agg #[.int .i64 r1, .int .i64 r2, .string r3]) ∧ Below w.heap.size w w' := by
  have hu29 := Try.underlying29
  have HB := Aside0.mk (Below.refl w.heap.size w)
  have H : ((value_Not.f a0_0 a0_1 a0_2).bind fun bt274 => ((value_Not.f a1_0 a1_1 a1_2).bind fun bt277 => ((value_Both.f k bt274.1 bt274.2.1 bt274.2.2 bt277.1 bt277.2.1 bt277.2.2).bind fun bt280 => ((value_Not.f bt280.1 bt280.2.1 bt280.2.2).bind fun bt283 => (some (bt283.1, bt283.2.1, bt283.2.2)))))) = some (r1, r2, r3) := h
  clear h
  replace H := Option.bind_eq_some_iff.mp H
  obtain ⟨⟨t274, t275, t276⟩, A30, H⟩ := H
  replace H : ((value_Not.f a1_0 a1_1 a1_2).bind fun bt277 => ((value_Both.f k t274 t275 t276 bt277.1 bt277.2.1 bt277.2.2).bind fun bt280 => ((value_Not.f bt280.1 bt280.2.1 bt280.2.2).bind fun bt283 => (some (bt283.1, bt283.2.1, bt283.2.2))))) = some (r1, r2, r3) := H
  have A3 := Aside0.mk A30
  clear A30
  replace H := Option.bind_eq_some_iff.mp H
  obtain ⟨⟨t277, t278, t279⟩, A40, H⟩ := H
  replace H : ((value_Both.f k t274 t275 t276 t277 t278 t279).bind fun bt280 => ((value_Not.f bt280.1 bt280.2.1 bt280.2.2).bind fun bt283 => (some (bt283.1, bt283.2.1, bt283.2.2)))) = some (r1, r2, r3) := H
  have A4 := Aside0.mk A40
  clear A40
  replace H := Option.bind_eq_some_iff.mp H
  obtain ⟨⟨t280, t281, t282⟩, A50, H⟩ := H
  replace H : ((value_Not.f t280 t281 t282).bind fun bt283 => (some (bt283.1, bt283.2.1, bt283.2.2))) = some (r1, r2, r3) := H
  have A5 := Aside0.mk A50
  clear A50
  replace H := Option.bind_eq_some_iff.mp H
  obtain ⟨⟨t283, t284, t285⟩, A60, H⟩ := H
  replace H : (some (t283, t284, t285)) = some (r1, r2, r3) := H
  have A6 := Aside0.mk A60
  clear A60
  simp only [Option.some.injEq, Prod.mk.injEq] at H
  obtain ⟨rfl, rfl, rfl⟩ := H
  go_enter Try.func48, Try.ntmps48
  try go_wp2_with (first | ((with_reducible refine gate_dst (N := 2) rfl ?_); refine box_event ?hg (N := 2) ?hd (cs := #[.int .i64 a0_0, .int .i64 a0_1, .string a0_2]) (t := 29) ?hr ?_; (case hd => rfl); (case hg => rfl); (case hr => first | (go_simp; done) | (go_simp; rfl)); intro gb271 hg w7 hbox hb; have n0_ := Aside0.mk (below_step (by repeat (first | (with_reducible first | exact HB.out | apply below_alloc | apply pw_below_drewN | apply below_drew1) | exact HB.out)) hb); have n1_ := Aside0.mk (hbox); have n2_ := Aside0.mk ((by rw [hg]; exact (below_size (by repeat (first | (with_reducible first | exact HB.out | apply below_alloc | apply pw_below_drewN | apply below_drew1) | exact HB.out))) : w.heap.size ≤ gb271)); have n3_ := Aside0.mk ((by rw [hg]; exact (below_size (by repeat (first | (with_reducible first | exact HB.out | apply below_alloc | apply pw_below_drewN | apply below_drew1) | exact HB.out))) : w.heap.size ≤ gb271)); clear HB; have HB := n0_; have BK271 := n1_; have GW271 := n2_; have GE271 := n3_; clear n0_ n1_ n2_ n3_; clear hb hbox hg) | ((with_reducible refine gate_dst (N := 3) rfl ?_); refine box_event ?hg (N := 3) ?hd (cs := #[.int .i64 a1_0, .int .i64 a1_1, .string a1_2]) (t := 29) ?hr ?_; (case hd => rfl); (case hg => rfl); (case hr => first | (go_simp; done) | (go_simp; rfl)); intro gb272 hg w8 hbox hb; have n0_ := Aside0.mk (blk_below (g := gb271) (o := .cells #[.int .i64 a0_0, .int .i64 a0_1, .string a0_2] 29 (0, 0)) (by (with_reducible repeat (first | refine blk_drewN ?_ _ | refine blk_drew ?_ | refine blk_alloc ?_ _)); exact BK271.out) hb); have n1_ := Aside0.mk (below_step (by repeat (first | (with_reducible first | exact HB.out | apply below_alloc | apply pw_below_drewN | apply below_drew1 | refine below_set ?_ GE271.out) | exact HB.out)) hb); have n2_ := Aside0.mk (hbox); have n3_ := Aside0.mk ((by rw [hg]; exact (below_size (by repeat (first | (with_reducible first | exact HB.out | apply below_alloc | apply pw_below_drewN | apply below_drew1 | refine below_set ?_ GE271.out) | exact HB.out))) : w.heap.size ≤ gb272)); have n4_ := Aside0.mk ((by rw [hg]; exact (below_size (by repeat (first | (with_reducible first | exact HB.out | apply below_alloc | apply pw_below_drewN | apply below_drew1 | refine below_set ?_ GE271.out) | exact HB.out))) : w.heap.size ≤ gb272)); have n5_ := Aside0.mk ((by rw [hg]; exact Nat.ne_of_lt (blk_lt (g := gb271) (o := .cells #[.int .i64 a0_0, .int .i64 a0_1, .string a0_2] 29 (0, 0)) (by (with_reducible repeat (first | refine blk_drewN ?_ _ | refine blk_drew ?_ | refine blk_alloc ?_ _)); exact BK271.out)) : gb271 ≠ gb272)); have n6_ := Aside0.mk ((by rw [hg]; exact Nat.ne_of_gt (blk_lt (g := gb271) (o := .cells #[.int .i64 a0_0, .int .i64 a0_1, .string a0_2] 29 (0, 0)) (by (with_reducible repeat (first | refine blk_drewN ?_ _ | refine blk_drew ?_ | refine blk_alloc ?_ _)); exact BK271.out)) : gb272 ≠ gb271)); clear BK271; clear HB; have BK271 := n0_; have HB := n1_; have BK272 := n2_; have GW272 := n3_; have GE272 := n4_; have NB271_272 := n5_; have NB272_271 := n6_; clear n0_ n1_ n2_ n3_ n4_ n5_ n6_; clear hb hbox hg) | ((with_reducible refine gate_dst (N := 4) rfl ?_); refine box_event ?hg (N := 4) ?hd (cs := #[.int .i64 0, .int .i64 0, .string (⟨#[]⟩ : ByteArray)]) (t := 29) ?hr ?_; (case hd => rfl); (case hg => rfl); (case hr => first | (go_simp; done) | (go_simp; rfl)); intro gb273 hg w9 hbox hb; have n0_ := Aside0.mk (blk_below (g := gb271) (o := .cells #[.int .i64 a0_0, .int .i64 a0_1, .string a0_2] 29 (0, 0)) (by (with_reducible repeat (first | refine blk_drewN ?_ _ | refine blk_drew ?_ | refine blk_alloc ?_ _)); exact BK271.out) hb); have n1_ := Aside0.mk (blk_below (g := gb272) (o := .cells #[.int .i64 a1_0, .int .i64 a1_1, .string a1_2] 29 (0, 0)) (by (with_reducible repeat (first | refine blk_drewN ?_ _ | refine blk_drew ?_ | refine blk_alloc ?_ _)); exact BK272.out) hb); have n2_ := Aside0.mk (below_step (by repeat (first | (with_reducible first | exact HB.out | apply below_alloc | apply pw_below_drewN | apply below_drew1 | refine below_set ?_ GE271.out | refine below_set ?_ GE272.out) | exact HB.out)) hb); have n3_ := Aside0.mk (hbox); have n4_ := Aside0.mk ((by rw [hg]; exact (below_size (by repeat (first | (with_reducible first | exact HB.out | apply below_alloc | apply pw_below_drewN | apply below_drew1 | refine below_set ?_ GE271.out | refine below_set ?_ GE272.out) | exact HB.out))) : w.heap.size ≤ gb273)); have n5_ := Aside0.mk ((by rw [hg]; exact (below_size (by repeat (first | (with_reducible first | exact HB.out | apply below_alloc | apply pw_below_drewN | apply below_drew1 | refine below_set ?_ GE271.out | refine below_set ?_ GE272.out) | exact HB.out))) : w.heap.size ≤ gb273)); have n6_ := Aside0.mk ((by rw [hg]; exact Nat.ne_of_lt (blk_lt (g := gb271) (o := .cells #[.int .i64 a0_0, .int .i64 a0_1, .string a0_2] 29 (0, 0)) (by (with_reducible repeat (first | refine blk_drewN ?_ _ | refine blk_drew ?_ | refine blk_alloc ?_ _)); exact BK271.out)) : gb271 ≠ gb273)); have n7_ := Aside0.mk ((by rw [hg]; exact Nat.ne_of_gt (blk_lt (g := gb271) (o := .cells #[.int .i64 a0_0, .int .i64 a0_1, .string a0_2] 29 (0, 0)) (by (with_reducible repeat (first | refine blk_drewN ?_ _ | refine blk_drew ?_ | refine blk_alloc ?_ _)); exact BK271.out)) : gb273 ≠ gb271)); have n8_ := Aside0.mk ((by rw [hg]; exact Nat.ne_of_lt (blk_lt (g := gb272) (o := .cells #[.int .i64 a1_0, .int .i64 a1_1, .string a1_2] 29 (0, 0)) (by (with_reducible repeat (first | refine blk_drewN ?_ _ | refine blk_drew ?_ | refine blk_alloc ?_ _)); exact BK272.out)) : gb272 ≠ gb273)); have n9_ := Aside0.mk ((by rw [hg]; exact Nat.ne_of_gt (blk_lt (g := gb272) (o := .cells #[.int .i64 a1_0, .int .i64 a1_1, .string a1_2] 29 (0, 0)) (by (with_reducible repeat (first | refine blk_drewN ?_ _ | refine blk_drew ?_ | refine blk_alloc ?_ _)); exact BK272.out)) : gb273 ≠ gb272)); clear BK271; clear BK272; clear HB; have BK271 := n0_; have BK272 := n1_; have HB := n2_; have BK273 := n3_; have GW273 := n4_; have GE273 := n5_; have NB271_273 := n6_; have NB273_271 := n7_; have NB272_273 := n8_; have NB273_272 := n9_; clear n0_ n1_ n2_ n3_ n4_ n5_ n6_ n7_ n8_ n9_; clear hb hbox hg))
  have n0_ := Aside0.mk (blk_drew BK271.out)
  have n1_ := Aside0.mk (blk_drew BK272.out)
  have n2_ := Aside0.mk (blk_drew BK273.out)
  have n3_ := Aside0.mk (below_drew1 HB.out)
  clear BK271
  clear BK272
  clear BK273
  clear HB
  have BK271 := n0_
  have BK272 := n1_
  have BK273 := n2_
  have HB := n3_
  clear n0_ n1_ n2_ n3_
  refine start_ (n := 7) (S := fun w' => w'.cell? ⟨gb271, 0, none⟩ = some (.int .i64 a0_0) ∧ w'.cell? ⟨gb271, 1, none⟩ = some (.int .i64 a0_1) ∧ w'.cell? ⟨gb271, 2, none⟩ = some (.string a0_2) ∧ w'.cell? ⟨gb272, 0, none⟩ = some (.int .i64 a1_0) ∧ w'.cell? ⟨gb272, 1, none⟩ = some (.int .i64 a1_1) ∧ w'.cell? ⟨gb272, 2, none⟩ = some (.string a1_2)) (ds := []) #[false, false, false, false, false, false, false] (by kernel_rfl) rfl rfl ⟨(blk_cell BK271.out 0).trans rfl, (blk_cell BK271.out 1).trans rfl, (blk_cell BK271.out 2).trans rfl, (blk_cell BK272.out 0).trans rfl, (blk_cell BK272.out 1).trans rfl, (blk_cell BK272.out 2).trans rfl⟩ (fun hHeld => ?_)
  generalize w9.drew = w10 at BK271 BK272 BK273 HB hHeld ⊢
  refine take_ (i := 0) (N := some 5) (v := ?_) (a' := ?_) #[true, false, false, false, false, false, false] rfl rfl (by kernel_rfl) (fun _ _ _ h => h) (Or.inl ⟨by rfl, ?_⟩) hHeld ?_ ?_
  rotate_left
  · rintro w' ⟨s0, s1, s2, s3, s4, s5⟩
    go_simp
    with_reducible rfl
  rotate_left
  · simp only [Act.put, List.setIfInBounds_toArray, List.set_cons_zero, List.set_cons_succ, i64_w, i32_w]
    rfl
  refine take_ (i := 2) (N := some 7) (v := ?_) (a' := ?_) #[true, false, true, false, false, false, false] rfl rfl (by kernel_rfl) (fun _ _ _ h => h) (Or.inl ⟨by rfl, ?_⟩) hHeld ?_ ?_
  rotate_left
  · rintro w' ⟨s0, s1, s2, s3, s4, s5⟩
    go_simp
    with_reducible rfl
  rotate_left
  · simp only [Act.put, List.setIfInBounds_toArray, List.set_cons_zero, List.set_cons_succ, i64_w, i32_w]
    rfl
  refine one_ (i := 1) (N := some 6) #[true, true, true, false, false, false, false] rfl rfl (by kernel_rfl) (by decide) (fun K hK => ?_)
  refine goes_ Try.func50 (by kernel_rfl) rfl #[.agg #[.int .i64 a0_0, .int .i64 a0_1, .string a0_2]] (by rfl) rfl rfl (by (try simp only [List.map_toArray, List.map_cons, List.map_nil]); first | done | rfl | (simp only [List.length_drop, List.length_take]; rfl) | (simp only [Int.ofNat_lt, Int.ofNat_le]; done) | (simp only [Int.ofNat_lt, Int.ofNat_le]; rfl)) ?_
  with_reducible refine (value_Not.calls a0_0 a0_1 a0_2 t274 t275 t276 _ A3.out).mono ?_
  rintro e w11 ⟨rfl, hb⟩
  refine ⟨_, rfl, ?_⟩
  have n0_ := Aside0.mk (blk_below (g := gb271) (o := .cells #[.int .i64 a0_0, .int .i64 a0_1, .string a0_2] 29 (0, 0)) (by (with_reducible repeat (first | refine blk_drewN ?_ _ | refine blk_drew ?_ | refine blk_alloc ?_ _)); exact BK271.out) hb)
  have n1_ := Aside0.mk (blk_below (g := gb272) (o := .cells #[.int .i64 a1_0, .int .i64 a1_1, .string a1_2] 29 (0, 0)) (by (with_reducible repeat (first | refine blk_drewN ?_ _ | refine blk_drew ?_ | refine blk_alloc ?_ _)); exact BK272.out) hb)
  have n2_ := Aside0.mk (blk_below (g := gb273) (o := .cells #[.int .i64 0, .int .i64 0, .string (⟨#[]⟩ : ByteArray)] 29 (0, 0)) (by (with_reducible repeat (first | refine blk_drewN ?_ _ | refine blk_drew ?_ | refine blk_alloc ?_ _)); exact BK273.out) hb)
  have n3_ := Aside0.mk (below_step (by repeat (first | (with_reducible first | exact HB.out | apply below_alloc | apply pw_below_drewN | apply below_drew1 | refine below_set ?_ GE271.out | refine below_set ?_ GE272.out | refine below_set ?_ GE273.out) | exact HB.out)) hb)
  clear BK271
  clear BK272
  clear BK273
  clear HB
  have BK271 := n0_
  have BK272 := n1_
  have BK273 := n2_
  have HB := n3_
  clear n0_ n1_ n2_ n3_
  (try clear hb)
  (try clear hb2)
  (try clear hk)
  (try clear hi)
  refine hK.out _ _ ⟨(blk_cell BK271.out 0).trans rfl, (blk_cell BK271.out 1).trans rfl, (blk_cell BK271.out 2).trans rfl, (blk_cell BK272.out 0).trans rfl, (blk_cell BK272.out 1).trans rfl, (blk_cell BK272.out 2).trans rfl⟩ (fun hHeld => ?_)
  clear hK K
  refine norm_ (a' := ?_) ?_ ?_
  rotate_left
  · show Act.put _ (some 6) _ = _
    simp only [Act.put, List.setIfInBounds_toArray, List.set_cons_zero, List.set_cons_succ, i64_w, i32_w]
    rfl
  refine one_ (i := 3) (N := some 8) #[true, true, true, true, false, false, false] rfl rfl (by kernel_rfl) (by decide) (fun K hK => ?_)
  refine goes_ Try.func50 (by kernel_rfl) rfl #[.agg #[.int .i64 a1_0, .int .i64 a1_1, .string a1_2]] (by rfl) rfl rfl (by (try simp only [List.map_toArray, List.map_cons, List.map_nil]); first | done | rfl | (simp only [List.length_drop, List.length_take]; rfl) | (simp only [Int.ofNat_lt, Int.ofNat_le]; done) | (simp only [Int.ofNat_lt, Int.ofNat_le]; rfl)) ?_
  with_reducible refine (value_Not.calls a1_0 a1_1 a1_2 t277 t278 t279 _ A4.out).mono ?_
  rintro e w12 ⟨rfl, hb⟩
  refine ⟨_, rfl, ?_⟩
  have n0_ := Aside0.mk (blk_below (g := gb271) (o := .cells #[.int .i64 a0_0, .int .i64 a0_1, .string a0_2] 29 (0, 0)) (by (with_reducible repeat (first | refine blk_drewN ?_ _ | refine blk_drew ?_ | refine blk_alloc ?_ _)); exact BK271.out) hb)
  have n1_ := Aside0.mk (blk_below (g := gb272) (o := .cells #[.int .i64 a1_0, .int .i64 a1_1, .string a1_2] 29 (0, 0)) (by (with_reducible repeat (first | refine blk_drewN ?_ _ | refine blk_drew ?_ | refine blk_alloc ?_ _)); exact BK272.out) hb)
  have n2_ := Aside0.mk (blk_below (g := gb273) (o := .cells #[.int .i64 0, .int .i64 0, .string (⟨#[]⟩ : ByteArray)] 29 (0, 0)) (by (with_reducible repeat (first | refine blk_drewN ?_ _ | refine blk_drew ?_ | refine blk_alloc ?_ _)); exact BK273.out) hb)
  have n3_ := Aside0.mk (below_step (by repeat (first | (with_reducible first | exact HB.out | apply below_alloc | apply pw_below_drewN | apply below_drew1 | refine below_set ?_ GE271.out | refine below_set ?_ GE272.out | refine below_set ?_ GE273.out) | exact HB.out)) hb)
  clear BK271
  clear BK272
  clear BK273
  clear HB
  have BK271 := n0_
  have BK272 := n1_
  have BK273 := n2_
  have HB := n3_
  clear n0_ n1_ n2_ n3_
  (try clear hb)
  (try clear hb2)
  (try clear hk)
  (try clear hi)
  refine hK.out _ _ ⟨(blk_cell BK271.out 0).trans rfl, (blk_cell BK271.out 1).trans rfl, (blk_cell BK271.out 2).trans rfl, (blk_cell BK272.out 0).trans rfl, (blk_cell BK272.out 1).trans rfl, (blk_cell BK272.out 2).trans rfl⟩ (fun hHeld => ?_)
  clear hK K
  refine norm_ (a' := ?_) ?_ ?_
  rotate_left
  · show Act.put _ (some 8) _ = _
    simp only [Act.put, List.setIfInBounds_toArray, List.set_cons_zero, List.set_cons_succ, i64_w, i32_w]
    rfl
  refine one_ (i := 4) (N := some 9) #[true, true, true, true, true, false, false] rfl rfl (by kernel_rfl) (by decide) (fun K hK => ?_)
  refine goes_ Try.func46 (by kernel_rfl) rfl #[.agg #[.int .i64 t274, .int .i64 t275, .string t276], .agg #[.int .i64 t277, .int .i64 t278, .string t279]] (by rfl) rfl rfl (by (try simp only [List.map_toArray, List.map_cons, List.map_nil]); first | done | rfl | (simp only [List.length_drop, List.length_take]; rfl) | (simp only [Int.ofNat_lt, Int.ofNat_le]; done) | (simp only [Int.ofNat_lt, Int.ofNat_le]; rfl)) ?_
  with_reducible refine (value_Both.calls k t274 t275 t276 t277 t278 t279 t280 t281 t282 _ A5.out).mono ?_
  rintro e w13 ⟨rfl, hb⟩
  refine ⟨_, rfl, ?_⟩
  have n0_ := Aside0.mk (blk_below (g := gb271) (o := .cells #[.int .i64 a0_0, .int .i64 a0_1, .string a0_2] 29 (0, 0)) (by (with_reducible repeat (first | refine blk_drewN ?_ _ | refine blk_drew ?_ | refine blk_alloc ?_ _)); exact BK271.out) hb)
  have n1_ := Aside0.mk (blk_below (g := gb272) (o := .cells #[.int .i64 a1_0, .int .i64 a1_1, .string a1_2] 29 (0, 0)) (by (with_reducible repeat (first | refine blk_drewN ?_ _ | refine blk_drew ?_ | refine blk_alloc ?_ _)); exact BK272.out) hb)
  have n2_ := Aside0.mk (blk_below (g := gb273) (o := .cells #[.int .i64 0, .int .i64 0, .string (⟨#[]⟩ : ByteArray)] 29 (0, 0)) (by (with_reducible repeat (first | refine blk_drewN ?_ _ | refine blk_drew ?_ | refine blk_alloc ?_ _)); exact BK273.out) hb)
  have n3_ := Aside0.mk (below_step (by repeat (first | (with_reducible first | exact HB.out | apply below_alloc | apply pw_below_drewN | apply below_drew1 | refine below_set ?_ GE271.out | refine below_set ?_ GE272.out | refine below_set ?_ GE273.out) | exact HB.out)) hb)
  clear BK271
  clear BK272
  clear BK273
  clear HB
  have BK271 := n0_
  have BK272 := n1_
  have BK273 := n2_
  have HB := n3_
  clear n0_ n1_ n2_ n3_
  (try clear hb)
  (try clear hb2)
  (try clear hk)
  (try clear hi)
  refine hK.out _ _ ⟨(blk_cell BK271.out 0).trans rfl, (blk_cell BK271.out 1).trans rfl, (blk_cell BK271.out 2).trans rfl, (blk_cell BK272.out 0).trans rfl, (blk_cell BK272.out 1).trans rfl, (blk_cell BK272.out 2).trans rfl⟩ (fun hHeld => ?_)
  clear hK K
  refine norm_ (a' := ?_) ?_ ?_
  rotate_left
  · show Act.put _ (some 9) _ = _
    simp only [Act.put, List.setIfInBounds_toArray, List.set_cons_zero, List.set_cons_succ, i64_w, i32_w]
    rfl
  refine one_ (i := 5) (N := some 10) #[true, true, true, true, true, true, false] rfl rfl (by kernel_rfl) (by decide) (fun K hK => ?_)
  refine goes_ Try.func50 (by kernel_rfl) rfl #[.agg #[.int .i64 t280, .int .i64 t281, .string t282]] (by rfl) rfl rfl (by (try simp only [List.map_toArray, List.map_cons, List.map_nil]); first | done | rfl | (simp only [List.length_drop, List.length_take]; rfl) | (simp only [Int.ofNat_lt, Int.ofNat_le]; done) | (simp only [Int.ofNat_lt, Int.ofNat_le]; rfl)) ?_
  with_reducible refine (value_Not.calls t280 t281 t282 t283 t284 t285 _ A6.out).mono ?_
  rintro e w14 ⟨rfl, hb⟩
  refine ⟨_, rfl, ?_⟩
  have n0_ := Aside0.mk (blk_below (g := gb271) (o := .cells #[.int .i64 a0_0, .int .i64 a0_1, .string a0_2] 29 (0, 0)) (by (with_reducible repeat (first | refine blk_drewN ?_ _ | refine blk_drew ?_ | refine blk_alloc ?_ _)); exact BK271.out) hb)
  have n1_ := Aside0.mk (blk_below (g := gb272) (o := .cells #[.int .i64 a1_0, .int .i64 a1_1, .string a1_2] 29 (0, 0)) (by (with_reducible repeat (first | refine blk_drewN ?_ _ | refine blk_drew ?_ | refine blk_alloc ?_ _)); exact BK272.out) hb)
  have n2_ := Aside0.mk (blk_below (g := gb273) (o := .cells #[.int .i64 0, .int .i64 0, .string (⟨#[]⟩ : ByteArray)] 29 (0, 0)) (by (with_reducible repeat (first | refine blk_drewN ?_ _ | refine blk_drew ?_ | refine blk_alloc ?_ _)); exact BK273.out) hb)
  have n3_ := Aside0.mk (below_step (by repeat (first | (with_reducible first | exact HB.out | apply below_alloc | apply pw_below_drewN | apply below_drew1 | refine below_set ?_ GE271.out | refine below_set ?_ GE272.out | refine below_set ?_ GE273.out) | exact HB.out)) hb)
  clear BK271
  clear BK272
  clear BK273
  clear HB
  have BK271 := n0_
  have BK272 := n1_
  have BK273 := n2_
  have HB := n3_
  clear n0_ n1_ n2_ n3_
  (try clear hb)
  (try clear hb2)
  (try clear hk)
  (try clear hi)
  refine hK.out _ _ ⟨(blk_cell BK271.out 0).trans rfl, (blk_cell BK271.out 1).trans rfl, (blk_cell BK271.out 2).trans rfl, (blk_cell BK272.out 0).trans rfl, (blk_cell BK272.out 1).trans rfl, (blk_cell BK272.out 2).trans rfl⟩ (fun hHeld => ?_)
  clear hK K
  refine norm_ (a' := ?_) ?_ ?_
  rotate_left
  · show Act.put _ (some 10) _ = _
    simp only [Act.put, List.setIfInBounds_toArray, List.set_cons_zero, List.set_cons_succ, i64_w, i32_w]
    rfl
  refine one_ (i := 6) (N := none) #[true, true, true, true, true, true, true] rfl rfl (by kernel_rfl) (by decide) (fun K hK => ?_)
  have hs15 : w14.cell? ⟨gb273, 0, none⟩ = some (.int .i64 0) := (blk_cell BK273.out 0).trans rfl
  have hfs15 := blk_frozen BK273.out 0
  have hns15_0 := NB271_273.out
  have hns15_1 := NB272_273.out
  have hms15_0 := NB273_271.out
  have hms15_1 := NB273_272.out
  have hs16 : w14.cell? ⟨gb273, 1, none⟩ = some (.int .i64 0) := (blk_cell BK273.out 1).trans rfl
  have hfs16 := blk_frozen BK273.out 1
  have hns16_0 := NB271_273.out
  have hns16_1 := NB272_273.out
  have hms16_0 := NB273_271.out
  have hms16_1 := NB273_272.out
  have hs17 : w14.cell? ⟨gb273, 2, none⟩ = some (.string (⟨#[]⟩ : ByteArray)) := (blk_cell BK273.out 2).trans rfl
  have hfs17 := blk_frozen BK273.out 2
  have hns17_0 := NB271_273.out
  have hns17_1 := NB272_273.out
  have hms17_0 := NB273_271.out
  have hms17_1 := NB273_272.out
  refine skip_ (w1 := ?_) (by rfl) rfl ?_ ?_
  rotate_left
  · go_simp
    rfl
  refine hK.out _ _ ⟨((cell_far (p := ⟨gb273, _, none⟩) NB271_273.out _).trans (((cell_far (p := ⟨gb273, _, none⟩) NB271_273.out _).trans (((cell_far (p := ⟨gb273, _, none⟩) NB271_273.out _).trans (hHeld.1)))))), ((cell_far (p := ⟨gb273, _, none⟩) NB271_273.out _).trans (((cell_far (p := ⟨gb273, _, none⟩) NB271_273.out _).trans (((cell_far (p := ⟨gb273, _, none⟩) NB271_273.out _).trans (hHeld.2.1)))))), ((cell_far (p := ⟨gb273, _, none⟩) NB271_273.out _).trans (((cell_far (p := ⟨gb273, _, none⟩) NB271_273.out _).trans (((cell_far (p := ⟨gb273, _, none⟩) NB271_273.out _).trans (hHeld.2.2.1)))))), ((cell_far (p := ⟨gb273, _, none⟩) NB272_273.out _).trans (((cell_far (p := ⟨gb273, _, none⟩) NB272_273.out _).trans (((cell_far (p := ⟨gb273, _, none⟩) NB272_273.out _).trans (hHeld.2.2.2.1)))))), ((cell_far (p := ⟨gb273, _, none⟩) NB272_273.out _).trans (((cell_far (p := ⟨gb273, _, none⟩) NB272_273.out _).trans (((cell_far (p := ⟨gb273, _, none⟩) NB272_273.out _).trans (hHeld.2.2.2.2.1)))))), ((cell_far (p := ⟨gb273, _, none⟩) NB272_273.out _).trans (((cell_far (p := ⟨gb273, _, none⟩) NB272_273.out _).trans (((cell_far (p := ⟨gb273, _, none⟩) NB272_273.out _).trans (hHeld.2.2.2.2.2))))))⟩ (fun hHeld => ?_)
  clear hK K
  refine done_ (by kernel_rfl) ?_
  try go_wp2
  refine bodyPost_ret (results_cell_row rfl _ _ gb273 29 #[.int .i64 t283, .int .i64 t284, .string t285] (0, 0) _ rfl (by (with_reducible repeat (first | refine blk_drewN ?_ _ | refine blk_drew ?_ | refine blk_alloc ?_ _)); refine blk_put (cs := #[.int .i64 t283, .int .i64 t284, .string (⟨#[]⟩ : ByteArray)]) ?_ 2 _ rfl; (with_reducible repeat (first | refine blk_drewN ?_ _ | refine blk_drew ?_ | refine blk_alloc ?_ _)); refine blk_put (cs := #[.int .i64 t283, .int .i64 0, .string (⟨#[]⟩ : ByteArray)]) ?_ 1 _ rfl; (with_reducible repeat (first | refine blk_drewN ?_ _ | refine blk_drew ?_ | refine blk_alloc ?_ _)); refine blk_put (cs := #[.int .i64 0, .int .i64 0, .string (⟨#[]⟩ : ByteArray)]) ?_ 0 _ rfl; (with_reducible repeat (first | refine blk_drewN ?_ _ | refine blk_drew ?_ | refine blk_alloc ?_ _)); exact BK273.out) Try.underlying29 rfl (by kernel_rfl)) rfl ?_
  exact ⟨by first | rfl | (simp [errW_none, errW_some] <;> rfl) | (simp [*, errW_none, errW_some] <;> rfl), by repeat (first | (with_reducible first | exact HB.out | apply below_alloc | apply pw_below_drewN | apply below_drew1 | refine below_set ?_ GE271.out | refine below_set ?_ GE272.out | refine below_set ?_ GE273.out) | exact HB.out)⟩

end Go.Proofs.Ythaoaaboempajaa.QValueTests
