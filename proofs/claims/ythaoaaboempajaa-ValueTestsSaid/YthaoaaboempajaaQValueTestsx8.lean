-- Lines written for this claim by a program of this session (wip/print). Lean checks them.
import Derived.Test.YthaoaaboempajaaQValueTestsx0
import Derived.Test.YthaoaaboempajaaQValueTestsx6
namespace Go.Proofs.Ythaoaaboempajaa.QValueTests
open Go.RowKit Go.Proofs.YthaoaaboempajaaW.PrintWords Go.Proofs.YthaoaaboempajaaW.PrintLast Go.Proofs.YthaoaaboempajaaW.PrintMore Go.Proofs.YthaoaaboempajaaX
attribute [local go_sem] max2_int min2_int max_two min_two max_three min_three max_four min_four   -- for this text's walks alone
set_option linter.unusedVariables false
set_option linter.unusedSimpArgs false

/-! ### relstoreref_Either: function 49 (a contract of this session's own) -/
def relstoreref_Either.tab : List (List Int) := [[0, 1, 2], [1, 1, 1], [2, 1, 2]]
def relstoreref_Either.f (a0_0 : Int) (a0_1 : Int) (a0_2 : ByteArray) (a1_0 : Int) (a1_1 : Int) (a1_2 : ByteArray) : Option (Int × Int × ByteArray) := (relstoreref_three.f a0_0 a0_1 a0_2).bind fun i => ((relstoreref_three.f a1_0 a1_1 a1_2).bind fun j => relstoreref_told.f ((relstoreref_Either.tab.getD i.toNat []).getD j.toNat 0))
theorem relstoreref_Either.three_in {a b : Int} {c : ByteArray} {r : Int} (h : relstoreref_three.f a b c = some r) : 0 ≤ r ∧ r < 3 := by
  unfold relstoreref_three.f at h
  split at h
  · split at h <;> (have := Option.some.inj h; omega)
  · have := Option.some.inj h; omega
def relstoreref_Either.T1 : Bool × List (List Nat × List Nat) := (true, [([], []), ([], []), ([], []), ([0, 1, 2], [0, 1, 2]), ([], []), ([4], [4]), ([3, 5], [3, 5]), ([6], [6]), ([], []), ([8, 5], [8]), ([7, 9], [7, 9]), ([10], [10]), ([11, 9], [11]), ([12, 12, 0, 1, 2, 3, 4, 5, 6, 7, 8, 9, 10, 11, 12], [12])])
def relstoreref_Either.B1 : List Nat := [0, 0, 0, 7, 0, 16, 63, 127, 0, 304, 1023, 2047, 4095, 8191]
theorem relstoreref_Either.tab1 : rtab .any (opsOf Try.f49 1) = relstoreref_Either.T1 := by kernel_rfl
theorem relstoreref_Either.bits1 : waitsOk relstoreref_Either.T1.2 relstoreref_Either.B1 = true := by kernel_rfl
set_option maxHeartbeats 8000000 in
set_option maxRecDepth 100000 in
theorem relstoreref_Either.calls (a0_0 : Int) (a0_1 : Int) (a0_2 : ByteArray) (a1_0 : Int) (a1_1 : Int) (a1_2 : ByteArray) (r1 : Int) (r2 : Int) (r3 : ByteArray) (w : World) (h : relstoreref_Either.f a0_0 a0_1 a0_2 a1_0 a1_1 a1_2 = some (r1, r2, r3)) :
    Calls Try.prog 49 #[.agg #[.int .i64 a0_0, .int .i64 a0_1, .string a0_2], .agg #[.int .i64 a1_0, .int .i64 a1_1, .string a1_2]] w fun e w' => e = .returned (.agg #[.int .i64 r1, .int .i64 r2, .string r3]) ∧ Below w.heap.size w w' := by
  have hu29 := Try.underlying29
  have rng3 : ∀ {x : Int}, 0 ≤ x → x < 3 → x = 0 ∨ x = 1 ∨ x = 2 := by intro x h0 h1; omega
  obtain ⟨i, hi, h⟩ := Option.bind_eq_some_iff.1 h
  obtain ⟨j, hj, h⟩ := Option.bind_eq_some_iff.1 h
  have Ri := Aside0.mk (relstoreref_Either.three_in hi)
  have Rj := Aside0.mk (relstoreref_Either.three_in hj)
  obtain ⟨t, ht⟩ : ∃ t : Int, (relstoreref_Either.tab.getD i.toNat []).getD j.toNat 0 = t := ⟨_, rfl⟩
  rw [ht] at h
  have HT := Aside0.mk ht
  have Ai := Aside0.mk hi
  have Aj := Aside0.mk hj
  have At := Aside0.mk h
  clear hi hj ht h
  have HB := Aside0.mk (Below.refl w.heap.size w)
  go_enter Try.func49, Try.ntmps49
  go_wp2_with (first | ((with_reducible refine gate_dst (N := 2) rfl ?_); refine box_event ?hg (N := 2) ?hd (cs := #[.int .i64 a0_0, .int .i64 a0_1, .string a0_2]) (t := 29) ?hr ?_; (case hd => rfl); (case hg => rfl); (case hr => first | (go_simp; done) | (go_simp; rfl)); intro ga hg w2 hbox hb; have n0_ := Aside0.mk (below_step HB.out hb); have KA := Aside0.mk hbox; have GA := Aside0.mk (by rw [hg]; exact below_size HB.out : w.heap.size ≤ ga); clear HB; have HB := n0_; clear n0_; clear hb hbox hg) | ((with_reducible refine gate_dst (N := 3) rfl ?_); refine box_event ?hg (N := 3) ?hd (cs := #[.int .i64 a1_0, .int .i64 a1_1, .string a1_2]) (t := 29) ?hr ?_; (case hd => rfl); (case hg => rfl); (case hr => first | (go_simp; done) | (go_simp; rfl)); intro gb hg w3 hbox hb; have n0_ := Aside0.mk (below_step HB.out hb); have KB := Aside0.mk hbox; have GB := Aside0.mk (by rw [hg]; exact below_size HB.out : w.heap.size ≤ gb); (have m_ := Aside0.mk (blk_below KA.out hb)); clear KA; have KA := m_; clear m_; clear HB; have HB := n0_; clear n0_; clear hb hbox hg) | ((with_reducible refine gate_dst (N := 4) rfl ?_); refine box_event ?hg (N := 4) ?hd (cs := #[.int .i64 0, .int .i64 0, .string (⟨#[]⟩ : ByteArray)]) (t := 29) ?hr ?_; (case hd => rfl); (case hg => rfl); (case hr => first | (go_simp; done) | (go_simp; rfl)); intro gr hg w4 hbox hb; have n0_ := Aside0.mk (below_step HB.out hb); have KR := Aside0.mk hbox; have GR := Aside0.mk (by rw [hg]; exact below_size HB.out : w.heap.size ≤ gr); (have m_ := Aside0.mk (blk_below KA.out hb)); clear KA; have KA := m_; clear m_; (have m_ := Aside0.mk (blk_below KB.out hb)); clear KB; have KB := m_; clear m_; clear HB; have HB := n0_; clear n0_; clear hb hbox hg))
  refine start_ (n := 14) (S := fun w' => True) (ds := []) #[false, false, false, false, false, false, false, false, false, false, false, false, false, false] (by kernel_rfl) rfl rfl trivial (fun hHeld => ?_); refine with_tabW relstoreref_Either.tab1 relstoreref_Either.bits1 (fun HT_ HW_ => ?_)
  clear hHeld
  replace HB := Aside0.mk (below_drew HB.out)
  replace KA := Aside0.mk (blk_drew KA.out)
  replace KB := Aside0.mk (blk_drew KB.out)
  replace KR := Aside0.mk (blk_drew KR.out)
  generalize w4.drew = wd at HB KA KB KR ⊢
  refine inv_at [0, 1, 2, 3, 4, 5, 6, 7, 8, 9, 10, 11, 12, 13] (fun a0_ b a w' => ∃ (g5 : Nat) (g6 : Nat) (g7 : Nat) (g8 : Nat) (gx : Nat) (m0_ : Value) (m1_ : Value) (m2_ : Value) (m3_ : Value) (m6_ : Value) (m7_ : Value) (m10_ : Value), a = putSel a0_ b [(0, 5, m0_), (1, 6, m1_), (2, 7, m2_), (3, 8, m3_), (4, 9, (.agg #[.int .i64 a0_0, .int .i64 a0_1, .string a0_2])), (5, 10, (.int .i64 i)), (6, 11, m6_), (7, 12, m7_), (8, 13, (.agg #[.int .i64 a1_0, .int .i64 a1_1, .string a1_2])), (9, 14, (.int .i64 j)), (10, 15, m10_), (11, 16, (.int .i64 t)), (12, 17, (.agg #[.int .i64 r1, .int .i64 r2, .string r3]))] ∧ (Below w.heap.size w w') ∧ (b 13 = false → w'.heap[ga]? = some (.cells #[.int .i64 a0_0, .int .i64 a0_1, .string a0_2] 29 (0, 0))) ∧ (b 13 = false → w'.heap[gb]? = some (.cells #[.int .i64 a1_0, .int .i64 a1_1, .string a1_2] 29 (0, 0))) ∧ (b 13 = false → w'.heap[gr]? = some (.cells #[.int .i64 0, .int .i64 0, .string (⟨#[]⟩ : ByteArray)] 29 (0, 0))) ∧ (b 13 = true → w'.heap[gr]? = some (.cells #[.int .i64 r1, .int .i64 r2, .string r3] 29 (0, 0))) ∧ (b 0 = true → b 13 = false → w'.heap[g5]? = some (.cells #[.int .i64 0, .int .i64 1, .int .i64 2] 3 (0, 0))) ∧ (b 1 = true → b 13 = false → w'.heap[g6]? = some (.cells #[.int .i64 1, .int .i64 1, .int .i64 1] 3 (0, 0))) ∧ (b 2 = true → b 13 = false → w'.heap[g7]? = some (.cells #[.int .i64 2, .int .i64 1, .int .i64 2] 3 (0, 0))) ∧ (b 3 = true → b 13 = false → w'.heap[g8]? = some (.cells #[.slice (some ⟨g5, 0, none⟩) 3 3, .slice (some ⟨g6, 0, none⟩) 3 3, .slice (some ⟨g7, 0, none⟩) 3 3] 75 (0, 0))) ∧ (b 7 = true → b 13 = false → gx = (if i = 0 then g5 else if i = 1 then g6 else g7)) ∧ (b 0 = true → (m0_ : Value) = (.slice (some ⟨g5, 0, none⟩) 3 3)) ∧ (b 1 = true → (m1_ : Value) = (.slice (some ⟨g6, 0, none⟩) 3 3)) ∧ (b 2 = true → (m2_ : Value) = (.slice (some ⟨g7, 0, none⟩) 3 3)) ∧ (b 3 = true → (m3_ : Value) = (.slice (some ⟨g8, 0, none⟩) 3 3)) ∧ (b 6 = true → (m6_ : Value) = (.pointer (some ⟨g8, i.toNat, none⟩))) ∧ (b 7 = true → (m7_ : Value) = (.slice (some ⟨gx, 0, none⟩) 3 3)) ∧ (b 10 = true → (m10_ : Value) = (.pointer (some ⟨gx, j.toNat, none⟩)))) HT_.out HW_.out (by kernel_rfl) (by kernel_rfl) ?_ ?_ ?_
  · exact ⟨0, 0, 0, 0, 0, .bool false, .bool false, .bool false, .bool false, .bool false, .bool false, .bool false, by simp only [putSel, Bool.false_eq_true, if_false], HB.out, fun _ => KA.out, fun _ => KB.out, fun _ => KR.out, fun h_ => absurd h_ (by decide), fun h_ => absurd h_ (by decide), fun h_ => absurd h_ (by decide), fun h_ => absurd h_ (by decide), fun h_ => absurd h_ (by decide), fun h_ => absurd h_ (by decide), fun h_ => absurd h_ (by decide), fun h_ => absurd h_ (by decide), fun h_ => absurd h_ (by decide), fun h_ => absurd h_ (by decide), fun h_ => absurd h_ (by decide), fun h_ => absurd h_ (by decide), fun h_ => absurd h_ (by decide)⟩
  · skip
    clear HB KA KB KR
    refine steps_cons ?_ ?_
    · rintro b a w' ⟨g5, g6, g7, g8, gx, m0_, m1_, m2_, m3_, m6_, m7_, m10_, ha, Q_HB, Q_KA, Q_KB, Q_KR, Q_KZ, Q_K5, Q_K6, Q_K7, Q_K8, Q_KX, Q_X0_, Q_X1_, Q_X2_, Q_X3_, Q_X6_, Q_X7_, Q_X10_⟩ hb_ hon hoff
      refine ⟨_, rfl, fun K hK => ?_⟩
      replace ha := Aside0.mk ha
      have HB := Aside0.mk Q_HB
      have KA := Aside0.mk (Q_KA (hoff 13 (by kernel_rfl)))
      have KB := Aside0.mk (Q_KB (hoff 13 (by kernel_rfl)))
      have KR := Aside0.mk (Q_KR (hoff 13 (by kernel_rfl)))
      have hb := below_alloc (Below.refl w'.heap.size w') (.cells #[.int .i64 0, .int .i64 1, .int .i64 2] 3 (0, 0))
      refine event_step (w1 := w'.alloc (.cells #[.int .i64 0, .int .i64 1, .int .i64 2] 3 (0, 0))) (v := .slice (some ⟨w'.heap.size, 0, none⟩) 3 3) (by rfl) ?_ ?_
      · go_simp
        try rfl
      refine hK.out _ _ ⟨w'.heap.size, g6, g7, g8, gx, ((.slice (some ⟨w'.heap.size, 0, none⟩) 3 3)), m1_, m2_, m3_, m6_, m7_, m10_, (by rw [ha.out]; exact putSel_upk 0 hb_ rfl rfl rfl), below_step HB.out hb, fun _ => blk_below KA.out hb, fun _ => blk_below KB.out hb, fun _ => blk_below KR.out hb, fun h0_ => absurd ((hoff 13 (by kernel_rfl)).symm.trans h0_) (by decide), fun _ _ => blk_new w' _, fun h0_ h1_ => blk_below (Q_K6 h0_ h1_) hb, fun h0_ h1_ => blk_below (Q_K7 h0_ h1_) hb, fun h0_ _ => absurd ((hoff 3 (by kernel_rfl)).symm.trans h0_) (by decide), fun h0_ _ => absurd ((hoff 7 (by kernel_rfl)).symm.trans h0_) (by decide), fun _ => rfl, Q_X1_, Q_X2_, fun h0_ => absurd ((hoff 3 (by kernel_rfl)).symm.trans h0_) (by decide), fun h0_ => absurd ((hoff 6 (by kernel_rfl)).symm.trans h0_) (by decide), fun h0_ => absurd ((hoff 7 (by kernel_rfl)).symm.trans h0_) (by decide), fun h0_ => absurd ((hoff 10 (by kernel_rfl)).symm.trans h0_) (by decide)⟩
    refine steps_cons ?_ ?_
    · rintro b a w' ⟨g5, g6, g7, g8, gx, m0_, m1_, m2_, m3_, m6_, m7_, m10_, ha, Q_HB, Q_KA, Q_KB, Q_KR, Q_KZ, Q_K5, Q_K6, Q_K7, Q_K8, Q_KX, Q_X0_, Q_X1_, Q_X2_, Q_X3_, Q_X6_, Q_X7_, Q_X10_⟩ hb_ hon hoff
      refine ⟨_, rfl, fun K hK => ?_⟩
      replace ha := Aside0.mk ha
      have HB := Aside0.mk Q_HB
      have KA := Aside0.mk (Q_KA (hoff 13 (by kernel_rfl)))
      have KB := Aside0.mk (Q_KB (hoff 13 (by kernel_rfl)))
      have KR := Aside0.mk (Q_KR (hoff 13 (by kernel_rfl)))
      have hb := below_alloc (Below.refl w'.heap.size w') (.cells #[.int .i64 1, .int .i64 1, .int .i64 1] 3 (0, 0))
      refine event_step (w1 := w'.alloc (.cells #[.int .i64 1, .int .i64 1, .int .i64 1] 3 (0, 0))) (v := .slice (some ⟨w'.heap.size, 0, none⟩) 3 3) (by rfl) ?_ ?_
      · go_simp
        try rfl
      refine hK.out _ _ ⟨g5, w'.heap.size, g7, g8, gx, m0_, ((.slice (some ⟨w'.heap.size, 0, none⟩) 3 3)), m2_, m3_, m6_, m7_, m10_, (by rw [ha.out]; exact putSel_upk 1 hb_ rfl rfl rfl), below_step HB.out hb, fun _ => blk_below KA.out hb, fun _ => blk_below KB.out hb, fun _ => blk_below KR.out hb, fun h0_ => absurd ((hoff 13 (by kernel_rfl)).symm.trans h0_) (by decide), fun h0_ h1_ => blk_below (Q_K5 h0_ h1_) hb, fun _ _ => blk_new w' _, fun h0_ h1_ => blk_below (Q_K7 h0_ h1_) hb, fun h0_ _ => absurd ((hoff 3 (by kernel_rfl)).symm.trans h0_) (by decide), fun h0_ _ => absurd ((hoff 7 (by kernel_rfl)).symm.trans h0_) (by decide), Q_X0_, fun _ => rfl, Q_X2_, fun h0_ => absurd ((hoff 3 (by kernel_rfl)).symm.trans h0_) (by decide), fun h0_ => absurd ((hoff 6 (by kernel_rfl)).symm.trans h0_) (by decide), fun h0_ => absurd ((hoff 7 (by kernel_rfl)).symm.trans h0_) (by decide), fun h0_ => absurd ((hoff 10 (by kernel_rfl)).symm.trans h0_) (by decide)⟩
    refine steps_cons ?_ ?_
    · rintro b a w' ⟨g5, g6, g7, g8, gx, m0_, m1_, m2_, m3_, m6_, m7_, m10_, ha, Q_HB, Q_KA, Q_KB, Q_KR, Q_KZ, Q_K5, Q_K6, Q_K7, Q_K8, Q_KX, Q_X0_, Q_X1_, Q_X2_, Q_X3_, Q_X6_, Q_X7_, Q_X10_⟩ hb_ hon hoff
      refine ⟨_, rfl, fun K hK => ?_⟩
      replace ha := Aside0.mk ha
      have HB := Aside0.mk Q_HB
      have KA := Aside0.mk (Q_KA (hoff 13 (by kernel_rfl)))
      have KB := Aside0.mk (Q_KB (hoff 13 (by kernel_rfl)))
      have KR := Aside0.mk (Q_KR (hoff 13 (by kernel_rfl)))
      have hb := below_alloc (Below.refl w'.heap.size w') (.cells #[.int .i64 2, .int .i64 1, .int .i64 2] 3 (0, 0))
      refine event_step (w1 := w'.alloc (.cells #[.int .i64 2, .int .i64 1, .int .i64 2] 3 (0, 0))) (v := .slice (some ⟨w'.heap.size, 0, none⟩) 3 3) (by rfl) ?_ ?_
      · go_simp
        try rfl
      refine hK.out _ _ ⟨g5, g6, w'.heap.size, g8, gx, m0_, m1_, ((.slice (some ⟨w'.heap.size, 0, none⟩) 3 3)), m3_, m6_, m7_, m10_, (by rw [ha.out]; exact putSel_upk 2 hb_ rfl rfl rfl), below_step HB.out hb, fun _ => blk_below KA.out hb, fun _ => blk_below KB.out hb, fun _ => blk_below KR.out hb, fun h0_ => absurd ((hoff 13 (by kernel_rfl)).symm.trans h0_) (by decide), fun h0_ h1_ => blk_below (Q_K5 h0_ h1_) hb, fun h0_ h1_ => blk_below (Q_K6 h0_ h1_) hb, fun _ _ => blk_new w' _, fun h0_ _ => absurd ((hoff 3 (by kernel_rfl)).symm.trans h0_) (by decide), fun h0_ _ => absurd ((hoff 7 (by kernel_rfl)).symm.trans h0_) (by decide), Q_X0_, Q_X1_, fun _ => rfl, fun h0_ => absurd ((hoff 3 (by kernel_rfl)).symm.trans h0_) (by decide), fun h0_ => absurd ((hoff 6 (by kernel_rfl)).symm.trans h0_) (by decide), fun h0_ => absurd ((hoff 7 (by kernel_rfl)).symm.trans h0_) (by decide), fun h0_ => absurd ((hoff 10 (by kernel_rfl)).symm.trans h0_) (by decide)⟩
    refine steps_cons ?_ ?_
    · rintro b a w' ⟨g5, g6, g7, g8, gx, m0_, m1_, m2_, m3_, m6_, m7_, m10_, ha, Q_HB, Q_KA, Q_KB, Q_KR, Q_KZ, Q_K5, Q_K6, Q_K7, Q_K8, Q_KX, Q_X0_, Q_X1_, Q_X2_, Q_X3_, Q_X6_, Q_X7_, Q_X10_⟩ hb_ hon hoff
      refine ⟨_, rfl, fun K hK => ?_⟩
      have e5 : a.tmps[5]? = some (m0_) := by rw [ha]; exact putSel_on (e := (0, 5, m0_)) 0 rfl rfl (hon 0 (by kernel_rfl)) rfl
      rw [Q_X0_ (hon 0 (by kernel_rfl))] at e5
      have e6 : a.tmps[6]? = some (m1_) := by rw [ha]; exact putSel_on (e := (1, 6, m1_)) 1 rfl rfl (hon 1 (by kernel_rfl)) rfl
      rw [Q_X1_ (hon 1 (by kernel_rfl))] at e6
      have e7 : a.tmps[7]? = some (m2_) := by rw [ha]; exact putSel_on (e := (2, 7, m2_)) 2 rfl rfl (hon 2 (by kernel_rfl)) rfl
      rw [Q_X2_ (hon 2 (by kernel_rfl))] at e7
      replace ha := Aside0.mk ha
      have HB := Aside0.mk Q_HB
      have KA := Aside0.mk (Q_KA (hoff 13 (by kernel_rfl)))
      have KB := Aside0.mk (Q_KB (hoff 13 (by kernel_rfl)))
      have KR := Aside0.mk (Q_KR (hoff 13 (by kernel_rfl)))
      have K5 := Aside0.mk (Q_K5 (hon 0 (by kernel_rfl)) (hoff 13 (by kernel_rfl)))
      have K6 := Aside0.mk (Q_K6 (hon 1 (by kernel_rfl)) (hoff 13 (by kernel_rfl)))
      have K7 := Aside0.mk (Q_K7 (hon 2 (by kernel_rfl)) (hoff 13 (by kernel_rfl)))
      have hb := below_alloc (Below.refl w'.heap.size w') (.cells #[.slice (some ⟨g5, 0, none⟩) 3 3, .slice (some ⟨g6, 0, none⟩) 3 3, .slice (some ⟨g7, 0, none⟩) 3 3] 75 (0, 0))
      refine event_step (w1 := w'.alloc (.cells #[.slice (some ⟨g5, 0, none⟩) 3 3, .slice (some ⟨g6, 0, none⟩) 3 3, .slice (some ⟨g7, 0, none⟩) 3 3] 75 (0, 0))) (v := .slice (some ⟨w'.heap.size, 0, none⟩) 3 3) (by rfl) ?_ ?_
      · go_simp
        try rfl
      refine hK.out _ _ ⟨g5, g6, g7, w'.heap.size, gx, m0_, m1_, m2_, ((.slice (some ⟨w'.heap.size, 0, none⟩) 3 3)), m6_, m7_, m10_, (by rw [ha.out]; exact putSel_upk 3 hb_ rfl rfl rfl), below_step HB.out hb, fun _ => blk_below KA.out hb, fun _ => blk_below KB.out hb, fun _ => blk_below KR.out hb, fun h0_ => absurd ((hoff 13 (by kernel_rfl)).symm.trans h0_) (by decide), fun _ _ => blk_below K5.out hb, fun _ _ => blk_below K6.out hb, fun _ _ => blk_below K7.out hb, fun _ _ => blk_new w' _, fun h0_ _ => absurd ((hoff 7 (by kernel_rfl)).symm.trans h0_) (by decide), Q_X0_, Q_X1_, Q_X2_, fun _ => rfl, fun h0_ => absurd ((hoff 6 (by kernel_rfl)).symm.trans h0_) (by decide), fun h0_ => absurd ((hoff 7 (by kernel_rfl)).symm.trans h0_) (by decide), fun h0_ => absurd ((hoff 10 (by kernel_rfl)).symm.trans h0_) (by decide)⟩
    refine steps_cons ?_ ?_
    · rintro b a w' ⟨g5, g6, g7, g8, gx, m0_, m1_, m2_, m3_, m6_, m7_, m10_, ha, Q_HB, Q_KA, Q_KB, Q_KR, Q_KZ, Q_K5, Q_K6, Q_K7, Q_K8, Q_KX, Q_X0_, Q_X1_, Q_X2_, Q_X3_, Q_X6_, Q_X7_, Q_X10_⟩ hb_ hon hoff
      refine ⟨_, rfl, fun K hK => ?_⟩
      have e2 : a.tmps[2]? = some (.pointer (some ⟨ga, 0, none⟩)) := by rw [ha]; exact (putSel_off rfl).trans rfl
      replace ha := Aside0.mk ha
      have HB := Aside0.mk Q_HB
      have KA := Aside0.mk (Q_KA (hoff 13 (by kernel_rfl)))
      have KB := Aside0.mk (Q_KB (hoff 13 (by kernel_rfl)))
      have KR := Aside0.mk (Q_KR (hoff 13 (by kernel_rfl)))
      have c0_ := blk_cell KA.out 0
      have c1_ := blk_cell KA.out 1
      have c2_ := blk_cell KA.out 2
      simp at c0_ c1_ c2_
      refine value_ (w1 := w') (v := (.agg #[.int .i64 a0_0, .int .i64 a0_1, .string a0_2])) (by rfl) rfl ?_ ?_
      · go_simp
        (try simp only [i64_w])
        try rfl
      refine hK.out _ _ ⟨g5, g6, g7, g8, gx, m0_, m1_, m2_, m3_, m6_, m7_, m10_, (by rw [ha.out]; exact putSel_upk 4 hb_ rfl rfl rfl), Q_HB, Q_KA, Q_KB, Q_KR, fun h0_ => absurd ((hoff 13 (by kernel_rfl)).symm.trans h0_) (by decide), Q_K5, Q_K6, Q_K7, Q_K8, fun h0_ _ => absurd ((hoff 7 (by kernel_rfl)).symm.trans h0_) (by decide), Q_X0_, Q_X1_, Q_X2_, Q_X3_, fun h0_ => absurd ((hoff 6 (by kernel_rfl)).symm.trans h0_) (by decide), fun h0_ => absurd ((hoff 7 (by kernel_rfl)).symm.trans h0_) (by decide), fun h0_ => absurd ((hoff 10 (by kernel_rfl)).symm.trans h0_) (by decide)⟩
    refine steps_cons ?_ ?_
    · rintro b a w' ⟨g5, g6, g7, g8, gx, m0_, m1_, m2_, m3_, m6_, m7_, m10_, ha, Q_HB, Q_KA, Q_KB, Q_KR, Q_KZ, Q_K5, Q_K6, Q_K7, Q_K8, Q_KX, Q_X0_, Q_X1_, Q_X2_, Q_X3_, Q_X6_, Q_X7_, Q_X10_⟩ hb_ hon hoff
      refine ⟨_, rfl, fun K hK => ?_⟩
      have e9 : a.tmps[9]? = some ((.agg #[.int .i64 a0_0, .int .i64 a0_1, .string a0_2])) := by rw [ha]; exact putSel_on (e := (4, 9, (.agg #[.int .i64 a0_0, .int .i64 a0_1, .string a0_2]))) 4 rfl rfl (hon 4 (by kernel_rfl)) rfl
      replace ha := Aside0.mk ha
      have HB := Aside0.mk Q_HB
      have KA := Aside0.mk (Q_KA (hoff 13 (by kernel_rfl)))
      have KB := Aside0.mk (Q_KB (hoff 13 (by kernel_rfl)))
      have KR := Aside0.mk (Q_KR (hoff 13 (by kernel_rfl)))
      refine goes_ Try.func118 (by kernel_rfl) rfl #[.agg #[.int .i64 a0_0, .int .i64 a0_1, .string a0_2]] (by rfl) rfl rfl (by first | (simp only [List.map_toArray, List.map_cons, List.map_nil, Act.eval, Array.getD_eq_getD_getElem?, Option.getD_some, e9]; done) | (simp only [List.map_toArray, List.map_cons, List.map_nil, Act.eval, Array.getD_eq_getD_getElem?, Option.getD_some, e9]; rfl)) ?_
      with_reducible refine (relstoreref_three.calls a0_0 a0_1 a0_2 i _ Ai.out).mono ?_
      rintro e w1 ⟨rfl, hb⟩
      refine ⟨_, rfl, ?_⟩
      refine hK.out _ _ ⟨g5, g6, g7, g8, gx, m0_, m1_, m2_, m3_, m6_, m7_, m10_, (by rw [ha.out]; exact putSel_upk 5 hb_ rfl rfl rfl), below_step HB.out hb, fun _ => blk_below KA.out hb, fun _ => blk_below KB.out hb, fun _ => blk_below KR.out hb, fun h0_ => absurd ((hoff 13 (by kernel_rfl)).symm.trans h0_) (by decide), fun h0_ h1_ => blk_below (Q_K5 h0_ h1_) hb, fun h0_ h1_ => blk_below (Q_K6 h0_ h1_) hb, fun h0_ h1_ => blk_below (Q_K7 h0_ h1_) hb, fun h0_ h1_ => blk_below (Q_K8 h0_ h1_) hb, fun h0_ _ => absurd ((hoff 7 (by kernel_rfl)).symm.trans h0_) (by decide), Q_X0_, Q_X1_, Q_X2_, Q_X3_, fun h0_ => absurd ((hoff 6 (by kernel_rfl)).symm.trans h0_) (by decide), fun h0_ => absurd ((hoff 7 (by kernel_rfl)).symm.trans h0_) (by decide), fun h0_ => absurd ((hoff 10 (by kernel_rfl)).symm.trans h0_) (by decide)⟩
    refine steps_cons ?_ ?_
    · rintro b a w' ⟨g5, g6, g7, g8, gx, m0_, m1_, m2_, m3_, m6_, m7_, m10_, ha, Q_HB, Q_KA, Q_KB, Q_KR, Q_KZ, Q_K5, Q_K6, Q_K7, Q_K8, Q_KX, Q_X0_, Q_X1_, Q_X2_, Q_X3_, Q_X6_, Q_X7_, Q_X10_⟩ hb_ hon hoff
      refine ⟨_, rfl, fun K hK => ?_⟩
      have e8 : a.tmps[8]? = some (m3_) := by rw [ha]; exact putSel_on (e := (3, 8, m3_)) 3 rfl rfl (hon 3 (by kernel_rfl)) rfl
      rw [Q_X3_ (hon 3 (by kernel_rfl))] at e8
      have e10 : a.tmps[10]? = some ((.int .i64 i)) := by rw [ha]; exact putSel_on (e := (5, 10, (.int .i64 i))) 5 rfl rfl (hon 5 (by kernel_rfl)) rfl
      replace ha := Aside0.mk ha
      have HB := Aside0.mk Q_HB
      have KA := Aside0.mk (Q_KA (hoff 13 (by kernel_rfl)))
      have KB := Aside0.mk (Q_KB (hoff 13 (by kernel_rfl)))
      have KR := Aside0.mk (Q_KR (hoff 13 (by kernel_rfl)))
      have K5 := Aside0.mk (Q_K5 (hon 0 (by kernel_rfl)) (hoff 13 (by kernel_rfl)))
      have K6 := Aside0.mk (Q_K6 (hon 1 (by kernel_rfl)) (hoff 13 (by kernel_rfl)))
      have K7 := Aside0.mk (Q_K7 (hon 2 (by kernel_rfl)) (hoff 13 (by kernel_rfl)))
      have K8 := Aside0.mk (Q_K8 (hon 3 (by kernel_rfl)) (hoff 13 (by kernel_rfl)))
      have z0_ := Ri.out.1
      have z1_ := Ri.out.2
      refine value_ (w1 := w') (v := (.pointer (some ⟨g8, i.toNat, none⟩))) (by rfl) rfl ?_ ?_
      · go_simp
        (try simp only [i64_w])
        try rfl
      refine hK.out _ _ ⟨g5, g6, g7, g8, gx, m0_, m1_, m2_, m3_, ((.pointer (some ⟨g8, i.toNat, none⟩))), m7_, m10_, (by rw [ha.out]; exact putSel_upk 6 hb_ rfl rfl rfl), Q_HB, Q_KA, Q_KB, Q_KR, fun h0_ => absurd ((hoff 13 (by kernel_rfl)).symm.trans h0_) (by decide), Q_K5, Q_K6, Q_K7, Q_K8, fun h0_ _ => absurd ((hoff 7 (by kernel_rfl)).symm.trans h0_) (by decide), Q_X0_, Q_X1_, Q_X2_, Q_X3_, fun _ => rfl, fun h0_ => absurd ((hoff 7 (by kernel_rfl)).symm.trans h0_) (by decide), fun h0_ => absurd ((hoff 10 (by kernel_rfl)).symm.trans h0_) (by decide)⟩
    refine steps_cons ?_ ?_
    · rintro b a w' ⟨g5, g6, g7, g8, gx, m0_, m1_, m2_, m3_, m6_, m7_, m10_, ha, Q_HB, Q_KA, Q_KB, Q_KR, Q_KZ, Q_K5, Q_K6, Q_K7, Q_K8, Q_KX, Q_X0_, Q_X1_, Q_X2_, Q_X3_, Q_X6_, Q_X7_, Q_X10_⟩ hb_ hon hoff
      refine ⟨_, rfl, fun K hK => ?_⟩
      have e11 : a.tmps[11]? = some (m6_) := by rw [ha]; exact putSel_on (e := (6, 11, m6_)) 6 rfl rfl (hon 6 (by kernel_rfl)) rfl
      rw [Q_X6_ (hon 6 (by kernel_rfl))] at e11
      replace ha := Aside0.mk ha
      have HB := Aside0.mk Q_HB
      have KA := Aside0.mk (Q_KA (hoff 13 (by kernel_rfl)))
      have KB := Aside0.mk (Q_KB (hoff 13 (by kernel_rfl)))
      have KR := Aside0.mk (Q_KR (hoff 13 (by kernel_rfl)))
      have K5 := Aside0.mk (Q_K5 (hon 0 (by kernel_rfl)) (hoff 13 (by kernel_rfl)))
      have K6 := Aside0.mk (Q_K6 (hon 1 (by kernel_rfl)) (hoff 13 (by kernel_rfl)))
      have K7 := Aside0.mk (Q_K7 (hon 2 (by kernel_rfl)) (hoff 13 (by kernel_rfl)))
      have K8 := Aside0.mk (Q_K8 (hon 3 (by kernel_rfl)) (hoff 13 (by kernel_rfl)))
      have c_ : w'.cell? ⟨g8, i.toNat, none⟩ = some (.slice (some ⟨(if i = 0 then g5 else if i = 1 then g6 else g7), 0, none⟩) 3 3) := by rw [blk_cell K8.out]; rcases rng3 Ri.out.1 Ri.out.2 with h_ | h_ | h_ <;> subst h_ <;> rfl
      refine value_ (w1 := w') (v := (.slice (some ⟨(if i = 0 then g5 else if i = 1 then g6 else g7), 0, none⟩) 3 3)) (by rfl) rfl ?_ ?_
      · go_simp
        (try simp only [i64_w])
        try rfl
      refine hK.out _ _ ⟨g5, g6, g7, g8, (if i = 0 then g5 else if i = 1 then g6 else g7), m0_, m1_, m2_, m3_, m6_, ((.slice (some ⟨(if i = 0 then g5 else if i = 1 then g6 else g7), 0, none⟩) 3 3)), m10_, (by rw [ha.out]; exact putSel_upk 7 hb_ rfl rfl rfl), Q_HB, Q_KA, Q_KB, Q_KR, fun h0_ => absurd ((hoff 13 (by kernel_rfl)).symm.trans h0_) (by decide), Q_K5, Q_K6, Q_K7, Q_K8, fun _ _ => rfl, Q_X0_, Q_X1_, Q_X2_, Q_X3_, Q_X6_, fun _ => rfl, fun h0_ => absurd ((hoff 10 (by kernel_rfl)).symm.trans h0_) (by decide)⟩
    refine steps_cons ?_ ?_
    · rintro b a w' ⟨g5, g6, g7, g8, gx, m0_, m1_, m2_, m3_, m6_, m7_, m10_, ha, Q_HB, Q_KA, Q_KB, Q_KR, Q_KZ, Q_K5, Q_K6, Q_K7, Q_K8, Q_KX, Q_X0_, Q_X1_, Q_X2_, Q_X3_, Q_X6_, Q_X7_, Q_X10_⟩ hb_ hon hoff
      refine ⟨_, rfl, fun K hK => ?_⟩
      have e3 : a.tmps[3]? = some (.pointer (some ⟨gb, 0, none⟩)) := by rw [ha]; exact (putSel_off rfl).trans rfl
      replace ha := Aside0.mk ha
      have HB := Aside0.mk Q_HB
      have KA := Aside0.mk (Q_KA (hoff 13 (by kernel_rfl)))
      have KB := Aside0.mk (Q_KB (hoff 13 (by kernel_rfl)))
      have KR := Aside0.mk (Q_KR (hoff 13 (by kernel_rfl)))
      have c0_ := blk_cell KB.out 0
      have c1_ := blk_cell KB.out 1
      have c2_ := blk_cell KB.out 2
      simp at c0_ c1_ c2_
      refine value_ (w1 := w') (v := (.agg #[.int .i64 a1_0, .int .i64 a1_1, .string a1_2])) (by rfl) rfl ?_ ?_
      · go_simp
        (try simp only [i64_w])
        try rfl
      refine hK.out _ _ ⟨g5, g6, g7, g8, gx, m0_, m1_, m2_, m3_, m6_, m7_, m10_, (by rw [ha.out]; exact putSel_upk 8 hb_ rfl rfl rfl), Q_HB, Q_KA, Q_KB, Q_KR, fun h0_ => absurd ((hoff 13 (by kernel_rfl)).symm.trans h0_) (by decide), Q_K5, Q_K6, Q_K7, Q_K8, Q_KX, Q_X0_, Q_X1_, Q_X2_, Q_X3_, Q_X6_, Q_X7_, fun h0_ => absurd ((hoff 10 (by kernel_rfl)).symm.trans h0_) (by decide)⟩
    refine steps_cons ?_ ?_
    · rintro b a w' ⟨g5, g6, g7, g8, gx, m0_, m1_, m2_, m3_, m6_, m7_, m10_, ha, Q_HB, Q_KA, Q_KB, Q_KR, Q_KZ, Q_K5, Q_K6, Q_K7, Q_K8, Q_KX, Q_X0_, Q_X1_, Q_X2_, Q_X3_, Q_X6_, Q_X7_, Q_X10_⟩ hb_ hon hoff
      refine ⟨_, rfl, fun K hK => ?_⟩
      have e13 : a.tmps[13]? = some ((.agg #[.int .i64 a1_0, .int .i64 a1_1, .string a1_2])) := by rw [ha]; exact putSel_on (e := (8, 13, (.agg #[.int .i64 a1_0, .int .i64 a1_1, .string a1_2]))) 8 rfl rfl (hon 8 (by kernel_rfl)) rfl
      replace ha := Aside0.mk ha
      have HB := Aside0.mk Q_HB
      have KA := Aside0.mk (Q_KA (hoff 13 (by kernel_rfl)))
      have KB := Aside0.mk (Q_KB (hoff 13 (by kernel_rfl)))
      have KR := Aside0.mk (Q_KR (hoff 13 (by kernel_rfl)))
      refine goes_ Try.func118 (by kernel_rfl) rfl #[.agg #[.int .i64 a1_0, .int .i64 a1_1, .string a1_2]] (by rfl) rfl rfl (by first | (simp only [List.map_toArray, List.map_cons, List.map_nil, Act.eval, Array.getD_eq_getD_getElem?, Option.getD_some, e13]; done) | (simp only [List.map_toArray, List.map_cons, List.map_nil, Act.eval, Array.getD_eq_getD_getElem?, Option.getD_some, e13]; rfl)) ?_
      with_reducible refine (relstoreref_three.calls a1_0 a1_1 a1_2 j _ Aj.out).mono ?_
      rintro e w1 ⟨rfl, hb⟩
      refine ⟨_, rfl, ?_⟩
      refine hK.out _ _ ⟨g5, g6, g7, g8, gx, m0_, m1_, m2_, m3_, m6_, m7_, m10_, (by rw [ha.out]; exact putSel_upk 9 hb_ rfl rfl rfl), below_step HB.out hb, fun _ => blk_below KA.out hb, fun _ => blk_below KB.out hb, fun _ => blk_below KR.out hb, fun h0_ => absurd ((hoff 13 (by kernel_rfl)).symm.trans h0_) (by decide), fun h0_ h1_ => blk_below (Q_K5 h0_ h1_) hb, fun h0_ h1_ => blk_below (Q_K6 h0_ h1_) hb, fun h0_ h1_ => blk_below (Q_K7 h0_ h1_) hb, fun h0_ h1_ => blk_below (Q_K8 h0_ h1_) hb, fun h0_ h1_ => (Q_KX h0_ h1_), Q_X0_, Q_X1_, Q_X2_, Q_X3_, Q_X6_, Q_X7_, fun h0_ => absurd ((hoff 10 (by kernel_rfl)).symm.trans h0_) (by decide)⟩
    refine steps_cons ?_ ?_
    · rintro b a w' ⟨g5, g6, g7, g8, gx, m0_, m1_, m2_, m3_, m6_, m7_, m10_, ha, Q_HB, Q_KA, Q_KB, Q_KR, Q_KZ, Q_K5, Q_K6, Q_K7, Q_K8, Q_KX, Q_X0_, Q_X1_, Q_X2_, Q_X3_, Q_X6_, Q_X7_, Q_X10_⟩ hb_ hon hoff
      refine ⟨_, rfl, fun K hK => ?_⟩
      have e12 : a.tmps[12]? = some (m7_) := by rw [ha]; exact putSel_on (e := (7, 12, m7_)) 7 rfl rfl (hon 7 (by kernel_rfl)) rfl
      rw [Q_X7_ (hon 7 (by kernel_rfl))] at e12
      have e14 : a.tmps[14]? = some ((.int .i64 j)) := by rw [ha]; exact putSel_on (e := (9, 14, (.int .i64 j))) 9 rfl rfl (hon 9 (by kernel_rfl)) rfl
      replace ha := Aside0.mk ha
      have HB := Aside0.mk Q_HB
      have KA := Aside0.mk (Q_KA (hoff 13 (by kernel_rfl)))
      have KB := Aside0.mk (Q_KB (hoff 13 (by kernel_rfl)))
      have KR := Aside0.mk (Q_KR (hoff 13 (by kernel_rfl)))
      have K5 := Aside0.mk (Q_K5 (hon 0 (by kernel_rfl)) (hoff 13 (by kernel_rfl)))
      have K6 := Aside0.mk (Q_K6 (hon 1 (by kernel_rfl)) (hoff 13 (by kernel_rfl)))
      have K7 := Aside0.mk (Q_K7 (hon 2 (by kernel_rfl)) (hoff 13 (by kernel_rfl)))
      have K8 := Aside0.mk (Q_K8 (hon 3 (by kernel_rfl)) (hoff 13 (by kernel_rfl)))
      have KX := Aside0.mk (Q_KX (hon 7 (by kernel_rfl)) (hoff 13 (by kernel_rfl)))
      have z0_ := Rj.out.1
      have z1_ := Rj.out.2
      refine value_ (w1 := w') (v := (.pointer (some ⟨gx, j.toNat, none⟩))) (by rfl) rfl ?_ ?_
      · go_simp
        (try simp only [i64_w])
        try rfl
      refine hK.out _ _ ⟨g5, g6, g7, g8, gx, m0_, m1_, m2_, m3_, m6_, m7_, ((.pointer (some ⟨gx, j.toNat, none⟩))), (by rw [ha.out]; exact putSel_upk 10 hb_ rfl rfl rfl), Q_HB, Q_KA, Q_KB, Q_KR, fun h0_ => absurd ((hoff 13 (by kernel_rfl)).symm.trans h0_) (by decide), Q_K5, Q_K6, Q_K7, Q_K8, Q_KX, Q_X0_, Q_X1_, Q_X2_, Q_X3_, Q_X6_, Q_X7_, fun _ => rfl⟩
    refine steps_cons ?_ ?_
    · rintro b a w' ⟨g5, g6, g7, g8, gx, m0_, m1_, m2_, m3_, m6_, m7_, m10_, ha, Q_HB, Q_KA, Q_KB, Q_KR, Q_KZ, Q_K5, Q_K6, Q_K7, Q_K8, Q_KX, Q_X0_, Q_X1_, Q_X2_, Q_X3_, Q_X6_, Q_X7_, Q_X10_⟩ hb_ hon hoff
      refine ⟨_, rfl, fun K hK => ?_⟩
      have e15 : a.tmps[15]? = some (m10_) := by rw [ha]; exact putSel_on (e := (10, 15, m10_)) 10 rfl rfl (hon 10 (by kernel_rfl)) rfl
      rw [Q_X10_ (hon 10 (by kernel_rfl))] at e15
      replace ha := Aside0.mk ha
      have HB := Aside0.mk Q_HB
      have KA := Aside0.mk (Q_KA (hoff 13 (by kernel_rfl)))
      have KB := Aside0.mk (Q_KB (hoff 13 (by kernel_rfl)))
      have KR := Aside0.mk (Q_KR (hoff 13 (by kernel_rfl)))
      have K5 := Aside0.mk (Q_K5 (hon 0 (by kernel_rfl)) (hoff 13 (by kernel_rfl)))
      have K6 := Aside0.mk (Q_K6 (hon 1 (by kernel_rfl)) (hoff 13 (by kernel_rfl)))
      have K7 := Aside0.mk (Q_K7 (hon 2 (by kernel_rfl)) (hoff 13 (by kernel_rfl)))
      have K8 := Aside0.mk (Q_K8 (hon 3 (by kernel_rfl)) (hoff 13 (by kernel_rfl)))
      have KX := Aside0.mk (Q_KX (hon 7 (by kernel_rfl)) (hoff 13 (by kernel_rfl)))
      have c_ : w'.cell? ⟨gx, j.toNat, none⟩ = some (.int .i64 t) := by rw [KX.out, ← HT.out]; rcases rng3 Ri.out.1 Ri.out.2 with h_ | h_ | h_ <;> subst h_ <;> rcases rng3 Rj.out.1 Rj.out.2 with k_ | k_ | k_ <;> subst k_ <;> first | (exact blk_cell K5.out _) | (exact blk_cell K6.out _) | (exact blk_cell K7.out _)
      refine value_ (w1 := w') (v := (.int .i64 t)) (by rfl) rfl ?_ ?_
      · go_simp
        (try simp only [i64_w])
        try rfl
      refine hK.out _ _ ⟨g5, g6, g7, g8, gx, m0_, m1_, m2_, m3_, m6_, m7_, m10_, (by rw [ha.out]; exact putSel_upk 11 hb_ rfl rfl rfl), Q_HB, Q_KA, Q_KB, Q_KR, fun h0_ => absurd ((hoff 13 (by kernel_rfl)).symm.trans h0_) (by decide), Q_K5, Q_K6, Q_K7, Q_K8, Q_KX, Q_X0_, Q_X1_, Q_X2_, Q_X3_, Q_X6_, Q_X7_, Q_X10_⟩
    refine steps_cons ?_ ?_
    · rintro b a w' ⟨g5, g6, g7, g8, gx, m0_, m1_, m2_, m3_, m6_, m7_, m10_, ha, Q_HB, Q_KA, Q_KB, Q_KR, Q_KZ, Q_K5, Q_K6, Q_K7, Q_K8, Q_KX, Q_X0_, Q_X1_, Q_X2_, Q_X3_, Q_X6_, Q_X7_, Q_X10_⟩ hb_ hon hoff
      refine ⟨_, rfl, fun K hK => ?_⟩
      have e16 : a.tmps[16]? = some ((.int .i64 t)) := by rw [ha]; exact putSel_on (e := (11, 16, (.int .i64 t))) 11 rfl rfl (hon 11 (by kernel_rfl)) rfl
      replace ha := Aside0.mk ha
      have HB := Aside0.mk Q_HB
      have KA := Aside0.mk (Q_KA (hoff 13 (by kernel_rfl)))
      have KB := Aside0.mk (Q_KB (hoff 13 (by kernel_rfl)))
      have KR := Aside0.mk (Q_KR (hoff 13 (by kernel_rfl)))
      have K5 := Aside0.mk (Q_K5 (hon 0 (by kernel_rfl)) (hoff 13 (by kernel_rfl)))
      have K6 := Aside0.mk (Q_K6 (hon 1 (by kernel_rfl)) (hoff 13 (by kernel_rfl)))
      have K7 := Aside0.mk (Q_K7 (hon 2 (by kernel_rfl)) (hoff 13 (by kernel_rfl)))
      have K8 := Aside0.mk (Q_K8 (hon 3 (by kernel_rfl)) (hoff 13 (by kernel_rfl)))
      have KX := Aside0.mk (Q_KX (hon 7 (by kernel_rfl)) (hoff 13 (by kernel_rfl)))
      refine goes_ Try.func117 (by kernel_rfl) rfl #[.int .i64 t] (by rfl) rfl rfl (by first | (simp only [List.map_toArray, List.map_cons, List.map_nil, Act.eval, Array.getD_eq_getD_getElem?, Option.getD_some, e16]; done) | (simp only [List.map_toArray, List.map_cons, List.map_nil, Act.eval, Array.getD_eq_getD_getElem?, Option.getD_some, e16]; rfl)) ?_
      with_reducible refine (relstoreref_told.calls t r1 r2 r3 _ At.out).mono ?_
      rintro e w1 ⟨rfl, hb⟩
      refine ⟨_, rfl, ?_⟩
      refine hK.out _ _ ⟨g5, g6, g7, g8, gx, m0_, m1_, m2_, m3_, m6_, m7_, m10_, (by rw [ha.out]; exact putSel_upk 12 hb_ rfl rfl rfl), below_step HB.out hb, fun _ => blk_below KA.out hb, fun _ => blk_below KB.out hb, fun _ => blk_below KR.out hb, fun h0_ => absurd ((hoff 13 (by kernel_rfl)).symm.trans h0_) (by decide), fun _ _ => blk_below K5.out hb, fun _ _ => blk_below K6.out hb, fun _ _ => blk_below K7.out hb, fun _ _ => blk_below K8.out hb, fun _ _ => KX.out, Q_X0_, Q_X1_, Q_X2_, Q_X3_, Q_X6_, Q_X7_, Q_X10_⟩
    refine steps_cons ?_ ?_
    · rintro b a w' ⟨g5, g6, g7, g8, gx, m0_, m1_, m2_, m3_, m6_, m7_, m10_, ha, Q_HB, Q_KA, Q_KB, Q_KR, Q_KZ, Q_K5, Q_K6, Q_K7, Q_K8, Q_KX, Q_X0_, Q_X1_, Q_X2_, Q_X3_, Q_X6_, Q_X7_, Q_X10_⟩ hb_ hon hoff
      refine ⟨_, rfl, fun K hK => ?_⟩
      have e4 : a.tmps[4]? = some (.pointer (some ⟨gr, 0, none⟩)) := by rw [ha]; exact (putSel_off rfl).trans rfl
      have e17 : a.tmps[17]? = some ((.agg #[.int .i64 r1, .int .i64 r2, .string r3])) := by rw [ha]; exact putSel_on (e := (12, 17, (.agg #[.int .i64 r1, .int .i64 r2, .string r3]))) 12 rfl rfl (hon 12 (by kernel_rfl)) rfl
      replace ha := Aside0.mk ha
      have HB := Aside0.mk Q_HB
      have KA := Aside0.mk (Q_KA hb_)
      have KB := Aside0.mk (Q_KB hb_)
      have KR := Aside0.mk (Q_KR hb_)
      have K5 := Aside0.mk (Q_K5 (hon 0 (by kernel_rfl)) hb_)
      have K6 := Aside0.mk (Q_K6 (hon 1 (by kernel_rfl)) hb_)
      have K7 := Aside0.mk (Q_K7 (hon 2 (by kernel_rfl)) hb_)
      have K8 := Aside0.mk (Q_K8 (hon 3 (by kernel_rfl)) hb_)
      have KX := Aside0.mk (Q_KX (hon 7 (by kernel_rfl)) hb_)
      have c0_ := blk_cell KR.out 0
      have c1_ := blk_cell KR.out 1
      have c2_ := blk_cell KR.out 2
      have f0_ := blk_frozen KR.out 0
      have f1_ := blk_frozen KR.out 1
      have f2_ := blk_frozen KR.out 2
      simp at c0_ c1_ c2_
      refine skip_ (w1 := ((w'.setCell ⟨gr, 0, none⟩ (.int .i64 r1)).setCell ⟨gr, 1, none⟩ (.int .i64 r2)).setCell ⟨gr, 2, none⟩ (.string r3)) (by rfl) rfl ?_ ?_
      · go_simp
        try rfl
      refine hK.out _ _ ⟨g5, g6, g7, g8, gx, m0_, m1_, m2_, m3_, m6_, m7_, m10_, (by rw [ha.out]; exact putSel_none (v := undef) rfl), below_set (below_set (below_set HB.out GR.out) GR.out) GR.out, fun h0_ => absurd ((up_self b 13).symm.trans h0_) (by decide), fun h0_ => absurd ((up_self b 13).symm.trans h0_) (by decide), fun h0_ => absurd ((up_self b 13).symm.trans h0_) (by decide), fun _ => blk_put (blk_put (blk_put KR.out 0 _ rfl) 1 _ rfl) 2 _ rfl, fun _ h1_ => absurd ((up_self b 13).symm.trans h1_) (by decide), fun _ h1_ => absurd ((up_self b 13).symm.trans h1_) (by decide), fun _ h1_ => absurd ((up_self b 13).symm.trans h1_) (by decide), fun _ h1_ => absurd ((up_self b 13).symm.trans h1_) (by decide), fun _ h1_ => absurd ((up_self b 13).symm.trans h1_) (by decide), Q_X0_, Q_X1_, Q_X2_, Q_X3_, Q_X6_, Q_X7_, Q_X10_⟩
    exact steps_nil
  · rintro b a w' hall ⟨g5, g6, g7, g8, gx, m0_, m1_, m2_, m3_, m6_, m7_, m10_, ha, Q_HB, Q_KA, Q_KB, Q_KR, Q_KZ, Q_K5, Q_K6, Q_K7, Q_K8, Q_KX, Q_X0_, Q_X1_, Q_X2_, Q_X3_, Q_X6_, Q_X7_, Q_X10_⟩
    clear HB KA KB KR
    have hb0_ := hall 0 (by kernel_rfl)
    have hb1_ := hall 1 (by kernel_rfl)
    have hb2_ := hall 2 (by kernel_rfl)
    have hb3_ := hall 3 (by kernel_rfl)
    have hb4_ := hall 4 (by kernel_rfl)
    have hb5_ := hall 5 (by kernel_rfl)
    have hb6_ := hall 6 (by kernel_rfl)
    have hb7_ := hall 7 (by kernel_rfl)
    have hb8_ := hall 8 (by kernel_rfl)
    have hb9_ := hall 9 (by kernel_rfl)
    have hb10_ := hall 10 (by kernel_rfl)
    have hb11_ := hall 11 (by kernel_rfl)
    have hb12_ := hall 12 (by kernel_rfl)
    have hb13_ := hall 13 (by kernel_rfl)
    subst ha
    obtain rfl := Q_X0_ hb0_
    obtain rfl := Q_X1_ hb1_
    obtain rfl := Q_X2_ hb2_
    obtain rfl := Q_X3_ hb3_
    obtain rfl := Q_X6_ hb6_
    obtain rfl := Q_X7_ hb7_
    obtain rfl := Q_X10_ hb10_
    simp only [putSel, hb0_, hb1_, hb2_, hb3_, hb4_, hb5_, hb6_, hb7_, hb8_, hb9_, hb10_, hb11_, hb12_, hb13_, if_true, Act.put, List.setIfInBounds_toArray, List.set_cons_zero, List.set_cons_succ]
    have HB := Aside0.mk Q_HB
    clear Q_HB
    clear Q_KA
    clear Q_KB
    clear Q_KR
    have KZ := Aside0.mk (Q_KZ hb13_)
    clear Q_KZ
    clear Q_K5
    clear Q_K6
    clear Q_K7
    clear Q_K8
    clear Q_KX
    clear hall hb0_ hb1_ hb2_ hb3_ hb4_ hb5_ hb6_ hb7_ hb8_ hb9_ hb10_ hb11_ hb12_ hb13_
    try go_wp2
    refine bodyPost_ret (results_cell_row rfl _ _ gr 29 #[.int .i64 r1, .int .i64 r2, .string r3] (0, 0) _ rfl (by (with_reducible repeat (first | refine blk_drewN ?_ _ | refine blk_drew ?_ | refine blk_alloc ?_ _)); exact KZ.out) Try.underlying29 rfl (by kernel_rfl)) rfl ?_
    exact ⟨rfl, HB.out⟩

/-! ### relstoreref_Not: function 51 -/
def relstoreref_Not.f (a0_0 : Int) (a0_1 : Int) (a0_2 : ByteArray) : Option (Int × Int × ByteArray) := (some (([1, 0, 2] : List Int) : List Int)).bind fun y288 => ((relstoreref_three.f a0_0 a0_1 a0_2).bind fun t291 => (if 0 ≤ t291 then (if t291 < (y288.length : Int) then ((relstoreref_told.f (rd y288 t291)).bind fun bt293 => (some (bt293.1, bt293.2.1, bt293.2.2))) else (none)) else (none)))
set_option maxHeartbeats 8000000 in
set_option maxRecDepth 100000 in
theorem relstoreref_Not.calls (a0_0 : Int) (a0_1 : Int) (a0_2 : ByteArray) (r1 : Int) (r2 : Int) (r3 : ByteArray) (w : World) (h : relstoreref_Not.f a0_0 a0_1 a0_2 = some (r1, r2, r3)) :
    Calls Try.prog 51 #[.agg #[.int .i64 a0_0, .int .i64 a0_1, .string a0_2]] w fun e w' => e = .returned (.agg #[.int .i64 r1, .int .i64 r2, .string r3]) ∧ Below w.heap.size w w' := by
  have hu29 := Try.underlying29
  have HB := Aside0.mk (Below.refl w.heap.size w)
  have H : ((some (([1, 0, 2] : List Int) : List Int)).bind fun y288 => ((relstoreref_three.f a0_0 a0_1 a0_2).bind fun t291 => (if 0 ≤ t291 then (if t291 < (y288.length : Int) then ((relstoreref_told.f (rd y288 t291)).bind fun bt293 => (some (bt293.1, bt293.2.1, bt293.2.2))) else (none)) else (none)))) = some (r1, r2, r3) := h
  clear h
  obtain ⟨y288, hy288⟩ : ∃ y_ : List Int, y_ = (([1, 0, 2] : List Int)) := ⟨_, rfl⟩
  replace H : ((relstoreref_three.f a0_0 a0_1 a0_2).bind fun t291 => (if 0 ≤ t291 then (if t291 < (y288.length : Int) then ((relstoreref_told.f (rd y288 t291)).bind fun bt293 => (some (bt293.1, bt293.2.1, bt293.2.2))) else (none)) else (none))) = some (r1, r2, r3) := by first | (rw [hy288]; with_reducible exact H) | (have H2_ := (Option.bind_some _ _).symm.trans H; rw [hy288]; with_reducible exact H2_) | (have H2_ := (Option.bind_some _ _).symm.trans H; with_reducible exact H2_) | with_reducible exact H | (rw [hy288]; exact H) | exact H
  have Ny288 := Aside0.mk hy288
  clear hy288
  replace H := Option.bind_eq_some_iff.mp H
  obtain ⟨t291, A20, H⟩ := H
  replace H : (if 0 ≤ t291 then (if t291 < (y288.length : Int) then ((relstoreref_told.f (rd y288 t291)).bind fun bt293 => (some (bt293.1, bt293.2.1, bt293.2.2))) else (none)) else (none)) = some (r1, r2, r3) := H
  have A2 := Aside0.mk A20
  clear A20
  by_cases c3 : 0 ≤ t291
  · rw [if_pos c3] at H
    have c3b0 : decide (0 ≤ t291) = true := decide_eq_true c3
    clear c3
    by_cases c4 : t291 < (y288.length : Int)
    · rw [if_pos c4] at H
      have c4b0 : decide (t291 < (y288.length : Int)) = true := decide_eq_true c4
      clear c4
      replace H := Option.bind_eq_some_iff.mp H
      obtain ⟨⟨t293, t294, t295⟩, A50, H⟩ := H
      replace H : (some (t293, t294, t295)) = some (r1, r2, r3) := H
      have A5 := Aside0.mk A50
      clear A50
      simp only [Option.some.injEq, Prod.mk.injEq] at H
      obtain ⟨rfl, rfl, rfl⟩ := H
      go_enter Try.func51, Try.ntmps51
      go_wp2_with (first | ((with_reducible refine gate_dst (N := 1) rfl ?_); refine box_event ?hg (N := 1) ?hd (cs := #[.int .i64 a0_0, .int .i64 a0_1, .string a0_2]) (t := 29) ?hr ?_; (case hd => rfl); (case hg => rfl); (case hr => first | (go_simp; done) | (go_simp; rfl)); intro gb286 hg w6 hbox hb; have n0_ := Aside0.mk (below_step (by repeat (first | (with_reducible first | exact HB.out | apply below_alloc | apply pw_below_drewN | apply below_drew1) | exact HB.out)) hb); have n1_ := Aside0.mk (hbox); have n2_ := Aside0.mk ((by rw [hg]; exact (below_size (by repeat (first | (with_reducible first | exact HB.out | apply below_alloc | apply pw_below_drewN | apply below_drew1) | exact HB.out))) : w.heap.size ≤ gb286)); have n3_ := Aside0.mk ((by rw [hg]; exact (below_size (by repeat (first | (with_reducible first | exact HB.out | apply below_alloc | apply pw_below_drewN | apply below_drew1) | exact HB.out))) : w.heap.size ≤ gb286)); clear HB; have HB := n0_; have BK286 := n1_; have GW286 := n2_; have GE286 := n3_; clear n0_ n1_ n2_ n3_; clear hb hbox hg) | ((with_reducible refine gate_dst (N := 2) rfl ?_); refine box_event ?hg (N := 2) ?hd (cs := #[.int .i64 0, .int .i64 0, .string (⟨#[]⟩ : ByteArray)]) (t := 29) ?hr ?_; (case hd => rfl); (case hg => rfl); (case hr => first | (go_simp; done) | (go_simp; rfl)); intro gb287 hg w7 hbox hb; have n0_ := Aside0.mk (blk_below (g := gb286) (o := .cells #[.int .i64 a0_0, .int .i64 a0_1, .string a0_2] 29 (0, 0)) (by (with_reducible repeat (first | refine blk_drewN ?_ _ | refine blk_drew ?_ | refine blk_alloc ?_ _)); exact BK286.out) hb); have n1_ := Aside0.mk (below_step (by repeat (first | (with_reducible first | exact HB.out | apply below_alloc | apply pw_below_drewN | apply below_drew1 | refine below_set ?_ GE286.out) | exact HB.out)) hb); have n2_ := Aside0.mk (hbox); have n3_ := Aside0.mk ((by rw [hg]; exact (below_size (by repeat (first | (with_reducible first | exact HB.out | apply below_alloc | apply pw_below_drewN | apply below_drew1 | refine below_set ?_ GE286.out) | exact HB.out))) : w.heap.size ≤ gb287)); have n4_ := Aside0.mk ((by rw [hg]; exact (below_size (by repeat (first | (with_reducible first | exact HB.out | apply below_alloc | apply pw_below_drewN | apply below_drew1 | refine below_set ?_ GE286.out) | exact HB.out))) : w.heap.size ≤ gb287)); have n5_ := Aside0.mk ((by rw [hg]; exact Nat.ne_of_lt (blk_lt (g := gb286) (o := .cells #[.int .i64 a0_0, .int .i64 a0_1, .string a0_2] 29 (0, 0)) (by (with_reducible repeat (first | refine blk_drewN ?_ _ | refine blk_drew ?_ | refine blk_alloc ?_ _)); exact BK286.out)) : gb286 ≠ gb287)); have n6_ := Aside0.mk ((by rw [hg]; exact Nat.ne_of_gt (blk_lt (g := gb286) (o := .cells #[.int .i64 a0_0, .int .i64 a0_1, .string a0_2] 29 (0, 0)) (by (with_reducible repeat (first | refine blk_drewN ?_ _ | refine blk_drew ?_ | refine blk_alloc ?_ _)); exact BK286.out)) : gb287 ≠ gb286)); clear BK286; clear HB; have BK286 := n0_; have HB := n1_; have BK287 := n2_; have GW287 := n3_; have GE287 := n4_; have NB286_287 := n5_; have NB287_286 := n6_; clear n0_ n1_ n2_ n3_ n4_ n5_ n6_; clear hb hbox hg) | ((with_reducible refine gate_dst (N := 3) rfl ?_); refine Kd.R_lit (Kd.int .i64) _ 3 ?hg (N := 3) ?hd (xs := ([1, 0, 2] : List Int)) (inner := [.int .i64 1, .int .i64 0, .int .i64 2]) (ok := fun _ => True) (okp := fun _ => True) ?hr ?hp (fun _ hk => hk) trivial (Below.refl _ _) (Nat.le_refl _) (by simp) ?_; (case hd => rfl); (case hg => rfl); (case hr => first | (go_simp; done) | (go_simp; rfl)); (case hp => exact (Reps.one (show Kd.M (Kd.int .i64) _ _ _ 1 [.int .i64 1] from rfl) (Reps.one (show Kd.M (Kd.int .i64) _ _ _ 0 [.int .i64 0] from rfl) (Reps.one (show Kd.M (Kd.int .i64) _ _ _ 2 [.int .i64 2] from rfl) (Reps.none _ _))))); intro v289 w8 ho9 hb hg_ hnew_; clear hg_ hnew_; (first | rw [← Ny288.out] at ho9 | (simp only [Int.reduceToNat] at ho9; rw [← Ny288.out] at ho9)); have n0_ := Aside0.mk (Kd.R_lower ho9 (below_size (by repeat (first | (with_reducible first | exact HB.out | apply below_alloc | apply pw_below_drewN | apply below_drew1 | refine below_set ?_ GE286.out | refine below_set ?_ GE287.out) | exact HB.out)))); have n1_ := Aside0.mk (blk_below (g := gb286) (o := .cells #[.int .i64 a0_0, .int .i64 a0_1, .string a0_2] 29 (0, 0)) (by (with_reducible repeat (first | refine blk_drewN ?_ _ | refine blk_drew ?_ | refine blk_alloc ?_ _)); exact BK286.out) hb); have n2_ := Aside0.mk (blk_below (g := gb287) (o := .cells #[.int .i64 0, .int .i64 0, .string (⟨#[]⟩ : ByteArray)] 29 (0, 0)) (by (with_reducible repeat (first | refine blk_drewN ?_ _ | refine blk_drew ?_ | refine blk_alloc ?_ _)); exact BK287.out) hb); have n3_ := Aside0.mk (below_step (by repeat (first | (with_reducible first | exact HB.out | apply below_alloc | apply pw_below_drewN | apply below_drew1 | refine below_set ?_ GE286.out | refine below_set ?_ GE287.out) | exact HB.out)) hb); clear BK286; clear BK287; clear HB; have HO290 := n0_; have BK286 := n1_; have BK287 := n2_; have HB := n3_; clear n0_ n1_ n2_ n3_; clear hb ho9; have hnb10 := NB286_287.out; have hnc10 := NB287_286.out; have hcz11_0 : w8.cell? ⟨gb286, 0, none⟩ = some (.int .i64 a0_0) := (blk_cell BK286.out 0).trans rfl; have hcz11_1 : w8.cell? ⟨gb286, 1, none⟩ = some (.int .i64 a0_1) := (blk_cell BK286.out 1).trans rfl; have hcz11_2 : w8.cell? ⟨gb286, 2, none⟩ = some (.string a0_2) := (blk_cell BK286.out 2).trans rfl; have hfz11_0 := blk_frozen BK286.out 0; have hfz11_1 := blk_frozen BK286.out 1; have hfz11_2 := blk_frozen BK286.out 2) | ((with_reducible refine gate_callee (f := 118) rfl ?_); refine goesL_ (some 5) rfl rfl Try.func118 (by kernel_rfl) rfl #[.agg #[.int .i64 a0_0, .int .i64 a0_1, .string a0_2]] rfl (by (try simp only [List.map_toArray, List.map_cons, List.map_nil]); first | done | rfl | (simp only [List.length_drop, List.length_take]; rfl) | (simp only [Int.ofNat_lt, Int.ofNat_le]; done) | (simp only [Int.ofNat_lt, Int.ofNat_le]; rfl)) ?_; (with_reducible refine (relstoreref_three.calls a0_0 a0_1 a0_2 t291 _ A2.out).mono ?_); rintro e w12 ⟨rfl, hb⟩; refine ⟨_, rfl, ?_⟩; have n0_ := Aside0.mk (Kd.R_below (by (with_reducible repeat (first | apply Kd.R_alloc | apply Kd.R_drewN | apply Kd.R_drew)); exact HO290.out) hb); have n1_ := Aside0.mk (blk_below (g := gb286) (o := .cells #[.int .i64 a0_0, .int .i64 a0_1, .string a0_2] 29 (0, 0)) (by (with_reducible repeat (first | refine blk_drewN ?_ _ | refine blk_drew ?_ | refine blk_alloc ?_ _)); exact BK286.out) hb); have n2_ := Aside0.mk (blk_below (g := gb287) (o := .cells #[.int .i64 0, .int .i64 0, .string (⟨#[]⟩ : ByteArray)] 29 (0, 0)) (by (with_reducible repeat (first | refine blk_drewN ?_ _ | refine blk_drew ?_ | refine blk_alloc ?_ _)); exact BK287.out) hb); have n3_ := Aside0.mk (below_step (by repeat (first | (with_reducible first | exact HB.out | apply below_alloc | apply pw_below_drewN | apply below_drew1 | refine below_set ?_ GE286.out | refine below_set ?_ GE287.out) | exact HB.out)) hb); clear HO290; clear BK286; clear BK287; clear HB; have HO290 := n0_; have BK286 := n1_; have BK287 := n2_; have HB := n3_; clear n0_ n1_ n2_ n3_; (try clear hb); (try clear hb2); (try clear hk); (try clear hi); obtain ⟨Ao13, co13, eo13⟩ := Kd.R_slice HO290.out; subst eo13; have p292 : 0 ≤ (t291 : Int) := of_decide_eq_true (by first | (with_reducible assumption) | assumption); have q292 : t291 < (y288.length : Int) := of_decide_eq_true (by first | (with_reducible assumption) | assumption); obtain ⟨ad292, e292, hx292_0⟩ := Kd.at_int (Kd.R_reads' HO290.out).2.2 t291 p292 q292; cases e292; replace p292 := eq_true p292; replace q292 := eq_true q292) | ((with_reducible refine gate_callee (f := 117) rfl ?_); refine goesL_ (some 8) rfl rfl Try.func117 (by kernel_rfl) rfl #[.int .i64 (rd y288 t291)] rfl (by (try simp only [List.map_toArray, List.map_cons, List.map_nil]); first | done | rfl | (simp only [List.length_drop, List.length_take]; rfl) | (simp only [Int.ofNat_lt, Int.ofNat_le]; done) | (simp only [Int.ofNat_lt, Int.ofNat_le]; rfl)) ?_; (with_reducible refine (relstoreref_told.calls (rd y288 t291) t293 t294 t295 _ A5.out).mono ?_); rintro e w14 ⟨rfl, hb⟩; refine ⟨_, rfl, ?_⟩; have n0_ := Aside0.mk (Kd.R_below (by (with_reducible repeat (first | apply Kd.R_alloc | apply Kd.R_drewN | apply Kd.R_drew)); exact HO290.out) hb); have n1_ := Aside0.mk (blk_below (g := gb286) (o := .cells #[.int .i64 a0_0, .int .i64 a0_1, .string a0_2] 29 (0, 0)) (by (with_reducible repeat (first | refine blk_drewN ?_ _ | refine blk_drew ?_ | refine blk_alloc ?_ _)); exact BK286.out) hb); have n2_ := Aside0.mk (blk_below (g := gb287) (o := .cells #[.int .i64 0, .int .i64 0, .string (⟨#[]⟩ : ByteArray)] 29 (0, 0)) (by (with_reducible repeat (first | refine blk_drewN ?_ _ | refine blk_drew ?_ | refine blk_alloc ?_ _)); exact BK287.out) hb); have n3_ := Aside0.mk (below_step (by repeat (first | (with_reducible first | exact HB.out | apply below_alloc | apply pw_below_drewN | apply below_drew1 | refine below_set ?_ GE286.out | refine below_set ?_ GE287.out) | exact HB.out)) hb); clear HO290; clear BK286; clear BK287; clear HB; have HO290 := n0_; have BK286 := n1_; have BK287 := n2_; have HB := n3_; clear n0_ n1_ n2_ n3_; (try clear hb); (try clear hb2); (try clear hk); (try clear hi); have hcz15_0 : w14.cell? ⟨gb287, 0, none⟩ = some (.int .i64 0) := (blk_cell BK287.out 0).trans rfl; have hcz15_1 : w14.cell? ⟨gb287, 1, none⟩ = some (.int .i64 0) := (blk_cell BK287.out 1).trans rfl; have hcz15_2 : w14.cell? ⟨gb287, 2, none⟩ = some (.string (⟨#[]⟩ : ByteArray)) := (blk_cell BK287.out 2).trans rfl; have hfz15_0 := blk_frozen BK287.out 0; have hfz15_1 := blk_frozen BK287.out 1; have hfz15_2 := blk_frozen BK287.out 2))
      refine bodyPost_ret (results_cell_row rfl _ _ gb287 29 #[.int .i64 t293, .int .i64 t294, .string t295] (0, 0) _ rfl (by (with_reducible repeat (first | refine blk_drewN ?_ _ | refine blk_drew ?_ | refine blk_alloc ?_ _)); refine blk_put (cs := #[.int .i64 t293, .int .i64 t294, .string (⟨#[]⟩ : ByteArray)]) ?_ 2 _ rfl; (with_reducible repeat (first | refine blk_drewN ?_ _ | refine blk_drew ?_ | refine blk_alloc ?_ _)); refine blk_put (cs := #[.int .i64 t293, .int .i64 0, .string (⟨#[]⟩ : ByteArray)]) ?_ 1 _ rfl; (with_reducible repeat (first | refine blk_drewN ?_ _ | refine blk_drew ?_ | refine blk_alloc ?_ _)); refine blk_put (cs := #[.int .i64 0, .int .i64 0, .string (⟨#[]⟩ : ByteArray)]) ?_ 0 _ rfl; (with_reducible repeat (first | refine blk_drewN ?_ _ | refine blk_drew ?_ | refine blk_alloc ?_ _)); exact BK287.out) Try.underlying29 rfl (by kernel_rfl)) rfl ?_
      exact ⟨by first | rfl | (simp [errW_none, errW_some] <;> rfl) | (simp [*, errW_none, errW_some] <;> rfl), by repeat (first | (with_reducible first | exact HB.out | apply below_alloc | apply pw_below_drewN | apply below_drew1 | refine below_set ?_ GE286.out | refine below_set ?_ GE287.out) | exact HB.out)⟩
    · rw [if_neg c4] at H
      exact absurd H (by simp)
  · rw [if_neg c3] at H
    exact absurd H (by simp)

end Go.Proofs.Ythaoaaboempajaa.QValueTests
