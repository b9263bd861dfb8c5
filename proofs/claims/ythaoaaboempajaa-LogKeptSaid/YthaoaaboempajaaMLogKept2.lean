/- Lines of the texts that the claim LogKept rests on, bundled: part 2; no conditions but those that each row names. -/
import Derived.Test.YthaoaaboempajaaMLogKept1
import Derived.Lib.Bytes
import Derived.Lib.Bytealg
import Derived.Lib.IndexBytes
import Derived.Maps.OwnSet
import Derived.Maps.RangeWalk
import Derived.Maps.Ext
namespace Go.Proofs.Ythaoaaboempajaa.QLogRuns
open Go.RowKit Go.Proofs.YthaoaaboempajaaW.PrintWords Go.Proofs.YthaoaaboempajaaW.PrintLast Go.Proofs.YthaoaaboempajaaW.PrintMore Go.Proofs.YthaoaaboempajaaX Go.Proofs.Ythaoaaboempajaa.QDiskRuns
attribute [local go_sem] max2_int min2_int max_two min_two max_three min_three max_four min_four   -- for this text's walks alone
set_option linter.unusedVariables false
set_option linter.unusedSimpArgs false
def wal_number.f (a0 : ByteArray) : Option (Int) := if 0 < (a0.size : Int) then (if 1 < (a0.size : Int) then (if 2 < (a0.size : Int) then (if 3 < (a0.size : Int) then (some (Go.bits .or .i64 (Go.bits .or .i64 (Go.bits .or .i64 (wrap64 ((wrap64 (bt a0 0)) * 16777216)) (wrap64 ((wrap64 (bt a0 1)) * 65536))) (wrap64 ((wrap64 (bt a0 2)) * 256))) (wrap64 (bt a0 3)))) else (none)) else (none)) else (none)) else (none)
set_option maxHeartbeats 8000000 in
set_option maxRecDepth 100000 in
theorem wal_number.calls (a0 : ByteArray) (r : Int) (w : World) (h : wal_number.f a0 = some r) :
    Calls Try.prog 139 #[.string a0] w fun e w' => e = .returned (.int .i64 r) ∧ Drawn0 w w' := by
  have H : (if 0 < (a0.size : Int) then (if 1 < (a0.size : Int) then (if 2 < (a0.size : Int) then (if 3 < (a0.size : Int) then (some (Go.bits .or .i64 (Go.bits .or .i64 (Go.bits .or .i64 (wrap64 ((wrap64 (bt a0 0)) * 16777216)) (wrap64 ((wrap64 (bt a0 1)) * 65536))) (wrap64 ((wrap64 (bt a0 2)) * 256))) (wrap64 (bt a0 3)))) else (none)) else (none)) else (none)) else (none)) = some r := h
  clear h
  by_cases c2 : 0 < (a0.size : Int)
  · rw [if_pos c2] at H
    have c2b0 : decide (0 < (a0.size : Int)) = true := decide_eq_true c2
    have c2b1 : decide (0 < a0.size) = true := decide_eq_true (by omega)
    clear c2
    by_cases c4 : 1 < (a0.size : Int)
    · rw [if_pos c4] at H
      have c4b0 : decide (1 < (a0.size : Int)) = true := decide_eq_true c4
      have c4b1 : decide (1 < a0.size) = true := decide_eq_true (by omega)
      clear c4
      by_cases c6 : 2 < (a0.size : Int)
      · rw [if_pos c6] at H
        have c6b0 : decide (2 < (a0.size : Int)) = true := decide_eq_true c6
        have c6b1 : decide (2 < a0.size) = true := decide_eq_true (by omega)
        clear c6
        by_cases c8 : 3 < (a0.size : Int)
        · rw [if_pos c8] at H
          have c8b0 : decide (3 < (a0.size : Int)) = true := decide_eq_true c8
          have c8b1 : decide (3 < a0.size) = true := decide_eq_true (by omega)
          clear c8
          obtain rfl := Option.some.inj H
          have p3 : 0 ≤ (0 : Int) := (by omega)
          have q3 : 0 < a0.size := (by have : (0 : Int) < (a0.size : Int) := of_decide_eq_true (by first | (with_reducible assumption) | assumption); omega)
          have hx3 : ∀ h : 0 < a0.size, ((a0[0]'h).toNat : Int) = bt a0 0 := bt_at a0 0
          clear p3
          have qi3 : (0 < (a0.size : Int)) = True := eq_true (of_decide_eq_true (by first | (with_reducible assumption) | assumption))
          replace q3 := eq_true q3
          have p5 : 0 ≤ (1 : Int) := (by omega)
          have q5 : 1 < a0.size := (by have : (1 : Int) < (a0.size : Int) := of_decide_eq_true (by first | (with_reducible assumption) | assumption); omega)
          have hx5 : ∀ h : 1 < a0.size, ((a0[1]'h).toNat : Int) = bt a0 1 := bt_at a0 1
          clear p5
          have qi5 : (1 < (a0.size : Int)) = True := eq_true (of_decide_eq_true (by first | (with_reducible assumption) | assumption))
          replace q5 := eq_true q5
          have p7 : 0 ≤ (2 : Int) := (by omega)
          have q7 : 2 < a0.size := (by have : (2 : Int) < (a0.size : Int) := of_decide_eq_true (by first | (with_reducible assumption) | assumption); omega)
          have hx7 : ∀ h : 2 < a0.size, ((a0[2]'h).toNat : Int) = bt a0 2 := bt_at a0 2
          clear p7
          have qi7 : (2 < (a0.size : Int)) = True := eq_true (of_decide_eq_true (by first | (with_reducible assumption) | assumption))
          replace q7 := eq_true q7
          have p9 : 0 ≤ (3 : Int) := (by omega)
          have q9 : 3 < a0.size := (by have : (3 : Int) < (a0.size : Int) := of_decide_eq_true (by first | (with_reducible assumption) | assumption); omega)
          have hx9 : ∀ h : 3 < a0.size, ((a0[3]'h).toNat : Int) = bt a0 3 := bt_at a0 3
          clear p9
          have qi9 : (3 < (a0.size : Int)) = True := eq_true (of_decide_eq_true (by first | (with_reducible assumption) | assumption))
          replace q9 := eq_true q9
          go_enter Try.func139, Try.ntmps139
          go_wp2
          repeat (go_quiet (fail); try go_wp2)
          go_ret
          exact ⟨by first | rfl | (simp; done) | (simp [*]; done) | exact bq1 _ _ | exact bq2 _ _ | exact congrArg Value.bool (bq2 _ _) | exact congrArg Value.bool (bq1 _ _) | exact congrArg Value.bool (bq1' _ _) | exact bq1' _ _ | exact congrArg Value.bool (bq2' _ _) | exact bq2' _ _, by repeat (first | exact Drawn0.refl _ | apply Drawn0.step)⟩
        · rw [if_neg c8] at H
          exact absurd H (by simp)
      · rw [if_neg c6] at H
        exact absurd H (by simp)
    · rw [if_neg c4] at H
      exact absurd H (by simp)
  · rw [if_neg c2] at H
    exact absurd H (by simp)
def wal_four.f (a0 : Int) : Option (ByteArray) := some (strOfNums (([(a0 / 16777216) % 256, (a0 / 65536) % 256, (a0 / 256) % 256, (a0) % 256] : List Int)))
set_option maxHeartbeats 8000000 in
set_option maxRecDepth 100000 in
theorem wal_four.calls (a0 : Int) (r : ByteArray) (w : World) (h : wal_four.f a0 = some r) :
    Calls Try.prog 141 #[.int .i64 a0] w fun e w' => e = .returned (.string r) ∧ Below w.heap.size w w' := by
  have HB := Aside0.mk (Below.refl w.heap.size w)
  have H : (some (strOfNums (([(a0 / 16777216) % 256, (a0 / 65536) % 256, (a0 / 256) % 256, (a0) % 256] : List Int)))) = some r := h
  clear h
  obtain ⟨y112, hy112⟩ : ∃ y_ : List Int, y_ = (([(a0 / 16777216) % 256, (a0 / 65536) % 256, (a0 / 256) % 256, (a0) % 256] : List Int)) := ⟨_, rfl⟩
  replace H : (some (strOfNums y112)) = some r := by first | (rw [hy112]; with_reducible exact H) | (have H2_ := (Option.bind_some _ _).symm.trans H; rw [hy112]; with_reducible exact H2_) | (have H2_ := (Option.bind_some _ _).symm.trans H; with_reducible exact H2_) | with_reducible exact H | (rw [hy112]; exact H) | exact H
  have Ny112 := Aside0.mk hy112
  clear hy112
  obtain rfl := Option.some.inj H
  go_enter Try.func141, Try.ntmps141
  go_wp2_with (first | ((with_reducible refine gate_dst (N := 14) rfl ?_); refine Kd.R_lit (Kd.int .u8) _ 5 ?hg (N := 14) ?hd (xs := ([(a0 / 16777216) % 256, (a0 / 65536) % 256, (a0 / 256) % 256, (a0) % 256] : List Int)) (inner := [.int .u8 ((a0 / 16777216) % 256), .int .u8 ((a0 / 65536) % 256), .int .u8 ((a0 / 256) % 256), .int .u8 ((a0) % 256)]) (ok := fun _ => True) (okp := fun _ => True) ?hr ?hp (fun _ hk => hk) trivial (Below.refl _ _) (Nat.le_refl _) (by simp) ?_; (case hd => rfl); (case hg => rfl); (case hr => first | (go_simp; done) | (go_simp; rfl)); (case hp => exact (Reps.one (show Kd.M (Kd.int .u8) _ _ _ ((a0 / 16777216) % 256) [.int .u8 ((a0 / 16777216) % 256)] from rfl) (Reps.one (show Kd.M (Kd.int .u8) _ _ _ ((a0 / 65536) % 256) [.int .u8 ((a0 / 65536) % 256)] from rfl) (Reps.one (show Kd.M (Kd.int .u8) _ _ _ ((a0 / 256) % 256) [.int .u8 ((a0 / 256) % 256)] from rfl) (Reps.one (show Kd.M (Kd.int .u8) _ _ _ ((a0) % 256) [.int .u8 ((a0) % 256)] from rfl) (Reps.none _ _)))))); intro v113 w2 ho3 hb hg_ hnew_; clear hg_ hnew_; (first | rw [← Ny112.out] at ho3 | (simp only [Int.reduceToNat] at ho3; rw [← Ny112.out] at ho3)); have n0_ := Aside0.mk (Kd.R_lower ho3 (below_size (by repeat (first | (with_reducible first | exact HB.out | apply below_alloc | apply pw_below_drewN | apply below_drew1) | exact HB.out)))); have n1_ := Aside0.mk (below_step (by repeat (first | (with_reducible first | exact HB.out | apply below_alloc | apply pw_below_drewN | apply below_drew1) | exact HB.out)) hb); clear HB; have HO114 := n0_; have HB := n1_; clear n0_ n1_; clear hb ho3; have hcv4 := own_string (P := Try.prog) Try.underlying55 Try.underlying5 Try.underlying9 (Kd.own_of_R HO114.out)))
  go_ret
  exact ⟨by first | rfl | (simp [errW_none, errW_some] <;> rfl) | (simp [*, errW_none, errW_some] <;> rfl), by repeat (first | (with_reducible first | exact HB.out | apply below_alloc | apply pw_below_drewN | apply below_drew1) | exact HB.out)⟩
def wal_slotText.f (a0 : Int) (a1 : Int) (a2 : Int) : Option (ByteArray) := (wal_four.f a0).bind fun t115 => ((wal_four.f a1).bind fun t116 => (if t115.size + t116.size ≤ 9223372036854775807 then ((wal_four.f a2).bind fun t117 => (if (t115 ++ t116).size + t117.size ≤ 9223372036854775807 then (if ((t115 ++ t116) ++ t117).size + ((t115 ++ t116) ++ t117).size ≤ 9223372036854775807 then (some (((t115 ++ t116) ++ t117) ++ ((t115 ++ t116) ++ t117))) else (none)) else (none))) else (none)))
set_option maxHeartbeats 8000000 in
set_option maxRecDepth 100000 in
theorem wal_slotText.calls (a0 : Int) (a1 : Int) (a2 : Int) (r : ByteArray) (w : World) (h : wal_slotText.f a0 a1 a2 = some r) :
    Calls Try.prog 174 #[.int .i64 a0, .int .i64 a1, .int .i64 a2] w fun e w' => e = .returned (.string r) ∧ Below w.heap.size w w' := by
  have HB := Aside0.mk (Below.refl w.heap.size w)
  have H : ((wal_four.f a0).bind fun t115 => ((wal_four.f a1).bind fun t116 => (if t115.size + t116.size ≤ 9223372036854775807 then ((wal_four.f a2).bind fun t117 => (if (t115 ++ t116).size + t117.size ≤ 9223372036854775807 then (if ((t115 ++ t116) ++ t117).size + ((t115 ++ t116) ++ t117).size ≤ 9223372036854775807 then (some (((t115 ++ t116) ++ t117) ++ ((t115 ++ t116) ++ t117))) else (none)) else (none))) else (none)))) = some r := h
  clear h
  replace H := Option.bind_eq_some_iff.mp H
  obtain ⟨t115, A40, H⟩ := H
  replace H : ((wal_four.f a1).bind fun t116 => (if t115.size + t116.size ≤ 9223372036854775807 then ((wal_four.f a2).bind fun t117 => (if (t115 ++ t116).size + t117.size ≤ 9223372036854775807 then (if ((t115 ++ t116) ++ t117).size + ((t115 ++ t116) ++ t117).size ≤ 9223372036854775807 then (some (((t115 ++ t116) ++ t117) ++ ((t115 ++ t116) ++ t117))) else (none)) else (none))) else (none))) = some r := H
  have A4 := Aside0.mk A40
  clear A40
  replace H := Option.bind_eq_some_iff.mp H
  obtain ⟨t116, A50, H⟩ := H
  replace H : (if t115.size + t116.size ≤ 9223372036854775807 then ((wal_four.f a2).bind fun t117 => (if (t115 ++ t116).size + t117.size ≤ 9223372036854775807 then (if ((t115 ++ t116) ++ t117).size + ((t115 ++ t116) ++ t117).size ≤ 9223372036854775807 then (some (((t115 ++ t116) ++ t117) ++ ((t115 ++ t116) ++ t117))) else (none)) else (none))) else (none)) = some r := H
  have A5 := Aside0.mk A50
  clear A50
  by_cases c6 : t115.size + t116.size ≤ 9223372036854775807
  · rw [if_pos c6] at H
    have c6b0 := eq_true c6
    have c6b1 : decide (t115.size + t116.size ≤ 9223372036854775807) = true := decide_eq_true c6
    try have c6b2 : (9223372036854775807 < t115.size + t116.size) = False := eq_false (Nat.not_lt.2 c6)
    try (have c6b3 := c6b2; simp only [ByteArray.size_append] at c6b3)
    replace H := Option.bind_eq_some_iff.mp H
    obtain ⟨t117, A70, H⟩ := H
    replace H : (if (t115 ++ t116).size + t117.size ≤ 9223372036854775807 then (if ((t115 ++ t116) ++ t117).size + ((t115 ++ t116) ++ t117).size ≤ 9223372036854775807 then (some (((t115 ++ t116) ++ t117) ++ ((t115 ++ t116) ++ t117))) else (none)) else (none)) = some r := H
    have A7 := Aside0.mk A70
    clear A70
    by_cases c8 : (t115 ++ t116).size + t117.size ≤ 9223372036854775807
    · rw [if_pos c8] at H
      have c8b0 := eq_true c8
      have c8b1 : decide ((t115 ++ t116).size + t117.size ≤ 9223372036854775807) = true := decide_eq_true c8
      try have c8b2 : (9223372036854775807 < (t115 ++ t116).size + t117.size) = False := eq_false (Nat.not_lt.2 c8)
      try (have c8b3 := c8b2; simp only [ByteArray.size_append] at c8b3)
      by_cases c9 : ((t115 ++ t116) ++ t117).size + ((t115 ++ t116) ++ t117).size ≤ 9223372036854775807
      · rw [if_pos c9] at H
        have c9b0 := eq_true c9
        have c9b1 : decide (((t115 ++ t116) ++ t117).size + ((t115 ++ t116) ++ t117).size ≤ 9223372036854775807) = true := decide_eq_true c9
        try have c9b2 : (9223372036854775807 < ((t115 ++ t116) ++ t117).size + ((t115 ++ t116) ++ t117).size) = False := eq_false (Nat.not_lt.2 c9)
        try (have c9b3 := c9b2; simp only [ByteArray.size_append] at c9b3)
        obtain rfl := Option.some.inj H
        go_enter Try.func174, Try.ntmps174
        go_wp2_with (first | ((with_reducible refine gate_callee (f := 141) rfl ?_); refine goesL_ (some 9) rfl rfl Try.func141 (by kernel_rfl) rfl #[.int .i64 a0] rfl (by (try simp only [List.map_toArray, List.map_cons, List.map_nil]); first | done | rfl | (simp only [List.length_drop, List.length_take]; rfl) | (simp only [Int.ofNat_lt, Int.ofNat_le]; done) | (simp only [Int.ofNat_lt, Int.ofNat_le]; rfl) | (simp only [ByteArray.size_append, Int.natCast_add]; rfl)) ?_; (with_reducible refine (wal_four.calls a0 t115 _ A4.out).mono ?_); rintro e w10 ⟨rfl, hb⟩; refine ⟨_, rfl, ?_⟩; have n0_ := Aside0.mk (below_step (by repeat (first | (with_reducible first | exact HB.out | apply below_alloc | apply pw_below_drewN | apply below_drew1) | exact HB.out)) hb); clear HB; have HB := n0_; clear n0_; (try clear hb); (try clear hb2); (try clear hk); (try clear hi)) | ((with_reducible refine gate_callee (f := 141) rfl ?_); refine goesL_ (some 11) rfl rfl Try.func141 (by kernel_rfl) rfl #[.int .i64 a1] rfl (by (try simp only [List.map_toArray, List.map_cons, List.map_nil]); first | done | rfl | (simp only [List.length_drop, List.length_take]; rfl) | (simp only [Int.ofNat_lt, Int.ofNat_le]; done) | (simp only [Int.ofNat_lt, Int.ofNat_le]; rfl) | (simp only [ByteArray.size_append, Int.natCast_add]; rfl)) ?_; (with_reducible refine (wal_four.calls a1 t116 _ A5.out).mono ?_); rintro e w11 ⟨rfl, hb⟩; refine ⟨_, rfl, ?_⟩; have n0_ := Aside0.mk (below_step (by repeat (first | (with_reducible first | exact HB.out | apply below_alloc | apply pw_below_drewN | apply below_drew1) | exact HB.out)) hb); clear HB; have HB := n0_; clear n0_; (try clear hb); (try clear hb2); (try clear hk); (try clear hi)) | ((with_reducible refine gate_callee (f := 141) rfl ?_); refine goesL_ (some 14) rfl rfl Try.func141 (by kernel_rfl) rfl #[.int .i64 a2] rfl (by (try simp only [List.map_toArray, List.map_cons, List.map_nil]); first | done | rfl | (simp only [List.length_drop, List.length_take]; rfl) | (simp only [Int.ofNat_lt, Int.ofNat_le]; done) | (simp only [Int.ofNat_lt, Int.ofNat_le]; rfl) | (simp only [ByteArray.size_append, Int.natCast_add]; rfl)) ?_; (with_reducible refine (wal_four.calls a2 t117 _ A7.out).mono ?_); rintro e w12 ⟨rfl, hb⟩; refine ⟨_, rfl, ?_⟩; have n0_ := Aside0.mk (below_step (by repeat (first | (with_reducible first | exact HB.out | apply below_alloc | apply pw_below_drewN | apply below_drew1) | exact HB.out)) hb); clear HB; have HB := n0_; clear n0_; (try clear hb); (try clear hb2); (try clear hk); (try clear hi)))
        go_ret
        exact ⟨by first | rfl | (simp [errW_none, errW_some] <;> rfl) | (simp [*, errW_none, errW_some] <;> rfl), by repeat (first | (with_reducible first | exact HB.out | apply below_alloc | apply pw_below_drewN | apply below_drew1) | exact HB.out)⟩
      · rw [if_neg c9] at H
        exact absurd H (by simp)
    · rw [if_neg c8] at H
      exact absurd H (by simp)
  · rw [if_neg c6] at H
    exact absurd H (by simp)
def relstoreref_unbytes.l0 : Nat → ByteArray → Int → Int → Option (Int)
  | 0, _, _, _ => none
  | k + 1, x0, x3, x4 => if x4 < (x0.size : Int) then (if 0 ≤ x4 then (relstoreref_unbytes.l0 k x0 (IntKind.u64.wrap ((IntKind.u64.wrap (256 * x3)) + (IntKind.u64.wrap (bt x0 x4)))) (wrap64 (x4 + 1))) else (none)) else (some x3)
def relstoreref_unbytes.f (k : Nat) (a0 : ByteArray) : Option (Int) := relstoreref_unbytes.l0 k a0 0 0
theorem relstoreref_unbytes.mono_l : ∀ k, (∀ y0 y1 y2, LeO (relstoreref_unbytes.l0 k y0 y1 y2) (relstoreref_unbytes.l0 (k + 1) y0 y1 y2))
  | 0 => fun _ _ _ r h => by simp [relstoreref_unbytes.l0] at h
  | k + 1 => by
    have ih0 := relstoreref_unbytes.mono_l k
    · intro y0 y1 y2
      unfold relstoreref_unbytes.l0
      repeat' first
      | (with_reducible exact ih0 _ _ _)
      | (with_reducible exact LeO.refl _)
      | (with_reducible exact LeO.none _)
      | (with_reducible refine LeO.ite ?_ ?_)
      | (with_reducible refine LeO.bind ?_ (fun _ => ?_))
      | exact ih0 _ _ _
      | exact LeO.none _
      | refine LeO.ite ?_ ?_
      | refine LeO.bind ?_ (fun _ => ?_)
theorem relstoreref_unbytes.mono : ∀ a0 k, LeO (relstoreref_unbytes.f k a0) (relstoreref_unbytes.f (k + 1) a0) := by
  intro a0 k
  have ih0 := relstoreref_unbytes.mono_l k
  unfold relstoreref_unbytes.f
  repeat' first
      | (with_reducible exact ih0 _ _ _)
      | (with_reducible exact LeO.refl _)
      | (with_reducible exact LeO.none _)
      | (with_reducible refine LeO.ite ?_ ?_)
      | (with_reducible refine LeO.bind ?_ (fun _ => ?_))
      | exact ih0 _ _ _
      | exact LeO.none _
      | refine LeO.ite ?_ ?_
      | refine LeO.bind ?_ (fun _ => ?_)
set_option maxHeartbeats 8000000 in
set_option maxRecDepth 100000 in
theorem relstoreref_unbytes.calls (k : Nat) (a0 : ByteArray) (r : Int) (w : World) (h : relstoreref_unbytes.f k a0 = some r) :
    Calls Try.prog 109 #[.string a0] w fun e w' => e = .returned (.int .u64 r) ∧ Drawn0 w w' := by
  have H : (relstoreref_unbytes.l0 k a0 0 0) = some r := h
  clear h
  have H' := Aside0.mk H
  clear H
  go_enter Try.func109, Try.ntmps109
  go_wp2
  go_loopg [3, 4] k (fun kq v3 v4 w' => ∃ (x3_1 : Int) (x4_1 : Int), v3 = .int .u64 x3_1 ∧ v4 = .int .i64 x4_1 ∧ Aside0 (relstoreref_unbytes.l0 kq a0 x3_1 x4_1 = some r) ∧ Aside0 (kq ≤ k) ∧ Drawn0 w w')
  case atStart => exact ⟨(0), (0), (by first | rfl | (simp; done) | (simp [*]; done) | exact bq1 _ _ | exact bq2 _ _ | exact congrArg Value.bool (bq2 _ _) | exact congrArg Value.bool (bq1 _ _) | exact congrArg Value.bool (bq1' _ _) | exact bq1' _ _ | exact congrArg Value.bool (bq2' _ _) | exact bq2' _ _), (by first | rfl | (simp; done) | (simp [*]; done) | exact bq1 _ _ | exact bq2 _ _ | exact congrArg Value.bool (bq2 _ _) | exact congrArg Value.bool (bq1 _ _) | exact congrArg Value.bool (bq1' _ _) | exact bq1' _ _ | exact congrArg Value.bool (bq2' _ _) | exact bq2' _ _), H', ⟨Nat.le_refl _⟩, by repeat (first | exact Drawn0.refl _ | apply Drawn0.step)⟩
  case round =>
    clear H'
    try clear c1
    try clear q1
    obtain ⟨x3_1, x4_1, rfl, rfl, HA, HK1, ⟨m1, rfl⟩⟩ := hrel
    cases gk with
    | zero => exact absurd HA.out (by simp [relstoreref_unbytes.l0])
    | succ k1 =>
      have H := HA.out
      clear HA
      simp only [relstoreref_unbytes.l0] at H
      by_cases c2 : x4_1 < (a0.size : Int)
      · rw [if_pos c2] at H
        have c2b0 : decide (x4_1 < (a0.size : Int)) = true := decide_eq_true c2
        clear c2
        by_cases c3 : 0 ≤ x4_1
        · rw [if_pos c3] at H
          have c3b0 : decide (0 ≤ x4_1) = true := decide_eq_true c3
          clear c3
          have H' := Aside0.mk H
          clear H
          have p4 : 0 ≤ (x4_1 : Int) := of_decide_eq_true (by first | (with_reducible assumption) | assumption)
          have q4 : x4_1 < (a0.size : Int) := of_decide_eq_true (by first | (with_reducible assumption) | assumption)
          have hx4 := bt_at a0 x4_1
          replace p4 := eq_true p4
          replace q4 := eq_true q4
          go_wp2
          go_roundg k1
          case measure => have := HK1.out; omega
          case rel => exact ⟨(IntKind.u64.wrap ((IntKind.u64.wrap (256 * x3_1)) + (IntKind.u64.wrap (bt a0 x4_1)))), (wrap64 (x4_1 + 1)), (by first | rfl | (simp; done) | (simp [*]; done) | exact bq1 _ _ | exact bq2 _ _ | exact congrArg Value.bool (bq2 _ _) | exact congrArg Value.bool (bq1 _ _) | exact congrArg Value.bool (bq1' _ _) | exact bq1' _ _ | exact congrArg Value.bool (bq2' _ _) | exact bq2' _ _), (by first | rfl | (simp; done) | (simp [*]; done) | exact bq1 _ _ | exact bq2 _ _ | exact congrArg Value.bool (bq2 _ _) | exact congrArg Value.bool (bq1 _ _) | exact congrArg Value.bool (bq1' _ _) | exact bq1' _ _ | exact congrArg Value.bool (bq2' _ _) | exact bq2' _ _), H', ⟨by have := HK1.out; omega⟩, by repeat (first | exact Drawn0.refl _ | apply Drawn0.step)⟩
        · rw [if_neg c3] at H
          exact absurd H (by simp)
      · rw [if_neg c2] at H
        have c2b0 : decide (x4_1 < (a0.size : Int)) = false := decide_eq_false c2
        clear c2
        obtain rfl := Option.some.inj H
        go_wp2
        go_ret
        exact ⟨by first | rfl | (simp; done) | (simp [*]; done) | exact bq1 _ _ | exact bq2 _ _ | exact congrArg Value.bool (bq2 _ _) | exact congrArg Value.bool (bq1 _ _) | exact congrArg Value.bool (bq1' _ _) | exact bq1' _ _ | exact congrArg Value.bool (bq2' _ _) | exact bq2' _ _, by repeat (first | exact Drawn0.refl _ | apply Drawn0.step)⟩
def relstoreref_bytes.l0 : Nat → Int → Int → ByteArray → Option (ByteArray)
  | 0, _, _, _ => none
  | k + 1, x0, x1, x5 => if x1 > 0 then ((some (([(Int.tmod x0 256) % 256] : List Int) : List Int)).bind fun y143 => (if (strOfNums y143).size + x5.size ≤ 9223372036854775807 then (relstoreref_bytes.l0 k (IntKind.u64.wrap (Int.tdiv x0 256)) (wrap64 (x1 - 1)) ((strOfNums y143) ++ x5)) else (none))) else (some x5)
def relstoreref_bytes.f (k : Nat) (a0 : Int) (a1 : Int) : Option (ByteArray) := relstoreref_bytes.l0 k a0 a1 (⟨#[]⟩ : ByteArray)
theorem relstoreref_bytes.mono_l : ∀ k, (∀ y0 y1 y2, LeO (relstoreref_bytes.l0 k y0 y1 y2) (relstoreref_bytes.l0 (k + 1) y0 y1 y2))
  | 0 => fun _ _ _ r h => by simp [relstoreref_bytes.l0] at h
  | k + 1 => by
    have ih0 := relstoreref_bytes.mono_l k
    · intro y0 y1 y2
      unfold relstoreref_bytes.l0
      repeat' first
      | (with_reducible exact ih0 _ _ _)
      | (with_reducible exact LeO.refl _)
      | (with_reducible exact LeO.none _)
      | (with_reducible refine LeO.ite ?_ ?_)
      | (with_reducible refine LeO.bind ?_ (fun _ => ?_))
      | exact ih0 _ _ _
      | exact LeO.none _
      | refine LeO.ite ?_ ?_
      | refine LeO.bind ?_ (fun _ => ?_)
theorem relstoreref_bytes.mono : ∀ a0 a1 k, LeO (relstoreref_bytes.f k a0 a1) (relstoreref_bytes.f (k + 1) a0 a1) := by
  intro a0 a1 k
  have ih0 := relstoreref_bytes.mono_l k
  unfold relstoreref_bytes.f
  repeat' first
      | (with_reducible exact ih0 _ _ _)
      | (with_reducible exact LeO.refl _)
      | (with_reducible exact LeO.none _)
      | (with_reducible refine LeO.ite ?_ ?_)
      | (with_reducible refine LeO.bind ?_ (fun _ => ?_))
      | exact ih0 _ _ _
      | exact LeO.none _
      | refine LeO.ite ?_ ?_
      | refine LeO.bind ?_ (fun _ => ?_)
set_option maxHeartbeats 8000000 in
set_option maxRecDepth 100000 in
theorem relstoreref_bytes.calls (k : Nat) (a0 : Int) (a1 : Int) (r : ByteArray) (w : World) (h : relstoreref_bytes.f k a0 a1 = some r) :
    Calls Try.prog 106 #[.int .u64 a0, .int .i64 a1] w fun e w' => e = .returned (.string r) ∧ Below w.heap.size w w' := by
  have HB := Aside0.mk (Below.refl w.heap.size w)
  have H : (relstoreref_bytes.l0 k a0 a1 (⟨#[]⟩ : ByteArray)) = some r := h
  clear h
  have H' := Aside0.mk H
  clear H
  go_enter Try.func106, Try.ntmps106
  go_wp2
  go_loopg [0, 1, 5] k (fun kq v0 v1 v5 w' => ∃ (x0_1 : Int) (x1_1 : Int) (x5_1 : ByteArray), v0 = .int .u64 x0_1 ∧ v1 = .int .i64 x1_1 ∧ v5 = .string x5_1 ∧ Aside0 (relstoreref_bytes.l0 kq x0_1 x1_1 x5_1 = some r) ∧ Aside0 (kq ≤ k) ∧ Aside0 (Below w.heap.size w w'))
  case atStart => exact ⟨(a0), (a1), ((⟨#[]⟩ : ByteArray)), (by first | rfl | (simp; done) | (simp [*]; done) | exact bq1 _ _ | exact bq2 _ _ | exact congrArg Value.bool (bq2 _ _) | exact congrArg Value.bool (bq1 _ _) | exact congrArg Value.bool (bq1' _ _) | exact bq1' _ _ | exact congrArg Value.bool (bq2' _ _) | exact bq2' _ _), (by first | rfl | (simp; done) | (simp [*]; done) | exact bq1 _ _ | exact bq2 _ _ | exact congrArg Value.bool (bq2 _ _) | exact congrArg Value.bool (bq1 _ _) | exact congrArg Value.bool (bq1' _ _) | exact bq1' _ _ | exact congrArg Value.bool (bq2' _ _) | exact bq2' _ _), (by first | rfl | (simp; done) | (simp [*]; done) | exact bq1 _ _ | exact bq2 _ _ | exact congrArg Value.bool (bq2 _ _) | exact congrArg Value.bool (bq1 _ _) | exact congrArg Value.bool (bq1' _ _) | exact bq1' _ _ | exact congrArg Value.bool (bq2' _ _) | exact bq2' _ _), H', ⟨Nat.le_refl _⟩, ⟨by repeat (first | (with_reducible first | exact HB.out | apply below_alloc | apply pw_below_drewN | apply below_drew1) | exact HB.out)⟩⟩
  case round =>
    clear H'
    try clear c1
    try clear q1
    try clear p2
    try clear q2
    obtain ⟨x0_1, x1_1, x5_1, rfl, rfl, rfl, HA, HK1, HB⟩ := hrel
    cases gk with
    | zero => exact absurd HA.out (by simp [relstoreref_bytes.l0])
    | succ k1 =>
      have H := HA.out
      clear HA
      simp only [relstoreref_bytes.l0] at H
      by_cases c3 : x1_1 > 0
      · rw [if_pos c3] at H
        have c3b0 : decide (0 < x1_1) = true := decide_eq_true c3
        clear c3
        obtain ⟨y143, hy143⟩ : ∃ y_ : List Int, y_ = (([(Int.tmod x0_1 256) % 256] : List Int)) := ⟨_, rfl⟩
        replace H : (if (strOfNums y143).size + x5_1.size ≤ 9223372036854775807 then (relstoreref_bytes.l0 k1 (IntKind.u64.wrap (Int.tdiv x0_1 256)) (wrap64 (x1_1 - 1)) ((strOfNums y143) ++ x5_1)) else (none)) = some r := by first | (rw [hy143]; with_reducible exact H) | (have H2_ := (Option.bind_some _ _).symm.trans H; rw [hy143]; with_reducible exact H2_) | (have H2_ := (Option.bind_some _ _).symm.trans H; with_reducible exact H2_) | with_reducible exact H | (rw [hy143]; exact H) | exact H
        have Ny143 := Aside0.mk hy143
        clear hy143
        by_cases c4 : (strOfNums y143).size + x5_1.size ≤ 9223372036854775807
        · rw [if_pos c4] at H
          have c4b0 := eq_true c4
          have c4b1 : decide ((strOfNums y143).size + x5_1.size ≤ 9223372036854775807) = true := decide_eq_true c4
          try have c4b2 : (9223372036854775807 < (strOfNums y143).size + x5_1.size) = False := eq_false (Nat.not_lt.2 c4)
          try (have c4b3 := c4b2; simp only [ByteArray.size_append] at c4b3)
          have H' := Aside0.mk H
          clear H
          go_wp2_with (first | ((with_reducible refine gate_dst (N := 13) rfl ?_); refine Kd.R_lit (Kd.int .u8) _ 5 ?hg (N := 13) ?hd (xs := ([(Int.tmod x0_1 256) % 256] : List Int)) (inner := [.int .u8 ((Int.tmod x0_1 256) % 256)]) (ok := fun _ => True) (okp := fun _ => True) ?hr ?hp (fun _ hk => hk) trivial (Below.refl _ _) (Nat.le_refl _) (by simp) ?_; (case hd => rfl); (case hg => rfl); (case hr => first | (go_simp; done) | (go_simp; rfl)); (case hp => exact (Reps.one (show Kd.M (Kd.int .u8) _ _ _ ((Int.tmod x0_1 256) % 256) [.int .u8 ((Int.tmod x0_1 256) % 256)] from rfl) (Reps.none _ _))); intro v144 w5 ho6 hb hg_ hnew_; clear hg_ hnew_; (first | rw [← Ny143.out] at ho6 | (simp only [Int.reduceToNat] at ho6; rw [← Ny143.out] at ho6)); have n0_ := Aside0.mk (Kd.R_lower ho6 (below_size (by repeat (first | (with_reducible first | exact HB.out | apply below_alloc | apply pw_below_drewN | apply below_drew1) | exact HB.out)))); have n1_ := Aside0.mk (below_step (by repeat (first | (with_reducible first | exact HB.out | apply below_alloc | apply pw_below_drewN | apply below_drew1) | exact HB.out)) hb); clear HB; have HO145 := n0_; have HB := n1_; clear n0_ n1_; clear hb ho6; have hcv7 := own_string (P := Try.prog) Try.underlying55 Try.underlying5 Try.underlying9 (Kd.own_of_R HO145.out)))
          go_roundg k1
          case measure => have := HK1.out; omega
          case rel => exact ⟨(IntKind.u64.wrap (Int.tdiv x0_1 256)), (wrap64 (x1_1 - 1)), ((strOfNums y143) ++ x5_1), (by first | rfl | (simp; done) | (simp [*]; done) | exact bq1 _ _ | exact bq2 _ _ | exact congrArg Value.bool (bq2 _ _) | exact congrArg Value.bool (bq1 _ _) | exact congrArg Value.bool (bq1' _ _) | exact bq1' _ _ | exact congrArg Value.bool (bq2' _ _) | exact bq2' _ _), (by first | rfl | (simp; done) | (simp [*]; done) | exact bq1 _ _ | exact bq2 _ _ | exact congrArg Value.bool (bq2 _ _) | exact congrArg Value.bool (bq1 _ _) | exact congrArg Value.bool (bq1' _ _) | exact bq1' _ _ | exact congrArg Value.bool (bq2' _ _) | exact bq2' _ _), (by first | rfl | (simp; done) | (simp [*]; done) | exact bq1 _ _ | exact bq2 _ _ | exact congrArg Value.bool (bq2 _ _) | exact congrArg Value.bool (bq1 _ _) | exact congrArg Value.bool (bq1' _ _) | exact bq1' _ _ | exact congrArg Value.bool (bq2' _ _) | exact bq2' _ _), H', ⟨by have := HK1.out; omega⟩, ⟨by repeat (first | (with_reducible first | exact HB.out | apply below_alloc | apply pw_below_drewN | apply below_drew1) | exact HB.out)⟩⟩
        · rw [if_neg c4] at H
          exact absurd H (by simp)
      · rw [if_neg c3] at H
        have c3b0 : decide (0 < x1_1) = false := decide_eq_false c3
        clear c3
        obtain rfl := Option.some.inj H
        go_wp2
        go_ret
        exact ⟨by first | rfl | (simp [errW_none, errW_some] <;> rfl) | (simp [*, errW_none, errW_some] <;> rfl), by repeat (first | (with_reducible first | exact HB.out | apply below_alloc | apply pw_below_drewN | apply below_drew1) | exact HB.out)⟩
def relstoreref_slot.f (k : Nat) (a0 : Int) (a1 : Int) (a2 : Int) : Option (ByteArray) := (relstoreref_bytes.f k (IntKind.u64.wrap (a0)) 4).bind fun t146 => ((relstoreref_bytes.f k (IntKind.u64.wrap (a1)) 4).bind fun t147 => (if t146.size + t147.size ≤ 9223372036854775807 then ((relstoreref_bytes.f k (IntKind.u64.wrap (a2)) 4).bind fun t148 => (if (t146 ++ t147).size + t148.size ≤ 9223372036854775807 then (if ((t146 ++ t147) ++ t148).size + ((t146 ++ t147) ++ t148).size ≤ 9223372036854775807 then (some (((t146 ++ t147) ++ t148) ++ ((t146 ++ t147) ++ t148))) else (none)) else (none))) else (none)))
theorem relstoreref_slot.mono : ∀ a0 a1 a2 k, LeO (relstoreref_slot.f k a0 a1 a2) (relstoreref_slot.f (k + 1) a0 a1 a2) := by
  intro a0 a1 a2 k
  unfold relstoreref_slot.f
  repeat' first
      | (with_reducible exact relstoreref_bytes.mono _ _ _)
      | (with_reducible exact LeO.refl _)
      | (with_reducible exact LeO.none _)
      | (with_reducible refine LeO.ite ?_ ?_)
      | (with_reducible refine LeO.bind ?_ (fun _ => ?_))
      | exact relstoreref_bytes.mono _ _ _
      | exact LeO.none _
      | refine LeO.ite ?_ ?_
      | refine LeO.bind ?_ (fun _ => ?_)
set_option maxHeartbeats 8000000 in
set_option maxRecDepth 100000 in
theorem relstoreref_slot.calls (k : Nat) (a0 : Int) (a1 : Int) (a2 : Int) (r : ByteArray) (w : World) (h : relstoreref_slot.f k a0 a1 a2 = some r) :
    Calls Try.prog 179 #[.int .i64 a0, .int .i64 a1, .int .i64 a2] w fun e w' => e = .returned (.string r) ∧ Below w.heap.size w w' := by
  have HB := Aside0.mk (Below.refl w.heap.size w)
  have H : ((relstoreref_bytes.f k (IntKind.u64.wrap (a0)) 4).bind fun t146 => ((relstoreref_bytes.f k (IntKind.u64.wrap (a1)) 4).bind fun t147 => (if t146.size + t147.size ≤ 9223372036854775807 then ((relstoreref_bytes.f k (IntKind.u64.wrap (a2)) 4).bind fun t148 => (if (t146 ++ t147).size + t148.size ≤ 9223372036854775807 then (if ((t146 ++ t147) ++ t148).size + ((t146 ++ t147) ++ t148).size ≤ 9223372036854775807 then (some (((t146 ++ t147) ++ t148) ++ ((t146 ++ t147) ++ t148))) else (none)) else (none))) else (none)))) = some r := h
  clear h
  replace H := Option.bind_eq_some_iff.mp H
  obtain ⟨t146, A40, H⟩ := H
  replace H : ((relstoreref_bytes.f k (IntKind.u64.wrap (a1)) 4).bind fun t147 => (if t146.size + t147.size ≤ 9223372036854775807 then ((relstoreref_bytes.f k (IntKind.u64.wrap (a2)) 4).bind fun t148 => (if (t146 ++ t147).size + t148.size ≤ 9223372036854775807 then (if ((t146 ++ t147) ++ t148).size + ((t146 ++ t147) ++ t148).size ≤ 9223372036854775807 then (some (((t146 ++ t147) ++ t148) ++ ((t146 ++ t147) ++ t148))) else (none)) else (none))) else (none))) = some r := H
  have A4 := Aside0.mk A40
  clear A40
  replace H := Option.bind_eq_some_iff.mp H
  obtain ⟨t147, A50, H⟩ := H
  replace H : (if t146.size + t147.size ≤ 9223372036854775807 then ((relstoreref_bytes.f k (IntKind.u64.wrap (a2)) 4).bind fun t148 => (if (t146 ++ t147).size + t148.size ≤ 9223372036854775807 then (if ((t146 ++ t147) ++ t148).size + ((t146 ++ t147) ++ t148).size ≤ 9223372036854775807 then (some (((t146 ++ t147) ++ t148) ++ ((t146 ++ t147) ++ t148))) else (none)) else (none))) else (none)) = some r := H
  have A5 := Aside0.mk A50
  clear A50
  by_cases c6 : t146.size + t147.size ≤ 9223372036854775807
  · rw [if_pos c6] at H
    have c6b0 := eq_true c6
    have c6b1 : decide (t146.size + t147.size ≤ 9223372036854775807) = true := decide_eq_true c6
    try have c6b2 : (9223372036854775807 < t146.size + t147.size) = False := eq_false (Nat.not_lt.2 c6)
    try (have c6b3 := c6b2; simp only [ByteArray.size_append] at c6b3)
    replace H := Option.bind_eq_some_iff.mp H
    obtain ⟨t148, A70, H⟩ := H
    replace H : (if (t146 ++ t147).size + t148.size ≤ 9223372036854775807 then (if ((t146 ++ t147) ++ t148).size + ((t146 ++ t147) ++ t148).size ≤ 9223372036854775807 then (some (((t146 ++ t147) ++ t148) ++ ((t146 ++ t147) ++ t148))) else (none)) else (none)) = some r := H
    have A7 := Aside0.mk A70
    clear A70
    by_cases c8 : (t146 ++ t147).size + t148.size ≤ 9223372036854775807
    · rw [if_pos c8] at H
      have c8b0 := eq_true c8
      have c8b1 : decide ((t146 ++ t147).size + t148.size ≤ 9223372036854775807) = true := decide_eq_true c8
      try have c8b2 : (9223372036854775807 < (t146 ++ t147).size + t148.size) = False := eq_false (Nat.not_lt.2 c8)
      try (have c8b3 := c8b2; simp only [ByteArray.size_append] at c8b3)
      by_cases c9 : ((t146 ++ t147) ++ t148).size + ((t146 ++ t147) ++ t148).size ≤ 9223372036854775807
      · rw [if_pos c9] at H
        have c9b0 := eq_true c9
        have c9b1 : decide (((t146 ++ t147) ++ t148).size + ((t146 ++ t147) ++ t148).size ≤ 9223372036854775807) = true := decide_eq_true c9
        try have c9b2 : (9223372036854775807 < ((t146 ++ t147) ++ t148).size + ((t146 ++ t147) ++ t148).size) = False := eq_false (Nat.not_lt.2 c9)
        try (have c9b3 := c9b2; simp only [ByteArray.size_append] at c9b3)
        obtain rfl := Option.some.inj H
        go_enter Try.func179, Try.ntmps179
        go_wp2_with (first | ((with_reducible refine gate_callee (f := 106) rfl ?_); refine goesL_ (some 10) rfl rfl Try.func106 (by kernel_rfl) rfl #[.int .u64 (IntKind.u64.wrap (a0)), .int .i64 4] rfl (by (try simp only [List.map_toArray, List.map_cons, List.map_nil]); first | done | rfl | (simp only [List.length_drop, List.length_take]; rfl) | (simp only [Int.ofNat_lt, Int.ofNat_le]; done) | (simp only [Int.ofNat_lt, Int.ofNat_le]; rfl) | (simp only [ByteArray.size_append, Int.natCast_add]; rfl) | (rw [Go.IntWalk.u64_in (a0)]; (try rfl); constructor <;> omega)) ?_; (with_reducible refine (relstoreref_bytes.calls k (IntKind.u64.wrap (a0)) 4 t146 _ A4.out).mono ?_); rintro e w10 ⟨rfl, hb⟩; refine ⟨_, rfl, ?_⟩; have n0_ := Aside0.mk (below_step (by repeat (first | (with_reducible first | exact HB.out | apply below_alloc | apply pw_below_drewN | apply below_drew1) | exact HB.out)) hb); clear HB; have HB := n0_; clear n0_; (try clear hb); (try clear hb2); (try clear hk); (try clear hi)) | ((with_reducible refine gate_callee (f := 106) rfl ?_); refine goesL_ (some 13) rfl rfl Try.func106 (by kernel_rfl) rfl #[.int .u64 (IntKind.u64.wrap (a1)), .int .i64 4] rfl (by (try simp only [List.map_toArray, List.map_cons, List.map_nil]); first | done | rfl | (simp only [List.length_drop, List.length_take]; rfl) | (simp only [Int.ofNat_lt, Int.ofNat_le]; done) | (simp only [Int.ofNat_lt, Int.ofNat_le]; rfl) | (simp only [ByteArray.size_append, Int.natCast_add]; rfl) | (rw [Go.IntWalk.u64_in (a1)]; (try rfl); constructor <;> omega)) ?_; (with_reducible refine (relstoreref_bytes.calls k (IntKind.u64.wrap (a1)) 4 t147 _ A5.out).mono ?_); rintro e w11 ⟨rfl, hb⟩; refine ⟨_, rfl, ?_⟩; have n0_ := Aside0.mk (below_step (by repeat (first | (with_reducible first | exact HB.out | apply below_alloc | apply pw_below_drewN | apply below_drew1) | exact HB.out)) hb); clear HB; have HB := n0_; clear n0_; (try clear hb); (try clear hb2); (try clear hk); (try clear hi)) | ((with_reducible refine gate_callee (f := 106) rfl ?_); refine goesL_ (some 17) rfl rfl Try.func106 (by kernel_rfl) rfl #[.int .u64 (IntKind.u64.wrap (a2)), .int .i64 4] rfl (by (try simp only [List.map_toArray, List.map_cons, List.map_nil]); first | done | rfl | (simp only [List.length_drop, List.length_take]; rfl) | (simp only [Int.ofNat_lt, Int.ofNat_le]; done) | (simp only [Int.ofNat_lt, Int.ofNat_le]; rfl) | (simp only [ByteArray.size_append, Int.natCast_add]; rfl) | (rw [Go.IntWalk.u64_in (a2)]; (try rfl); constructor <;> omega)) ?_; (with_reducible refine (relstoreref_bytes.calls k (IntKind.u64.wrap (a2)) 4 t148 _ A7.out).mono ?_); rintro e w12 ⟨rfl, hb⟩; refine ⟨_, rfl, ?_⟩; have n0_ := Aside0.mk (below_step (by repeat (first | (with_reducible first | exact HB.out | apply below_alloc | apply pw_below_drewN | apply below_drew1) | exact HB.out)) hb); clear HB; have HB := n0_; clear n0_; (try clear hb); (try clear hb2); (try clear hk); (try clear hi)))
        go_ret
        exact ⟨by first | rfl | (simp [errW_none, errW_some] <;> rfl) | (simp [*, errW_none, errW_some] <;> rfl), by repeat (first | (with_reducible first | exact HB.out | apply below_alloc | apply pw_below_drewN | apply below_drew1) | exact HB.out)⟩
      · rw [if_neg c9] at H
        exact absurd H (by simp)
    · rw [if_neg c8] at H
      exact absurd H (by simp)
  · rw [if_neg c6] at H
    exact absurd H (by simp)
def relstorelaw_sheet.l0 : Nat → Int → List Int → Int → Int → Option (ByteArray)
  | 0, _, _, _, _ => none
  | k + 1, x0, x3, x7, x8 => if x8 < x7 then (if 0 ≤ x8 then (if x8 < (x3.length : Int) then (relstorelaw_sheet.l0 k x0 (x3.set (x8 : Int).toNat ((wrap64 (x0 * (wrap64 ((wrap64 (Int.tdiv x8 100)) + 1)))) % 256)) x7 (wrap64 (x8 + 1))) else (none)) else (none)) else (some (strOfNums x3))
def relstorelaw_sheet.f (k : Nat) (a0 : Int) : Option (ByteArray) := if 1024 ≤ 281474976710656 then ((some (List.replicate 1024 0 : List Int)).bind fun y149 => (relstorelaw_sheet.l0 k a0 y149 (y149.length : Int) 0)) else (none)
theorem relstorelaw_sheet.mono_l : ∀ k, (∀ y0 y1 y2 y3, LeO (relstorelaw_sheet.l0 k y0 y1 y2 y3) (relstorelaw_sheet.l0 (k + 1) y0 y1 y2 y3))
  | 0 => fun _ _ _ _ r h => by simp [relstorelaw_sheet.l0] at h
  | k + 1 => by
    have ih0 := relstorelaw_sheet.mono_l k
    · intro y0 y1 y2 y3
      unfold relstorelaw_sheet.l0
      repeat' first
      | (with_reducible exact ih0 _ _ _ _)
      | (with_reducible exact LeO.refl _)
      | (with_reducible exact LeO.none _)
      | (with_reducible refine LeO.ite ?_ ?_)
      | (with_reducible refine LeO.bind ?_ (fun _ => ?_))
      | exact ih0 _ _ _ _
      | exact LeO.none _
      | refine LeO.ite ?_ ?_
      | refine LeO.bind ?_ (fun _ => ?_)
theorem relstorelaw_sheet.mono : ∀ a0 k, LeO (relstorelaw_sheet.f k a0) (relstorelaw_sheet.f (k + 1) a0) := by
  intro a0 k
  have ih0 := relstorelaw_sheet.mono_l k
  unfold relstorelaw_sheet.f
  repeat' first
      | (with_reducible exact ih0 _ _ _ _)
      | (with_reducible exact LeO.refl _)
      | (with_reducible exact LeO.none _)
      | (with_reducible refine LeO.ite ?_ ?_)
      | (with_reducible refine LeO.bind ?_ (fun _ => ?_))
      | exact ih0 _ _ _ _
      | exact LeO.none _
      | refine LeO.ite ?_ ?_
      | refine LeO.bind ?_ (fun _ => ?_)
set_option maxHeartbeats 8000000 in
set_option maxRecDepth 100000 in
theorem relstorelaw_sheet.calls (k : Nat) (a0 : Int) (r : ByteArray) (w : World) (h : relstorelaw_sheet.f k a0 = some r) :
    Calls Try.prog 79 #[.int .i64 a0] w fun e w' => e = .returned (.string r) ∧ Below w.heap.size w w' := by
  have HB := Aside0.mk (Below.refl w.heap.size w)
  have H : (if 1024 ≤ 281474976710656 then ((some (List.replicate 1024 0 : List Int)).bind fun y149 => (relstorelaw_sheet.l0 k a0 y149 (y149.length : Int) 0)) else (none)) = some r := h
  clear h
  by_cases c2 : 1024 ≤ 281474976710656
  · rw [if_pos c2] at H
    have c2b0 := eq_true c2
    have c2b1 : decide (1024 ≤ 281474976710656) = true := decide_eq_true c2
    clear c2
    obtain ⟨y149, hy149⟩ : ∃ y_ : List Int, y_ = (List.replicate 1024 0) := ⟨_, rfl⟩
    replace H : (relstorelaw_sheet.l0 k a0 y149 (y149.length : Int) 0) = some r := by first | (rw [hy149]; with_reducible exact H) | (have H2_ := (Option.bind_some _ _).symm.trans H; rw [hy149]; with_reducible exact H2_) | (have H2_ := (Option.bind_some _ _).symm.trans H; with_reducible exact H2_) | with_reducible exact H | (rw [hy149]; exact H) | exact H
    have Ny149 := Aside0.mk hy149
    clear hy149
    have H' := Aside0.mk H
    clear H
    go_enter Try.func79, Try.ntmps79
    go_wp2_with (first | ((with_reducible refine gate_dst (N := 5) rfl ?_); refine Kd.R_make (Kd.int .u8) _ 5 rfl (N := 5) rfl 55 _ _ rfl 1024 rfl rfl Try.underlying55 (.int .u8 0) 1 info5 rfl (by decide) (by omega) 0 (ok := fun _ => True) (okp := fun _ => True) rfl (fun _ hk => hk) trivial (by omega) (by omega) (Below.refl _ _) (Nat.le_refl _) ?_; intro v150 w3 ho4 hb hg_ hnew_; clear hg_ hnew_; (first | rw [← Ny149.out] at ho4 | (simp only [Int.reduceToNat] at ho4; rw [← Ny149.out] at ho4)); have n0_ := Aside0.mk (Kd.R_lower ho4 (below_size (by repeat (first | (with_reducible first | exact HB.out | apply below_alloc | apply pw_below_drewN | apply below_drew1) | exact HB.out)))); have n1_ := Aside0.mk (below_step (by repeat (first | (with_reducible first | exact HB.out | apply below_alloc | apply pw_below_drewN | apply below_drew1) | exact HB.out)) hb); clear HB; have HO151 := n0_; have HB := n1_; clear n0_ n1_; clear hb ho4; obtain ⟨Ao5, co5, eo5⟩ := Kd.R_slice HO151.out; subst eo5))
    go_loopg [8] k (fun kq v8 w' => ∃ (x3_1 : List Int) (x8_1 : Int), v8 = .int .i64 x8_1 ∧ Aside0 (relstorelaw_sheet.l0 kq a0 x3_1 (y149.length : Int) x8_1 = some r) ∧ Aside0 (kq ≤ k) ∧ Aside0 (Kd.R (Kd.int .u8) 5 w' w.heap.size (fun _ => True) (.slice Ao5 y149.length co5) x3_1) ∧ Aside0 (Below w.heap.size w w'))
    case atStart => exact ⟨(y149), (0), (by first | rfl | (simp; done) | (simp [*]; done) | exact bq1 _ _ | exact bq2 _ _ | exact congrArg Value.bool (bq2 _ _) | exact congrArg Value.bool (bq1 _ _) | exact congrArg Value.bool (bq1' _ _) | exact bq1' _ _ | exact congrArg Value.bool (bq2' _ _) | exact bq2' _ _), H', ⟨Nat.le_refl _⟩, ⟨by (with_reducible repeat (first | apply Kd.R_alloc | apply Kd.R_drewN | apply Kd.R_drew)); exact HO151.out⟩, ⟨by repeat (first | (with_reducible first | exact HB.out | apply below_alloc | apply pw_below_drewN | apply below_drew1) | exact HB.out)⟩⟩
    case round =>
      clear H'
      try clear q1
      try clear c2
      try clear c2b0
      try clear c2b1
      try clear p2
      try clear q2
      obtain ⟨x3_1, x8_1, rfl, HA, HK1, HO_3, HB⟩ := hrel
      have hl3_1 := (Kd.R_reads' HO_3.out).1
      rw [hl3_1] at HO_3
      (try simp only [hl3_1])
      cases gk with
      | zero => exact absurd HA.out (by simp [relstorelaw_sheet.l0])
      | succ k1 =>
        have H := HA.out
        clear HA
        simp only [relstorelaw_sheet.l0] at H
        by_cases c6 : x8_1 < (y149.length : Int)
        · rw [if_pos c6] at H
          have c6b0 : decide (x8_1 < (y149.length : Int)) = true := decide_eq_true c6
          try (have c6b0_hl3_1 := c6b0; simp only [hl3_1] at c6b0_hl3_1)
          clear c6
          by_cases c7 : 0 ≤ x8_1
          · rw [if_pos c7] at H
            have c7b0 : decide (0 ≤ x8_1) = true := decide_eq_true c7
            clear c7
            by_cases c8 : x8_1 < (x3_1.length : Int)
            · rw [if_pos c8] at H
              have c8b0 : decide (x8_1 < (x3_1.length : Int)) = true := decide_eq_true c8
              try (have c8b0_hl3_1 := c8b0; simp only [hl3_1] at c8b0_hl3_1)
              clear c8
              obtain ⟨y152, hy152⟩ : ∃ y_ : List Int, y_ = (x3_1.set (x8_1 : Int).toNat ((wrap64 (a0 * (wrap64 ((wrap64 (Int.tdiv x8_1 100)) + 1)))) % 256)) := ⟨_, rfl⟩
              replace H : (relstorelaw_sheet.l0 k1 a0 y152 (y149.length : Int) (wrap64 (x8_1 + 1))) = some r := by first | (rw [hy152]; with_reducible exact H) | (have H2_ := (Option.bind_some _ _).symm.trans H; rw [hy152]; with_reducible exact H2_) | (have H2_ := (Option.bind_some _ _).symm.trans H; with_reducible exact H2_) | with_reducible exact H | (rw [hy152]; exact H) | exact H
              have Ny152 := Aside0.mk hy152
              clear hy152
              have H' := Aside0.mk H
              clear H
              have p9 : 0 ≤ (x8_1 : Int) := of_decide_eq_true (by first | (with_reducible assumption) | assumption)
              have q9 : (x8_1 : Int) < ((x3_1.length : Int) : Int) := of_decide_eq_true (by first | (with_reducible assumption) | assumption)
              obtain ⟨go9, co9, eo9, gb9, gl9, cl9, HG9⟩ := Kd.R_form HO_3.out (by omega)
              (first | cases eo9 | (injection eo9 with ea_ en_ ec_; (first | subst ea_ | (injection ea_ with ea_; subst ea_)); subst ec_; clear en_))
              have GB9 := Aside0.mk gb9
              have GG9 := Aside0.mk HG9
              clear gb9 gl9 HG9
              obtain ⟨hx9_0, hf9_0⟩ := Kd.R_celln 0 HO_3.out (x8_1 : Int) p9 q9
              replace p9 := eq_true p9
              replace q9 := eq_true q9
              have HP10 := Kd.R_putg HO_3.out (x8_1 : Int) ((wrap64 (a0 * (wrap64 ((wrap64 (Int.tdiv x8_1 100)) + 1)))) % 256)
              go_wp2_with (first | ((with_reducible refine gate_store (t := 5) (p := 19) rfl ?_); refine store_event (t := 5) (p := 19) (v := ?vo_w11) (w1 := (wr.setCell ⟨go9, (x8_1 : Int).toNat, none⟩ (.int .u8 ((wrap64 (a0 * (wrap64 ((wrap64 (Int.tdiv x8_1 100)) + 1)))) % 256)))) ?hg ?ho ?hn ?hr ?_; (case ho => rfl); (case hg => rfl); (case hn => rfl); (case hr => first | (go_simp; done) | (go_simp; rfl)); intro w11 hw; have hg : wr.grownBy w11 (some go9) := (by rw [hw]; exact HP10.2); have hp_ : Kd.R (Kd.int .u8) 5 w11 w.heap.size (fun _ => True) (.slice (some ⟨go9, 0, none⟩) x3_1.length co5) y152 := (by rw [hw, Ny152.out]; exact HP10.1); clear HP10; have n0_ := Aside0.mk (hp_); have n1_ := Aside0.mk ((by rw [hw]; exact below_set (HB.out) GB9.out : Below w.heap.size w w11)); clear HO_3; clear HB; have HO_3 := n0_; have HB := n1_; clear n0_ n1_; clear hg hw hp_))
              (try simp only [← hl3_1])
              go_roundg k1
              case measure => have := HK1.out; omega
              case rel => exact ⟨(y152), (wrap64 (x8_1 + 1)), (by first | rfl | (simp; done) | (simp [*]; done) | exact bq1 _ _ | exact bq2 _ _ | exact congrArg Value.bool (bq2 _ _) | exact congrArg Value.bool (bq1 _ _) | exact congrArg Value.bool (bq1' _ _) | exact bq1' _ _ | exact congrArg Value.bool (bq2' _ _) | exact bq2' _ _), H', ⟨by have := HK1.out; omega⟩, ⟨by (try simp only [hl3_1]); (with_reducible repeat (first | apply Kd.R_alloc | apply Kd.R_drewN | apply Kd.R_drew)); exact HO_3.out⟩, ⟨by repeat (first | (with_reducible first | exact HB.out | apply below_alloc | apply pw_below_drewN | apply below_drew1) | exact HB.out)⟩⟩
            · rw [if_neg c8] at H
              exact absurd H (by simp)
          · rw [if_neg c7] at H
            exact absurd H (by simp)
        · rw [if_neg c6] at H
          have c6b0 : decide (x8_1 < (y149.length : Int)) = false := decide_eq_false c6
          try (have c6b0_hl3_1 := c6b0; simp only [hl3_1] at c6b0_hl3_1)
          clear c6
          obtain rfl := Option.some.inj H
          have hcv12 := own_string (P := Try.prog) Try.underlying55 Try.underlying5 Try.underlying9 (Kd.own_of_R HO_3.out)
          go_wp2
          go_ret
          exact ⟨by first | rfl | (simp [errW_none, errW_some] <;> rfl) | (simp [*, errW_none, errW_some] <;> rfl), by repeat (first | (with_reducible first | exact HB.out | apply below_alloc | apply pw_below_drewN | apply below_drew1) | exact HB.out)⟩
  · rw [if_neg c2] at H
    exact absurd H (by simp)
end Go.Proofs.Ythaoaaboempajaa.QLogRuns
namespace Go.Proofs.YthaoaaboempajaaE
open Go.RowKit Go.Proofs.YthaoaaboempajaaW.PrintWords
theorem Ev.const {α : Type} {o : Option α} {r : α} (h : o = some r) : Ev (fun _ => o) r := ⟨0, fun _ _ => h⟩
theorem bt_in {s : ByteArray} {X Y : List UInt8} {x : UInt8} (h : s.data.toList = X ++ x :: Y) : bt s (X.length : Int) = (x.toNat : Int) := by
  have hs : s.size = X.length + (Y.length + 1) := by
    have := congrArg List.length h
    simpa using this
  unfold bt
  have hlt : ((X.length : Int)).toNat < s.size := by simp; omega
  rw [dif_pos hlt]
  have : s[((X.length : Int)).toNat]'hlt = x := by
    show s.data[((X.length : Int)).toNat]'hlt = x
    have e : s.data[((X.length : Int)).toNat]'hlt = s.data.toList[X.length]'(by rw [h]; simp) := by simp
    rw [e]
    simp [h]
  rw [this]
theorem size_in {s : ByteArray} {X : List UInt8} (h : s.data.toList = X) : s.size = X.length := by
  have := congrArg List.length h
  simpa using this
end Go.Proofs.YthaoaaboempajaaE
namespace Go.Proofs.Ythaoaaboempajaa.Disk
open Go.RowKit Go.Proofs.YthaoaaboempajaaW.PrintWords Go.Proofs.YthaoaaboempajaaW.PrintLast Go.Proofs.YthaoaaboempajaaW.PrintMore Go.Proofs.YthaoaaboempajaaX
set_option linter.unusedVariables false
set_option linter.unusedSimpArgs false
def fill (l : List Int) (n : Nat) : List Int := l ++ List.replicate (n - l.length) 0
def putL (l : List Int) (at_ : Nat) (s : ByteArray) : List Int := (fill l (at_ + s.size)).take at_ ++ (bytesOf s ++ (fill l (at_ + s.size)).drop (at_ + s.size))
def lenOf : Value → Nat
  | .slice _ n _ => n
  | _ => 0
theorem byteCells_encs (t : ByteArray) : Lib.byteCells t.data.toList = encs (Value.int .u8) (bytesOf t) := by simp [Lib.byteCells, encs, bytesOf]
theorem row_copy {W : World} {base g c : Nat} {ok : Nat → Prop} {xs : List Int} {off : Nat} {t : ByteArray} (h : Kd.R (Kd.int .u8) 5 W base ok (.slice (some ⟨g, 0, none⟩) xs.length c) xs) (hfit : off + t.size ≤ xs.length) :
    ∃ cur : Array Value, W.heap[g]? = some (.cells cur 5 (0, 0)) ∧ off + t.size ≤ cur.size ∧ ok g ∧
      Kd.R (Kd.int .u8) 5 (W.setRow g (cur.toList.take off ++ Lib.byteCells t.data.toList ++ cur.toList.drop (off + t.size)).toArray) base ok (.slice (some ⟨g, 0, none⟩) xs.length c) (xs.take off ++ (bytesOf t ++ xs.drop (off + t.size))) := by
  obtain ⟨hl, hv⟩ := Kd.own_of_R h
  rcases hv with ⟨hv, _⟩ | ⟨g', cap, cur, hv, hb, hg, hc, hm, hz, ht⟩
  · cases hv
  · cases hv
    refine ⟨cur, hg, by omega, h.1 g rfl, ?_⟩
    have hbl : (Lib.byteCells t.data.toList).length = t.size := by rw [byteCells_encs]; simp [encs, bytesOf_length]
    have hnl : (xs.take off ++ (bytesOf t ++ xs.drop (off + t.size))).length = xs.length := by simp [bytesOf_length]; omega
    refine (show (Kd.int .u8).R 5 _ base ok (.slice (some ⟨g, 0, none⟩) xs.length c) _ from Kd.R_of_own (enc := Value.int .u8) (h1 := fun _ => rfl) ?_ (fun k hk => h.1 k hk))
    rw [hnl]
    refine ⟨by simp [encs, bytesOf_length]; omega, .inr ⟨g, c, _, rfl, hb, setRow_heap W g cur _ 5 (0, 0) hg, hc, hm, ?_, ?_⟩⟩
    · simp [hbl]; omega
    · rw [Nat.mul_one] at ht ⊢
      have h1 : encs (Value.int .u8) (xs.take off) = cur.toList.take off := by
        rw [show encs (Value.int .u8) (xs.take off) = (encs (Value.int .u8) xs).take off by simp [encs, List.map_take], ← ht, List.take_take, Nat.min_eq_left (by omega)]
      have h2 : encs (Value.int .u8) (xs.drop (off + t.size)) = (cur.toList.drop (off + t.size)).take (xs.length - (off + t.size)) := by
        rw [show encs (Value.int .u8) (xs.drop (off + t.size)) = (encs (Value.int .u8) xs).drop (off + t.size) by simp [encs, List.map_drop], ← ht, List.drop_take]
      have h3 : encs (Value.int .u8) (xs.take off ++ (bytesOf t ++ xs.drop (off + t.size))) = encs (Value.int .u8) (xs.take off) ++ (encs (Value.int .u8) (bytesOf t) ++ encs (Value.int .u8) (xs.drop (off + t.size))) := by simp [encs]
      rw [h3, h1, h2, ← byteCells_encs, List.append_assoc, List.take_append, List.take_append]
      have ho : (cur.toList.take off).length = off := by rw [List.length_take, Array.length_toList]; omega
      rw [ho, hbl, show List.take xs.length (cur.toList.take off) = cur.toList.take off from List.take_of_length_le (by rw [ho]; omega), show List.take (xs.length - off) (Lib.byteCells t.data.toList) = Lib.byteCells t.data.toList from List.take_of_length_le (by rw [hbl]; omega), Nat.sub_sub]
theorem copy_at {ops : Array Oper} {rest : List Oper} {o : Oper} {a : Act} {W : World} {Q : Exit → Act → World → Prop} (hgd : o.guard = none) (d s : Operand)
    (hop : o.op = .call { callee := .builtin .copy, args := #[d, s], argTypes := #[55, 9] }) {base : Nat} {ok : Nat → Prop} {A : Option Addr} {c : Nat} {xs : List Int} (off : Nat) (t : ByteArray)
    (R : Kd.R (Kd.int .u8) 5 W base ok (.slice A xs.length c) xs) {ad : Option Addr} (had : ad = if c = off then A else A.map (·.add (off * 1))) (hd : a.eval d = .slice ad (xs.length - off) (c - off)) (hs : a.eval s = .string t) (hfit : off + t.size ≤ xs.length)
    (h : ∀ w', Kd.R (Kd.int .u8) 5 w' base ok (.slice A xs.length c) (xs.take off ++ (bytesOf t ++ xs.drop (off + t.size))) → Below base W w' → Kept W w' ok → wpList Try.prog ops Q rest (a.put o.dst (goInt t.size)) w') :
    wpList Try.prog ops Q (o :: rest) a W := by
  subst had
  by_cases h0 : t.size = 0
  · have hb : bytesOf t = [] := List.eq_nil_of_length_eq_zero (by rw [bytesOf_length, h0])
    have hx : xs.take off ++ (bytesOf t ++ xs.drop (off + t.size)) = xs := by rw [hb, h0]; simp
    have := h W (by rw [hx]; exact R) (Below.refl _ _) (Kept.refl _ _)
    refine wpList_plain hgd fun K hK => ?_
    have hrun := Lib.run_copy_empty_string (P := Try.prog) W 55 9 o.type 5 (if c = off then A else A.map (·.add (off * 1))) (xs.length - off) (c - off) t Try.underlying55 (by kernel_rfl) h0
    unfold Oper.wp
    simp only [Nat.mul_one] at hd hrun
    simp [execOp, hop, resolve, invoke, builtin, hd, hs, hrun, Result.andThen]
    rw [h0] at this
    exact hK _ _ this
  · obtain ⟨g, cap, hv, hb, hg, _⟩ := Kd.R_form R (by omega)
    cases hv
    have hc : xs.length ≤ c := by
      obtain ⟨_, hv⟩ := Kd.own_of_R R
      rcases hv with ⟨hv, _⟩ | ⟨g', cap, cur, hv, _, _, hc, _⟩
      · cases hv
      · cases hv; exact hc
    obtain ⟨cur, hgc, hcs, hok, hR⟩ := row_copy R hfit
    have e : (Addr.mk g 0 none).add (off * 1) = ⟨g, off, none⟩ := by
      rw [Nat.mul_one]
      unfold Addr.add
      split
      · rename_i h0; subst h0; rfl
      · simp
    rw [if_neg (by omega), Option.map_some, e] at hd
    have hrun := Lib.run_copy_row_string (P := Try.prog) W 55 9 o.type 5 g off (xs.length - off) (c - off) t cur 5 Try.underlying55 (by kernel_rfl) hgc (by omega) hcs
    have := h _ hR (below_setRow (Below.refl base W) hb _) ⟨(below_setRow (Below.refl base W) hb _).size, fun i hi hn => setRow_other W g i _ (fun e => hn (e ▸ hok))⟩
    generalize W.setRow g (cur.toList.take off ++ Lib.byteCells t.data.toList ++ cur.toList.drop (off + t.size)).toArray = w2 at hrun this
    refine wpList_plain hgd fun K hK => ?_
    unfold Oper.wp
    simp [execOp, hop, resolve, invoke, builtin, hd, hs, hrun, Result.andThen]
    exact hK _ _ this
set_option maxHeartbeats 8000000 in
set_option maxRecDepth 100000 in
theorem put.calls (P0 : Nat → Prop) (u : Value) (l : List Int) (at_ : Nat) (s : ByteArray) (w0 w : World) (hB : Below w0.heap.size w0 w) (ho : Kd.R (Kd.int .u8) 5 w w0.heap.size P0 u l) (hn : at_ + s.size ≤ 140737488355000) (hl : l.length ≤ 140737488355000) :
    Calls Try.prog 178 #[u, .int .i64 (at_ : Int), .string s] w fun e w' => ∃ v : Value, e = .returned v ∧ Kd.R (Kd.int .u8) 5 w' w0.heap.size (fun k => P0 k ∨ w.heap.size ≤ k) v (putL l at_ s) ∧ Below w0.heap.size w0 w' ∧ Kept w w' P0 := by
  have HO := Aside0.mk (Kd.R_mono ho (ok' := fun k => P0 k ∨ w.heap.size ≤ k) (fun k hk => .inl hk))
  have HB := Aside0.mk hB
  have HK := Aside0.mk (Kept.refl w P0)
  have HN := Aside0.mk hn
  have HL := Aside0.mk hl
  obtain ⟨i5, hi5⟩ : ∃ i, Try.prog.info? 5 = some i := Option.isSome_iff_exists.1 (by kernel_rfl)
  clear ho hB hn hl
  go_enter Try.func178, Try.ntmps178
  go_wp2_with (fail)
  go_loopw [0] (fun v0 wr => ∃ (v : Value) (m : Nat), v0 = v ∧ Aside0 (m = 0 ∨ l.length + m ≤ at_ + s.size) ∧ Aside0 (Kd.R (Kd.int .u8) 5 wr w0.heap.size (fun k => P0 k ∨ w.heap.size ≤ k) v (l ++ List.replicate m 0)) ∧ Aside0 (Below w0.heap.size w0 wr) ∧ Aside0 (Kept w wr P0)) (fun v0 _ => at_ + s.size - lenOf v0)
  case atStart => exact ⟨_, 0, rfl, ⟨.inl rfl⟩, by rw [List.replicate_zero, List.append_nil]; exact HO, HB, HK⟩
  case round =>
    clear HO HB HK
    obtain ⟨v, m, rfl, HM, HO, HB, HK⟩ := hrel
    obtain ⟨A, c, rfl⟩ := Kd.R_slice HO.out
    have hn := HN.out
    have hl := HL.out
    have w1_ : IntKind.i64.wrap ((at_ : Int) + (s.size : Int)) = (at_ : Int) + (s.size : Int) := IntWalk.i64_in _ (by omega)
    have hlen : (l ++ List.replicate m (0 : Int)).length = l.length + m := by simp
    have HM' := HM.out
    by_cases hlt : (l ++ List.replicate m (0 : Int)).length < at_ + s.size
    · have t_ : decide (((l ++ List.replicate m (0 : Int)).length : Int) < (at_ : Int) + (s.size : Int)) = true := decide_eq_true (by omega)
      go_wp2_with (first
        | ((with_reducible refine gate_builtin (b := .append) (xs := #[.tmp 14, .tmp 15]) rfl ?_); at_builtin; refine Kd.R_append (Kd.int .u8) (w0 := w0) w0.heap.size rfl (.tmp 14) (.tmp 15) 55 5 (.int .u8 0) 1 rfl Try.underlying55 (by kernel_rfl) rfl (by decide) (by omega) (.slice A (l ++ List.replicate m 0).length c) (l ++ List.replicate m 0) 0 [.int .u8 0] (fun k => P0 k ∨ w.heap.size ≤ k) (fun _ => False) rfl rfl ?aP (fun _ hk => hk.elim) ?aF ?aO ?aB ?aS ?aL ?_; (case aP => exact rfl); (case aB => exact HB.out); (case aF => exact (fun k hk => .inr (Nat.le_trans HK.out.1 hk))); (case aO => exact HO.out); (case aS => exact below_size HB.out); (case aL => omega); intro v1 w1 ho hb hg hat; have HO1 := Aside0.mk ho; have HB1 := Aside0.mk hb; have HG1 := Aside0.mk hg; clear ho hb hg hat))
      go_roundw
      case rel =>
        refine ⟨_, m + 1, rfl, ⟨.inr (by omega)⟩, ⟨?_⟩, HB1, ⟨?_⟩⟩
        · have h := HO1.out
          rw [List.append_assoc, show List.replicate m (0 : Int) ++ [0] = List.replicate (m + 1) 0 by rw [List.replicate_succ']] at h
          exact h
        · exact Kept.then_ HK.out ⟨HG1.out.size, fun k hk hn => HG1.out.block k hk (fun e => by
            rcases HO.out.1 k (by rw [← e]) with h | h
            · exact hn (.inl h)
            · exact hn (.inr h))⟩ (fun k hk => hk)
      case measure =>
        obtain ⟨A1, c1, e1⟩ := Kd.R_slice HO1.out
        subst e1
        simp [lenOf]
        omega
    · have t_ : decide (((l ++ List.replicate m (0 : Int)).length : Int) < (at_ : Int) + (s.size : Int)) = false := decide_eq_false (by omega)
      have hfl : l ++ List.replicate m 0 = fill l (at_ + s.size) := by
        unfold fill
        rcases HM' with rfl | h
        · rw [hlen] at hlt
          rw [Nat.sub_eq_zero_of_le (by omega)]
        · rw [hlen] at hlt
          rw [show m = at_ + s.size - l.length by omega]
      clear hlen
      generalize l ++ List.replicate m (0 : Int) = xs at *
      have HF := Aside0.mk hfl
      clear hfl HM HM'
      have hxs : ¬ ((xs.length : Int) < (at_ : Int) + (s.size : Int)) := by omega
      have sl_ := cut_from (P := Try.prog) 55 5 .i64 Try.underlying55 hi5 1 (by have h := QDiskRuns.info5; rw [hi5] at h; simp at h; exact h.2.1) A xs.length c (at_ : Int) (by omega) (by omega)
      rw [Int.toNat_natCast] at sl_
      obtain ⟨ad, had⟩ : ∃ ad, ad = (if c = at_ then A else A.map (·.add (at_ * 1))) := ⟨_, rfl⟩
      rw [← had] at sl_
      have HAD := Aside0.mk had
      clear had
      go_upto_region 4 with (refine copy_at rfl (.tmp 19) (.tmp 20) rfl at_ s HO.out HAD.out rfl rfl (by omega) ?_; intro w2 ho hb hk; have HO2 := Aside0.mk ho; have HB2 := Aside0.mk hb; have HK2 := Aside0.mk hk; clear ho hb hk)
      go_wp2_with (fail)
      go_ret
      have hfl := HF.out
      subst hfl
      exact ⟨_, rfl, HO2.out, HB.out.trans HB2.out, Kept.then_ HK.out HK2.out (fun k hk => hk)⟩
end Go.Proofs.Ythaoaaboempajaa.Disk
namespace Go.Proofs.Ythaoaaboempajaa.Disk
open Go.RowKit Go.Proofs.YthaoaaboempajaaW.PrintWords Go.Proofs.YthaoaaboempajaaW.PrintLast Go.Proofs.YthaoaaboempajaaW.PrintMore Go.Proofs.YthaoaaboempajaaX
set_option linter.unusedVariables false
set_option linter.unusedSimpArgs false
def doneL (l : List Int) (at_ : Nat) (s : ByteArray) (cut : Bool) : List Int := if cut then (fill l at_).take at_ else putL l at_ s
set_option maxHeartbeats 8000000 in
set_option maxRecDepth 100000 in
theorem done.put (P0 : Nat → Prop) (u : Value) (l : List Int) (f : Int) (at_ : Nat) (s : ByteArray) (w0 w : World) (hB : Below w0.heap.size w0 w) (ho : Kd.R (Kd.int .u8) 5 w w0.heap.size P0 u l) (hn : at_ + s.size ≤ 140737488355000) (hl : l.length ≤ 140737488355000) :
    Calls Try.prog 150 #[.agg #[.int .i64 f, .int .i64 (at_ : Int), .string s, .bool false], u] w fun e w' => ∃ v : Value, e = .returned v ∧ Kd.R (Kd.int .u8) 5 w' w0.heap.size (fun k => P0 k ∨ w.heap.size ≤ k) v (putL l at_ s) ∧ Below w0.heap.size w0 w' ∧ Kept w w' P0 := by
  have HO := Aside0.mk ho
  have HB := Aside0.mk hB
  have HN := Aside0.mk hn
  have HL := Aside0.mk hl
  clear ho hB hn hl
  go_enter Try.func150, Try.ntmps150
  go_upto_region 1 with ((with_reducible refine gate_dst (N := 2) rfl ?_); refine box_event ?hg (N := 2) ?hd (cs := #[.int .i64 f, .int .i64 (at_ : Int), .string s, .bool false]) (t := 172) ?hr ?_; (case hd => rfl); (case hg => rfl); (case hr => first | (go_simp; done) | (go_simp; rfl)); intro gb hgb w1 hbox hb; have HX := Aside0.mk hbox; have HB0 := Aside0.mk hb; clear hgb hbox hb)
  have c1 := blk_cell HX.out 1
  have c2 := blk_cell HX.out 2
  have c3 := blk_cell HX.out 3
  simp only [List.getElem?_toArray, List.getElem?_cons_zero, List.getElem?_cons_succ] at c1 c2 c3
  have HO1 := Aside0.mk (Kd.R_below HO.out HB0.out)
  have HB1 := Aside0.mk (below_step HB.out HB0.out)
  go_upto_region 6 with (go_at_call 178; (refine (put.calls P0 u l at_ s w0 _ HB1.out HO1.out HN.out HL.out).mono ?_); rintro e2 w2 ⟨v2, rfl, ho2, hb2, hk2⟩; have HO2 := Aside0.mk ho2; have HB2 := Aside0.mk hb2; have HK2 := Aside0.mk hk2; clear ho2 hb2 hk2)
  go_ret
  exact ⟨_, rfl, Kd.R_mono HO2.out (fun k hk => hk.imp id (fun h => Nat.le_trans HB0.out.size h)), HB2.out, Kept.then_ (Kept.of_below HB0.out P0) HK2.out (fun k hk => .inl hk)⟩
set_option maxHeartbeats 8000000 in
set_option maxRecDepth 100000 in
theorem done.cut (P0 : Nat → Prop) (u : Value) (l : List Int) (f : Int) (at_ : Nat) (s : ByteArray) (w0 w : World) (hB : Below w0.heap.size w0 w) (ho : Kd.R (Kd.int .u8) 5 w w0.heap.size P0 u l) (hn : at_ ≤ 140737488355000) (hl : l.length ≤ 140737488355000) :
    Calls Try.prog 150 #[.agg #[.int .i64 f, .int .i64 (at_ : Int), .string s, .bool true], u] w fun e w' => ∃ v : Value, e = .returned v ∧ Kd.R (Kd.int .u8) 5 w' w0.heap.size (fun k => P0 k ∨ w.heap.size ≤ k) v ((fill l at_).take at_) ∧ Below w0.heap.size w0 w' ∧ Kept w w' P0 := by
  have HO := Aside0.mk ho
  have HB := Aside0.mk hB
  have HN := Aside0.mk hn
  have HL := Aside0.mk hl
  obtain ⟨i5, hi5⟩ : ∃ i, Try.prog.info? 5 = some i := Option.isSome_iff_exists.1 (by kernel_rfl)
  clear ho hB hn hl
  go_enter Try.func150, Try.ntmps150
  go_upto_region 1 with ((with_reducible refine gate_dst (N := 2) rfl ?_); refine box_event ?hg (N := 2) ?hd (cs := #[.int .i64 f, .int .i64 (at_ : Int), .string s, .bool true]) (t := 172) ?hr ?_; (case hd => rfl); (case hg => rfl); (case hr => first | (go_simp; done) | (go_simp; rfl)); intro gb hgb w1 hbox hb; have HX1 := Aside0.mk hbox; have HB0 := Aside0.mk hb; clear hgb hbox hb)
  have c3 := blk_cell HX1.out 3
  simp only [List.getElem?_toArray, List.getElem?_cons_zero, List.getElem?_cons_succ] at c3
  have HO1 := Aside0.mk (Kd.R_mono (Kd.R_below HO.out HB0.out) (ok' := fun k => P0 k ∨ w.heap.size ≤ k) (fun k hk => .inl hk))
  have HB1 := Aside0.mk (below_step HB.out HB0.out)
  have HK1 := Aside0.mk (Kept.of_below HB0.out P0)
  clear HO HB
  go_wp2_with (fail)
  clear c3
  go_loopw [1] (fun v0 wr => ∃ (v : Value) (m : Nat), v0 = v ∧ Aside0 (m = 0 ∨ l.length + m ≤ at_) ∧ Aside0 (Kd.R (Kd.int .u8) 5 wr w0.heap.size (fun k => P0 k ∨ w.heap.size ≤ k) v (l ++ List.replicate m 0)) ∧ Aside0 (Below w0.heap.size w0 wr) ∧ Aside0 (Kept w wr P0) ∧ Aside0 (wr.heap[gb]? = some (.cells #[.int .i64 f, .int .i64 (at_ : Int), .string s, .bool true] 172 (0, 0)))) (fun v0 _ => at_ - lenOf v0)
  case atStart => exact ⟨_, 0, rfl, ⟨.inl rfl⟩, by rw [List.replicate_zero, List.append_nil]; exact HO1, HB1, HK1, HX1⟩
  case round =>
    clear HO1 HB1 HK1 HX1 HB0
    obtain ⟨v, m, rfl, HM, HO, HB, HK, HX⟩ := hrel
    obtain ⟨A, c, rfl⟩ := Kd.R_slice HO.out
    have hn := HN.out
    have hl := HL.out
    have c1 := blk_cell HX.out 1
    simp only [List.getElem?_toArray, List.getElem?_cons_zero, List.getElem?_cons_succ] at c1
    have hlen : (l ++ List.replicate m (0 : Int)).length = l.length + m := by simp
    have HM' := HM.out
    by_cases hlt : (l ++ List.replicate m (0 : Int)).length < at_
    · have t_ : decide (((l ++ List.replicate m (0 : Int)).length : Int) < (at_ : Int)) = true := decide_eq_true (by omega)
      go_wp2_with (first
        | ((with_reducible refine gate_builtin (b := .append) (xs := #[.tmp 12, .tmp 13]) rfl ?_); at_builtin; refine Kd.R_append (Kd.int .u8) (w0 := w0) w0.heap.size rfl (.tmp 12) (.tmp 13) 55 5 (.int .u8 0) 1 rfl Try.underlying55 (by kernel_rfl) rfl (by decide) (by omega) (.slice A (l ++ List.replicate m 0).length c) (l ++ List.replicate m 0) 0 [.int .u8 0] (fun k => P0 k ∨ w.heap.size ≤ k) (fun _ => False) rfl rfl ?aP (fun _ hk => hk.elim) ?aF ?aO ?aB ?aS ?aL ?_; (case aP => exact rfl); (case aB => exact HB.out); (case aF => exact (fun k hk => .inr (Nat.le_trans HK.out.1 hk))); (case aO => exact HO.out); (case aS => exact below_size HB.out); (case aL => omega); intro v1 w1 ho hb hg hat; have HO1 := Aside0.mk ho; have HB1 := Aside0.mk hb; have HG1 := Aside0.mk hg; clear ho hb hg hat))
      go_roundw
      case rel =>
        refine ⟨_, m + 1, rfl, ⟨.inr (by omega)⟩, ⟨?_⟩, HB1, ⟨?_⟩, ⟨blk_grown HX.out HG1.out (Kd.R_ne HO.out HX.out (by decide))⟩⟩
        · have h := HO1.out
          rw [List.append_assoc, show List.replicate m (0 : Int) ++ [0] = List.replicate (m + 1) 0 by rw [List.replicate_succ']] at h
          exact h
        · exact Kept.then_ HK.out ⟨HG1.out.size, fun k hk hn => HG1.out.block k hk (fun e => by
            rcases HO.out.1 k (by rw [← e]) with h | h
            · exact hn (.inl h)
            · exact hn (.inr h))⟩ (fun k hk => hk)
      case measure =>
        obtain ⟨A1, c1, e1⟩ := Kd.R_slice HO1.out
        subst e1
        simp [lenOf]
        omega
    · have t_ : decide (((l ++ List.replicate m (0 : Int)).length : Int) < (at_ : Int)) = false := decide_eq_false (by omega)
      have hfl : l ++ List.replicate m 0 = fill l at_ := by
        unfold fill
        rcases HM' with rfl | h
        · rw [hlen] at hlt
          rw [Nat.sub_eq_zero_of_le (by omega)]
        · rw [hlen] at hlt
          rw [show m = at_ - l.length by omega]
      clear hlen
      generalize l ++ List.replicate m (0 : Int) = xs at *
      have HF := Aside0.mk hfl
      clear hfl HM HM'
      have hxs : ¬ ((xs.length : Int) < (at_ : Int)) := by omega
      have hc := (Kd.R_reads' HO.out).2.1
      have sl_ := cut_to (P := Try.prog) 55 5 .i64 Try.underlying55 hi5 A xs.length c (at_ : Int) (by omega) (by omega) hc
      rw [Int.toNat_natCast] at sl_
      go_wp2_with (fail)
      go_ret
      have hfl := HF.out
      subst hfl
      exact ⟨_, rfl, by
        have h := Kd.R_take HO.out (m := at_) (by omega)
        exact h, HB.out, HK.out⟩
end Go.Proofs.Ythaoaaboempajaa.Disk
namespace Go.Proofs.Ythaoaaboempajaa.Disk
open Go.RowKit Go.Proofs.YthaoaaboempajaaW.PrintWords Go.Proofs.YthaoaaboempajaaW.PrintLast Go.Proofs.YthaoaaboempajaaW.PrintMore Go.Proofs.YthaoaaboempajaaX
set_option linter.unusedVariables false
set_option linter.unusedSimpArgs false
def dcells (x0 x1 x2 x3 x4 : Value) (f : Int) (d : Bool) (c : Int) : Array Value := #[x0, x1, x2, x3, x4, .int .i64 f, .bool d, .int .i64 c]
def turn (f : Int) (d : Bool) (c : Int) : Int × Int × Bool × Int := if d = true ∨ f = 0 then (2, f, true, c) else (0, if f > 0 then f - 1 else f, d, c + 1)
theorem set_kept {w : World} {g j : Nat} {v : Value} : Kept w (w.setCell ⟨g, j, none⟩ v) (fun k => k = g) :=
  ⟨by simp, fun i hi hn => Below.heap_setCell w ⟨g, j, none⟩ v i hn⟩
theorem turn.calls (g : Nat) (x0 x1 x2 x3 x4 : Value) (f : Int) (d : Bool) (c : Int) (w0 w : World) (hB : Below w0.heap.size w0 w) (hg : w0.heap.size ≤ g)
    (hd : w.heap[g]? = some (.cells (dcells x0 x1 x2 x3 x4 f d c) 146 (0, 0))) (hf : -9223372036854775808 ≤ f ∧ f < 9223372036854775808) (hc : 0 ≤ c ∧ c < 9223372036854775807) :
    Calls Try.prog 168 #[.pointer (some ⟨g, 0, none⟩)] w fun e w' => e = .returned (.int .i64 (turn f d c).1) ∧ w'.heap[g]? = some (.cells (dcells x0 x1 x2 x3 x4 (turn f d c).2.1 (turn f d c).2.2.1 (turn f d c).2.2.2) 146 (0, 0)) ∧ Below w0.heap.size w0 w' ∧ Kept w w' (fun k => k = g) ∧ w'.heap.size = w.heap.size := by
  have HB := Aside0.mk hB
  have HG := Aside0.mk hg
  have HD := Aside0.mk hd
  have c5 : w.cell? ⟨g, 5, none⟩ = some (.int .i64 f) := (blk_cell hd 5).trans rfl
  have c6 : w.cell? ⟨g, 6, none⟩ = some (.bool d) := (blk_cell hd 6).trans rfl
  have c7 : w.cell? ⟨g, 7, none⟩ = some (.int .i64 c) := (blk_cell hd 7).trans rfl
  have z5 := blk_frozen hd 5
  have z6 := blk_frozen hd 6
  have z7 := blk_frozen hd 7
  clear hB hg hd
  have w1_ : IntKind.i64.wrap (c + 1) = c + 1 := IntWalk.i64_in _ (by omega)
  cases d with
  | true =>
    go_enter Try.func168, Try.ntmps168
    go_wp2_with (fail)
    go_ret
    exact ⟨by simp [turn], blk_put HD.out 6 _ rfl, HB.out.setCell (p := ⟨g, 6, none⟩) HG.out _, set_kept, by simp⟩
  | false =>
    by_cases h0 : f = 0
    · subst h0
      go_enter Try.func168, Try.ntmps168
      go_wp2_with (fail)
      go_ret
      exact ⟨by simp [turn], blk_put HD.out 6 _ rfl, HB.out.setCell (p := ⟨g, 6, none⟩) HG.out _, set_kept, by simp⟩
    · have e0 : (f == 0) = false := beq_eq_false_iff_ne.mpr h0
      by_cases h1 : f > 0
      · have d1 : decide (f > 0) = true := decide_eq_true h1
        have w2_ : IntKind.i64.wrap (f - 1) = f - 1 := IntWalk.i64_in _ (by omega)
        go_enter Try.func168, Try.ntmps168
        go_wp2_with (fail)
        go_ret
        refine ⟨by simp [turn, h0], ?_, (HB.out.setCell (p := ⟨g, 5, none⟩) HG.out _).setCell (p := ⟨g, 7, none⟩) HG.out _, Kept.then_ set_kept set_kept (fun k hk => .inl hk), by simp⟩
        have := blk_put (blk_put HD.out 5 (.int .i64 (f - 1)) rfl) 7 (.int .i64 (c + 1)) rfl
        simpa [turn, h0, h1, dcells] using this
      · have d1 : decide (f > 0) = false := decide_eq_false h1
        go_enter Try.func168, Try.ntmps168
        go_wp2_with (fail)
        go_ret
        refine ⟨by simp [turn, h0], ?_, HB.out.setCell (p := ⟨g, 7, none⟩) HG.out _, set_kept, by simp⟩
        have := blk_put HD.out 7 (.int .i64 (c + 1)) rfl
        simpa [turn, h0, show ¬ 0 < f from Int.not_lt.mpr h1, dcells] using this
end Go.Proofs.Ythaoaaboempajaa.Disk
namespace Go.Proofs.Ythaoaaboempajaa.Disk
open Go.RowKit Go.Proofs.YthaoaaboempajaaW.PrintWords Go.Proofs.YthaoaaboempajaaW.PrintLast Go.Proofs.YthaoaaboempajaaW.PrintMore Go.Proofs.YthaoaaboempajaaX
set_option linter.unusedVariables false
set_option linter.unusedSimpArgs false
def rcells (x0 x1 x2 : Value) (f : Int) (d : Bool) (c : Int) : Array Value := #[x0, x1, x2, .int .i64 f, .bool d, .int .i64 c]
theorem rturn.calls (g : Nat) (x0 x1 x2 : Value) (f : Int) (d : Bool) (c : Int) (w0 w : World) (hB : Below w0.heap.size w0 w) (hg : w0.heap.size ≤ g)
    (hd : w.heap[g]? = some (.cells (rcells x0 x1 x2 f d c) 150 (0, 0))) (hf : -9223372036854775808 ≤ f ∧ f < 9223372036854775808) (hc : 0 ≤ c ∧ c < 9223372036854775807) :
    Calls Try.prog 169 #[.pointer (some ⟨g, 0, none⟩)] w fun e w' => e = .returned (.int .i64 (turn f d c).1) ∧ w'.heap[g]? = some (.cells (rcells x0 x1 x2 (turn f d c).2.1 (turn f d c).2.2.1 (turn f d c).2.2.2) 150 (0, 0)) ∧ Below w0.heap.size w0 w' ∧ Kept w w' (fun k => k = g) ∧ w'.heap.size = w.heap.size := by
  have HB := Aside0.mk hB
  have HG := Aside0.mk hg
  have HD := Aside0.mk hd
  have c5 : w.cell? ⟨g, 3, none⟩ = some (.int .i64 f) := (blk_cell hd 3).trans rfl
  have c6 : w.cell? ⟨g, 4, none⟩ = some (.bool d) := (blk_cell hd 4).trans rfl
  have c7 : w.cell? ⟨g, 5, none⟩ = some (.int .i64 c) := (blk_cell hd 5).trans rfl
  have z5 := blk_frozen hd 3
  have z6 := blk_frozen hd 4
  have z7 := blk_frozen hd 5
  clear hB hg hd
  have w1_ : IntKind.i64.wrap (c + 1) = c + 1 := IntWalk.i64_in _ (by omega)
  cases d with
  | true =>
    go_enter Try.func169, Try.ntmps169
    go_wp2_with (fail)
    go_ret
    exact ⟨by simp [turn], blk_put HD.out 4 _ rfl, HB.out.setCell (p := ⟨g, 4, none⟩) HG.out _, set_kept, by simp⟩
  | false =>
    by_cases h0 : f = 0
    · subst h0
      go_enter Try.func169, Try.ntmps169
      go_wp2_with (fail)
      go_ret
      exact ⟨by simp [turn], blk_put HD.out 4 _ rfl, HB.out.setCell (p := ⟨g, 4, none⟩) HG.out _, set_kept, by simp⟩
    · have e0 : (f == 0) = false := beq_eq_false_iff_ne.mpr h0
      by_cases h1 : f > 0
      · have d1 : decide (f > 0) = true := decide_eq_true h1
        have w2_ : IntKind.i64.wrap (f - 1) = f - 1 := IntWalk.i64_in _ (by omega)
        go_enter Try.func169, Try.ntmps169
        go_wp2_with (fail)
        go_ret
        refine ⟨by simp [turn, h0], ?_, (HB.out.setCell (p := ⟨g, 3, none⟩) HG.out _).setCell (p := ⟨g, 5, none⟩) HG.out _, Kept.then_ set_kept set_kept (fun k hk => .inl hk), by simp⟩
        have := blk_put (blk_put HD.out 3 (.int .i64 (f - 1)) rfl) 5 (.int .i64 (c + 1)) rfl
        simpa [turn, h0, h1, rcells] using this
      · have d1 : decide (f > 0) = false := decide_eq_false h1
        go_enter Try.func169, Try.ntmps169
        go_wp2_with (fail)
        go_ret
        refine ⟨by simp [turn, h0], ?_, HB.out.setCell (p := ⟨g, 5, none⟩) HG.out _, set_kept, by simp⟩
        have := blk_put HD.out 5 (.int .i64 (c + 1)) rfl
        simpa [turn, h0, show ¬ 0 < f from Int.not_lt.mpr h1, rcells] using this
theorem down.calls (g : Nat) (x0 x1 x2 x3 x4 : Value) (f : Int) (d : Bool) (c : Int) (w : World) (hd : w.heap[g]? = some (.cells (dcells x0 x1 x2 x3 x4 f d c) 146 (0, 0))) :
    Calls Try.prog 72 #[.pointer (some ⟨g, 0, none⟩)] w fun e w' => e = .returned (.bool d) ∧ w' = w := by
  have c6 : w.cell? ⟨g, 6, none⟩ = some (.bool d) := (blk_cell hd 6).trans rfl
  clear hd
  go_enter Try.func72, Try.ntmps72
  go_wp2_with (fail)
  go_ret
  exact ⟨rfl, rfl⟩
theorem count.calls (g : Nat) (x0 x1 x2 x3 x4 : Value) (f : Int) (d : Bool) (c : Int) (w : World) (hd : w.heap[g]? = some (.cells (dcells x0 x1 x2 x3 x4 f d c) 146 (0, 0))) :
    Calls Try.prog 134 #[.pointer (some ⟨g, 0, none⟩)] w fun e w' => e = .returned (.int .i64 c) ∧ w' = w := by
  have c7 : w.cell? ⟨g, 7, none⟩ = some (.int .i64 c) := (blk_cell hd 7).trans rfl
  clear hd
  go_enter Try.func134, Try.ntmps134
  go_wp2_with (fail)
  go_ret
  exact ⟨rfl, rfl⟩
theorem waits.calls (g : Nat) (x0 x1 x2 x3 : Value) (A : Option Addr) (n m : Nat) (f : Int) (d : Bool) (c : Int) (w : World) (hd : w.heap[g]? = some (.cells (dcells x0 x1 x2 x3 (.slice A n m) f d c) 146 (0, 0))) :
    Calls Try.prog 135 #[.pointer (some ⟨g, 0, none⟩)] w fun e w' => e = .returned (.int .i64 (n : Int)) ∧ w' = w := by
  have c4 : w.cell? ⟨g, 4, none⟩ = some (.slice A n m) := (blk_cell hd 4).trans rfl
  clear hd
  go_enter Try.func135, Try.ntmps135
  go_wp2_with (fail)
  go_ret
  exact ⟨rfl, rfl⟩
end Go.Proofs.Ythaoaaboempajaa.Disk
namespace Go.Proofs.Ythaoaaboempajaa.Disk
open Go.RowKit Go.Proofs.YthaoaaboempajaaW.PrintWords Go.Proofs.YthaoaaboempajaaW.PrintLast Go.Proofs.YthaoaaboempajaaW.PrintMore Go.Proofs.YthaoaaboempajaaX
attribute [local go_sem] max2_int min2_int max_two min_two
set_option linter.unusedVariables false
set_option linter.unusedSimpArgs false
def failOf (n : Int) : Int := if n < 0 then -1 else n
theorem fail.calls (g : Nat) (x0 x1 x2 x3 x4 : Value) (f : Int) (d : Bool) (c n : Int) (w0 w : World) (hB : Below w0.heap.size w0 w) (hg : w0.heap.size ≤ g) (hd : w.heap[g]? = some (.cells (dcells x0 x1 x2 x3 x4 f d c) 146 (0, 0))) :
    Calls Try.prog 64 #[.pointer (some ⟨g, 0, none⟩), .int .i64 n] w fun e w' => e = .returned (.tuple #[]) ∧ w'.heap[g]? = some (.cells (dcells x0 x1 x2 x3 x4 (failOf n) d c) 146 (0, 0)) ∧ Below w0.heap.size w0 w' ∧ Kept w w' (fun k => k = g) ∧ w'.heap.size = w.heap.size := by
  have HB := Aside0.mk hB
  have HG := Aside0.mk hg
  have HD := Aside0.mk hd
  have c5 : w.cell? ⟨g, 5, none⟩ = some (.int .i64 f) := (blk_cell hd 5).trans rfl
  have z5 := blk_frozen hd 5
  clear hB hg hd
  have hm : max n (-1) = failOf n := by unfold failOf; split <;> omega
  go_enter Try.func64, Try.ntmps64
  go_wp2_with (fail)
  all_goals
    refine bodyPost_end (v := .tuple #[]) (by first | rfl | (simp [results, Try.f64]; done) | (simp [results, Try.f64]; rfl)) rfl ?_
    refine ⟨rfl, ?_, HB.out.setCell (p := ⟨g, 5, none⟩) HG.out _, set_kept, by simp⟩
  · have e : failOf n = -1 := by unfold failOf; rw [if_pos (by omega)]
    rw [e]
    exact blk_put HD.out 5 (.int .i64 (-1)) rfl
  · have e : failOf n = n := by unfold failOf; split <;> omega
    rw [e]
    exact blk_put HD.out 5 (.int .i64 n) rfl
theorem rfail.calls (g : Nat) (x0 x1 x2 : Value) (f : Int) (d : Bool) (c n : Int) (w0 w : World) (hB : Below w0.heap.size w0 w) (hg : w0.heap.size ≤ g) (hd : w.heap[g]? = some (.cells (rcells x0 x1 x2 f d c) 150 (0, 0))) :
    Calls Try.prog 84 #[.pointer (some ⟨g, 0, none⟩), .int .i64 n] w fun e w' => e = .returned (.tuple #[]) ∧ w'.heap[g]? = some (.cells (rcells x0 x1 x2 (failOf n) d c) 150 (0, 0)) ∧ Below w0.heap.size w0 w' ∧ Kept w w' (fun k => k = g) ∧ w'.heap.size = w.heap.size := by
  have HB := Aside0.mk hB
  have HG := Aside0.mk hg
  have HD := Aside0.mk hd
  have c3 : w.cell? ⟨g, 3, none⟩ = some (.int .i64 f) := (blk_cell hd 3).trans rfl
  have z3 := blk_frozen hd 3
  clear hB hg hd
  by_cases h : n < 0
  · have d1 : decide (n < 0) = true := decide_eq_true h
    go_enter Try.func84, Try.ntmps84
    go_wp2_with (fail)
    refine bodyPost_end (v := .tuple #[]) (by first | rfl | (simp [results, Try.f84]; done) | (simp [results, Try.f84]; rfl)) rfl ?_
    refine ⟨rfl, ?_, (HB.out.setCell (p := ⟨g, 3, none⟩) HG.out _).setCell (p := ⟨g, 3, none⟩) HG.out _, Kept.then_ set_kept set_kept (fun k hk => .inl hk), by simp⟩
    have := blk_put (blk_put HD.out 3 (.int .i64 n) rfl) 3 (.int .i64 (-1)) rfl
    simpa [failOf, h, rcells] using this
  · have d1 : decide (n < 0) = false := decide_eq_false h
    go_enter Try.func84, Try.ntmps84
    go_wp2_with (fail)
    refine bodyPost_end (v := .tuple #[]) (by first | rfl | (simp [results, Try.f84]; done) | (simp [results, Try.f84]; rfl)) rfl ?_
    refine ⟨rfl, ?_, HB.out.setCell (p := ⟨g, 3, none⟩) HG.out _, set_kept, by simp⟩
    have := blk_put HD.out 3 (.int .i64 n) rfl
    simpa [failOf, show ¬ n < 0 from Int.not_lt.mpr h, rcells] using this
end Go.Proofs.Ythaoaaboempajaa.Disk
namespace Go.Proofs.Ythaoaaboempajaa.Disk
open Go.RowKit Go.Proofs.YthaoaaboempajaaW.PrintWords Go.Proofs.YthaoaaboempajaaW.PrintLast Go.Proofs.YthaoaaboempajaaW.PrintMore Go.Proofs.YthaoaaboempajaaX
set_option linter.unusedVariables false
set_option linter.unusedSimpArgs false
structure Chg where
  file : Int
  at_ : Nat
  text : ByteArray
  cut : Bool
def noChg : Chg := ⟨0, 0, ByteArray.empty, false⟩
def zerosB (n : Nat) : ByteArray := ⟨(List.replicate n (0 : UInt8)).toArray⟩
def fillB (s : ByteArray) (n : Nat) : ByteArray := if n ≤ s.size then s else s ++ zerosB (n - s.size)
def putB (s : ByteArray) (a : Nat) (t : ByteArray) : ByteArray := (fillB s (a + t.size)).extract 0 a ++ t ++ (fillB s (a + t.size)).extract (a + t.size) (fillB s (a + t.size)).size
def onB (c : Chg) (s : ByteArray) : ByteArray := if c.cut = true then (fillB s c.at_).extract 0 c.at_ else putB s c.at_ c.text
def seenB (f : Int) (ws : List Chg) (s : ByteArray) : ByteArray := ws.foldl (fun s c => if c.file = f then onB c s else s) s
theorem seenB_snoc (f : Int) (ws : List Chg) (c : Chg) (s : ByteArray) : seenB f (ws ++ [c]) s = if c.file = f then onB c (seenB f ws s) else seenB f ws s := by simp [seenB]
theorem extract_list (s : ByteArray) (a b : Nat) : (s.extract a b).data.toList = (s.data.toList.drop a).take (b - a) := by
  rw [ByteArray.data_extract, Array.toList_extract, List.extract_eq_take_drop]
theorem bytesOf_append (a b : ByteArray) : bytesOf (a ++ b) = bytesOf a ++ bytesOf b := by
  unfold bytesOf
  rw [ByteArray.data_append, Array.toList_append, List.map_append]
theorem bytesOf_extract (s : ByteArray) (a b : Nat) : bytesOf (s.extract a b) = ((bytesOf s).drop a).take (b - a) := by
  unfold bytesOf
  rw [extract_list, List.map_take, List.map_drop]
theorem bytesOf_zeros (n : Nat) : bytesOf (zerosB n) = List.replicate n 0 := by simp [bytesOf, zerosB]
theorem size_zeros (n : Nat) : (zerosB n).size = n := by rw [← bytesOf_length, bytesOf_zeros, List.length_replicate]
theorem bytesOf_inj {a b : ByteArray} (h : bytesOf a = bytesOf b) : a = b := by
  have h2 : a.data.toList = b.data.toList := by
    refine List.map_inj_right (f := fun x : UInt8 => (x.toNat : Int)) ?_ |>.1 h
    intro x y e
    have e2 : x.toNat = y.toNat := Int.ofNat_inj.1 e
    exact UInt8.toNat_inj.1 e2
  have h3 : a.data = b.data := Array.toList_inj.1 h2
  cases a
  cases b
  simp_all
theorem bytesOf_fillB (s : ByteArray) (n : Nat) : bytesOf (fillB s n) = fill (bytesOf s) n := by
  unfold fillB fill
  rw [bytesOf_length]
  split
  · rw [Nat.sub_eq_zero_of_le (by omega)]; simp
  · rw [bytesOf_append, bytesOf_zeros]
theorem size_fillB (s : ByteArray) (n : Nat) : (fillB s n).size = max s.size n := by
  rw [← bytesOf_length, bytesOf_fillB]
  simp [fill, bytesOf_length]
  omega
theorem fill_length (l : List Int) (n : Nat) : (fill l n).length = max l.length n := by simp [fill]; omega
theorem bytesOf_putB (s : ByteArray) (a : Nat) (t : ByteArray) : bytesOf (putB s a t) = putL (bytesOf s) a t := by
  unfold putB putL
  rw [bytesOf_append, bytesOf_append, bytesOf_extract, bytesOf_extract, bytesOf_fillB, List.append_assoc]
  congr 2
  rw [List.take_of_length_le]
  rw [List.length_drop, fill_length, size_fillB, bytesOf_length]
  omega
theorem bytesOf_onB (c : Chg) (s : ByteArray) : bytesOf (onB c s) = doneL (bytesOf s) c.at_ c.text c.cut := by
  unfold onB doneL
  split
  · rw [bytesOf_extract, bytesOf_fillB]; simp
  · exact bytesOf_putB _ _ _
theorem putL_length (l : List Int) (a : Nat) (t : ByteArray) : (putL l a t).length = max l.length (a + t.size) := by
  unfold putL
  simp [fill_length, bytesOf_length]
  omega
theorem size_onB (c : Chg) (s : ByteArray) {n : Nat} (hs : s.size ≤ n) (hc : c.at_ + c.text.size ≤ n) : (onB c s).size ≤ n := by
  rw [← bytesOf_length, bytesOf_onB]
  unfold doneL
  split
  · rw [List.length_take, fill_length]; omega
  · rw [putL_length, bytesOf_length]; omega
theorem size_seenB (f : Int) {n : Nat} : ∀ (ws : List Chg) (s : ByteArray), s.size ≤ n → (∀ c ∈ ws, c.at_ + c.text.size ≤ n) → (seenB f ws s).size ≤ n
  | [], _, hs, _ => hs
  | c :: ws, s, hs, hc => by
    have h := hc c (by simp)
    have := size_seenB f ws (if c.file = f then onB c s else s) (by split; exact size_onB c s hs h; exact hs) (fun c' hc' => hc c' (by simp [hc']))
    simpa [seenB] using this
structure St where
  l0 : ByteArray
  l1 : ByteArray
  ws : List Chg
  f : Int
  d : Bool
  c : Int
def St.s0 (s : St) : ByteArray := seenB 0 s.ws s.l0
def St.s1 (s : St) : ByteArray := seenB 1 s.ws s.l1
def maxFile : Nat := 67108864
structure St.ok (s : St) (m : Nat) : Prop where
  l0 : s.l0.size ≤ maxFile
  l1 : s.l1.size ≤ maxFile
  ws : ∀ c ∈ s.ws, (c.file = 0 ∨ c.file = 1) ∧ c.at_ + c.text.size ≤ maxFile
  f : -1 ≤ s.f ∧ s.f < 9223372036854775808
  c : 0 ≤ s.c ∧ s.c ≤ m
  n : (s.ws.length : Int) ≤ s.c
theorem St.ok.s0 {s : St} {m : Nat} (h : s.ok m) : s.s0.size ≤ maxFile := size_seenB 0 s.ws s.l0 h.l0 (fun c hc => (h.ws c hc).2)
theorem St.ok.s1 {s : St} {m : Nat} (h : s.ok m) : s.s1.size ≤ maxFile := size_seenB 1 s.ws s.l1 h.l1 (fun c hc => (h.ws c hc).2)
def St.turned (s : St) : St := { s with f := (turn s.f s.d s.c).2.1, d := (turn s.f s.d s.c).2.2.1, c := (turn s.f s.d s.c).2.2.2 }
def St.changed (s : St) (c : Chg) : St := if (turn s.f s.d s.c).1 = 0 then { s.turned with ws := s.ws ++ [c] } else s.turned
def others (f : Int) (ws : List Chg) : List Chg := ws.filter (fun c => c.file != f)
def St.synced (s : St) (f : Int) : St :=
  if (turn s.f s.d s.c).1 = 0 then { s.turned with l0 := if f = 0 then s.s0 else s.l0, l1 := if f = 1 then s.s1 else s.l1, ws := others f s.ws } else s.turned
def St.failed (s : St) (n : Int) : St := { s with f := failOf n }
theorem turn_cases (f : Int) (d : Bool) (c : Int) : (turn f d c).1 = 0 ∧ (turn f d c).2.2.2 = c + 1 ∨ (turn f d c).1 = 2 ∧ (turn f d c).2.2.2 = c := by
  unfold turn
  split <;> simp
theorem turn_f (f : Int) (d : Bool) (c : Int) (h : -1 ≤ f ∧ f < 9223372036854775808) : -1 ≤ (turn f d c).2.1 ∧ (turn f d c).2.1 < 9223372036854775808 := by
  unfold turn
  split
  · exact h
  · dsimp only; split <;> omega
theorem St.ok.turned {s : St} {m : Nat} (h : s.ok m) : s.turned.ok (m + 1) := by
  have hc := h.c
  have hn := h.n
  refine ⟨h.l0, h.l1, h.ws, turn_f _ _ _ h.f, ?_, ?_⟩
  · unfold St.turned
    rcases turn_cases s.f s.d s.c with ⟨_, e⟩ | ⟨_, e⟩ <;> simp only [e] <;> omega
  · unfold St.turned
    rcases turn_cases s.f s.d s.c with ⟨_, e⟩ | ⟨_, e⟩ <;> simp only [e] <;> omega
theorem St.ok.changed {s : St} {m : Nat} {c : Chg} (h : s.ok m) (hf : c.file = 0 ∨ c.file = 1) (hs : c.at_ + c.text.size ≤ maxFile) : (s.changed c).ok (m + 1) := by
  unfold St.changed
  rcases turn_cases s.f s.d s.c with ⟨e0, e⟩ | ⟨e0, e⟩
  · rw [if_pos e0]
    have ht := h.turned
    refine ⟨h.l0, h.l1, ?_, ht.f, ht.c, ?_⟩
    · intro c' hc'
      rcases List.mem_append.1 hc' with hc' | hc'
      · exact h.ws c' hc'
      · rw [List.mem_singleton.1 hc']; exact ⟨hf, hs⟩
    · have := h.n
      show ((s.ws ++ [c]).length : Int) ≤ (turn s.f s.d s.c).2.2.2
      rw [e, List.length_append]
      simp
      omega
  · rw [if_neg (by omega)]
    exact h.turned
theorem St.ok.synced {s : St} {m : Nat} {f : Int} (h : s.ok m) : (s.synced f).ok (m + 1) := by
  unfold St.synced
  rcases turn_cases s.f s.d s.c with ⟨e0, e⟩ | ⟨e0, e⟩
  · rw [if_pos e0]
    have ht := h.turned
    refine ⟨?_, ?_, ?_, ht.f, ht.c, ?_⟩
    · dsimp only; split; exact h.s0; exact h.l0
    · dsimp only; split; exact h.s1; exact h.l1
    · intro c' hc'
      exact h.ws c' (List.mem_filter.1 hc').1
    · have := h.n
      have hl := List.length_filter_le (fun c : Chg => c.file != f) s.ws
      show ((others f s.ws).length : Int) ≤ (turn s.f s.d s.c).2.2.2
      unfold others
      rw [e]
      omega
  · rw [if_neg (by omega)]
    exact h.turned
theorem St.ok.failed {s : St} {m : Nat} {n : Int} (h : s.ok m) (hn : n < 9223372036854775808) : (s.failed n).ok m := by
  refine ⟨h.l0, h.l1, h.ws, ?_, h.c, h.n⟩
  show -1 ≤ failOf n ∧ failOf n < _
  unfold failOf
  split <;> omega
def halved (c : Chg) : Chg := if c.cut = true then c else { c with text := c.text.extract 0 (c.text.size / 2) }
def kept1 (h : Int) (c : Chg) (f : Int) (s : ByteArray) : ByteArray := if c.file = f ∧ (h = 1 ∨ h = 2) then onB (if h = 2 then halved c else c) s else s
def howOf (keep : List Int) (i : Nat) : Int := if keep.length = 0 then 0 else keep.getD (i % keep.length) 0
def crashB (f : Int) (keep : List Int) : Nat → List Chg → ByteArray → ByteArray
  | _, [], s => s
  | i, c :: ws, s => crashB f keep (i + 1) ws (kept1 (howOf keep i) c f s)
def St.crashed (s : St) (keep : List Int) : St := { l0 := crashB 0 keep 0 s.ws s.l0, l1 := crashB 1 keep 0 s.ws s.l1, ws := [], f := -1, d := false, c := s.c }
theorem halved_le (c : Chg) : (halved c).at_ = c.at_ ∧ (halved c).text.size ≤ c.text.size ∧ (halved c).file = c.file := by
  unfold halved
  split
  · exact ⟨rfl, Nat.le_refl _, rfl⟩
  · refine ⟨rfl, ?_, rfl⟩
    rw [← bytesOf_length, bytesOf_extract]
    simp [bytesOf_length]
    omega
theorem size_kept1 (h : Int) (c : Chg) (f : Int) (s : ByteArray) {n : Nat} (hs : s.size ≤ n) (hc : c.at_ + c.text.size ≤ n) : (kept1 h c f s).size ≤ n := by
  have := halved_le c
  unfold kept1
  split
  · split
    · exact size_onB _ _ hs (by omega)
    · exact size_onB _ _ hs hc
  · exact hs
theorem size_crashB (f : Int) (keep : List Int) {n : Nat} : ∀ (ws : List Chg) (i : Nat) (s : ByteArray), s.size ≤ n → (∀ c ∈ ws, c.at_ + c.text.size ≤ n) → (crashB f keep i ws s).size ≤ n
  | [], _, _, hs, _ => hs
  | c :: ws, i, s, hs, hc => size_crashB f keep ws (i + 1) _ (size_kept1 _ c f s hs (hc c (by simp))) (fun c' hc' => hc c' (by simp [hc']))
theorem St.ok.crashed {s : St} {m : Nat} {keep : List Int} (h : s.ok m) : (s.crashed keep).ok m := by
  refine ⟨size_crashB 0 keep s.ws 0 s.l0 h.l0 (fun c hc => (h.ws c hc).2), size_crashB 1 keep s.ws 0 s.l1 h.l1 (fun c hc => (h.ws c hc).2), ?_, ?_, h.c, ?_⟩
  · intro c hc; cases hc
  · exact ⟨Int.le_refl _, show (-1 : Int) < 9223372036854775808 by decide⟩
  · exact h.c.1
theorem crashB_snoc (f : Int) (keep : List Int) : ∀ (ws : List Chg) (i : Nat) (c : Chg) (s : ByteArray), crashB f keep i (ws ++ [c]) s = kept1 (howOf keep (i + ws.length)) c f (crashB f keep i ws s)
  | [], i, c, s => rfl
  | d :: ws, i, c, s => by
    have := crashB_snoc f keep ws (i + 1) c (kept1 (howOf keep i) d f s)
    rw [show i + (d :: ws).length = i + 1 + ws.length by simp; omega]
    exact this
theorem seenB_others_self (f : Int) : ∀ (ws : List Chg) (s : ByteArray), seenB f (others f ws) s = s
  | [], _ => rfl
  | c :: ws, s => by
    have ih := seenB_others_self f ws s
    unfold others at ih ⊢
    rw [List.filter_cons]
    by_cases h : c.file = f
    · rw [if_neg (by simp [h])]; exact ih
    · rw [if_pos (by simp [h])]
      unfold seenB at ih ⊢
      rw [List.foldl_cons, if_neg h]
      exact ih
theorem seenB_others_ne {f g : Int} (hne : g ≠ f) : ∀ (ws : List Chg) (s : ByteArray), seenB g (others f ws) s = seenB g ws s
  | [], _ => rfl
  | c :: ws, s => by
    unfold others
    rw [List.filter_cons]
    by_cases h : c.file = f
    · rw [if_neg (by simp [h])]
      have ih := seenB_others_ne hne ws s
      unfold others seenB at ih
      unfold seenB
      rw [ih, List.foldl_cons, if_neg (by omega)]
    · rw [if_pos (by simp [h])]
      have ih := seenB_others_ne hne ws (if c.file = g then onB c s else s)
      unfold others seenB at ih
      unfold seenB
      rw [List.foldl_cons, List.foldl_cons]
      exact ih
end Go.Proofs.Ythaoaaboempajaa.Disk
namespace Go.Proofs.Ythaoaaboempajaa.Disk
open Go.RowKit Go.Proofs.YthaoaaboempajaaW.PrintWords Go.Proofs.YthaoaaboempajaaW.PrintLast Go.Proofs.YthaoaaboempajaaW.PrintMore Go.Proofs.YthaoaaboempajaaX
set_option linter.unusedVariables false
set_option linter.unusedSimpArgs false
def kC : Kd Chg := Kd.iso (Kd.pair (Kd.int .i64) (Kd.pair (Kd.int .i64) (Kd.pair Kd.string Kd.bool))) (fun x => (x.file, ((x.at_ : Nat) : Int), x.text, x.cut))
theorem kC_open {w : World} {x : Chg} {cs : List Value} (h : kC.K w x cs) : cs = [.int .i64 x.file, .int .i64 (x.at_ : Int), .string x.text, .bool x.cut] := by
  obtain ⟨c0, c1, rfl, h0, c2, c3, rfl, h1, c4, c5, rfl, h2, h3⟩ := h
  have e0 : c0 = [.int .i64 x.file] := h0
  have e1 : c2 = [.int .i64 (x.at_ : Int)] := h1
  have e2 : c4 = [.string x.text] := h2
  have e3 : c5 = [.bool x.cut] := h3
  subst e0 e1 e2 e3
  rfl
theorem kC_M {w : World} {base : Nat} {ok : Nat → Prop} (x : Chg) : kC.M w base ok x [.int .i64 x.file, .int .i64 (x.at_ : Int), .string x.text, .bool x.cut] :=
  ⟨[_], _, rfl, rfl, [_], _, rfl, rfl, [_], [_], rfl, rfl, rfl⟩
def chgV (x : Chg) : Value := .agg #[.int .i64 x.file, .int .i64 (x.at_ : Int), .string x.text, .bool x.cut]
def relab (N : Nat) (lab : Nat → Nat) (m : Nat) : Nat → Nat := fun k => if k < N then lab k else m
section
variable {α : Type} {d : Kd α} {e base i j g : Nat} {O S : Nat → Prop} {lab : Nat → Nat} {w w' : World} {x v : Value} {l : List α}
theorem lab_keep (h : d.R e w base (fun k => O k ∧ lab k = j) x l) (hk : Kept w w' (fun k => O k ∧ lab k = i)) (hne : j ≠ i) (m : Nat) : d.R e w' base (fun k => (O k ∨ w.heap.size ≤ k) ∧ relab w.heap.size lab m k = j) x l :=
  Kd.R_mono (Kd.R_keptB h hk (fun k hk hS => hne (hk.2.symm.trans hS.2))) (fun k hk => ⟨.inl hk.1.1, by unfold relab; rw [if_pos hk.2.2]; exact hk.1.2⟩)
theorem lab_new {N : Nat} (h : d.R e w' base (fun k => (O k ∧ lab k = i) ∨ N ≤ k) x l) : d.R e w' base (fun k => (O k ∨ N ≤ k) ∧ relab N lab i k = i) x l :=
  Kd.R_mono h (fun k hk => by
    unfold relab
    rcases hk with hk | hk
    · refine ⟨.inl hk.1, ?_⟩
      split
      · exact hk.2
      · rfl
    · exact ⟨.inr hk, by rw [if_neg (by omega)]⟩)
theorem lab_far (h : d.R e w base (fun k => O k ∧ lab k = j) x l) (hg : lab g = 5) (hne : j ≠ 5) (c : Nat) (u : Value) : d.R e (w.setCell ⟨g, c, none⟩ u) base (fun k => O k ∧ lab k = j) x l :=
  Kd.R_far h (fun k hk he => by
    have e2 : k = g := he
    subst e2
    exact hne (hk.2.symm.trans hg)) u
theorem lab_only (h : d.R e w base (fun k => O k ∧ lab k = j) x l) (hk : Kept w w' (fun k => k = g)) (hg : lab g = 5) (hne : j ≠ 5) : d.R e w' base (fun k => O k ∧ lab k = j) x l :=
  Kd.R_kept h hk (fun k h1 he => by
    subst he
    exact hne (h1.2.symm.trans hg))
theorem lab_apart (h : d.R e w base (fun k => O k ∧ lab k = j) x l) (hk : Kept w w' S) (hS : ∀ k, O k → ¬ S k) : d.R e w' base (fun k => O k ∧ lab k = j) x l :=
  Kd.R_kept h hk (fun k h1 he => hS k h1.1 he)
theorem lab_narrow (h : d.R e w base (fun k => O k ∧ lab k = j) x l) : d.R e w base (fun k => (O k ∧ k < w.heap.size) ∧ lab k = j) x l :=
  Kd.R_mono (Kd.R_bound h) (fun k hk => ⟨⟨hk.1.1, hk.2.2.1⟩, hk.1.2⟩)
end
structure Rws (w : World) (base : Nat) (O : Nat → Prop) (lab : Nat → Nat) (x0 x1 x2 x3 x4 : Value) (a0 b0 a1 b1 : List Int) (ws : List Chg) : Prop where
  r0 : (Kd.int .u8).R 5 w base (fun k => O k ∧ lab k = 0) x0 a0
  r1 : (Kd.int .u8).R 5 w base (fun k => O k ∧ lab k = 1) x1 b0
  r2 : (Kd.int .u8).R 5 w base (fun k => O k ∧ lab k = 2) x2 a1
  r3 : (Kd.int .u8).R 5 w base (fun k => O k ∧ lab k = 3) x3 b1
  r4 : kC.R 172 w base (fun k => O k ∧ lab k = 4) x4 ws
section
variable {w w' : World} {base g : Nat} {O S : Nat → Prop} {lab : Nat → Nat} {x0 x1 x2 x3 x4 v : Value} {a0 b0 a1 b1 l : List Int} {ws l' : List Chg}
theorem Rws.up0 (h : Rws w base O lab x0 x1 x2 x3 x4 a0 b0 a1 b1 ws) (hk : Kept w w' (fun k => O k ∧ lab k = 0)) (hn : (Kd.int .u8).R 5 w' base (fun k => (O k ∧ lab k = 0) ∨ w.heap.size ≤ k) v l) : Rws w' base (fun k => O k ∨ w.heap.size ≤ k) (relab w.heap.size lab 0) v x1 x2 x3 x4 l b0 a1 b1 ws :=
  ⟨lab_new hn, lab_keep h.r1 hk (by decide) 0, lab_keep h.r2 hk (by decide) 0, lab_keep h.r3 hk (by decide) 0, lab_keep h.r4 hk (by decide) 0⟩
theorem Rws.up1 (h : Rws w base O lab x0 x1 x2 x3 x4 a0 b0 a1 b1 ws) (hk : Kept w w' (fun k => O k ∧ lab k = 1)) (hn : (Kd.int .u8).R 5 w' base (fun k => (O k ∧ lab k = 1) ∨ w.heap.size ≤ k) v l) : Rws w' base (fun k => O k ∨ w.heap.size ≤ k) (relab w.heap.size lab 1) x0 v x2 x3 x4 a0 l a1 b1 ws :=
  ⟨lab_keep h.r0 hk (by decide) 1, lab_new hn, lab_keep h.r2 hk (by decide) 1, lab_keep h.r3 hk (by decide) 1, lab_keep h.r4 hk (by decide) 1⟩
theorem Rws.up2 (h : Rws w base O lab x0 x1 x2 x3 x4 a0 b0 a1 b1 ws) (hk : Kept w w' (fun k => O k ∧ lab k = 2)) (hn : (Kd.int .u8).R 5 w' base (fun k => (O k ∧ lab k = 2) ∨ w.heap.size ≤ k) v l) : Rws w' base (fun k => O k ∨ w.heap.size ≤ k) (relab w.heap.size lab 2) x0 x1 v x3 x4 a0 b0 l b1 ws :=
  ⟨lab_keep h.r0 hk (by decide) 2, lab_keep h.r1 hk (by decide) 2, lab_new hn, lab_keep h.r3 hk (by decide) 2, lab_keep h.r4 hk (by decide) 2⟩
theorem Rws.up3 (h : Rws w base O lab x0 x1 x2 x3 x4 a0 b0 a1 b1 ws) (hk : Kept w w' (fun k => O k ∧ lab k = 3)) (hn : (Kd.int .u8).R 5 w' base (fun k => (O k ∧ lab k = 3) ∨ w.heap.size ≤ k) v l) : Rws w' base (fun k => O k ∨ w.heap.size ≤ k) (relab w.heap.size lab 3) x0 x1 x2 v x4 a0 b0 a1 l ws :=
  ⟨lab_keep h.r0 hk (by decide) 3, lab_keep h.r1 hk (by decide) 3, lab_keep h.r2 hk (by decide) 3, lab_new hn, lab_keep h.r4 hk (by decide) 3⟩
theorem Rws.up4 (h : Rws w base O lab x0 x1 x2 x3 x4 a0 b0 a1 b1 ws) (hk : Kept w w' (fun k => O k ∧ lab k = 4)) (hn : kC.R 172 w' base (fun k => (O k ∧ lab k = 4) ∨ w.heap.size ≤ k) v l') : Rws w' base (fun k => O k ∨ w.heap.size ≤ k) (relab w.heap.size lab 4) x0 x1 x2 x3 v a0 b0 a1 b1 l' :=
  ⟨lab_keep h.r0 hk (by decide) 4, lab_keep h.r1 hk (by decide) 4, lab_keep h.r2 hk (by decide) 4, lab_keep h.r3 hk (by decide) 4, lab_new hn⟩
theorem Rws.set (h : Rws w base O lab x0 x1 x2 x3 x4 a0 b0 a1 b1 ws) (hg : lab g = 5) (c : Nat) (u : Value) : Rws (w.setCell ⟨g, c, none⟩ u) base O lab x0 x1 x2 x3 x4 a0 b0 a1 b1 ws :=
  ⟨lab_far h.r0 hg (by decide) c u, lab_far h.r1 hg (by decide) c u, lab_far h.r2 hg (by decide) c u, lab_far h.r3 hg (by decide) c u, lab_far h.r4 hg (by decide) c u⟩
theorem Rws.only (h : Rws w base O lab x0 x1 x2 x3 x4 a0 b0 a1 b1 ws) (hk : Kept w w' (fun k => k = g)) (hg : lab g = 5) : Rws w' base O lab x0 x1 x2 x3 x4 a0 b0 a1 b1 ws :=
  ⟨lab_only h.r0 hk hg (by decide), lab_only h.r1 hk hg (by decide), lab_only h.r2 hk hg (by decide), lab_only h.r3 hk hg (by decide), lab_only h.r4 hk hg (by decide)⟩
theorem Rws.apart (h : Rws w base O lab x0 x1 x2 x3 x4 a0 b0 a1 b1 ws) (hk : Kept w w' S) (hS : ∀ k, O k → ¬ S k) : Rws w' base O lab x0 x1 x2 x3 x4 a0 b0 a1 b1 ws :=
  ⟨lab_apart h.r0 hk hS, lab_apart h.r1 hk hS, lab_apart h.r2 hk hS, lab_apart h.r3 hk hS, lab_apart h.r4 hk hS⟩
theorem Rws.below (h : Rws w base O lab x0 x1 x2 x3 x4 a0 b0 a1 b1 ws) (hb : Below w.heap.size w w') : Rws w' base O lab x0 x1 x2 x3 x4 a0 b0 a1 b1 ws :=
  ⟨Kd.R_below h.r0 hb, Kd.R_below h.r1 hb, Kd.R_below h.r2 hb, Kd.R_below h.r3 hb, Kd.R_below h.r4 hb⟩
theorem Rws.mono {O' : Nat → Prop} (h : Rws w base O lab x0 x1 x2 x3 x4 a0 b0 a1 b1 ws) (hO : ∀ k, O k → O' k) : Rws w base O' lab x0 x1 x2 x3 x4 a0 b0 a1 b1 ws :=
  ⟨Kd.R_mono h.r0 (fun k hk => ⟨hO k hk.1, hk.2⟩), Kd.R_mono h.r1 (fun k hk => ⟨hO k hk.1, hk.2⟩), Kd.R_mono h.r2 (fun k hk => ⟨hO k hk.1, hk.2⟩), Kd.R_mono h.r3 (fun k hk => ⟨hO k hk.1, hk.2⟩), Kd.R_mono h.r4 (fun k hk => ⟨hO k hk.1, hk.2⟩)⟩
theorem Rws.narrow (h : Rws w base O lab x0 x1 x2 x3 x4 a0 b0 a1 b1 ws) : Rws w base (fun k => O k ∧ k < w.heap.size) lab x0 x1 x2 x3 x4 a0 b0 a1 b1 ws :=
  ⟨lab_narrow h.r0, lab_narrow h.r1, lab_narrow h.r2, lab_narrow h.r3, lab_narrow h.r4⟩
end
def DX (w : World) (base g : Nat) (O : Nat → Prop) (a0 b0 a1 b1 : ByteArray) (ws : List Chg) (f : Int) (d : Bool) (c : Int) : Prop :=
  ∃ lab x0 x1 x2 x3 x4, w.heap[g]? = some (.cells (dcells x0 x1 x2 x3 x4 f d c) 146 (0, 0)) ∧ base ≤ g ∧ O g ∧ lab g = 5 ∧ Rws w base O lab x0 x1 x2 x3 x4 (bytesOf a0) (bytesOf b0) (bytesOf a1) (bytesOf b1) ws
def DD (w : World) (base g : Nat) (O : Nat → Prop) (s : St) : Prop := DX w base g O s.l0 s.s0 s.l1 s.s1 s.ws s.f s.d s.c
section
variable {w w' : World} {base g : Nat} {O S : Nat → Prop} {a0 b0 a1 b1 : ByteArray} {ws : List Chg} {f c : Int} {d : Bool}
theorem DX.apart (h : DX w base g O a0 b0 a1 b1 ws f d c) (hk : Kept w w' S) (hS : ∀ k, O k → ¬ S k) : DX w' base g O a0 b0 a1 b1 ws f d c := by
  obtain ⟨lab, x0, x1, x2, x3, x4, hb, hg, hO, hl, hr⟩ := h
  exact ⟨lab, x0, x1, x2, x3, x4, blk_kept hb hk (hS g hO), hg, hO, hl, hr.apart hk hS⟩
theorem DX.mono {O' : Nat → Prop} (h : DX w base g O a0 b0 a1 b1 ws f d c) (hS : ∀ k, O k → O' k) : DX w base g O' a0 b0 a1 b1 ws f d c := by
  obtain ⟨lab, x0, x1, x2, x3, x4, hb, hg, hO, hl, hr⟩ := h
  exact ⟨lab, x0, x1, x2, x3, x4, hb, hg, hS g hO, hl, hr.mono hS⟩
theorem DX.narrow (h : DX w base g O a0 b0 a1 b1 ws f d c) : DX w base g (fun k => O k ∧ k < w.heap.size) a0 b0 a1 b1 ws f d c := by
  obtain ⟨lab, x0, x1, x2, x3, x4, hb, hg, hO, hl, hr⟩ := h
  exact ⟨lab, x0, x1, x2, x3, x4, hb, hg, ⟨hO, blk_lt hb⟩, hl, hr.narrow⟩
end
def RX (w : World) (base g : Nat) (O : Nat → Prop) (a0 a1 : ByteArray) (ws : List Chg) (f : Int) (d : Bool) (c : Int) (x2 : Value) : Prop :=
  w.heap[g]? = some (.cells (rcells (.string a0) (.string a1) x2 f d c) 150 (0, 0)) ∧ base ≤ g ∧ O g ∧ kC.R 181 w base (fun k => O k ∧ k ≠ g) x2 ws
def RD (w : World) (base g : Nat) (O : Nat → Prop) (s : St) : Prop := ∃ x2, RX w base g O s.l0 s.l1 s.ws s.f s.d s.c x2
section
variable {w w' : World} {base g : Nat} {O S : Nat → Prop} {s : St}
theorem RD.apart (h : RD w base g O s) (hk : Kept w w' S) (hS : ∀ k, O k → ¬ S k) : RD w' base g O s := by
  obtain ⟨x2, hb, hg, hO, hr⟩ := h
  exact ⟨x2, blk_kept hb hk (hS g hO), hg, hO, Kd.R_kept hr hk (fun k h1 => hS k h1.1)⟩
theorem RD.mono {O' : Nat → Prop} (h : RD w base g O s) (hS : ∀ k, O k → O' k) : RD w base g O' s := by
  obtain ⟨x2, hb, hg, hO, hr⟩ := h
  exact ⟨x2, hb, hg, hS g hO, Kd.R_mono hr (fun k h1 => ⟨hS k h1.1, h1.2⟩)⟩
theorem RD.narrow (h : RD w base g O s) : RD w base g (fun k => O k ∧ k < w.heap.size) s := by
  obtain ⟨x2, hb, hg, hO, hr⟩ := h
  exact ⟨x2, hb, hg, ⟨hO, blk_lt hb⟩, Kd.R_mono (Kd.R_bound hr) (fun k h1 => ⟨⟨h1.1.1, h1.2.2.1⟩, h1.1.2⟩)⟩
end
end Go.Proofs.Ythaoaaboempajaa.Disk
namespace Go.Proofs.Ythaoaaboempajaa.Disk
open Go.RowKit Go.Proofs.YthaoaaboempajaaW.PrintWords Go.Proofs.YthaoaaboempajaaW.PrintLast Go.Proofs.YthaoaaboempajaaW.PrintMore Go.Proofs.YthaoaaboempajaaX
set_option linter.unusedVariables false
set_option linter.unusedSimpArgs false
theorem info172 : (Try.prog.info? 172).map (fun i => (i.zero, i.size, i.bytes)) = some (some (.agg #[.int .i64 0, .int .i64 0, .string ⟨#[]⟩, .bool false]), 4, 40) := by kernel_rfl
theorem done.calls (P0 : Nat → Prop) (u : Value) (l : List Int) (ch : Chg) (w0 w : World) (hB : Below w0.heap.size w0 w) (ho : Kd.R (Kd.int .u8) 5 w w0.heap.size P0 u l) (hn : ch.at_ + ch.text.size ≤ 140737488355000) (hl : l.length ≤ 140737488355000) :
    Calls Try.prog 150 #[chgV ch, u] w fun e w' => ∃ v : Value, e = .returned v ∧ Kd.R (Kd.int .u8) 5 w' w0.heap.size (fun k => P0 k ∨ w.heap.size ≤ k) v (doneL l ch.at_ ch.text ch.cut) ∧ Below w0.heap.size w0 w' ∧ Kept w w' P0 := by
  obtain ⟨f, a, t, c⟩ := ch
  cases c
  · exact done.put P0 u l f a t w0 w hB ho hn hl
  · exact done.cut P0 u l f a t w0 w hB ho (by dsimp only at hn; omega) hl
theorem DX.of {w : World} {base g : Nat} {O : Nat → Prop} {a0 b0 a1 b1 : ByteArray} {ws : List Chg} {f c : Int} {d : Bool} {lab : Nat → Nat} {x0 x1 x2 x3 x4 : Value} {m0 n0 m1 n1 : List Int}
    (hb : w.heap[g]? = some (.cells (dcells x0 x1 x2 x3 x4 f d c) 146 (0, 0))) (hg : base ≤ g) (hO : O g) (hl : lab g = 5) (hr : Rws w base O lab x0 x1 x2 x3 x4 m0 n0 m1 n1 ws) (e0 : bytesOf a0 = m0) (e1 : bytesOf b0 = n0) (e2 : bytesOf a1 = m1) (e3 : bytesOf b1 = n1) : DX w base g O a0 b0 a1 b1 ws f d c := by
  subst e0 e1 e2 e3
  exact ⟨lab, x0, x1, x2, x3, x4, hb, hg, hO, hl, hr⟩
theorem s0_snoc (l0 l1 : ByteArray) (ws : List Chg) (ch : Chg) (f : Int) (d : Bool) (c : Int) : (St.mk l0 l1 (ws ++ [ch]) f d c).s0 = if ch.file = 0 then onB ch (seenB 0 ws l0) else seenB 0 ws l0 := seenB_snoc _ _ _ _
theorem s1_snoc (l0 l1 : ByteArray) (ws : List Chg) (ch : Chg) (f : Int) (d : Bool) (c : Int) : (St.mk l0 l1 (ws ++ [ch]) f d c).s1 = if ch.file = 1 then onB ch (seenB 1 ws l1) else seenB 1 ws l1 := seenB_snoc _ _ _ _
theorem beq_false {a b : Int} (h : a ≠ b) : (a == b) = false := beq_eq_false_iff_ne.mpr h
set_option maxHeartbeats 8000000 in
set_option maxRecDepth 100000 in
theorem change.calls0 (g : Nat) (O : Nat → Prop) (s : St) (at_ : Nat) (t : ByteArray) (cut : Bool) (w0 w : World) (hB : Below w0.heap.size w0 w) (hD : DD w w0.heap.size g O s)
    (hf : -9223372036854775808 ≤ s.f ∧ s.f < 9223372036854775808) (hc : 0 ≤ s.c ∧ s.c < 9223372036854775807) (hn : at_ + t.size ≤ 140737488355000) (hl : s.s0.size ≤ 140737488355000) (hw : s.ws.length ≤ 1000000000000) :
    Calls Try.prog 166 #[.pointer (some ⟨g, 0, none⟩), chgV ⟨0, at_, t, cut⟩] w fun e w' => e = .returned (.int .i64 (turn s.f s.d s.c).1) ∧
      DD w' w0.heap.size g (fun k => O k ∨ w.heap.size ≤ k) (s.changed ⟨0, at_, t, cut⟩) ∧ Below w0.heap.size w0 w' ∧ Kept w w' O := by
  obtain ⟨lab, x0, x1, x2, x3, x4, hb, hg, hO, hlb, hr⟩ := hD
  have HB := Aside0.mk hB
  have HG := Aside0.mk hg
  have HO := Aside0.mk hO
  have HLB := Aside0.mk hlb
  have HR := Aside0.mk hr
  have HX := Aside0.mk hb
  have HF := Aside0.mk hf
  have HC := Aside0.mk hc
  have HN := Aside0.mk hn
  have HL := Aside0.mk hl
  have HW := Aside0.mk hw
  clear hB hb hg hO hlb hr hf hc hn hl hw
  obtain ⟨A4, c4, e4⟩ := Kd.R_slice HR.out.r4
  subst e4
  obtain ⟨A1, c1, e1⟩ := Kd.R_slice HR.out.r1
  subst e1
  go_enter Try.func166, Try.ntmps166
  go_upto_region 1 with ((with_reducible refine gate_dst (N := 3) rfl ?_); refine box_event ?hg (N := 3) ?hd (cs := #[.int .i64 0, .int .i64 (at_ : Int), .string t, .bool cut]) (t := 172) ?hr ?_; (case hd => rfl); (case hg => rfl); (case hr => first | (go_simp; done) | (go_simp; rfl)); intro gb hgb w1 hbox hb; have HX1 := Aside0.mk hbox; have HB0 := Aside0.mk hb; have HGB := Aside0.mk hgb; clear hgb hbox hb)
  have HX0 := Aside0.mk (blk_below HX.out HB0.out)
  have HR0 := Aside0.mk (HR.out.below HB0.out)
  have HB1 := Aside0.mk (below_step HB.out HB0.out)
  have HNE := Aside0.mk (show gb ≠ g from blk_ne HX1.out HX0.out (by decide))
  have HLT4 := Aside0.mk (Kd.R_lt HR.out.r4)
  clear HX HR HB
  go_upto_region 2 with (go_at_call 168; (refine (turn.calls g _ _ _ _ _ s.f s.d s.c w0 _ HB1.out HG.out HX0.out HF.out HC.out).mono ?_); rintro e2 w2 ⟨rfl, hx2, hb2, hk2, hs2⟩; have HX2 := Aside0.mk hx2; have HB2 := Aside0.mk hb2; have HK2 := Aside0.mk hk2; have HS2 := Aside0.mk hs2; clear hx2 hb2 hk2 hs2)
  have HX3 := Aside0.mk (blk_kept HX1.out HK2.out HNE.out)
  have HR2 := Aside0.mk (HR0.out.only HK2.out HLB.out)
  have HKw := Aside0.mk (Kept.then_ (Kept.of_below HB0.out O) HK2.out (fun k hk => .inl (by rw [hk]; exact HO.out)))
  have HSZ := Aside0.mk (show w.heap.size ≤ w2.heap.size by rw [HS2.out]; exact HB0.out.size)
  clear HX1 HB0 HX0 HR0 HB1 HK2 HS2
  rcases turn_cases s.f s.d s.c with ⟨e0, -⟩ | ⟨e0, -⟩
  · have HE := Aside0.mk e0
    rw [e0]
    clear e0
    go_upto_region 4 with (fail)
    have c4_ : w2.cell? ⟨g, 4, none⟩ = some (.slice A4 s.ws.length c4) := (blk_cell HX2.out 4).trans rfl
    have c4b_ : ∀ o, (w2.alloc o).cell? ⟨g, 4, none⟩ = some (.slice A4 s.ws.length c4) := fun o => (blk_cell (blk_alloc HX2.out o) 4).trans rfl
    have q0 : w2.cell? ⟨gb, 0, none⟩ = some (.int .i64 0) := (blk_cell HX3.out 0).trans rfl
    have q1 : w2.cell? ⟨gb, 1, none⟩ = some (.int .i64 (at_ : Int)) := (blk_cell HX3.out 1).trans rfl
    have q2 : w2.cell? ⟨gb, 2, none⟩ = some (.string t) := (blk_cell HX3.out 2).trans rfl
    have q3 : w2.cell? ⟨gb, 3, none⟩ = some (.bool cut) := (blk_cell HX3.out 3).trans rfl
    have HW' := HW.out
    go_cut [] from 12 to 21 (fun wx => Aside0 (∃ lb y4, wx.heap[g]? = some (.cells (dcells x0 (.slice A1 (bytesOf s.s0).length c1) x2 x3 y4 (turn s.f s.d s.c).2.1 (turn s.f s.d s.c).2.2.1 (turn s.f s.d s.c).2.2.2) 146 (0, 0)) ∧ lb g = 5 ∧ Rws wx w0.heap.size (fun k => O k ∨ w2.heap.size ≤ k) lb x0 (.slice A1 (bytesOf s.s0).length c1) x2 x3 y4 (bytesOf s.l0) (bytesOf s.s0) (bytesOf s.l1) (bytesOf s.s1) (s.ws ++ [⟨0, at_, t, cut⟩])) ∧ Aside0 (wx.heap[gb]? = some (.cells #[.int .i64 0, .int .i64 (at_ : Int), .string t, .bool cut] 172 (0, 0))) ∧ Aside0 (Below w0.heap.size w0 wx) ∧ Aside0 (Kept w wx O) ∧ Aside0 (w2.heap.size ≤ wx.heap.size))
    case first =>
      go_region_law (refine Kd.R_append_step (W := w2.drew) kC w0.heap.size rfl (.tmp 16) (.tmp 18) 144 172 (.agg #[.int .i64 0, .int .i64 0, .string ⟨#[]⟩, .bool false]) 40 rfl Try.underlying144 info172 rfl (by decide) (by omega) (.slice A4 s.ws.length c4) s.ws ⟨0, at_, t, cut⟩ _ (fun k => (O k ∧ lab k = 4) ∨ w2.heap.size ≤ k) (fun _ => False) rfl rfl (kC_M _) (fun _ hk => hk.elim) (fun k hk => .inr hk) (Kd.R_mono (Kd.R_drew HR2.out.r4) (fun k hk => .inl hk)) (below_drew1 HB2.out) (below_size (below_drew1 HB2.out)) (by omega) ?_; intro v1 w3 ho hb hg hat; obtain ⟨A5, c5, e5⟩ := Kd.R_slice ho; rw [List.length_append, List.length_singleton] at e5; subst e5; have HO3 := Aside0.mk ho; have HB3 := Aside0.mk hb; have HG3 := Aside0.mk hg; have HX4 := Aside0.mk (blk_grown (blk_drew HX2.out) hg (Kd.R_ne HR2.out.r4 HX2.out (by decide))); have HX5 := Aside0.mk (blk_grown (blk_drew HX3.out) hg (fun he => by have h1 := HLT4.out _ he.symm; rw [HGB.out] at h1; exact Nat.lt_irrefl _ h1)); have z5 := blk_frozen HX4.out 4; have c5_ : w3.cell? ⟨g, 4, none⟩ = some (.slice A4 s.ws.length c4) := (blk_cell HX4.out 4).trans rfl; clear ho hb hg hat)
      all_goals
        go_wp2_with (fail)
        go_meet
        have HK3 := Aside0.mk (show Kept w2 w3 (fun k => O k ∧ lab k = 4) from Kept.of_grown HG3.out (Kept.drew (Kept.refl w2 _)) (fun k hk => .inl (HR2.out.r4.1 k hk)))
        have HLB3 := Aside0.mk (show relab w2.heap.size lab 4 g = 5 by unfold relab; rw [if_pos (blk_lt HX2.out)]; exact HLB.out)
        exact ⟨⟨_, _, blk_put HX4.out 4 _ rfl, HLB3.out, (HR2.out.up4 HK3.out HO3.out).set HLB3.out 4 _⟩, ⟨blk_far HX5.out (p := ⟨g, 4, none⟩) HNE.out _⟩, ⟨HB3.out.setCell (p := ⟨g, 4, none⟩) HG.out _⟩, ⟨(HKw.out.then_ HK3.out (fun k hk => .inl hk.1)).setCell (p := ⟨g, 4, none⟩) (.inl HO.out) _⟩, ⟨by simp; exact HK3.out.1⟩⟩
    case rest =>
      obtain ⟨HC4, HX7, HB4, HK4, HS4⟩ := hcut
      clear c4_ c4b_ q0 q1 q2 q3 HX2 HX3 HR2 HB2 HKw HLT4
      obtain ⟨lb, y4, hx, hlb, hr⟩ := HC4.out
      have HX6 := Aside0.mk hx
      have HLB6 := Aside0.mk hlb
      have HR6 := Aside0.mk hr
      clear HC4 hx hlb hr
      have q0 : wc.cell? ⟨gb, 0, none⟩ = some (.int .i64 0) := (blk_cell HX7.out 0).trans rfl
      have q1 : wc.cell? ⟨gb, 1, none⟩ = some (.int .i64 (at_ : Int)) := (blk_cell HX7.out 1).trans rfl
      have q2 : wc.cell? ⟨gb, 2, none⟩ = some (.string t) := (blk_cell HX7.out 2).trans rfl
      have q3 : wc.cell? ⟨gb, 3, none⟩ = some (.bool cut) := (blk_cell HX7.out 3).trans rfl
      have q4 : wc.cell? ⟨g, 1, none⟩ = some (.slice A1 (bytesOf s.s0).length c1) := (blk_cell HX6.out 1).trans rfl
      go_upto_region 5 with (fail)
      go_quiet (fail)
      go_upto_region 6 with (fail)
      clear q0 q1 q2 q3 q4
      have HX8 := Aside0.mk (blk_drewN HX6.out nq)
      have HX9 := Aside0.mk (blk_drewN HX7.out nq)
      have HR8 := Aside0.mk (HR6.out.below (pw_below_drewN (Below.refl _ wc) nq))
      have HB8 := Aside0.mk (pw_below_drewN HB4.out nq)
      have HK8 := Aside0.mk (Kept.drewN HK4.out nq)
      have HS8 := Aside0.mk (show w2.heap.size ≤ (wc.drewN nq).heap.size from HS4.out)
      clear HX6 HX7 HR6 HB4 HK4 HS4
      generalize wc.drewN nq = w5 at HX8 HX9 HR8 HB8 HK8 HS8 ⊢
      have q0 : w5.cell? ⟨gb, 0, none⟩ = some (.int .i64 0) := (blk_cell HX9.out 0).trans rfl
      have q1 : w5.cell? ⟨gb, 1, none⟩ = some (.int .i64 (at_ : Int)) := (blk_cell HX9.out 1).trans rfl
      have q2 : w5.cell? ⟨gb, 2, none⟩ = some (.string t) := (blk_cell HX9.out 2).trans rfl
      have q3 : w5.cell? ⟨gb, 3, none⟩ = some (.bool cut) := (blk_cell HX9.out 3).trans rfl
      have q4 : w5.cell? ⟨g, 1, none⟩ = some (.slice A1 (bytesOf s.s0).length c1) := (blk_cell HX8.out 1).trans rfl
      go_region_law (first
        | (refine goes_ Try.func150 (by kernel_rfl) rfl #[chgV ⟨0, at_, t, cut⟩, .slice A1 (bytesOf s.s0).length c1] (by rfl) rfl rfl (by (try simp only [List.map_toArray, List.map_cons, List.map_nil]); first | done | rfl) ?_; refine (done.calls _ _ _ ⟨0, at_, t, cut⟩ w0 _ (below_drew1 HB8.out) (Kd.R_drew HR8.out.r1) HN.out (by rw [bytesOf_length]; exact HL.out)).mono ?_; rintro e w6 ⟨v6, rfl, ho, hb, hk⟩; obtain ⟨A6, c6, e6⟩ := Kd.R_slice ho; subst e6; refine ⟨_, rfl, ?_⟩; have HO9 := Aside0.mk ho; have HB9 := Aside0.mk hb; have HK9 := Aside0.mk hk; have HXA := Aside0.mk (blk_kept (blk_drew HX8.out) hk (fun he => absurd (HLB6.out.symm.trans he.2) (by decide))); have z6 := blk_frozen HXA.out 1; have c6_ : w6.cell? ⟨g, 1, none⟩ = some (.slice A1 (bytesOf s.s0).length c1) := (blk_cell HXA.out 1).trans rfl; clear ho hb hk))
      all_goals
        go_wp2_with (fail)
        go_ret
        have HL9 := Aside0.mk (show relab w5.drew.heap.size lb 1 g = 5 by unfold relab; rw [if_pos (blk_lt (blk_drew HX8.out))]; exact HLB6.out)
        refine ⟨by rw [HE.out]; rfl, ?_, HB9.out.setCell (p := ⟨g, 1, none⟩) HG.out _, ((Kept.drew HK8.out).then_ HK9.out (fun k hk => ?_)).setCell (p := ⟨g, 1, none⟩) (.inl HO.out) _⟩
        · unfold St.changed
          rw [if_pos HE.out]
          refine DX.mono (O := fun k => (O k ∨ w2.heap.size ≤ k) ∨ w5.drew.heap.size ≤ k) (DX.of (lab := relab w5.drew.heap.size lb 1) (blk_put HXA.out 1 _ rfl) HG.out (.inl (.inl HO.out)) HL9.out (((HR8.out.below (below_drew (Below.refl _ w5))).up1 HK9.out HO9.out).set HL9.out 1 _) rfl (by rw [s0_snoc, if_pos rfl]; exact bytesOf_onB _ _) rfl (by rw [s1_snoc, if_neg (show ¬ ((0 : Int) = 1) by decide)]; rfl)) ?_
          rintro k ((hk | hk) | hk)
          · exact .inl hk
          · exact .inr (Nat.le_trans HSZ.out hk)
          · exact .inr (Nat.le_trans HSZ.out (Nat.le_trans HS8.out hk))
        · rcases hk.1 with h | h
          · exact .inl h
          · exact .inr (Nat.le_trans HSZ.out h)
  · have HE := Aside0.mk e0
    rw [e0]
    clear e0
    go_upto_region 3 with (fail)
    go_wp2_with (fail)
    go_ret
    refine ⟨by rw [HE.out]; rfl, DX.mono ?_ (fun k hk => .inl hk), HB2.out, HKw.out⟩
    unfold St.changed
    rw [if_neg (by rw [HE.out]; decide)]
    exact ⟨lab, _, _, _, _, _, HX2.out, HG.out, HO.out, HLB.out, HR2.out⟩
set_option maxHeartbeats 8000000 in
set_option maxRecDepth 100000 in
theorem change.calls1 (g : Nat) (O : Nat → Prop) (s : St) (at_ : Nat) (t : ByteArray) (cut : Bool) (w0 w : World) (hB : Below w0.heap.size w0 w) (hD : DD w w0.heap.size g O s)
    (hf : -9223372036854775808 ≤ s.f ∧ s.f < 9223372036854775808) (hc : 0 ≤ s.c ∧ s.c < 9223372036854775807) (hn : at_ + t.size ≤ 140737488355000) (hl : s.s1.size ≤ 140737488355000) (hw : s.ws.length ≤ 1000000000000) :
    Calls Try.prog 166 #[.pointer (some ⟨g, 0, none⟩), chgV ⟨1, at_, t, cut⟩] w fun e w' => e = .returned (.int .i64 (turn s.f s.d s.c).1) ∧
      DD w' w0.heap.size g (fun k => O k ∨ w.heap.size ≤ k) (s.changed ⟨1, at_, t, cut⟩) ∧ Below w0.heap.size w0 w' ∧ Kept w w' O := by
  obtain ⟨lab, x0, x1, x2, x3, x4, hb, hg, hO, hlb, hr⟩ := hD
  have HB := Aside0.mk hB
  have HG := Aside0.mk hg
  have HO := Aside0.mk hO
  have HLB := Aside0.mk hlb
  have HR := Aside0.mk hr
  have HX := Aside0.mk hb
  have HF := Aside0.mk hf
  have HC := Aside0.mk hc
  have HN := Aside0.mk hn
  have HL := Aside0.mk hl
  have HW := Aside0.mk hw
  clear hB hb hg hO hlb hr hf hc hn hl hw
  obtain ⟨A4, c4, e4⟩ := Kd.R_slice HR.out.r4
  subst e4
  obtain ⟨A1, c1, e1⟩ := Kd.R_slice HR.out.r3
  subst e1
  go_enter Try.func166, Try.ntmps166
  go_upto_region 1 with ((with_reducible refine gate_dst (N := 3) rfl ?_); refine box_event ?hg (N := 3) ?hd (cs := #[.int .i64 1, .int .i64 (at_ : Int), .string t, .bool cut]) (t := 172) ?hr ?_; (case hd => rfl); (case hg => rfl); (case hr => first | (go_simp; done) | (go_simp; rfl)); intro gb hgb w1 hbox hb; have HX1 := Aside0.mk hbox; have HB0 := Aside0.mk hb; have HGB := Aside0.mk hgb; clear hgb hbox hb)
  have HX0 := Aside0.mk (blk_below HX.out HB0.out)
  have HR0 := Aside0.mk (HR.out.below HB0.out)
  have HB1 := Aside0.mk (below_step HB.out HB0.out)
  have HNE := Aside0.mk (show gb ≠ g from blk_ne HX1.out HX0.out (by decide))
  have HLT4 := Aside0.mk (Kd.R_lt HR.out.r4)
  clear HX HR HB
  go_upto_region 2 with (go_at_call 168; (refine (turn.calls g _ _ _ _ _ s.f s.d s.c w0 _ HB1.out HG.out HX0.out HF.out HC.out).mono ?_); rintro e2 w2 ⟨rfl, hx2, hb2, hk2, hs2⟩; have HX2 := Aside0.mk hx2; have HB2 := Aside0.mk hb2; have HK2 := Aside0.mk hk2; have HS2 := Aside0.mk hs2; clear hx2 hb2 hk2 hs2)
  have HX3 := Aside0.mk (blk_kept HX1.out HK2.out HNE.out)
  have HR2 := Aside0.mk (HR0.out.only HK2.out HLB.out)
  have HKw := Aside0.mk (Kept.then_ (Kept.of_below HB0.out O) HK2.out (fun k hk => .inl (by rw [hk]; exact HO.out)))
  have HSZ := Aside0.mk (show w.heap.size ≤ w2.heap.size by rw [HS2.out]; exact HB0.out.size)
  clear HX1 HB0 HX0 HR0 HB1 HK2 HS2
  rcases turn_cases s.f s.d s.c with ⟨e0, -⟩ | ⟨e0, -⟩
  · have HE := Aside0.mk e0
    rw [e0]
    clear e0
    go_upto_region 4 with (fail)
    have c4_ : w2.cell? ⟨g, 4, none⟩ = some (.slice A4 s.ws.length c4) := (blk_cell HX2.out 4).trans rfl
    have c4b_ : ∀ o, (w2.alloc o).cell? ⟨g, 4, none⟩ = some (.slice A4 s.ws.length c4) := fun o => (blk_cell (blk_alloc HX2.out o) 4).trans rfl
    have q0 : w2.cell? ⟨gb, 0, none⟩ = some (.int .i64 1) := (blk_cell HX3.out 0).trans rfl
    have q1 : w2.cell? ⟨gb, 1, none⟩ = some (.int .i64 (at_ : Int)) := (blk_cell HX3.out 1).trans rfl
    have q2 : w2.cell? ⟨gb, 2, none⟩ = some (.string t) := (blk_cell HX3.out 2).trans rfl
    have q3 : w2.cell? ⟨gb, 3, none⟩ = some (.bool cut) := (blk_cell HX3.out 3).trans rfl
    have HW' := HW.out
    go_cut [] from 12 to 21 (fun wx => Aside0 (∃ lb y4, wx.heap[g]? = some (.cells (dcells x0 x1 x2 (.slice A1 (bytesOf s.s1).length c1) y4 (turn s.f s.d s.c).2.1 (turn s.f s.d s.c).2.2.1 (turn s.f s.d s.c).2.2.2) 146 (0, 0)) ∧ lb g = 5 ∧ Rws wx w0.heap.size (fun k => O k ∨ w2.heap.size ≤ k) lb x0 x1 x2 (.slice A1 (bytesOf s.s1).length c1) y4 (bytesOf s.l0) (bytesOf s.s0) (bytesOf s.l1) (bytesOf s.s1) (s.ws ++ [⟨1, at_, t, cut⟩])) ∧ Aside0 (wx.heap[gb]? = some (.cells #[.int .i64 1, .int .i64 (at_ : Int), .string t, .bool cut] 172 (0, 0))) ∧ Aside0 (Below w0.heap.size w0 wx) ∧ Aside0 (Kept w wx O) ∧ Aside0 (w2.heap.size ≤ wx.heap.size))
    case first =>
      go_region_law (refine Kd.R_append_step (W := w2.drew) kC w0.heap.size rfl (.tmp 16) (.tmp 18) 144 172 (.agg #[.int .i64 0, .int .i64 0, .string ⟨#[]⟩, .bool false]) 40 rfl Try.underlying144 info172 rfl (by decide) (by omega) (.slice A4 s.ws.length c4) s.ws ⟨1, at_, t, cut⟩ _ (fun k => (O k ∧ lab k = 4) ∨ w2.heap.size ≤ k) (fun _ => False) rfl rfl (kC_M _) (fun _ hk => hk.elim) (fun k hk => .inr hk) (Kd.R_mono (Kd.R_drew HR2.out.r4) (fun k hk => .inl hk)) (below_drew1 HB2.out) (below_size (below_drew1 HB2.out)) (by omega) ?_; intro v1 w3 ho hb hg hat; obtain ⟨A5, c5, e5⟩ := Kd.R_slice ho; rw [List.length_append, List.length_singleton] at e5; subst e5; have HO3 := Aside0.mk ho; have HB3 := Aside0.mk hb; have HG3 := Aside0.mk hg; have HX4 := Aside0.mk (blk_grown (blk_drew HX2.out) hg (Kd.R_ne HR2.out.r4 HX2.out (by decide))); have HX5 := Aside0.mk (blk_grown (blk_drew HX3.out) hg (fun he => by have h1 := HLT4.out _ he.symm; rw [HGB.out] at h1; exact Nat.lt_irrefl _ h1)); have z5 := blk_frozen HX4.out 4; have c5_ : w3.cell? ⟨g, 4, none⟩ = some (.slice A4 s.ws.length c4) := (blk_cell HX4.out 4).trans rfl; clear ho hb hg hat)
      all_goals
        go_wp2_with (fail)
        go_meet
        have HK3 := Aside0.mk (show Kept w2 w3 (fun k => O k ∧ lab k = 4) from Kept.of_grown HG3.out (Kept.drew (Kept.refl w2 _)) (fun k hk => .inl (HR2.out.r4.1 k hk)))
        have HLB3 := Aside0.mk (show relab w2.heap.size lab 4 g = 5 by unfold relab; rw [if_pos (blk_lt HX2.out)]; exact HLB.out)
        exact ⟨⟨_, _, blk_put HX4.out 4 _ rfl, HLB3.out, (HR2.out.up4 HK3.out HO3.out).set HLB3.out 4 _⟩, ⟨blk_far HX5.out (p := ⟨g, 4, none⟩) HNE.out _⟩, ⟨HB3.out.setCell (p := ⟨g, 4, none⟩) HG.out _⟩, ⟨(HKw.out.then_ HK3.out (fun k hk => .inl hk.1)).setCell (p := ⟨g, 4, none⟩) (.inl HO.out) _⟩, ⟨by simp; exact HK3.out.1⟩⟩
    case rest =>
      obtain ⟨HC4, HX7, HB4, HK4, HS4⟩ := hcut
      clear c4_ c4b_ q0 q1 q2 q3 HX2 HX3 HR2 HB2 HKw HLT4
      obtain ⟨lb, y4, hx, hlb, hr⟩ := HC4.out
      have HX6 := Aside0.mk hx
      have HLB6 := Aside0.mk hlb
      have HR6 := Aside0.mk hr
      clear HC4 hx hlb hr
      have q0 : wc.cell? ⟨gb, 0, none⟩ = some (.int .i64 1) := (blk_cell HX7.out 0).trans rfl
      have q1 : wc.cell? ⟨gb, 1, none⟩ = some (.int .i64 (at_ : Int)) := (blk_cell HX7.out 1).trans rfl
      have q2 : wc.cell? ⟨gb, 2, none⟩ = some (.string t) := (blk_cell HX7.out 2).trans rfl
      have q3 : wc.cell? ⟨gb, 3, none⟩ = some (.bool cut) := (blk_cell HX7.out 3).trans rfl
      have q4 : wc.cell? ⟨g, 3, none⟩ = some (.slice A1 (bytesOf s.s1).length c1) := (blk_cell HX6.out 3).trans rfl
      go_upto_region 5 with (fail)
      go_quiet (fail)
      go_upto_region 6 with (fail)
      clear q0 q1 q2 q3 q4
      have HX8 := Aside0.mk (blk_drewN HX6.out nq)
      have HX9 := Aside0.mk (blk_drewN HX7.out nq)
      have HR8 := Aside0.mk (HR6.out.below (pw_below_drewN (Below.refl _ wc) nq))
      have HB8 := Aside0.mk (pw_below_drewN HB4.out nq)
      have HK8 := Aside0.mk (Kept.drewN HK4.out nq)
      have HS8 := Aside0.mk (show w2.heap.size ≤ (wc.drewN nq).heap.size from HS4.out)
      clear HX6 HX7 HR6 HB4 HK4 HS4
      generalize wc.drewN nq = w5 at HX8 HX9 HR8 HB8 HK8 HS8 ⊢
      have q0 : w5.cell? ⟨gb, 0, none⟩ = some (.int .i64 1) := (blk_cell HX9.out 0).trans rfl
      have q1 : w5.cell? ⟨gb, 1, none⟩ = some (.int .i64 (at_ : Int)) := (blk_cell HX9.out 1).trans rfl
      have q2 : w5.cell? ⟨gb, 2, none⟩ = some (.string t) := (blk_cell HX9.out 2).trans rfl
      have q3 : w5.cell? ⟨gb, 3, none⟩ = some (.bool cut) := (blk_cell HX9.out 3).trans rfl
      have q4 : w5.cell? ⟨g, 3, none⟩ = some (.slice A1 (bytesOf s.s1).length c1) := (blk_cell HX8.out 3).trans rfl
      go_region_law (first
        | (refine goes_ Try.func150 (by kernel_rfl) rfl #[chgV ⟨1, at_, t, cut⟩, .slice A1 (bytesOf s.s1).length c1] (by rfl) rfl rfl (by (try simp only [List.map_toArray, List.map_cons, List.map_nil]); first | done | rfl) ?_; refine (done.calls _ _ _ ⟨1, at_, t, cut⟩ w0 _ (below_drew1 HB8.out) (Kd.R_drew HR8.out.r3) HN.out (by rw [bytesOf_length]; exact HL.out)).mono ?_; rintro e w6 ⟨v6, rfl, ho, hb, hk⟩; obtain ⟨A6, c6, e6⟩ := Kd.R_slice ho; subst e6; refine ⟨_, rfl, ?_⟩; have HO9 := Aside0.mk ho; have HB9 := Aside0.mk hb; have HK9 := Aside0.mk hk; have HXA := Aside0.mk (blk_kept (blk_drew HX8.out) hk (fun he => absurd (HLB6.out.symm.trans he.2) (by decide))); have z6 := blk_frozen HXA.out 3; have c6_ : w6.cell? ⟨g, 3, none⟩ = some (.slice A1 (bytesOf s.s1).length c1) := (blk_cell HXA.out 3).trans rfl; clear ho hb hk))
      all_goals
        go_wp2_with (fail)
        go_ret
        have HL9 := Aside0.mk (show relab w5.drew.heap.size lb 3 g = 5 by unfold relab; rw [if_pos (blk_lt (blk_drew HX8.out))]; exact HLB6.out)
        refine ⟨by rw [HE.out]; rfl, ?_, HB9.out.setCell (p := ⟨g, 3, none⟩) HG.out _, ((Kept.drew HK8.out).then_ HK9.out (fun k hk => ?_)).setCell (p := ⟨g, 3, none⟩) (.inl HO.out) _⟩
        · unfold St.changed
          rw [if_pos HE.out]
          refine DX.mono (O := fun k => (O k ∨ w2.heap.size ≤ k) ∨ w5.drew.heap.size ≤ k) (DX.of (lab := relab w5.drew.heap.size lb 3) (blk_put HXA.out 3 _ rfl) HG.out (.inl (.inl HO.out)) HL9.out (((HR8.out.below (below_drew (Below.refl _ w5))).up3 HK9.out HO9.out).set HL9.out 3 _) rfl (by rw [s0_snoc, if_neg (show ¬ ((1 : Int) = 0) by decide)]; rfl) rfl (by rw [s1_snoc, if_pos rfl]; exact bytesOf_onB _ _)) ?_
          rintro k ((hk | hk) | hk)
          · exact .inl hk
          · exact .inr (Nat.le_trans HSZ.out hk)
          · exact .inr (Nat.le_trans HSZ.out (Nat.le_trans HS8.out hk))
        · rcases hk.1 with h | h
          · exact .inl h
          · exact .inr (Nat.le_trans HSZ.out h)
  · have HE := Aside0.mk e0
    rw [e0]
    clear e0
    go_upto_region 3 with (fail)
    go_wp2_with (fail)
    go_ret
    refine ⟨by rw [HE.out]; rfl, DX.mono ?_ (fun k hk => .inl hk), HB2.out, HKw.out⟩
    unfold St.changed
    rw [if_neg (by rw [HE.out]; decide)]
    exact ⟨lab, _, _, _, _, _, HX2.out, HG.out, HO.out, HLB.out, HR2.out⟩
end Go.Proofs.Ythaoaaboempajaa.Disk
namespace Go.Proofs.Ythaoaaboempajaa.Disk
open Go.RowKit Go.Proofs.YthaoaaboempajaaW.PrintWords Go.Proofs.YthaoaaboempajaaW.PrintLast Go.Proofs.YthaoaaboempajaaW.PrintMore Go.Proofs.YthaoaaboempajaaX Go.Proofs.Ythaoaaboempajaa.QDiskRuns
set_option linter.unusedVariables false
set_option linter.unusedSimpArgs false
def rightB (f a n : Int) : Bool := decide (0 ≤ f ∧ f < 2 ∧ 0 ≤ a ∧ 0 ≤ n ∧ a ≤ 67108864 ∧ n ≤ 67108864 - a)
theorem right_is (f a n : Int) : disk_right.f f a n = some (rightB f a n) := by
  unfold disk_right.f rightB
  by_cases h1 : f ≥ 0
  · rw [if_pos h1]
    by_cases h2 : f < 2
    · rw [if_pos h2]
      by_cases h3 : a ≥ 0
      · rw [if_pos h3]
        by_cases h4 : n ≥ 0
        · rw [if_pos h4]
          by_cases h5 : a ≤ 67108864
          · rw [if_pos h5, show wrap64 (67108864 - a) = 67108864 - a by unfold wrap64; omega]
            simp [h1, h2, h3, h4, h5]
          · rw [if_neg h5]; simp [h5]
        · rw [if_neg h4]; simp; omega
      · rw [if_neg h3]; simp; omega
    · rw [if_neg h2]; simp; omega
  · rw [if_neg h1]; simp; omega
theorem fits_is (f a n : Int) : relstoreref_fits.f f a n = some (rightB f a n) := by
  unfold relstoreref_fits.f relstoreref_in.f rightB
  by_cases h1 : f ≥ 0
  · rw [if_pos h1, Option.bind_some]
    by_cases h2 : f ≤ 1
    · rw [if_pos (by simpa using h2)]
      by_cases h3 : a ≥ 0
      · rw [if_pos h3, Option.bind_some]
        by_cases h5 : a ≤ 67108864
        · rw [if_pos (by simpa using h5)]
          by_cases h4 : n ≥ 0
          · rw [if_pos h4, show wrap64 (67108864 - a) = 67108864 - a by unfold wrap64; omega, Option.bind_some]
            congr 1
            rw [decide_eq_decide]
            omega
          · rw [if_neg h4, Option.bind_some]; congr 1; symm; rw [decide_eq_false_iff_not]; omega
        · rw [if_neg (by simpa using h5)]; congr 1; symm; rw [decide_eq_false_iff_not]; omega
      · rw [if_neg h3, Option.bind_some, if_neg (by decide)]; congr 1; symm; rw [decide_eq_false_iff_not]; omega
    · rw [if_neg (by simpa using h2)]; congr 1; symm; rw [decide_eq_false_iff_not]; omega
  · rw [if_neg h1, Option.bind_some, if_neg (by decide)]; congr 1; symm; rw [decide_eq_false_iff_not]; omega
theorem right_file {f a n : Int} (h : rightB f a n = true) : (f = 0 ∨ f = 1) ∧ 0 ≤ a ∧ 0 ≤ n ∧ a + n ≤ 67108864 := by
  unfold rightB at h
  have := of_decide_eq_true h
  omega
def seenOf (s : St) (f : Int) : ByteArray := if f = 0 then s.s0 else s.s1
theorem seenOf0 (s : St) : seenOf s 0 = s.s0 := if_pos rfl
theorem seenOf1 (s : St) : seenOf s 1 = s.s1 := if_neg (by decide)
theorem seenOf_size {s : St} {m : Nat} (h : s.ok m) (f : Int) : (seenOf s f).size ≤ maxFile := by unfold seenOf; split; exact h.s0; exact h.s1
def St.write (s : St) (f a : Int) (t : ByteArray) : Int × St := if rightB f a t.size = true then ((turn s.f s.d s.c).1, s.changed ⟨f, a.toNat, t, false⟩) else (1, s)
def St.cutTo (s : St) (f a : Int) : Int × St := if rightB f a 0 = true then ((turn s.f s.d s.c).1, s.changed ⟨f, a.toNat, ByteArray.empty, true⟩) else (1, s)
def St.size (s : St) (f : Int) : Int × Int := if rightB f 0 0 = true then (if s.d = true then (0, 2) else ((seenOf s f).size, 0)) else (0, 1)
def St.read (s : St) (f a n : Int) : ByteArray × Int := if rightB f a n = true then (if s.d = true then (ByteArray.empty, 2) else (if a + n > (seenOf s f).size then (ByteArray.empty, 3) else ((seenOf s f).extract a.toNat (a + n).toNat, 0))) else (ByteArray.empty, 1)
def St.new : St := ⟨ByteArray.empty, ByteArray.empty, [], -1, false, 0⟩
theorem St.new_ok : St.new.ok 0 := ⟨Nat.zero_le _, Nat.zero_le _, (fun _ h => by cases h), ⟨by decide, by decide⟩, ⟨by decide, by decide⟩, by decide⟩
theorem drawn_keep {w w' : World} {base g : Nat} {O : Nat → Prop} {s : St} (h : Drawn0 w w') (hD : DD w base g O s) : DD w' base g O s := DX.apart hD (S := fun _ => False) (Kept.of_below h.below _) (fun _ _ h => h)
theorem new.calls (w0 w : World) (hB : Below w0.heap.size w0 w) :
    Calls Try.prog 58 #[] w fun e w' => ∃ g, e = .returned (.pointer (some ⟨g, 0, none⟩)) ∧ w.heap.size ≤ g ∧ DD w' w0.heap.size g (fun k => w.heap.size ≤ k) St.new ∧ Below w.heap.size w w' := by
  have HB := Aside0.mk hB
  clear hB
  go_enter Try.func58, Try.ntmps58
  go_wp2_with ((with_reducible refine gate_dst (N := 2) rfl ?_); refine box_event ?hg (N := 2) ?hd (cs := dcells (.slice none 0 0) (.slice none 0 0) (.slice none 0 0) (.slice none 0 0) (.slice none 0 0) (-1) false 0) (t := 146) ?hr ?_; (case hd => rfl); (case hg => rfl); (case hr => first | (go_simp; done) | (go_simp; rfl)); intro gb hgb w1 hbox hb; have HX1 := Aside0.mk hbox; have HB0 := Aside0.mk hb; have HGB := Aside0.mk hgb; clear hgb hbox hb)
  go_ret
  refine ⟨gb, rfl, Nat.le_of_eq HGB.out.symm, ?_, HB0.out⟩
  refine ⟨fun k => 5, _, _, _, _, _, HX1.out, ?_, Nat.le_of_eq HGB.out.symm, rfl, ?_⟩
  · rw [HGB.out]; exact HB.out.size
  · exact ⟨Kd.R_nil _ _ _ _ _, Kd.R_nil _ _ _ _ _, Kd.R_nil _ _ _ _ _, Kd.R_nil _ _ _ _ _, Kd.R_nil _ _ _ _ _⟩
set_option maxHeartbeats 4000000 in
theorem write.calls (g : Nat) (O : Nat → Prop) (s : St) (f a : Int) (t : ByteArray) (m : Nat) (w0 w : World) (hB : Below w0.heap.size w0 w) (hD : DD w w0.heap.size g O s) (hok : s.ok m) (hm : m ≤ 1000000000) :
    Calls Try.prog 125 #[.pointer (some ⟨g, 0, none⟩), .int .i64 f, .int .i64 a, .string t] w fun e w' => e = .returned (.int .i64 (s.write f a t).1) ∧
      DD w' w0.heap.size g (fun k => O k ∨ w.heap.size ≤ k) (s.write f a t).2 ∧ Below w0.heap.size w0 w' ∧ Kept w w' O := by
  have HB := Aside0.mk hB
  have HD := Aside0.mk hD
  have HOK := Aside0.mk hok
  have HM := Aside0.mk hm
  clear hB hD hok hm
  by_cases hr : rightB f a t.size = true
  · obtain ⟨hf, ha, hn, han⟩ := right_file hr
    obtain ⟨a, rfl⟩ : ∃ b : Nat, a = (b : Int) := ⟨a.toNat, by omega⟩
    have HRT := Aside0.mk hr
    have HF := Aside0.mk hf
    have HAN := Aside0.mk han
    have hw : s.write f a t = ((turn s.f s.d s.c).1, s.changed ⟨f, a, t, false⟩) := by unfold St.write; rw [if_pos hr, Int.toNat_natCast]
    rw [hw]
    clear hr hf ha hn han hw
    go_enter Try.func125, Try.ntmps125
    go_upto_region 3 with (go_at_call 164; (refine (disk_right.calls f a t.size true _ (by rw [right_is, HRT.out])).mono ?_); rintro e2 w2 ⟨rfl, hd2⟩; have HW2 := Aside0.mk hd2; clear hd2)
    have HD2 := Aside0.mk (drawn_keep HW2.out HD.out)
    have HB2 := Aside0.mk (below_step HB.out HW2.out.below)
    have hok := HOK.out
    have h1 := HM.out
    have h2 := HAN.out
    have hcs := hok.c
    have hns := hok.n
    have hfs := hok.f
    have h3 := hok.s0
    have h4 := hok.s1
    have G1 := Aside0.mk (show -9223372036854775808 ≤ s.f ∧ s.f < 9223372036854775808 by omega)
    have G2 := Aside0.mk (show 0 ≤ s.c ∧ s.c < 9223372036854775807 by omega)
    have G3 := Aside0.mk (show a + t.size ≤ 140737488355000 by omega)
    have G4 := Aside0.mk (show s.s0.size ≤ 140737488355000 by unfold maxFile at h3; omega)
    have G5 := Aside0.mk (show s.s1.size ≤ 140737488355000 by unfold maxFile at h4; omega)
    have G6 := Aside0.mk (show s.ws.length ≤ 1000000000000 by omega)
    clear hok h1 h2 hcs hns hfs h3 h4
    have HS := Aside0.mk (show w.heap.size ≤ w2.heap.size from HW2.out.below.size)
    rcases HF.out with rfl | rfl
    · go_wp2_with (go_at_call 166; (refine (change.calls0 g O s a t false w0 _ HB2.out HD2.out G1.out G2.out G3.out G4.out G6.out).mono ?_); rintro e3 w3 ⟨rfl, hd3, hb3, hk3⟩; have HD3 := Aside0.mk hd3; have HB3 := Aside0.mk hb3; have HK3 := Aside0.mk hk3; clear hd3 hb3 hk3)
      go_ret
      exact ⟨rfl, DX.mono HD3.out (fun k hk => hk.imp id (Nat.le_trans HS.out)), HB3.out, (Kept.of_below HW2.out.below O).then_ HK3.out (fun k hk => .inl hk)⟩
    · go_wp2_with (go_at_call 166; (refine (change.calls1 g O s a t false w0 _ HB2.out HD2.out G1.out G2.out G3.out G5.out G6.out).mono ?_); rintro e3 w3 ⟨rfl, hd3, hb3, hk3⟩; have HD3 := Aside0.mk hd3; have HB3 := Aside0.mk hb3; have HK3 := Aside0.mk hk3; clear hd3 hb3 hk3)
      go_ret
      exact ⟨rfl, DX.mono HD3.out (fun k hk => hk.imp id (Nat.le_trans HS.out)), HB3.out, (Kept.of_below HW2.out.below O).then_ HK3.out (fun k hk => .inl hk)⟩
  · have hr' : rightB f a t.size = false := by simpa using hr
    have HRT := Aside0.mk hr'
    have hw : s.write f a t = (1, s) := by unfold St.write; rw [if_neg hr]
    rw [hw]
    clear hr hr' hw
    go_enter Try.func125, Try.ntmps125
    go_wp2_with (go_at_call 164; (refine (disk_right.calls f a t.size false _ (by rw [right_is, HRT.out])).mono ?_); rintro e2 w2 ⟨rfl, hd2⟩; have HW2 := Aside0.mk hd2; clear hd2)
    go_ret
    exact ⟨rfl, DX.mono (drawn_keep HW2.out HD.out) (fun k hk => .inl hk), below_step HB.out HW2.out.below, Kept.of_below HW2.out.below O⟩
set_option maxHeartbeats 4000000 in
theorem cut.calls (g : Nat) (O : Nat → Prop) (s : St) (f a : Int) (m : Nat) (w0 w : World) (hB : Below w0.heap.size w0 w) (hD : DD w w0.heap.size g O s) (hok : s.ok m) (hm : m ≤ 1000000000) :
    Calls Try.prog 127 #[.pointer (some ⟨g, 0, none⟩), .int .i64 f, .int .i64 a] w fun e w' => e = .returned (.int .i64 (s.cutTo f a).1) ∧
      DD w' w0.heap.size g (fun k => O k ∨ w.heap.size ≤ k) (s.cutTo f a).2 ∧ Below w0.heap.size w0 w' ∧ Kept w w' O := by
  have HB := Aside0.mk hB
  have HD := Aside0.mk hD
  have HOK := Aside0.mk hok
  have HM := Aside0.mk hm
  clear hB hD hok hm
  by_cases hr : rightB f a 0 = true
  · obtain ⟨hf, ha, hn, han⟩ := right_file hr
    obtain ⟨a, rfl⟩ : ∃ b : Nat, a = (b : Int) := ⟨a.toNat, by omega⟩
    have HRT := Aside0.mk hr
    have HF := Aside0.mk hf
    have HAN := Aside0.mk han
    have hw : s.cutTo f a = ((turn s.f s.d s.c).1, s.changed ⟨f, a, ByteArray.empty, true⟩) := by unfold St.cutTo; rw [if_pos hr, Int.toNat_natCast]
    rw [hw]
    clear hr hf ha hn han hw
    go_enter Try.func127, Try.ntmps127
    go_upto_region 3 with (go_at_call 164; (refine (disk_right.calls f a 0 true _ (by rw [right_is, HRT.out])).mono ?_); rintro e2 w2 ⟨rfl, hd2⟩; have HW2 := Aside0.mk hd2; clear hd2)
    have HD2 := Aside0.mk (drawn_keep HW2.out HD.out)
    have HB2 := Aside0.mk (below_step HB.out HW2.out.below)
    have hok := HOK.out
    have h1 := HM.out
    have h2 := HAN.out
    have hcs := hok.c
    have hns := hok.n
    have hfs := hok.f
    have h3 := hok.s0
    have h4 := hok.s1
    have G1 := Aside0.mk (show -9223372036854775808 ≤ s.f ∧ s.f < 9223372036854775808 by omega)
    have G2 := Aside0.mk (show 0 ≤ s.c ∧ s.c < 9223372036854775807 by omega)
    have G3 := Aside0.mk (show a + ByteArray.empty.size ≤ 140737488355000 by rw [show ByteArray.empty.size = 0 from rfl]; omega)
    have G4 := Aside0.mk (show s.s0.size ≤ 140737488355000 by unfold maxFile at h3; omega)
    have G5 := Aside0.mk (show s.s1.size ≤ 140737488355000 by unfold maxFile at h4; omega)
    have G6 := Aside0.mk (show s.ws.length ≤ 1000000000000 by omega)
    clear hok h1 h2 hcs hns hfs h3 h4
    have HS := Aside0.mk (show w.heap.size ≤ w2.heap.size from HW2.out.below.size)
    rcases HF.out with rfl | rfl
    · go_wp2_with (go_at_call 166; (refine (change.calls0 g O s a ByteArray.empty true w0 _ HB2.out HD2.out G1.out G2.out G3.out G4.out G6.out).mono ?_); rintro e3 w3 ⟨rfl, hd3, hb3, hk3⟩; have HD3 := Aside0.mk hd3; have HB3 := Aside0.mk hb3; have HK3 := Aside0.mk hk3; clear hd3 hb3 hk3)
      go_ret
      exact ⟨rfl, DX.mono HD3.out (fun k hk => hk.imp id (Nat.le_trans HS.out)), HB3.out, (Kept.of_below HW2.out.below O).then_ HK3.out (fun k hk => .inl hk)⟩
    · go_wp2_with (go_at_call 166; (refine (change.calls1 g O s a ByteArray.empty true w0 _ HB2.out HD2.out G1.out G2.out G3.out G5.out G6.out).mono ?_); rintro e3 w3 ⟨rfl, hd3, hb3, hk3⟩; have HD3 := Aside0.mk hd3; have HB3 := Aside0.mk hb3; have HK3 := Aside0.mk hk3; clear hd3 hb3 hk3)
      go_ret
      exact ⟨rfl, DX.mono HD3.out (fun k hk => hk.imp id (Nat.le_trans HS.out)), HB3.out, (Kept.of_below HW2.out.below O).then_ HK3.out (fun k hk => .inl hk)⟩
  · have hr' : rightB f a 0 = false := by simpa using hr
    have HRT := Aside0.mk hr'
    have hw : s.cutTo f a = (1, s) := by unfold St.cutTo; rw [if_neg hr]
    rw [hw]
    clear hr hr' hw
    go_enter Try.func127, Try.ntmps127
    go_wp2_with (go_at_call 164; (refine (disk_right.calls f a 0 false _ (by rw [right_is, HRT.out])).mono ?_); rintro e2 w2 ⟨rfl, hd2⟩; have HW2 := Aside0.mk hd2; clear hd2)
    go_ret
    exact ⟨rfl, DX.mono (drawn_keep HW2.out HD.out) (fun k hk => .inl hk), below_step HB.out HW2.out.below, Kept.of_below HW2.out.below O⟩
theorem size.calls (g : Nat) (O : Nat → Prop) (s : St) (f : Int) (w0 w : World) (hD : DD w w0.heap.size g O s) :
    Calls Try.prog 129 #[.pointer (some ⟨g, 0, none⟩), .int .i64 f] w fun e w' => e = .returned (.tuple #[.int .i64 (s.size f).1, .int .i64 (s.size f).2]) ∧ Drawn0 w w' := by
  obtain ⟨lab, x0, x1, x2, x3, x4, hb, hg, hO, hlb, hr⟩ := hD
  obtain ⟨A1, c1, e1⟩ := Kd.R_slice hr.r1
  subst e1
  obtain ⟨A3, c3, e3⟩ := Kd.R_slice hr.r3
  subst e3
  rw [bytesOf_length, bytesOf_length] at hb
  have HX := Aside0.mk hb
  clear hb hg hO hlb hr
  by_cases hr : rightB f 0 0 = true
  · obtain ⟨hf, -, -, -⟩ := right_file hr
    have HRT := Aside0.mk hr
    have HF := Aside0.mk hf
    have hs : s.size f = if s.d = true then (0, 2) else (((seenOf s f).size : Int), 0) := by unfold St.size; rw [if_pos hr]
    have HS := Aside0.mk hs
    clear hr hf hs
    go_enter Try.func129, Try.ntmps129
    go_upto_region 3 with (go_at_call 164; (refine (disk_right.calls f 0 0 true _ (by rw [right_is, HRT.out])).mono ?_); rintro e2 w2 ⟨rfl, hd2⟩; obtain ⟨n2, rfl⟩ := hd2.out; have HW2 := Aside0.mk hd2; clear hd2)
    have c6 : w.cell? ⟨g, 6, none⟩ = some (.bool s.d) := (blk_cell HX.out 6).trans rfl
    have c1 : w.cell? ⟨g, 1, none⟩ = some (.slice A1 s.s0.size c1) := (blk_cell HX.out 1).trans rfl
    have c3 : w.cell? ⟨g, 3, none⟩ = some (.slice A3 s.s1.size c3) := (blk_cell HX.out 3).trans rfl
    cases hd : s.d with
    | true =>
      rw [hd] at c6
      have HSD := Aside0.mk hd
      clear hd
      go_wp2_with (fail)
      go_ret2
      exact ⟨by rw [HS.out, if_pos HSD.out]; rfl, HW2.out⟩
    | false =>
      rw [hd] at c6
      have HSD := Aside0.mk (show ¬ s.d = true by rw [hd]; decide)
      clear hd
      rcases HF.out with rfl | rfl
      · go_wp2_with (fail)
        go_ret2
        exact ⟨by rw [HS.out, if_neg HSD.out, seenOf0]; rfl, HW2.out⟩
      · go_wp2_with (fail)
        go_ret2
        exact ⟨by rw [HS.out, if_neg HSD.out, seenOf1]; rfl, HW2.out⟩
  · have hr' : rightB f 0 0 = false := by simpa using hr
    have HRT := Aside0.mk hr'
    have hs : s.size f = (0, 1) := by unfold St.size; rw [if_neg hr]
    have HS := Aside0.mk hs
    clear hr hr' hs
    go_enter Try.func129, Try.ntmps129
    go_wp2_with (go_at_call 164; (refine (disk_right.calls f 0 0 false _ (by rw [right_is, HRT.out])).mono ?_); rintro e2 w2 ⟨rfl, hd2⟩; have HW2 := Aside0.mk hd2; clear hd2)
    go_ret2
    exact ⟨by rw [HS.out]; rfl, HW2.out⟩
theorem nums_bytes (s : ByteArray) : strOfNums (bytesOf s) = s := by
  have h : (strOfNums (bytesOf s)).data.toList = s.data.toList := by
    show ((bytesOf s).map fun n => UInt8.ofNat n.toNat) = s.data.toList
    rw [bytesOf, List.map_map]
    conv => rhs; rw [← List.map_id s.data.toList]
    apply List.map_congr_left
    intro x _
    show UInt8.ofNat ((x.toNat : Int)).toNat = x
    rw [Int.toNat_natCast]
    exact UInt8.ofNat_toNat
  have h3 : (strOfNums (bytesOf s)).data = s.data := Array.toList_inj.1 h
  cases s
  simp_all [strOfNums]
set_option maxHeartbeats 4000000 in
theorem read.calls (g : Nat) (O : Nat → Prop) (s : St) (f a n : Int) (w0 w : World) (hD : DD w w0.heap.size g O s) :
    Calls Try.prog 123 #[.pointer (some ⟨g, 0, none⟩), .int .i64 f, .int .i64 a, .int .i64 n] w fun e w' => e = .returned (.tuple #[.string (s.read f a n).1, .int .i64 (s.read f a n).2]) ∧ Drawn0 w w' := by
  obtain ⟨lab, x0, x1, x2, x3, x4, hb, hg, hO, hlb, hr⟩ := hD
  obtain ⟨A1, c1, e1⟩ := Kd.R_slice hr.r1
  subst e1
  obtain ⟨A3, c3, e3⟩ := Kd.R_slice hr.r3
  subst e3
  have HC1 := Aside0.mk (Kd.R_reads' hr.r1)
  have HC3 := Aside0.mk (Kd.R_reads' hr.r3)
  have HX := Aside0.mk hb
  clear hb hg hO hlb hr
  obtain ⟨i5, hi5⟩ : ∃ i, Try.prog.info? 5 = some i := Option.isSome_iff_exists.1 (by kernel_rfl)
  have HI5 := Aside0.mk (show i5.size = 1 by have h := QDiskRuns.info5; rw [hi5] at h; simp at h; exact h.2.1)
  by_cases hr : rightB f a n = true
  · obtain ⟨hf, ha, hn, han⟩ := right_file hr
    have HRT := Aside0.mk hr
    have HF := Aside0.mk hf
    have hs : s.read f a n = if s.d = true then (ByteArray.empty, 2) else (if a + n > (seenOf s f).size then (ByteArray.empty, 3) else ((seenOf s f).extract a.toNat (a + n).toNat, 0)) := by unfold St.read; rw [if_pos hr]
    have HS := Aside0.mk hs
    have HAN := Aside0.mk (And.intro ha (And.intro hn han))
    clear hr hf hs ha hn han
    go_enter Try.func123, Try.ntmps123
    go_upto_region 3 with (go_at_call 164; (refine (disk_right.calls f a n true _ (by rw [right_is, HRT.out])).mono ?_); rintro e2 w2 ⟨rfl, hd2⟩; obtain ⟨n2, rfl⟩ := hd2.out; have HW2 := Aside0.mk hd2; clear hd2)
    have c6 : w.cell? ⟨g, 6, none⟩ = some (.bool s.d) := (blk_cell HX.out 6).trans rfl
    cases hd : s.d with
    | true =>
      rw [hd] at c6
      have HSD := Aside0.mk hd
      clear hd
      go_wp2_with (fail)
      go_ret2
      exact ⟨by rw [HS.out, if_pos HSD.out]; rfl, HW2.out⟩
    | false =>
      rw [hd] at c6
      have HSD := Aside0.mk (show ¬ s.d = true by rw [hd]; decide)
      clear hd
      obtain ⟨ha, hn, han⟩ := HAN.out
      have w_ : IntKind.i64.wrap (a + n) = a + n := IntWalk.i64_in _ (by omega)
      rcases HF.out with rfl | rfl
      · have c1_ : w.cell? ⟨g, 1, none⟩ = some (.slice A1 (bytesOf s.s0).length c1) := (blk_cell HX.out 1).trans rfl
        by_cases hgt : a + n > s.s0.size
        · have HGT := Aside0.mk hgt
          have d_ : decide (a + n > ((bytesOf s.s0).length : Int)) = true := decide_eq_true (by rw [bytesOf_length]; exact hgt)
          clear hgt
          go_wp2_with (fail)
          go_ret2
          exact ⟨by rw [HS.out, if_neg HSD.out, seenOf0, if_pos (show a + n > (s.s0.size : Int) by have := HGT.out; omega)]; rfl, HW2.out⟩
        · have HGT := Aside0.mk hgt
          have d_ : decide (a + n > ((bytesOf s.s0).length : Int)) = false := decide_eq_false (by rw [bytesOf_length]; exact hgt)
          have hl := HC1.out.2.1
          have hz : s.s0.size = (bytesOf s.s0).length := (bytesOf_length _).symm
          have sl_ := cut_mid (P := Try.prog) 55 5 .i64 .i64 Try.underlying55 hi5 1 HI5.out A1 (bytesOf s.s0).length c1 a (a + n) (by omega) (by omega) (by omega) hl
          have hC : (Kd.int .u8).C w (if c1 = a.toNat then A1 else A1.map (·.add (a.toNat * 1))) _ _ := Kd.C_mid (k := Kd.int .u8) (lo := a.toNat) (hi := (a + n).toNat) HC1.out.2.2 (by omega) (by omega) hl
          have hlen : (((bytesOf s.s0).take (a + n).toNat).drop a.toNat).length = (a + n).toNat - a.toNat := by rw [List.length_drop, List.length_take]; omega
          rw [hlen] at hC
          have cv_ := Kd.C_string (P := Try.prog) (src := 55) (dst := 9) (e := 5) (c := c1 - a.toNat) Try.underlying55 Try.underlying5 Try.underlying9 (Kd.C_below hC (pw_below_drewN (Below.refl _ w) n2))
          have hst : strOfNums (((bytesOf s.s0).take (a + n).toNat).drop a.toNat) = s.s0.extract a.toNat (a + n).toNat := by
            rw [← nums_bytes (s.s0.extract a.toNat (a + n).toNat), bytesOf_extract, List.drop_take]
          rw [hst] at cv_
          generalize (if c1 = a.toNat then A1 else A1.map (·.add (a.toNat * 1))) = ad at sl_ cv_ hC
          clear hgt hz hC hlen hst hl
          go_wp2_with (fail)
          go_ret2
          exact ⟨by rw [HS.out, if_neg HSD.out, seenOf0, if_neg (show ¬ (a + n > (s.s0.size : Int)) by have := HGT.out; omega)]; rfl, HW2.out⟩
      · have c3_ : w.cell? ⟨g, 3, none⟩ = some (.slice A3 (bytesOf s.s1).length c3) := (blk_cell HX.out 3).trans rfl
        by_cases hgt : a + n > s.s1.size
        · have HGT := Aside0.mk hgt
          have d_ : decide (a + n > ((bytesOf s.s1).length : Int)) = true := decide_eq_true (by rw [bytesOf_length]; exact hgt)
          clear hgt
          go_wp2_with (fail)
          go_ret2
          exact ⟨by rw [HS.out, if_neg HSD.out, seenOf1, if_pos (show a + n > (s.s1.size : Int) by have := HGT.out; omega)]; rfl, HW2.out⟩
        · have HGT := Aside0.mk hgt
          have d_ : decide (a + n > ((bytesOf s.s1).length : Int)) = false := decide_eq_false (by rw [bytesOf_length]; exact hgt)
          have hl := HC3.out.2.1
          have hz : s.s1.size = (bytesOf s.s1).length := (bytesOf_length _).symm
          have sl_ := cut_mid (P := Try.prog) 55 5 .i64 .i64 Try.underlying55 hi5 1 HI5.out A3 (bytesOf s.s1).length c3 a (a + n) (by omega) (by omega) (by omega) hl
          have hC : (Kd.int .u8).C w (if c3 = a.toNat then A3 else A3.map (·.add (a.toNat * 1))) _ _ := Kd.C_mid (k := Kd.int .u8) (lo := a.toNat) (hi := (a + n).toNat) HC3.out.2.2 (by omega) (by omega) hl
          have hlen : (((bytesOf s.s1).take (a + n).toNat).drop a.toNat).length = (a + n).toNat - a.toNat := by rw [List.length_drop, List.length_take]; omega
          rw [hlen] at hC
          have cv_ := Kd.C_string (P := Try.prog) (src := 55) (dst := 9) (e := 5) (c := c3 - a.toNat) Try.underlying55 Try.underlying5 Try.underlying9 (Kd.C_below hC (pw_below_drewN (Below.refl _ w) n2))
          have hst : strOfNums (((bytesOf s.s1).take (a + n).toNat).drop a.toNat) = s.s1.extract a.toNat (a + n).toNat := by
            rw [← nums_bytes (s.s1.extract a.toNat (a + n).toNat), bytesOf_extract, List.drop_take]
          rw [hst] at cv_
          generalize (if c3 = a.toNat then A3 else A3.map (·.add (a.toNat * 1))) = ad at sl_ cv_ hC
          clear hgt hz hC hlen hst hl
          go_wp2_with (fail)
          go_ret2
          exact ⟨by rw [HS.out, if_neg HSD.out, seenOf1, if_neg (show ¬ (a + n > (s.s1.size : Int)) by have := HGT.out; omega)]; rfl, HW2.out⟩
  · have hr' : rightB f a n = false := by simpa using hr
    have HRT := Aside0.mk hr'
    have hs : s.read f a n = (ByteArray.empty, 1) := by unfold St.read; rw [if_neg hr]
    have HS := Aside0.mk hs
    clear hr hr' hs
    go_enter Try.func123, Try.ntmps123
    go_wp2_with (go_at_call 164; (refine (disk_right.calls f a n false _ (by rw [right_is, HRT.out])).mono ?_); rintro e2 w2 ⟨rfl, hd2⟩; have HW2 := Aside0.mk hd2; clear hd2)
    go_ret2
    exact ⟨by rw [HS.out]; rfl, HW2.out⟩
end Go.Proofs.Ythaoaaboempajaa.Disk
namespace Go.Proofs.Ythaoaaboempajaa.Log
open Go.RowKit Go.Proofs.Ythaoaaboempajaa.QLogRuns Go.Proofs.Ythaoaaboempajaa.QDiskRuns Go.Proofs.Ythaoaaboempajaa.Disk Go.Proofs.YthaoaaboempajaaW.PrintWords Go.Proofs.YthaoaaboempajaaW.PrintLast Go.Proofs.YthaoaaboempajaaE
set_option linter.unusedVariables false
set_option linter.unusedSimpArgs false
theorem wsucc (i j : Nat) (h : i + 1 = j) (hj : j ≤ 4611686018427387904) : wrap64 ((i : Int) + 1) = (j : Int) := by unfold wrap64; omega
def u8 (L : List UInt8) (i : Nat) : Nat := (L.getD i 0).toNat
def u32 (L : List UInt8) (i : Nat) : Nat := ((u8 L i * 256 + u8 L (i + 1)) * 256 + u8 L (i + 2)) * 256 + u8 L (i + 3)
theorem u8_lt (L : List UInt8) (i : Nat) : u8 L i < 256 := by unfold u8; exact UInt8.toNat_lt _
theorem u32_lt (L : List UInt8) (i : Nat) : u32 L i < 4294967296 := by
  have := u8_lt L i
  have := u8_lt L (i + 1)
  have := u8_lt L (i + 2)
  have := u8_lt L (i + 3)
  unfold u32
  omega
theorem bt_u8 (s : ByteArray) (i : Nat) (h : i < s.size) : bt s (i : Int) = (u8 s.data.toList i : Nat) := by
  have hl : i < s.data.toList.length := by rw [data_length]; exact h
  have e := bt_in (s := s) (X := s.data.toList.take i) (x := s.data.toList[i]) (Y := s.data.toList.drop (i + 1)) (by rw [← List.drop_eq_getElem_cons hl, List.take_append_drop])
  rw [List.length_take, Nat.min_eq_left (by omega)] at e
  rw [e]
  simp [u8, List.getD_eq_getElem?_getD, List.getElem?_eq_getElem hl]
theorem or24 (a b : Nat) (ha : a < 256) (hb : b < 16777216) : Go.bits .or .i64 ((a * 16777216 : Nat) : Int) (b : Int) = ((a * 16777216 + b : Nat) : Int) := by
  have := bits_join .i64 63 (by decide) (fun n h0 h1 => IntWalk.i64_in _ (by omega)) 24 ((a * 16777216 : Nat) : Int) (b : Int) (by omega) (by omega) (by omega) (by omega) (by omega) (by omega)
  rw [this]
  omega
theorem or16 (a b : Nat) (ha : a < 65536) (hb : b < 65536) : Go.bits .or .i64 ((a * 65536 : Nat) : Int) (b : Int) = ((a * 65536 + b : Nat) : Int) := by
  have := bits_join .i64 63 (by decide) (fun n h0 h1 => IntWalk.i64_in _ (by omega)) 16 ((a * 65536 : Nat) : Int) (b : Int) (by omega) (by omega) (by omega) (by omega) (by omega) (by omega)
  rw [this]
  omega
theorem or8 (a b : Nat) (ha : a < 16777216) (hb : b < 256) : Go.bits .or .i64 ((a * 256 : Nat) : Int) (b : Int) = ((a * 256 + b : Nat) : Int) := by
  have := bits_join .i64 63 (by decide) (fun n h0 h1 => IntWalk.i64_in _ (by omega)) 8 ((a * 256 : Nat) : Int) (b : Int) (by omega) (by omega) (by omega) (by omega) (by omega) (by omega)
  rw [this]
  omega
theorem join4 (a b c d : Nat) (h0 : a < 256) (h1 : b < 256) (h2 : c < 256) (h3 : d < 256) : Go.bits .or .i64 (Go.bits .or .i64 (Go.bits .or .i64 (wrap64 ((wrap64 (a : Int)) * 16777216)) (wrap64 ((wrap64 (b : Int)) * 65536))) (wrap64 ((wrap64 (c : Int)) * 256))) (wrap64 (d : Int)) = ((((a * 256 + b) * 256 + c) * 256 + d : Nat) : Int) := by
  have e0 : wrap64 (wrap64 (a : Int) * 16777216) = ((a * 16777216 : Nat) : Int) := by unfold wrap64; omega
  have e1 : wrap64 (wrap64 (b : Int) * 65536) = ((b * 65536 : Nat) : Int) := by unfold wrap64; omega
  have e2 : wrap64 (wrap64 (c : Int) * 256) = ((c * 256 : Nat) : Int) := by unfold wrap64; omega
  have e3 : wrap64 (d : Int) = (d : Int) := by unfold wrap64; omega
  rw [e0, e1, e2, e3, or24 a (b * 65536) h0 (by omega)]
  rw [show a * 16777216 + b * 65536 = (a * 256 + b) * 65536 by omega, or16 (a * 256 + b) (c * 256) (by omega) (by omega)]
  rw [show (a * 256 + b) * 65536 + c * 256 = ((a * 256 + b) * 256 + c) * 256 by omega, or8 _ d (by omega) h3]
theorem number_is (s : ByteArray) (h : 4 ≤ s.size) : wal_number.f s = some ((u32 s.data.toList 0 : Nat) : Int) := by
  have b0 := bt_u8 s 0 (by omega)
  have b1 := bt_u8 s 1 (by omega)
  have b2 := bt_u8 s 2 (by omega)
  have b3 := bt_u8 s 3 (by omega)
  have e := join4 _ _ _ _ (u8_lt s.data.toList 0) (u8_lt s.data.toList 1) (u8_lt s.data.toList 2) (u8_lt s.data.toList 3)
  rw [← b0, ← b1, ← b2, ← b3] at e
  unfold wal_number.f
  rw [if_pos (by omega), if_pos (by omega), if_pos (by omega), if_pos (by omega)]
  exact congrArg some e
def four (n : Nat) : List Int := [((n : Int) / 16777216) % 256, ((n : Int) / 65536) % 256, ((n : Int) / 256) % 256, (n : Int) % 256]
def fourB (n : Nat) : ByteArray := strOfNums (four n)
theorem four_is (n : Nat) : wal_four.f (n : Int) = some (fourB n) := rfl
theorem nums_size (xs : List Int) : (strOfNums xs).size = xs.length := by simp [strOfNums, ByteArray.size]
theorem size_four (n : Nat) : (fourB n).size = 4 := nums_size _
theorem data_nums (xs : List Int) : (strOfNums xs).data.toList = xs.map (fun n => UInt8.ofNat n.toNat) := rfl
theorem u8_mod (x : Nat) : (UInt8.ofNat ((x : Int) % 256).toNat).toNat = x % 256 := by
  rw [UInt8.toNat_ofNat', show ((x : Int) % 256).toNat = x % 256 by omega]
  exact Nat.mod_mod _ _
theorem u32_four (n : Nat) (h : n < 4294967296) (R : List UInt8) : u32 ((fourB n).data.toList ++ R) 0 = n := by
  have e1 : ((n : Int) / 16777216) = ((n / 16777216 : Nat) : Int) := by omega
  have e2 : ((n : Int) / 65536) = ((n / 65536 : Nat) : Int) := by omega
  have e3 : ((n : Int) / 256) = ((n / 256 : Nat) : Int) := by omega
  unfold fourB four
  rw [data_nums, e1, e2, e3]
  show ((_ * 256 + _) * 256 + _) * 256 + _ = n
  show (((UInt8.ofNat _).toNat * 256 + (UInt8.ofNat _).toNat) * 256 + (UInt8.ofNat _).toNat) * 256 + (UInt8.ofNat _).toNat = n
  rw [u8_mod, u8_mod, u8_mod, u8_mod]
  omega
theorem four_u32 (a b c d : UInt8) : (fourB (u32 [a, b, c, d] 0)).data.toList = [a, b, c, d] := by
  have ha := a.toNat_lt
  have hb := b.toNat_lt
  have hc := c.toNat_lt
  have hd := d.toNat_lt
  have e : u32 [a, b, c, d] 0 = ((a.toNat * 256 + b.toNat) * 256 + c.toNat) * 256 + d.toNat := rfl
  unfold fourB four
  rw [data_nums, e]
  have x1 : (((((a.toNat * 256 + b.toNat) * 256 + c.toNat) * 256 + d.toNat : Nat) : Int) / 16777216 % 256).toNat = a.toNat := by omega
  have x2 : (((((a.toNat * 256 + b.toNat) * 256 + c.toNat) * 256 + d.toNat : Nat) : Int) / 65536 % 256).toNat = b.toNat := by omega
  have x3 : (((((a.toNat * 256 + b.toNat) * 256 + c.toNat) * 256 + d.toNat : Nat) : Int) / 256 % 256).toNat = c.toNat := by omega
  have x4 : (((((a.toNat * 256 + b.toNat) * 256 + c.toNat) * 256 + d.toNat : Nat) : Int) % 256).toNat = d.toNat := by omega
  simp only [List.map_cons, List.map_nil]
  rw [x1, x2, x3, x4]
  simp
def twelve (n f p : Nat) : ByteArray := fourB n ++ fourB f ++ fourB p
def slotB (n f p : Nat) : ByteArray := twelve n f p ++ twelve n f p
theorem size_twelve (n f p : Nat) : (twelve n f p).size = 12 := by unfold twelve; rw [ByteArray.size_append, ByteArray.size_append, size_four, size_four, size_four]
theorem size_slot (n f p : Nat) : (slotB n f p).size = 24 := by unfold slotB; rw [ByteArray.size_append, size_twelve]
theorem slotText_is (n f p : Nat) : wal_slotText.f (n : Int) (f : Int) (p : Int) = some (slotB n f p) := by
  unfold wal_slotText.f
  rw [four_is, four_is, four_is]
  simp only [Option.bind_some]
  rw [if_pos (by rw [size_four, size_four]; decide), if_pos (by rw [ByteArray.size_append, size_four, size_four, size_four]; decide), if_pos (by rw [ByteArray.size_append, ByteArray.size_append, size_four, size_four, size_four]; decide)]
  rfl
theorem r_un : ∀ (R Q : List UInt8) (t : ByteArray) (n : Nat), t.data.toList = Q ++ R → n < 256 ^ Q.length → Q.length + R.length ≤ 4 → ∀ k, R.length < k → relstoreref_unbytes.l0 k t (n : Int) (Q.length : Int) = some ((R.foldl (fun n b => n * 256 + b.toNat) n : Nat) : Int)
  | [], Q, t, n, h, hn, hl => fun k hk => by
    obtain ⟨k, rfl⟩ : ∃ m, k = m + 1 := ⟨k - 1, by omega⟩
    have hq := size_in h
    rw [List.append_nil] at hq
    simp only [relstoreref_unbytes.l0]
    rw [if_neg (by omega)]
    rfl
  | b :: R, Q, t, n, h, hn, hl => fun k hk => by
    obtain ⟨k, rfl⟩ : ∃ m, k = m + 1 := ⟨k - 1, by omega⟩
    have hq := size_in h
    rw [List.length_append] at hq
    simp only [List.length_cons] at hl hq hk
    have hb := b.toNat_lt
    have hp : 256 ^ (Q ++ [b]).length = 256 ^ Q.length * 256 := by rw [List.length_append]; rfl
    have hm : 256 ^ Q.length ≤ 256 ^ 3 := Nat.pow_le_pow_right (by decide) (by omega)
    have hm3 : (256 : Nat) ^ 3 = 16777216 := rfl
    have ih := r_un R (Q ++ [b]) t (n * 256 + b.toNat) (by simpa using h) (by rw [hp]; omega) (by simp only [List.length_append, List.length_cons, List.length_nil]; omega) k (by omega)
    simp only [relstoreref_unbytes.l0]
    rw [if_pos (by omega), if_pos (by omega), bt_in h, IntWalk.u64_in (256 * (n : Int)) (by omega), IntWalk.u64_in (b.toNat : Int) (by omega), show (256 * (n : Int) + (b.toNat : Int)) = ((n * 256 + b.toNat : Nat) : Int) by omega, IntWalk.u64_in _ (by omega)]
    rw [wsucc Q.length (Q ++ [b]).length (by simp) (by simp; omega)]
    rw [ih]
    rfl
theorem unbytes_is (t : ByteArray) (h : t.size = 4) (k : Nat) (hk : 5 ≤ k) : relstoreref_unbytes.f k t = some ((u32 t.data.toList 0 : Nat) : Int) := by
  have hl : t.data.toList.length = 4 := by rw [data_length, h]
  obtain ⟨a, b, c, d, e⟩ : ∃ a b c d, t.data.toList = [a, b, c, d] := by
    match t.data.toList, hl with
    | [a, b, c, d], _ => exact ⟨a, b, c, d, rfl⟩
  have := r_un [a, b, c, d] [] t 0 e (by decide) (by simp) k (by simp; omega)
  refine Eq.trans this ?_
  rw [e]
  simp [u32, u8]
def beN : Nat → Int → List Int → List Int
  | 0, _, ys => ys
  | j + 1, x, ys => beN j (x / 256) (x % 256 :: ys)
theorem nums_append (xs ys : List Int) : strOfNums xs ++ strOfNums ys = strOfNums (xs ++ ys) := by
  have h : (strOfNums xs ++ strOfNums ys).data = (strOfNums (xs ++ ys)).data := by
    apply Array.toList_inj.1
    rw [ByteArray.data_append, Array.toList_append, data_nums, data_nums, data_nums, List.map_append]
  calc strOfNums xs ++ strOfNums ys = ⟨(strOfNums xs ++ strOfNums ys).data⟩ := rfl
    _ = ⟨(strOfNums (xs ++ ys)).data⟩ := by rw [h]
theorem bytes_l0 : ∀ (j : Nat) (x : Int) (ys : List Int), 0 ≤ x → x < 18446744073709551616 → j + ys.length ≤ 1000 → ∀ k, j < k → relstoreref_bytes.l0 k x (j : Int) (strOfNums ys) = some (strOfNums (beN j x ys))
  | 0, x, ys, h0, h1, hl => fun k hk => by
    obtain ⟨k, rfl⟩ : ∃ m, k = m + 1 := ⟨k - 1, by omega⟩
    simp only [relstoreref_bytes.l0]
    rw [if_neg (by decide)]
    rfl
  | j + 1, x, ys, h0, h1, hl => fun k hk => by
    obtain ⟨k, rfl⟩ : ∃ m, k = m + 1 := ⟨k - 1, by omega⟩
    have ih := bytes_l0 j (x / 256) (x % 256 :: ys) (by omega) (by omega) (by simp; omega) k (by omega)
    simp only [relstoreref_bytes.l0]
    rw [if_pos (by omega)]
    simp only [Option.bind_some]
    have e1 : Int.tmod x 256 % 256 = x % 256 := by rw [Int.tmod_eq_emod_of_nonneg h0]; omega
    have e2 : IntKind.u64.wrap (Int.tdiv x 256) = x / 256 := by rw [Int.tdiv_eq_ediv_of_nonneg h0, IntWalk.u64_in _ (by omega)]
    have e3 : wrap64 (((j + 1 : Nat) : Int) - 1) = (j : Int) := by unfold wrap64; omega
    rw [e1, e2, e3, nums_append, nums_size, nums_size, if_pos (by simp; omega)]
    exact ih
theorem bytes_is (x : Nat) (h : x < 18446744073709551616) (k : Nat) (hk : 5 ≤ k) : relstoreref_bytes.f k (IntKind.u64.wrap (x : Int)) 4 = some (fourB x) := by
  rw [IntWalk.u64_in _ (by omega)]
  have := bytes_l0 4 (x : Int) [] (by omega) (by omega) (by decide) k (by omega)
  have e : beN 4 (x : Int) [] = four x := by
    simp only [beN, four]
    rw [show (x : Int) / 256 / 256 / 256 = (x : Int) / 16777216 by omega, show (x : Int) / 256 / 256 = (x : Int) / 65536 by omega]
  rw [e] at this
  exact this
theorem slot_is (n f p : Nat) (hn : n < 4294967296) (hf : f < 4294967296) (hp : p < 4294967296) (k : Nat) (hk : 5 ≤ k) : relstoreref_slot.f k (n : Int) (f : Int) (p : Int) = some (slotB n f p) := by
  unfold relstoreref_slot.f
  rw [bytes_is n (by omega) k hk, bytes_is f (by omega) k hk, bytes_is p (by omega) k hk]
  simp only [Option.bind_some]
  rw [if_pos (by rw [size_four, size_four]; decide), if_pos (by rw [ByteArray.size_append, size_four, size_four, size_four]; decide), if_pos (by rw [ByteArray.size_append, ByteArray.size_append, size_four, size_four, size_four]; decide)]
  rfl
end Go.Proofs.Ythaoaaboempajaa.Log
namespace Go.Proofs.Ythaoaaboempajaa.Log
open Go.RowKit Go.Proofs.Ythaoaaboempajaa.QLogRuns Go.Proofs.Ythaoaaboempajaa.QDiskRuns Go.Proofs.Ythaoaaboempajaa.Disk Go.Proofs.YthaoaaboempajaaW.PrintWords Go.Proofs.YthaoaaboempajaaW.PrintLast Go.Proofs.YthaoaaboempajaaW.PrintMore Go.Proofs.YthaoaaboempajaaX
set_option linter.unusedVariables false
set_option linter.unusedSimpArgs false
def tn (t : ByteArray) (i : Nat) : Nat := u32 t.data.toList i
def slotOk (s t : ByteArray) : Prop := t.extract 0 12 = t.extract 12 24 ∧ 1 ≤ tn t 0 ∧ tn t 0 ≤ 3 ∧ (tn t 4 = 0 ∨ 64 + 1028 * tn t 4 ≤ s.size)
instance (s t : ByteArray) : Decidable (slotOk s t) := by unfold slotOk; infer_instance
def slotT (s : ByteArray) (k : Nat) : ByteArray := s.extract (16 + 24 * k) (40 + 24 * k)
def slotOfB (s : ByteArray) (k : Nat) : Option (Nat × Nat × Nat) := if s.size < 40 + 24 * k then none else if slotOk s (slotT s k) then some (tn (slotT s k) 0, tn (slotT s k) 4, tn (slotT s k) 8) else none
theorem size_extract (s : ByteArray) (a b : Nat) (h : b ≤ s.size) : (s.extract a b).size = b - a := by rw [ByteArray.size_extract]; omega
theorem tn_drop (t : ByteArray) (a b : Nat) (h : a + 4 ≤ b) (hb : b ≤ t.size) : u32 (t.extract a b).data.toList 0 = tn t a := by
  have hl : (t.extract a b).data.toList = (t.data.toList.drop a).take (b - a) := extract_list t a b
  have g : ∀ i, i < 4 → u8 (t.extract a b).data.toList (0 + i) = u8 t.data.toList (a + i) := by
    intro i hi
    unfold u8
    rw [hl, List.getD_eq_getElem?_getD, List.getD_eq_getElem?_getD, List.getElem?_take, if_pos (by omega), List.getElem?_drop, Nat.zero_add]
  unfold tn u32
  rw [show u8 (t.extract a b).data.toList 0 = u8 t.data.toList a from g 0 (by decide), show u8 (t.extract a b).data.toList (0 + 1) = u8 t.data.toList (a + 1) from g 1 (by decide), show u8 (t.extract a b).data.toList (0 + 2) = u8 t.data.toList (a + 2) from g 2 (by decide), show u8 (t.extract a b).data.toList (0 + 3) = u8 t.data.toList (a + 3) from g 3 (by decide)]
theorem list12 {L : List UInt8} (h : L.length = 12) : L = (fourB (u32 L 0)).data.toList ++ ((fourB (u32 L 4)).data.toList ++ (fourB (u32 L 8)).data.toList) := by
  match L, h with
  | [a, b, c, d, e, f, g, h, i, j, k, l], _ =>
    have e0 := four_u32 a b c d
    have e4 := four_u32 e f g h
    have e8 := four_u32 i j k l
    rw [show u32 [a, b, c, d, e, f, g, h, i, j, k, l] 0 = u32 [a, b, c, d] 0 from rfl, show u32 [a, b, c, d, e, f, g, h, i, j, k, l] 4 = u32 [e, f, g, h] 0 from rfl, show u32 [a, b, c, d, e, f, g, h, i, j, k, l] 8 = u32 [i, j, k, l] 0 from rfl, e0, e4, e8]
    rfl
theorem bytes_ext {a b : ByteArray} (h : a.data.toList = b.data.toList) : a = b := bytesOf_inj (by unfold bytesOf; rw [h])
theorem first12 (t : ByteArray) (h : t.size = 24) : t.extract 0 12 = twelve (tn t 0) (tn t 4) (tn t 8) := by
  apply bytes_ext
  have hl : (t.extract 0 12).data.toList.length = 12 := by rw [data_length, size_extract _ _ _ (by omega)]
  have e := list12 hl
  have g : ∀ a, a + 4 ≤ 12 → u32 (t.extract 0 12).data.toList a = tn t a := by
    intro a ha
    have h2 : (t.extract 0 12).data.toList = t.data.toList.take 12 := by rw [extract_list, List.drop_zero]
    have g2 : ∀ i, i < 4 → u8 (t.data.toList.take 12) (a + i) = u8 t.data.toList (a + i) := by
      intro i hi
      unfold u8
      rw [List.getD_eq_getElem?_getD, List.getD_eq_getElem?_getD, List.getElem?_take, if_pos (by omega)]
    rw [h2]
    unfold tn u32
    rw [show u8 (t.data.toList.take 12) a = u8 t.data.toList a from g2 0 (by decide), g2 1 (by decide), g2 2 (by decide), g2 3 (by decide)]
  rw [g 0 (by decide), g 4 (by decide), g 8 (by decide)] at e
  rw [e]
  unfold twelve
  rw [ByteArray.data_append, Array.toList_append, ByteArray.data_append, Array.toList_append, List.append_assoc]
theorem halves (t : ByteArray) (h : t.size = 24) : t = t.extract 0 12 ++ t.extract 12 24 := by
  apply bytes_ext
  rw [ByteArray.data_append, Array.toList_append, extract_list, extract_list, List.drop_zero, List.take_of_length_le (l := List.drop 12 _) (by rw [List.length_drop, data_length]; omega)]
  exact (List.take_append_drop 12 _).symm
theorem slot_text (t : ByteArray) (h : t.size = 24) : t = slotB (tn t 0) (tn t 4) (tn t 8) ↔ t.extract 0 12 = t.extract 12 24 := by
  constructor
  · intro e
    have e1 := first12 t h
    have e2 : t.extract 12 24 = twelve (tn t 0) (tn t 4) (tn t 8) := by
      apply bytes_ext
      have hh : t.data.toList = (twelve (tn t 0) (tn t 4) (tn t 8)).data.toList ++ (twelve (tn t 0) (tn t 4) (tn t 8)).data.toList := by
        conv => lhs; rw [e]
        unfold slotB
        rw [ByteArray.data_append, Array.toList_append]
      have hz : (twelve (tn t 0) (tn t 4) (tn t 8)).data.toList.length = 12 := by rw [data_length, size_twelve]
      rw [extract_list, hh]
      generalize (twelve (tn t 0) (tn t 4) (tn t 8)).data.toList = L at hz ⊢
      rw [List.drop_append, hz, Nat.sub_self, List.drop_zero, List.drop_of_length_le (by omega), List.nil_append, List.take_of_length_le (by omega)]
    rw [e1, e2]
  · intro e
    have e1 := first12 t h
    calc t = t.extract 0 12 ++ t.extract 12 24 := halves t h
      _ = slotB (tn t 0) (tn t 4) (tn t 8) := by rw [← e, e1]; rfl
set_option maxHeartbeats 4000000 in
set_option maxRecDepth 100000 in
theorem slotAt.calls0 (s : ByteArray) (w : World) (hs : s.size ≤ 67108864) :
    Calls Try.prog 170 #[.string s, .int .i64 0] w fun e w' => ∃ (n f p : Nat) (ok : Bool), e = .returned (.tuple #[.int .i64 (n : Int), .int .i64 (f : Int), .int .i64 (p : Int), .bool ok]) ∧ slotOfB s 0 = (if ok = true then some (n, f, p) else none) ∧ Below w.heap.size w w' := by
  by_cases hl : s.size < 40
  · have HS := Aside0.mk (show slotOfB s 0 = none by unfold slotOfB; rw [if_pos (by omega)])
    have l_ : (s.size : Int) < 40 := by omega
    have l2_ : decide ((s.size : Int) < 40) = true := decide_eq_true l_
    clear hl hs
    go_enter Try.func170, Try.ntmps170
    go_wp2_with (fail)
    refine bodyPost_ret (results_list (rs := [.tmp 4, .tmp 5, .tmp 6, .tmp 7]) rfl (by simp) (.tmp (.tmp (.tmp (.tmp .nil))))) rfl ?_
    exact ⟨0, 0, 0, false, rfl, by rw [HS.out]; rfl, Below.refl _ _⟩
  · have l_ : ¬ (s.size : Int) < 40 := by omega
    have l2_ : decide ((s.size : Int) < 40) = false := decide_eq_false l_
    have l3_ : (40 : Int) ≤ (s.size : Int) := by omega
    have HL := Aside0.mk hl
    have HZ := Aside0.mk hs
    have HT := Aside0.mk (show (s.extract 16 40).size = 24 from size_extract _ _ _ (by omega))
    clear hl hs
    obtain ⟨t, ht⟩ : ∃ t, t = s.extract 16 40 := ⟨_, rfl⟩
    have HTT := Aside0.mk ht
    rw [← ht] at HT
    have t24 := HT.out
    obtain ⟨n, hn⟩ : ∃ n : Int, n = ((tn t 0 : Nat) : Int) := ⟨_, rfl⟩
    obtain ⟨f, hf⟩ : ∃ f : Int, f = ((tn t 4 : Nat) : Int) := ⟨_, rfl⟩
    obtain ⟨p, hp⟩ : ∃ p : Int, p = ((tn t 8 : Nat) : Int) := ⟨_, rfl⟩
    obtain ⟨sl, hsl⟩ : ∃ sl, sl = slotB (tn t 0) (tn t 4) (tn t 8) := ⟨_, rfl⟩
    have N0 := Aside0.mk (show wal_number.f t = some n by rw [hn]; exact number_is t (by omega))
    have N4 := Aside0.mk (show wal_number.f (t.extract 4 24) = some f by rw [hf, number_is _ (by rw [size_extract _ _ _ (by omega)]; omega), tn_drop t 4 24 (by omega) (by omega)])
    have N8 := Aside0.mk (show wal_number.f (t.extract 8 24) = some p by rw [hp, number_is _ (by rw [size_extract _ _ _ (by omega)]; omega), tn_drop t 8 24 (by omega) (by omega)])
    have HST := Aside0.mk (show wal_slotText.f n f p = some sl by rw [hn, hf, hp, hsl]; exact slotText_is _ _ _)
    have HSL := Aside0.mk (show t.toList = sl.toList ↔ t.extract 0 12 = t.extract 12 24 by rw [← slot_text t t24, ← hsl, Lib.toList_data, Lib.toList_data]; exact ⟨bytes_ext, fun h => by rw [h]⟩)
    have HOK := Aside0.mk (show slotOfB s 0 = if slotOk s t then some (tn t 0, tn t 4, tn t 8) else none by unfold slotOfB slotT; rw [if_neg (by have := HL.out; omega), HTT.out])
    have HN := Aside0.mk hn
    have HF := Aside0.mk hf
    have HP := Aside0.mk hp
    have hf4 := u32_lt t.data.toList 4
    have hf4' : (tn t 4 : Int) < 4294967296 := by unfold tn; omega
    have w1_ : IntKind.i64.wrap (f * 1028) = f * 1028 := IntWalk.i64_in _ (by omega)
    have w2_ : IntKind.i64.wrap (64 + f * 1028) = 64 + f * 1028 := IntWalk.i64_in _ (by omega)
    have hs4 := HTT.out.symm
    clear hn hf hp hsl hf4 hf4' ht
    go_enter Try.func170, Try.ntmps170
    go_upto_region 5 with (fail)
    try simp only [hs4]
    clear hs4
    go_quiet (first
      | (go_at_call 139; (with_reducible refine (wal_number.calls t n _ N0.out).mono ?_); rintro e w' ⟨rfl, ⟨nd, rfl⟩⟩; exact ⟨rfl, _, World.drewN_drewN _ _ _⟩)
      | (go_at_call 139; (with_reducible refine (wal_number.calls (t.extract 4 24) f _ N4.out).mono ?_); rintro e w' ⟨rfl, ⟨nd, rfl⟩⟩; exact ⟨rfl, _, World.drewN_drewN _ _ _⟩)
      | (go_at_call 139; (with_reducible refine (wal_number.calls (t.extract 8 24) p _ N8.out).mono ?_); rintro e w' ⟨rfl, ⟨nd, rfl⟩⟩; exact ⟨rfl, _, World.drewN_drewN _ _ _⟩))
    go_upto_region 6 with (fail)
    by_cases hA : t.toList = sl.toList
    · have qA := beq_iff_eq.mpr hA
      have HA := Aside0.mk (HSL.out.1 hA)
      clear hA
      by_cases hB : 1 ≤ n
      · have qB : decide (1 ≤ n) = true := decide_eq_true hB
        have HB := Aside0.mk hB
        clear hB
        by_cases hC : n ≤ 3
        · have qC : decide (n ≤ 3) = true := decide_eq_true hC
          have HC := Aside0.mk hC
          clear hC
          by_cases hD : f = 0
          · have qD : (f == 0) = true := by simp [hD]
            have HD := Aside0.mk hD
            clear hD
            go_wp2_with (go_at_call 174; (with_reducible refine (wal_slotText.calls n f p sl _ HST.out).mono ?_); rintro e3 w3 ⟨rfl, hd⟩; have HB3 := Aside0.mk hd; clear hd)
            refine bodyPost_ret (results_list (rs := [.tmp 4, .tmp 5, .tmp 6, .tmp 7]) rfl (by simp) (.tmp (.tmp (.tmp (.tmp .nil))))) rfl ?_
            exact ⟨tn t 0, tn t 4, tn t 8, true, by rw [← HN.out, ← HF.out, ← HP.out]; rfl, by rw [HOK.out]; rw [if_pos (show slotOk s t from ⟨HA.out, by have := HB.out; have := HN.out; omega, by have := HC.out; have := HN.out; omega, .inl (by have := HD.out; have := HF.out; omega)⟩), if_pos rfl], below_step (pw_below_drewN (Below.refl _ w) nq) HB3.out⟩
          · have qD : (f == 0) = false := beq_false hD
            have HD := Aside0.mk hD
            clear hD
            by_cases hE : 64 + f * 1028 ≤ (s.size : Int)
            · have qE : decide (64 + f * 1028 ≤ (s.size : Int)) = true := decide_eq_true hE
              have HE := Aside0.mk hE
              clear hE
              go_wp2_with (go_at_call 174; (with_reducible refine (wal_slotText.calls n f p sl _ HST.out).mono ?_); rintro e3 w3 ⟨rfl, hd⟩; have HB3 := Aside0.mk hd; clear hd)
              refine bodyPost_ret (results_list (rs := [.tmp 4, .tmp 5, .tmp 6, .tmp 7]) rfl (by simp) (.tmp (.tmp (.tmp (.tmp .nil))))) rfl ?_
              exact ⟨tn t 0, tn t 4, tn t 8, true, by rw [← HN.out, ← HF.out, ← HP.out]; rfl, by rw [HOK.out]; rw [if_pos (show slotOk s t from ⟨HA.out, by have := HB.out; have := HN.out; omega, by have := HC.out; have := HN.out; omega, .inr (by have := HE.out; have := HF.out; omega)⟩), if_pos rfl], below_step (pw_below_drewN (Below.refl _ w) nq) HB3.out⟩
            · have qE : decide (64 + f * 1028 ≤ (s.size : Int)) = false := decide_eq_false hE
              have HE := Aside0.mk hE
              clear hE
              go_wp2_with (go_at_call 174; (with_reducible refine (wal_slotText.calls n f p sl _ HST.out).mono ?_); rintro e3 w3 ⟨rfl, hd⟩; have HB3 := Aside0.mk hd; clear hd)
              refine bodyPost_ret (results_list (rs := [.tmp 4, .tmp 5, .tmp 6, .tmp 7]) rfl (by simp) (.tmp (.tmp (.tmp (.tmp .nil))))) rfl ?_
              exact ⟨tn t 0, tn t 4, tn t 8, false, by rw [← HN.out, ← HF.out, ← HP.out]; rfl, by rw [HOK.out]; rw [if_neg (show ¬ slotOk s t from fun h => h.2.2.2.elim (fun h => HD.out (by have := HF.out; omega)) (fun h => by have h1 := HE.out; have := HF.out; omega)), if_neg (by decide)], below_step (pw_below_drewN (Below.refl _ w) nq) HB3.out⟩
        · have qC : decide (n ≤ 3) = false := decide_eq_false hC
          have HC := Aside0.mk hC
          clear hC
          go_wp2_with (go_at_call 174; (with_reducible refine (wal_slotText.calls n f p sl _ HST.out).mono ?_); rintro e3 w3 ⟨rfl, hd⟩; have HB3 := Aside0.mk hd; clear hd)
          refine bodyPost_ret (results_list (rs := [.tmp 4, .tmp 5, .tmp 6, .tmp 7]) rfl (by simp) (.tmp (.tmp (.tmp (.tmp .nil))))) rfl ?_
          exact ⟨tn t 0, tn t 4, tn t 8, false, by rw [← HN.out, ← HF.out, ← HP.out]; rfl, by rw [HOK.out]; rw [if_neg (show ¬ slotOk s t from fun h => by have h1 := HC.out; have := h.2.2.1; have := HN.out; omega), if_neg (by decide)], below_step (pw_below_drewN (Below.refl _ w) nq) HB3.out⟩
      · have qB : decide (1 ≤ n) = false := decide_eq_false hB
        have HB := Aside0.mk hB
        clear hB
        go_wp2_with (go_at_call 174; (with_reducible refine (wal_slotText.calls n f p sl _ HST.out).mono ?_); rintro e3 w3 ⟨rfl, hd⟩; have HB3 := Aside0.mk hd; clear hd)
        refine bodyPost_ret (results_list (rs := [.tmp 4, .tmp 5, .tmp 6, .tmp 7]) rfl (by simp) (.tmp (.tmp (.tmp (.tmp .nil))))) rfl ?_
        exact ⟨tn t 0, tn t 4, tn t 8, false, by rw [← HN.out, ← HF.out, ← HP.out]; rfl, by rw [HOK.out]; rw [if_neg (show ¬ slotOk s t from fun h => by have h1 := HB.out; have := h.2.1; have := HN.out; omega), if_neg (by decide)], below_step (pw_below_drewN (Below.refl _ w) nq) HB3.out⟩
    · have qA : (t.toList == sl.toList) = false := beq_eq_false_iff_ne.mpr hA
      have HA := Aside0.mk hA
      clear hA
      go_wp2_with (go_at_call 174; (with_reducible refine (wal_slotText.calls n f p sl _ HST.out).mono ?_); rintro e3 w3 ⟨rfl, hd⟩; have HB3 := Aside0.mk hd; clear hd)
      refine bodyPost_ret (results_list (rs := [.tmp 4, .tmp 5, .tmp 6, .tmp 7]) rfl (by simp) (.tmp (.tmp (.tmp (.tmp .nil))))) rfl ?_
      exact ⟨tn t 0, tn t 4, tn t 8, false, by rw [← HN.out, ← HF.out, ← HP.out]; rfl, by rw [HOK.out]; rw [if_neg (show ¬ slotOk s t from fun h => HA.out (HSL.out.2 h.1)), if_neg (by decide)], below_step (pw_below_drewN (Below.refl _ w) nq) HB3.out⟩
set_option maxHeartbeats 4000000 in
set_option maxRecDepth 100000 in
theorem slotAt.calls1 (s : ByteArray) (w : World) (hs : s.size ≤ 67108864) :
    Calls Try.prog 170 #[.string s, .int .i64 1] w fun e w' => ∃ (n f p : Nat) (ok : Bool), e = .returned (.tuple #[.int .i64 (n : Int), .int .i64 (f : Int), .int .i64 (p : Int), .bool ok]) ∧ slotOfB s 1 = (if ok = true then some (n, f, p) else none) ∧ Below w.heap.size w w' := by
  by_cases hl : s.size < 64
  · have HS := Aside0.mk (show slotOfB s 1 = none by unfold slotOfB; rw [if_pos (by omega)])
    have l_ : (s.size : Int) < 64 := by omega
    have l2_ : decide ((s.size : Int) < 64) = true := decide_eq_true l_
    clear hl hs
    go_enter Try.func170, Try.ntmps170
    go_wp2_with (fail)
    refine bodyPost_ret (results_list (rs := [.tmp 4, .tmp 5, .tmp 6, .tmp 7]) rfl (by simp) (.tmp (.tmp (.tmp (.tmp .nil))))) rfl ?_
    exact ⟨0, 0, 0, false, rfl, by rw [HS.out]; rfl, Below.refl _ _⟩
  · have l_ : ¬ (s.size : Int) < 64 := by omega
    have l2_ : decide ((s.size : Int) < 64) = false := decide_eq_false l_
    have l3_ : (64 : Int) ≤ (s.size : Int) := by omega
    have HL := Aside0.mk hl
    have HZ := Aside0.mk hs
    have HT := Aside0.mk (show (s.extract 40 64).size = 24 from size_extract _ _ _ (by omega))
    clear hl hs
    obtain ⟨t, ht⟩ : ∃ t, t = s.extract 40 64 := ⟨_, rfl⟩
    have HTT := Aside0.mk ht
    rw [← ht] at HT
    have t24 := HT.out
    obtain ⟨n, hn⟩ : ∃ n : Int, n = ((tn t 0 : Nat) : Int) := ⟨_, rfl⟩
    obtain ⟨f, hf⟩ : ∃ f : Int, f = ((tn t 4 : Nat) : Int) := ⟨_, rfl⟩
    obtain ⟨p, hp⟩ : ∃ p : Int, p = ((tn t 8 : Nat) : Int) := ⟨_, rfl⟩
    obtain ⟨sl, hsl⟩ : ∃ sl, sl = slotB (tn t 0) (tn t 4) (tn t 8) := ⟨_, rfl⟩
    have N0 := Aside0.mk (show wal_number.f t = some n by rw [hn]; exact number_is t (by omega))
    have N4 := Aside0.mk (show wal_number.f (t.extract 4 24) = some f by rw [hf, number_is _ (by rw [size_extract _ _ _ (by omega)]; omega), tn_drop t 4 24 (by omega) (by omega)])
    have N8 := Aside0.mk (show wal_number.f (t.extract 8 24) = some p by rw [hp, number_is _ (by rw [size_extract _ _ _ (by omega)]; omega), tn_drop t 8 24 (by omega) (by omega)])
    have HST := Aside0.mk (show wal_slotText.f n f p = some sl by rw [hn, hf, hp, hsl]; exact slotText_is _ _ _)
    have HSL := Aside0.mk (show t.toList = sl.toList ↔ t.extract 0 12 = t.extract 12 24 by rw [← slot_text t t24, ← hsl, Lib.toList_data, Lib.toList_data]; exact ⟨bytes_ext, fun h => by rw [h]⟩)
    have HOK := Aside0.mk (show slotOfB s 1 = if slotOk s t then some (tn t 0, tn t 4, tn t 8) else none by unfold slotOfB slotT; rw [if_neg (by have := HL.out; omega), HTT.out])
    have HN := Aside0.mk hn
    have HF := Aside0.mk hf
    have HP := Aside0.mk hp
    have hf4 := u32_lt t.data.toList 4
    have hf4' : (tn t 4 : Int) < 4294967296 := by unfold tn; omega
    have w1_ : IntKind.i64.wrap (f * 1028) = f * 1028 := IntWalk.i64_in _ (by omega)
    have w2_ : IntKind.i64.wrap (64 + f * 1028) = 64 + f * 1028 := IntWalk.i64_in _ (by omega)
    have hs4 := HTT.out.symm
    clear hn hf hp hsl hf4 hf4' ht
    go_enter Try.func170, Try.ntmps170
    go_upto_region 5 with (fail)
    try simp only [hs4]
    clear hs4
    go_quiet (first
      | (go_at_call 139; (with_reducible refine (wal_number.calls t n _ N0.out).mono ?_); rintro e w' ⟨rfl, ⟨nd, rfl⟩⟩; exact ⟨rfl, _, World.drewN_drewN _ _ _⟩)
      | (go_at_call 139; (with_reducible refine (wal_number.calls (t.extract 4 24) f _ N4.out).mono ?_); rintro e w' ⟨rfl, ⟨nd, rfl⟩⟩; exact ⟨rfl, _, World.drewN_drewN _ _ _⟩)
      | (go_at_call 139; (with_reducible refine (wal_number.calls (t.extract 8 24) p _ N8.out).mono ?_); rintro e w' ⟨rfl, ⟨nd, rfl⟩⟩; exact ⟨rfl, _, World.drewN_drewN _ _ _⟩))
    go_upto_region 6 with (fail)
    by_cases hA : t.toList = sl.toList
    · have qA := beq_iff_eq.mpr hA
      have HA := Aside0.mk (HSL.out.1 hA)
      clear hA
      by_cases hB : 1 ≤ n
      · have qB : decide (1 ≤ n) = true := decide_eq_true hB
        have HB := Aside0.mk hB
        clear hB
        by_cases hC : n ≤ 3
        · have qC : decide (n ≤ 3) = true := decide_eq_true hC
          have HC := Aside0.mk hC
          clear hC
          by_cases hD : f = 0
          · have qD : (f == 0) = true := by simp [hD]
            have HD := Aside0.mk hD
            clear hD
            go_wp2_with (go_at_call 174; (with_reducible refine (wal_slotText.calls n f p sl _ HST.out).mono ?_); rintro e3 w3 ⟨rfl, hd⟩; have HB3 := Aside0.mk hd; clear hd)
            refine bodyPost_ret (results_list (rs := [.tmp 4, .tmp 5, .tmp 6, .tmp 7]) rfl (by simp) (.tmp (.tmp (.tmp (.tmp .nil))))) rfl ?_
            exact ⟨tn t 0, tn t 4, tn t 8, true, by rw [← HN.out, ← HF.out, ← HP.out]; rfl, by rw [HOK.out]; rw [if_pos (show slotOk s t from ⟨HA.out, by have := HB.out; have := HN.out; omega, by have := HC.out; have := HN.out; omega, .inl (by have := HD.out; have := HF.out; omega)⟩), if_pos rfl], below_step (pw_below_drewN (Below.refl _ w) nq) HB3.out⟩
          · have qD : (f == 0) = false := beq_false hD
            have HD := Aside0.mk hD
            clear hD
            by_cases hE : 64 + f * 1028 ≤ (s.size : Int)
            · have qE : decide (64 + f * 1028 ≤ (s.size : Int)) = true := decide_eq_true hE
              have HE := Aside0.mk hE
              clear hE
              go_wp2_with (go_at_call 174; (with_reducible refine (wal_slotText.calls n f p sl _ HST.out).mono ?_); rintro e3 w3 ⟨rfl, hd⟩; have HB3 := Aside0.mk hd; clear hd)
              refine bodyPost_ret (results_list (rs := [.tmp 4, .tmp 5, .tmp 6, .tmp 7]) rfl (by simp) (.tmp (.tmp (.tmp (.tmp .nil))))) rfl ?_
              exact ⟨tn t 0, tn t 4, tn t 8, true, by rw [← HN.out, ← HF.out, ← HP.out]; rfl, by rw [HOK.out]; rw [if_pos (show slotOk s t from ⟨HA.out, by have := HB.out; have := HN.out; omega, by have := HC.out; have := HN.out; omega, .inr (by have := HE.out; have := HF.out; omega)⟩), if_pos rfl], below_step (pw_below_drewN (Below.refl _ w) nq) HB3.out⟩
            · have qE : decide (64 + f * 1028 ≤ (s.size : Int)) = false := decide_eq_false hE
              have HE := Aside0.mk hE
              clear hE
              go_wp2_with (go_at_call 174; (with_reducible refine (wal_slotText.calls n f p sl _ HST.out).mono ?_); rintro e3 w3 ⟨rfl, hd⟩; have HB3 := Aside0.mk hd; clear hd)
              refine bodyPost_ret (results_list (rs := [.tmp 4, .tmp 5, .tmp 6, .tmp 7]) rfl (by simp) (.tmp (.tmp (.tmp (.tmp .nil))))) rfl ?_
              exact ⟨tn t 0, tn t 4, tn t 8, false, by rw [← HN.out, ← HF.out, ← HP.out]; rfl, by rw [HOK.out]; rw [if_neg (show ¬ slotOk s t from fun h => h.2.2.2.elim (fun h => HD.out (by have := HF.out; omega)) (fun h => by have h1 := HE.out; have := HF.out; omega)), if_neg (by decide)], below_step (pw_below_drewN (Below.refl _ w) nq) HB3.out⟩
        · have qC : decide (n ≤ 3) = false := decide_eq_false hC
          have HC := Aside0.mk hC
          clear hC
          go_wp2_with (go_at_call 174; (with_reducible refine (wal_slotText.calls n f p sl _ HST.out).mono ?_); rintro e3 w3 ⟨rfl, hd⟩; have HB3 := Aside0.mk hd; clear hd)
          refine bodyPost_ret (results_list (rs := [.tmp 4, .tmp 5, .tmp 6, .tmp 7]) rfl (by simp) (.tmp (.tmp (.tmp (.tmp .nil))))) rfl ?_
          exact ⟨tn t 0, tn t 4, tn t 8, false, by rw [← HN.out, ← HF.out, ← HP.out]; rfl, by rw [HOK.out]; rw [if_neg (show ¬ slotOk s t from fun h => by have h1 := HC.out; have := h.2.2.1; have := HN.out; omega), if_neg (by decide)], below_step (pw_below_drewN (Below.refl _ w) nq) HB3.out⟩
      · have qB : decide (1 ≤ n) = false := decide_eq_false hB
        have HB := Aside0.mk hB
        clear hB
        go_wp2_with (go_at_call 174; (with_reducible refine (wal_slotText.calls n f p sl _ HST.out).mono ?_); rintro e3 w3 ⟨rfl, hd⟩; have HB3 := Aside0.mk hd; clear hd)
        refine bodyPost_ret (results_list (rs := [.tmp 4, .tmp 5, .tmp 6, .tmp 7]) rfl (by simp) (.tmp (.tmp (.tmp (.tmp .nil))))) rfl ?_
        exact ⟨tn t 0, tn t 4, tn t 8, false, by rw [← HN.out, ← HF.out, ← HP.out]; rfl, by rw [HOK.out]; rw [if_neg (show ¬ slotOk s t from fun h => by have h1 := HB.out; have := h.2.1; have := HN.out; omega), if_neg (by decide)], below_step (pw_below_drewN (Below.refl _ w) nq) HB3.out⟩
    · have qA : (t.toList == sl.toList) = false := beq_eq_false_iff_ne.mpr hA
      have HA := Aside0.mk hA
      clear hA
      go_wp2_with (go_at_call 174; (with_reducible refine (wal_slotText.calls n f p sl _ HST.out).mono ?_); rintro e3 w3 ⟨rfl, hd⟩; have HB3 := Aside0.mk hd; clear hd)
      refine bodyPost_ret (results_list (rs := [.tmp 4, .tmp 5, .tmp 6, .tmp 7]) rfl (by simp) (.tmp (.tmp (.tmp (.tmp .nil))))) rfl ?_
      exact ⟨tn t 0, tn t 4, tn t 8, false, by rw [← HN.out, ← HF.out, ← HP.out]; rfl, by rw [HOK.out]; rw [if_neg (show ¬ slotOk s t from fun h => HA.out (HSL.out.2 h.1)), if_neg (by decide)], below_step (pw_below_drewN (Below.refl _ w) nq) HB3.out⟩
end Go.Proofs.Ythaoaaboempajaa.Log
namespace Go.Proofs.Ythaoaaboempajaa.Log
open Go.RowKit Go.Proofs.Ythaoaaboempajaa.QLogRuns Go.Proofs.Ythaoaaboempajaa.QDiskRuns Go.Proofs.Ythaoaaboempajaa.Disk Go.Proofs.YthaoaaboempajaaW.PrintWords Go.Proofs.YthaoaaboempajaaW.PrintLast Go.Proofs.YthaoaaboempajaaW.PrintMore Go.Proofs.YthaoaaboempajaaX
set_option linter.unusedVariables false
set_option linter.unusedSimpArgs false
def slot3 (s : ByteArray) (k : Nat) : Nat × Nat × Nat := match slotOfB s k with
  | some x => x
  | none => (0, 0, 0)
theorem slot3_some {s : ByteArray} {k : Nat} {x : Nat × Nat × Nat} (h : slotOfB s k = some x) : slot3 s k = x := by unfold slot3; rw [h]
theorem slot3_none {s : ByteArray} {k : Nat} (h : slotOfB s k = none) : slot3 s k = (0, 0, 0) := by unfold slot3; rw [h]
theorem un_drop (t : ByteArray) (a : Nat) (hb : a + 4 ≤ t.size) : relstoreref_unbytes.f 5 (t.extract a (a + 4)) = some ((tn t a : Nat) : Int) := by
  rw [unbytes_is _ (by rw [size_extract _ _ _ hb]; omega) 5 (by decide), tn_drop t a (a + 4) (by omega) hb]
set_option maxHeartbeats 4000000 in
set_option maxRecDepth 100000 in
theorem slotOf.calls0 (s : ByteArray) (w : World) (hs : s.size ≤ 67108864) :
    Calls Try.prog 151 #[.string s, .int .i64 0] w fun e w' => e = .returned (.tuple #[.int .i64 ((slot3 s 0).1 : Int), .int .i64 ((slot3 s 0).2.1 : Int), .int .i64 ((slot3 s 0).2.2 : Int)]) ∧ Drawn0 w w' := by
  by_cases hl : s.size < 40
  · have HS := Aside0.mk (show slot3 s 0 = (0, 0, 0) from slot3_none (by unfold slotOfB; rw [if_pos (by omega)]))
    have l_ : (s.size : Int) < 40 := by omega
    have l2_ : decide ((s.size : Int) < 40) = true := decide_eq_true l_
    clear hl hs
    go_enter Try.func151, Try.ntmps151
    go_wp2_with (fail)
    go_ret3
    exact ⟨by rw [HS.out]; rfl, Drawn0.refl _⟩
  · have l_ : ¬ (s.size : Int) < 40 := by omega
    have l2_ : decide ((s.size : Int) < 40) = false := decide_eq_false l_
    have l3_ : (40 : Int) ≤ (s.size : Int) := by omega
    have HL := Aside0.mk hl
    have HZ := Aside0.mk hs
    have HT := Aside0.mk (show (s.extract 16 40).size = 24 from size_extract _ _ _ (by omega))
    clear hl hs
    obtain ⟨t, ht⟩ : ∃ t, t = s.extract 16 40 := ⟨_, rfl⟩
    have HTT := Aside0.mk ht
    rw [← ht] at HT
    have t24 := HT.out
    obtain ⟨n, hn⟩ : ∃ n : Int, n = ((tn t 0 : Nat) : Int) := ⟨_, rfl⟩
    obtain ⟨f, hf⟩ : ∃ f : Int, f = ((tn t 4 : Nat) : Int) := ⟨_, rfl⟩
    obtain ⟨p, hp⟩ : ∃ p : Int, p = ((tn t 8 : Nat) : Int) := ⟨_, rfl⟩
    have N0 := Aside0.mk (show relstoreref_unbytes.f 5 (t.extract 0 4) = some n by rw [hn]; exact un_drop t 0 (by omega))
    have N4 := Aside0.mk (show relstoreref_unbytes.f 5 (t.extract 4 8) = some f by rw [hf]; exact un_drop t 4 (by omega))
    have N8 := Aside0.mk (show relstoreref_unbytes.f 5 (t.extract 8 12) = some p by rw [hp]; exact un_drop t 8 (by omega))
    have HSL := Aside0.mk (show (t.extract 0 12).toList = (t.extract 12 24).toList ↔ t.extract 0 12 = t.extract 12 24 by rw [Lib.toList_data, Lib.toList_data]; exact ⟨bytes_ext, fun h => by rw [h]⟩)
    have HOK := Aside0.mk (show slotOfB s 0 = if slotOk s t then some (tn t 0, tn t 4, tn t 8) else none by unfold slotOfB slotT; rw [if_neg (by have := HL.out; omega), HTT.out])
    have HN := Aside0.mk hn
    have HF := Aside0.mk hf
    have HP := Aside0.mk hp
    have hn4 := u32_lt t.data.toList 0
    have hf4 := u32_lt t.data.toList 4
    have hp4 := u32_lt t.data.toList 8
    have hn4' : 0 ≤ n ∧ n < 4294967296 := by unfold tn at hn; omega
    have hf4' : 0 ≤ f ∧ f < 4294967296 := by unfold tn at hf; omega
    have hp4' : 0 ≤ p ∧ p < 4294967296 := by unfold tn at hp; omega
    have w1_ : IntKind.i64.wrap (1028 * f) = 1028 * f := IntWalk.i64_in _ (by omega)
    have w2_ : IntKind.i64.wrap (64 + 1028 * f) = 64 + 1028 * f := IntWalk.i64_in _ (by omega)
    have w3_ : IntKind.i64.wrap n = n := IntWalk.i64_in _ (by omega)
    have w4_ : IntKind.i64.wrap f = f := IntWalk.i64_in _ (by omega)
    have w5_ : IntKind.i64.wrap p = p := IntWalk.i64_in _ (by omega)
    have hs4 := HTT.out.symm
    have HF0 := Aside0.mk hf4'.1
    clear hn hf hp hn4 hf4 hp4 hn4' hf4' hp4' ht
    go_enter Try.func151, Try.ntmps151
    go_upto_region 4 with (fail)
    try simp only [hs4]
    clear hs4
    go_quiet (first
      | (go_at_call 109; (with_reducible refine (relstoreref_unbytes.calls 5 (t.extract 0 4) n _ N0.out).mono ?_); rintro e w' ⟨rfl, ⟨nd, rfl⟩⟩; exact ⟨rfl, _, World.drewN_drewN _ _ _⟩)
      | (go_at_call 109; (with_reducible refine (relstoreref_unbytes.calls 5 (t.extract 4 8) f _ N4.out).mono ?_); rintro e w' ⟨rfl, ⟨nd, rfl⟩⟩; exact ⟨rfl, _, World.drewN_drewN _ _ _⟩)
      | (go_at_call 109; (with_reducible refine (relstoreref_unbytes.calls 5 (t.extract 8 12) p _ N8.out).mono ?_); rintro e w' ⟨rfl, ⟨nd, rfl⟩⟩; exact ⟨rfl, _, World.drewN_drewN _ _ _⟩))
    go_upto_region 5 with (fail)
    have HW5 := Aside0.mk (show Drawn0 w (w.drewN nq) from ⟨⟨nq, rfl⟩⟩)
    generalize w.drewN nq = w5 at HW5 ⊢
    by_cases hA : (t.extract 0 12).toList = (t.extract 12 24).toList
    · have qA := beq_iff_eq.mpr hA
      have qA2 : ((t.extract 0 12).toList != (t.extract 12 24).toList) = false := by simp [bne, qA]
      have HA := Aside0.mk (HSL.out.1 hA)
      clear hA
      by_cases hB : 1 ≤ n ∧ n ≤ 3
      · have HI := Aside0.mk (show relstoreref_in.f n 1 3 = some true by unfold relstoreref_in.f; rw [if_pos hB.1, decide_eq_true hB.2])
        have HB := Aside0.mk hB
        clear hB
        by_cases hD : f = 0
        · have qD : decide (f > 0) = false := decide_eq_false (by omega)
          have qD2 : decide (0 < f) = false := decide_eq_false (by omega)
          have HD := Aside0.mk hD
          clear hD
          go_quiet (first
            | (go_at_call 105; (with_reducible refine (relstoreref_in.calls n 1 3 _ _ HI.out).mono ?_); rintro e w' ⟨rfl, ⟨nd, rfl⟩⟩; exact ⟨rfl, _, World.drewN_drewN _ _ _⟩))
          go_wp2_with (fail)
          go_ret3
          exact ⟨by rw [slot3_some (x := (tn t 0, tn t 4, tn t 8)) (by rw [HOK.out]; rw [if_pos (show slotOk s t from ⟨HA.out, by have := HB.out; have := HN.out; omega, by have := HB.out; have := HN.out; omega, .inl (by have := HD.out; have := HF.out; omega)⟩)]), ← HN.out, ← HF.out, ← HP.out]; rfl, HW5.out.step _⟩
        · have hf0 := HF0.out
          have qD : decide (f > 0) = true := decide_eq_true (by omega)
          have qD2 : decide (0 < f) = true := decide_eq_true (by omega)
          have HD := Aside0.mk hD
          clear hD
          by_cases hE : 64 + 1028 * f > (s.size : Int)
          · have qE : decide (64 + 1028 * f > (s.size : Int)) = true := decide_eq_true hE
            have qE2 : decide ((s.size : Int) < 64 + 1028 * f) = true := decide_eq_true hE
            have HE := Aside0.mk hE
            clear hE
            go_quiet (first
              | (go_at_call 105; (with_reducible refine (relstoreref_in.calls n 1 3 _ _ HI.out).mono ?_); rintro e w' ⟨rfl, ⟨nd, rfl⟩⟩; exact ⟨rfl, _, World.drewN_drewN _ _ _⟩))
            go_wp2_with (fail)
            go_ret3
            exact ⟨by rw [slot3_none (by rw [HOK.out]; rw [if_neg (show ¬ slotOk s t from fun h => h.2.2.2.elim (fun h => HD.out (by have := HF.out; omega)) (fun h => by have h1 := HE.out; have := HF.out; omega))])]; rfl, HW5.out.step _⟩
          · have qE : decide (64 + 1028 * f > (s.size : Int)) = false := decide_eq_false hE
            have qE2 : decide ((s.size : Int) < 64 + 1028 * f) = false := decide_eq_false hE
            have HE := Aside0.mk hE
            clear hE
            go_quiet (first
              | (go_at_call 105; (with_reducible refine (relstoreref_in.calls n 1 3 _ _ HI.out).mono ?_); rintro e w' ⟨rfl, ⟨nd, rfl⟩⟩; exact ⟨rfl, _, World.drewN_drewN _ _ _⟩))
            go_wp2_with (fail)
            go_ret3
            exact ⟨by rw [slot3_some (x := (tn t 0, tn t 4, tn t 8)) (by rw [HOK.out]; rw [if_pos (show slotOk s t from ⟨HA.out, by have := HB.out; have := HN.out; omega, by have := HB.out; have := HN.out; omega, .inr (by have := HE.out; have := HF.out; omega)⟩)]), ← HN.out, ← HF.out, ← HP.out]; rfl, HW5.out.step _⟩
      · have HI := Aside0.mk (show relstoreref_in.f n 1 3 = some false by
          unfold relstoreref_in.f
          by_cases h1 : n ≥ 1
          · rw [if_pos h1, decide_eq_false (by omega)]
          · rw [if_neg h1])
        have HB := Aside0.mk hB
        clear hB
        go_quiet (first
          | (go_at_call 105; (with_reducible refine (relstoreref_in.calls n 1 3 _ _ HI.out).mono ?_); rintro e w' ⟨rfl, ⟨nd, rfl⟩⟩; exact ⟨rfl, _, World.drewN_drewN _ _ _⟩))
        go_wp2_with (fail)
        go_ret3
        exact ⟨by rw [slot3_none (by rw [HOK.out]; rw [if_neg (show ¬ slotOk s t from fun h => HB.out ⟨by have := h.2.1; have := HN.out; omega, by have := h.2.2.1; have := HN.out; omega⟩)])]; rfl, HW5.out.step _⟩
    · have qA : ((t.extract 0 12).toList == (t.extract 12 24).toList) = false := beq_eq_false_iff_ne.mpr hA
      have qA2 : ((t.extract 0 12).toList != (t.extract 12 24).toList) = true := by simp [bne, qA]
      have HA := Aside0.mk hA
      clear hA
      go_quiet (first
        | (go_at_call 105; (with_reducible refine (relstoreref_in.calls n 1 3 _ _ HI.out).mono ?_); rintro e w' ⟨rfl, ⟨nd, rfl⟩⟩; exact ⟨rfl, _, World.drewN_drewN _ _ _⟩))
      go_wp2_with (fail)
      go_ret3
      exact ⟨by rw [slot3_none (by rw [HOK.out]; rw [if_neg (show ¬ slotOk s t from fun h => HA.out (HSL.out.2 h.1))])]; rfl, HW5.out.step _⟩
set_option maxHeartbeats 4000000 in
set_option maxRecDepth 100000 in
theorem slotOf.calls1 (s : ByteArray) (w : World) (hs : s.size ≤ 67108864) :
    Calls Try.prog 151 #[.string s, .int .i64 1] w fun e w' => e = .returned (.tuple #[.int .i64 ((slot3 s 1).1 : Int), .int .i64 ((slot3 s 1).2.1 : Int), .int .i64 ((slot3 s 1).2.2 : Int)]) ∧ Drawn0 w w' := by
  by_cases hl : s.size < 64
  · have HS := Aside0.mk (show slot3 s 1 = (0, 0, 0) from slot3_none (by unfold slotOfB; rw [if_pos (by omega)]))
    have l_ : (s.size : Int) < 64 := by omega
    have l2_ : decide ((s.size : Int) < 64) = true := decide_eq_true l_
    clear hl hs
    go_enter Try.func151, Try.ntmps151
    go_wp2_with (fail)
    go_ret3
    exact ⟨by rw [HS.out]; rfl, Drawn0.refl _⟩
  · have l_ : ¬ (s.size : Int) < 64 := by omega
    have l2_ : decide ((s.size : Int) < 64) = false := decide_eq_false l_
    have l3_ : (64 : Int) ≤ (s.size : Int) := by omega
    have HL := Aside0.mk hl
    have HZ := Aside0.mk hs
    have HT := Aside0.mk (show (s.extract 40 64).size = 24 from size_extract _ _ _ (by omega))
    clear hl hs
    obtain ⟨t, ht⟩ : ∃ t, t = s.extract 40 64 := ⟨_, rfl⟩
    have HTT := Aside0.mk ht
    rw [← ht] at HT
    have t24 := HT.out
    obtain ⟨n, hn⟩ : ∃ n : Int, n = ((tn t 0 : Nat) : Int) := ⟨_, rfl⟩
    obtain ⟨f, hf⟩ : ∃ f : Int, f = ((tn t 4 : Nat) : Int) := ⟨_, rfl⟩
    obtain ⟨p, hp⟩ : ∃ p : Int, p = ((tn t 8 : Nat) : Int) := ⟨_, rfl⟩
    have N0 := Aside0.mk (show relstoreref_unbytes.f 5 (t.extract 0 4) = some n by rw [hn]; exact un_drop t 0 (by omega))
    have N4 := Aside0.mk (show relstoreref_unbytes.f 5 (t.extract 4 8) = some f by rw [hf]; exact un_drop t 4 (by omega))
    have N8 := Aside0.mk (show relstoreref_unbytes.f 5 (t.extract 8 12) = some p by rw [hp]; exact un_drop t 8 (by omega))
    have HSL := Aside0.mk (show (t.extract 0 12).toList = (t.extract 12 24).toList ↔ t.extract 0 12 = t.extract 12 24 by rw [Lib.toList_data, Lib.toList_data]; exact ⟨bytes_ext, fun h => by rw [h]⟩)
    have HOK := Aside0.mk (show slotOfB s 1 = if slotOk s t then some (tn t 0, tn t 4, tn t 8) else none by unfold slotOfB slotT; rw [if_neg (by have := HL.out; omega), HTT.out])
    have HN := Aside0.mk hn
    have HF := Aside0.mk hf
    have HP := Aside0.mk hp
    have hn4 := u32_lt t.data.toList 0
    have hf4 := u32_lt t.data.toList 4
    have hp4 := u32_lt t.data.toList 8
    have hn4' : 0 ≤ n ∧ n < 4294967296 := by unfold tn at hn; omega
    have hf4' : 0 ≤ f ∧ f < 4294967296 := by unfold tn at hf; omega
    have hp4' : 0 ≤ p ∧ p < 4294967296 := by unfold tn at hp; omega
    have w1_ : IntKind.i64.wrap (1028 * f) = 1028 * f := IntWalk.i64_in _ (by omega)
    have w2_ : IntKind.i64.wrap (64 + 1028 * f) = 64 + 1028 * f := IntWalk.i64_in _ (by omega)
    have w3_ : IntKind.i64.wrap n = n := IntWalk.i64_in _ (by omega)
    have w4_ : IntKind.i64.wrap f = f := IntWalk.i64_in _ (by omega)
    have w5_ : IntKind.i64.wrap p = p := IntWalk.i64_in _ (by omega)
    have hs4 := HTT.out.symm
    have HF0 := Aside0.mk hf4'.1
    clear hn hf hp hn4 hf4 hp4 hn4' hf4' hp4' ht
    go_enter Try.func151, Try.ntmps151
    go_upto_region 4 with (fail)
    try simp only [hs4]
    clear hs4
    go_quiet (first
      | (go_at_call 109; (with_reducible refine (relstoreref_unbytes.calls 5 (t.extract 0 4) n _ N0.out).mono ?_); rintro e w' ⟨rfl, ⟨nd, rfl⟩⟩; exact ⟨rfl, _, World.drewN_drewN _ _ _⟩)
      | (go_at_call 109; (with_reducible refine (relstoreref_unbytes.calls 5 (t.extract 4 8) f _ N4.out).mono ?_); rintro e w' ⟨rfl, ⟨nd, rfl⟩⟩; exact ⟨rfl, _, World.drewN_drewN _ _ _⟩)
      | (go_at_call 109; (with_reducible refine (relstoreref_unbytes.calls 5 (t.extract 8 12) p _ N8.out).mono ?_); rintro e w' ⟨rfl, ⟨nd, rfl⟩⟩; exact ⟨rfl, _, World.drewN_drewN _ _ _⟩))
    go_upto_region 5 with (fail)
    have HW5 := Aside0.mk (show Drawn0 w (w.drewN nq) from ⟨⟨nq, rfl⟩⟩)
    generalize w.drewN nq = w5 at HW5 ⊢
    by_cases hA : (t.extract 0 12).toList = (t.extract 12 24).toList
    · have qA := beq_iff_eq.mpr hA
      have qA2 : ((t.extract 0 12).toList != (t.extract 12 24).toList) = false := by simp [bne, qA]
      have HA := Aside0.mk (HSL.out.1 hA)
      clear hA
      by_cases hB : 1 ≤ n ∧ n ≤ 3
      · have HI := Aside0.mk (show relstoreref_in.f n 1 3 = some true by unfold relstoreref_in.f; rw [if_pos hB.1, decide_eq_true hB.2])
        have HB := Aside0.mk hB
        clear hB
        by_cases hD : f = 0
        · have qD : decide (f > 0) = false := decide_eq_false (by omega)
          have qD2 : decide (0 < f) = false := decide_eq_false (by omega)
          have HD := Aside0.mk hD
          clear hD
          go_quiet (first
            | (go_at_call 105; (with_reducible refine (relstoreref_in.calls n 1 3 _ _ HI.out).mono ?_); rintro e w' ⟨rfl, ⟨nd, rfl⟩⟩; exact ⟨rfl, _, World.drewN_drewN _ _ _⟩))
          go_wp2_with (fail)
          go_ret3
          exact ⟨by rw [slot3_some (x := (tn t 0, tn t 4, tn t 8)) (by rw [HOK.out]; rw [if_pos (show slotOk s t from ⟨HA.out, by have := HB.out; have := HN.out; omega, by have := HB.out; have := HN.out; omega, .inl (by have := HD.out; have := HF.out; omega)⟩)]), ← HN.out, ← HF.out, ← HP.out]; rfl, HW5.out.step _⟩
        · have hf0 := HF0.out
          have qD : decide (f > 0) = true := decide_eq_true (by omega)
          have qD2 : decide (0 < f) = true := decide_eq_true (by omega)
          have HD := Aside0.mk hD
          clear hD
          by_cases hE : 64 + 1028 * f > (s.size : Int)
          · have qE : decide (64 + 1028 * f > (s.size : Int)) = true := decide_eq_true hE
            have qE2 : decide ((s.size : Int) < 64 + 1028 * f) = true := decide_eq_true hE
            have HE := Aside0.mk hE
            clear hE
            go_quiet (first
              | (go_at_call 105; (with_reducible refine (relstoreref_in.calls n 1 3 _ _ HI.out).mono ?_); rintro e w' ⟨rfl, ⟨nd, rfl⟩⟩; exact ⟨rfl, _, World.drewN_drewN _ _ _⟩))
            go_wp2_with (fail)
            go_ret3
            exact ⟨by rw [slot3_none (by rw [HOK.out]; rw [if_neg (show ¬ slotOk s t from fun h => h.2.2.2.elim (fun h => HD.out (by have := HF.out; omega)) (fun h => by have h1 := HE.out; have := HF.out; omega))])]; rfl, HW5.out.step _⟩
          · have qE : decide (64 + 1028 * f > (s.size : Int)) = false := decide_eq_false hE
            have qE2 : decide ((s.size : Int) < 64 + 1028 * f) = false := decide_eq_false hE
            have HE := Aside0.mk hE
            clear hE
            go_quiet (first
              | (go_at_call 105; (with_reducible refine (relstoreref_in.calls n 1 3 _ _ HI.out).mono ?_); rintro e w' ⟨rfl, ⟨nd, rfl⟩⟩; exact ⟨rfl, _, World.drewN_drewN _ _ _⟩))
            go_wp2_with (fail)
            go_ret3
            exact ⟨by rw [slot3_some (x := (tn t 0, tn t 4, tn t 8)) (by rw [HOK.out]; rw [if_pos (show slotOk s t from ⟨HA.out, by have := HB.out; have := HN.out; omega, by have := HB.out; have := HN.out; omega, .inr (by have := HE.out; have := HF.out; omega)⟩)]), ← HN.out, ← HF.out, ← HP.out]; rfl, HW5.out.step _⟩
      · have HI := Aside0.mk (show relstoreref_in.f n 1 3 = some false by
          unfold relstoreref_in.f
          by_cases h1 : n ≥ 1
          · rw [if_pos h1, decide_eq_false (by omega)]
          · rw [if_neg h1])
        have HB := Aside0.mk hB
        clear hB
        go_quiet (first
          | (go_at_call 105; (with_reducible refine (relstoreref_in.calls n 1 3 _ _ HI.out).mono ?_); rintro e w' ⟨rfl, ⟨nd, rfl⟩⟩; exact ⟨rfl, _, World.drewN_drewN _ _ _⟩))
        go_wp2_with (fail)
        go_ret3
        exact ⟨by rw [slot3_none (by rw [HOK.out]; rw [if_neg (show ¬ slotOk s t from fun h => HB.out ⟨by have := h.2.1; have := HN.out; omega, by have := h.2.2.1; have := HN.out; omega⟩)])]; rfl, HW5.out.step _⟩
    · have qA : ((t.extract 0 12).toList == (t.extract 12 24).toList) = false := beq_eq_false_iff_ne.mpr hA
      have qA2 : ((t.extract 0 12).toList != (t.extract 12 24).toList) = true := by simp [bne, qA]
      have HA := Aside0.mk hA
      clear hA
      go_quiet (first
        | (go_at_call 105; (with_reducible refine (relstoreref_in.calls n 1 3 _ _ HI.out).mono ?_); rintro e w' ⟨rfl, ⟨nd, rfl⟩⟩; exact ⟨rfl, _, World.drewN_drewN _ _ _⟩))
      go_wp2_with (fail)
      go_ret3
      exact ⟨by rw [slot3_none (by rw [HOK.out]; rw [if_neg (show ¬ slotOk s t from fun h => HA.out (HSL.out.2 h.1))])]; rfl, HW5.out.step _⟩
end Go.Proofs.Ythaoaaboempajaa.Log
namespace Go.Proofs.Ythaoaaboempajaa.Log
open Go.RowKit Go.Maps Go.Proofs.Ythaoaaboempajaa.QLogRuns Go.Proofs.Ythaoaaboempajaa.QDiskRuns Go.Proofs.Ythaoaaboempajaa.Disk Go.Proofs.YthaoaaboempajaaW.PrintWords Go.Proofs.YthaoaaboempajaaW.PrintLast Go.Proofs.YthaoaaboempajaaW.PrintMore Go.Proofs.YthaoaaboempajaaX
set_option linter.unusedVariables false
set_option linter.unusedSimpArgs false
theorem law3 : Keyed Try.prog 3 := int_keyed Try.underlying3
theorem zero3 (w : World) : (zeroValue 3).run Try.prog w = .ok (.int .i64 0) w := by kernel_rfl
def MapF (w : World) (b n : Nat) (f : Int → Int) : Prop := ∃ D : DataW Unit, w.ownsMap Try.prog 3 (plainElem Try.prog 3) b n D ∧ ∀ x, (Lit.int .i64 x).wf = true → D.atKey (.int .i64 x) (.lit (.int .i64 0)) = .lit (.int .i64 (f x))
theorem MapF.kept {w w' : World} {b n : Nat} {f : Int → Int} (h : MapF w b n f) (hb : w'.heap[b]? = w.heap[b]?) : MapF w' b n f := by
  obtain ⟨D, ⟨es, clock, h1, h2, h3, h4⟩, hf⟩ := h
  exact ⟨D, ⟨es, clock, hb.trans h1, h2, h3, h4⟩, hf⟩
theorem MapF.lt {w : World} {b n : Nat} {f : Int → Int} (h : MapF w b n f) : b < w.heap.size := h.elim fun _ h => h.1.lt
theorem MapF.mono {w : World} {b n m : Nat} {f : Int → Int} (h : MapF w b n f) (hm : n ≤ m) : MapF w b m f := by
  obtain ⟨D, h1, hf⟩ := h
  exact ⟨D, h1.mono hm, hf⟩
theorem MapF.look {w : World} {b n : Nat} {f : Int → Int} (h : MapF w b n f) {x : Int} (hx : (Lit.int .i64 x).wf = true) : (Instr.lookup 163 (.map (some b)) (.int .i64 x) false).run Try.prog w = .ok (.int .i64 (f x)) w := by
  obtain ⟨D, h1, hf⟩ := h
  obtain ⟨c, hrun, hat, _⟩ := h1.lookup_int law3 Try.underlying163 Try.underlying3 (zero3 w) (keyOf_int_mk Try.underlying3 hx)
  have e := (Lit.int.inj (DataW.lit.inj (hat.symm.trans (hf x hx)))).2
  exact e ▸ hrun
theorem wf_int {x : Int} (h : -9223372036854775808 ≤ x ∧ x < 9223372036854775808) : (Lit.int .i64 x).wf = true := WalkArith.wf_i64 (by omega)
theorem MapF.put {w : World} {b n : Nat} {f : Int → Int} (h : MapF w b n f) (hn : n < maxLen) {x y : Int} (hx : (Lit.int .i64 x).wf = true) (hy : (Lit.int .i64 y).wf = true) :
    ∃ w', (Instr.mapUpdate 163 (.map (some b)) (.int .i64 x) (.int .i64 y)).run Try.prog w = .ok () w' ∧ MapF w' b (n + 1) (fun z => if z = x then y else f z) ∧ w.grownBy w' (some b) := by
  obtain ⟨D, h1, hf⟩ := h
  obtain ⟨w', hrun, h2, hg⟩ := h1.update law3 Try.underlying163 hn (keyOf_int_mk Try.underlying3 hx) (plainElem_int Try.underlying3 hy)
  refine ⟨w', hrun, ⟨_, h2, fun z hz => ?_⟩, hg⟩
  show _ = DataW.lit (Lit.int .i64 (if z = x then y else f z))
  by_cases e : z = x
  · subst e
    rw [if_pos rfl]
    exact atKey_put_same h1.isMap (by simp [WideAt.IsKeyLit]) _ _
  · rw [if_neg e, ← hf z hz]
    exact atKey_put_other (fun he => e (Lit.int.inj he).2) _ _
def pcells (fr pg : Int) (b : Nat) : Array Value := #[.int .i64 fr, .int .i64 pg, .map (some b)]
set_option maxHeartbeats 4000000 in
set_option maxRecDepth 100000 in
theorem copied.calls (b n : Nat) (f : Int → Int) (fr pg : Int) (w : World) (h : MapF w b n f) (hn : n ≤ 1000000000) :
    Calls Try.prog 140 #[.agg (pcells fr pg b)] w fun e w' => ∃ b', e = .returned (.agg (pcells fr pg b')) ∧ w.heap.size ≤ b' ∧ MapF w' b' n f ∧ Below w.heap.size w w' := by
  obtain ⟨D0, hown, hf⟩ := h
  have HO := Aside0.mk hown
  have HF := Aside0.mk hf
  have HN := Aside0.mk hn
  have hmm : ∀ (k : Int) (w : World), (Instr.makeMap 163 (some (.int .i64 k))).run Try.prog w = .ok (.map (some w.heap.size)) (w.alloc (.map #[] 0)) := by
    intro k w
    simp [Instr.makeMap, underlying, Try.underlying163]
    rfl
  clear hown hf hn
  go_enter Try.func140, Try.ntmps140
  go_upto_region 1 with (first
    | ((with_reducible refine gate_dst (N := 1) rfl ?_); refine box_event ?hg (N := 1) ?hd (cs := pcells fr pg b) (t := 165) ?hr ?_; (case hd => rfl); (case hg => rfl); (case hr => first | (go_simp; done) | (go_simp; rfl)); intro g1 hg1 w1 hbox hb; have HX1 := Aside0.mk hbox; have HB1 := Aside0.mk hb; have HG1 := Aside0.mk hg1; clear hg1 hbox hb)
    | ((with_reducible refine gate_dst (N := 2) rfl ?_); refine box_event ?hg (N := 2) ?hd (cs := #[.int .i64 0, .int .i64 0, .map none]) (t := 165) ?hr ?_; (case hd => rfl); (case hg => rfl); (case hr => first | (go_simp; done) | (go_simp; rfl)); intro g2 hg2 w2 hbox hb; have HX2 := Aside0.mk hbox; have HB2 := Aside0.mk hb; have HG2 := Aside0.mk hg2; clear hg2 hbox hb))
  try go_frame
  have HB3 := Aside0.mk (below_step HB1.out HB2.out)
  have HO2 := Aside0.mk (HO.out.kept (grown_of_below HB3.out none) (by simp))
  have hl_ := HO2.out.len Try.underlying163
  have HX3 := Aside0.mk (blk_below HX1.out HB2.out)
  have HNE := Aside0.mk (show g1 ≠ g2 by rw [HG2.out]; exact Nat.ne_of_lt (blk_lt HX1.out))
  have p2 : w2.cell? ⟨g1, 2, none⟩ = some (.map (some b)) := (blk_cell HX3.out 2).trans rfl
  have p2b : ∀ o, (w2.alloc o).cell? ⟨g1, 2, none⟩ = some (.map (some b)) := fun o => (blk_cell (blk_alloc HX3.out o) 2).trans rfl
  have hbl := HO2.out.lt
  have e1 : (w2.alloc (.map #[] 0)).heap.size = w2.heap.size + 1 := by simp
  go_wp2_with (first
    | (at_range; refine wpList_range_own _ rfl _ 163 rfl 3 3 law3 Try.underlying163 _ b n _ rfl (HO2.out.alloc _) ?_; intro w0 hrg0 hg0 hs0)
    | go_in)
  try go_frame
  rw [e1] at hrg0 hs0 ⊢
  have HRG := Aside0.mk hrg0
  have HOUT := Aside0.mk (show w0.ownsMap Try.prog 3 (plainElem Try.prog 3) w2.heap.size (Maps.size D0 - Maps.size D0) (.map [] : DataW Unit) from ((World.ownsMap_made _ _ _ _).kept hg0 (by simp)).mono (Nat.zero_le _))
  have HBL := Aside0.mk (show Below w2.heap.size w2 w0 from ((Below.refl _ _).alloc (Nat.le_refl _) _).grown hg0 (by simp) (fun j hj => by cases hj))
  clear hl_ p2 p2b hrg0 hg0 hs0 e1
  go_loopw [4] (fun _ wr => ∃ (left : Lit → Bool) (cnt : Nat) (Dout : DataW Unit), Aside0 (wr.ranges Try.prog 3 (plainElem Try.prog 3) b (w2.heap.size + 1) n D0 left cnt) ∧ cnt ≤ Maps.size D0 ∧ Aside0 (wr.ownsMap Try.prog 3 (plainElem Try.prog 3) w2.heap.size (Maps.size D0 - cnt) Dout) ∧ Aside0 (Agree Dout D0 left) ∧ Aside0 (Below w2.heap.size w2 wr)) (fun _ wr => wr.rangeLeft b (w2.heap.size + 1))
  case atStart => exact ⟨_, _, .map [], HRG, Nat.le_refl _, HOUT, ⟨agree_start D0⟩, HBL⟩
  case round =>
    clear HRG HOUT HBL
    obtain ⟨left, cnt, Dout, HRG, hcs, HOUT, HA, HBL⟩ := hrel
    have hsz_ := HO2.out.size_le
    have hn_ := HN.out
    go_wp2_with (first
      | (at_next; refine wpList_next_ranges_ii _ rfl _ rfl 3 3 .i64 .i64 law3 Try.underlying3 Try.underlying3 b (w2.heap.size + 1) n _ _ _ rfl HRG.out ?_ ?_)
      | go_in)
    · intro hc0 hl0
      have p2 : ∃ v, wr.cell? ⟨g1, 2, none⟩ = some v := ⟨_, (blk_cell (blk_below HX3.out HBL.out) 2).trans rfl⟩
      obtain ⟨v2, p2⟩ := p2
      have z2 := blk_frozen (blk_below HX3.out HBL.out) 2
      go_upto_region 7 with (fail)
      have HY1 := Aside0.mk (show (wr.setCell ⟨g1, 2, none⟩ (.map (some w2.heap.size))).heap[g1]? = some (.cells (pcells fr pg w2.heap.size) 165 (0, 0)) from blk_put (blk_below HX3.out HBL.out) 2 _ rfl)
      have HY2 := Aside0.mk (blk_far (blk_below HX2.out HBL.out) (p := ⟨g1, 2, none⟩) (Ne.symm HNE.out) (.map (some w2.heap.size)))
      have HBW := Aside0.mk ((below_then HB3.out HB3.out.size HBL.out).setCell (p := ⟨g1, 2, none⟩) (Nat.le_of_eq HG1.out.symm) (.map (some w2.heap.size)))
      have HM := Aside0.mk (show (wr.setCell ⟨g1, 2, none⟩ (.map (some w2.heap.size))).heap[w2.heap.size]? = wr.heap[w2.heap.size]? from Below.heap_setCell wr ⟨g1, 2, none⟩ _ _ (Nat.ne_of_gt (blk_lt HX3.out)))
      clear p2 z2
      generalize wr.setCell ⟨g1, 2, none⟩ (.map (some w2.heap.size)) = w4 at HY1 HY2 HBW HM ⊢
      have a0 : w4.cell? ⟨g1, 0, none⟩ = some (.int .i64 fr) := (blk_cell HY1.out 0).trans rfl
      have a1 : w4.cell? ⟨g1, 1, none⟩ = some (.int .i64 pg) := (blk_cell HY1.out 1).trans rfl
      have a2 : w4.cell? ⟨g1, 2, none⟩ = some (.map (some w2.heap.size)) := (blk_cell HY1.out 2).trans rfl
      have b0 : w4.cell? ⟨g2, 0, none⟩ = some (.int .i64 0) := (blk_cell HY2.out 0).trans rfl
      have b1 : w4.cell? ⟨g2, 1, none⟩ = some (.int .i64 0) := (blk_cell HY2.out 1).trans rfl
      have b2 : w4.cell? ⟨g2, 2, none⟩ = some (.map none) := (blk_cell HY2.out 2).trans rfl
      have z0 := blk_frozen HY2.out 0
      have z1 := blk_frozen HY2.out 1
      have z2 := blk_frozen HY2.out 2
      go_wp2_with (fail)
      have HY3 := blk_put (blk_put (blk_put HY2.out 0 (.int .i64 fr) rfl) 1 (.int .i64 pg) rfl) 2 (.map (some w2.heap.size)) rfl
      have HG2' := Aside0.mk (show w.heap.size ≤ g2 by rw [HG2.out]; exact HB1.out.size)
      refine bodyPost_ret (results_cell_row (g := g2) (t := 165) (cs := pcells fr pg w2.heap.size) (fr := (0, 0)) (d := _) rfl _ _ rfl HY3 Try.underlying165 rfl (by kernel_rfl)) rfl ?_
      subst hc0
      have e := agree_end HA.out hl0 (HOUT.out.canon law3) (HO2.out.canon law3)
      subst e
      refine ⟨w2.heap.size, rfl, HB3.out.size, ?_, ((HBW.out.setCell (p := ⟨g2, 0, none⟩) HG2'.out _).setCell (p := ⟨g2, 1, none⟩) HG2'.out _).setCell (p := ⟨g2, 2, none⟩) HG2'.out _⟩
      have hne2 : w2.heap.size ≠ g2 := Nat.ne_of_gt (blk_lt HX2.out)
      refine MapF.kept (w := wr) ⟨Dout, HOUT.out.mono (by omega), HF.out⟩ ?_
      rw [Below.heap_setCell _ ⟨g2, 2, none⟩ _ _ hne2, Below.heap_setCell _ ⟨g2, 1, none⟩ _ _ hne2, Below.heap_setCell _ ⟨g2, 0, none⟩ _ _ hne2]
      exact HM.out
    · intro x c w1 cnt1 hwx hwc hlx hat hrg1 hlt hg1 hs1 hen
      have hout1 := HOUT.out.kept hg1 (by simp)
      go_wp2_with (first
        | (at_mapUpdate; refine wpList_mapUpdate_own _ rfl _ _ _ 163 rfl 3 3 law3 Try.underlying163 _ w2.heap.size _ _ rfl hout1 (by unfold maxLen; omega) _ _ _ rfl rfl (keyOf_int_mk Try.underlying3 hwx) _ [] (plainElem_int Try.underlying3 hwc) ?_; intro w2_ hout2 hg2; go_frame)
        | go_in)
      have hrg2 := hrg1.kept hg2 (fun e => by have := Option.some.inj e; omega) (fun e => by have := Option.some.inj e; omega)
      go_roundw
      case rel =>
        have hnx := HBL.out
        exact ⟨_, cnt1, _, ⟨hrg2⟩, by omega, ⟨hout2.mono (by omega)⟩, ⟨agree_step HA.out HOUT.out.isMap (by simp [WideAt.IsKeyLit]) hat⟩,
          ⟨(hnx.grown hg1 hnx.size (fun j hj => by cases hj; exact Nat.le_succ _)).grown hg2 (by have := hnx.size; have := hg1.size; omega) (fun j hj => by cases hj; exact Nat.le_refl _)⟩⟩
      case measure => rw [hrg2.left_eq, HRG.out.left_eq]; exact hlt
end Go.Proofs.Ythaoaaboempajaa.Log
