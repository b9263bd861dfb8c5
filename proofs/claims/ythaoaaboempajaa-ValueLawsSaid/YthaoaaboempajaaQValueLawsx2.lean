-- Lines written for this claim by a program of this session (wip/print). Lean checks them.
import Derived.Test.YthaoaaboempajaaQValueLawsx0
namespace Go.Proofs.Ythaoaaboempajaa.QValueLaws
open Go.RowKit Go.Proofs.YthaoaaboempajaaW.PrintWords Go.Proofs.YthaoaaboempajaaW.PrintLast Go.Proofs.YthaoaaboempajaaW.PrintMore Go.Proofs.YthaoaaboempajaaX
attribute [local go_sem] max2_int min2_int max_two min_two max_three min_three max_four min_four   -- for this text's walks alone
set_option linter.unusedVariables false
set_option linter.unusedSimpArgs false

/-! ### bits_Mul64: function 159 (a contract of this session's own) -/
/-- The two halves of a product. -/
def bits_Mul64.f (a0 : Int) (a1 : Int) : Option (Int × Int) := if 0 ≤ a0 ∧ a0 < 18446744073709551616 ∧ 0 ≤ a1 ∧ a1 < 18446744073709551616 then some (a0 * a1 / 18446744073709551616, a0 * a1 % 18446744073709551616) else none
theorem bits_Mul64.calls (a0 : Int) (a1 : Int) (r1 : Int) (r2 : Int) (w : World) (h : bits_Mul64.f a0 a1 = some (r1, r2)) :
    Calls Try.prog 159 #[.int .u64 a0, .int .u64 a1] w fun e w' => e = .returned (.tuple #[.int .u64 r1, .int .u64 r2]) ∧ Drawn0 w w' := by
  unfold bits_Mul64.f at h
  split at h
  · rename_i hb
    obtain ⟨b0, b1, b2, b3⟩ := hb
    obtain ⟨x, rfl⟩ := Int.eq_ofNat_of_zero_le b0
    obtain ⟨y, rfl⟩ := Int.eq_ofNat_of_zero_le b2
    have h := Option.some.inj h
    simp only [Prod.mk.injEq] at h
    obtain ⟨rfl, rfl⟩ := h
    refine (Try.bits_Mul64 x y (by omega) (by omega) w).mono ?_
    rintro e w' ⟨rfl, rfl⟩
    refine ⟨?_, Drawn0.refl _⟩
    rw [show ((x : Int) * y / 18446744073709551616) = ((x * y / 18446744073709551616 : Nat) : Int) by simp, show ((x : Int) * y % 18446744073709551616) = ((x * y % 18446744073709551616 : Nat) : Int) by simp]
  · cases h

/-! ### value_size: function 160 -/
def value_size.f (a0 : Int) : Option (Int) := if a0 < 0 then (some (IntKind.u64.wrap (-(IntKind.u64.wrap (a0))))) else (some (IntKind.u64.wrap (a0)))
set_option maxHeartbeats 8000000 in
set_option maxRecDepth 100000 in
theorem value_size.calls (a0 : Int) (r : Int) (w : World) (h : value_size.f a0 = some r) :
    Calls Try.prog 160 #[.int .i64 a0] w fun e w' => e = .returned (.int .u64 r) ∧ Drawn0 w w' := by
  have H : (if a0 < 0 then (some (IntKind.u64.wrap (-(IntKind.u64.wrap (a0))))) else (some (IntKind.u64.wrap (a0)))) = some r := h
  clear h
  by_cases c2 : a0 < 0
  · rw [if_pos c2] at H
    have c2b0 : decide (a0 < 0) = true := decide_eq_true c2
    clear c2
    obtain rfl := Option.some.inj H
    go_enter Try.func160, Try.ntmps160
    go_wp2
    go_ret
    exact ⟨by first | rfl | (simp; done) | (simp [*]; done) | exact bq1 _ _ | exact bq2 _ _ | exact congrArg Value.bool (bq2 _ _) | exact congrArg Value.bool (bq1 _ _) | exact congrArg Value.bool (bq1' _ _) | exact bq1' _ _ | exact congrArg Value.bool (bq2' _ _) | exact bq2' _ _, by repeat (first | exact Drawn0.refl _ | apply Drawn0.step)⟩
  · rw [if_neg c2] at H
    have c2b0 : decide (a0 < 0) = false := decide_eq_false c2
    clear c2
    obtain rfl := Option.some.inj H
    go_enter Try.func160, Try.ntmps160
    go_wp2
    go_ret
    exact ⟨by first | rfl | (simp; done) | (simp [*]; done) | exact bq1 _ _ | exact bq2 _ _ | exact congrArg Value.bool (bq2 _ _) | exact congrArg Value.bool (bq1 _ _) | exact congrArg Value.bool (bq1' _ _) | exact bq1' _ _ | exact congrArg Value.bool (bq2' _ _) | exact bq2' _ _, by repeat (first | exact Drawn0.refl _ | apply Drawn0.step)⟩

/-! ### value_product: function 111 (a contract of this session's own) -/
/-- A product of two whole numbers, if it is none too great. -/
def value_product.f (a0 : Int) (a1 : Int) : Option (Int × Bool) := if -9223372036854775808 ≤ a0 ∧ a0 < 9223372036854775808 ∧ -9223372036854775808 ≤ a1 ∧ a1 < 9223372036854775808 then some (if -9223372036854775808 ≤ a0 * a1 ∧ a0 * a1 < 9223372036854775808 then (a0 * a1, true) else (0, false)) else none
def value_product.R (m : Bool) (hi lo : Int) : Int × Bool := if hi > 0 then (0, false) else if lo > 9223372036854775808 then (0, false) else if lo = 9223372036854775808 then (if m = true then (wrap64 (-(wrap64 lo)), true) else (0, false)) else if m = true then (wrap64 (-(wrap64 lo)), true) else (wrap64 lo, true)
set_option maxHeartbeats 8000000 in
set_option maxRecDepth 100000 in
theorem value_product.core (a0 a1 A B hi lo : Int) (v0 v1 : Bool) (E0 : Aside0 (value_size.f a0 = some A)) (E1 : Aside0 (value_size.f a1 = some B)) (EM : Aside0 (bits_Mul64.f A B = some (hi, lo))) (s0 : decide (a0 < 0) = v0) (s1 : decide (a1 < 0) = v1) (r1 : Int) (r2 : Bool) (w : World)
    (hf : Aside0 (value_product.R (v0 != v1) hi lo = (r1, r2))) :
    Calls Try.prog 111 #[.int .i64 a0, .int .i64 a1] w fun e w' => e = .returned (.tuple #[.int .i64 r1, .bool r2]) ∧ Drawn0 w w' := by
  by_cases c1 : 0 < hi
  · have d1 : decide (0 < hi) = true := decide_eq_true c1
    have HF : Aside0 ((0, false) = (r1, r2)) := ⟨by rw [← hf.out]; unfold value_product.R; rw [if_pos c1]⟩
    clear c1 hf
    cases v0 <;> cases v1 <;>
    ( go_enter Try.func111, Try.ntmps111
      go_wp2_with (first | ((with_reducible refine gate_callee (f := 160) rfl ?_); refine goesL_ (some 16) rfl rfl Try.func160 (by kernel_rfl) rfl #[.int .i64 a0] rfl (by (try simp only [List.map_toArray, List.map_cons, List.map_nil]); first | done | rfl) ?_; (with_reducible refine (value_size.calls a0 A _ E0.out).mono ?_); rintro e w' ⟨rfl, ⟨nd, rfl⟩⟩; refine ⟨_, rfl, ?_⟩) | ((with_reducible refine gate_callee (f := 160) rfl ?_); refine goesL_ (some 18) rfl rfl Try.func160 (by kernel_rfl) rfl #[.int .i64 a1] rfl (by (try simp only [List.map_toArray, List.map_cons, List.map_nil]); first | done | rfl) ?_; (with_reducible refine (value_size.calls a1 B _ E1.out).mono ?_); rintro e w' ⟨rfl, ⟨nd, rfl⟩⟩; refine ⟨_, rfl, ?_⟩) | ((with_reducible refine gate_callee (f := 159) rfl ?_); refine goesL_ (some 19) rfl rfl Try.func159 (by kernel_rfl) rfl #[.int .u64 A, .int .u64 B] rfl (by (try simp only [List.map_toArray, List.map_cons, List.map_nil]); first | done | rfl) ?_; (with_reducible refine (bits_Mul64.calls A B hi lo _ EM.out).mono ?_); rintro e w' ⟨rfl, ⟨nd, rfl⟩⟩; refine ⟨_, rfl, ?_⟩))
      go_ret2
      obtain ⟨rfl, rfl⟩ := Prod.mk.inj HF.out
      exact ⟨rfl, by repeat (first | exact Drawn0.refl _ | apply Drawn0.step)⟩)
  · have d1 : decide (0 < hi) = false := decide_eq_false c1
    by_cases c2 : 9223372036854775808 < lo
    · have d2 : decide (9223372036854775808 < lo) = true := decide_eq_true c2
      have HF : Aside0 ((0, false) = (r1, r2)) := ⟨by rw [← hf.out]; unfold value_product.R; rw [if_neg c1, if_pos c2]⟩
      clear c1 c2 hf
      cases v0 <;> cases v1 <;>
      ( go_enter Try.func111, Try.ntmps111
        go_wp2_with (first | ((with_reducible refine gate_callee (f := 160) rfl ?_); refine goesL_ (some 16) rfl rfl Try.func160 (by kernel_rfl) rfl #[.int .i64 a0] rfl (by (try simp only [List.map_toArray, List.map_cons, List.map_nil]); first | done | rfl) ?_; (with_reducible refine (value_size.calls a0 A _ E0.out).mono ?_); rintro e w' ⟨rfl, ⟨nd, rfl⟩⟩; refine ⟨_, rfl, ?_⟩) | ((with_reducible refine gate_callee (f := 160) rfl ?_); refine goesL_ (some 18) rfl rfl Try.func160 (by kernel_rfl) rfl #[.int .i64 a1] rfl (by (try simp only [List.map_toArray, List.map_cons, List.map_nil]); first | done | rfl) ?_; (with_reducible refine (value_size.calls a1 B _ E1.out).mono ?_); rintro e w' ⟨rfl, ⟨nd, rfl⟩⟩; refine ⟨_, rfl, ?_⟩) | ((with_reducible refine gate_callee (f := 159) rfl ?_); refine goesL_ (some 19) rfl rfl Try.func159 (by kernel_rfl) rfl #[.int .u64 A, .int .u64 B] rfl (by (try simp only [List.map_toArray, List.map_cons, List.map_nil]); first | done | rfl) ?_; (with_reducible refine (bits_Mul64.calls A B hi lo _ EM.out).mono ?_); rintro e w' ⟨rfl, ⟨nd, rfl⟩⟩; refine ⟨_, rfl, ?_⟩))
        go_ret2
        obtain ⟨rfl, rfl⟩ := Prod.mk.inj HF.out
        exact ⟨rfl, by repeat (first | exact Drawn0.refl _ | apply Drawn0.step)⟩)
    · have d2 : decide (9223372036854775808 < lo) = false := decide_eq_false c2
      by_cases c3 : lo = 9223372036854775808
      · have d3 : (lo == 9223372036854775808) = true := beq_iff_eq.2 c3
        have HF : Aside0 ((if (v0 != v1) = true then (wrap64 (-(wrap64 lo)), true) else (0, false)) = (r1, r2)) := ⟨by rw [← hf.out]; unfold value_product.R; rw [if_neg c1, if_neg c2, if_pos c3]⟩
        clear c1 c2 c3 hf
        cases v0 <;> cases v1 <;>
        ( go_enter Try.func111, Try.ntmps111
          go_wp2_with (first | ((with_reducible refine gate_callee (f := 160) rfl ?_); refine goesL_ (some 16) rfl rfl Try.func160 (by kernel_rfl) rfl #[.int .i64 a0] rfl (by (try simp only [List.map_toArray, List.map_cons, List.map_nil]); first | done | rfl) ?_; (with_reducible refine (value_size.calls a0 A _ E0.out).mono ?_); rintro e w' ⟨rfl, ⟨nd, rfl⟩⟩; refine ⟨_, rfl, ?_⟩) | ((with_reducible refine gate_callee (f := 160) rfl ?_); refine goesL_ (some 18) rfl rfl Try.func160 (by kernel_rfl) rfl #[.int .i64 a1] rfl (by (try simp only [List.map_toArray, List.map_cons, List.map_nil]); first | done | rfl) ?_; (with_reducible refine (value_size.calls a1 B _ E1.out).mono ?_); rintro e w' ⟨rfl, ⟨nd, rfl⟩⟩; refine ⟨_, rfl, ?_⟩) | ((with_reducible refine gate_callee (f := 159) rfl ?_); refine goesL_ (some 19) rfl rfl Try.func159 (by kernel_rfl) rfl #[.int .u64 A, .int .u64 B] rfl (by (try simp only [List.map_toArray, List.map_cons, List.map_nil]); first | done | rfl) ?_; (with_reducible refine (bits_Mul64.calls A B hi lo _ EM.out).mono ?_); rintro e w' ⟨rfl, ⟨nd, rfl⟩⟩; refine ⟨_, rfl, ?_⟩))
          go_ret2
          obtain ⟨rfl, rfl⟩ := Prod.mk.inj HF.out
          exact ⟨rfl, by repeat (first | exact Drawn0.refl _ | apply Drawn0.step)⟩)
      · have d3 : (lo == 9223372036854775808) = false := beq_eq_false_iff_ne.2 c3
        have HF : Aside0 ((if (v0 != v1) = true then (wrap64 (-(wrap64 lo)), true) else (wrap64 lo, true)) = (r1, r2)) := ⟨by rw [← hf.out]; unfold value_product.R; rw [if_neg c1, if_neg c2, if_neg c3]⟩
        clear c1 c2 c3 hf
        cases v0 <;> cases v1 <;>
        ( go_enter Try.func111, Try.ntmps111
          go_wp2_with (first | ((with_reducible refine gate_callee (f := 160) rfl ?_); refine goesL_ (some 16) rfl rfl Try.func160 (by kernel_rfl) rfl #[.int .i64 a0] rfl (by (try simp only [List.map_toArray, List.map_cons, List.map_nil]); first | done | rfl) ?_; (with_reducible refine (value_size.calls a0 A _ E0.out).mono ?_); rintro e w' ⟨rfl, ⟨nd, rfl⟩⟩; refine ⟨_, rfl, ?_⟩) | ((with_reducible refine gate_callee (f := 160) rfl ?_); refine goesL_ (some 18) rfl rfl Try.func160 (by kernel_rfl) rfl #[.int .i64 a1] rfl (by (try simp only [List.map_toArray, List.map_cons, List.map_nil]); first | done | rfl) ?_; (with_reducible refine (value_size.calls a1 B _ E1.out).mono ?_); rintro e w' ⟨rfl, ⟨nd, rfl⟩⟩; refine ⟨_, rfl, ?_⟩) | ((with_reducible refine gate_callee (f := 159) rfl ?_); refine goesL_ (some 19) rfl rfl Try.func159 (by kernel_rfl) rfl #[.int .u64 A, .int .u64 B] rfl (by (try simp only [List.map_toArray, List.map_cons, List.map_nil]); first | done | rfl) ?_; (with_reducible refine (bits_Mul64.calls A B hi lo _ EM.out).mono ?_); rintro e w' ⟨rfl, ⟨nd, rfl⟩⟩; refine ⟨_, rfl, ?_⟩))
          go_ret2
          obtain ⟨rfl, rfl⟩ := Prod.mk.inj HF.out
          exact ⟨rfl, by repeat (first | exact Drawn0.refl _ | apply Drawn0.step)⟩)
theorem value_product.size_is (a : Int) (h0 : -9223372036854775808 ≤ a) (h1 : a < 9223372036854775808) : value_size.f a = some (if a < 0 then -a else a) := by
  unfold value_size.f
  by_cases h : a < 0
  · rw [if_pos h, if_pos h]
    congr 1
    unfold IntKind.wrap
    simp [IntKind.signed, IntKind.bits]
    omega
  · rw [if_neg h, if_neg h]
    congr 1
    unfold IntKind.wrap
    simp [IntKind.signed, IntKind.bits]
    omega
theorem value_product.calls (a0 : Int) (a1 : Int) (r1 : Int) (r2 : Bool) (w : World) (h : value_product.f a0 a1 = some (r1, r2)) :
    Calls Try.prog 111 #[.int .i64 a0, .int .i64 a1] w fun e w' => e = .returned (.tuple #[.int .i64 r1, .bool r2]) ∧ Drawn0 w w' := by
  unfold value_product.f at h
  by_cases hb : -9223372036854775808 ≤ a0 ∧ a0 < 9223372036854775808 ∧ -9223372036854775808 ≤ a1 ∧ a1 < 9223372036854775808
  case neg => rw [if_neg hb] at h; cases h
  rw [if_pos hb] at h
  have h := Option.some.inj h
  obtain ⟨b0, b1, b2, b3⟩ := hb
  have s0 := value_product.size_is a0 b0 b1
  have s1 := value_product.size_is a1 b2 b3
  generalize hA : (if a0 < 0 then -a0 else a0) = A at s0
  generalize hB : (if a1 < 0 then -a1 else a1) = B at s1
  have A0 : 0 ≤ A ∧ A ≤ 9223372036854775808 := by split at hA <;> omega
  have B0 : 0 ≤ B ∧ B ≤ 9223372036854775808 := by split at hB <;> omega
  have hm : bits_Mul64.f A B = some (A * B / 18446744073709551616, A * B % 18446744073709551616) := by
    unfold bits_Mul64.f
    rw [if_pos ⟨A0.1, by omega, B0.1, by omega⟩]
  have hP : a0 * a1 = if (decide (a0 < 0) != decide (a1 < 0)) = true then -(A * B) else A * B := by
    by_cases n0 : a0 < 0 <;> by_cases n1 : a1 < 0 <;> simp only [n0, n1, if_true, if_false, decide_true, decide_false] at hA hB ⊢ <;> subst hA <;> subst hB <;> simp [Int.neg_mul, Int.mul_neg]
  have hAB : 0 ≤ A * B := Int.mul_nonneg A0.1 B0.1
  refine value_product.core a0 a1 A B _ _ _ _ ⟨s0⟩ ⟨s1⟩ ⟨hm⟩ rfl rfl r1 r2 w ⟨?_⟩
  rw [← h, hP]
  clear h hP hm s0 s1 hA hB
  generalize A * B = m at *
  generalize (decide (a0 < 0) != decide (a1 < 0)) = b
  unfold value_product.R
  cases b with
  | true =>
    simp only [if_true]
    by_cases c1 : m / 18446744073709551616 > 0
    · rw [if_pos c1, if_neg (by omega)]
    · rw [if_neg c1]
      by_cases c2 : m % 18446744073709551616 > 9223372036854775808
      · rw [if_pos c2, if_neg (by omega)]
      · rw [if_neg c2]
        by_cases c3 : m % 18446744073709551616 = 9223372036854775808
        · rw [if_pos c3, if_pos (by omega)]
          congr 1
          unfold wrap64
          omega
        · rw [if_neg c3, if_pos (by omega)]
          congr 1
          unfold wrap64
          omega
  | false =>
    simp only [Bool.false_eq_true, if_false]
    by_cases c1 : m / 18446744073709551616 > 0
    · rw [if_pos c1, if_neg (by omega)]
    · rw [if_neg c1]
      by_cases c2 : m % 18446744073709551616 > 9223372036854775808
      · rw [if_pos c2, if_neg (by omega)]
      · rw [if_neg c2]
        by_cases c3 : m % 18446744073709551616 = 9223372036854775808
        · rw [if_pos c3, if_neg (by omega)]
        · rw [if_neg c3, if_pos (by omega)]
          congr 1
          unfold wrap64
          omega

end Go.Proofs.Ythaoaaboempajaa.QValueLaws
