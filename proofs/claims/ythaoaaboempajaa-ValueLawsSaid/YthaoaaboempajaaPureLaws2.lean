/- The plain law of ValueLaws: any three values; no conditions. -/
import Derived.Test.YthaoaaboempajaaLawsLaw
import Derived.Test.YthaoaaboempajaaE
namespace Go.Proofs.Ythaoaaboempajaa.Pure
open Go.RowKit Go.Proofs.Ythaoaaboempajaa.QValueLaws Go.Proofs.YthaoaaboempajaaW.PrintWords Go.Proofs.YthaoaaboempajaaW.PrintLast Go.Proofs.YthaoaaboempajaaE
set_option linter.unusedVariables false
set_option linter.unusedSimpArgs false
/-- A value with nothing in it that its kind does not need. -/
def cl (a b : Int) (c : ByteArray) : Int × Int × ByteArray := if a = 1 then (1, if b = 0 then 0 else 1, ⟨#[]⟩) else if a = 2 then (2, b, ⟨#[]⟩) else if a = 3 then (3, 0, c) else (0, 0, ⟨#[]⟩)
theorem Clean_is (a b : Int) (c : ByteArray) : value_Clean.f a b c = some (cl a b c) := by
  unfold value_Clean.f cl value_Flag.f value_Of.f value_Str.f value_None.f
  by_cases h1 : a = 1
  · by_cases hb : b = 0 <;> simp [h1, hb]
  · by_cases h2 : a = 2
    · simp [h2]
    · by_cases h3 : a = 3 <;> simp [h1, h2, h3]
theorem cmp_is (a b : Int) : cmp_Compare_int.f a b = some (cmpI a b) := by
  unfold cmp_Compare_int.f cmp_isNaN_int.f cmpI
  simp only [Option.bind_some, bne_self_eq_false, Bool.false_eq_true, if_false]
  by_cases h : a < b
  · simp [h]
  · by_cases h2 : a > b <;> simp [h, h2]
theorem cmp64_is (a b : Int) : cmp_Compare_int64.f a b = some (cmpI a b) := by
  unfold cmp_Compare_int64.f cmp_isNaN_int64.f cmpI
  simp only [Option.bind_some, bne_self_eq_false, Bool.false_eq_true, if_false]
  by_cases h : a < b
  · simp [h]
  · by_cases h2 : a > b <;> simp [h, h2]
/-- How clean values stand. -/
def ord (x y : Int × Int × ByteArray) : Int := if x.1 = y.1 then if x.1 = 3 then Lib.compareBytes x.2.2.data.toList y.2.2.data.toList else cmpI x.2.1 y.2.1 else cmpI x.1 y.1
theorem Order_is (a b : Int) (c : ByteArray) (d e : Int) (f : ByteArray) : value_Order.f a b c d e f = some (ord (cl a b c) (cl d e f)) := by
  unfold value_Order.f ord strings_Compare.f bytealg_CompareString.f
  rw [Clean_is, Clean_is]
  simp only [Option.bind_some, cmp_is, cmp64_is]
  by_cases h : (cl a b c).1 = (cl d e f).1
  · by_cases h3 : (cl d e f).1 = 3 <;> simp [h, h3]
  · simp [h]
/-- A truth as a value. -/
def flag (b : Bool) : Int × Int × ByteArray := (1, if b = true then 1 else 0, ⟨#[]⟩)
def none3 : Int × Int × ByteArray := (0, 0, ⟨#[]⟩)
theorem Flag_is (b : Bool) : value_Flag.f b = some (flag b) := by cases b <;> rfl
theorem None_is : value_None.f = some none3 := rfl
/-- 0 false, 1 true, 2 null. -/
def three (a b : Int) : Int := if a = 1 then if b = 0 then 0 else 1 else 2
def told (i : Int) : Int × Int × ByteArray := if i = 0 then flag false else if i = 1 then flag true else none3
theorem Not_is (a b : Int) (c : ByteArray) : value_Not.f a b c = some (told (if three a b = 0 then 1 else if three a b = 1 then 0 else 2)) := by
  unfold value_Not.f three told
  rw [Flag_is, None_is]
  by_cases h : a = 1
  · by_cases hb : b = 0 <;> simp [h, hb, flag]
  · simp [h, none3]
def bothI (i j : Int) : Int := if i = 0 ∨ j = 0 then 0 else if i = 1 ∧ j = 1 then 1 else 2
theorem Both_j1 (k : Nat) (b : Bool) : value_Both.j1 (k + 1) b = some (told (if b = true then 1 else 2)) := by
  simp only [value_Both.j1]
  rw [Flag_is, None_is]
  cases b <;> rfl
theorem Both_j0 (k : Nat) (x : Bool) (a b : Int) (c : ByteArray) (d e : Int) (f : ByteArray) : value_Both.j0 (k + 2) x a b c d e f = some (told (if x = true then 0 else if a = 1 ∧ d = 1 then 1 else 2)) := by
  simp only [value_Both.j0]
  rw [Flag_is]
  cases x with
  | true => rfl
  | false =>
    by_cases h : a = 1
    · simp only [Bool.false_eq_true, if_false, if_pos h]
      rw [Both_j1]
      by_cases hd : d = 1 <;> simp [h, hd]
    · simp only [Bool.false_eq_true, if_false, if_neg h]
      rw [Both_j1]
      simp [h]
theorem Both_is (a b : Int) (c : ByteArray) (d e : Int) (f : ByteArray) : Ev (fun k => value_Both.f k a b c d e f) (told (bothI (three a b) (three d e))) := by
  refine ⟨2, fun k hk => ?_⟩
  obtain ⟨k, rfl⟩ : ∃ m, k = m + 2 := ⟨k - 2, by omega⟩
  simp only [value_Both.f, Both_j0]
  unfold bothI three
  by_cases h : a = 1
  · by_cases hb : b = 0
    · simp [h, hb]
    · by_cases hd : d = 1
      · by_cases he : e = 0 <;> simp [h, hb, hd, he]
      · simp [h, hb, hd]
  · by_cases hd : d = 1
    · by_cases he : e = 0 <;> simp [h, hd, he]
    · simp [h, hd]
theorem three_cases (a b : Int) : three a b = 0 ∨ three a b = 1 ∨ three a b = 2 := by
  unfold three
  split
  · split
    · exact .inl rfl
    · exact .inr (.inl rfl)
  · exact .inr (.inr rfl)
/-- What was told reads as it was told. -/
theorem three_told {i : Int} (h : i = 0 ∨ i = 1 ∨ i = 2) : three (told i).1 (told i).2.1 = i := by
  rcases h with rfl | rfl | rfl <;> rfl
def notI (i : Int) : Int := if i = 0 then 1 else if i = 1 then 0 else 2
def eitherI (i j : Int) : Int := notI (bothI (notI i) (notI j))
theorem Either_is (a b : Int) (c : ByteArray) (d e : Int) (f : ByteArray) : Ev (fun k => value_Either.f k a b c d e f) (told (eitherI (three a b) (three d e))) := by
  unfold value_Either.f
  refine Ev.some_bind (Not_is a b c) (Ev.some_bind (Not_is d e f) ?_)
  refine Ev.bind (Both_is _ _ _ _ _ _) (Ev.some_bind (Not_is _ _ _) (Ev.const ?_))
  have n0 : ∀ {i : Int}, i = 0 ∨ i = 1 ∨ i = 2 → (if i = 0 then 1 else if i = 1 then 0 else 2 : Int) = 0 ∨ (if i = 0 then 1 else if i = 1 then 0 else 2 : Int) = 1 ∨ (if i = 0 then 1 else if i = 1 then 0 else 2 : Int) = 2 := by
    rintro i (rfl | rfl | rfl) <;> simp
  rw [three_told (n0 (three_cases a b)), three_told (n0 (three_cases d e))]
  rcases three_cases a b with h1 | h1 | h1 <;> rcases three_cases d e with h2 | h2 | h2 <;> rw [h1, h2] <;> rfl
def inR (n : Int) : Prop := -9223372036854775808 ≤ n ∧ n ≤ 9223372036854775807
instance (n : Int) : Decidable (inR n) := inferInstanceAs (Decidable (_ ∧ _))
def num3 (n : Int) : Int × Int × ByteArray := (2, n, ⟨#[]⟩)
/-- What is reckoned with two numbers; nothing where it is no number of 64 bits. -/
def reckO (op a b : Int) : Int × Int × ByteArray :=
  if op = 5 then (if inR (a + b) then num3 (a + b) else none3) else if op = 6 then (if inR (a - b) then num3 (a - b) else none3) else if op = 7 then (if inR (a * b) then num3 (a * b) else none3)
  else if op = 8 ∨ op = 9 then (if b = 0 ∨ a = -9223372036854775808 ∧ b = -1 then none3 else if op = 9 then num3 (a.tmod b) else num3 (a.tdiv b)) else none3
theorem j3_is (k : Nat) (n : Int) (b : Bool) : value_Reckon.j3 (k + 1) n b = some (if b = true then num3 n else none3) := by
  cases b <;> rfl
theorem sum_ok (a b : Int) (ha : inR a) (hb : inR b) : value_sum.f a b = some (wrap64 (a + b), decide (inR (a + b))) ∧ (inR (a + b) → wrap64 (a + b) = a + b) := by
  unfold inR at ha hb
  refine ⟨?_, fun h => w64' h.1 h.2⟩
  unfold value_sum.f
  congr 2
  by_cases h : inR (a + b)
  · rw [decide_eq_true h, w64' h.1 h.2]
    by_cases hp : b > 0
    · rw [decide_eq_true (show a + b > a by omega), decide_eq_true hp]; rfl
    · rw [decide_eq_false (show ¬ a + b > a by omega), decide_eq_false hp]; rfl
  · rw [decide_eq_false h]
    unfold inR at h
    by_cases hp : b > 0
    · rw [decide_eq_false (show ¬ wrap64 (a + b) > a by unfold wrap64; omega), decide_eq_true hp]; rfl
    · rw [decide_eq_true (show wrap64 (a + b) > a by unfold wrap64; omega), decide_eq_false hp]; rfl
theorem sub_ok (a b : Int) (ha : inR a) (hb : inR b) : (decide (wrap64 (a - b) < a) == decide (b > 0)) = decide (inR (a - b)) := by
  unfold inR at ha hb
  by_cases h : inR (a - b)
  · rw [decide_eq_true h, w64' h.1 h.2]
    by_cases hp : b > 0
    · rw [decide_eq_true (show a - b < a by omega), decide_eq_true hp]; rfl
    · rw [decide_eq_false (show ¬ a - b < a by omega), decide_eq_false hp]; rfl
  · rw [decide_eq_false h]
    unfold inR at h
    by_cases hp : b > 0
    · rw [decide_eq_false (show ¬ wrap64 (a - b) < a by unfold wrap64; omega), decide_eq_true hp]; rfl
    · rw [decide_eq_true (show wrap64 (a - b) < a by unfold wrap64; omega), decide_eq_false hp]; rfl
theorem product_is (a b : Int) (ha : inR a) (hb : inR b) : value_product.f a b = some (if inR (a * b) then (a * b, true) else (0, false)) := by
  unfold inR at ha hb
  unfold value_product.f
  rw [if_pos ⟨ha.1, by omega, hb.1, by omega⟩]
  congr 1
  by_cases h : inR (a * b)
  · rw [if_pos h, if_pos ⟨h.1, by have := h.2; omega⟩]
  · rw [if_neg h, if_neg (fun k => h ⟨k.1, by omega⟩)]
theorem tdiv_range (a b : Int) (ha : inR a) (hb0 : b ≠ 0) (hb : ¬ (a = -9223372036854775808 ∧ b = -1)) : inR (a.tdiv b) := by
  unfold inR at *
  have h1 : (a.tdiv b).natAbs ≤ a.natAbs := Int.natAbs_tdiv_le_natAbs a b
  by_cases h : a = -9223372036854775808
  · have hb1 : b ≠ -1 := fun e => hb ⟨h, e⟩
    by_cases h2 : a.tdiv b = 9223372036854775808
    · exfalso
      have := Int.mul_tdiv_add_tmod a b
      subst h
      have hm : ((-9223372036854775808 : Int).tmod b).natAbs < b.natAbs := by rw [Int.natAbs_tmod]; exact Nat.mod_lt _ (by omega)
      rw [h2] at this
      omega
    · omega
  · omega
theorem divide_step (op a b : Int) (k1 k2 : Int) (s t : ByteArray) (ha : inR a) (x : Bool) (hx : x = decide (op = 8 ∨ op = 9)) : Ev (fun k => value_Reckon.j1 k op 0 x k1 a s k2 b t) (if op = 8 ∨ op = 9 then (if b = 0 ∨ a = -9223372036854775808 ∧ b = -1 then none3 else if op = 9 then num3 (a.tmod b) else num3 (a.tdiv b)) else none3) := by
  subst hx
  refine ⟨3, fun k hk => ?_⟩
  obtain ⟨k, rfl⟩ : ∃ m, k = m + 3 := ⟨k - 3, by omega⟩
  rw [show k + 3 = k + 2 + 1 from rfl]
  simp only [value_Reckon.j1]
  have j2 : ∀ c, value_Reckon.j2 (k + 2) op 0 c k1 a s k2 b t = if c = true then (if b = 0 then none else if op = 9 then some (num3 (a.tmod b)) else some (num3 (wrap64 (a.tdiv b)))) else some none3 := by
    intro c
    rw [show k + 2 = k + 1 + 1 from rfl]
    simp only [value_Reckon.j2, j3_is]
    cases c <;> simp
  by_cases ho : op = 8 ∨ op = 9
  · rw [decide_eq_true ho, if_pos rfl, if_pos ho]
    by_cases h0 : b = 0
    · rw [if_pos h0, if_pos (.inl h0), j2]
      rfl
    · rw [if_neg h0]
      have fine : ¬ (a = -9223372036854775808 ∧ b = -1) → (if b = 0 then none else if op = 9 then some (num3 (a.tmod b)) else some (num3 (wrap64 (a.tdiv b)))) = some (if op = 9 then num3 (a.tmod b) else num3 (a.tdiv b)) := by
        intro h1
        have := tdiv_range a b ha h0 h1
        rw [if_neg h0, w64' this.1 this.2]
        by_cases h9 : op = 9
        · rw [if_pos h9, if_pos h9]
        · rw [if_neg h9, if_neg h9]
      by_cases h1 : b = -1
      · rw [if_pos h1, j2]
        by_cases hm : a = -9223372036854775808
        · have : (a == -9223372036854775808) = true := beq_iff_eq.2 hm
          rw [this, if_pos (Or.inr ⟨hm, h1⟩)]
          rfl
        · have hn : ¬ (b = 0 ∨ a = -9223372036854775808 ∧ b = -1) := fun k => k.elim h0 (fun k => hm k.1)
          have : (a == -9223372036854775808) = false := beq_eq_false_iff_ne.2 hm
          rw [if_neg hn, this, if_pos (by decide)]
          exact fine (fun k => hm k.1)
      · have hn : ¬ (b = 0 ∨ a = -9223372036854775808 ∧ b = -1) := fun k => k.elim h0 (fun k => h1 k.2)
        rw [if_neg h1, j2, if_neg hn, if_pos (by decide)]
        exact fine (fun k => h1 k.2)
  · rw [decide_eq_false ho, if_neg (by decide), if_neg ho, j3_is]
    rfl
theorem Reckon_j0 (op k1 a : Int) (s : ByteArray) (k2 b : Int) (t : ByteArray) (ha : inR a) (hb : inR b) : Ev (fun k => value_Reckon.j0 k op false k1 a s k2 b t) (reckO op a b) := by
  have j3 : ∀ n c, Ev (fun k => value_Reckon.j3 k n c) (if c = true then num3 n else none3) := fun n c => ⟨1, fun k hk => by
    obtain ⟨k, rfl⟩ : ∃ m, k = m + 1 := ⟨k - 1, by omega⟩
    exact j3_is k n c⟩
  refine Ev.step (f := fun k => (if op = 5 then ((value_sum.f a b).bind fun bt115 => (value_Reckon.j3 k bt115.1 bt115.2)) else (if op = 6 then (value_Reckon.j3 k (wrap64 (a - b)) ((decide ((wrap64 (a - b)) < a)) == (decide (b > 0)))) else (if op = 7 then ((value_product.f a b).bind fun bt117 => (value_Reckon.j3 k bt117.1 bt117.2)) else (if op = 8 then (value_Reckon.j1 k op 0 (op == 8) k1 a s k2 b t) else (value_Reckon.j1 k op 0 (op == 9) k1 a s k2 b t)))))) (fun k => rfl) ?_
  unfold reckO
  by_cases h5 : op = 5
  · rw [if_pos h5]
    refine Ev.ite_true h5 (Ev.some_bind (sum_ok a b ha hb).1 ?_)
    have := j3 (wrap64 (a + b)) (decide (inR (a + b)))
    by_cases h : inR (a + b)
    · rw [if_pos h]
      rw [if_pos (decide_eq_true h), (sum_ok a b ha hb).2 h] at this
      rw [decide_eq_true h] at this ⊢
      rw [(sum_ok a b ha hb).2 h]
      exact this
    · rw [if_neg h]
      rw [if_neg (by simp [h])] at this
      exact this
  · refine Ev.ite_false h5 ?_
    rw [if_neg h5]
    by_cases h6 : op = 6
    · rw [if_pos h6]
      refine Ev.ite_true h6 ?_
      rw [sub_ok a b ha hb]
      have := j3 (wrap64 (a - b)) (decide (inR (a - b)))
      by_cases h : inR (a - b)
      · rw [if_pos h]
        rw [if_pos (decide_eq_true h)] at this
        rw [w64' h.1 h.2] at this ⊢
        exact this
      · rw [if_neg h]
        rw [if_neg (by simp [h])] at this
        exact this
    · refine Ev.ite_false h6 ?_
      rw [if_neg h6]
      by_cases h7 : op = 7
      · rw [if_pos h7]
        refine Ev.ite_true h7 (Ev.some_bind (product_is a b ha hb) ?_)
        by_cases h : inR (a * b)
        · rw [if_pos h, if_pos h]
          exact j3 (a * b) true
        · rw [if_neg h, if_neg h]
          exact j3 0 false
      · refine Ev.ite_false h7 ?_
        rw [if_neg h7]
        by_cases h8 : op = 8
        · refine Ev.ite_true h8 (divide_step op a b k1 k2 s t ha _ ?_)
          subst h8
          rfl
        · refine Ev.ite_false h8 (divide_step op a b k1 k2 s t ha _ ?_)
          by_cases h9 : op = 9
          · subst h9; rfl
          · have : (op == 9) = false := beq_eq_false_iff_ne.2 h9
            rw [this]
            exact (decide_eq_false (by omega)).symm
/-- What is reckoned with any two values. -/
def reckV (op : Int) (k1 a k2 b : Int) : Int × Int × ByteArray := if k1 = 2 ∧ k2 = 2 then reckO op a b else none3
theorem Reckon_is (op k1 a : Int) (s : ByteArray) (k2 b : Int) (t : ByteArray) (ha : inR a) (hb : inR b) : Ev (fun k => value_Reckon.f k op k1 a s k2 b t) (reckV op k1 a k2 b) := by
  unfold value_Reckon.f reckV
  have bad : ∀ k2, Ev (fun k => value_Reckon.j0 k op true k1 a s k2 b t) none3 := fun k2 => Ev.step (f := fun _ => some none3) (fun k => rfl) (Ev.now _)
  by_cases h1 : k1 = 2
  · refine Ev.ite_true h1 ?_
    by_cases h2 : k2 = 2
    · rw [if_pos ⟨h1, h2⟩]
      have : (k2 != 2) = false := by simp [h2]
      rw [this]
      exact Reckon_j0 op k1 a s k2 b t ha hb
    · rw [if_neg (fun k => h2 k.2)]
      have : (k2 != 2) = true := by simp [h2]
      rw [this]
      exact bad k2
  · rw [if_neg (fun k => h1 k.1)]
    exact Ev.ite_false h1 (bad k2)
theorem cmpI_anti (a b : Int) : cmpI a b = - cmpI b a := by unfold cmpI; split <;> split <;> (try split) <;> omega
theorem cmpI_le {a b : Int} : cmpI a b ≤ 0 ↔ a ≤ b := by unfold cmpI; split <;> (try split) <;> omega
theorem ord_anti (x y : Int × Int × ByteArray) : ord x y = - ord y x := by
  unfold ord
  by_cases h : x.1 = y.1
  · rw [if_pos h, if_pos h.symm]
    by_cases h3 : x.1 = 3
    · rw [if_pos h3, if_pos (h ▸ h3)]
      exact compare_anti _ _
    · rw [if_neg h3, if_neg (h ▸ h3)]
      exact cmpI_anti _ _
  · rw [if_neg h, if_neg (fun k => h k.symm)]
    exact cmpI_anti _ _
theorem ord_self (x : Int × Int × ByteArray) : ord x x = 0 := by
  have := ord_anti x x
  omega
theorem ord_range (x y : Int × Int × ByteArray) : ord x y = -1 ∨ ord x y = 0 ∨ ord x y = 1 := by
  have c : ∀ a b : Int, cmpI a b = -1 ∨ cmpI a b = 0 ∨ cmpI a b = 1 := by intro a b; unfold cmpI; split <;> (try split) <;> omega
  unfold ord
  split
  · split
    · exact compare_range _ _
    · exact c _ _
  · exact c _ _
theorem ord_trans {x y z : Int × Int × ByteArray} (h1 : ord x y ≤ 0) (h2 : ord y z ≤ 0) : ord x z ≤ 0 := by
  unfold ord at *
  by_cases a : x.1 = y.1
  · rw [if_pos a] at h1
    by_cases b : y.1 = z.1
    · rw [if_pos b] at h2
      rw [if_pos (a.trans b)]
      by_cases c : x.1 = 3
      · rw [if_pos c] at h1 ⊢
        rw [if_pos (a ▸ c)] at h2
        exact compare_trans h1 h2
      · rw [if_neg c] at h1 ⊢
        rw [if_neg (a ▸ c)] at h2
        rw [cmpI_le] at *
        omega
    · rw [if_neg b] at h2
      rw [if_neg (fun k => b (a.symm.trans k)), a]
      exact h2
  · rw [if_neg a] at h1
    by_cases b : y.1 = z.1
    · rw [if_neg (fun k => a (k.trans b.symm)), ← b]
      exact h1
    · rw [if_neg b] at h2
      rw [cmpI_le] at h1 h2
      rw [if_neg (by omega), cmpI_le]
      omega
theorem ord_same {x y z : Int × Int × ByteArray} (h1 : ord x y = 0) (h2 : ord y z = 0) : ord x z = 0 := by
  have a := ord_trans (x := x) (y := y) (z := z) (by omega) (by omega)
  have b := ord_trans (x := z) (y := y) (z := x) (by rw [ord_anti]; omega) (by rw [ord_anti]; omega)
  rw [ord_anti] at b
  omega
theorem told_cases (a b : Int) : ∃ i, three a b = i ∧ (i = 0 ∨ i = 1 ∨ i = 2) := ⟨_, rfl, three_cases a b⟩
theorem bothI_range {i j : Int} (hi : i = 0 ∨ i = 1 ∨ i = 2) (hj : j = 0 ∨ j = 1 ∨ j = 2) : bothI i j = 0 ∨ bothI i j = 1 ∨ bothI i j = 2 := by
  rcases hi with rfl | rfl | rfl <;> rcases hj with rfl | rfl | rfl <;> decide
theorem notI_range {i : Int} (hi : i = 0 ∨ i = 1 ∨ i = 2) : notI i = 0 ∨ notI i = 1 ∨ notI i = 2 := by rcases hi with rfl | rfl | rfl <;> decide
theorem eitherI_range {i j : Int} (hi : i = 0 ∨ i = 1 ∨ i = 2) (hj : j = 0 ∨ j = 1 ∨ j = 2) : eitherI i j = 0 ∨ eitherI i j = 1 ∨ eitherI i j = 2 := by
  rcases hi with rfl | rfl | rfl <;> rcases hj with rfl | rfl | rfl <;> decide
theorem Not_told {i : Int} (hi : i = 0 ∨ i = 1 ∨ i = 2) : value_Not.f (told i).1 (told i).2.1 (told i).2.2 = some (told (notI i)) := by
  rw [Not_is, three_told hi]
  rfl
theorem ne_self (x : Int × Int × ByteArray) : (!(x.1 == x.1) || (!(x.2.1 == x.2.1) || (!(x.2.2.toList == x.2.2.toList)))) = false := by simp
/-- What is added can be taken away. -/
theorem sum_back (k1 a : Int) (s : ByteArray) (k2 b : Int) (t : ByteArray) (ha : inR a) (hb : inR b) : ∃ n, ∀ k, n ≤ k → (reckV 5 k1 a k2 b).1 = 2 →
    value_Reckon.f k 6 (reckV 5 k1 a k2 b).1 (reckV 5 k1 a k2 b).2.1 (reckV 5 k1 a k2 b).2.2 k2 b t = some (cl k1 a s) ∧ value_Reckon.f k 5 k2 b t k1 a s = some (reckV 5 k1 a k2 b) := by
  by_cases hk : k1 = 2 ∧ k2 = 2
  · obtain ⟨rfl, rfl⟩ := hk
    by_cases hs : inR (a + b)
    · have e5 : reckV 5 2 a 2 b = num3 (a + b) := by
        unfold reckV reckO
        rw [if_pos ⟨rfl, rfl⟩, if_pos rfl, if_pos hs]
      have e6 : reckV 6 2 (a + b) 2 b = num3 a := by
        unfold reckV reckO
        rw [if_pos ⟨rfl, rfl⟩, if_neg (by decide), if_pos rfl, Int.add_sub_cancel, if_pos ha]
      have e5' : reckV 5 2 b 2 a = num3 (a + b) := by
        unfold reckV reckO
        rw [if_pos ⟨rfl, rfl⟩, if_pos rfl, Int.add_comm b a, if_pos hs]
      obtain ⟨n1, h1⟩ := Reckon_is 6 2 (a + b) (⟨#[]⟩ : ByteArray) 2 b t hs hb
      obtain ⟨n2, h2⟩ := Reckon_is 5 2 b t 2 a s hb ha
      refine ⟨n1 + n2, fun k hk _ => ?_⟩
      have g1 := h1 k (by omega)
      have g2 := h2 k (by omega)
      rw [e6] at g1
      rw [e5'] at g2
      rw [e5]
      exact ⟨g1, g2⟩
    · have e5 : reckV 5 2 a 2 b = none3 := by
        unfold reckV reckO
        rw [if_pos ⟨rfl, rfl⟩, if_pos rfl, if_neg hs]
      exact ⟨0, fun k _ h => by rw [e5] at h; exact absurd h (by decide)⟩
  · have e5 : reckV 5 k1 a k2 b = none3 := by unfold reckV; rw [if_neg hk]
    exact ⟨0, fun k _ h => by rw [e5] at h; exact absurd h (by decide)⟩
/-- The quotient, times what it was divided by, and what is left. -/
theorem quot_back (k1 a : Int) (s : ByteArray) (k2 b : Int) (t : ByteArray) (ha : inR a) (hb : inR b) : ∃ n, ∀ k, n ≤ k → (reckV 8 k1 a k2 b).1 = 2 → ∃ z : Int × Int × ByteArray,
    z = reckV 7 2 (reckV 8 k1 a k2 b).2.1 2 b ∧ value_Reckon.f k 7 (reckV 8 k1 a k2 b).1 (reckV 8 k1 a k2 b).2.1 (reckV 8 k1 a k2 b).2.2 k2 b t = some z ∧
    value_Reckon.f k 5 z.1 z.2.1 z.2.2 (reckV 9 k1 a k2 b).1 (reckV 9 k1 a k2 b).2.1 (reckV 9 k1 a k2 b).2.2 = some (cl k1 a s) := by
  by_cases hk : k1 = 2 ∧ k2 = 2
  · have e8 : reckV 8 k1 a k2 b = if b = 0 ∨ a = -9223372036854775808 ∧ b = -1 then none3 else num3 (a.tdiv b) := by
      unfold reckV reckO
      rw [if_pos hk, if_neg (by decide), if_neg (by decide), if_neg (by decide), if_pos (by decide), if_neg (show ¬ ((8 : Int) = 9) by decide)]
    have e9 : reckV 9 k1 a k2 b = if b = 0 ∨ a = -9223372036854775808 ∧ b = -1 then none3 else num3 (a.tmod b) := by
      unfold reckV reckO
      rw [if_pos hk, if_neg (by decide), if_neg (by decide), if_neg (by decide), if_pos (by decide), if_pos (show (9 : Int) = 9 from rfl)]
    obtain ⟨rfl, rfl⟩ := hk
    by_cases hbad : b = 0 ∨ a = -9223372036854775808 ∧ b = -1
    · rw [if_pos hbad] at e8
      exact ⟨0, fun k _ h => by rw [e8] at h; exact absurd h (by decide)⟩
    · rw [if_neg hbad] at e8 e9
      rw [e8, e9]
      have hb0 : b ≠ 0 := fun e => hbad (.inl e)
      have hq := tdiv_range a b ha hb0 (fun e => hbad (.inr e))
      have hm : b * a.tdiv b + a.tmod b = a := Int.mul_tdiv_add_tmod a b
      have hr : inR (a.tmod b) := by
        have h1 : (a.tmod b).natAbs ≤ a.natAbs := by rw [Int.natAbs_tmod]; exact Nat.mod_le _ _
        have h2 : 0 ≤ a → 0 ≤ a.tmod b := fun h => Int.tmod_nonneg b h
        have h3 : a ≤ 0 → a.tmod b ≤ 0 := by
          intro h
          have := Int.tmod_nonneg (a := -a) b (by omega)
          rw [Int.neg_tmod] at this
          omega
        unfold inR at *
        omega
      have hp : inR (a.tdiv b * b) := by
        have h1 : (a.tmod b).natAbs ≤ a.natAbs := by rw [Int.natAbs_tmod]; exact Nat.mod_le _ _
        have h2 : 0 ≤ a → 0 ≤ a.tmod b := fun h => Int.tmod_nonneg b h
        have h3 : a ≤ 0 → a.tmod b ≤ 0 := by
          intro h
          have := Int.tmod_nonneg (a := -a) b (by omega)
          rw [Int.neg_tmod] at this
          omega
        rw [Int.mul_comm]
        unfold inR at *
        omega
      have e7 : reckV 7 2 (a.tdiv b) 2 b = num3 (a.tdiv b * b) := by
        unfold reckV reckO
        rw [if_pos ⟨rfl, rfl⟩, if_neg (by decide), if_neg (by decide), if_pos rfl, if_pos hp]
      have e5 : reckV 5 2 (a.tdiv b * b) 2 (a.tmod b) = num3 a := by
        unfold reckV reckO
        rw [if_pos ⟨rfl, rfl⟩, if_pos rfl, Int.mul_comm, hm, if_pos ha]
      obtain ⟨n1, h1⟩ := Reckon_is 7 2 (a.tdiv b) (⟨#[]⟩ : ByteArray) 2 b t hq hb
      obtain ⟨n2, h2⟩ := Reckon_is 5 2 (a.tdiv b * b) (⟨#[]⟩ : ByteArray) 2 (a.tmod b) (⟨#[]⟩ : ByteArray) hp hr
      refine ⟨n1 + n2, fun k hk _ => ⟨num3 (a.tdiv b * b), e7.symm, ?_, ?_⟩⟩
      · have g1 := h1 k (by omega)
        rw [e7] at g1
        exact g1
      · have g2 := h2 k (by omega)
        rw [e5] at g2
        exact g2
  · have e8 : reckV 8 k1 a k2 b = none3 := by unfold reckV; rw [if_neg hk]
    exact ⟨0, fun k _ h => by rw [e8] at h; exact absurd h (by decide)⟩
theorem reckV_kind (op k1 a k2 b : Int) : (reckV op k1 a k2 b).1 = 2 ∨ (reckV op k1 a k2 b).1 = 0 := by
  unfold reckV reckO
  repeat' split
  all_goals first | exact .inl rfl | exact .inr rfl
/-- All that the law's walk asks. -/
theorem answers (w : World) (k1 a : Int) (s : ByteArray) (k2 b : Int) (t : ByteArray) (k3 c : Int) (u : ByteArray) (ha : inR a) (hb : inR b) :
    Calls Try.prog 12 #[.agg #[.int .i64 k1, .int .i64 a, .string s], .agg #[.int .i64 k2, .int .i64 b, .string t], .agg #[.int .i64 k3, .int .i64 c, .string u]] w fun e w' => e = .returned (.bool true) ∧ Below w.heap.size w w' := by
  obtain ⟨i, ei, hi⟩ := told_cases k1 a
  obtain ⟨j, ej, hj⟩ := told_cases k2 b
  obtain ⟨l, el, hl⟩ := told_cases k3 c
  have B := Both_is k1 a s k2 b t
  rw [ei, ej] at B
  have B' := Both_is k2 b t k1 a s
  rw [ei, ej] at B'
  have Na : value_Not.f k1 a s = some (told (notI i)) := by rw [Not_is, ei]; rfl
  have Nb : value_Not.f k2 b t = some (told (notI j)) := by rw [Not_is, ej]; rfl
  have E1 := Either_is (told (notI i)).1 (told (notI i)).2.1 (told (notI i)).2.2 (told (notI j)).1 (told (notI j)).2.1 (told (notI j)).2.2
  rw [three_told (notI_range hi), three_told (notI_range hj)] at E1
  have x1 : eitherI (notI i) (notI j) = notI (bothI i j) := by rcases hi with rfl | rfl | rfl <;> rcases hj with rfl | rfl | rfl <;> decide
  rw [x1] at E1
  have x2 : bothI j i = bothI i j := by rcases hi with rfl | rfl | rfl <;> rcases hj with rfl | rfl | rfl <;> decide
  rw [x2] at B'
  have F1 := Either_is k2 b t k3 c u
  rw [ej, el] at F1
  have F2 := Either_is k1 a s (told (eitherI j l)).1 (told (eitherI j l)).2.1 (told (eitherI j l)).2.2
  rw [ei, three_told (eitherI_range hj hl)] at F2
  have F3 := Either_is k1 a s k2 b t
  rw [ei, ej] at F3
  have F4 := Either_is (told (eitherI i j)).1 (told (eitherI i j)).2.1 (told (eitherI i j)).2.2 k3 c u
  rw [el, three_told (eitherI_range hi hj)] at F4
  have x3 : eitherI (eitherI i j) l = eitherI i (eitherI j l) := by rcases hi with rfl | rfl | rfl <;> rcases hj with rfl | rfl | rfl <;> rcases hl with rfl | rfl | rfl <;> decide
  rw [x3] at F4
  obtain ⟨n1, B⟩ := B
  obtain ⟨n2, B'⟩ := B'
  obtain ⟨n3, E1⟩ := E1
  obtain ⟨n4, F1⟩ := F1
  obtain ⟨n5, F2⟩ := F2
  obtain ⟨n6, F3⟩ := F3
  obtain ⟨n7, F4⟩ := F4
  obtain ⟨n8, S⟩ := Reckon_is 5 k1 a s k2 b t ha hb
  obtain ⟨n9, S2⟩ := sum_back k1 a s k2 b t ha hb
  obtain ⟨n10, D⟩ := Reckon_is 8 k1 a s k2 b t ha hb
  obtain ⟨n11, O⟩ := Reckon_is 9 k1 a s k2 b t ha hb
  obtain ⟨n12, D2⟩ := quot_back k1 a s k2 b t ha hb
  obtain ⟨n13, Z⟩ := Reckon_is 5 2 2 (⟨#[]⟩ : ByteArray) 2 3 (⟨#[]⟩ : ByteArray) (by decide) (by decide)
  have h4 : value_Order.f k2 b t k1 a s = some (-(ord (cl k1 a s) (cl k2 b t))) := by rw [Order_is, ← ord_anti]
  have h5 : value_Order.f k1 a s k1 a s = some 0 := by rw [Order_is, ord_self]
  have h6 : value_Order.f 0 0 (⟨#[]⟩ : ByteArray) 1 0 (⟨#[]⟩ : ByteArray) = some (-1) := by rw [Order_is]; decide
  let N := n1 + n2 + n3 + n4 + n5 + n6 + n7 + n8 + n9 + n10 + n11 + n12 + n13
  refine ValueLaws.calls N k1 a s k2 b t k3 c u w (ord (cl k1 a s) (cl k2 b t)) (ord (cl k2 b t) (cl k3 c u)) (ord (cl k1 a s) (cl k3 c u)) (ord_range _ _) (ord_range _ _) (ord_range _ _)
    (Order_is k1 a s k2 b t) (Order_is k2 b t k3 c u) (Order_is k1 a s k3 c u) h4 h5 h6
    (told (bothI i j)).1 (told (bothI i j)).2.1 (told (bothI i j)).2.2 (told (notI (bothI i j))).1 (told (notI (bothI i j))).2.1 (told (notI (bothI i j))).2.2 (told (notI i)).1 (told (notI i)).2.1 (told (notI i)).2.2 (told (notI j)).1 (told (notI j)).2.1 (told (notI j)).2.2 (told (eitherI j l)).1 (told (eitherI j l)).2.1 (told (eitherI j l)).2.2 (told (eitherI i (eitherI j l))).1 (told (eitherI i (eitherI j l))).2.1 (told (eitherI i (eitherI j l))).2.2 (told (eitherI i j)).1 (told (eitherI i j)).2.1 (told (eitherI i j)).2.2
    (B N (by omega)) (Not_told (bothI_range hi hj)) Na Nb (E1 N (by omega)) (B' N (by omega)) (F1 N (by omega)) (F2 N (by omega)) (F3 N (by omega)) (F4 N (by omega))
    (reckV 5 k1 a k2 b).1 (reckV 5 k1 a k2 b).2.1 (reckV 5 k1 a k2 b).2.2 (cl k1 a s).1 (cl k1 a s).2.1 (cl k1 a s).2.2 (reckV 8 k1 a k2 b).1 (reckV 8 k1 a k2 b).2.1 (reckV 8 k1 a k2 b).2.2 (reckV 9 k1 a k2 b).1 (reckV 9 k1 a k2 b).2.1 (reckV 9 k1 a k2 b).2.2 (reckV 7 2 (reckV 8 k1 a k2 b).2.1 2 b).1 (reckV 7 2 (reckV 8 k1 a k2 b).2.1 2 b).2.1 (reckV 7 2 (reckV 8 k1 a k2 b).2.1 2 b).2.2
    (reckV_kind 5 k1 a k2 b) (reckV_kind 8 k1 a k2 b) (S N (by omega)) (S2 N (by omega)) (Clean_is k1 a s) (D N (by omega)) (O N (by omega))
    (fun h => ?_) (Z N (by omega)) (fun h1 h2 => ord_trans h1 h2) (fun h1 h2 => ord_same h1 h2)
  obtain ⟨z, rfl, g1, g2⟩ := D2 N (by omega) h
  exact ⟨g1, g2⟩
end Go.Proofs.Ythaoaaboempajaa.Pure
