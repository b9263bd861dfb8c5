/- The plain law of ValueTests: comparisons, and the truths of three kinds; no conditions. -/
import Derived.Test.YthaoaaboempajaaQValueTestsx
import Derived.Test.YthaoaaboempajaaE
namespace Go.Proofs.Ythaoaaboempajaa.Pure
open Go.RowKit Go.Proofs.Ythaoaaboempajaa.QValueTests Go.Proofs.YthaoaaboempajaaW.PrintWords Go.Proofs.YthaoaaboempajaaW.PrintLast Go.Proofs.YthaoaaboempajaaE
set_option linter.unusedVariables false
set_option linter.unusedSimpArgs false
/-- A value with nothing in it that its kind does not need. -/
def cl (a b : Int) (c : ByteArray) : Int × Int × ByteArray := if a = 1 then (1, if b = 0 then 0 else 1, ⟨#[]⟩) else if a = 2 then (2, b, ⟨#[]⟩) else if a = 3 then (3, 0, c) else (0, 0, ⟨#[]⟩)
theorem Clean_is (a b : Int) (c : ByteArray) : value_Clean.f a b c = some (cl a b c) := by
  unfold value_Clean.f cl value_Flag.f value_Of.f value_Str.f value_None.f
  by_cases h1 : a = 1
  · by_cases hb : b = 0 <;> simp [h1, hb]
  · by_cases h2 : a = 2
    · simp [h2]
    · by_cases h3 : a = 3 <;> simp [h1, h2, h3]
theorem cmp_is (a b : Int) : cmp_Compare_int.f a b = some (cmpI a b) := by
  unfold cmp_Compare_int.f cmp_isNaN_int.f cmpI
  simp only [Option.bind_some, bne_self_eq_false, Bool.false_eq_true, if_false]
  by_cases h : a < b
  · simp [h]
  · by_cases h2 : a > b <;> simp [h, h2]
theorem cmp64_is (a b : Int) : cmp_Compare_int64.f a b = some (cmpI a b) := by
  unfold cmp_Compare_int64.f cmp_isNaN_int64.f cmpI
  simp only [Option.bind_some, bne_self_eq_false, Bool.false_eq_true, if_false]
  by_cases h : a < b
  · simp [h]
  · by_cases h2 : a > b <;> simp [h, h2]
/-- How clean values stand. -/
def ord (x y : Int × Int × ByteArray) : Int := if x.1 = y.1 then if x.1 = 3 then Lib.compareBytes x.2.2.data.toList y.2.2.data.toList else cmpI x.2.1 y.2.1 else cmpI x.1 y.1
theorem Order_is (a b : Int) (c : ByteArray) (d e : Int) (f : ByteArray) : value_Order.f a b c d e f = some (ord (cl a b c) (cl d e f)) := by
  unfold value_Order.f ord strings_Compare.f bytealg_CompareString.f
  rw [Clean_is, Clean_is]
  simp only [Option.bind_some, cmp_is, cmp64_is]
  by_cases h : (cl a b c).1 = (cl d e f).1
  · by_cases h3 : (cl d e f).1 = 3 <;> simp [h, h3]
  · simp [h]
theorem rClean_is (a b : Int) (c : ByteArray) : relstoreref_Clean.f a b c = some (cl a b c) := by
  unfold relstoreref_Clean.f cl relstoreref_truth.f relstoreref_num.f relstoreref_str.f relstoreref_null.f
  by_cases h1 : a = 1
  · by_cases hb : b = 0 <;> simp [h1, hb]
  · by_cases h2 : a = 2
    · simp [h2]
    · by_cases h3 : a = 3 <;> simp [h1, h2, h3]
def lessB (x y : Int × Int × ByteArray) : Bool := if x.1 = y.1 then if x.1 = 3 then Op.bytesLess x.2.2.data.toList y.2.2.data.toList else decide (x.2.1 < y.2.1) else decide (x.1 < y.1)
theorem less_is (a b : Int) (c : ByteArray) (d e : Int) (f : ByteArray) : relstoreref_less.f a b c d e f = some (lessB (cl a b c) (cl d e f)) := by
  unfold relstoreref_less.f lessB
  rw [rClean_is, rClean_is]
  simp only [Option.bind_some, Lib.toList_data]
  by_cases h : (cl a b c).1 = (cl d e f).1
  · by_cases h3 : (cl d e f).1 = 3 <;> simp [h, h3]
  · simp [h]
theorem ord_less (x y : Int × Int × ByteArray) : ord x y = if lessB x y = true then -1 else if lessB y x = true then 1 else 0 := by
  unfold ord lessB
  by_cases h : x.1 = y.1
  · by_cases h3 : y.1 = 3
    · simp only [h, h3, if_true]
      exact compare_less _ _
    · simp [h, h3, cmpI]
  · have h' : ¬ y.1 = x.1 := fun e => h e.symm
    simp [h, h', cmpI]
/-- A truth as a value. -/
def flag (b : Bool) : Int × Int × ByteArray := (1, if b = true then 1 else 0, ⟨#[]⟩)
def none3 : Int × Int × ByteArray := (0, 0, ⟨#[]⟩)
theorem Flag_is (b : Bool) : value_Flag.f b = some (flag b) := by cases b <;> rfl
theorem None_is : value_None.f = some none3 := rfl
/-- 0 false, 1 true, 2 null. -/
def three (a b : Int) : Int := if a = 1 then if b = 0 then 0 else 1 else 2
def told (i : Int) : Int × Int × ByteArray := if i = 0 then flag false else if i = 1 then flag true else none3
theorem Not_is (a b : Int) (c : ByteArray) : value_Not.f a b c = some (told (if three a b = 0 then 1 else if three a b = 1 then 0 else 2)) := by
  unfold value_Not.f three told
  rw [Flag_is, None_is]
  by_cases h : a = 1
  · by_cases hb : b = 0 <;> simp [h, hb, flag]
  · simp [h, none3]
def bothI (i j : Int) : Int := if i = 0 ∨ j = 0 then 0 else if i = 1 ∧ j = 1 then 1 else 2
theorem Both_j1 (k : Nat) (b : Bool) : value_Both.j1 (k + 1) b = some (told (if b = true then 1 else 2)) := by
  simp only [value_Both.j1]
  rw [Flag_is, None_is]
  cases b <;> rfl
theorem Both_j0 (k : Nat) (x : Bool) (a b : Int) (c : ByteArray) (d e : Int) (f : ByteArray) : value_Both.j0 (k + 2) x a b c d e f = some (told (if x = true then 0 else if a = 1 ∧ d = 1 then 1 else 2)) := by
  simp only [value_Both.j0]
  rw [Flag_is]
  cases x with
  | true => rfl
  | false =>
    by_cases h : a = 1
    · simp only [Bool.false_eq_true, if_false, if_pos h]
      rw [Both_j1]
      by_cases hd : d = 1 <;> simp [h, hd]
    · simp only [Bool.false_eq_true, if_false, if_neg h]
      rw [Both_j1]
      simp [h]
theorem Both_is (a b : Int) (c : ByteArray) (d e : Int) (f : ByteArray) : Ev (fun k => value_Both.f k a b c d e f) (told (bothI (three a b) (three d e))) := by
  refine ⟨2, fun k hk => ?_⟩
  obtain ⟨k, rfl⟩ : ∃ m, k = m + 2 := ⟨k - 2, by omega⟩
  simp only [value_Both.f, Both_j0]
  unfold bothI three
  by_cases h : a = 1
  · by_cases hb : b = 0
    · simp [h, hb]
    · by_cases hd : d = 1
      · by_cases he : e = 0 <;> simp [h, hb, hd, he]
      · simp [h, hb, hd]
  · by_cases hd : d = 1
    · by_cases he : e = 0 <;> simp [h, hd, he]
    · simp [h, hd]
theorem three_cases (a b : Int) : three a b = 0 ∨ three a b = 1 ∨ three a b = 2 := by
  unfold three
  split
  · split
    · exact .inl rfl
    · exact .inr (.inl rfl)
  · exact .inr (.inr rfl)
/-- What was told reads as it was told. -/
theorem three_told {i : Int} (h : i = 0 ∨ i = 1 ∨ i = 2) : three (told i).1 (told i).2.1 = i := by
  rcases h with rfl | rfl | rfl <;> rfl
def notI (i : Int) : Int := if i = 0 then 1 else if i = 1 then 0 else 2
def eitherI (i j : Int) : Int := notI (bothI (notI i) (notI j))
theorem Either_is (a b : Int) (c : ByteArray) (d e : Int) (f : ByteArray) : Ev (fun k => value_Either.f k a b c d e f) (told (eitherI (three a b) (three d e))) := by
  unfold value_Either.f
  refine Ev.some_bind (Not_is a b c) (Ev.some_bind (Not_is d e f) ?_)
  refine Ev.bind (Both_is _ _ _ _ _ _) (Ev.some_bind (Not_is _ _ _) (Ev.const ?_))
  have n0 : ∀ {i : Int}, i = 0 ∨ i = 1 ∨ i = 2 → (if i = 0 then 1 else if i = 1 then 0 else 2 : Int) = 0 ∨ (if i = 0 then 1 else if i = 1 then 0 else 2 : Int) = 1 ∨ (if i = 0 then 1 else if i = 1 then 0 else 2 : Int) = 2 := by
    rintro i (rfl | rfl | rfl) <;> simp
  rw [three_told (n0 (three_cases a b)), three_told (n0 (three_cases d e))]
  rcases three_cases a b with h1 | h1 | h1 <;> rcases three_cases d e with h2 | h2 | h2 <;> rw [h1, h2] <;> rfl
theorem rthree_is (a b : Int) (c : ByteArray) : relstoreref_three.f a b c = some (three a b) := by
  unfold relstoreref_three.f three
  by_cases h : a = 1
  · by_cases hb : b = 0 <;> simp [h, hb]
  · simp [h]
theorem rtold_is {i : Int} (h : i = 0 ∨ i = 1 ∨ i = 2) : relstoreref_told.f i = some (told i) := by
  rcases h with rfl | rfl | rfl <;> rfl
theorem rNot_is (a b : Int) (c : ByteArray) : relstoreref_Not.f a b c = some (told (notI (three a b))) := by
  unfold relstoreref_Not.f
  rw [rthree_is]
  simp only [Option.bind_some]
  rcases three_cases a b with h | h | h <;> rw [h] <;> rfl
theorem rBoth_is (a b : Int) (c : ByteArray) (d e : Int) (f : ByteArray) : relstoreref_Both.f a b c d e f = some (told (bothI (three a b) (three d e))) := by
  unfold relstoreref_Both.f
  rw [rthree_is, rthree_is]
  simp only [Option.bind_some]
  rcases three_cases a b with h1 | h1 | h1 <;> rcases three_cases d e with h2 | h2 | h2 <;> rw [h1, h2] <;> rfl
theorem rEither_is (a b : Int) (c : ByteArray) (d e : Int) (f : ByteArray) : relstoreref_Either.f a b c d e f = some (told (eitherI (three a b) (three d e))) := by
  unfold relstoreref_Either.f
  rw [rthree_is, rthree_is]
  simp only [Option.bind_some]
  rcases three_cases a b with h1 | h1 | h1 <;> rcases three_cases d e with h2 | h2 | h2 <;> rw [h1, h2] <;> rfl
/-- What a comparison answers, of clean values. -/
def testO (op : Int) (x y : Int × Int × ByteArray) : Int × Int × ByteArray :=
  if x.1 = y.1 ∧ x.1 ≠ 0 then
    (if op = 11 then flag (ord x y == 0) else if op = 12 then flag (ord x y != 0) else if op = 13 then flag (decide (ord x y < 0)) else if op = 14 then flag (decide (ord x y ≤ 0)) else if op = 15 then flag (decide (ord x y > 0)) else if op = 16 then flag (decide (ord x y ≥ 0)) else none3)
  else none3
theorem cl_cl (a b : Int) (c : ByteArray) : cl (cl a b c).1 (cl a b c).2.1 (cl a b c).2.2 = cl a b c := by
  unfold cl
  by_cases h1 : a = 1
  · by_cases hb : b = 0 <;> simp [h1, hb]
  · by_cases h2 : a = 2
    · simp [h2]
    · by_cases h3 : a = 3 <;> simp [h1, h2, h3]
theorem Test_j0 (k : Nat) (op : Int) (x : Bool) (p q : Int × Int × ByteArray) (hp : cl p.1 p.2.1 p.2.2 = p) (hq : cl q.1 q.2.1 q.2.2 = q) : value_Test.j0 (k + 1) op x p.1 p.2.1 p.2.2 q.1 q.2.1 q.2.2 = some (if x = true then none3 else
    (if op = 11 then flag (ord p q == 0) else if op = 12 then flag (ord p q != 0) else if op = 13 then flag (decide (ord p q < 0)) else if op = 14 then flag (decide (ord p q ≤ 0)) else if op = 15 then flag (decide (ord p q > 0)) else if op = 16 then flag (decide (ord p q ≥ 0)) else none3)) := by
  simp only [value_Test.j0, Flag_is, None_is, Order_is, Option.bind_some, hp, hq]
  cases x with
  | true => rfl
  | false =>
    simp only [Bool.false_eq_true, if_false]
    by_cases h1 : op = 11
    · simp only [if_pos h1]
    · by_cases h2 : op = 12
      · simp only [if_neg h1, if_pos h2]
      · by_cases h3 : op = 13
        · simp only [if_neg h1, if_neg h2, if_pos h3]
        · by_cases h4 : op = 14
          · simp only [if_neg h1, if_neg h2, if_neg h3, if_pos h4]
          · by_cases h5 : op = 15
            · simp only [if_neg h1, if_neg h2, if_neg h3, if_neg h4, if_pos h5]
            · by_cases h6 : op = 16
              · simp only [if_neg h1, if_neg h2, if_neg h3, if_neg h4, if_neg h5, if_pos h6]
              · simp only [if_neg h1, if_neg h2, if_neg h3, if_neg h4, if_neg h5, if_neg h6]
theorem Test_is (op a b : Int) (c : ByteArray) (d e : Int) (f : ByteArray) : Ev (fun k => value_Test.f k op a b c d e f) (testO op (cl a b c) (cl d e f)) := by
  refine ⟨1, fun k hk => ?_⟩
  obtain ⟨k, rfl⟩ : ∃ m, k = m + 1 := ⟨k - 1, by omega⟩
  simp only [value_Test.f, Clean_is, Option.bind_some]
  rw [Test_j0 k op _ _ _ (cl_cl a b c) (cl_cl d e f), Test_j0 k op _ _ _ (cl_cl a b c) (cl_cl d e f)]
  unfold testO
  by_cases h : (cl a b c).1 = (cl d e f).1
  · rw [if_pos h]
    by_cases h0 : (cl a b c).1 = 0
    · have e0 : ((cl a b c).1 == 0) = true := beq_iff_eq.2 h0
      have n0 : ¬ ((cl a b c).1 = (cl d e f).1 ∧ (cl a b c).1 ≠ 0) := fun k => k.2 h0
      rw [if_neg n0, e0]
      rfl
    · have e0 : ((cl a b c).1 == 0) = false := beq_eq_false_iff_ne.2 h0
      rw [if_pos (And.intro h h0), e0]
      rfl
  · have n0 : ¬ ((cl a b c).1 = (cl d e f).1 ∧ (cl a b c).1 ≠ 0) := fun k => h k.1
    rw [if_neg h, if_neg n0]
    rfl
theorem rflag_is (b : Bool) : relstoreref_truth.f b = some (flag b) := by cases b <;> rfl
theorem rnull_is : relstoreref_null.f = some none3 := rfl
theorem rin_is (a b c : Int) : relstoreref_in.f a b c = some (decide (b ≤ a ∧ a ≤ c)) := by
  unfold relstoreref_in.f
  by_cases h : a ≥ b
  · rw [if_pos h]
    congr 1
    exact decide_eq_decide.2 ⟨fun k => ⟨h, k⟩, fun k => k.2⟩
  · rw [if_neg h]
    congr 1
    exact (decide_eq_false (fun k => h k.1)).symm
theorem ord_cases (p q : Int × Int × ByteArray) : (lessB p q = true ∧ ord p q = -1) ∨ (lessB p q = false ∧ lessB q p = true ∧ ord p q = 1) ∨ (lessB p q = false ∧ lessB q p = false ∧ ord p q = 0) := by
  rw [ord_less]
  cases lessB p q <;> cases lessB q p <;> simp
theorem lessB_anti (p q : Int × Int × ByteArray) (h : lessB p q = true) : lessB q p = false := by
  have h1 := ord_less p q
  have h2 := ord_less q p
  have h3 : ord q p = - ord p q := by
    unfold ord
    by_cases e : p.1 = q.1
    · by_cases e3 : p.1 = 3
      · rw [if_pos e, if_pos e3, if_pos e.symm, if_pos (e ▸ e3)]; exact compare_anti _ _
      · rw [if_pos e, if_neg e3, if_pos e.symm, if_neg (fun k => e3 (e.trans k))]
        unfold cmpI; omega
    · rw [if_neg e, if_neg (fun k => e k.symm)]
      unfold cmpI; omega
  rw [h] at h1
  simp only [if_true] at h1
  rw [h1] at h3
  cases hq : lessB q p with
  | false => rfl
  | true => rw [hq] at h2; simp only [if_true] at h2; omega
theorem rTest_j0 (k : Nat) (op : Int) (x : Bool) (p q : Int × Int × ByteArray) (hp : cl p.1 p.2.1 p.2.2 = p) (hq : cl q.1 q.2.1 q.2.2 = q) (hop : x = false → 11 ≤ op ∧ op ≤ 16) : relstoreref_Test.j0 (k + 1) op x p.1 p.2.1 p.2.2 q.1 q.2.1 q.2.2 = some (if x = true then none3 else
    (if op = 11 then flag (ord p q == 0) else if op = 12 then flag (ord p q != 0) else if op = 13 then flag (decide (ord p q < 0)) else if op = 14 then flag (decide (ord p q ≤ 0)) else if op = 15 then flag (decide (ord p q > 0)) else if op = 16 then flag (decide (ord p q ≥ 0)) else none3)) := by
  simp only [relstoreref_Test.j0, rflag_is, rnull_is, less_is, Option.bind_some, hp, hq]
  cases x with
  | true => rfl
  | false =>
    obtain ⟨o1, o2⟩ := hop rfl
    simp only [Bool.false_eq_true, if_false]
    have h : op = 11 ∨ op = 12 ∨ op = 13 ∨ op = 14 ∨ op = 15 ∨ op = 16 := by omega
    have hc := ord_cases p q
    have ha := lessB_anti p q
    rcases hc with ⟨l1, l2⟩ | ⟨l1, l2, l3⟩ | ⟨l1, l2, l3⟩
    · have l3 := ha l1
      rcases h with rfl | rfl | rfl | rfl | rfl | rfl <;> simp [l1, l2, l3]
    · rcases h with rfl | rfl | rfl | rfl | rfl | rfl <;> simp [l1, l2, l3]
    · rcases h with rfl | rfl | rfl | rfl | rfl | rfl <;> simp [l1, l2, l3]
theorem rTest_is (op a b : Int) (c : ByteArray) (d e : Int) (f : ByteArray) : Ev (fun k => relstoreref_Test.f k op a b c d e f) (testO op (cl a b c) (cl d e f)) := by
  refine ⟨1, fun k hk => ?_⟩
  obtain ⟨k, rfl⟩ : ∃ m, k = m + 1 := ⟨k - 1, by omega⟩
  simp only [relstoreref_Test.f, rClean_is, Option.bind_some]
  unfold testO
  by_cases h0 : (cl a b c).1 = 0
  · have n0 : ¬ ((cl a b c).1 = (cl d e f).1 ∧ (cl a b c).1 ≠ 0) := fun k => k.2 h0
    rw [if_pos h0, rTest_j0 k op _ _ _ (cl_cl a b c) (cl_cl d e f) (by simp), if_neg n0]
    rfl
  · rw [if_neg h0]
    by_cases h : (cl a b c).1 = (cl d e f).1
    · rw [if_pos h, rin_is]
      simp only [Option.bind_some]
      rw [if_pos (And.intro h h0)]
      by_cases ho : 11 ≤ op ∧ op ≤ 16
      · rw [decide_eq_true ho, rTest_j0 k op _ _ _ (cl_cl a b c) (cl_cl d e f) (fun _ => ho)]
        rfl
      · rw [decide_eq_false ho, rTest_j0 k op _ _ _ (cl_cl a b c) (cl_cl d e f) (by simp)]
        simp only [Bool.not_false, if_true]
        rw [if_neg (by omega), if_neg (by omega), if_neg (by omega), if_neg (by omega), if_neg (by omega), if_neg (by omega)]
    · have n0 : ¬ ((cl a b c).1 = (cl d e f).1 ∧ (cl a b c).1 ≠ 0) := fun k => h k.1
      rw [if_neg h, rTest_j0 k op _ _ _ (cl_cl a b c) (cl_cl d e f) (by simp), if_neg n0]
      rfl
theorem same_self (a b : Int) (c : ByteArray) : relstorelaw_sameValue.f a b c a b c = some true := by simp [relstorelaw_sameValue.f]
theorem ValueTests (op a b : Int) (c : ByteArray) (d e : Int) (f : ByteArray) : ∃ k, relstorelaw_ValueTests.f k op a b c d e f = some true := by
  refine Ev.rounds (r := true) ?_
  unfold relstorelaw_ValueTests.f
  refine Ev.bind (Test_is op a b c d e f) (Ev.bind (rTest_is op a b c d e f) (Ev.some_bind (same_self _ _ _) (Ev.ite_true rfl ?_)))
  refine Ev.bind (Both_is a b c d e f) (Ev.some_bind (rBoth_is a b c d e f) (Ev.some_bind (same_self _ _ _) (Ev.ite_true rfl ?_)))
  refine Ev.bind (Either_is a b c d e f) (Ev.some_bind (rEither_is a b c d e f) (Ev.some_bind (same_self _ _ _) (Ev.ite_true rfl ?_)))
  exact Ev.some_bind (Not_is a b c) (Ev.some_bind (rNot_is a b c) (Ev.some_bind (same_self _ _ _) (Ev.now true)))
end Go.Proofs.Ythaoaaboempajaa.Pure
