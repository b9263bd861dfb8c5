/- The plain law of ValueOrders: how any values and rows stand to one another; no conditions. -/
import Derived.Test.YthaoaaboempajaaQValueOrdersx
import Derived.Test.YthaoaaboempajaaE
namespace Go.Proofs.Ythaoaaboempajaa.Pure
open Go.RowKit Go.Proofs.Ythaoaaboempajaa.QValueOrders Go.Proofs.YthaoaaboempajaaW.PrintWords Go.Proofs.YthaoaaboempajaaW.PrintLast Go.Proofs.YthaoaaboempajaaE
set_option linter.unusedVariables false
set_option linter.unusedSimpArgs false
/-- A value with nothing in it that its kind does not need. -/
def cl (a b : Int) (c : ByteArray) : Int × Int × ByteArray := if a = 1 then (1, if b = 0 then 0 else 1, ⟨#[]⟩) else if a = 2 then (2, b, ⟨#[]⟩) else if a = 3 then (3, 0, c) else (0, 0, ⟨#[]⟩)
theorem Clean_is (a b : Int) (c : ByteArray) : value_Clean.f a b c = some (cl a b c) := by
  unfold value_Clean.f cl value_Flag.f value_Of.f value_Str.f value_None.f
  by_cases h1 : a = 1
  · by_cases hb : b = 0 <;> simp [h1, hb]
  · by_cases h2 : a = 2
    · simp [h2]
    · by_cases h3 : a = 3 <;> simp [h1, h2, h3]
theorem cmp_is (a b : Int) : cmp_Compare_int.f a b = some (cmpI a b) := by
  unfold cmp_Compare_int.f cmp_isNaN_int.f cmpI
  simp only [Option.bind_some, bne_self_eq_false, Bool.false_eq_true, if_false]
  by_cases h : a < b
  · simp [h]
  · by_cases h2 : a > b <;> simp [h, h2]
theorem cmp64_is (a b : Int) : cmp_Compare_int64.f a b = some (cmpI a b) := by
  unfold cmp_Compare_int64.f cmp_isNaN_int64.f cmpI
  simp only [Option.bind_some, bne_self_eq_false, Bool.false_eq_true, if_false]
  by_cases h : a < b
  · simp [h]
  · by_cases h2 : a > b <;> simp [h, h2]
/-- How clean values stand. -/
def ord (x y : Int × Int × ByteArray) : Int := if x.1 = y.1 then if x.1 = 3 then Lib.compareBytes x.2.2.data.toList y.2.2.data.toList else cmpI x.2.1 y.2.1 else cmpI x.1 y.1
theorem Order_is (a b : Int) (c : ByteArray) (d e : Int) (f : ByteArray) : value_Order.f a b c d e f = some (ord (cl a b c) (cl d e f)) := by
  unfold value_Order.f ord strings_Compare.f bytealg_CompareString.f
  rw [Clean_is, Clean_is]
  simp only [Option.bind_some, cmp_is, cmp64_is]
  by_cases h : (cl a b c).1 = (cl d e f).1
  · by_cases h3 : (cl d e f).1 = 3 <;> simp [h, h3]
  · simp [h]
theorem rClean_is (a b : Int) (c : ByteArray) : relstoreref_Clean.f a b c = some (cl a b c) := by
  unfold relstoreref_Clean.f cl relstoreref_truth.f relstoreref_num.f relstoreref_str.f relstoreref_null.f
  by_cases h1 : a = 1
  · by_cases hb : b = 0 <;> simp [h1, hb]
  · by_cases h2 : a = 2
    · simp [h2]
    · by_cases h3 : a = 3 <;> simp [h1, h2, h3]
def lessB (x y : Int × Int × ByteArray) : Bool := if x.1 = y.1 then if x.1 = 3 then Op.bytesLess x.2.2.data.toList y.2.2.data.toList else decide (x.2.1 < y.2.1) else decide (x.1 < y.1)
theorem less_is (a b : Int) (c : ByteArray) (d e : Int) (f : ByteArray) : relstoreref_less.f a b c d e f = some (lessB (cl a b c) (cl d e f)) := by
  unfold relstoreref_less.f lessB
  rw [rClean_is, rClean_is]
  simp only [Option.bind_some, Lib.toList_data]
  by_cases h : (cl a b c).1 = (cl d e f).1
  · by_cases h3 : (cl d e f).1 = 3 <;> simp [h, h3]
  · simp [h]
theorem ord_less (x y : Int × Int × ByteArray) : ord x y = if lessB x y = true then -1 else if lessB y x = true then 1 else 0 := by
  unfold ord lessB
  by_cases h : x.1 = y.1
  · by_cases h3 : y.1 = 3
    · simp only [h, h3, if_true]
      exact compare_less _ _
    · simp [h, h3, cmpI]
  · have h' : ¬ y.1 = x.1 := fun e => h e.symm
    simp [h, h', cmpI]
theorem rOrder_is (a b : Int) (c : ByteArray) (d e : Int) (f : ByteArray) : relstoreref_Order.f a b c d e f = some (ord (cl a b c) (cl d e f)) := by
  unfold relstoreref_Order.f relstoreref_sign.f
  rw [less_is, less_is, ord_less]
  simp only [Option.bind_some]
  cases lessB (cl a b c) (cl d e f) <;> cases lessB (cl d e f) (cl a b c) <;> rfl
def clS (x : S29) : Int × Int × ByteArray := cl x.f0 x.f1 x.f2
/-- How rows stand. -/
def rowsO : List S29 → List S29 → Int
  | [], [] => 0
  | [], _ :: _ => -1
  | _ :: _, [] => 1
  | x :: a, y :: b => if ord (clS x) (clS y) = 0 then rowsO a b else ord (clS x) (clS y)
theorem rows_l0 {l m : List S29} (hl : l.length ≤ 4611686018427387904) : ∀ (A B A0 B0 : List S29), l = A0 ++ A → m = B0 ++ B → A0.length = B0.length → ∃ n, value_Rows.l0 n l m (A0.length : Int) = some (rowsO A B)
  | [], B, A0, B0, h1, h2, h0 => by
    have z1 := congrArg List.length h1
    have z2 := congrArg List.length h2
    simp at z1 z2
    refine ⟨2, ?_⟩
    simp only [value_Rows.l0, value_Rows.j1]
    rw [if_neg (by omega), if_neg (by decide), cmp_is]
    cases B with
    | nil => simp at z2; simp [rowsO, cmpI, z1, z2, h0]
    | cons y B =>
      simp only [List.length_cons] at z2
      simp only [Option.bind_some, rowsO, cmpI]
      rw [if_pos (by omega)]
  | x :: A, [], A0, B0, h1, h2, h0 => by
    have z1 := congrArg List.length h1
    have z2 := congrArg List.length h2
    simp at z1 z2
    refine ⟨2, ?_⟩
    simp only [value_Rows.l0, value_Rows.j1]
    rw [if_pos (by omega), decide_eq_false (by omega), if_neg (by decide), cmp_is]
    simp only [Option.bind_some, rowsO, cmpI]
    rw [if_neg (by omega), if_pos (by omega)]
  | x :: A, y :: B, A0, B0, h1, h2, h0 => by
    have z1 := congrArg List.length h1
    have z2 := congrArg List.length h2
    simp at z1 z2
    have e1 : rd_T29 l (A0.length : Int) = x := getD_in h1
    have e2 : rd_T29 m (A0.length : Int) = y := by rw [h0]; exact getD_in h2
    by_cases hc : ord (clS x) (clS y) = 0
    · obtain ⟨n, hn⟩ := rows_l0 (m := m) hl A B (A0 ++ [x]) (B0 ++ [y]) (by simp [h1]) (by simp [h2]) (by simp [h0])
      refine ⟨n + 2, ?_⟩
      rw [show n + 2 = n + 1 + 1 from rfl]
      simp only [value_Rows.l0, value_Rows.j1]
      rw [if_pos (by omega), decide_eq_true (by omega), if_pos rfl, if_pos (by omega), if_pos (by omega), if_pos (by omega), e1, e2, Order_is]
      change (Option.bind (some (ord (clS x) (clS y))) _) = _
      simp only [Option.bind_some]
      rw [if_pos hc, w64 (by omega) (by omega)]
      simp only [rowsO]
      rw [if_pos hc]
      simpa using hn
    · refine ⟨2, ?_⟩
      simp only [value_Rows.l0, value_Rows.j1]
      rw [if_pos (by omega), decide_eq_true (by omega), if_pos rfl, if_pos (by omega), if_pos (by omega), if_pos (by omega), e1, e2, Order_is]
      change (Option.bind (some (ord (clS x) (clS y))) _) = _
      simp only [Option.bind_some, rowsO]
      rw [if_neg hc]
      exact congrArg some (if_neg hc).symm
theorem Rows_is {l m : List S29} (hl : l.length ≤ 4611686018427387904) : Ev (fun k => value_Rows.f k l m) (rowsO l m) := by
  obtain ⟨n, hn⟩ := rows_l0 hl l m [] [] rfl rfl rfl
  exact Ev.of (g := fun k => value_Rows.f k l m) (fun k => value_Rows.mono l m k) (k := n) hn
theorem rrows_l0 {l m : List S29} (hl : l.length ≤ 4611686018427387904) : ∀ (A B A0 B0 : List S29), l = A0 ++ A → m = B0 ++ B → A0.length = B0.length → ∃ n, relstoreref_OrderRows.l0 n l m (l.length : Int) (A0.length : Int) = some (rowsO A B)
  | [], B, A0, B0, h1, h2, h0 => by
    have z1 := congrArg List.length h1
    have z2 := congrArg List.length h2
    simp at z1 z2
    refine ⟨1, ?_⟩
    simp only [relstoreref_OrderRows.l0]
    rw [if_neg (by omega)]
    unfold relstoreref_sign.f
    cases B with
    | nil =>
      simp at z2
      rw [decide_eq_false (by omega)]
      rfl
    | cons y B =>
      simp only [List.length_cons] at z2
      rw [decide_eq_true (by omega)]
      rfl
  | x :: A, [], A0, B0, h1, h2, h0 => by
    have z1 := congrArg List.length h1
    have z2 := congrArg List.length h2
    simp at z1 z2
    refine ⟨1, ?_⟩
    simp only [relstoreref_OrderRows.l0]
    rw [if_pos (by omega), if_pos (by omega)]
    rfl
  | x :: A, y :: B, A0, B0, h1, h2, h0 => by
    have z1 := congrArg List.length h1
    have z2 := congrArg List.length h2
    simp at z1 z2
    have e1 : rd_T29 l (A0.length : Int) = x := getD_in h1
    have e2 : rd_T29 m (A0.length : Int) = y := by rw [h0]; exact getD_in h2
    by_cases hc : ord (clS x) (clS y) = 0
    · obtain ⟨n, hn⟩ := rrows_l0 (m := m) hl A B (A0 ++ [x]) (B0 ++ [y]) (by simp [h1]) (by simp [h2]) (by simp [h0])
      refine ⟨n + 1, ?_⟩
      simp only [relstoreref_OrderRows.l0]
      rw [if_pos (by omega), if_neg (by omega), if_pos (by omega), if_pos (by omega), if_pos (by omega), e1, e2, rOrder_is]
      change (Option.bind (some (ord (clS x) (clS y))) _) = _
      simp only [Option.bind_some]
      rw [if_pos hc, w64 (by omega) (by omega)]
      simp only [rowsO]
      rw [if_pos hc]
      simpa using hn
    · refine ⟨1, ?_⟩
      simp only [relstoreref_OrderRows.l0]
      rw [if_pos (by omega), if_neg (by omega), if_pos (by omega), if_pos (by omega), if_pos (by omega), e1, e2, rOrder_is]
      change (Option.bind (some (ord (clS x) (clS y))) _) = _
      simp only [Option.bind_some, rowsO]
      rw [if_neg hc]
      exact congrArg some (if_neg hc).symm
theorem rRows_is {l m : List S29} (hl : l.length ≤ 4611686018427387904) : Ev (fun k => relstoreref_OrderRows.f k l m) (rowsO l m) := by
  obtain ⟨n, hn⟩ := rrows_l0 hl l m [] [] rfl rfl rfl
  exact Ev.of (g := fun k => relstoreref_OrderRows.f k l m) (fun k => relstoreref_OrderRows.mono l m k) (k := n) hn
theorem same_self (a b : Int) (c : ByteArray) : relstorelaw_sameValue.f a b c a b c = some true := by simp [relstorelaw_sameValue.f]
theorem sames_l0 {l : List S29} (hl : l.length ≤ 4611686018427387904) : ∀ (A A0 : List S29), l = A0 ++ A → ∃ n, relstorelaw_sameValues.l0 n l l (l.length : Int) (A0.length : Int) = some true
  | [], A0, h1 => by
    have z1 := congrArg List.length h1
    simp at z1
    refine ⟨1, ?_⟩
    simp only [relstorelaw_sameValues.l0]
    rw [if_neg (by omega)]
  | x :: A, A0, h1 => by
    have z1 := congrArg List.length h1
    simp at z1
    obtain ⟨n, hn⟩ := sames_l0 hl A (A0 ++ [x]) (by simp [h1])
    refine ⟨n + 1, ?_⟩
    simp only [relstorelaw_sameValues.l0]
    rw [if_pos (by omega), if_pos (by omega), if_pos (by omega), if_pos (by omega), same_self]
    simp only [Option.bind_some, if_true]
    rw [w64 (by omega) (by omega)]
    simpa using hn
theorem sames_self {l : List S29} (hl : l.length ≤ 4611686018427387904) : Ev (fun k => relstorelaw_sameValues.f k l l) true := by
  obtain ⟨n, hn⟩ := sames_l0 hl l [] rfl
  refine Ev.of (g := fun k => relstorelaw_sameValues.f k l l) (fun k => relstorelaw_sameValues.mono l l k) (k := n) ?_
  unfold relstorelaw_sameValues.f
  rw [if_pos rfl]
  exact hn
def marks : List S29 := [⟨9, 7, ⟨#[]⟩⟩, ⟨9, 8, ⟨#[]⟩⟩]
theorem lent_is {l : List S29} (hl : l.length * 32 ≤ 140737488351232) : relstorelaw_lent.f l = some (l ++ marks) := by
  unfold relstorelaw_lent.f
  rw [if_pos (by simp; omega)]
  simp only [Option.bind_some, List.nil_append]
  rw [if_pos (by simp; omega)]
  rfl
theorem take_lent (l : List S29) : (l ++ marks).take ((l.length : Int) : Int).toNat = l := by simp
theorem back_lent {l : List S29} (hl : l.length * 32 ≤ 140737488351232) : Ev (fun k => relstorelaw_back.f k (l ++ marks) l) true := by
  have hz : (l ++ marks).length = l.length + 2 := by simp [marks]
  have h0 : rd_T29 (l ++ marks) (l.length : Int) = ⟨9, 7, ⟨#[]⟩⟩ := getD_in (X := l) (Y := [⟨9, 8, ⟨#[]⟩⟩]) rfl
  have h1 : rd_T29 (l ++ marks) (wrap64 ((l.length : Int) + 1)) = ⟨9, 8, ⟨#[]⟩⟩ := by
    rw [w64 (by omega) (by omega)]
    have := getD_in (l := l ++ marks) (X := l ++ [(⟨9, 7, ⟨#[]⟩⟩ : S29)]) (Y := []) (x := (⟨9, 8, ⟨#[]⟩⟩ : S29)) (z := z29) (by simp [marks])
    rw [show ((l.length : Int) + 1) = ((l ++ [(⟨9, 7, ⟨#[]⟩⟩ : S29)]).length : Int) by simp]
    exact this
  have e0 : wrap64 ((l.length : Int) + 1) = l.length + 1 := w64 (by omega) (by omega)
  refine Ev.congr (f := fun k => (relstorelaw_sameValues.f k l l).bind fun t => if t = true then some true else some false) (fun k => ?_) (Ev.bind (sames_self (by omega)) (Ev.now true))
  unfold relstorelaw_back.f
  rw [if_pos (by omega), if_pos (by omega), take_lent]
  congr 1
  funext t
  cases t with
  | false => rfl
  | true =>
    simp only [if_true]
    rw [if_pos (by omega), h0, h1, e0]
    rw [if_pos (by simp [Lib.toList_data]), if_pos (by omega), if_pos (by omega)]
    simp [Lib.toList_data]
theorem orders_j0 (a b : Int) (c : ByteArray) (d e : Int) (f : ByteArray) : Ev (fun k => relstorelaw_ValueOrders.j0 k false a b c d e f) true := by
  refine Ev.of (g := fun k => relstorelaw_ValueOrders.j0 k false a b c d e f) (fun k => relstorelaw_ValueOrders.mono_l k _ _ _ _ _ _ _) (k := 1) ?_
  simp only [relstorelaw_ValueOrders.j0]
  rw [if_neg (by decide), Order_is, rOrder_is, Order_is, rOrder_is, Clean_is, rClean_is]
  simp only [Option.bind_some, if_true]
  rw [same_self]
  rfl
theorem ValueOrders (a b : Int) (c : ByteArray) (d e : Int) (f : ByteArray) (l m : List S29) (hl : l.length * 32 ≤ 140737488351232) (hm : m.length * 32 ≤ 140737488351232) : ∃ k, relstorelaw_ValueOrders.f k a b c d e f l m = some true := by
  refine Ev.rounds (r := true) ?_
  unfold relstorelaw_ValueOrders.f
  have z1 : (l ++ marks).length = l.length + 2 := by simp [marks]
  have z2 : (m ++ marks).length = m.length + 2 := by simp [marks]
  refine Ev.some_bind (lent_is hl) (Ev.some_bind (lent_is hm) ?_)
  refine Ev.ite_true (by omega) (Ev.ite_true (by omega) (Ev.ite_true (by omega) (Ev.ite_true (by omega) ?_)))
  rw [take_lent, take_lent]
  exact Ev.bind (Rows_is (by omega)) (Ev.bind (rRows_is (by omega)) (Ev.ite_true rfl (Ev.bind (back_lent hl) (Ev.ite_true rfl (Ev.bind (back_lent hm) (orders_j0 _ _ _ _ _ _))))))
end Go.Proofs.Ythaoaaboempajaa.Pure
