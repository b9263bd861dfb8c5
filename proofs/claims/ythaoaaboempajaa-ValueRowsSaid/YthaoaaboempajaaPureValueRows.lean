/- The plain law of ValueRows: rows written and read again; no conditions. -/
import Derived.Test.YthaoaaboempajaaQValueRowsx
import Derived.Test.YthaoaaboempajaaE
namespace Go.Proofs.Ythaoaaboempajaa.Pure
open Go.RowKit Go.Proofs.Ythaoaaboempajaa.QValueRows Go.Proofs.YthaoaaboempajaaW.PrintWords Go.Proofs.YthaoaaboempajaaW.PrintLast Go.Proofs.YthaoaaboempajaaE
set_option linter.unusedVariables false
set_option linter.unusedSimpArgs false
theorem same_self (a b : Int) (c : ByteArray) : relstorelaw_sameValue.f a b c a b c = some true := by simp [relstorelaw_sameValue.f]
theorem sames_l0 {l : List S29} (hl : l.length ≤ 4611686018427387904) : ∀ (A A0 : List S29), l = A0 ++ A → ∃ n, relstorelaw_sameValues.l0 n l l (l.length : Int) (A0.length : Int) = some true
  | [], A0, h1 => by
    have z1 := congrArg List.length h1
    simp at z1
    refine ⟨1, ?_⟩
    simp only [relstorelaw_sameValues.l0]
    rw [if_neg (by omega)]
  | x :: A, A0, h1 => by
    have z1 := congrArg List.length h1
    simp at z1
    obtain ⟨n, hn⟩ := sames_l0 hl A (A0 ++ [x]) (by simp [h1])
    refine ⟨n + 1, ?_⟩
    simp only [relstorelaw_sameValues.l0]
    rw [if_pos (by omega), if_pos (by omega), if_pos (by omega), if_pos (by omega), same_self]
    simp only [Option.bind_some, if_true]
    rw [w64 (by omega) (by omega)]
    simpa using hn
theorem sames_self {l : List S29} (hl : l.length ≤ 4611686018427387904) : Ev (fun k => relstorelaw_sameValues.f k l l) true := by
  obtain ⟨n, hn⟩ := sames_l0 hl l [] rfl
  refine Ev.of (g := fun k => relstorelaw_sameValues.f k l l) (fun k => relstorelaw_sameValues.mono l l k) (k := n) ?_
  unfold relstorelaw_sameValues.f
  rw [if_pos rfl]
  exact hn
def marks : List S29 := [⟨9, 7, ⟨#[]⟩⟩, ⟨9, 8, ⟨#[]⟩⟩]
theorem lent_is {l : List S29} (hl : l.length * 32 ≤ 140737488351232) : relstorelaw_lent.f l = some (l ++ marks) := by
  unfold relstorelaw_lent.f
  rw [if_pos (by simp; omega)]
  simp only [Option.bind_some, List.nil_append]
  rw [if_pos (by simp; omega)]
  rfl
theorem take_lent (l : List S29) : (l ++ marks).take ((l.length : Int) : Int).toNat = l := by simp
theorem back_lent {l : List S29} (hl : l.length * 32 ≤ 140737488351232) : Ev (fun k => relstorelaw_back.f k (l ++ marks) l) true := by
  have hz : (l ++ marks).length = l.length + 2 := by simp [marks]
  have h0 : rd_T29 (l ++ marks) (l.length : Int) = ⟨9, 7, ⟨#[]⟩⟩ := getD_in (X := l) (Y := [⟨9, 8, ⟨#[]⟩⟩]) rfl
  have h1 : rd_T29 (l ++ marks) (wrap64 ((l.length : Int) + 1)) = ⟨9, 8, ⟨#[]⟩⟩ := by
    rw [w64 (by omega) (by omega)]
    have := getD_in (l := l ++ marks) (X := l ++ [(⟨9, 7, ⟨#[]⟩⟩ : S29)]) (Y := []) (x := (⟨9, 8, ⟨#[]⟩⟩ : S29)) (z := z29) (by simp [marks])
    rw [show ((l.length : Int) + 1) = ((l ++ [(⟨9, 7, ⟨#[]⟩⟩ : S29)]).length : Int) by simp]
    exact this
  have e0 : wrap64 ((l.length : Int) + 1) = l.length + 1 := w64 (by omega) (by omega)
  refine Ev.congr (f := fun k => (relstorelaw_sameValues.f k l l).bind fun t => if t = true then some true else some false) (fun k => ?_) (Ev.bind (sames_self (by omega)) (Ev.now true))
  unfold relstorelaw_back.f
  rw [if_pos (by omega), if_pos (by omega), take_lent]
  congr 1
  funext t
  cases t with
  | false => rfl
  | true =>
    simp only [if_true]
    rw [if_pos (by omega), h0, h1, e0]
    rw [if_pos (by simp [Lib.toList_data]), if_pos (by omega), if_pos (by omega)]
    simp [Lib.toList_data]
/-- A text's bytes, and a number's last byte. -/
def b8 (n : Int) : UInt8 := UInt8.ofNat n.toNat
theorem data_inj {a b : ByteArray} (h : a.data.toList = b.data.toList) : a = b := by
  cases a; cases b
  congr 1
  exact Array.ext' h
theorem nums_data (xs : List Int) : (strOfNums xs).data.toList = xs.map b8 := rfl
theorem nums_append (xs ys : List Int) : strOfNums xs ++ strOfNums ys = strOfNums (xs ++ ys) := by
  apply data_inj
  rw [ByteArray.data_append, Array.toList_append, nums_data, nums_data, nums_data, List.map_append]
theorem nums_bytes (s : ByteArray) : strOfNums (bytesOf s) = s := by
  apply data_inj
  rw [nums_data, bytesOf, List.map_map]
  conv => rhs; rw [← List.map_id s.data.toList]
  apply List.map_congr_left
  intro x _
  show UInt8.ofNat ((x.toNat : Int)).toNat = x
  rw [Int.toNat_natCast]
  exact UInt8.ofNat_toNat
theorem nums_size (xs : List Int) : (strOfNums xs).size = xs.length := by simp [strOfNums, ByteArray.size]
def be8 (x : Int) : List Int := [shr .u64 x 56 % 256, shr .u64 x 48 % 256, shr .u64 x 40 % 256, shr .u64 x 32 % 256, shr .u64 x 24 % 256, shr .u64 x 16 % 256, shr .u64 x 8 % 256, shr .u64 x 0 % 256]
theorem long_is (l : List Int) (x : Int) (h : l.length < 140737488355320) : Ev (fun k => value_long.f k l x) (l ++ be8 x) := by
  refine ⟨9, fun k hk => ?_⟩
  obtain ⟨k, rfl⟩ : ∃ m, k = m + 9 := ⟨k - 9, by omega⟩
  have step : ∀ (k : Nat) (l : List Int) (i j : Int), 0 ≤ i → wrap64 (i - 8) = j → l.length < 140737488355328 → value_long.l0 (k + 1) l x i = value_long.l0 k (l ++ [(shr .u64 x i) % 256]) x j := by
    intro k l i j hi hj hl
    simp only [value_long.l0]
    rw [if_pos hi, if_pos hi, if_pos hl, hj]
  show value_long.l0 (k + 8 + 1) l x 56 = _
  rw [step (k + 8) _ 56 48 (by decide) (by unfold wrap64; omega) (by omega)]
  rw [step (k + 7) _ 48 40 (by decide) (by unfold wrap64; omega) (by simp; omega)]
  rw [step (k + 6) _ 40 32 (by decide) (by unfold wrap64; omega) (by simp; omega)]
  rw [step (k + 5) _ 32 24 (by decide) (by unfold wrap64; omega) (by simp; omega)]
  rw [step (k + 4) _ 24 16 (by decide) (by unfold wrap64; omega) (by simp; omega)]
  rw [step (k + 3) _ 16 8 (by decide) (by unfold wrap64; omega) (by simp; omega)]
  rw [step (k + 2) _ 8 0 (by decide) (by unfold wrap64; omega) (by simp; omega)]
  rw [step (k + 1) _ 0 (-8) (by decide) (by unfold wrap64; omega) (by simp; omega)]
  simp only [value_long.l0]
  rw [if_neg (by decide)]
  simp [be8]
def beN : Nat → Int → List Int → List Int
  | 0, _, ys => ys
  | j + 1, x, ys => beN j (x / 256) (x % 256 :: ys)
theorem bytes_l0 : ∀ (j : Nat) (x : Int) (ys : List Int), 0 ≤ x → x < 18446744073709551616 → j + ys.length ≤ 1000 → Ev (fun k => relstoreref_bytes.l0 k x (j : Int) (strOfNums ys)) (strOfNums (beN j x ys))
  | 0, x, ys, h0, h1, hl => by
    refine Ev.step (f := fun _ => some (strOfNums ys)) (fun k => ?_) (Ev.now _)
    simp only [relstoreref_bytes.l0]
    rw [if_neg (by decide)]
  | j + 1, x, ys, h0, h1, hl => by
    have ih := bytes_l0 j (x / 256) (x % 256 :: ys) (by omega) (by omega) (by simp; omega)
    refine Ev.step (f := fun k => relstoreref_bytes.l0 k (x / 256) (j : Int) (strOfNums (x % 256 :: ys))) (fun k => ?_) ih
    simp only [relstoreref_bytes.l0]
    rw [if_pos (by omega)]
    simp only [Option.bind_some]
    have e1 : Int.tmod x 256 % 256 = x % 256 := by rw [Int.tmod_eq_emod_of_nonneg h0]; omega
    have e2 : IntKind.u64.wrap (Int.tdiv x 256) = x / 256 := by rw [Int.tdiv_eq_ediv_of_nonneg h0, IntKind.wrap_u64]; omega
    have e3 : wrap64 (((j + 1 : Nat) : Int) - 1) = (j : Int) := by unfold wrap64; omega
    rw [e1, e2, e3, nums_append, nums_size, nums_size, if_pos (by simp; omega)]
    rfl
theorem bytes8 (x : Int) (h0 : 0 ≤ x) (h1 : x < 18446744073709551616) : Ev (fun k => relstoreref_bytes.f k x 8) (strOfNums (be8 x)) := by
  have := bytes_l0 8 x [] h0 h1 (by decide)
  have e : beN 8 x [] = be8 x := by
    have s : ∀ (i : Int) (n : Nat) (d : Int), i.toNat = n → n ≤ 64 → (2 : Int) ^ n = d → shr .u64 x i = x / d := by
      intro i n d h1 h2 h3
      unfold shr
      rw [h1, show IntKind.u64.bits = 64 from rfl, Nat.min_eq_left h2, h3]
    simp only [beN, be8]
    rw [s 56 56 72057594037927936 rfl (by decide) rfl, s 48 48 281474976710656 rfl (by decide) rfl, s 40 40 1099511627776 rfl (by decide) rfl, s 32 32 4294967296 rfl (by decide) rfl, s 24 24 16777216 rfl (by decide) rfl, s 16 16 65536 rfl (by decide) rfl, s 8 8 256 rfl (by decide) rfl, s 0 0 1 rfl (by decide) rfl]
    rw [show x / 256 / 256 = x / 65536 by omega, show x / 65536 / 256 = x / 16777216 by omega, show x / 16777216 / 256 = x / 4294967296 by omega, show x / 4294967296 / 256 = x / 1099511627776 by omega, show x / 1099511627776 / 256 = x / 281474976710656 by omega, show x / 281474976710656 / 256 = x / 72057594037927936 by omega, show x / 1 = x by omega]
  rw [e] at this
  exact this
theorem bytes2 (x : Int) (h0 : 0 ≤ x) (h1 : x < 18446744073709551616) : Ev (fun k => relstoreref_bytes.f k x 2) (strOfNums [x / 256 % 256, x % 256]) := bytes_l0 2 x [] h0 h1 (by decide)
/-- A value as it is written. -/
def enc (v : S29) : List Int :=
  if v.f0 = 1 then [1, if v.f1 = 0 then 0 else 1] else if v.f0 = 2 then 2 :: be8 (IntKind.u64.wrap v.f1)
  else if v.f0 = 3 then 3 :: (v.f2.size : Int) / 256 % 256 :: (v.f2.size : Int) % 256 :: bytesOf v.f2 else [0]
def packL : List S29 → Option (List Int)
  | [] => some []
  | v :: r => if v.f0 = 3 ∧ 1000 < v.f2.size then none else (packL r).map (enc v ++ ·)
def packS (l : List S29) : ByteArray × Int :=
  match packL l with
  | none => (⟨#[]⟩, 8)
  | some b => if 64 < l.length then (⟨#[]⟩, 8) else (strOfNums ((l.length : Int) % 256 :: b), 0)
theorem clean_is (v : S29) : value_Clean.f v.f0 v.f1 v.f2 = some (if v.f0 = 1 then (1, if v.f1 = 0 then 0 else 1, ⟨#[]⟩) else if v.f0 = 2 then (2, v.f1, ⟨#[]⟩) else if v.f0 = 3 then (3, 0, v.f2) else (0, 0, ⟨#[]⟩)) := by
  unfold value_Clean.f value_Flag.f value_Of.f value_Str.f value_None.f
  by_cases h1 : v.f0 = 1
  · rw [if_pos h1, if_pos h1]
    by_cases h : v.f1 = 0
    · have : (v.f1 != 0) = false := by simp [h]
      rw [this, if_pos h]; rfl
    · have : (v.f1 != 0) = true := by simp [h]
      rw [this, if_neg h]; rfl
  · rw [if_neg h1, if_neg h1]
    by_cases h2 : v.f0 = 2
    · rw [if_pos h2, if_pos h2]; rfl
    · rw [if_neg h2, if_neg h2]
      by_cases h3 : v.f0 = 3
      · rw [if_pos h3, if_pos h3]; rfl
      · rw [if_neg h3, if_neg h3]; rfl
theorem rclean_is (v : S29) : relstoreref_Clean.f v.f0 v.f1 v.f2 = value_Clean.f v.f0 v.f1 v.f2 := rfl
theorem enc_length (v : S29) (h : ¬ (v.f0 = 3 ∧ 1000 < v.f2.size)) : (enc v).length ≤ 1003 := by
  unfold enc
  split
  · simp
  · split
    · simp [be8]
    · split
      · simp [bytesOf_length]; omega
      · simp
theorem wrap64u (n : Int) : 0 ≤ IntKind.u64.wrap n ∧ IntKind.u64.wrap n < 18446744073709551616 := by rw [IntKind.wrap_u64]; omega
theorem pack_l0 {l : List S29} (hl : l.length * 32 ≤ 140737488351232) : ∀ (R A : List S29) (acc : List Int), l = A ++ R → acc.length ≤ 1 + 1003 * A.length → l.length ≤ 64 →
    Ev (fun k => value_Pack.l0 k acc l (l.length : Int) (A.length : Int)) (match packL R with | none => (⟨#[]⟩, 8) | some b => (strOfNums (acc ++ b), 0))
  | [], A, acc, h1, hc, h64 => by
    have z1 := congrArg List.length h1
    simp at z1
    refine Ev.step (f := fun _ => some (strOfNums acc, 0)) (fun k => ?_) ?_
    · simp only [value_Pack.l0]
      rw [if_neg (by omega)]
    · simp only [packL, List.append_nil]
      exact Ev.now _
  | v :: R, A, acc, h1, hc, h64 => by
    have z1 := congrArg List.length h1
    simp at z1
    have hv : rd_T29 l (A.length : Int) = v := getD_in h1
    have hw : wrap64 ((A.length : Int) + 1) = ((A ++ [v]).length : Int) := by rw [w64 (by omega) (by omega)]; simp
    have ih := fun acc hc => pack_l0 hl R (A ++ [v]) acc (by simp [h1]) hc h64
    refine Ev.step (f := fun k => (value_Clean.f v.f0 v.f1 v.f2).bind fun bt148 => (if acc.length < 140737488355328 then ((some (acc ++ [(bt148.1) % 256] : List Int)).bind fun y151 => (if bt148.1 = 1 then (if y151.length < 140737488355328 then (value_Pack.l0 k (y151 ++ [(bt148.2.1) % 256]) l (l.length : Int) (wrap64 ((A.length : Int) + 1))) else (none)) else (if bt148.1 = 2 then ((value_long.f k y151 (IntKind.u64.wrap (bt148.2.1))).bind fun t157 => (value_Pack.l0 k t157 l (l.length : Int) (wrap64 ((A.length : Int) + 1)))) else (if bt148.1 = 3 then (if (bt148.2.2.size : Int) > 1000 then (some ((⟨#[]⟩ : ByteArray), 8)) else ((some (([((bt148.2.2.size : Int) / 256) % 256, ((bt148.2.2.size : Int)) % 256] : List Int) : List Int)).bind fun y160 => (if y151.length + y160.length < 140737488355328 then ((some (y151 ++ y160 : List Int)).bind fun y163 => (if y163.length + bt148.2.2.size < 140737488355328 then (value_Pack.l0 k (y163 ++ bytesOf bt148.2.2) l (l.length : Int) (wrap64 ((A.length : Int) + 1))) else (none))) else (none)))) else (value_Pack.l0 k y151 l (l.length : Int) (wrap64 ((A.length : Int) + 1))))))) else (none))) (fun k => ?_) ?_
    · simp only [value_Pack.l0]
      rw [if_pos (by omega), if_pos (by omega), if_pos (by omega), hv]
    refine Ev.some_bind (clean_is v) ?_
    rw [hw]
    have hlA : A.length ≤ 64 := by omega
    refine Ev.ite_true (by omega) (Ev.some_bind rfl ?_)
    have done : ¬ (v.f0 = 3 ∧ 1000 < v.f2.size) → ∀ acc', acc' = acc ++ enc v → Ev (fun k => value_Pack.l0 k acc' l (l.length : Int) ((A ++ [v]).length : Int)) (match packL (v :: R) with | none => (⟨#[]⟩, 8) | some b => (strOfNums (acc ++ b), 0)) := by
      rintro hn acc' rfl
      have := ih (acc ++ enc v) (by have := enc_length v hn; simp; omega)
      have e : (match packL (v :: R) with | none => ((⟨#[]⟩ : ByteArray), (8 : Int)) | some b => (strOfNums (acc ++ b), 0)) = (match packL R with | none => (⟨#[]⟩, 8) | some b => (strOfNums (acc ++ enc v ++ b), 0)) := by
        simp only [packL]
        rw [if_neg hn]
        cases packL R <;> simp
      rw [e]
      exact this
    by_cases c1 : v.f0 = 1
    · simp only [if_pos c1]
      refine Ev.ite_true trivial (Ev.ite_true (by simp; omega) (done (by omega) _ ?_))
      unfold enc
      rw [if_pos c1]
      split <;> simp
    · simp only [if_neg c1]
      by_cases c2 : v.f0 = 2
      · simp only [if_pos c2]
        refine Ev.ite_false (by decide) (Ev.ite_true trivial (Ev.bind (long_is _ _ (by simp; omega)) (done (by omega) _ ?_)))
        unfold enc
        rw [if_neg c1, if_pos c2]
        simp
      · simp only [if_neg c2]
        by_cases c3 : v.f0 = 3
        · simp only [if_pos c3]
          refine Ev.ite_false (by decide) (Ev.ite_false (by decide) (Ev.ite_true trivial ?_))
          by_cases c4 : 1000 < v.f2.size
          · refine Ev.ite_true (by omega) ?_
            simp only [packL]
            rw [if_pos ⟨c3, c4⟩]
            exact Ev.now _
          · refine Ev.ite_false (by omega) (Ev.some_bind rfl (Ev.ite_true (by simp; omega) (Ev.some_bind rfl (Ev.ite_true (by simp; omega) (done (by omega) _ ?_)))))
            unfold enc
            rw [if_neg c1, if_neg c2, if_pos c3]
            simp
        · simp only [if_neg c3]
          refine Ev.ite_false (by decide) (Ev.ite_false (by decide) (Ev.ite_false (by decide) (done (by omega) _ ?_)))
          unfold enc
          rw [if_neg c1, if_neg c2, if_neg c3]
          simp
theorem Pack_is {l : List S29} (hl : l.length * 32 ≤ 140737488351232) : Ev (fun k => value_Pack.f k l) (packS l) := by
  unfold value_Pack.f packS
  by_cases h : 64 < l.length
  · refine Ev.ite_true (by omega) ?_
    split
    · exact Ev.now _
    · rw [if_pos h]; exact Ev.now _
  · refine Ev.ite_false (by omega) ?_
    have := pack_l0 hl l [] [(l.length : Int) % 256] rfl (by simp) (by omega)
    cases e : packL l with
    | none => rw [e] at this; exact this
    | some b => rw [e] at this; simp only; rw [if_neg h]; exact this
theorem rpack_l0 {l : List S29} (hl : l.length * 32 ≤ 140737488351232) : ∀ (R A : List S29) (acc : List Int), l = A ++ R → acc.length ≤ 1 + 1003 * A.length →
    Ev (fun k => relstoreref_Pack.l0 k l (strOfNums acc) l (l.length : Int) (A.length : Int)) (match packL R with | none => (⟨#[]⟩, 8) | some b => if 64 < l.length then (⟨#[]⟩, 8) else (strOfNums (acc ++ b), 0))
  | [], A, acc, h1, hc => by
    have z1 := congrArg List.length h1
    simp at z1
    refine Ev.step (f := fun _ => if (l.length : Int) > 64 then (some ((⟨#[]⟩ : ByteArray), 8)) else (some (strOfNums acc, 0))) (fun k => ?_) ?_
    · simp only [relstoreref_Pack.l0]
      rw [if_neg (by omega)]
    · simp only [packL, List.append_nil]
      by_cases h : 64 < l.length
      · rw [if_pos h]; exact Ev.ite_true (by omega) (Ev.now _)
      · rw [if_neg h]; exact Ev.ite_false (by omega) (Ev.now _)
  | v :: R, A, acc, h1, hc => by
    have z1 := congrArg List.length h1
    simp at z1
    have hv : rd_T29 l (A.length : Int) = v := getD_in h1
    have hw : wrap64 ((A.length : Int) + 1) = ((A ++ [v]).length : Int) := by rw [w64 (by omega) (by omega)]; simp
    have ih := fun acc hc => rpack_l0 hl R (A ++ [v]) acc (by simp [h1]) hc
    refine Ev.step (f := fun k => (value_Clean.f v.f0 v.f1 v.f2).bind fun bt195 => ((some (([(bt195.1) % 256] : List Int) : List Int)).bind fun y198 => (if (strOfNums acc).size + (strOfNums y198).size ≤ 9223372036854775807 then (if bt195.1 = 1 then ((some (([(bt195.2.1) % 256] : List Int) : List Int)).bind fun y201 => (if ((strOfNums acc) ++ (strOfNums y198)).size + (strOfNums y201).size ≤ 9223372036854775807 then (relstoreref_Pack.l0 k l (((strOfNums acc) ++ (strOfNums y198)) ++ (strOfNums y201)) l (l.length : Int) (wrap64 ((A.length : Int) + 1))) else (none))) else (if bt195.1 = 2 then ((relstoreref_bytes.f k (IntKind.u64.wrap (bt195.2.1)) 8).bind fun t204 => (if ((strOfNums acc) ++ (strOfNums y198)).size + t204.size ≤ 9223372036854775807 then (relstoreref_Pack.l0 k l (((strOfNums acc) ++ (strOfNums y198)) ++ t204) l (l.length : Int) (wrap64 ((A.length : Int) + 1))) else (none))) else (if bt195.1 = 3 then (if (bt195.2.2.size : Int) > 1000 then (some ((⟨#[]⟩ : ByteArray), 8)) else ((relstoreref_bytes.f k (IntKind.u64.wrap ((bt195.2.2.size : Int))) 2).bind fun t205 => (if t205.size + bt195.2.2.size ≤ 9223372036854775807 then (if ((strOfNums acc) ++ (strOfNums y198)).size + (t205 ++ bt195.2.2).size ≤ 9223372036854775807 then (relstoreref_Pack.l0 k l (((strOfNums acc) ++ (strOfNums y198)) ++ (t205 ++ bt195.2.2)) l (l.length : Int) (wrap64 ((A.length : Int) + 1))) else (none)) else (none)))) else (relstoreref_Pack.l0 k l ((strOfNums acc) ++ (strOfNums y198)) l (l.length : Int) (wrap64 ((A.length : Int) + 1)))))) else (none)))) (fun k => ?_) ?_
    · simp only [relstoreref_Pack.l0]
      rw [if_pos (by omega), if_pos (by omega), if_pos (by omega), hv]
      rfl
    refine Ev.some_bind (clean_is v) ?_
    rw [hw]
    refine Ev.some_bind rfl (Ev.ite_true (by simp only [nums_size]; simp; omega) ?_)
    simp only [nums_append]
    have done : ¬ (v.f0 = 3 ∧ 1000 < v.f2.size) → ∀ acc', acc' = acc ++ enc v → Ev (fun k => relstoreref_Pack.l0 k l (strOfNums acc') l (l.length : Int) ((A ++ [v]).length : Int)) (match packL (v :: R) with | none => (⟨#[]⟩, 8) | some b => if 64 < l.length then (⟨#[]⟩, 8) else (strOfNums (acc ++ b), 0)) := by
      rintro hn acc' rfl
      have := ih (acc ++ enc v) (by have := enc_length v hn; simp; omega)
      have e : (match packL (v :: R) with | none => ((⟨#[]⟩ : ByteArray), (8 : Int)) | some b => if 64 < l.length then (⟨#[]⟩, 8) else (strOfNums (acc ++ b), 0)) = (match packL R with | none => (⟨#[]⟩, 8) | some b => if 64 < l.length then (⟨#[]⟩, 8) else (strOfNums (acc ++ enc v ++ b), 0)) := by
        simp only [packL]
        rw [if_neg hn]
        cases packL R <;> simp
      rw [e]
      exact this
    by_cases c1 : v.f0 = 1
    · simp only [if_pos c1]
      refine Ev.ite_true trivial (Ev.some_bind rfl (Ev.ite_true (by simp only [nums_size]; simp; omega) ?_))
      refine done (by omega) _ ?_
      unfold enc
      rw [if_pos c1]
      split <;> simp
    · simp only [if_neg c1]
      by_cases c2 : v.f0 = 2
      · simp only [if_pos c2]
        refine Ev.ite_false (by decide) (Ev.ite_true trivial (Ev.bind (bytes8 _ (wrap64u _).1 (wrap64u _).2) (Ev.ite_true (by simp only [nums_size]; simp [be8]; omega) ?_)))
        rw [nums_append]
        refine done (by omega) _ ?_
        unfold enc
        rw [if_neg c1, if_pos c2]
        simp
      · simp only [if_neg c2]
        by_cases c3 : v.f0 = 3
        · simp only [if_pos c3]
          refine Ev.ite_false (by decide) (Ev.ite_false (by decide) (Ev.ite_true trivial ?_))
          by_cases c4 : 1000 < v.f2.size
          · refine Ev.ite_true (by omega) ?_
            simp only [packL]
            rw [if_pos ⟨c3, c4⟩]
            exact Ev.now _
          · have e : IntKind.u64.wrap (v.f2.size : Int) = (v.f2.size : Int) := by rw [IntKind.wrap_u64]; omega
            refine Ev.ite_false (by omega) ?_
            rw [e]
            refine Ev.bind (bytes2 _ (by omega) (by omega)) (Ev.ite_true (by rw [nums_size]; simp; omega) (Ev.ite_true (by rw [ByteArray.size_append, nums_size, nums_size]; simp; omega) ?_))
            have e2 : strOfNums (acc ++ [3 % 256]) ++ (strOfNums [(v.f2.size : Int) / 256 % 256, (v.f2.size : Int) % 256] ++ v.f2) = strOfNums (acc ++ enc v) := by
              conv => lhs; rw [← nums_bytes v.f2]
              rw [nums_append, nums_append, nums_bytes]
              unfold enc
              rw [if_neg c1, if_neg c2, if_pos c3]
              simp
            rw [e2]
            exact done (by omega) _ rfl
        · simp only [if_neg c3]
          refine Ev.ite_false (by decide) (Ev.ite_false (by decide) (Ev.ite_false (by decide) (done (by omega) _ ?_)))
          unfold enc
          rw [if_neg c1, if_neg c2, if_neg c3]
          simp
theorem rPack_is {l : List S29} (hl : l.length * 32 ≤ 140737488351232) : Ev (fun k => relstoreref_Pack.f k l) (packS l) := by
  have := rpack_l0 hl l [] [(l.length : Int) % 256] rfl (by simp)
  unfold relstoreref_Pack.f packS
  cases e : packL l with
  | none => rw [e] at this; exact this
  | some b => rw [e] at this; exact this
abbrev E0 : ByteArray := ⟨#[]⟩
/-- Eight bytes as a number, as both programs reckon it. -/
theorem fold_step (n : Int) (b : UInt8) (h0 : 0 ≤ n) (h1 : n < 72057594037927936) : Go.bits .or .u64 (IntKind.u64.wrap (n * 256)) (IntKind.u64.wrap (b.toNat : Int)) = n * 256 + (b.toNat : Int) := by
  have hb : b.toNat < 256 := b.toNat_lt
  have e1 : IntKind.u64.wrap (n * 256) = ((n.toNat * 256 : Nat) : Int) := by rw [IntKind.wrap_u64]; omega
  have e2 : IntKind.u64.wrap (b.toNat : Int) = (b.toNat : Int) := by rw [IntKind.wrap_u64]; omega
  rw [e1, e2, bits_or_u64_nat _ _ (by omega) (by omega)]
  have : n.toNat * 256 ||| b.toNat = n.toNat * 256 + b.toNat := by
    have := Nat.two_pow_add_eq_or_of_lt (i := 8) hb n.toNat
    rw [Nat.mul_comm]
    exact this.symm
  rw [this]
  omega
def val8 (l : List UInt8) (n : Int) : Int := l.foldl (fun n b => n * 256 + (b.toNat : Int)) n
theorem val8_range : ∀ (l : List UInt8) (n m : Int), 0 ≤ n → n < m → 0 ≤ val8 l n ∧ val8 l n < m * 256 ^ l.length
  | [], n, m, h0, h1 => by simp [val8]; omega
  | b :: l, n, m, h0, h1 => by
    have hb : b.toNat < 256 := b.toNat_lt
    have := val8_range l (n * 256 + (b.toNat : Int)) (m * 256) (by omega) (by omega)
    rw [List.length_cons, Int.pow_succ, Int.mul_comm (256 ^ l.length) 256, ← Int.mul_assoc]
    exact this
theorem fold_is : ∀ (l : List UInt8) (n m : Int), 0 ≤ n → n < m → m * 256 ^ l.length ≤ 18446744073709551616 → value_scanner_long.fold l n = val8 l n
  | [], n, m, h0, h1, h2 => rfl
  | b :: l, n, m, h0, h1, h2 => by
    have hb : b.toNat < 256 := b.toNat_lt
    have hp : (1 : Int) ≤ 256 ^ l.length := Int.pow_pos (by decide)
    rw [List.length_cons, Int.pow_succ, Int.mul_comm (256 ^ l.length) 256, ← Int.mul_assoc] at h2
    have hm : m * 256 ≤ m * 256 * 256 ^ l.length := by
      have := Int.mul_le_mul_of_nonneg_left hp (show 0 ≤ m * 256 by omega)
      omega
    have := fold_is l (n * 256 + (b.toNat : Int)) (m * 256) (by omega) (by omega) h2
    unfold value_scanner_long.fold val8 at *
    rw [List.foldl_cons, List.foldl_cons, fold_step n b h0 (by omega)]
    exact this
theorem unbytes_l0 (s : ByteArray) (hs : s.size ≤ 8) : ∀ (R Q : List UInt8) (n m : Int), s.data.toList = Q ++ R → 0 ≤ n → n < m → m * 256 ^ R.length ≤ 18446744073709551616 → Ev (fun k => relstoreref_unbytes.l0 k s n (Q.length : Int)) (val8 R n)
  | [], Q, n, m, h, h0, h1, h2 => by
    have z := size_in h
    simp at z
    refine Ev.step (f := fun _ => some n) (fun k => ?_) (Ev.now _)
    simp only [relstoreref_unbytes.l0]
    rw [if_neg (by omega)]
  | b :: R, Q, n, m, h, h0, h1, h2 => by
    have z := size_in h
    simp at z
    have hb : b.toNat < 256 := b.toNat_lt
    have hp : (1 : Int) ≤ 256 ^ R.length := Int.pow_pos (by decide)
    rw [List.length_cons, Int.pow_succ, Int.mul_comm (256 ^ R.length) 256, ← Int.mul_assoc] at h2
    have hm : m * 256 ≤ m * 256 * 256 ^ R.length := by
      have := Int.mul_le_mul_of_nonneg_left hp (show 0 ≤ m * 256 by omega)
      omega
    have ih := unbytes_l0 s hs R (Q ++ [b]) (n * 256 + (b.toNat : Int)) (m * 256) (by simp [h]) (by omega) (by omega) h2
    refine Ev.step (f := fun k => relstoreref_unbytes.l0 k s (n * 256 + (b.toNat : Int)) ((Q ++ [b]).length : Int)) (fun k => ?_) ih
    simp only [relstoreref_unbytes.l0]
    rw [if_pos (by omega), if_pos (by omega), bt_in h, w64 (by omega) (by omega)]
    have e : IntKind.u64.wrap (IntKind.u64.wrap (256 * n) + IntKind.u64.wrap (b.toNat : Int)) = n * 256 + (b.toNat : Int) := by
      rw [IntKind.wrap_u64, IntKind.wrap_u64, IntKind.wrap_u64]; omega
    rw [e]
    congr 1
    simp
theorem unbytes_is (s : ByteArray) (hs : s.size ≤ 8) : Ev (fun k => relstoreref_unbytes.f k s) (val8 s.data.toList 0) := by
  have hl : s.data.toList.length ≤ 8 := by rw [← size_in rfl]; exact hs
  refine unbytes_l0 s hs s.data.toList [] 0 1 rfl (by decide) (by decide) ?_
  have : ∀ n, n ≤ 8 → (1 : Int) * 256 ^ n ≤ 18446744073709551616 := by
    intro n hn
    have : n = 0 ∨ n = 1 ∨ n = 2 ∨ n = 3 ∨ n = 4 ∨ n = 5 ∨ n = 6 ∨ n = 7 ∨ n = 8 := by omega
    rcases this with rfl | rfl | rfl | rfl | rfl | rfl | rfl | rfl | rfl <;> decide
  exact this _ hl
/-! ### what a scanner takes -/
theorem take_is (s : ByteArray) (c : Bool) (n : Int) (h0 : 0 ≤ n) (h1 : n ≤ (s.size : Int)) : ∃ t r, value_scanner_take.f s c n = some (t, r, c) ∧ t.data.toList = s.data.toList.take n.toNat ∧ r.data.toList = s.data.toList.drop n.toNat := by
  refine ⟨s.extract 0 n.toNat, s.extract n.toNat s.size, ?_, ?_, ?_⟩
  · unfold value_scanner_take.f
    rw [if_neg (by omega), if_neg (by omega), if_pos h0, if_pos h1]
  · rw [ByteArray.data_extract, Array.toList_extract, List.extract_eq_take_drop]
    simp
  · rw [ByteArray.data_extract, Array.toList_extract, List.extract_eq_take_drop]
    have : s.data.toList.length = s.size := (size_in rfl).symm
    rw [List.take_of_length_le (by rw [List.length_drop]; omega)]
theorem take_out (s : ByteArray) (c : Bool) (n : Int) (h : n < 0 ∨ (s.size : Int) < n) : value_scanner_take.f s c n = some (E0, E0, true) := by
  unfold value_scanner_take.f
  by_cases h0 : n < 0
  · rw [if_pos h0]
  · rw [if_neg h0, if_pos (by omega)]
theorem toList_nil {t : ByteArray} : t.toList = ([] : List UInt8) ↔ t.data.toList = [] := by rw [Lib.toList_data]
theorem byte_is (s : ByteArray) (c : Bool) (x : UInt8) (r : List UInt8) (h : s.data.toList = x :: r) : ∃ s', s'.data.toList = r ∧ value_scanner_byte.f s c = some ((x.toNat : Int), s', c) := by
  have z := size_in h
  simp at z
  obtain ⟨t, r', e, ht, hr⟩ := take_is s c 1 (by decide) (by omega)
  rw [h] at ht hr
  refine ⟨r', hr, ?_⟩
  unfold value_scanner_byte.f
  rw [e]
  have ht' : t.data.toList = [x] := ht
  have zt := size_in ht'
  simp only [Option.bind_some]
  rw [if_neg (by rw [toList_nil, ht']; simp), if_pos (by simp at zt; omega)]
  have hb : bt t 0 = (x.toNat : Int) := bt_in (X := []) (Y := []) (x := x) ht'
  have hx : x.toNat < 256 := x.toNat_lt
  rw [hb, w64' (by omega) (by omega)]
theorem byte_out (s : ByteArray) (c : Bool) (h : s.data.toList = []) : value_scanner_byte.f s c = some (0, E0, true) := by
  have z : s.size = 0 := by rw [size_in h]; rfl
  unfold value_scanner_byte.f
  rw [take_out s c 1 (by omega)]
  simp only [Option.bind_some]
  rw [if_pos (toList_nil.2 rfl)]
theorem long_is' (s : ByteArray) (c : Bool) (h : 8 ≤ s.data.toList.length) : ∃ s', s'.data.toList = s.data.toList.drop 8 ∧ value_scanner_long.f s c = some (val8 (s.data.toList.take 8) 0, s', c) := by
  have z : s.size = s.data.toList.length := size_in rfl
  obtain ⟨t, r', e, ht, hr⟩ := take_is s c 8 (by decide) (by omega)
  refine ⟨r', hr, ?_⟩
  unfold value_scanner_long.f
  rw [e]
  simp only [Option.bind_some]
  have ht' : t.data.toList = s.data.toList.take 8 := ht
  rw [ht', fold_is _ 0 1 (by decide) (by decide) (by rw [List.length_take, Nat.min_eq_left h]; decide)]
theorem long_out (s : ByteArray) (c : Bool) (h : s.data.toList.length < 8) : value_scanner_long.f s c = some (0, E0, true) := by
  have z : s.size = s.data.toList.length := size_in rfl
  unfold value_scanner_long.f
  rw [take_out s c 8 (by omega)]
  rfl
/-- One value of a row that was written; nothing if it is none. -/
def item : List UInt8 → Option (S29 × List UInt8)
  | [] => none
  | k :: r => if k = 0 then some (⟨0, 0, E0⟩, r) else if k = 1 then (match r with | [] => none | x :: r => if x.toNat ≤ 1 then some (⟨1, (x.toNat : Int), E0⟩, r) else none)
    else if k = 2 then (if r.length < 8 then none else some (⟨2, wrap64 (val8 (r.take 8) 0), E0⟩, r.drop 8))
    else if k = 3 then (match r with | h :: l :: r => if 1000 < h.toNat * 256 + l.toNat ∨ r.length < h.toNat * 256 + l.toNat then none else some (⟨3, 0, ⟨(r.take (h.toNat * 256 + l.toNat)).toArray⟩⟩, r.drop (h.toNat * 256 + l.toNat)) | _ => none)
    else none
def items : Nat → List UInt8 → Option (List S29 × List UInt8)
  | 0, b => some ([], b)
  | n + 1, b => (item b).bind fun p => (items n p.2).map fun q => (p.1 :: q.1, q.2)
def unp (n : Nat) (b : List UInt8) : Option (List S29) := match items n b with | some (l, []) => some l | _ => none
def unpS (b : List UInt8) : Option (List S29) := match b with | [] => none | n :: r => if 64 < n.toNat then none else unp n.toNat r
def said (acc : List S29) (o : Option (List S29)) : List S29 × Int := match o with | some l => (acc ++ l, 0) | none => ([], 4)
theorem bad_l0 (x5 : Int) (acc : List S29) (s : ByteArray) : Ev (fun k => value_Unpack.l0 k x5 acc s true) ([], 4) := by
  refine ⟨2, fun k hk => ?_⟩
  obtain ⟨k, rfl⟩ : ∃ m, k = m + 2 := ⟨k - 2, by omega⟩
  show value_Unpack.l0 (k + 1 + 1) x5 acc s true = _
  simp only [value_Unpack.l0]
  have : value_Unpack.j2 (k + 1) x5 acc false s true = some ([], 4) := by simp [value_Unpack.j2]
  split
  · exact this
  · exact this
theorem said_none (acc : List S29) : said acc none = ([], 4) := rfl
theorem or_is (h l : UInt8) : Go.bits .or .i64 (wrap64 ((h.toNat : Int) * 256)) (l.toNat : Int) = ((h.toNat * 256 + l.toNat : Nat) : Int) := by
  have hh : h.toNat < 256 := h.toNat_lt
  have hl : l.toNat < 256 := l.toNat_lt
  rw [w64' (by omega) (by omega)]
  have := bits_join .i64 16 (by decide) (fun n h0 h1 => by rw [IntKind.wrap_i64]; omega) 8 ((h.toNat : Int) * 256) (l.toNat : Int) (by omega) (by omega) (by omega) (by omega) (by omega) (by omega)
  rw [this]
  omega
theorem unp_some {n : Nat} {b r : List UInt8} {v : S29} (h : item b = some (v, r)) (acc : List S29) : said acc (unp (n + 1) b) = said (acc ++ [v]) (unp n r) := by
  unfold unp
  simp only [items, h, Option.bind_some]
  cases items n r with
  | none => rfl
  | some q =>
    obtain ⟨l, t⟩ := q
    cases t <;> simp [said]
theorem unp_none {n : Nat} {b : List UInt8} (h : item b = none) (acc : List S29) : said acc (unp (n + 1) b) = ([], 4) := by
  unfold unp
  simp [items, h, said]
theorem flag_is (b : Bool) : value_Flag.f b = some (1, if b = true then 1 else 0, E0) := by cases b <;> rfl
theorem take_bad (s : ByteArray) (n : Int) : ∃ t r, value_scanner_take.f s true n = some (t, r, true) := by
  by_cases h : 0 ≤ n ∧ n ≤ (s.size : Int)
  · obtain ⟨t, r, e, _⟩ := take_is s true n h.1 h.2
    exact ⟨t, r, e⟩
  · exact ⟨E0, E0, take_out s true n (by omega)⟩
theorem unpack_l0 : ∀ (n : Nat) (acc : List S29) (s : ByteArray), acc.length + n ≤ 1000 → Ev (fun k => value_Unpack.l0 k (n : Int) acc s false) (said acc (unp n s.data.toList))
  | 0, acc, s, hn => by
    refine Ev.step (f := fun k => value_Unpack.j2 k 0 acc false s false) (fun k => ?_) (Ev.step (f := fun _ => if (s.size : Int) > 0 then (some (([] : List (S29)), 4)) else (some (acc, 0))) (fun k => ?_) ?_)
    · simp only [value_Unpack.l0]
      rw [if_neg (by decide)]
      rfl
    · simp [value_Unpack.j2]
    · have z : s.size = s.data.toList.length := size_in rfl
      cases h : s.data.toList with
      | nil =>
        rw [h] at z
        simp only [List.length_nil] at z
        refine Ev.ite_false (by omega) ?_
        simpa [unp, items, said] using Ev.now (acc, (0 : Int))
      | cons x r =>
        rw [h] at z
        simp only [List.length_cons] at z
        exact Ev.ite_true (by omega) (Ev.now _)
  | n + 1, acc, s, hn => by
    have hw : wrap64 (((n + 1 : Nat) : Int) - 1) = (n : Int) := by unfold wrap64; omega
    refine Ev.step (f := fun k => value_Unpack.j2 k ((n + 1 : Nat) : Int) acc true s false) (fun k => ?_) ?_
    · simp only [value_Unpack.l0]
      rw [if_pos (by omega)]
      rfl
    refine Ev.step (f := fun k => ((value_scanner_byte.f s false).bind fun bt213 => (if bt213.1 = 0 then ((value_None.f).bind fun bt216 => (if acc.length < 4398046511104 then (value_Unpack.l0 k (wrap64 (((n + 1 : Nat) : Int) - 1)) (acc ++ [(⟨bt216.1, bt216.2.1, bt216.2.2⟩ : S29)]) bt213.2.1 bt213.2.2) else (none))) else (if bt213.1 = 1 then ((value_scanner_byte.f bt213.2.1 bt213.2.2).bind fun bt222 => (if bt222.2.2 = true then ((value_Flag.f (bt222.1 == 1)).bind fun bt225 => (if acc.length < 4398046511104 then (value_Unpack.l0 k (wrap64 (((n + 1 : Nat) : Int) - 1)) (acc ++ [(⟨bt225.1, bt225.2.1, bt225.2.2⟩ : S29)]) bt222.2.1 true) else (none))) else ((value_Flag.f (bt222.1 == 1)).bind fun bt231 => (if acc.length < 4398046511104 then (value_Unpack.l0 k (wrap64 (((n + 1 : Nat) : Int) - 1)) (acc ++ [(⟨bt231.1, bt231.2.1, bt231.2.2⟩ : S29)]) bt222.2.1 (decide (bt222.1 > 1))) else (none))))) else (if bt213.1 = 2 then ((value_scanner_long.f bt213.2.1 bt213.2.2).bind fun bt237 => ((value_Of.f (wrap64 (bt237.1))).bind fun bt240 => (if acc.length < 4398046511104 then (value_Unpack.l0 k (wrap64 (((n + 1 : Nat) : Int) - 1)) (acc ++ [(⟨bt240.1, bt240.2.1, bt240.2.2⟩ : S29)]) bt237.2.1 bt237.2.2) else (none)))) else (if bt213.1 = 3 then ((value_scanner_byte.f bt213.2.1 bt213.2.2).bind fun bt246 => ((value_scanner_byte.f bt246.2.1 bt246.2.2).bind fun bt249 => (if bt249.2.2 = true then ((value_scanner_take.f bt249.2.1 true (Go.bits .or .i64 (wrap64 (bt246.1 * 256)) bt249.1)).bind fun bt252 => ((value_Str.f bt252.1).bind fun bt255 => (if acc.length < 4398046511104 then (value_Unpack.l0 k (wrap64 (((n + 1 : Nat) : Int) - 1)) (acc ++ [(⟨bt255.1, bt255.2.1, bt255.2.2⟩ : S29)]) bt252.2.1 bt252.2.2) else (none)))) else ((value_scanner_take.f bt249.2.1 (decide ((Go.bits .or .i64 (wrap64 (bt246.1 * 256)) bt249.1) > 1000)) (Go.bits .or .i64 (wrap64 (bt246.1 * 256)) bt249.1)).bind fun bt261 => ((value_Str.f bt261.1).bind fun bt264 => (if acc.length < 4398046511104 then (value_Unpack.l0 k (wrap64 (((n + 1 : Nat) : Int) - 1)) (acc ++ [(⟨bt264.1, bt264.2.1, bt264.2.2⟩ : S29)]) bt261.2.1 bt261.2.2) else (none))))))) else (value_Unpack.l0 k (wrap64 (((n + 1 : Nat) : Int) - 1)) acc bt213.2.1 true))))))) (fun k => ?_) ?_
    · simp [value_Unpack.j2]
    rw [hw]
    have ih := fun v s' => unpack_l0 n (acc ++ [v]) s' (by simp; omega)
    have hlim : acc.length < 4398046511104 := by omega
    have good : ∀ v s' r b, b = s.data.toList → item b = some (v, r) → s'.data.toList = r → Ev (fun k => value_Unpack.l0 k (n : Int) (acc ++ [v]) s' false) (said acc (unp (n + 1) s.data.toList)) := by
      rintro v s' r b rfl h1 rfl
      rw [unp_some h1]
      exact ih v s'
    have bad : ∀ b, b = s.data.toList → item b = none → ∀ acc' s', Ev (fun k => value_Unpack.l0 k (n : Int) acc' s' true) (said acc (unp (n + 1) s.data.toList)) := by
      rintro b rfl h1 acc' s'
      rw [unp_none h1]
      exact bad_l0 _ _ _
    cases h : s.data.toList with
    | nil =>
      rw [h] at good bad
      refine Ev.some_bind (byte_out s false h) (Ev.ite_true rfl (Ev.some_bind rfl (Ev.ite_true hlim ?_)))
      exact bad _ rfl rfl _ _
    | cons x r =>
      rw [h] at good bad
      obtain ⟨s', hs', e⟩ := byte_is s false x r h
      refine Ev.some_bind e ?_
      simp only
      by_cases c0 : x = 0
      · subst c0
        refine Ev.ite_true rfl (Ev.some_bind rfl (Ev.ite_true hlim ?_))
        exact good _ _ r _ rfl rfl hs'
      · refine Ev.ite_false (fun k => c0 ((u8_is x 0 (by decide)).1 k)) ?_
        by_cases c1 : x = 1
        · subst c1
          refine Ev.ite_true rfl ?_
          cases r with
          | nil =>
            refine Ev.some_bind (byte_out s' false hs') (Ev.ite_true rfl (Ev.some_bind (flag_is _) (Ev.ite_true hlim ?_)))
            exact bad _ rfl rfl _ _
          | cons y r =>
            obtain ⟨s2, hs2, e2⟩ := byte_is s' false y r hs'
            refine Ev.some_bind e2 (Ev.ite_false Bool.false_ne_true (Ev.some_bind (flag_is _) (Ev.ite_true hlim ?_)))
            simp only
            by_cases cy : y.toNat ≤ 1
            · have d : decide ((y.toNat : Int) > 1) = false := decide_eq_false (by omega)
              have ev : (if ((y.toNat : Int) == 1) = true then (1 : Int) else 0) = (y.toNat : Int) := by
                by_cases e1 : y.toNat = 1
                · rw [e1]; rfl
                · have : y.toNat = 0 := by omega
                  rw [this]; rfl
              rw [d, ev]
              refine good _ _ r _ rfl ?_ hs2
              simp only [item]
              rw [if_neg (by decide), if_pos trivial, if_pos cy]
            · have d : decide ((y.toNat : Int) > 1) = true := decide_eq_true (by omega)
              rw [d]
              refine bad _ rfl ?_ _ _
              simp only [item]
              rw [if_neg (by decide), if_pos trivial, if_neg cy]
        · refine Ev.ite_false (fun k => c1 ((u8_is x 1 (by decide)).1 k)) ?_
          by_cases c2 : x = 2
          · subst c2
            refine Ev.ite_true rfl ?_
            by_cases c8 : r.length < 8
            · refine Ev.some_bind (long_out s' false (by rw [hs']; exact c8)) (Ev.some_bind rfl (Ev.ite_true hlim ?_))
              refine bad _ rfl ?_ _ _
              simp only [item]
              rw [if_neg (by decide), if_neg (by decide), if_pos trivial, if_pos c8]
            · obtain ⟨s2, hs2, e2⟩ := long_is' s' false (by rw [hs']; omega)
              rw [hs'] at hs2 e2
              refine Ev.some_bind e2 (Ev.some_bind rfl (Ev.ite_true hlim ?_))
              refine good _ _ (r.drop 8) _ rfl ?_ hs2
              simp only [item]
              rw [if_neg (by decide), if_neg (by decide), if_pos trivial, if_neg c8]
          · refine Ev.ite_false (fun k => c2 ((u8_is x 2 (by decide)).1 k)) ?_
            by_cases c3 : x = 3
            · subst c3
              refine Ev.ite_true rfl ?_
              cases r with
              | nil =>
                obtain ⟨t, u, e4⟩ := take_bad E0 (Go.bits .or .i64 (wrap64 (0 * 256)) 0)
                refine Ev.some_bind (byte_out s' false hs') (Ev.some_bind (byte_out E0 true rfl) (Ev.ite_true rfl (Ev.some_bind e4 (Ev.some_bind rfl (Ev.ite_true hlim ?_)))))
                exact bad _ rfl rfl _ _
              | cons y r =>
                obtain ⟨s2, hs2, e2⟩ := byte_is s' false y r hs'
                refine Ev.some_bind e2 ?_
                cases r with
                | nil =>
                  obtain ⟨t, u, e4⟩ := take_bad E0 (Go.bits .or .i64 (wrap64 ((y.toNat : Int) * 256)) 0)
                  refine Ev.some_bind (byte_out s2 false hs2) (Ev.ite_true rfl (Ev.some_bind e4 (Ev.some_bind rfl (Ev.ite_true hlim ?_))))
                  exact bad _ rfl rfl _ _
                | cons z r =>
                  obtain ⟨s3, hs3, e3⟩ := byte_is s2 false z r hs2
                  refine Ev.some_bind e3 (Ev.ite_false Bool.false_ne_true ?_)
                  simp only
                  rw [or_is]
                  have zr : s3.size = r.length := size_in hs3
                  generalize hN : y.toNat * 256 + z.toNat = N
                  have hi : 1000 < N ∨ r.length < N → item (3 :: y :: z :: r) = none := by
                    intro hh
                    simp only [item]
                    rw [if_neg (by decide), if_neg (by decide), if_neg (by decide), if_pos trivial, hN, if_pos hh]
                  by_cases cN : 1000 < N
                  · have d : decide ((N : Int) > 1000) = true := decide_eq_true (by omega)
                    rw [d]
                    obtain ⟨t, u, e4⟩ := take_bad s3 (N : Int)
                    refine Ev.some_bind e4 (Ev.some_bind rfl (Ev.ite_true hlim ?_))
                    exact bad _ rfl (hi (.inl cN)) _ _
                  · have d : decide ((N : Int) > 1000) = false := decide_eq_false (by omega)
                    rw [d]
                    by_cases cr : r.length < N
                    · refine Ev.some_bind (take_out s3 false (N : Int) (by omega)) (Ev.some_bind rfl (Ev.ite_true hlim ?_))
                      exact bad _ rfl (hi (.inr cr)) _ _
                    · obtain ⟨t, u, e4, ht, hu⟩ := take_is s3 false (N : Int) (by omega) (by omega)
                      refine Ev.some_bind e4 (Ev.some_bind rfl (Ev.ite_true hlim ?_))
                      have et : t = ⟨(r.take N).toArray⟩ := data_inj (by rw [ht, hs3, Int.toNat_natCast])
                      subst et
                      refine good _ _ (r.drop N) _ rfl ?_ (by rw [hu, hs3, Int.toNat_natCast])
                      simp only [item]
                      rw [if_neg (by decide), if_neg (by decide), if_neg (by decide), if_pos trivial, hN, if_neg (by omega)]
            · refine Ev.ite_false (fun k => c3 ((u8_is x 3 (by decide)).1 k)) ?_
              refine bad _ rfl ?_ _ _
              simp only [item]
              rw [if_neg c0, if_neg c1, if_neg c2, if_neg c3]
theorem Unpack_is (s : ByteArray) : Ev (fun k => value_Unpack.f k s) (said [] (unpS s.data.toList)) := by
  unfold value_Unpack.f
  cases h : s.data.toList with
  | nil =>
    refine Ev.some_bind (byte_out s false h) (Ev.ite_true rfl (Ev.step (f := fun k => value_Unpack.l0 k 0 [] E0 true) (fun k => rfl) (bad_l0 _ _ _)))
  | cons x r =>
    obtain ⟨s', hs', e⟩ := byte_is s false x r h
    refine Ev.some_bind e (Ev.ite_false Bool.false_ne_true ?_)
    simp only
    have hx : x.toNat < 256 := x.toNat_lt
    by_cases c : 64 < x.toNat
    · have d : decide ((x.toNat : Int) > 64) = true := decide_eq_true (by omega)
      rw [d]
      refine Ev.step (f := fun k => value_Unpack.l0 k (x.toNat : Int) [] s' true) (fun k => rfl) ?_
      simp only [unpS]
      rw [if_pos c]
      exact bad_l0 _ _ _
    · have d : decide ((x.toNat : Int) > 64) = false := decide_eq_false (by omega)
      rw [d]
      refine Ev.step (f := fun k => value_Unpack.l0 k (x.toNat : Int) [] s' false) (fun k => rfl) ?_
      simp only [unpS]
      rw [if_neg c, ← hs']
      exact unpack_l0 x.toNat [] s' (by simp; omega)
/-- What the model makes of so many bytes behind a value's kind. -/
def lv (x : Nat) (t : List UInt8) : S29 := if x = 1 then ⟨1, if t = [1] then 1 else 0, E0⟩ else if x = 2 then ⟨2, wrap64 (val8 t 0), E0⟩ else if x = 3 then ⟨3, 0, ⟨t.toArray⟩⟩ else ⟨0, 0, E0⟩
def lj (x n : Nat) (r : List UInt8) : Option (S29 × List UInt8) := if r.length < n then none else some (lv x (r.take n), r.drop n)
def lit : List UInt8 → Option (S29 × List UInt8)
  | [] => none
  | k :: r => if k = 0 then lj 0 0 r else if k = 1 then lj 1 1 r else if k = 2 then lj 2 8 r
    else if k = 3 then (match r with | h :: l :: r => lj 3 (h.toNat * 256 + l.toNat) r | _ => none) else none
def lits : Nat → List UInt8 → Option (List S29 × List UInt8)
  | 0, b => some ([], b)
  | n + 1, b => (lit b).bind fun p => (lits n p.2).map fun q => (p.1 :: q.1, q.2)
def fin (s : ByteArray) (l : List S29) : List S29 × Int := if (packS l).2 = 0 then (if (packS l).1.toList = s.toList then (l, 0) else ([], 4)) else ([], 4)
def told (s : ByteArray) (acc : List S29) (o : Option (List S29 × List UInt8)) : List S29 × Int := match o with | none => ([], 4) | some q => fin s (acc ++ q.1)
theorem extract_data (s : ByteArray) (a b : Nat) (X Y R : List UInt8) (h : s.data.toList = X ++ (Y ++ R)) (ha : a = X.length) (hb : b = X.length + Y.length) : (s.extract a b).data.toList = Y := by
  subst ha hb
  rw [ByteArray.data_extract, Array.toList_extract, List.extract_eq_take_drop, h]
  simp
theorem val8_lim (t : List UInt8) (h : t.length ≤ 8) : 0 ≤ val8 t 0 ∧ val8 t 0 < 18446744073709551616 := by
  have h1 := val8_range t 0 1 (by decide) (by decide)
  have : ∀ n, n ≤ 8 → (1 : Int) * 256 ^ n ≤ 18446744073709551616 := by
    intro n hn
    have : n = 0 ∨ n = 1 ∨ n = 2 ∨ n = 3 ∨ n = 4 ∨ n = 5 ∨ n = 6 ∨ n = 7 ∨ n = 8 := by omega
    rcases this with rfl | rfl | rfl | rfl | rfl | rfl | rfl | rfl | rfl <;> decide
  have := this _ h
  omega
theorem unpack_j1 {s : ByteArray} (hs : s.size ≤ 140737488351232) (x n : Nat) (acc : List S29) (P R : List UInt8) (hP : s.data.toList = P ++ R) (hacc : acc.length < 1000) (hn : n ≤ 70000) (hx : x = 2 → n ≤ 8) (hx0 : x ≤ 3) (o : List S29 × Int)
    (h : ∀ q, lj x n R = some q → Ev (fun k => relstoreref_Unpack.l0 k s (acc ++ [q.1]) ((P ++ R.take n).length : Int)) o) (h2 : lj x n R = none → o = ([], 4)) :
    Ev (fun k => relstoreref_Unpack.j1 k s acc (P.length : Int) (x : Int) (n : Int) 0 0 E0) o := by
  have z := size_in hP
  simp only [List.length_append] at z
  have hw : wrap64 ((P.length : Int) + (n : Int)) = (P.length : Int) + (n : Int) := w64' (by omega) (by omega)
  by_cases c : R.length < n
  · rw [h2 (by unfold lj; rw [if_pos c])]
    refine ⟨1, fun k hk => ?_⟩
    obtain ⟨k, rfl⟩ : ∃ m, k = m + 1 := ⟨k - 1, by omega⟩
    simp only [relstoreref_Unpack.j1]
    rw [hw, if_pos (by omega)]
  · have h' := h _ (by unfold lj; rw [if_neg c])
    have e : ((P ++ R.take n).length : Int) = (P.length : Int) + (n : Int) := by rw [List.length_append, List.length_take]; omega
    rw [e] at h'
    have ht : (s.extract (P.length : Int).toNat ((P.length : Int) + (n : Int)).toNat).data.toList = R.take n := extract_data s _ _ P (R.take n) (R.drop n) (by rw [hP, List.take_append_drop]) (by omega) (by rw [List.length_take]; omega)
    generalize hT : s.extract (P.length : Int).toNat ((P.length : Int) + (n : Int)).toNat = T at ht
    have zT := size_in ht
    rw [List.length_take, Nat.min_eq_left (by omega)] at zT
    refine Ev.step (f := fun k => (if (x : Int) = 1 then ((relstoreref_truth.f (T.toList == ([1] : List UInt8))).bind fun bt277 => (if acc.length < 4398046511104 then (relstoreref_Unpack.l0 k s (acc ++ [(⟨bt277.1, bt277.2.1, bt277.2.2⟩ : S29)]) ((P.length : Int) + (n : Int))) else (none))) else (if (x : Int) = 2 then ((relstoreref_unbytes.f k T).bind fun t283 => ((relstoreref_num.f (wrap64 (t283))).bind fun bt284 => (if acc.length < 4398046511104 then (relstoreref_Unpack.l0 k s (acc ++ [(⟨bt284.1, bt284.2.1, bt284.2.2⟩ : S29)]) ((P.length : Int) + (n : Int))) else (none)))) else (if (x : Int) = 3 then ((relstoreref_str.f T).bind fun bt290 => (if acc.length < 4398046511104 then (relstoreref_Unpack.l0 k s (acc ++ [(⟨bt290.1, bt290.2.1, bt290.2.2⟩ : S29)]) ((P.length : Int) + (n : Int))) else (none))) else (if acc.length < 4398046511104 then (relstoreref_Unpack.l0 k s (acc ++ [(⟨0, 0, E0⟩ : S29)]) ((P.length : Int) + (n : Int))) else (none)))))) (fun k => ?_) ?_
    · simp only [relstoreref_Unpack.j1]
      rw [hw, if_neg (by omega), if_pos (by omega), if_pos (by omega), if_pos (by omega), hT]
    have hl : acc.length < 4398046511104 := by omega
    by_cases c1 : x = 1
    · subst c1
      refine Ev.ite_true rfl ?_
      have et : (T.toList == ([1] : List UInt8)) = decide (R.take n = [1]) := by rw [Lib.toList_data, ht]; apply Bool.eq_iff_iff.2; simp
      rw [et]
      have ef : relstoreref_truth.f (decide (R.take n = [1])) = some (1, if R.take n = [1] then 1 else 0, E0) := by
        by_cases d : R.take n = [1]
        · rw [decide_eq_true d, if_pos d]; rfl
        · rw [decide_eq_false d, if_neg d]; rfl
      refine Ev.some_bind ef (Ev.ite_true hl ?_)
      simpa [lv] using h'
    · refine Ev.ite_false (by omega) ?_
      by_cases c2 : x = 2
      · subst c2
        refine Ev.ite_true rfl (Ev.bind (unbytes_is T (by rw [zT]; exact hx rfl)) (Ev.some_bind rfl (Ev.ite_true hl ?_)))
        rw [ht]
        simpa [lv] using h'
      · refine Ev.ite_false (by omega) ?_
        by_cases c3 : x = 3
        · subst c3
          refine Ev.ite_true rfl (Ev.some_bind rfl (Ev.ite_true hl ?_))
          have : T = ⟨(R.take n).toArray⟩ := data_inj ht
          rw [this]
          simpa [lv] using h'
        · have c0 : x = 0 := by omega
          subst c0
          refine Ev.ite_false (by decide) (Ev.ite_true hl ?_)
          simpa [lv] using h'
theorem two_le (y z : UInt8) : y.toNat * 256 + z.toNat ≤ 70000 := by
  have := y.toNat_lt
  have := z.toNat_lt
  omega
theorem runpack_l0 {s : ByteArray} (hs : s.size ≤ 140737488351232) {n0 : UInt8} {R0 : List UInt8} (h0 : s.data.toList = n0 :: R0) : ∀ (m : Nat) (acc : List S29) (P R : List UInt8), acc.length + m = n0.toNat → s.data.toList = P ++ R →
    Ev (fun k => relstoreref_Unpack.l0 k s acc (P.length : Int)) (told s acc (lits m R))
  | 0, acc, P, R, hm, hP => by
    have hn : n0.toNat < 256 := n0.toNat_lt
    have z := size_in h0
    simp only [List.length_cons] at z
    have hb : bt s 0 = (n0.toNat : Int) := bt_in (X := []) h0
    refine Ev.step (f := fun k => (relstoreref_Pack.f k acc).bind fun bt270 => (if bt270.2 = 0 then (if bt270.1.toList = s.toList then (some (acc, 0)) else (some (([] : List (S29)), 4))) else (some (([] : List (S29)), 4)))) (fun k => ?_) (Ev.bind (rPack_is (by omega)) ?_)
    · simp only [relstoreref_Unpack.l0]
      rw [if_pos (by omega), hb, w64' (by omega) (by omega), if_neg (by omega)]
    · simp only [lits, told, fin, List.append_nil]
      by_cases c : (packS acc).2 = 0
      · refine Ev.ite_true c ?_
        rw [if_pos c]
        by_cases d : (packS acc).1.toList = s.toList
        · rw [if_pos d, if_pos d]; exact Ev.now _
        · rw [if_neg d, if_neg d]; exact Ev.now _
      · rw [if_neg c, if_neg c]
        exact Ev.now _
  | m + 1, acc, P, R, hm, hP => by
    have hn : n0.toNat < 256 := n0.toNat_lt
    have z0 := size_in h0
    simp only [List.length_cons] at z0
    have z := size_in hP
    simp only [List.length_append] at z
    have hb : bt s 0 = (n0.toNat : Int) := bt_in (X := []) h0
    cases R with
    | nil =>
      refine Ev.step (f := fun _ => some (([] : List (S29)), 4)) (fun k => ?_) (Ev.now _)
      simp only [relstoreref_Unpack.l0]
      simp only [List.length_nil] at z
      rw [if_pos (by omega), hb, w64' (by omega) (by omega), if_pos (by omega), if_pos (by omega)]
    | cons x R =>
      simp only [List.length_cons] at z
      have hbx : bt s (P.length : Int) = (x.toNat : Int) := bt_in hP
      have hx : x.toNat < 256 := x.toNat_lt
      have w1 : wrap64 ((P.length : Int) + 1) = ((P ++ [x]).length : Int) := by rw [w64 (by omega) (by omega)]; simp
      have hP1 : s.data.toList = (P ++ [x]) ++ R := by simp [hP]
      have ih := fun v P R h => runpack_l0 hs h0 m (acc ++ [v]) P R (by simp; omega) h
      have arm : ∀ (y n : Nat) (P' R' : List UInt8), s.data.toList = P' ++ R' → n ≤ 70000 → (y = 2 → n ≤ 8) → y ≤ 3 → lit (x :: R) = lj y n R' → Ev (fun k => relstoreref_Unpack.j1 k s acc (P'.length : Int) (y : Int) (n : Int) 0 0 E0) (told s acc (lits (m + 1) (x :: R))) := by
        intro y n P' R' hP' hn' hy hy3 hl
        refine unpack_j1 hs y n acc P' R' hP' (by omega) hn' hy hy3 _ (fun q hq => ?_) (fun hq => ?_)
        · have hq' : q.2 = R'.drop n := by
            unfold lj at hq
            split at hq
            · cases hq
            · cases hq; rfl
          have := ih q.1 (P' ++ R'.take n) (R'.drop n) (by rw [hP']; simp)
          have e : told s acc (lits (m + 1) (x :: R)) = told s (acc ++ [q.1]) (lits m (R'.drop n)) := by
            simp only [lits, hl, hq, Option.bind_some, hq', told]
            cases lits m (R'.drop n) <;> simp
          rw [e]
          exact this
        · simp only [lits, hl, hq, Option.bind_none, told]
      refine Ev.step (f := fun k => (if (x.toNat : Int) = 0 then (relstoreref_Unpack.j1 k s acc (wrap64 ((P.length : Int) + 1)) (x.toNat : Int) 0 0 0 E0) else (if (x.toNat : Int) = 1 then (relstoreref_Unpack.j1 k s acc (wrap64 ((P.length : Int) + 1)) (x.toNat : Int) 1 0 0 E0) else (if (x.toNat : Int) = 2 then (relstoreref_Unpack.j1 k s acc (wrap64 ((P.length : Int) + 1)) (x.toNat : Int) 8 0 0 E0) else (if (x.toNat : Int) = 3 then (if (wrap64 ((wrap64 ((P.length : Int) + 1)) + 2)) > (s.size : Int) then (some (([] : List (S29)), 4)) else (if 0 ≤ (wrap64 ((P.length : Int) + 1)) then (if (wrap64 ((P.length : Int) + 1)) ≤ (wrap64 ((wrap64 ((P.length : Int) + 1)) + 2)) then (if (wrap64 ((wrap64 ((P.length : Int) + 1)) + 2)) ≤ (s.size : Int) then ((relstoreref_unbytes.f k (s.extract ((wrap64 ((P.length : Int) + 1)) : Int).toNat ((wrap64 ((wrap64 ((P.length : Int) + 1)) + 2)) : Int).toNat)).bind fun t276 => (relstoreref_Unpack.j1 k s acc (wrap64 ((wrap64 ((P.length : Int) + 1)) + 2)) (x.toNat : Int) (wrap64 (t276)) 0 0 E0)) else (none)) else (none)) else (none))) else (some (([] : List (S29)), 4))))))) (fun k => ?_) ?_
      · simp only [relstoreref_Unpack.l0]
        rw [if_pos (by omega), hb, w64' (by omega) (by omega), if_pos (by omega), if_neg (by omega)]
        rw [show relstoreref_null.f = some (0, 0, E0) from rfl]
        simp only [Option.bind_some]
        rw [if_pos (by omega), if_pos (by omega), hbx]
      rw [w1]
      by_cases c0 : x.toNat = 0
      · refine Ev.ite_true (by omega) ?_
        rw [c0]
        refine arm 0 0 (P ++ [x]) R hP1 (by decide) (by decide) (by decide) ?_
        have : x = 0 := (u8_is x 0 (by decide)).1 (by omega)
        simp only [lit]
        rw [if_pos this]
      · refine Ev.ite_false (by omega) ?_
        have n0 : ¬ x = 0 := fun e => c0 (by rw [e]; rfl)
        by_cases c1 : x.toNat = 1
        · refine Ev.ite_true (by omega) ?_
          rw [c1]
          refine arm 1 1 (P ++ [x]) R hP1 (by decide) (by decide) (by decide) ?_
          have : x = 1 := (u8_is x 1 (by decide)).1 (by omega)
          simp only [lit]
          rw [if_neg n0, if_pos this]
        · refine Ev.ite_false (by omega) ?_
          have n1 : ¬ x = 1 := fun e => c1 (by rw [e]; rfl)
          by_cases c2 : x.toNat = 2
          · refine Ev.ite_true (by omega) ?_
            rw [c2]
            refine arm 2 8 (P ++ [x]) R hP1 (by decide) (by decide) (by decide) ?_
            have : x = 2 := (u8_is x 2 (by decide)).1 (by omega)
            simp only [lit]
            rw [if_neg n0, if_neg n1, if_pos this]
          · refine Ev.ite_false (by omega) ?_
            have n2 : ¬ x = 2 := fun e => c2 (by rw [e]; rfl)
            by_cases c3 : x.toNat = 3
            · have e3 : x = 3 := (u8_is x 3 (by decide)).1 (by omega)
              refine Ev.ite_true (by omega) ?_
              have w3 : wrap64 (((P ++ [x]).length : Int) + 2) = (P.length : Int) + 3 := by
                have lp : ((P ++ [x]).length : Int) = (P.length : Int) + 1 := by simp
                rw [lp, w64' (by omega) (by omega)]
                omega
              rw [w3]
              have lone : ∀ o, lit (x :: R) = o → R.length < 2 → o = none := by
                rintro o rfl hR
                simp only [lit]
                rw [if_neg n0, if_neg n1, if_neg n2, if_pos e3]
                match R, hR with
                | [], _ => rfl
                | [_], _ => rfl
              by_cases cR : R.length < 2
              · refine Ev.ite_true (by omega) ?_
                have : told s acc (lits (m + 1) (x :: R)) = ([], 4) := by
                  have hn := lone _ rfl cR
                  simp only [lits, hn, Option.bind_none, told]
                rw [this]
                exact Ev.now _
              · obtain ⟨y, zz, R2, rfl⟩ : ∃ y zz R2, R = y :: zz :: R2 := by
                  match R, cR with
                  | y :: zz :: R2, _ => exact ⟨y, zz, R2, rfl⟩
                  | [], h => simp at h
                  | [_], h => simp at h
                simp only [List.length_cons] at z
                have hy : y.toNat < 256 := y.toNat_lt
                have hz : zz.toNat < 256 := zz.toNat_lt
                refine Ev.ite_false (by omega) (Ev.ite_true (by omega) (Ev.ite_true (by rw [List.length_append]; simp only [List.length_cons, List.length_nil]; omega) (Ev.ite_true (by omega) ?_)))
                have hx2 := extract_data s ((P ++ [x]).length : Int).toNat ((P.length : Int) + 3).toNat (P ++ [x]) [y, zz] R2 (by simp [hP]) (Int.toNat_natCast _) (by rw [List.length_append]; simp only [List.length_cons, List.length_nil]; omega)
                have hv := unbytes_is (s.extract ((P ++ [x]).length : Int).toNat ((P.length : Int) + 3).toNat) (by rw [size_in hx2]; simp)
                rw [hx2] at hv
                refine Ev.bind hv ?_
                have ev : wrap64 (val8 [y, zz] 0) = ((y.toNat * 256 + zz.toNat : Nat) : Int) := by
                  simp only [val8, List.foldl_cons, List.foldl_nil]
                  rw [w64' (by omega) (by omega)]
                  omega
                rw [ev, c3]
                have hP3 : s.data.toList = (P ++ [x, y, zz]) ++ R2 := by simp [hP]
                have := arm 3 (y.toNat * 256 + zz.toNat) (P ++ [x, y, zz]) R2 hP3 (two_le y zz) (fun h => absurd h (by decide)) (by decide) (by
                  simp only [lit]
                  rw [if_neg n0, if_neg n1, if_neg n2, if_pos e3])
                rw [show ((P ++ [x, y, zz]).length : Int) = (P.length : Int) + 3 by simp] at this
                exact this
            · refine Ev.ite_false (by omega) ?_
              have n3 : ¬ x = 3 := fun e => c3 (by rw [e]; rfl)
              have : told s acc (lits (m + 1) (x :: R)) = ([], 4) := by
                simp only [lits, lit]
                rw [if_neg n0, if_neg n1, if_neg n2, if_neg n3]
                rfl
              rw [this]
              exact Ev.now _
theorem b8_nat (x : UInt8) : b8 (x.toNat : Int) = x := by unfold b8; rw [Int.toNat_natCast]; exact UInt8.ofNat_toNat
theorem b8_to (n : Int) (h0 : 0 ≤ n) (h1 : n < 256) : ((b8 n).toNat : Int) = n := by
  unfold b8
  rw [UInt8.toNat_ofNat']
  omega
theorem bytesOf_b8 (t : List UInt8) : (bytesOf ⟨t.toArray⟩).map b8 = t := by
  have := congrArg (fun s => s.data.toList) (nums_bytes ⟨t.toArray⟩)
  simpa [nums_data] using this
theorem wrapU (x : Int) (h0 : 0 ≤ x) (h1 : x < 18446744073709551616) : IntKind.u64.wrap (wrap64 x) = x := by
  rw [IntKind.wrap_u64]
  unfold wrap64
  omega
theorem be8_val (t : List UInt8) (h : t.length = 8) : (be8 (IntKind.u64.wrap (wrap64 (val8 t 0)))).map b8 = t := by
  match t, h with
  | [a, b, c, d, e, f, g, i], _ =>
    have ha := a.toNat_lt
    have hb := b.toNat_lt
    have hc := c.toNat_lt
    have hd := d.toNat_lt
    have he := e.toNat_lt
    have hf := f.toNat_lt
    have hg := g.toNat_lt
    have hi := i.toNat_lt
    have hv := val8_lim [a, b, c, d, e, f, g, i] (by simp)
    have hw : IntKind.u64.wrap (wrap64 (val8 [a, b, c, d, e, f, g, i] 0)) = val8 [a, b, c, d, e, f, g, i] 0 := wrapU _ hv.1 hv.2
    rw [hw]
    have s : ∀ (x i : Int) (n : Nat) (d : Int), i.toNat = n → n ≤ 64 → (2 : Int) ^ n = d → shr .u64 x i = x / d := by
      intro x i n d h1 h2 h3
      unfold shr
      rw [h1, show IntKind.u64.bits = 64 from rfl, Nat.min_eq_left h2, h3]
    simp only [be8, List.map_cons, List.map_nil, val8, List.foldl_cons, List.foldl_nil]
    rw [s _ 56 56 72057594037927936 rfl (by decide) rfl, s _ 48 48 281474976710656 rfl (by decide) rfl, s _ 40 40 1099511627776 rfl (by decide) rfl, s _ 32 32 4294967296 rfl (by decide) rfl, s _ 24 24 16777216 rfl (by decide) rfl, s _ 16 16 65536 rfl (by decide) rfl, s _ 8 8 256 rfl (by decide) rfl, s _ 0 0 1 rfl (by decide) rfl]
    generalize hA : (a.toNat : Int) = A
    generalize hB : (b.toNat : Int) = B
    generalize hC : (c.toNat : Int) = C
    generalize hD : (d.toNat : Int) = D
    generalize hE : (e.toNat : Int) = E
    generalize hF : (f.toNat : Int) = F
    generalize hG : (g.toNat : Int) = G
    generalize hI : (i.toNat : Int) = I
    clear hv hw s
    have e1 : (((((((0 * 256 + A) * 256 + B) * 256 + C) * 256 + D) * 256 + E) * 256 + F) * 256 + G) * 256 + I = A * 72057594037927936 + B * 281474976710656 + C * 1099511627776 + D * 4294967296 + E * 16777216 + F * 65536 + G * 256 + I := by omega
    rw [e1]
    generalize hX : A * 72057594037927936 + B * 281474976710656 + C * 1099511627776 + D * 4294967296 + E * 16777216 + F * 65536 + G * 256 + I = X
    have x1 : X / 72057594037927936 % 256 = A := by omega
    have x2 : X / 281474976710656 % 256 = B := by omega
    have x3 : X / 1099511627776 % 256 = C := by omega
    have x4 : X / 4294967296 % 256 = D := by omega
    have x5 : X / 16777216 % 256 = E := by omega
    have x6 : X / 65536 % 256 = F := by omega
    have x7 : X / 256 % 256 = G := by omega
    have x8 : X / 1 % 256 = I := by omega
    rw [x1, x2, x3, x4, x5, x6, x7, x8, ← hA, ← hB, ← hC, ← hD, ← hE, ← hF, ← hG, ← hI]
    simp only [b8_nat]
/-- What the model reads out of bytes is clean. -/
def CL (v : S29) : Prop := ∃ x t, v = lv x t ∧ (x = 2 → t.length = 8)
theorem lit_cl {b r : List UInt8} {v : S29} (h : lit b = some (v, r)) : CL v := by
  have lj_cl : ∀ (x n : Nat) (R : List UInt8), (x = 2 → n = 8) → lj x n R = some (v, r) → CL v := by
    intro x n R hx h
    unfold lj at h
    split at h
    · cases h
    · next c =>
      cases h
      exact ⟨x, R.take n, rfl, fun e => by rw [List.length_take]; have := hx e; omega⟩
  cases b with
  | nil => cases h
  | cons k b =>
    simp only [lit] at h
    split at h
    · exact lj_cl _ _ _ (by decide) h
    · split at h
      · exact lj_cl _ _ _ (by decide) h
      · split at h
        · exact lj_cl _ _ _ (fun _ => rfl) h
        · split at h
          · split at h
            · exact lj_cl _ _ _ (fun e => absurd e (by decide)) h
            · cases h
          · cases h
theorem item_lit {b : List UInt8} {p : S29 × List UInt8} (h : item b = some p) : lit b = some p := by
  cases b with
  | nil => cases h
  | cons k b =>
    simp only [item] at h
    simp only [lit]
    split at h
    · next c => rw [if_pos c, ← h]; simp [lj, lv]
    · next c0 =>
      rw [if_neg c0]
      split at h
      · next c =>
        rw [if_pos c]
        cases b with
        | nil => cases h
        | cons x b =>
          simp only at h
          split at h
          · next cx =>
            cases h
            simp only [lj]
            rw [if_neg (by simp)]
            have e : lv 1 [x] = ⟨1, (x.toNat : Int), E0⟩ := by
              show (⟨1, if [x] = [1] then 1 else 0, E0⟩ : S29) = _
              by_cases e : x = 1
              · subst e; rfl
              · rw [if_neg (by simpa using e)]
                have : x.toNat ≠ 1 := fun e2 => e ((u8_is x 1 (by decide)).1 (by omega))
                have : x.toNat = 0 := by omega
                rw [this]
                rfl
            exact congrArg (fun v => some (v, b)) e
          · cases h
      · next c1 =>
        rw [if_neg c1]
        split at h
        · next c =>
          rw [if_pos c]
          split at h
          · cases h
          · next c8 =>
            cases h
            simp only [lj]
            rw [if_neg c8]
            simp [lv]
        · next c2 =>
          rw [if_neg c2]
          split at h
          · next c =>
            rw [if_pos c]
            match b, h with
            | x :: y :: b, h =>
              simp only at h ⊢
              split at h
              · cases h
              · next cn =>
                cases h
                simp only [lj]
                rw [if_neg (by omega)]
                simp [lv]
            | [], h => cases h
            | [_], h => cases h
          · cases h
theorem items_lits : ∀ (n : Nat) {b : List UInt8} {q : List S29 × List UInt8}, items n b = some q → lits n b = some q
  | 0, b, q, h => h
  | n + 1, b, q, h => by
    simp only [items] at h
    obtain ⟨p, hp, h⟩ := Option.bind_eq_some_iff.1 h
    obtain ⟨q', hq, h⟩ := Option.map_eq_some_iff.1 h
    simp only [lits, item_lit hp, Option.bind_some, items_lits n hq, Option.map_some, h]
theorem lits_cl : ∀ (n : Nat) {b : List UInt8} {q : List S29 × List UInt8}, lits n b = some q → q.1.length = n ∧ ∀ v ∈ q.1, CL v
  | 0, b, q, h => by cases h; simp
  | n + 1, b, q, h => by
    simp only [lits] at h
    obtain ⟨p, hp, h⟩ := Option.bind_eq_some_iff.1 h
    obtain ⟨q', hq, rfl⟩ := Option.map_eq_some_iff.1 h
    obtain ⟨h1, h2⟩ := lits_cl n hq
    refine ⟨by simp [h1], fun v hv => ?_⟩
    rcases List.mem_cons.1 hv with rfl | hv
    · exact lit_cl (r := p.2) hp
    · exact h2 v hv
/-- Written and read again, a clean value is itself. -/
theorem enc_item {v : S29} (h : CL v) (hn : ¬ (v.f0 = 3 ∧ 1000 < v.f2.size)) (r : List UInt8) : item ((enc v).map b8 ++ r) = some (v, r) := by
  obtain ⟨x, t, rfl, h8⟩ := h
  by_cases c1 : x = 1
  · subst c1
    by_cases e : t = [1]
    · subst e; rfl
    · have : lv 1 t = ⟨1, 0, E0⟩ := by simp [lv, e]
      rw [this]; rfl
  · by_cases c2 : x = 2
    · subst c2
      have e : lv 2 t = ⟨2, wrap64 (val8 t 0), E0⟩ := rfl
      rw [e]
      have e2 : (enc ⟨2, wrap64 (val8 t 0), E0⟩).map b8 ++ r = 2 :: (t ++ r) := by
        unfold enc
        rw [if_neg (show ¬ ((2 : Int) = 1) by decide), if_pos rfl, List.map_cons, be8_val t (h8 rfl)]
        rfl
      rw [e2]
      have l8 := h8 rfl
      simp only [item]
      rw [if_neg (by decide), if_neg (by decide), if_pos trivial, if_neg (by rw [List.length_append]; omega)]
      rw [List.take_append_of_le_length (by omega), List.take_of_length_le (by omega), List.drop_append_of_le_length (by omega), List.drop_of_length_le (by omega)]
      rfl
    · by_cases c3 : x = 3
      · subst c3
        have e : lv 3 t = ⟨3, 0, ⟨t.toArray⟩⟩ := rfl
        rw [e] at hn ⊢
        have zt : (⟨t.toArray⟩ : ByteArray).size = t.length := size_in rfl
        have l1 : t.length ≤ 1000 := by
          rw [zt] at hn
          exact Nat.not_lt.1 (fun k => hn ⟨rfl, k⟩)
        have e2 : (enc ⟨3, 0, ⟨t.toArray⟩⟩).map b8 ++ r = 3 :: b8 ((t.length : Int) / 256 % 256) :: b8 ((t.length : Int) % 256) :: (t ++ r) := by
          unfold enc
          rw [if_neg (show ¬ ((3 : Int) = 1) by decide), if_neg (show ¬ ((3 : Int) = 2) by decide), if_pos rfl]
          simp only [List.map_cons, zt]
          rw [bytesOf_b8]
          rfl
        rw [e2]
        have n1 := b8_to ((t.length : Int) / 256 % 256) (by omega) (by omega)
        have n2 := b8_to ((t.length : Int) % 256) (by omega) (by omega)
        have hN : (b8 ((t.length : Int) / 256 % 256)).toNat * 256 + (b8 ((t.length : Int) % 256)).toNat = t.length := by omega
        simp only [item]
        rw [if_neg (by decide), if_neg (by decide), if_neg (by decide), if_pos trivial, hN, if_neg (by rw [List.length_append]; omega)]
        rw [List.take_append_of_le_length (by omega), List.take_of_length_le (by omega), List.drop_append_of_le_length (by omega), List.drop_of_length_le (by omega)]
        rfl
      · have : lv x t = ⟨0, 0, E0⟩ := by unfold lv; rw [if_neg c1, if_neg c2, if_neg c3]
        rw [this]; rfl
theorem enc_items : ∀ (l : List S29) {e : List Int}, (∀ v ∈ l, CL v) → packL l = some e → items l.length (e.map b8) = some (l, [])
  | [], e, h, hp => by cases hp; rfl
  | v :: l, e, h, hp => by
    simp only [packL] at hp
    split at hp
    · cases hp
    · next hn =>
      obtain ⟨e', he, rfl⟩ := Option.map_eq_some_iff.1 hp
      have ih := enc_items l (fun v hv => h v (List.mem_cons_of_mem _ hv)) he
      simp only [List.length_cons, items, List.map_append]
      rw [enc_item (h v (List.mem_cons_self ..)) hn]
      simp only [Option.bind_some, ih, Option.map_some]
/-- Read and written again, bytes are themselves. -/
theorem item_enc {b r : List UInt8} {v : S29} (h : item b = some (v, r)) : ¬ (v.f0 = 3 ∧ 1000 < v.f2.size) ∧ b = (enc v).map b8 ++ r := by
  cases b with
  | nil => cases h
  | cons k b =>
    simp only [item] at h
    split at h
    · next c => cases h; subst c; exact ⟨by simp, rfl⟩
    · split at h
      · next c =>
        subst c
        cases b with
        | nil => cases h
        | cons x b =>
          simp only at h
          split at h
          · next cx =>
            cases h
            refine ⟨by simp, ?_⟩
            have : x.toNat = 0 ∨ x.toNat = 1 := by omega
            rcases this with e | e
            · obtain rfl : x = 0 := (u8_is x 0 (by decide)).1 (by omega)
              rfl
            · obtain rfl : x = 1 := (u8_is x 1 (by decide)).1 (by omega)
              rfl
          · cases h
      · split at h
        · next c =>
          subst c
          split at h
          · cases h
          · next c8 =>
            cases h
            refine ⟨by simp, ?_⟩
            unfold enc
            rw [if_neg (show ¬ ((2 : Int) = 1) by decide), if_pos rfl, List.map_cons, be8_val _ (by rw [List.length_take]; omega), List.cons_append, List.take_append_drop]
            rfl
        · split at h
          · next c =>
            subst c
            match b, h with
            | x :: y :: b, h =>
              simp only at h
              split at h
              · cases h
              · next cn =>
                cases h
                have hx := x.toNat_lt
                have hy := y.toNat_lt
                have zt : (⟨(b.take (x.toNat * 256 + y.toNat)).toArray⟩ : ByteArray).size = x.toNat * 256 + y.toNat := by rw [size_in (X := b.take (x.toNat * 256 + y.toNat)) rfl, List.length_take]; omega
                refine ⟨by rw [zt]; omega, ?_⟩
                unfold enc
                rw [if_neg (show ¬ ((3 : Int) = 1) by decide), if_neg (show ¬ ((3 : Int) = 2) by decide), if_pos rfl]
                simp only [List.map_cons, zt]
                rw [bytesOf_b8, List.cons_append, List.cons_append, List.cons_append, List.take_append_drop]
                have e1 : ((x.toNat * 256 + y.toNat : Nat) : Int) / 256 % 256 = (x.toNat : Int) := by omega
                have e2 : ((x.toNat * 256 + y.toNat : Nat) : Int) % 256 = (y.toNat : Int) := by omega
                rw [e1, e2, b8_nat, b8_nat]
                rfl
            | [], h => cases h
            | [_], h => cases h
          · cases h
theorem items_enc : ∀ (n : Nat) {b r : List UInt8} {l : List S29}, items n b = some (l, r) → ∃ e, packL l = some e ∧ b = e.map b8 ++ r
  | 0, b, r, l, h => by cases h; exact ⟨[], rfl, rfl⟩
  | n + 1, b, r, l, h => by
    simp only [items] at h
    obtain ⟨⟨v, b'⟩, hp, h⟩ := Option.bind_eq_some_iff.1 h
    obtain ⟨⟨l', r'⟩, hq, h⟩ := Option.map_eq_some_iff.1 h
    cases h
    obtain ⟨h1, h2⟩ := item_enc hp
    obtain ⟨e, he, h3⟩ := items_enc n hq
    refine ⟨enc v ++ e, ?_, ?_⟩
    · simp only [packL]
      rw [if_neg h1, he]
      rfl
    · have h3' : b' = e.map b8 ++ r' := h3
      rw [h2, h3', List.map_append, List.append_assoc]
theorem told_said {s : ByteArray} {n0 : UInt8} {R : List UInt8} (h0 : s.data.toList = n0 :: R) : told s [] (lits n0.toNat R) = said [] (unpS s.data.toList) := by
  have hn := n0.toNat_lt
  rw [h0]
  simp only [unpS]
  have big : ∀ q, lits n0.toNat R = some q → fin s q.1 = (q.1, 0) ∨ fin s q.1 = ([], 4) := by
    intro q _
    unfold fin
    split
    · split
      · exact .inl rfl
      · exact .inr rfl
    · exact .inr rfl
  have whole : ∀ q, lits n0.toNat R = some q → (packS q.1).2 = 0 → (packS q.1).1.toList = s.toList → n0.toNat ≤ 64 ∧ unp n0.toNat R = some q.1 := by
    intro q hq h1 h2
    obtain ⟨hl, hc⟩ := lits_cl _ hq
    unfold packS at h1 h2
    cases he : packL q.1 with
    | none => rw [he] at h1; exact absurd (show (8 : Int) = 0 from h1) (by decide)
    | some e =>
      rw [he] at h1 h2
      simp only at h1 h2
      by_cases c : 64 < q.1.length
      · rw [if_pos c] at h1; exact absurd (show (8 : Int) = 0 from h1) (by decide)
      · rw [if_neg c] at h2
        rw [Lib.toList_data, Lib.toList_data, h0, nums_data, List.map_cons] at h2
        have hR : e.map b8 = R := (List.cons.inj h2).2
        have := enc_items q.1 hc he
        rw [hl, hR] at this
        refine ⟨by omega, ?_⟩
        unfold unp
        rw [this]
  by_cases c : 64 < n0.toNat
  · rw [if_pos c]
    cases hq : lits n0.toNat R with
    | none => rfl
    | some q =>
      simp only [told, List.nil_append, said]
      unfold fin
      by_cases d1 : (packS q.1).2 = 0
      · rw [if_pos d1]
        by_cases d2 : (packS q.1).1.toList = s.toList
        · have := (whole q hq d1 d2).1
          omega
        · rw [if_neg d2]
      · rw [if_neg d1]
  · rw [if_neg c]
    cases hu : unp n0.toNat R with
    | some l =>
      have hi : items n0.toNat R = some (l, []) := by
        unfold unp at hu
        split at hu
        · next hh => cases hu; exact hh
        · cases hu
      have hl := items_lits _ hi
      obtain ⟨hlen, _⟩ := lits_cl _ hl
      obtain ⟨e, he, hR⟩ := items_enc _ hi
      rw [hl]
      have hp : packS l = (strOfNums ((l.length : Int) % 256 :: e), 0) := by
        unfold packS
        rw [he]
        simp only
        rw [if_neg (by simp only at hlen; omega)]
      have hs : strOfNums ((l.length : Int) % 256 :: e) = s := by
        apply data_inj
        rw [nums_data, h0, List.map_cons, hR, List.append_nil]
        congr 1
        simp only at hlen
        rw [hlen, show ((n0.toNat : Int) % 256) = (n0.toNat : Int) by omega, b8_nat]
      simp only [told, List.nil_append, said]
      unfold fin
      rw [hp]
      simp only
      rw [if_pos trivial, hs, if_pos rfl]
    | none =>
      cases hq : lits n0.toNat R with
      | none => rfl
      | some q =>
        simp only [told, List.nil_append, said]
        unfold fin
        by_cases d1 : (packS q.1).2 = 0
        · rw [if_pos d1]
          by_cases d2 : (packS q.1).1.toList = s.toList
          · have := (whole q hq d1 d2).2
            rw [hu] at this
            cases this
          · rw [if_neg d2]
        · rw [if_neg d1]
theorem rUnpack_is {s : ByteArray} (hs : s.size ≤ 140737488351232) : Ev (fun k => relstoreref_Unpack.f k s) (said [] (unpS s.data.toList)) := by
  unfold relstoreref_Unpack.f
  cases h : s.data.toList with
  | nil =>
    refine Ev.ite_true (toList_nil.2 h) ?_
    exact Ev.now _
  | cons x R =>
    refine Ev.ite_false (fun e => by have := toList_nil.1 e; rw [h] at this; cases this) ?_
    have := runpack_l0 hs h x.toNat [] [x] R (by simp) (by rw [h]; rfl)
    rw [told_said h, h] at this
    exact this
theorem items_length : ∀ (n : Nat) {b : List UInt8} {q : List S29 × List UInt8}, items n b = some q → q.1.length = n := fun n _ _ h => (lits_cl n (items_lits n h)).1
theorem said_length (b : List UInt8) : (said [] (unpS b)).1.length ≤ 64 := by
  cases b with
  | nil => decide
  | cons x r =>
    simp only [unpS]
    by_cases c : 64 < x.toNat
    · rw [if_pos c]; decide
    · rw [if_neg c]
      unfold unp
      split
      · next hh =>
        have := items_length _ hh
        simp only [said, List.nil_append]
        simp only at this
        omega
      · decide
theorem spoil_l0 {n : Nat} (hn : n ≤ 1000) : ∀ (j : Nat) (i : Nat) (l : List S29), l.length = n → i + j = n → Ev (fun k => relstorelaw_spoil.l0 k l (n : Int) (i : Int)) ()
  | 0, i, l, hl, hij => by
    refine Ev.step (f := fun _ => some ()) (fun k => ?_) (Ev.now _)
    simp only [relstorelaw_spoil.l0]
    rw [if_neg (by omega), if_pos (by simp; omega)]
  | j + 1, i, l, hl, hij => by
    have ih := spoil_l0 hn j (i + 1) (l.set (i : Int).toNat ⟨9, 0, ⟨#[]⟩⟩) (by rw [List.length_set]; exact hl) (by omega)
    refine Ev.step (f := fun k => relstorelaw_spoil.l0 k (l.set (i : Int).toNat ⟨9, 0, ⟨#[]⟩⟩) (n : Int) ((i + 1 : Nat) : Int)) (fun k => ?_) ih
    simp only [relstorelaw_spoil.l0]
    rw [if_pos (by omega), if_pos (by omega), if_pos (by omega), w64 (by omega) (by omega)]
    rfl
theorem spoil_is (l : List S29) (h : l.length ≤ 1000) : Ev (fun k => relstorelaw_spoil.f k l) () := spoil_l0 h l.length 0 l rfl (by omega)
theorem ValueRows (l : List S29) (s : ByteArray) (hl : l.length * 32 ≤ 140737488351232) (hs : s.size ≤ 140737488351232) : ∃ k, relstorelaw_ValueRows.f k l s = some true := by
  refine Ev.rounds (r := true) ?_
  unfold relstorelaw_ValueRows.f
  refine Ev.some_bind (lent_is hl) (Ev.ite_true (by omega) (Ev.ite_true (by rw [List.length_append]; omega) ?_))
  rw [take_lent]
  have hU := said_length s.data.toList
  refine Ev.bind (Pack_is hl) (Ev.bind (rPack_is hl) (Ev.bind (Unpack_is s) (Ev.bind (rUnpack_is hs) ?_)))
  refine Ev.ite_true rfl (Ev.some_bind rfl (Ev.ite_true rfl (Ev.bind (back_lent hl) (Ev.ite_true rfl (Ev.bind (sames_self (by omega)) (Ev.ite_true rfl (Ev.some_bind rfl ?_)))))))
  have e : ((said [] (unpS s.data.toList)).2 != (said [] (unpS s.data.toList)).2) = false := by simp
  rw [e]
  refine Ev.step (f := fun k => (relstorelaw_spoil.f k (said [] (unpS s.data.toList)).1).bind fun _ => ((value_Unpack.f k s).bind fun bt329 => ((relstorelaw_sameValues.f k bt329.1 (said [] (unpS s.data.toList)).1).bind fun t333 => (some t333)))) (fun k => ?_) ?_
  · simp [relstorelaw_ValueRows.j0]
  exact Ev.bind (spoil_is _ (by omega)) (Ev.bind (Unpack_is s) (Ev.bind (sames_self (by omega)) (Ev.now true)))
end Go.Proofs.Ythaoaaboempajaa.Pure
