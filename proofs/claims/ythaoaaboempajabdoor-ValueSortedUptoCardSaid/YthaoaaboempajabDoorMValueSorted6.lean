/- Lines of the texts that the claim ValueSorted rests on, bundled: part 6; no conditions but those that each row names. -/
import Derived.Test.YthaoaaboempajabDoorMValueSorted5
namespace Go.Proofs.YthaoaaboempajabDoor.Sorted
open Go.RowKit Go.Proofs.YthaoaaboempajabDoor.QValueSorted Go.Proofs.YthaoaaboempajabDoorW.PrintWords Go.Proofs.YthaoaaboempajabDoorW.PrintLast Go.Proofs.YthaoaaboempajabDoorE
set_option linter.unusedVariables false
def b8 (n : Int) : UInt8 := UInt8.ofNat n.toNat
theorem data_inj {a b : ByteArray} (h : a.data.toList = b.data.toList) : a = b := by
  cases a; cases b
  congr 1
  exact Array.ext' h
theorem nums_data (xs : List Int) : (strOfNums xs).data.toList = xs.map b8 := rfl
theorem nums_append (xs ys : List Int) : strOfNums xs ++ strOfNums ys = strOfNums (xs ++ ys) := by
  apply data_inj
  rw [ByteArray.data_append, Array.toList_append, nums_data, nums_data, nums_data, List.map_append]
theorem nums_bytes (s : ByteArray) : strOfNums (bytesOf s) = s := by
  apply data_inj
  rw [nums_data, bytesOf, List.map_map]
  conv => rhs; rw [← List.map_id s.data.toList]
  apply List.map_congr_left
  intro x _
  show UInt8.ofNat ((x.toNat : Int)).toNat = x
  rw [Int.toNat_natCast]
  exact UInt8.ofNat_toNat
def be8 (x : Int) : List Int := [shr .u64 x 56 % 256, shr .u64 x 48 % 256, shr .u64 x 40 % 256, shr .u64 x 32 % 256, shr .u64 x 24 % 256, shr .u64 x 16 % 256, shr .u64 x 8 % 256, shr .u64 x 0 % 256]
theorem long_is (l : List Int) (x : Int) (h : l.length < 140737488355320) : Ev (fun k => value_long.f k l x) (l ++ be8 x) := by
  refine ⟨9, fun k hk => ?_⟩
  obtain ⟨k, rfl⟩ : ∃ m, k = m + 9 := ⟨k - 9, by omega⟩
  have step : ∀ (k : Nat) (l : List Int) (i j : Int), 0 ≤ i → wrap64 (i - 8) = j → l.length < 140737488355328 → value_long.l0 (k + 1) l x i = value_long.l0 k (l ++ [(shr .u64 x i) % 256]) x j := by
    intro k l i j hi hj hl
    simp only [value_long.l0]
    rw [if_pos hi, if_pos hi, if_pos hl, hj]
  show value_long.l0 (k + 8 + 1) l x 56 = _
  rw [step (k + 8) _ 56 48 (by decide) (by unfold wrap64; omega) (by omega)]
  rw [step (k + 7) _ 48 40 (by decide) (by unfold wrap64; omega) (by simp; omega)]
  rw [step (k + 6) _ 40 32 (by decide) (by unfold wrap64; omega) (by simp; omega)]
  rw [step (k + 5) _ 32 24 (by decide) (by unfold wrap64; omega) (by simp; omega)]
  rw [step (k + 4) _ 24 16 (by decide) (by unfold wrap64; omega) (by simp; omega)]
  rw [step (k + 3) _ 16 8 (by decide) (by unfold wrap64; omega) (by simp; omega)]
  rw [step (k + 2) _ 8 0 (by decide) (by unfold wrap64; omega) (by simp; omega)]
  rw [step (k + 1) _ 0 (-8) (by decide) (by unfold wrap64; omega) (by simp; omega)]
  simp only [value_long.l0]
  rw [if_neg (by decide)]
  simp [be8]
theorem clean_is (v : S38) : value_Clean.f v.f0 v.f1 v.f2 = some (if v.f0 = 1 then (1, if v.f1 = 0 then 0 else 1, ⟨#[]⟩) else if v.f0 = 2 then (2, v.f1, ⟨#[]⟩) else if v.f0 = 3 then (3, 0, v.f2) else (0, 0, ⟨#[]⟩)) := by
  unfold value_Clean.f value_Flag.f value_Of.f value_Str.f value_None.f
  by_cases h1 : v.f0 = 1
  · rw [if_pos h1, if_pos h1]
    by_cases h : v.f1 = 0
    · have : (v.f1 != 0) = false := by simp [h]
      rw [this, if_pos h]; rfl
    · have : (v.f1 != 0) = true := by simp [h]
      rw [this, if_neg h]; rfl
  · rw [if_neg h1, if_neg h1]
    by_cases h2 : v.f0 = 2
    · rw [if_pos h2, if_pos h2]; rfl
    · rw [if_neg h2, if_neg h2]
      by_cases h3 : v.f0 = 3
      · rw [if_pos h3, if_pos h3]; rfl
      · rw [if_neg h3, if_neg h3]; rfl
theorem wrap64u (n : Int) : 0 ≤ IntKind.u64.wrap n ∧ IntKind.u64.wrap n < 18446744073709551616 := by rw [IntKind.wrap_u64]; omega
abbrev E0 : ByteArray := ⟨#[]⟩
theorem fold_step (n : Int) (b : UInt8) (h0 : 0 ≤ n) (h1 : n < 72057594037927936) : Go.bits .or .u64 (IntKind.u64.wrap (n * 256)) (IntKind.u64.wrap (b.toNat : Int)) = n * 256 + (b.toNat : Int) := by
  have hb : b.toNat < 256 := b.toNat_lt
  have e1 : IntKind.u64.wrap (n * 256) = ((n.toNat * 256 : Nat) : Int) := by rw [IntKind.wrap_u64]; omega
  have e2 : IntKind.u64.wrap (b.toNat : Int) = (b.toNat : Int) := by rw [IntKind.wrap_u64]; omega
  rw [e1, e2, bits_or_u64_nat _ _ (by omega) (by omega)]
  have : n.toNat * 256 ||| b.toNat = n.toNat * 256 + b.toNat := by
    have := Nat.two_pow_add_eq_or_of_lt (i := 8) hb n.toNat
    rw [Nat.mul_comm]
    exact this.symm
  rw [this]
  omega
def val8 (l : List UInt8) (n : Int) : Int := l.foldl (fun n b => n * 256 + (b.toNat : Int)) n
theorem val8_range : ∀ (l : List UInt8) (n m : Int), 0 ≤ n → n < m → 0 ≤ val8 l n ∧ val8 l n < m * 256 ^ l.length
  | [], n, m, h0, h1 => by simp [val8]; omega
  | b :: l, n, m, h0, h1 => by
    have hb : b.toNat < 256 := b.toNat_lt
    have := val8_range l (n * 256 + (b.toNat : Int)) (m * 256) (by omega) (by omega)
    rw [List.length_cons, Int.pow_succ, Int.mul_comm (256 ^ l.length) 256, ← Int.mul_assoc]
    exact this
theorem fold_is : ∀ (l : List UInt8) (n m : Int), 0 ≤ n → n < m → m * 256 ^ l.length ≤ 18446744073709551616 → value_scanner_long.fold l n = val8 l n
  | [], n, m, h0, h1, h2 => rfl
  | b :: l, n, m, h0, h1, h2 => by
    have hb : b.toNat < 256 := b.toNat_lt
    have hp : (1 : Int) ≤ 256 ^ l.length := Int.pow_pos (by decide)
    rw [List.length_cons, Int.pow_succ, Int.mul_comm (256 ^ l.length) 256, ← Int.mul_assoc] at h2
    have hm : m * 256 ≤ m * 256 * 256 ^ l.length := by
      have := Int.mul_le_mul_of_nonneg_left hp (show 0 ≤ m * 256 by omega)
      omega
    have := fold_is l (n * 256 + (b.toNat : Int)) (m * 256) (by omega) (by omega) h2
    unfold value_scanner_long.fold val8 at *
    rw [List.foldl_cons, List.foldl_cons, fold_step n b h0 (by omega)]
    exact this
theorem take_is (s : ByteArray) (c : Bool) (n : Int) (h0 : 0 ≤ n) (h1 : n ≤ (s.size : Int)) : ∃ t r, value_scanner_take.f s c n = some (t, r, c) ∧ t.data.toList = s.data.toList.take n.toNat ∧ r.data.toList = s.data.toList.drop n.toNat := by
  refine ⟨s.extract 0 n.toNat, s.extract n.toNat s.size, ?_, ?_, ?_⟩
  · unfold value_scanner_take.f
    rw [if_neg (by omega), if_neg (by omega), if_pos h0, if_pos h1]
  · rw [ByteArray.data_extract, Array.toList_extract, List.extract_eq_take_drop]
    simp
  · rw [ByteArray.data_extract, Array.toList_extract, List.extract_eq_take_drop]
    have : s.data.toList.length = s.size := (size_in rfl).symm
    rw [List.take_of_length_le (by rw [List.length_drop]; omega)]
theorem take_out (s : ByteArray) (c : Bool) (n : Int) (h : n < 0 ∨ (s.size : Int) < n) : value_scanner_take.f s c n = some (E0, E0, true) := by
  unfold value_scanner_take.f
  by_cases h0 : n < 0
  · rw [if_pos h0]
  · rw [if_neg h0, if_pos (by omega)]
theorem toList_nil {t : ByteArray} : t.toList = ([] : List UInt8) ↔ t.data.toList = [] := by rw [Lib.toList_data]
theorem byte_is (s : ByteArray) (c : Bool) (x : UInt8) (r : List UInt8) (h : s.data.toList = x :: r) : ∃ s', s'.data.toList = r ∧ value_scanner_byte.f s c = some ((x.toNat : Int), s', c) := by
  have z := size_in h
  simp at z
  obtain ⟨t, r', e, ht, hr⟩ := take_is s c 1 (by decide) (by omega)
  rw [h] at ht hr
  refine ⟨r', hr, ?_⟩
  unfold value_scanner_byte.f
  rw [e]
  have ht' : t.data.toList = [x] := ht
  have zt := size_in ht'
  simp only [Option.bind_some]
  rw [if_neg (by rw [toList_nil, ht']; simp), if_pos (by simp at zt; omega)]
  have hb : bt t 0 = (x.toNat : Int) := bt_in (X := []) (Y := []) (x := x) ht'
  have hx : x.toNat < 256 := x.toNat_lt
  rw [hb, w64' (by omega) (by omega)]
theorem byte_out (s : ByteArray) (c : Bool) (h : s.data.toList = []) : value_scanner_byte.f s c = some (0, E0, true) := by
  have z : s.size = 0 := by rw [size_in h]; rfl
  unfold value_scanner_byte.f
  rw [take_out s c 1 (by omega)]
  simp only [Option.bind_some]
  rw [if_pos (toList_nil.2 rfl)]
theorem long_is' (s : ByteArray) (c : Bool) (h : 8 ≤ s.data.toList.length) : ∃ s', s'.data.toList = s.data.toList.drop 8 ∧ value_scanner_long.f s c = some (val8 (s.data.toList.take 8) 0, s', c) := by
  have z : s.size = s.data.toList.length := size_in rfl
  obtain ⟨t, r', e, ht, hr⟩ := take_is s c 8 (by decide) (by omega)
  refine ⟨r', hr, ?_⟩
  unfold value_scanner_long.f
  rw [e]
  simp only [Option.bind_some]
  have ht' : t.data.toList = s.data.toList.take 8 := ht
  rw [ht', fold_is _ 0 1 (by decide) (by decide) (by rw [List.length_take, Nat.min_eq_left h]; decide)]
theorem long_out (s : ByteArray) (c : Bool) (h : s.data.toList.length < 8) : value_scanner_long.f s c = some (0, E0, true) := by
  have z : s.size = s.data.toList.length := size_in rfl
  unfold value_scanner_long.f
  rw [take_out s c 8 (by omega)]
  rfl
theorem val8_lim (t : List UInt8) (h : t.length ≤ 8) : 0 ≤ val8 t 0 ∧ val8 t 0 < 18446744073709551616 := by
  have h1 := val8_range t 0 1 (by decide) (by decide)
  have : ∀ n, n ≤ 8 → (1 : Int) * 256 ^ n ≤ 18446744073709551616 := by
    intro n hn
    have : n = 0 ∨ n = 1 ∨ n = 2 ∨ n = 3 ∨ n = 4 ∨ n = 5 ∨ n = 6 ∨ n = 7 ∨ n = 8 := by omega
    rcases this with rfl | rfl | rfl | rfl | rfl | rfl | rfl | rfl | rfl <;> decide
  have := this _ h
  omega
theorem b8_nat (x : UInt8) : b8 (x.toNat : Int) = x := by unfold b8; rw [Int.toNat_natCast]; exact UInt8.ofNat_toNat
theorem b8_to (n : Int) (h0 : 0 ≤ n) (h1 : n < 256) : ((b8 n).toNat : Int) = n := by
  unfold b8
  rw [UInt8.toNat_ofNat']
  omega
theorem bytesOf_b8 (t : List UInt8) : (bytesOf ⟨t.toArray⟩).map b8 = t := by
  have := congrArg (fun s => s.data.toList) (nums_bytes ⟨t.toArray⟩)
  simpa [nums_data] using this
theorem wrapU (x : Int) (h0 : 0 ≤ x) (h1 : x < 18446744073709551616) : IntKind.u64.wrap (wrap64 x) = x := by
  rw [IntKind.wrap_u64]
  unfold wrap64
  omega
theorem be8_val (t : List UInt8) (h : t.length = 8) : (be8 (IntKind.u64.wrap (wrap64 (val8 t 0)))).map b8 = t := by
  match t, h with
  | [a, b, c, d, e, f, g, i], _ =>
    have ha := a.toNat_lt
    have hb := b.toNat_lt
    have hc := c.toNat_lt
    have hd := d.toNat_lt
    have he := e.toNat_lt
    have hf := f.toNat_lt
    have hg := g.toNat_lt
    have hi := i.toNat_lt
    have hv := val8_lim [a, b, c, d, e, f, g, i] (by simp)
    have hw : IntKind.u64.wrap (wrap64 (val8 [a, b, c, d, e, f, g, i] 0)) = val8 [a, b, c, d, e, f, g, i] 0 := wrapU _ hv.1 hv.2
    rw [hw]
    have s : ∀ (x i : Int) (n : Nat) (d : Int), i.toNat = n → n ≤ 64 → (2 : Int) ^ n = d → shr .u64 x i = x / d := by
      intro x i n d h1 h2 h3
      unfold shr
      rw [h1, show IntKind.u64.bits = 64 from rfl, Nat.min_eq_left h2, h3]
    simp only [be8, List.map_cons, List.map_nil, val8, List.foldl_cons, List.foldl_nil]
    rw [s _ 56 56 72057594037927936 rfl (by decide) rfl, s _ 48 48 281474976710656 rfl (by decide) rfl, s _ 40 40 1099511627776 rfl (by decide) rfl, s _ 32 32 4294967296 rfl (by decide) rfl, s _ 24 24 16777216 rfl (by decide) rfl, s _ 16 16 65536 rfl (by decide) rfl, s _ 8 8 256 rfl (by decide) rfl, s _ 0 0 1 rfl (by decide) rfl]
    generalize hA : (a.toNat : Int) = A
    generalize hB : (b.toNat : Int) = B
    generalize hC : (c.toNat : Int) = C
    generalize hD : (d.toNat : Int) = D
    generalize hE : (e.toNat : Int) = E
    generalize hF : (f.toNat : Int) = F
    generalize hG : (g.toNat : Int) = G
    generalize hI : (i.toNat : Int) = I
    clear hv hw s
    have e1 : (((((((0 * 256 + A) * 256 + B) * 256 + C) * 256 + D) * 256 + E) * 256 + F) * 256 + G) * 256 + I = A * 72057594037927936 + B * 281474976710656 + C * 1099511627776 + D * 4294967296 + E * 16777216 + F * 65536 + G * 256 + I := by omega
    rw [e1]
    generalize hX : A * 72057594037927936 + B * 281474976710656 + C * 1099511627776 + D * 4294967296 + E * 16777216 + F * 65536 + G * 256 + I = X
    have x1 : X / 72057594037927936 % 256 = A := by omega
    have x2 : X / 281474976710656 % 256 = B := by omega
    have x3 : X / 1099511627776 % 256 = C := by omega
    have x4 : X / 4294967296 % 256 = D := by omega
    have x5 : X / 16777216 % 256 = E := by omega
    have x6 : X / 65536 % 256 = F := by omega
    have x7 : X / 256 % 256 = G := by omega
    have x8 : X / 1 % 256 = I := by omega
    rw [x1, x2, x3, x4, x5, x6, x7, x8, ← hA, ← hB, ← hC, ← hD, ← hE, ← hF, ← hG, ← hI]
    simp only [b8_nat]
def toB (l : List UInt8) : ByteArray := ⟨l.toArray⟩
theorem toB_data (l : List UInt8) : (toB l).data.toList = l := rfl
theorem toB_of {s : ByteArray} {l : List UInt8} (h : s.data.toList = l) : s = toB l := data_inj h
theorem toB_size (l : List UInt8) : (toB l).size = l.length := size_in rfl
theorem nums_toB (xs : List Int) : strOfNums xs = toB (xs.map b8) := rfl
def esc : List UInt8 → List UInt8
  | [] => []
  | x :: r => if x = 0 then 0 :: 255 :: esc r else x :: esc r
theorem esc_length : ∀ l : List UInt8, (esc l).length ≤ 2 * l.length
  | [] => Nat.le_refl _
  | x :: r => by
    have := esc_length r
    unfold esc
    split <;> simp only [List.length_cons] <;> omega
theorem replace_esc : ∀ t : List UInt8, Lib.replaceK [0] [0, 255] (Lib.count t [0]) t = esc t
  | [] => by
    have h : Lib.index ([] : List UInt8) [0] = -1 := rfl
    rw [Lib.count_miss h]
    rfl
  | b :: l => by
    have ih := replace_esc l
    by_cases hb : b = 0
    · subst hb
      have h : Lib.index (0 :: l) [(0 : UInt8)] = ((0 : Nat) : Int) := by
        unfold Lib.index
        rw [if_pos (by simp [List.isPrefixOf])]
        rfl
      rw [Lib.count_hit (by simp) h, Nat.add_comm 1, Lib.replaceK_hit _ _ _ _ _ h]
      show [] ++ [0, 255] ++ Lib.replaceK [0] [0, 255] (Lib.count l [0]) l = _
      rw [ih, esc, if_pos rfl]
      rfl
    · have hp : ¬ ([(0 : UInt8)].isPrefixOf (b :: l) = true) := by
        simp [List.isPrefixOf]
        exact fun e => hb e.symm
      have hge := Lib.index_ge l [0]
      rw [esc, if_neg hb]
      by_cases h : Lib.index l [0] = -1
      · have h2 : Lib.index (b :: l) [0] = -1 := by
          unfold Lib.index
          rw [if_neg hp, if_pos (beq_iff_eq.2 h)]
        rw [Lib.count_miss h] at ih
        rw [Lib.count_miss h2, ← ih]
        rfl
      · obtain ⟨i, hi⟩ : ∃ i : Nat, Lib.index l [0] = i := ⟨(Lib.index l [0]).toNat, by omega⟩
        have h2 : Lib.index (b :: l) [0] = ((i + 1 : Nat) : Int) := by
          unfold Lib.index
          rw [if_neg hp, if_neg (fun e => h (beq_iff_eq.1 e)), hi]
          rfl
        have c1 := Lib.count_hit (s := l) (sub := [0]) (by simp) hi
        have c2 := Lib.count_hit (s := b :: l) (sub := [0]) (by simp) h2
        have hd : (b :: l).drop (i + 1 + [(0 : UInt8)].length) = l.drop (i + [(0 : UInt8)].length) := rfl
        rw [hd] at c2
        rw [c1, Nat.add_comm 1, Lib.replaceK_hit _ _ _ _ _ hi] at ih
        rw [c2, Nat.add_comm 1, Lib.replaceK_hit _ _ _ _ _ h2, hd, ← ih]
        rfl
theorem replaceAll_esc (t : List UInt8) : Lib.replaceAll t [0] [0, 255] = esc t := by
  unfold Lib.replaceAll Lib.replace
  rw [if_neg (by decide)]
  have : Lib.replaceNum t [0] (-1) = Lib.count t [0] := by unfold Lib.replaceNum; rw [if_pos (.inl (by decide))]
  rw [this, replace_esc]
theorem ReplaceAll_is (t : ByteArray) (h : t.size ≤ 1048576) : strings_ReplaceAll.f t (⟨#[0]⟩ : ByteArray) (⟨#[0, 255]⟩ : ByteArray) = some (toB (esc t.data.toList)) := by
  have hm := Lib.countB_mul_le (⟨#[0]⟩ : ByteArray) (by decide) t.size t (Nat.le_refl _)
  have h1 : (⟨#[0]⟩ : ByteArray).size = 1 := rfl
  have h2 : (⟨#[0, 255]⟩ : ByteArray).size = 2 := rfl
  unfold strings_ReplaceAll.f
  rw [h1] at hm ⊢
  rw [h2, if_pos ⟨by omega, by omega, by omega⟩]
  exact congrArg some (congrArg toB (replaceAll_esc t.data.toList))
theorem xor_top_nat (x : Nat) (h : x < 18446744073709551616) : x ^^^ 9223372036854775808 = (x + 9223372036854775808) % 18446744073709551616 := by
  have e1 : (9223372036854775808 : Nat) = 2 ^ 63 := rfl
  have e2 : (18446744073709551616 : Nat) = 2 ^ 64 := rfl
  rw [e1, e2] at *
  apply Nat.eq_of_testBit_eq
  intro i
  rw [Nat.testBit_xor, Nat.testBit_two_pow, Nat.testBit_mod_two_pow, Nat.add_comm x]
  by_cases h1 : i < 63
  · rw [Nat.testBit_two_pow_add_gt h1, decide_eq_true (show i < 64 by omega), decide_eq_false (show ¬ 63 = i by omega)]
    simp
  · by_cases h2 : i = 63
    · subst h2
      rw [Nat.testBit_two_pow_add_eq]
      simp
    · rw [decide_eq_false (show ¬ i < 64 by omega), decide_eq_false (show ¬ 63 = i by omega), Nat.testBit_lt_two_pow (Nat.lt_of_lt_of_le h (Nat.pow_le_pow_right (n := 2) (by decide) (show 64 ≤ i by omega)))]
      simp
theorem xor_top (x : Int) (h0 : 0 ≤ x) (h1 : x < 18446744073709551616) : Go.bits .xor .u64 x 9223372036854775808 = IntKind.u64.wrap (x + 9223372036854775808) := by
  have e := bits_xor_u64_nat x.toNat 9223372036854775808 (by omega) (by decide)
  rw [show ((x.toNat : Nat) : Int) = x by omega, show ((9223372036854775808 : Nat) : Int) = 9223372036854775808 from rfl] at e
  rw [e, xor_top_nat _ (by omega), IntKind.wrap_u64]
  omega
def ku (x : Int) : Int := IntKind.u64.wrap (IntKind.u64.wrap x + 9223372036854775808)
theorem ku_range (x : Int) : 0 ≤ ku x ∧ ku x < 18446744073709551616 := wrap64u _
def kb (v : S38) : List UInt8 :=
  if v.f0 = 1 then [if v.f1 = 0 then 2 else 3] else if v.f0 = 2 then 4 :: (be8 (ku v.f1)).map b8
  else if v.f0 = 3 then 5 :: (esc v.f2.data.toList ++ [0, 1]) else [1]
def kbs (l : List S38) : List UInt8 := l.flatMap kb
theorem kb_length (v : S38) : (kb v).length ≤ 9 + 2 * v.f2.size := by
  have h := esc_length v.f2.data.toList
  have z : v.f2.size = v.f2.data.toList.length := size_in rfl
  unfold kb
  split
  · simp; omega
  · split
    · simp [be8]
    · split
      · simp only [List.length_cons, List.length_append, List.length_nil]; omega
      · simp; omega
theorem Key_l0 {l : List S38} (hl : l.length ≤ 1048576) (hx : ∀ v ∈ l, v.f2.size ≤ 1048576) : ∀ (R A : List S38) (acc : List Int), l = A ++ R → acc.length ≤ 2097200 * A.length →
    Ev (fun k => value_Key.l0 k acc l (l.length : Int) (A.length : Int)) (toB (acc.map b8 ++ kbs R))
  | [], A, acc, h1, hc => by
    have z1 := congrArg List.length h1
    simp at z1
    refine Ev.step (f := fun _ => some (strOfNums acc)) (fun k => ?_) ?_
    · simp only [value_Key.l0]
      rw [if_neg (by omega)]
    · rw [show kbs ([] : List S38) = [] from rfl, List.append_nil]
      exact Ev.now _
  | v :: R, A, acc, h1, hc => by
    have z1 := congrArg List.length h1
    simp at z1
    have hv : rd_T38 l (A.length : Int) = v := getD_in h1
    have hw : wrap64 ((A.length : Int) + 1) = ((A ++ [v]).length : Int) := by rw [w64 (by omega) (by omega)]; simp
    have hvs : v.f2.size ≤ 1048576 := hx v (by rw [h1]; simp)
    have ih := fun acc hc => Key_l0 hl hx R (A ++ [v]) acc (by simp [h1]) hc
    have done : ∀ acc' : List Int, acc'.map b8 = acc.map b8 ++ kb v → Ev (fun k => value_Key.l0 k acc' l (l.length : Int) ((A ++ [v]).length : Int)) (toB (acc.map b8 ++ kbs (v :: R))) := by
      intro acc' h
      have hn := kb_length v
      have hz := congrArg List.length h
      simp only [List.length_map, List.length_append] at hz
      have := ih acc' (by rw [List.length_append]; simp only [List.length_cons, List.length_nil]; omega)
      rw [h] at this
      rw [show kbs (v :: R) = kb v ++ kbs R from rfl, ← List.append_assoc]
      exact this
    refine Ev.step (f := fun k => (value_Clean.f v.f0 v.f1 v.f2).bind fun bt261 => (if bt261.1 = 1 then (if acc.length < 140737488355328 then (value_Key.l0 k (acc ++ [(2 + bt261.2.1) % 256]) l (l.length : Int) (wrap64 ((A.length : Int) + 1))) else (none)) else (if bt261.1 = 2 then (if acc.length < 140737488355328 then ((value_long.f k (acc ++ [4]) (Go.bits .xor .u64 (IntKind.u64.wrap (bt261.2.1)) 9223372036854775808)).bind fun t270 => (value_Key.l0 k t270 l (l.length : Int) (wrap64 ((A.length : Int) + 1)))) else (none)) else (if bt261.1 = 3 then (if acc.length < 140737488355328 then ((some (acc ++ [5] : List Int)).bind fun y273 => ((strings_ReplaceAll.f bt261.2.2 (⟨#[0]⟩ : ByteArray) (⟨#[0, 255]⟩ : ByteArray)).bind fun t276 => (if y273.length + t276.size < 140737488355328 then ((some (y273 ++ bytesOf t276 : List Int)).bind fun y277 => ((some (([0, 1] : List Int) : List Int)).bind fun y280 => (if y277.length + y280.length < 140737488355328 then (value_Key.l0 k (y277 ++ y280) l (l.length : Int) (wrap64 ((A.length : Int) + 1))) else (none)))) else (none)))) else (none)) else (if acc.length < 140737488355328 then (value_Key.l0 k (acc ++ [1]) l (l.length : Int) (wrap64 ((A.length : Int) + 1))) else (none)))))) (fun k => ?_) ?_
    · simp only [value_Key.l0]
      rw [if_pos (by omega), if_pos (by omega), if_pos (by omega), hv]
    refine Ev.some_bind (clean_is v) ?_
    rw [hw]
    have hlim : acc.length < 140737488355328 := by omega
    by_cases c1 : v.f0 = 1
    · simp only [if_pos c1]
      refine Ev.ite_true trivial (Ev.ite_true hlim (done _ ?_))
      unfold kb
      rw [if_pos c1, List.map_append]
      by_cases c : v.f1 = 0
      · rw [if_pos c, if_pos c]; rfl
      · rw [if_neg c, if_neg c]; rfl
    · simp only [if_neg c1]
      by_cases c2 : v.f0 = 2
      · simp only [if_pos c2]
        refine Ev.ite_false (by decide) (Ev.ite_true trivial (Ev.ite_true hlim (Ev.bind (long_is _ _ (by simp; omega)) (done _ ?_))))
        have hr := wrap64u v.f1
        unfold kb ku
        rw [if_neg c1, if_pos c2, xor_top _ hr.1 hr.2, List.map_append, List.map_append, List.append_assoc]
        rfl
      · simp only [if_neg c2]
        by_cases c3 : v.f0 = 3
        · simp only [if_pos c3]
          have hE := esc_length v.f2.data.toList
          have z : v.f2.size = v.f2.data.toList.length := size_in rfl
          refine Ev.ite_false (by decide) (Ev.ite_false (by decide) (Ev.ite_true trivial (Ev.ite_true hlim (Ev.some_bind rfl (Ev.some_bind (ReplaceAll_is v.f2 hvs) (Ev.ite_true (by rw [toB_size, List.length_append]; simp only [List.length_cons, List.length_nil]; omega) (Ev.some_bind rfl (Ev.some_bind rfl (Ev.ite_true (by rw [List.length_append, List.length_append, bytesOf_length, toB_size]; simp only [List.length_cons, List.length_nil]; omega) (done _ ?_))))))))))
          unfold kb
          rw [if_neg c1, if_neg c2, if_pos c3]
          simp only [List.map_append]
          rw [show (bytesOf (toB (esc v.f2.data.toList))).map b8 = esc v.f2.data.toList from congrArg (fun s : ByteArray => s.data.toList) (nums_bytes (toB (esc v.f2.data.toList)))]
          simp only [List.append_assoc]
          rfl
        · simp only [if_neg c3]
          refine Ev.ite_false (by decide) (Ev.ite_false (by decide) (Ev.ite_false (by decide) (Ev.ite_true hlim (done _ ?_))))
          unfold kb
          rw [if_neg c1, if_neg c2, if_neg c3, List.map_append]
          rfl
theorem Key_is {l : List S38} (hl : l.length ≤ 1048576) (hx : ∀ v ∈ l, v.f2.size ≤ 1048576) : Ev (fun k => value_Key.f k l) (toB (kbs l)) := Key_l0 hl hx l [] [] rfl (by simp)
def escRead : List UInt8 → Option (List UInt8 × List UInt8)
  | [] => none
  | [_] => none
  | x :: y :: r => if x = 0 then (if y = 1 then some ([], r) else if y = 255 then (escRead r).map (fun p => (0 :: p.1, p.2)) else none) else (escRead (y :: r)).map (fun p => (x :: p.1, p.2))
theorem escRead_ne {x : UInt8} (h : ¬ x = 0) (r : List UInt8) : escRead (x :: r) = (escRead r).map (fun p => (x :: p.1, p.2)) := by
  cases r with
  | nil => rfl
  | cons y r => rw [escRead, if_neg h]
theorem escRead_zero (y : UInt8) (r : List UInt8) : escRead (0 :: y :: r) = if y = 1 then some ([], r) else if y = 255 then (escRead r).map (fun p => (0 :: p.1, p.2)) else none := by rw [escRead, if_pos rfl]
def kn (x : Int) : Int := wrap64 (IntKind.u64.wrap (x + 9223372036854775808))
def kitem : List UInt8 → Option (S38 × List UInt8)
  | [] => none
  | x :: r => if x = 1 then some (⟨0, 0, E0⟩, r) else if x = 2 then some (⟨1, 0, E0⟩, r) else if x = 3 then some (⟨1, 1, E0⟩, r)
    else if x = 4 then (if r.length < 8 then none else some (⟨2, kn (val8 (r.take 8) 0), E0⟩, r.drop 8))
    else if x = 5 then (escRead r).map (fun p => (⟨3, 0, toB p.1⟩, p.2)) else none
def keys : Nat → List UInt8 → Option (List S38)
  | _, [] => some []
  | 0, _ => none
  | n + 1, b => (kitem b).bind fun p => (keys n p.2).map fun q => p.1 :: q
def said (acc : List S38) (o : Option (List S38)) : List S38 × Int := match o with | some l => (acc ++ l, 0) | none => ([], 4)
theorem idx_split : ∀ L : List UInt8, (Lib.indexByte L 0 = -1 ∧ escRead L = none) ∨ ∃ Q R, L = Q ++ 0 :: R ∧ Lib.indexByte L 0 = (Q.length : Int) ∧ ∀ R', escRead (Q ++ R') = (escRead R').map (fun p => (Q ++ p.1, p.2))
  | [] => .inl ⟨rfl, rfl⟩
  | x :: r => by
    by_cases hx : x = 0
    · subst hx
      refine .inr ⟨[], r, rfl, ?_, fun R' => ?_⟩
      · unfold Lib.indexByte
        rw [if_pos (by decide)]
        rfl
      · rw [List.nil_append]
        cases escRead R' <;> rfl
    · have hb : ¬ ((x == 0) = true) := fun e => hx (by simpa using e)
      rcases idx_split r with ⟨h1, h2⟩ | ⟨Q, R, h1, h2, h3⟩
      · refine .inl ⟨?_, ?_⟩
        · unfold Lib.indexByte
          rw [if_neg hb, h1, if_pos (by decide)]
        · rw [escRead_ne hx, h2]
          rfl
      · refine .inr ⟨x :: Q, R, by rw [h1]; rfl, ?_, fun R' => ?_⟩
        · unfold Lib.indexByte
          rw [if_neg hb, h2, if_neg (by simp)]
          simp
        · show escRead (x :: (Q ++ R')) = _
          rw [escRead_ne hx, h3 R']
          cases escRead R' <;> rfl
theorem escRead_len : ∀ (L : List UInt8) {t r : List UInt8}, escRead L = some (t, r) → t.length + r.length < L.length
  | [], t, r, h => by cases h
  | [_], t, r, h => by cases h
  | x :: y :: L, t, r, h => by
    by_cases hx : x = 0
    · subst hx
      rw [escRead_zero] at h
      split at h
      · cases h
        simp only [List.length_nil, List.length_cons]
        omega
      · split at h
        · obtain ⟨p, hp, e⟩ := Option.map_eq_some_iff.1 h
          cases e
          have := escRead_len L hp
          simp only [List.length_cons]
          omega
        · cases h
    · rw [escRead_ne hx] at h
      obtain ⟨p, hp, e⟩ := Option.map_eq_some_iff.1 h
      cases e
      have := escRead_len (y :: L) hp
      simp only [List.length_cons] at this ⊢
      omega
theorem kitem_len {b r : List UInt8} {v : S38} (h : kitem b = some (v, r)) : r.length < b.length := by
  cases b with
  | nil => cases h
  | cons x b =>
    simp only [kitem] at h
    split at h
    · cases h; simp
    · split at h
      · cases h; simp
      · split at h
        · cases h; simp
        · split at h
          · split at h
            · cases h
            · cases h; simp only [List.length_drop, List.length_cons]; omega
          · split at h
            · obtain ⟨p, hp, e⟩ := Option.map_eq_some_iff.1 h
              cases e
              have := escRead_len b hp
              simp only [List.length_cons]
              omega
            · cases h
theorem take_none (s : ByteArray) (c : Bool) : value_scanner_take.f s c (-1) = some (E0, E0, true) := take_out s c (-1) (.inl (by decide))
theorem take_to {s : ByteArray} {c : Bool} {X Y : List UInt8} (h : s.data.toList = X ++ Y) : value_scanner_take.f s c (X.length : Int) = some (toB X, toB Y, c) := by
  have z := size_in h
  rw [List.length_append] at z
  obtain ⟨t, r, e, h1, h2⟩ := take_is s c (X.length : Int) (by omega) (by omega)
  rw [h, Int.toNat_natCast] at h1 h2
  rw [List.take_append_of_le_length (Nat.le_refl _), List.take_length] at h1
  rw [List.drop_append_of_le_length (Nat.le_refl _), List.drop_length, List.nil_append] at h2
  rw [e, toB_of h1, toB_of h2]
theorem nums_map (acc : List Int) (t : List UInt8) : (acc ++ bytesOf (toB t)).map b8 = acc.map b8 ++ t := by
  rw [List.map_append, show (bytesOf (toB t)).map b8 = t from congrArg (fun s : ByteArray => s.data.toList) (nums_bytes (toB t))]
theorem escaped_is : ∀ (n : Nat) (s : ByteArray) (acc : List Int), s.size ≤ n → acc.length + s.size ≤ 1000000000 →
    Ev (fun k => value_scanner_escaped.l0 k acc s false) (match escRead s.data.toList with | some p => (toB (acc.map b8 ++ p.1), toB p.2, false) | none => (E0, E0, true))
  | n, s, acc, hn, hc => by
    have z : s.size = s.data.toList.length := size_in rfl
    refine Ev.step (f := fun k => if Lib.indexByte s.data.toList 0 < 0 then (value_scanner_escaped.j1 k acc (Lib.indexByte s.data.toList 0) true s false) else (value_scanner_escaped.j1 k acc (Lib.indexByte s.data.toList 0) ((wrap64 (Lib.indexByte s.data.toList 0 + 1)) == (s.size : Int)) s false)) (fun k => ?_) ?_
    · simp only [value_scanner_escaped.l0]
      rfl
    have out : ∀ (i : Int), escRead s.data.toList = none → Ev (fun k => value_scanner_escaped.j1 k acc i true s false) (match escRead s.data.toList with | some p => (toB (acc.map b8 ++ p.1), toB p.2, false) | none => (E0, E0, true)) := by
      intro i h
      rw [h]
      refine Ev.step (f := fun _ => some (E0, E0, true)) (fun k => ?_) (Ev.now _)
      simp only [value_scanner_escaped.j1]
      rw [if_pos trivial, take_none]
      rfl
    rcases idx_split s.data.toList with ⟨h1, h2⟩ | ⟨Q, R, h1, h2, h3⟩
    · rw [h1]
      exact Ev.ite_true (by decide) (out _ h2)
    · rw [h2]
      refine Ev.ite_false (by omega) ?_
      rw [h1] at z
      simp only [List.length_append, List.length_cons] at z
      have e1 : wrap64 ((Q.length : Int) + 1) = (Q.length : Int) + 1 := w64 (by omega) (by omega)
      rw [e1]
      have hE : escRead s.data.toList = (escRead (0 :: R)).map (fun p => (Q ++ p.1, p.2)) := by rw [h1]; exact h3 (0 :: R)
      cases R with
      | nil =>
        rw [show ((Q.length : Int) + 1 == (s.size : Int)) = true by rw [beq_iff_eq, z]; simp]
        refine out _ ?_
        rw [hE]
        rfl
      | cons y R =>
        simp only [List.length_cons] at z
        rw [show ((Q.length : Int) + 1 == (s.size : Int)) = false by rw [beq_eq_false_iff_ne, z]; omega]
        have hby : bt s ((Q.length : Int) + 1) = (y.toNat : Int) := by
          have := bt_in (s := s) (X := Q ++ [0]) (Y := R) (x := y) (by rw [h1]; simp)
          rw [show ((Q ++ [(0 : UInt8)]).length : Int) = (Q.length : Int) + 1 by simp] at this
          exact this
        have t1 := take_to (c := false) h1
        have t2 : value_scanner_take.f (toB (0 :: y :: R)) false 2 = some (toB [0, y], toB R, false) := take_to (X := [0, y]) (Y := R) rfl
        have hz : (bytesOf (toB Q)).length = Q.length := by rw [bytesOf_length, toB_size]
        refine Ev.step (f := fun k => if (y.toNat : Int) = 1 then (some (strOfNums (acc ++ bytesOf (toB Q)), toB R, false)) else (if (y.toNat : Int) = 255 then (value_scanner_escaped.l0 k ((acc ++ bytesOf (toB Q)) ++ [0]) (toB R) false) else some (E0, E0, true))) (fun k => ?_) ?_
        · simp only [value_scanner_escaped.j1]
          rw [if_neg Bool.false_ne_true, e1, if_pos (by omega), if_pos (by omega), t1]
          simp only [Option.bind_some]
          rw [if_pos (by rw [toB_size]; omega), t2]
          simp only [Option.bind_some]
          rw [hby, if_pos (show (acc ++ bytesOf (toB Q)).length < 140737488355328 by rw [List.length_append, hz]; omega), take_none]
          rfl
        · rw [hE]
          by_cases c1 : y = 1
          · subst c1
            refine Ev.ite_true rfl ?_
            rw [show escRead (0 :: 1 :: R) = some ([], R) from rfl]
            simp only [Option.map_some, List.append_nil]
            rw [nums_toB, nums_map]
            exact Ev.now _
          · refine Ev.ite_false (fun e => c1 ((u8_is y 1 (by decide)).1 e)) ?_
            by_cases c2 : y = 255
            · subst c2
              refine Ev.ite_true rfl ?_
              have zR : (toB R).size = R.length := toB_size R
              obtain ⟨n, rfl⟩ : ∃ m, n = m + 1 := ⟨n - 1, by omega⟩
              have ih := escaped_is n (toB R) ((acc ++ bytesOf (toB Q)) ++ [0]) (by omega) (by rw [List.length_append, List.length_append, hz, zR]; simp only [List.length_cons, List.length_nil]; omega)
              rw [show escRead (0 :: 255 :: R) = (escRead R).map (fun p => (0 :: p.1, p.2)) from rfl]
              rw [toB_data] at ih
              cases hR : escRead R with
              | none => rw [hR] at ih; exact ih
              | some p =>
                rw [hR] at ih
                simp only at ih
                simp only [Option.map_some]
                have e : (acc ++ bytesOf (toB Q) ++ [0]).map b8 ++ p.1 = acc.map b8 ++ (Q ++ 0 :: p.1) := by
                  rw [List.map_append, nums_map]
                  simp only [List.append_assoc]
                  rfl
                rw [e] at ih
                exact ih
            · refine Ev.ite_false (fun e => c2 ((u8_is y 255 (by decide)).1 e)) ?_
              have : escRead (0 :: y :: R) = none := by rw [escRead_zero, if_neg c1, if_neg c2]
              rw [this]
              exact Ev.now _
theorem flag_is (b : Bool) : value_Flag.f b = some (1, if b = true then 1 else 0, E0) := by cases b <;> rfl
theorem one_is (s : ByteArray) (hs : s.size ≤ 16777216) : (∀ v r, kitem s.data.toList = some (v, r) → Ev (fun k => value_scanner_one.f k s false) (v.f0, v.f1, v.f2, toB r, false)) ∧
    (kitem s.data.toList = none → ∃ a b c s', Ev (fun k => value_scanner_one.f k s false) (a, b, c, s', true)) := by
  cases h : s.data.toList with
  | nil =>
    refine ⟨fun v r h => (by cases h), fun _ => ⟨0, 0, E0, E0, ?_⟩⟩
    unfold value_scanner_one.f
    refine Ev.some_bind (byte_out s false h) (Ev.ite_false (by decide) (Ev.ite_false (by decide) ?_))
    refine Ev.step (f := fun _ => some (0, 0, E0, E0, true)) (fun k => ?_) (Ev.now _)
    simp [value_scanner_one.j0, value_None.f]
  | cons x r =>
    obtain ⟨s', hs', e⟩ := byte_is s false x r h
    obtain rfl := toB_of hs'
    have z := size_in h
    simp only [List.length_cons] at z
    have zr : (toB r).size = r.length := toB_size r
    have start : ∀ {o}, Ev (fun k => (if (x.toNat : Int) = 1 then ((value_None.f).bind fun bt131 => (some (bt131.1, bt131.2.1, bt131.2.2, toB r, false))) else (if (x.toNat : Int) = 2 then (value_scanner_one.j0 k (x.toNat : Int) (x.toNat : Int) ((x.toNat : Int) == 2) (toB r) false) else (value_scanner_one.j0 k (x.toNat : Int) (x.toNat : Int) ((x.toNat : Int) == 3) (toB r) false)))) o → Ev (fun k => value_scanner_one.f k s false) o := by
      intro o ho
      unfold value_scanner_one.f
      exact Ev.some_bind e ho
    by_cases c1 : x = 1
    · subst c1
      refine ⟨fun v r' h => ?_, fun h => by cases h⟩
      cases h
      exact start (Ev.ite_true rfl (Ev.some_bind rfl (Ev.now _)))
    have n1 : ¬ ((x.toNat : Int) = 1) := fun e => c1 ((u8_is x 1 (by decide)).1 e)
    by_cases c2 : x = 2
    · subst c2
      refine ⟨fun v r' h => ?_, fun h => by cases h⟩
      cases h
      refine start (Ev.ite_false n1 (Ev.ite_true rfl (Ev.step (f := fun _ => some (1, 0, E0, toB r, false)) (fun k => ?_) (Ev.now _))))
      simp [value_scanner_one.j0, value_Flag.f]
    have n2 : ¬ ((x.toNat : Int) = 2) := fun e => c2 ((u8_is x 2 (by decide)).1 e)
    by_cases c3 : x = 3
    · subst c3
      refine ⟨fun v r' h => ?_, fun h => by cases h⟩
      cases h
      refine start (Ev.ite_false n1 (Ev.ite_false n2 (Ev.step (f := fun _ => some (1, 1, E0, toB r, false)) (fun k => ?_) (Ev.now _))))
      simp [value_scanner_one.j0, value_Flag.f]
    have n3 : ((x.toNat : Int) == 3) = false := beq_eq_false_iff_ne.2 (fun e => c3 ((u8_is x 3 (by decide)).1 e))
    have on : ∀ {o}, Ev (fun k => (if (x.toNat : Int) = 4 then ((value_scanner_long.f (toB r) false).bind fun bt137 => ((value_Of.f (wrap64 (Go.bits .xor .u64 bt137.1 9223372036854775808))).bind fun bt140 => (some (bt140.1, bt140.2.1, bt140.2.2, bt137.2.1, bt137.2.2)))) else (if (x.toNat : Int) = 5 then ((value_scanner_escaped.f k (toB r) false).bind fun bt143 => ((value_Str.f bt143.1).bind fun bt146 => (some (bt146.1, bt146.2.1, bt146.2.2, bt143.2.1, bt143.2.2)))) else ((value_None.f).bind fun bt149 => (some (bt149.1, bt149.2.1, bt149.2.2, toB r, true)))))) o → Ev (fun k => value_scanner_one.f k s false) o := by
      intro o ho
      refine start (Ev.ite_false n1 (Ev.ite_false n2 ?_))
      rw [n3]
      refine Ev.step (fun k => ?_) ho
      simp only [value_scanner_one.j0]
      rw [if_neg Bool.false_ne_true]
    by_cases c4 : x = 4
    · subst c4
      by_cases h8 : r.length < 8
      · refine ⟨fun v r' h => ?_, fun _ => ⟨2, _, E0, E0, on (Ev.ite_true rfl (Ev.some_bind (long_out (toB r) false h8) (Ev.some_bind rfl (Ev.now _))))⟩⟩
        simp only [kitem] at h
        rw [if_neg (by decide), if_neg (by decide), if_neg (by decide), if_pos trivial, if_pos h8] at h
        cases h
      · have hk : kitem (4 :: r) = some (⟨2, kn (val8 (r.take 8) 0), E0⟩, r.drop 8) := by
          simp only [kitem]
          rw [if_neg (by decide), if_neg (by decide), if_neg (by decide), if_pos trivial, if_neg h8]
        rw [hk]
        refine ⟨fun v r' h => ?_, fun h => by cases h⟩
        cases h
        obtain ⟨s2, h2, e2⟩ := long_is' (toB r) false (by rw [toB_data]; omega)
        obtain rfl := toB_of h2
        have hv := val8_lim (r.take 8) (by rw [List.length_take]; omega)
        refine on (Ev.ite_true rfl (Ev.some_bind e2 (Ev.some_bind rfl ?_)))
        simp only [toB_data]
        rw [xor_top _ hv.1 hv.2]
        exact Ev.now _
    have n4 : ¬ ((x.toNat : Int) = 4) := fun e => c4 ((u8_is x 4 (by decide)).1 e)
    by_cases c5 : x = 5
    · subst c5
      have hk : kitem (5 :: r) = (escRead r).map (fun p => (⟨3, 0, toB p.1⟩, p.2)) := by
        simp only [kitem]
        rw [if_neg (by decide), if_neg (by decide), if_neg (by decide), if_neg (by decide), if_pos trivial]
      rw [hk]
      have hE := escaped_is (toB r).size (toB r) [] (Nat.le_refl _) (by rw [zr]; simp only [List.length_nil]; omega)
      rw [toB_data] at hE
      cases hr : escRead r with
      | none =>
        rw [hr] at hE
        exact ⟨fun v r' h => (by cases h), fun _ => ⟨3, 0, E0, E0, on (Ev.ite_false n4 (Ev.ite_true rfl (Ev.bind hE (Ev.some_bind rfl (Ev.now _)))))⟩⟩
      | some p =>
        rw [hr] at hE
        refine ⟨fun v r' h => ?_, fun h => by cases h⟩
        cases h
        exact on (Ev.ite_false n4 (Ev.ite_true rfl (Ev.bind hE (Ev.some_bind rfl (Ev.now _)))))
    have n5 : ¬ ((x.toNat : Int) = 5) := fun e => c5 ((u8_is x 5 (by decide)).1 e)
    refine ⟨fun v r' h => ?_, fun _ => ⟨0, 0, E0, toB r, on (Ev.ite_false n4 (Ev.ite_false n5 (Ev.some_bind rfl (Ev.now _))))⟩⟩
    simp only [kitem] at h
    rw [if_neg c1, if_neg c2, if_neg c3, if_neg c4, if_neg c5] at h
    cases h
theorem bad_l0 (acc : List S38) (s : ByteArray) : Ev (fun k => value_Unkey.l0 k acc s true) ([], 4) := by
  refine Ev.step (f := fun _ => some ([], 4)) (fun k => ?_) (Ev.now _)
  simp only [value_Unkey.l0]
  split
  · rw [if_pos trivial]
  · rw [if_pos trivial]
theorem keys_none {n : Nat} {b : List UInt8} (hb : b ≠ []) (h : kitem b = none) (acc : List S38) : said acc (keys (n + 1) b) = ([], 4) := by
  cases b with
  | nil => exact absurd rfl hb
  | cons x r => simp only [keys, h, Option.bind_none]; rfl
theorem keys_some {n : Nat} {b r : List UInt8} {v : S38} (h : kitem b = some (v, r)) (acc : List S38) : said acc (keys (n + 1) b) = said (acc ++ [v]) (keys n r) := by
  cases b with
  | nil => cases h
  | cons x b =>
    simp only [keys, h, Option.bind_some]
    cases keys n r with
    | none => rfl
    | some q => simp [said]
theorem Unkey_l0 : ∀ (n : Nat) (acc : List S38) (s : ByteArray), s.size ≤ n → n ≤ 16777216 → acc.length + s.size ≤ 16777216 → Ev (fun k => value_Unkey.l0 k acc s false) (said acc (keys n s.data.toList))
  | n, acc, s, hn, hm, hc => by
    have z : s.size = s.data.toList.length := size_in rfl
    cases h : s.data.toList with
    | nil =>
      rw [h] at z
      simp only [List.length_nil] at z
      refine Ev.step (f := fun _ => some (acc, 0)) (fun k => ?_) ?_
      · simp only [value_Unkey.l0]
        rw [if_neg (by omega), if_neg Bool.false_ne_true]
      · have : keys n [] = some ([] : List S38) := by cases n <;> rfl
        rw [this]
        simpa [said] using Ev.now (acc, (0 : Int))
    | cons x r =>
      rw [h] at z
      simp only [List.length_cons] at z
      obtain ⟨n, rfl⟩ : ∃ m, n = m + 1 := ⟨n - 1, by omega⟩
      obtain ⟨o1, o2⟩ := one_is s (by omega)
      rw [h] at o1 o2
      refine Ev.step (f := fun k => (value_scanner_one.f k s false).bind fun bt153 => (if acc.length < 4398046511104 then (value_Unkey.l0 k (acc ++ [(⟨bt153.1, bt153.2.1, bt153.2.2.1⟩ : S38)]) bt153.2.2.2.1 bt153.2.2.2.2) else (none))) (fun k => ?_) ?_
      · simp only [value_Unkey.l0]
        rw [if_pos (by omega), if_neg Bool.false_ne_true]
      cases hk : kitem (x :: r) with
      | none =>
        rw [keys_none (by simp) hk]
        obtain ⟨a, b, c, s', he⟩ := o2 hk
        exact Ev.bind he (Ev.ite_true (by omega) (bad_l0 _ _))
      | some p =>
        obtain ⟨v, r'⟩ := p
        rw [keys_some hk]
        have hlen := kitem_len hk
        simp only [List.length_cons] at hlen
        refine Ev.bind (o1 v r' hk) (Ev.ite_true (by omega) ?_)
        have ih := Unkey_l0 n (acc ++ [v]) (toB r') (by rw [toB_size]; omega) (by omega) (by rw [toB_size, List.length_append]; simp only [List.length_cons, List.length_nil]; omega)
        rw [toB_data] at ih
        exact ih
theorem Unkey_is (s : ByteArray) (hs : s.size ≤ 16777216) : Ev (fun k => value_Unkey.f k s) (said [] (keys s.size s.data.toList)) := Unkey_l0 s.size [] s (Nat.le_refl _) hs (by simp only [List.length_nil]; omega)
theorem esc_read : ∀ (t r : List UInt8), escRead (esc t ++ 0 :: 1 :: r) = some (t, r)
  | [], r => rfl
  | x :: t, r => by
    have ih := esc_read t r
    by_cases hx : x = 0
    · subst hx
      rw [esc, if_pos rfl]
      show escRead (0 :: 255 :: (esc t ++ 0 :: 1 :: r)) = _
      rw [escRead_zero, if_neg (by decide), if_pos rfl, ih]
      rfl
    · rw [esc, if_neg hx]
      show escRead (x :: (esc t ++ 0 :: 1 :: r)) = _
      rw [escRead_ne hx, ih]
      rfl
def cl (a b : Int) (c : ByteArray) : Int × Int × ByteArray := if a = 1 then (1, if b = 0 then 0 else 1, ⟨#[]⟩) else if a = 2 then (2, b, ⟨#[]⟩) else if a = 3 then (3, 0, c) else (0, 0, ⟨#[]⟩)
theorem Clean_is (a b : Int) (c : ByteArray) : value_Clean.f a b c = some (cl a b c) := by
  unfold value_Clean.f cl value_Flag.f value_Of.f value_Str.f value_None.f
  by_cases h1 : a = 1
  · by_cases hb : b = 0 <;> simp [h1, hb]
  · by_cases h2 : a = 2
    · simp [h2]
    · by_cases h3 : a = 3 <;> simp [h1, h2, h3]
theorem cmp_is (a b : Int) : cmp_Compare_int.f a b = some (cmpI a b) := by
  unfold cmp_Compare_int.f cmp_isNaN_int.f cmpI
  simp only [Option.bind_some, bne_self_eq_false, Bool.false_eq_true, if_false]
  by_cases h : a < b
  · simp [h]
  · by_cases h2 : a > b <;> simp [h, h2]
theorem cmp64_is (a b : Int) : cmp_Compare_int64.f a b = some (cmpI a b) := by
  unfold cmp_Compare_int64.f cmp_isNaN_int64.f cmpI
  simp only [Option.bind_some, bne_self_eq_false, Bool.false_eq_true, if_false]
  by_cases h : a < b
  · simp [h]
  · by_cases h2 : a > b <;> simp [h, h2]
def ord (x y : Int × Int × ByteArray) : Int := if x.1 = y.1 then if x.1 = 3 then Lib.compareBytes x.2.2.data.toList y.2.2.data.toList else cmpI x.2.1 y.2.1 else cmpI x.1 y.1
theorem Order_is (a b : Int) (c : ByteArray) (d e : Int) (f : ByteArray) : value_Order.f a b c d e f = some (ord (cl a b c) (cl d e f)) := by
  unfold value_Order.f ord strings_Compare.f bytealg_CompareString.f
  rw [Clean_is, Clean_is]
  simp only [Option.bind_some, cmp_is, cmp64_is]
  by_cases h : (cl a b c).1 = (cl d e f).1
  · by_cases h3 : (cl d e f).1 = 3 <;> simp [h, h3]
  · simp [h]
def clS (x : S38) : Int × Int × ByteArray := cl x.f0 x.f1 x.f2
def rowsO : List S38 → List S38 → Int
  | [], [] => 0
  | [], _ :: _ => -1
  | _ :: _, [] => 1
  | x :: a, y :: b => if ord (clS x) (clS y) = 0 then rowsO a b else ord (clS x) (clS y)
theorem rows_l0 {l m : List S38} (hl : l.length ≤ 4611686018427387904) : ∀ (A B A0 B0 : List S38), l = A0 ++ A → m = B0 ++ B → A0.length = B0.length → ∃ n, value_Rows.l0 n l m (A0.length : Int) = some (rowsO A B)
  | [], B, A0, B0, h1, h2, h0 => by
    have z1 := congrArg List.length h1
    have z2 := congrArg List.length h2
    simp at z1 z2
    refine ⟨2, ?_⟩
    simp only [value_Rows.l0, value_Rows.j1]
    rw [if_neg (by omega), if_neg (by decide), cmp_is]
    cases B with
    | nil => simp at z2; simp [rowsO, cmpI, z1, z2, h0]
    | cons y B =>
      simp only [List.length_cons] at z2
      simp only [Option.bind_some, rowsO, cmpI]
      rw [if_pos (by omega)]
  | x :: A, [], A0, B0, h1, h2, h0 => by
    have z1 := congrArg List.length h1
    have z2 := congrArg List.length h2
    simp at z1 z2
    refine ⟨2, ?_⟩
    simp only [value_Rows.l0, value_Rows.j1]
    rw [if_pos (by omega), decide_eq_false (by omega), if_neg (by decide), cmp_is]
    simp only [Option.bind_some, rowsO, cmpI]
    rw [if_neg (by omega), if_pos (by omega)]
  | x :: A, y :: B, A0, B0, h1, h2, h0 => by
    have z1 := congrArg List.length h1
    have z2 := congrArg List.length h2
    simp at z1 z2
    have e1 : rd_T38 l (A0.length : Int) = x := getD_in h1
    have e2 : rd_T38 m (A0.length : Int) = y := by rw [h0]; exact getD_in h2
    by_cases hc : ord (clS x) (clS y) = 0
    · obtain ⟨n, hn⟩ := rows_l0 (m := m) hl A B (A0 ++ [x]) (B0 ++ [y]) (by simp [h1]) (by simp [h2]) (by simp [h0])
      refine ⟨n + 2, ?_⟩
      rw [show n + 2 = n + 1 + 1 from rfl]
      simp only [value_Rows.l0, value_Rows.j1]
      rw [if_pos (by omega), decide_eq_true (by omega), if_pos rfl, if_pos (by omega), if_pos (by omega), if_pos (by omega), e1, e2, Order_is]
      change (Option.bind (some (ord (clS x) (clS y))) _) = _
      simp only [Option.bind_some]
      rw [if_pos hc, w64 (by omega) (by omega)]
      simp only [rowsO]
      rw [if_pos hc]
      simpa using hn
    · refine ⟨2, ?_⟩
      simp only [value_Rows.l0, value_Rows.j1]
      rw [if_pos (by omega), decide_eq_true (by omega), if_pos rfl, if_pos (by omega), if_pos (by omega), if_pos (by omega), e1, e2, Order_is]
      change (Option.bind (some (ord (clS x) (clS y))) _) = _
      simp only [Option.bind_some, rowsO]
      rw [if_neg hc]
      exact congrArg some (if_neg hc).symm
theorem Rows_is {l m : List S38} (hl : l.length ≤ 4611686018427387904) : Ev (fun k => value_Rows.f k l m) (rowsO l m) := by
  obtain ⟨n, hn⟩ := rows_l0 hl l m [] [] rfl rfl rfl
  exact Ev.of (g := fun k => value_Rows.f k l m) (fun k => value_Rows.mono l m k) (k := n) hn
namespace R
def enc (v : S38) : List Int :=
  if v.f0 = 1 then [1, if v.f1 = 0 then 0 else 1] else if v.f0 = 2 then 2 :: be8 (IntKind.u64.wrap v.f1)
  else if v.f0 = 3 then 3 :: (v.f2.size : Int) / 256 % 256 :: (v.f2.size : Int) % 256 :: bytesOf v.f2 else [0]
def packL : List S38 → Option (List Int)
  | [] => some []
  | v :: r => if v.f0 = 3 ∧ 1000 < v.f2.size then none else (packL r).map (enc v ++ ·)
def packS (l : List S38) : ByteArray × Int :=
  match packL l with
  | none => (⟨#[]⟩, 8)
  | some b => if 64 < l.length then (⟨#[]⟩, 8) else (strOfNums ((l.length : Int) % 256 :: b), 0)
theorem enc_length (v : S38) (h : ¬ (v.f0 = 3 ∧ 1000 < v.f2.size)) : (enc v).length ≤ 1003 := by
  unfold enc
  split
  · simp
  · split
    · simp [be8]
    · split
      · simp [bytesOf_length]; omega
      · simp
theorem pack_l0 {l : List S38} (hl : l.length * 32 ≤ 140737488351232) : ∀ (R A : List S38) (acc : List Int), l = A ++ R → acc.length ≤ 1 + 1003 * A.length → l.length ≤ 64 →
    Ev (fun k => value_Pack.l0 k acc l (l.length : Int) (A.length : Int)) (match packL R with | none => (⟨#[]⟩, 8) | some b => (strOfNums (acc ++ b), 0))
  | [], A, acc, h1, hc, h64 => by
    have z1 := congrArg List.length h1
    simp at z1
    refine Ev.step (f := fun _ => some (strOfNums acc, 0)) (fun k => ?_) ?_
    · simp only [value_Pack.l0]
      rw [if_neg (by omega)]
    · simp only [packL, List.append_nil]
      exact Ev.now _
  | v :: R, A, acc, h1, hc, h64 => by
    have z1 := congrArg List.length h1
    simp at z1
    have hv : rd_T38 l (A.length : Int) = v := getD_in h1
    have hw : wrap64 ((A.length : Int) + 1) = ((A ++ [v]).length : Int) := by rw [w64 (by omega) (by omega)]; simp
    have ih := fun acc hc => pack_l0 hl R (A ++ [v]) acc (by simp [h1]) hc h64
    refine Ev.step (f := fun k => (value_Clean.f v.f0 v.f1 v.f2).bind fun bt148 => (if acc.length < 140737488355328 then ((some (acc ++ [(bt148.1) % 256] : List Int)).bind fun y151 => (if bt148.1 = 1 then (if y151.length < 140737488355328 then (value_Pack.l0 k (y151 ++ [(bt148.2.1) % 256]) l (l.length : Int) (wrap64 ((A.length : Int) + 1))) else (none)) else (if bt148.1 = 2 then ((value_long.f k y151 (IntKind.u64.wrap (bt148.2.1))).bind fun t157 => (value_Pack.l0 k t157 l (l.length : Int) (wrap64 ((A.length : Int) + 1)))) else (if bt148.1 = 3 then (if (bt148.2.2.size : Int) > 1000 then (some ((⟨#[]⟩ : ByteArray), 8)) else ((some (([((bt148.2.2.size : Int) / 256) % 256, ((bt148.2.2.size : Int)) % 256] : List Int) : List Int)).bind fun y160 => (if y151.length + y160.length < 140737488355328 then ((some (y151 ++ y160 : List Int)).bind fun y163 => (if y163.length + bt148.2.2.size < 140737488355328 then (value_Pack.l0 k (y163 ++ bytesOf bt148.2.2) l (l.length : Int) (wrap64 ((A.length : Int) + 1))) else (none))) else (none)))) else (value_Pack.l0 k y151 l (l.length : Int) (wrap64 ((A.length : Int) + 1))))))) else (none))) (fun k => ?_) ?_
    · simp only [value_Pack.l0]
      rw [if_pos (by omega), if_pos (by omega), if_pos (by omega), hv]
    refine Ev.some_bind (clean_is v) ?_
    rw [hw]
    have hlA : A.length ≤ 64 := by omega
    refine Ev.ite_true (by omega) (Ev.some_bind rfl ?_)
    have done : ¬ (v.f0 = 3 ∧ 1000 < v.f2.size) → ∀ acc', acc' = acc ++ enc v → Ev (fun k => value_Pack.l0 k acc' l (l.length : Int) ((A ++ [v]).length : Int)) (match packL (v :: R) with | none => (⟨#[]⟩, 8) | some b => (strOfNums (acc ++ b), 0)) := by
      rintro hn acc' rfl
      have := ih (acc ++ enc v) (by have := enc_length v hn; simp; omega)
      have e : (match packL (v :: R) with | none => ((⟨#[]⟩ : ByteArray), (8 : Int)) | some b => (strOfNums (acc ++ b), 0)) = (match packL R with | none => (⟨#[]⟩, 8) | some b => (strOfNums (acc ++ enc v ++ b), 0)) := by
        simp only [packL]
        rw [if_neg hn]
        cases packL R <;> simp
      rw [e]
      exact this
    by_cases c1 : v.f0 = 1
    · simp only [if_pos c1]
      refine Ev.ite_true trivial (Ev.ite_true (by simp; omega) (done (by omega) _ ?_))
      unfold enc
      rw [if_pos c1]
      split <;> simp
    · simp only [if_neg c1]
      by_cases c2 : v.f0 = 2
      · simp only [if_pos c2]
        refine Ev.ite_false (by decide) (Ev.ite_true trivial (Ev.bind (long_is _ _ (by simp; omega)) (done (by omega) _ ?_)))
        unfold enc
        rw [if_neg c1, if_pos c2]
        simp
      · simp only [if_neg c2]
        by_cases c3 : v.f0 = 3
        · simp only [if_pos c3]
          refine Ev.ite_false (by decide) (Ev.ite_false (by decide) (Ev.ite_true trivial ?_))
          by_cases c4 : 1000 < v.f2.size
          · refine Ev.ite_true (by omega) ?_
            simp only [packL]
            rw [if_pos ⟨c3, c4⟩]
            exact Ev.now _
          · refine Ev.ite_false (by omega) (Ev.some_bind rfl (Ev.ite_true (by simp; omega) (Ev.some_bind rfl (Ev.ite_true (by simp; omega) (done (by omega) _ ?_)))))
            unfold enc
            rw [if_neg c1, if_neg c2, if_pos c3]
            simp
        · simp only [if_neg c3]
          refine Ev.ite_false (by decide) (Ev.ite_false (by decide) (Ev.ite_false (by decide) (done (by omega) _ ?_)))
          unfold enc
          rw [if_neg c1, if_neg c2, if_neg c3]
          simp
theorem Pack_is {l : List S38} (hl : l.length * 32 ≤ 140737488351232) : Ev (fun k => value_Pack.f k l) (packS l) := by
  unfold value_Pack.f packS
  by_cases h : 64 < l.length
  · refine Ev.ite_true (by omega) ?_
    split
    · exact Ev.now _
    · rw [if_pos h]; exact Ev.now _
  · refine Ev.ite_false (by omega) ?_
    have := pack_l0 hl l [] [(l.length : Int) % 256] rfl (by simp) (by omega)
    cases e : packL l with
    | none => rw [e] at this; exact this
    | some b => rw [e] at this; simp only; rw [if_neg h]; exact this
def item : List UInt8 → Option (S38 × List UInt8)
  | [] => none
  | k :: r => if k = 0 then some (⟨0, 0, E0⟩, r) else if k = 1 then (match r with | [] => none | x :: r => if x.toNat ≤ 1 then some (⟨1, (x.toNat : Int), E0⟩, r) else none)
    else if k = 2 then (if r.length < 8 then none else some (⟨2, wrap64 (val8 (r.take 8) 0), E0⟩, r.drop 8))
    else if k = 3 then (match r with | h :: l :: r => if 1000 < h.toNat * 256 + l.toNat ∨ r.length < h.toNat * 256 + l.toNat then none else some (⟨3, 0, ⟨(r.take (h.toNat * 256 + l.toNat)).toArray⟩⟩, r.drop (h.toNat * 256 + l.toNat)) | _ => none)
    else none
def items : Nat → List UInt8 → Option (List S38 × List UInt8)
  | 0, b => some ([], b)
  | n + 1, b => (item b).bind fun p => (items n p.2).map fun q => (p.1 :: q.1, q.2)
def unp (n : Nat) (b : List UInt8) : Option (List S38) := match items n b with | some (l, []) => some l | _ => none
def unpS (b : List UInt8) : Option (List S38) := match b with | [] => none | n :: r => if 64 < n.toNat then none else unp n.toNat r
def said (acc : List S38) (o : Option (List S38)) : List S38 × Int := match o with | some l => (acc ++ l, 0) | none => ([], 4)
theorem bad_l0 (x5 : Int) (acc : List S38) (s : ByteArray) : Ev (fun k => value_Unpack.l0 k x5 acc s true) ([], 4) := by
  refine ⟨2, fun k hk => ?_⟩
  obtain ⟨k, rfl⟩ : ∃ m, k = m + 2 := ⟨k - 2, by omega⟩
  show value_Unpack.l0 (k + 1 + 1) x5 acc s true = _
  simp only [value_Unpack.l0]
  have : value_Unpack.j2 (k + 1) x5 acc false s true = some ([], 4) := by simp [value_Unpack.j2]
  split
  · exact this
  · exact this
theorem or_is (h l : UInt8) : Go.bits .or .i64 (wrap64 ((h.toNat : Int) * 256)) (l.toNat : Int) = ((h.toNat * 256 + l.toNat : Nat) : Int) := by
  have hh : h.toNat < 256 := h.toNat_lt
  have hl : l.toNat < 256 := l.toNat_lt
  rw [w64' (by omega) (by omega)]
  have := bits_join .i64 16 (by decide) (fun n h0 h1 => by rw [IntKind.wrap_i64]; omega) 8 ((h.toNat : Int) * 256) (l.toNat : Int) (by omega) (by omega) (by omega) (by omega) (by omega) (by omega)
  rw [this]
  omega
theorem unp_some {n : Nat} {b r : List UInt8} {v : S38} (h : item b = some (v, r)) (acc : List S38) : said acc (unp (n + 1) b) = said (acc ++ [v]) (unp n r) := by
  unfold unp
  simp only [items, h, Option.bind_some]
  cases items n r with
  | none => rfl
  | some q =>
    obtain ⟨l, t⟩ := q
    cases t <;> simp [said]
theorem unp_none {n : Nat} {b : List UInt8} (h : item b = none) (acc : List S38) : said acc (unp (n + 1) b) = ([], 4) := by
  unfold unp
  simp [items, h, said]
theorem flag_is (b : Bool) : value_Flag.f b = some (1, if b = true then 1 else 0, E0) := by cases b <;> rfl
theorem take_bad (s : ByteArray) (n : Int) : ∃ t r, value_scanner_take.f s true n = some (t, r, true) := by
  by_cases h : 0 ≤ n ∧ n ≤ (s.size : Int)
  · obtain ⟨t, r, e, _⟩ := take_is s true n h.1 h.2
    exact ⟨t, r, e⟩
  · exact ⟨E0, E0, take_out s true n (by omega)⟩
theorem unpack_l0 : ∀ (n : Nat) (acc : List S38) (s : ByteArray), acc.length + n ≤ 1000 → Ev (fun k => value_Unpack.l0 k (n : Int) acc s false) (said acc (unp n s.data.toList))
  | 0, acc, s, hn => by
    refine Ev.step (f := fun k => value_Unpack.j2 k 0 acc false s false) (fun k => ?_) (Ev.step (f := fun _ => if (s.size : Int) > 0 then (some (([] : List (S38)), 4)) else (some (acc, 0))) (fun k => ?_) ?_)
    · simp only [value_Unpack.l0]
      rw [if_neg (by decide)]
      rfl
    · simp [value_Unpack.j2]
    · have z : s.size = s.data.toList.length := size_in rfl
      cases h : s.data.toList with
      | nil =>
        rw [h] at z
        simp only [List.length_nil] at z
        refine Ev.ite_false (by omega) ?_
        simpa [unp, items, said] using Ev.now (acc, (0 : Int))
      | cons x r =>
        rw [h] at z
        simp only [List.length_cons] at z
        exact Ev.ite_true (by omega) (Ev.now _)
  | n + 1, acc, s, hn => by
    have hw : wrap64 (((n + 1 : Nat) : Int) - 1) = (n : Int) := by unfold wrap64; omega
    refine Ev.step (f := fun k => value_Unpack.j2 k ((n + 1 : Nat) : Int) acc true s false) (fun k => ?_) ?_
    · simp only [value_Unpack.l0]
      rw [if_pos (by omega)]
      rfl
    refine Ev.step (f := fun k => ((value_scanner_byte.f s false).bind fun bt213 => (if bt213.1 = 0 then ((value_None.f).bind fun bt216 => (if acc.length < 4398046511104 then (value_Unpack.l0 k (wrap64 (((n + 1 : Nat) : Int) - 1)) (acc ++ [(⟨bt216.1, bt216.2.1, bt216.2.2⟩ : S38)]) bt213.2.1 bt213.2.2) else (none))) else (if bt213.1 = 1 then ((value_scanner_byte.f bt213.2.1 bt213.2.2).bind fun bt222 => (if bt222.2.2 = true then ((value_Flag.f (bt222.1 == 1)).bind fun bt225 => (if acc.length < 4398046511104 then (value_Unpack.l0 k (wrap64 (((n + 1 : Nat) : Int) - 1)) (acc ++ [(⟨bt225.1, bt225.2.1, bt225.2.2⟩ : S38)]) bt222.2.1 true) else (none))) else ((value_Flag.f (bt222.1 == 1)).bind fun bt231 => (if acc.length < 4398046511104 then (value_Unpack.l0 k (wrap64 (((n + 1 : Nat) : Int) - 1)) (acc ++ [(⟨bt231.1, bt231.2.1, bt231.2.2⟩ : S38)]) bt222.2.1 (decide (bt222.1 > 1))) else (none))))) else (if bt213.1 = 2 then ((value_scanner_long.f bt213.2.1 bt213.2.2).bind fun bt237 => ((value_Of.f (wrap64 (bt237.1))).bind fun bt240 => (if acc.length < 4398046511104 then (value_Unpack.l0 k (wrap64 (((n + 1 : Nat) : Int) - 1)) (acc ++ [(⟨bt240.1, bt240.2.1, bt240.2.2⟩ : S38)]) bt237.2.1 bt237.2.2) else (none)))) else (if bt213.1 = 3 then ((value_scanner_byte.f bt213.2.1 bt213.2.2).bind fun bt246 => ((value_scanner_byte.f bt246.2.1 bt246.2.2).bind fun bt249 => (if bt249.2.2 = true then ((value_scanner_take.f bt249.2.1 true (Go.bits .or .i64 (wrap64 (bt246.1 * 256)) bt249.1)).bind fun bt252 => ((value_Str.f bt252.1).bind fun bt255 => (if acc.length < 4398046511104 then (value_Unpack.l0 k (wrap64 (((n + 1 : Nat) : Int) - 1)) (acc ++ [(⟨bt255.1, bt255.2.1, bt255.2.2⟩ : S38)]) bt252.2.1 bt252.2.2) else (none)))) else ((value_scanner_take.f bt249.2.1 (decide ((Go.bits .or .i64 (wrap64 (bt246.1 * 256)) bt249.1) > 1000)) (Go.bits .or .i64 (wrap64 (bt246.1 * 256)) bt249.1)).bind fun bt261 => ((value_Str.f bt261.1).bind fun bt264 => (if acc.length < 4398046511104 then (value_Unpack.l0 k (wrap64 (((n + 1 : Nat) : Int) - 1)) (acc ++ [(⟨bt264.1, bt264.2.1, bt264.2.2⟩ : S38)]) bt261.2.1 bt261.2.2) else (none))))))) else (value_Unpack.l0 k (wrap64 (((n + 1 : Nat) : Int) - 1)) acc bt213.2.1 true))))))) (fun k => ?_) ?_
    · simp [value_Unpack.j2]
    rw [hw]
    have ih := fun v s' => unpack_l0 n (acc ++ [v]) s' (by simp; omega)
    have hlim : acc.length < 4398046511104 := by omega
    have good : ∀ v s' r b, b = s.data.toList → item b = some (v, r) → s'.data.toList = r → Ev (fun k => value_Unpack.l0 k (n : Int) (acc ++ [v]) s' false) (said acc (unp (n + 1) s.data.toList)) := by
      rintro v s' r b rfl h1 rfl
      rw [unp_some h1]
      exact ih v s'
    have bad : ∀ b, b = s.data.toList → item b = none → ∀ acc' s', Ev (fun k => value_Unpack.l0 k (n : Int) acc' s' true) (said acc (unp (n + 1) s.data.toList)) := by
      rintro b rfl h1 acc' s'
      rw [unp_none h1]
      exact bad_l0 _ _ _
    cases h : s.data.toList with
    | nil =>
      rw [h] at good bad
      refine Ev.some_bind (byte_out s false h) (Ev.ite_true rfl (Ev.some_bind rfl (Ev.ite_true hlim ?_)))
      exact bad _ rfl rfl _ _
    | cons x r =>
      rw [h] at good bad
      obtain ⟨s', hs', e⟩ := byte_is s false x r h
      refine Ev.some_bind e ?_
      simp only
      by_cases c0 : x = 0
      · subst c0
        refine Ev.ite_true rfl (Ev.some_bind rfl (Ev.ite_true hlim ?_))
        exact good _ _ r _ rfl rfl hs'
      · refine Ev.ite_false (fun k => c0 ((u8_is x 0 (by decide)).1 k)) ?_
        by_cases c1 : x = 1
        · subst c1
          refine Ev.ite_true rfl ?_
          cases r with
          | nil =>
            refine Ev.some_bind (byte_out s' false hs') (Ev.ite_true rfl (Ev.some_bind (flag_is _) (Ev.ite_true hlim ?_)))
            exact bad _ rfl rfl _ _
          | cons y r =>
            obtain ⟨s2, hs2, e2⟩ := byte_is s' false y r hs'
            refine Ev.some_bind e2 (Ev.ite_false Bool.false_ne_true (Ev.some_bind (flag_is _) (Ev.ite_true hlim ?_)))
            simp only
            by_cases cy : y.toNat ≤ 1
            · have d : decide ((y.toNat : Int) > 1) = false := decide_eq_false (by omega)
              have ev : (if ((y.toNat : Int) == 1) = true then (1 : Int) else 0) = (y.toNat : Int) := by
                by_cases e1 : y.toNat = 1
                · rw [e1]; rfl
                · have : y.toNat = 0 := by omega
                  rw [this]; rfl
              rw [d, ev]
              refine good _ _ r _ rfl ?_ hs2
              simp only [item]
              rw [if_neg (by decide), if_pos trivial, if_pos cy]
            · have d : decide ((y.toNat : Int) > 1) = true := decide_eq_true (by omega)
              rw [d]
              refine bad _ rfl ?_ _ _
              simp only [item]
              rw [if_neg (by decide), if_pos trivial, if_neg cy]
        · refine Ev.ite_false (fun k => c1 ((u8_is x 1 (by decide)).1 k)) ?_
          by_cases c2 : x = 2
          · subst c2
            refine Ev.ite_true rfl ?_
            by_cases c8 : r.length < 8
            · refine Ev.some_bind (long_out s' false (by rw [hs']; exact c8)) (Ev.some_bind rfl (Ev.ite_true hlim ?_))
              refine bad _ rfl ?_ _ _
              simp only [item]
              rw [if_neg (by decide), if_neg (by decide), if_pos trivial, if_pos c8]
            · obtain ⟨s2, hs2, e2⟩ := long_is' s' false (by rw [hs']; omega)
              rw [hs'] at hs2 e2
              refine Ev.some_bind e2 (Ev.some_bind rfl (Ev.ite_true hlim ?_))
              refine good _ _ (r.drop 8) _ rfl ?_ hs2
              simp only [item]
              rw [if_neg (by decide), if_neg (by decide), if_pos trivial, if_neg c8]
          · refine Ev.ite_false (fun k => c2 ((u8_is x 2 (by decide)).1 k)) ?_
            by_cases c3 : x = 3
            · subst c3
              refine Ev.ite_true rfl ?_
              cases r with
              | nil =>
                obtain ⟨t, u, e4⟩ := take_bad E0 (Go.bits .or .i64 (wrap64 (0 * 256)) 0)
                refine Ev.some_bind (byte_out s' false hs') (Ev.some_bind (byte_out E0 true rfl) (Ev.ite_true rfl (Ev.some_bind e4 (Ev.some_bind rfl (Ev.ite_true hlim ?_)))))
                exact bad _ rfl rfl _ _
              | cons y r =>
                obtain ⟨s2, hs2, e2⟩ := byte_is s' false y r hs'
                refine Ev.some_bind e2 ?_
                cases r with
                | nil =>
                  obtain ⟨t, u, e4⟩ := take_bad E0 (Go.bits .or .i64 (wrap64 ((y.toNat : Int) * 256)) 0)
                  refine Ev.some_bind (byte_out s2 false hs2) (Ev.ite_true rfl (Ev.some_bind e4 (Ev.some_bind rfl (Ev.ite_true hlim ?_))))
                  exact bad _ rfl rfl _ _
                | cons z r =>
                  obtain ⟨s3, hs3, e3⟩ := byte_is s2 false z r hs2
                  refine Ev.some_bind e3 (Ev.ite_false Bool.false_ne_true ?_)
                  simp only
                  rw [or_is]
                  have zr : s3.size = r.length := size_in hs3
                  generalize hN : y.toNat * 256 + z.toNat = N
                  have hi : 1000 < N ∨ r.length < N → item (3 :: y :: z :: r) = none := by
                    intro hh
                    simp only [item]
                    rw [if_neg (by decide), if_neg (by decide), if_neg (by decide), if_pos trivial, hN, if_pos hh]
                  by_cases cN : 1000 < N
                  · have d : decide ((N : Int) > 1000) = true := decide_eq_true (by omega)
                    rw [d]
                    obtain ⟨t, u, e4⟩ := take_bad s3 (N : Int)
                    refine Ev.some_bind e4 (Ev.some_bind rfl (Ev.ite_true hlim ?_))
                    exact bad _ rfl (hi (.inl cN)) _ _
                  · have d : decide ((N : Int) > 1000) = false := decide_eq_false (by omega)
                    rw [d]
                    by_cases cr : r.length < N
                    · refine Ev.some_bind (take_out s3 false (N : Int) (by omega)) (Ev.some_bind rfl (Ev.ite_true hlim ?_))
                      exact bad _ rfl (hi (.inr cr)) _ _
                    · obtain ⟨t, u, e4, ht, hu⟩ := take_is s3 false (N : Int) (by omega) (by omega)
                      refine Ev.some_bind e4 (Ev.some_bind rfl (Ev.ite_true hlim ?_))
                      have et : t = ⟨(r.take N).toArray⟩ := data_inj (by rw [ht, hs3, Int.toNat_natCast])
                      subst et
                      refine good _ _ (r.drop N) _ rfl ?_ (by rw [hu, hs3, Int.toNat_natCast])
                      simp only [item]
                      rw [if_neg (by decide), if_neg (by decide), if_neg (by decide), if_pos trivial, hN, if_neg (by omega)]
            · refine Ev.ite_false (fun k => c3 ((u8_is x 3 (by decide)).1 k)) ?_
              refine bad _ rfl ?_ _ _
              simp only [item]
              rw [if_neg c0, if_neg c1, if_neg c2, if_neg c3]
theorem Unpack_is (s : ByteArray) : Ev (fun k => value_Unpack.f k s) (said [] (unpS s.data.toList)) := by
  unfold value_Unpack.f
  cases h : s.data.toList with
  | nil =>
    refine Ev.some_bind (byte_out s false h) (Ev.ite_true rfl (Ev.step (f := fun k => value_Unpack.l0 k 0 [] E0 true) (fun k => rfl) (bad_l0 _ _ _)))
  | cons x r =>
    obtain ⟨s', hs', e⟩ := byte_is s false x r h
    refine Ev.some_bind e (Ev.ite_false Bool.false_ne_true ?_)
    simp only
    have hx : x.toNat < 256 := x.toNat_lt
    by_cases c : 64 < x.toNat
    · have d : decide ((x.toNat : Int) > 64) = true := decide_eq_true (by omega)
      rw [d]
      refine Ev.step (f := fun k => value_Unpack.l0 k (x.toNat : Int) [] s' true) (fun k => rfl) ?_
      simp only [unpS]
      rw [if_pos c]
      exact bad_l0 _ _ _
    · have d : decide ((x.toNat : Int) > 64) = false := decide_eq_false (by omega)
      rw [d]
      refine Ev.step (f := fun k => value_Unpack.l0 k (x.toNat : Int) [] s' false) (fun k => rfl) ?_
      simp only [unpS]
      rw [if_neg c, ← hs']
      exact unpack_l0 x.toNat [] s' (by simp; omega)
def lv (x : Nat) (t : List UInt8) : S38 := if x = 1 then ⟨1, if t = [1] then 1 else 0, E0⟩ else if x = 2 then ⟨2, wrap64 (val8 t 0), E0⟩ else if x = 3 then ⟨3, 0, ⟨t.toArray⟩⟩ else ⟨0, 0, E0⟩
def CL (v : S38) : Prop := ∃ x t, v = lv x t ∧ (x = 2 → t.length = 8)
theorem enc_item {v : S38} (h : CL v) (hn : ¬ (v.f0 = 3 ∧ 1000 < v.f2.size)) (r : List UInt8) : item ((enc v).map b8 ++ r) = some (v, r) := by
  obtain ⟨x, t, rfl, h8⟩ := h
  by_cases c1 : x = 1
  · subst c1
    by_cases e : t = [1]
    · subst e; rfl
    · have : lv 1 t = ⟨1, 0, E0⟩ := by simp [lv, e]
      rw [this]; rfl
  · by_cases c2 : x = 2
    · subst c2
      have e : lv 2 t = ⟨2, wrap64 (val8 t 0), E0⟩ := rfl
      rw [e]
      have e2 : (enc ⟨2, wrap64 (val8 t 0), E0⟩).map b8 ++ r = 2 :: (t ++ r) := by
        unfold enc
        rw [if_neg (show ¬ ((2 : Int) = 1) by decide), if_pos rfl, List.map_cons, be8_val t (h8 rfl)]
        rfl
      rw [e2]
      have l8 := h8 rfl
      simp only [item]
      rw [if_neg (by decide), if_neg (by decide), if_pos trivial, if_neg (by rw [List.length_append]; omega)]
      rw [List.take_append_of_le_length (by omega), List.take_of_length_le (by omega), List.drop_append_of_le_length (by omega), List.drop_of_length_le (by omega)]
      rfl
    · by_cases c3 : x = 3
      · subst c3
        have e : lv 3 t = ⟨3, 0, ⟨t.toArray⟩⟩ := rfl
        rw [e] at hn ⊢
        have zt : (⟨t.toArray⟩ : ByteArray).size = t.length := size_in rfl
        have l1 : t.length ≤ 1000 := by
          rw [zt] at hn
          exact Nat.not_lt.1 (fun k => hn ⟨rfl, k⟩)
        have e2 : (enc ⟨3, 0, ⟨t.toArray⟩⟩).map b8 ++ r = 3 :: b8 ((t.length : Int) / 256 % 256) :: b8 ((t.length : Int) % 256) :: (t ++ r) := by
          unfold enc
          rw [if_neg (show ¬ ((3 : Int) = 1) by decide), if_neg (show ¬ ((3 : Int) = 2) by decide), if_pos rfl]
          simp only [List.map_cons, zt]
          rw [bytesOf_b8]
          rfl
        rw [e2]
        have n1 := b8_to ((t.length : Int) / 256 % 256) (by omega) (by omega)
        have n2 := b8_to ((t.length : Int) % 256) (by omega) (by omega)
        have hN : (b8 ((t.length : Int) / 256 % 256)).toNat * 256 + (b8 ((t.length : Int) % 256)).toNat = t.length := by omega
        simp only [item]
        rw [if_neg (by decide), if_neg (by decide), if_neg (by decide), if_pos trivial, hN, if_neg (by rw [List.length_append]; omega)]
        rw [List.take_append_of_le_length (by omega), List.take_of_length_le (by omega), List.drop_append_of_le_length (by omega), List.drop_of_length_le (by omega)]
        rfl
      · have : lv x t = ⟨0, 0, E0⟩ := by unfold lv; rw [if_neg c1, if_neg c2, if_neg c3]
        rw [this]; rfl
theorem enc_items : ∀ (l : List S38) {e : List Int}, (∀ v ∈ l, CL v) → packL l = some e → items l.length (e.map b8) = some (l, [])
  | [], e, h, hp => by cases hp; rfl
  | v :: l, e, h, hp => by
    simp only [packL] at hp
    split at hp
    · cases hp
    · next hn =>
      obtain ⟨e', he, rfl⟩ := Option.map_eq_some_iff.1 hp
      have ih := enc_items l (fun v hv => h v (List.mem_cons_of_mem _ hv)) he
      simp only [List.length_cons, items, List.map_append]
      rw [enc_item (h v (List.mem_cons_self ..)) hn]
      simp only [Option.bind_some, ih, Option.map_some]
end R
def thenC (a b : Int) : Int := if a = 0 then b else a
theorem thenC_ne {a : Int} (h : a ≠ 0) (b : Int) : thenC a b = a := if_neg h
theorem head_lt {x y : UInt8} (h : x < y) (a b : List UInt8) : Lib.compareBytes (x :: a) (y :: b) = -1 := by
  simp only [Lib.compareBytes]
  rw [if_pos h]
theorem head_gt {x y : UInt8} (h : y < x) (a b : List UInt8) : Lib.compareBytes (x :: a) (y :: b) = 1 := by
  have h2 : ¬ x < y := fun e => by
    rw [UInt8.lt_iff_toNat_lt] at h e
    omega
  simp only [Lib.compareBytes]
  rw [if_neg h2, if_pos h]
theorem head_eq (x : UInt8) (a b : List UInt8) : Lib.compareBytes (x :: a) (x :: b) = Lib.compareBytes a b := by
  have h2 : ¬ x < x := fun e => by
    rw [UInt8.lt_iff_toNat_lt] at e
    omega
  simp only [Lib.compareBytes]
  rw [if_neg h2, if_neg h2]
theorem u8_pos {x : UInt8} (h : ¬ x = 0) : (0 : UInt8) < x := by
  rw [UInt8.lt_iff_toNat_lt]
  have : x.toNat ≠ 0 := fun e => h (UInt8.toNat_inj.1 e)
  show (0 : Nat) < _
  omega
theorem u8_three (x y : UInt8) : x = y ∨ x < y ∨ y < x := by
  by_cases h1 : x < y
  · exact .inr (.inl h1)
  · by_cases h2 : y < x
    · exact .inr (.inr h2)
    · left
      apply UInt8.toNat_inj.1
      rw [UInt8.lt_iff_toNat_lt] at h1 h2
      omega
theorem cmp_esc : ∀ (t u r s : List UInt8), Lib.compareBytes (esc t ++ 0 :: 1 :: r) (esc u ++ 0 :: 1 :: s) = thenC (Lib.compareBytes t u) (Lib.compareBytes r s)
  | [], [], r, s => by
    show Lib.compareBytes (0 :: 1 :: r) (0 :: 1 :: s) = _
    rw [head_eq, head_eq]
    rfl
  | [], y :: u, r, s => by
    have e : Lib.compareBytes ([] : List UInt8) (y :: u) = -1 := rfl
    rw [e, thenC_ne (by decide)]
    by_cases hy : y = 0
    · subst hy
      rw [esc, esc, if_pos rfl]
      show Lib.compareBytes (0 :: 1 :: r) (0 :: 255 :: (esc u ++ 0 :: 1 :: s)) = _
      rw [head_eq, head_lt (by decide)]
    · rw [esc, esc, if_neg hy]
      exact head_lt (u8_pos hy) _ _
  | x :: t, [], r, s => by
    have e : Lib.compareBytes (x :: t) ([] : List UInt8) = 1 := rfl
    rw [e, thenC_ne (by decide)]
    by_cases hx : x = 0
    · subst hx
      rw [esc, esc, if_pos rfl]
      show Lib.compareBytes (0 :: 255 :: (esc t ++ 0 :: 1 :: r)) (0 :: 1 :: s) = _
      rw [head_eq, head_gt (by decide)]
    · rw [esc, esc, if_neg hx]
      exact head_gt (u8_pos hx) _ _
  | x :: t, y :: u, r, s => by
    have ih := cmp_esc t u r s
    rcases u8_three x y with rfl | h | h
    · rw [head_eq, ← ih]
      by_cases hx : x = 0
      · subst hx
        rw [esc, esc, if_pos rfl, if_pos rfl]
        show Lib.compareBytes (0 :: 255 :: (esc t ++ 0 :: 1 :: r)) (0 :: 255 :: (esc u ++ 0 :: 1 :: s)) = _
        rw [head_eq, head_eq]
      · rw [esc, esc, if_neg hx, if_neg hx]
        exact head_eq _ _ _
    · have hy : ¬ y = 0 := fun e => by
        rw [e, UInt8.lt_iff_toNat_lt] at h
        exact absurd h (Nat.not_lt_zero _)
      rw [head_lt h, thenC_ne (by decide), esc, esc, if_neg hy]
      by_cases hx : x = 0
      · rw [if_pos hx]
        exact head_lt (u8_pos hy) _ _
      · rw [if_neg hx]
        exact head_lt h _ _
    · have hx : ¬ x = 0 := fun e => by
        rw [e, UInt8.lt_iff_toNat_lt] at h
        exact absurd h (Nat.not_lt_zero _)
      rw [head_gt h, thenC_ne (by decide), esc, esc, if_neg hx]
      by_cases hy : y = 0
      · rw [if_pos hy]
        exact head_gt (u8_pos hx) _ _
      · rw [if_neg hy]
        exact head_gt h _ _
theorem val8_low : ∀ (l : List UInt8) (n : Int), n * 256 ^ l.length ≤ val8 l n
  | [], n => by simp [val8]
  | b :: l, n => by
    have ih := val8_low l (n * 256 + (b.toNat : Int))
    have hp : (0 : Int) ≤ 256 ^ l.length := Int.pow_nonneg (by decide)
    have hb : (0 : Int) ≤ (b.toNat : Int) * 256 ^ l.length := Int.mul_nonneg (by omega) hp
    rw [Int.add_mul] at ih
    rw [List.length_cons, Int.pow_succ, Int.mul_comm (256 ^ l.length) 256, ← Int.mul_assoc]
    show _ ≤ val8 l (n * 256 + (b.toNat : Int))
    omega
theorem cmp_be : ∀ (p q r s : List UInt8) (n : Int), 0 ≤ n → p.length = q.length → Lib.compareBytes (p ++ r) (q ++ s) = thenC (cmpI (val8 p n) (val8 q n)) (Lib.compareBytes r s)
  | [], [], r, s, n, hn, h => by
    have : cmpI (val8 [] n) (val8 [] n) = 0 := by unfold cmpI; rw [if_neg (by omega), if_neg (by omega)]
    rw [this]
    rfl
  | x :: p, y :: q, r, s, n, hn, h => by
    have hl : p.length = q.length := Nat.succ.inj h
    have hp : (1 : Int) ≤ 256 ^ p.length := Int.pow_pos (by decide)
    show Lib.compareBytes (x :: (p ++ r)) (y :: (q ++ s)) = thenC (cmpI (val8 p (n * 256 + (x.toNat : Int))) (val8 q (n * 256 + (y.toNat : Int)))) _
    rcases u8_three x y with rfl | hxy | hxy
    · rw [head_eq]
      exact cmp_be p q r s _ (by omega) hl
    · rw [head_lt hxy]
      rw [UInt8.lt_iff_toNat_lt] at hxy
      have h1 := (val8_range p (n * 256 + (x.toNat : Int)) (n * 256 + (x.toNat : Int) + 1) (by omega) (by omega)).2
      have h2 := val8_low q (n * 256 + (y.toNat : Int))
      rw [← hl] at h2
      have h3 : (n * 256 + (x.toNat : Int) + 1) * 256 ^ p.length ≤ (n * 256 + (y.toNat : Int)) * 256 ^ p.length := Int.mul_le_mul_of_nonneg_right (by omega) (by omega)
      have : cmpI (val8 p (n * 256 + (x.toNat : Int))) (val8 q (n * 256 + (y.toNat : Int))) = -1 := by unfold cmpI; rw [if_pos (by omega)]
      rw [this]
      rfl
    · rw [head_gt hxy]
      rw [UInt8.lt_iff_toNat_lt] at hxy
      have h1 := (val8_range q (n * 256 + (y.toNat : Int)) (n * 256 + (y.toNat : Int) + 1) (by omega) (by omega)).2
      have h2 := val8_low p (n * 256 + (x.toNat : Int))
      rw [← hl] at h1
      have h3 : (n * 256 + (y.toNat : Int) + 1) * 256 ^ p.length ≤ (n * 256 + (x.toNat : Int)) * 256 ^ p.length := Int.mul_le_mul_of_nonneg_right (by omega) (by omega)
      have : cmpI (val8 p (n * 256 + (x.toNat : Int))) (val8 q (n * 256 + (y.toNat : Int))) = 1 := by unfold cmpI; rw [if_neg (by omega), if_pos (by omega)]
      rw [this]
      rfl
theorem val8_be8 (x : Int) (h0 : 0 ≤ x) (h1 : x < 18446744073709551616) : val8 ((be8 x).map b8) 0 = x := by
  have s : ∀ (i : Int) (n : Nat) (d : Int), i.toNat = n → n ≤ 64 → (2 : Int) ^ n = d → shr .u64 x i = x / d := by
    intro i n d h1 h2 h3
    unfold shr
    rw [h1, show IntKind.u64.bits = 64 from rfl, Nat.min_eq_left h2, h3]
  simp only [be8, List.map_cons, List.map_nil, val8, List.foldl_cons, List.foldl_nil]
  rw [s 56 56 72057594037927936 rfl (by decide) rfl, s 48 48 281474976710656 rfl (by decide) rfl, s 40 40 1099511627776 rfl (by decide) rfl, s 32 32 4294967296 rfl (by decide) rfl, s 24 24 16777216 rfl (by decide) rfl, s 16 16 65536 rfl (by decide) rfl, s 8 8 256 rfl (by decide) rfl, s 0 0 1 rfl (by decide) rfl]
  rw [b8_to _ (by omega) (by omega), b8_to _ (by omega) (by omega), b8_to _ (by omega) (by omega), b8_to _ (by omega) (by omega), b8_to _ (by omega) (by omega), b8_to _ (by omega) (by omega), b8_to _ (by omega) (by omega), b8_to _ (by omega) (by omega)]
  omega
def In64 (x : Int) : Prop := -9223372036854775808 ≤ x ∧ x < 9223372036854775808
theorem ku_in {x : Int} (h : In64 x) : ku x = x + 9223372036854775808 := by
  obtain ⟨h1, h2⟩ := h
  unfold ku
  rw [IntKind.wrap_u64, IntKind.wrap_u64]
  omega
theorem cmp_num {x y : Int} (hx : In64 x) (hy : In64 y) (r s : List UInt8) : Lib.compareBytes ((be8 (ku x)).map b8 ++ r) ((be8 (ku y)).map b8 ++ s) = thenC (cmpI x y) (Lib.compareBytes r s) := by
  have rx := ku_range x
  have ry := ku_range y
  rw [cmp_be _ _ r s 0 (by decide) (by simp [be8]), val8_be8 _ rx.1 rx.2, val8_be8 _ ry.1 ry.2, ku_in hx, ku_in hy]
  congr 1
  unfold cmpI
  by_cases h1 : x < y
  · rw [if_pos (by omega), if_pos h1]
  · rw [if_neg (by omega), if_neg h1]
    by_cases h2 : x > y
    · rw [if_pos (by omega), if_pos h2]
    · rw [if_neg (by omega), if_neg h2]
theorem kb_cases (v : S38) (hv : In64 v.f1) : (clS v = (0, 0, E0) ∧ kb v = [1]) ∨ (clS v = (1, 0, E0) ∧ kb v = [2]) ∨ (clS v = (1, 1, E0) ∧ kb v = [3]) ∨
    (∃ n, In64 n ∧ clS v = (2, n, E0) ∧ kb v = 4 :: (be8 (ku n)).map b8) ∨ (∃ t : ByteArray, clS v = (3, 0, t) ∧ kb v = 5 :: (esc t.data.toList ++ [0, 1])) := by
  unfold clS cl kb
  by_cases h1 : v.f0 = 1
  · rw [if_pos h1, if_pos h1]
    by_cases h : v.f1 = 0
    · rw [if_pos h, if_pos h]; exact .inr (.inl ⟨rfl, rfl⟩)
    · rw [if_neg h, if_neg h]; exact .inr (.inr (.inl ⟨rfl, rfl⟩))
  · rw [if_neg h1, if_neg h1]
    by_cases h2 : v.f0 = 2
    · rw [if_pos h2, if_pos h2]; exact .inr (.inr (.inr (.inl ⟨_, hv, rfl, rfl⟩)))
    · rw [if_neg h2, if_neg h2]
      by_cases h3 : v.f0 = 3
      · rw [if_pos h3, if_pos h3]; exact .inr (.inr (.inr (.inr ⟨_, rfl, rfl⟩)))
      · rw [if_neg h3, if_neg h3]; exact .inl ⟨rfl, rfl⟩
theorem ord_kind {x y : Int × Int × ByteArray} (h : x.1 ≠ y.1) : ord x y = cmpI x.1 y.1 := if_neg h
theorem less_kind {x y : Int × Int × ByteArray} (h : x.1 < y.1) : ord x y = -1 := by rw [ord_kind (by omega)]; exact if_pos h
theorem more_kind {x y : Int × Int × ByteArray} (h : y.1 < x.1) : ord x y = 1 := by rw [ord_kind (by omega)]; unfold cmpI; rw [if_neg (by omega), if_pos h]
theorem same_kind {x y : Int × Int × ByteArray} (h : x.1 = y.1) (h3 : x.1 ≠ 3) : ord x y = cmpI x.2.1 y.2.1 := by unfold ord; rw [if_pos h, if_neg h3]
theorem both_texts (a b : ByteArray) : ord (3, 0, a) (3, 0, b) = Lib.compareBytes a.data.toList b.data.toList := rfl
theorem cmp_kb (v w : S38) (hv : In64 v.f1) (hw : In64 w.f1) (r s : List UInt8) : Lib.compareBytes (kb v ++ r) (kb w ++ s) = thenC (ord (clS v) (clS w)) (Lib.compareBytes r s) := by
  have lt : ∀ {x y : UInt8} {a b : List UInt8} {p q : Int × Int × ByteArray}, x < y → ord p q = -1 → Lib.compareBytes (x :: a) (y :: b) = thenC (ord p q) (Lib.compareBytes r s) := by
    intro x y a b p q h1 h2
    rw [head_lt h1, h2]
    rfl
  have gt : ∀ {x y : UInt8} {a b : List UInt8} {p q : Int × Int × ByteArray}, y < x → ord p q = 1 → Lib.compareBytes (x :: a) (y :: b) = thenC (ord p q) (Lib.compareBytes r s) := by
    intro x y a b p q h1 h2
    rw [head_gt h1, h2]
    rfl
  have eq : ∀ {x : UInt8} {p q : Int × Int × ByteArray}, ord p q = 0 → Lib.compareBytes (x :: r) (x :: s) = thenC (ord p q) (Lib.compareBytes r s) := by
    intro x p q h
    rw [head_eq, h]
    rfl
  rcases kb_cases v hv with ⟨e1, e2⟩ | ⟨e1, e2⟩ | ⟨e1, e2⟩ | ⟨n, hn, e1, e2⟩ | ⟨t, e1, e2⟩ <;> rcases kb_cases w hw with ⟨g1, g2⟩ | ⟨g1, g2⟩ | ⟨g1, g2⟩ | ⟨m, hm, g1, g2⟩ | ⟨u, g1, g2⟩ <;> rw [e1, e2, g1, g2]
  · exact eq rfl
  · exact lt (by decide) (less_kind (by decide))
  · exact lt (by decide) (less_kind (by decide))
  · exact lt (by decide) (less_kind (show (0 : Int) < 2 by decide))
  · exact lt (by decide) (less_kind (show (0 : Int) < 3 by decide))
  · exact gt (by decide) (more_kind (by decide))
  · exact eq rfl
  · exact lt (by decide) (same_kind rfl (by decide))
  · exact lt (by decide) (less_kind (show (1 : Int) < 2 by decide))
  · exact lt (by decide) (less_kind (show (1 : Int) < 3 by decide))
  · exact gt (by decide) (more_kind (by decide))
  · exact gt (by decide) (same_kind rfl (by decide))
  · exact eq rfl
  · exact lt (by decide) (less_kind (show (1 : Int) < 2 by decide))
  · exact lt (by decide) (less_kind (show (1 : Int) < 3 by decide))
  · exact gt (by decide) (more_kind (show (0 : Int) < 2 by decide))
  · exact gt (by decide) (more_kind (show (1 : Int) < 2 by decide))
  · exact gt (by decide) (more_kind (show (1 : Int) < 2 by decide))
  · rw [same_kind (x := ((2 : Int), n, E0)) (y := ((2 : Int), m, E0)) rfl (show (2 : Int) ≠ 3 by decide)]
    show Lib.compareBytes (4 :: ((be8 (ku n)).map b8 ++ r)) (4 :: ((be8 (ku m)).map b8 ++ s)) = _
    rw [head_eq]
    exact cmp_num hn hm r s
  · exact lt (by decide) (less_kind (show (2 : Int) < 3 by decide))
  · exact gt (by decide) (more_kind (show (0 : Int) < 3 by decide))
  · exact gt (by decide) (more_kind (show (1 : Int) < 3 by decide))
  · exact gt (by decide) (more_kind (show (1 : Int) < 3 by decide))
  · exact gt (by decide) (more_kind (show (2 : Int) < 3 by decide))
  · rw [both_texts]
    show Lib.compareBytes (5 :: (esc t.data.toList ++ [0, 1] ++ r)) (5 :: (esc u.data.toList ++ [0, 1] ++ s)) = _
    rw [head_eq, List.append_assoc, List.append_assoc]
    exact cmp_esc _ _ r s
theorem kb_ne (v : S38) : ∃ x a, kb v = x :: a := by
  unfold kb
  split
  · exact ⟨_, _, rfl⟩
  · split
    · exact ⟨_, _, rfl⟩
    · split
      · exact ⟨_, _, rfl⟩
      · exact ⟨_, _, rfl⟩
theorem cmp_kbs : ∀ (l m : List S38), (∀ v ∈ l, In64 v.f1) → (∀ v ∈ m, In64 v.f1) → Lib.compareBytes (kbs l) (kbs m) = rowsO l m
  | [], [], _, _ => rfl
  | [], w :: m, _, _ => by
    obtain ⟨x, a, e⟩ := kb_ne w
    show Lib.compareBytes [] (kb w ++ kbs m) = -1
    rw [e]
    rfl
  | v :: l, [], _, _ => by
    obtain ⟨x, a, e⟩ := kb_ne v
    show Lib.compareBytes (kb v ++ kbs l) [] = 1
    rw [e]
    rfl
  | v :: l, w :: m, hl, hm => by
    show Lib.compareBytes (kb v ++ kbs l) (kb w ++ kbs m) = if ord (clS v) (clS w) = 0 then rowsO l m else ord (clS v) (clS w)
    rw [cmp_kb v w (hl v (by simp)) (hm w (by simp)), cmp_kbs l m (fun x hx => hl x (by simp [hx])) (fun x hx => hm x (by simp [hx]))]
    rfl
theorem sign_is (a b : List UInt8) : relstorekeep_sign.f (Op.bytesLess a b) (Op.bytesLess b a) = some (Lib.compareBytes a b) := by
  rw [compare_less]
  unfold relstorekeep_sign.f
  cases Op.bytesLess a b <;> cases Op.bytesLess b a <;> rfl
def cv (v : S38) : S38 := ⟨(clS v).1, (clS v).2.1, (clS v).2.2⟩
theorem kitem_kb (v : S38) (hv : In64 v.f1) (r : List UInt8) : kitem (kb v ++ r) = some (cv v, r) := by
  unfold cv
  rcases kb_cases v hv with ⟨e1, e2⟩ | ⟨e1, e2⟩ | ⟨e1, e2⟩ | ⟨n, hn, e1, e2⟩ | ⟨t, e1, e2⟩ <;> rw [e1, e2]
  · rfl
  · rfl
  · rfl
  · have rn := ku_range n
    have l8 : ((be8 (ku n)).map b8).length = 8 := by simp [be8]
    show kitem (4 :: ((be8 (ku n)).map b8 ++ r)) = _
    simp only [kitem]
    rw [if_neg (by decide), if_neg (by decide), if_neg (by decide), if_pos trivial, if_neg (by rw [List.length_append]; omega), List.take_append_of_le_length (by omega), List.take_of_length_le (by omega), List.drop_append_of_le_length (by omega), List.drop_of_length_le (by omega), val8_be8 _ rn.1 rn.2]
    have : kn (ku n) = n := by
      obtain ⟨h1, h2⟩ := hn
      rw [ku_in ⟨h1, h2⟩]
      unfold kn
      rw [IntKind.wrap_u64]
      unfold wrap64
      omega
    rw [this]
    rfl
  · show kitem (5 :: (esc t.data.toList ++ [0, 1] ++ r)) = _
    simp only [kitem]
    rw [if_neg (by decide), if_neg (by decide), if_neg (by decide), if_neg (by decide), if_pos trivial, List.append_assoc]
    show Option.map _ (escRead (esc t.data.toList ++ 0 :: 1 :: r)) = _
    rw [esc_read]
    rfl
theorem keys_kbs : ∀ (n : Nat) (l : List S38), l.length ≤ n → (∀ v ∈ l, In64 v.f1) → keys n (kbs l) = some (l.map cv)
  | n, [], _, _ => by cases n <;> rfl
  | 0, v :: l, h, _ => absurd h (by simp)
  | n + 1, v :: l, h, hl => by
    have ih := keys_kbs n l (by simpa using h) (fun x hx => hl x (by simp [hx]))
    obtain ⟨x, a, e⟩ := kb_ne v
    have hk := kitem_kb v (hl v (by simp)) (kbs l)
    show keys (n + 1) (kb v ++ kbs l) = _
    rw [e] at hk ⊢
    simp only [List.cons_append, keys]
    rw [List.cons_append] at hk
    rw [hk]
    simp only [Option.bind_some, ih, Option.map_some, List.map_cons]
theorem pure_is (v : S38) : relstorekeep_pure.f v.f0 v.f1 v.f2 = some (clS v) := by
  unfold relstorekeep_pure.f clS cl
  by_cases h1 : v.f0 = 1
  · rw [if_pos h1, if_pos h1]
    by_cases h : v.f1 = 0
    · rw [if_pos h, if_pos h]
    · rw [if_neg h, if_neg h]
  · rw [if_neg h1, if_neg h1]
    by_cases h2 : v.f0 = 2
    · rw [if_pos h2, if_pos h2]
    · rw [if_neg h2, if_neg h2]
      by_cases h3 : v.f0 = 3
      · rw [if_pos h3, if_pos h3]
      · rw [if_neg h3, if_neg h3]
theorem clean_l0 {l : List S38} (hl : l.length ≤ 1048576) : ∀ (R A acc : List S38), l = A ++ R → acc.length = A.length → Ev (fun k => relstorekeep_clean.l0 k acc l (l.length : Int) (A.length : Int)) (acc ++ R.map cv)
  | [], A, acc, h1, hc => by
    have z1 := congrArg List.length h1
    simp at z1
    refine Ev.step (f := fun _ => some acc) (fun k => ?_) ?_
    · simp only [relstorekeep_clean.l0]
      rw [if_neg (by omega)]
    · simpa using Ev.now acc
  | v :: R, A, acc, h1, hc => by
    have z1 := congrArg List.length h1
    simp at z1
    have hv : rd_T38 l (A.length : Int) = v := getD_in h1
    have hw : wrap64 ((A.length : Int) + 1) = ((A ++ [v]).length : Int) := by rw [w64 (by omega) (by omega)]; simp
    have ih := clean_l0 hl R (A ++ [v]) (acc ++ [cv v]) (by simp [h1]) (by simp [hc])
    refine Ev.step (f := fun k => relstorekeep_clean.l0 k (acc ++ [cv v]) l (l.length : Int) ((A ++ [v]).length : Int)) (fun k => ?_) (by simpa using ih)
    simp only [relstorekeep_clean.l0]
    rw [if_pos (by omega), if_pos (by omega), if_pos (by omega), hv, pure_is, hw]
    simp only [Option.bind_some]
    rw [if_pos (by omega)]
    rfl
theorem clean_list {l : List S38} (hl : l.length ≤ 1048576) : Ev (fun k => relstorekeep_clean.f k l) (l.map cv) := clean_l0 hl l [] [] rfl rfl
theorem ksames_l0 {l : List S38} (hl : l.length ≤ 4611686018427387904) : ∀ (A A0 : List S38), l = A0 ++ A → Ev (fun k => relstorekeep_sameValues.l0 k l l (l.length : Int) (A0.length : Int)) true
  | [], A0, h1 => by
    have z1 := congrArg List.length h1
    simp at z1
    refine Ev.step (f := fun _ => some true) (fun k => ?_) (Ev.now _)
    simp only [relstorekeep_sameValues.l0]
    rw [if_neg (by omega)]
  | x :: A, A0, h1 => by
    have z1 := congrArg List.length h1
    simp at z1
    have ih := ksames_l0 hl A (A0 ++ [x]) (by simp [h1])
    refine Ev.step (f := fun k => relstorekeep_sameValues.l0 k l l (l.length : Int) ((A0 ++ [x]).length : Int)) (fun k => ?_) ih
    simp only [relstorekeep_sameValues.l0]
    rw [if_pos (by omega), if_pos (by omega), if_pos (by omega), if_pos (by omega)]
    rw [w64 (by omega) (by omega)]
    simp
theorem ksames_self {l : List S38} (hl : l.length ≤ 4611686018427387904) : Ev (fun k => relstorekeep_sameValues.f k l l) true := by
  unfold relstorekeep_sameValues.f
  exact Ev.ite_true rfl (ksames_l0 hl l [] rfl)
theorem enc_cv (v : S38) : R.enc (cv v) = R.enc v ∧ ((cv v).f0 = 3 ∧ 1000 < (cv v).f2.size ↔ v.f0 = 3 ∧ 1000 < v.f2.size) := by
  unfold cv clS cl R.enc
  by_cases h1 : v.f0 = 1
  · by_cases h : v.f1 = 0 <;> simp [h1, h]
  · by_cases h2 : v.f0 = 2
    · simp [h2]
    · by_cases h3 : v.f0 = 3
      · simp [h3]
      · simp [h1, h2, h3]
theorem pack_cv : ∀ l : List S38, R.packL (l.map cv) = R.packL l
  | [] => rfl
  | v :: l => by
    obtain ⟨e1, e2⟩ := enc_cv v
    simp only [List.map_cons, R.packL, pack_cv l, e1]
    by_cases h : v.f0 = 3 ∧ 1000 < v.f2.size
    · rw [if_pos h, if_pos (e2.2 h)]
    · rw [if_neg h, if_neg (fun k => h (e2.1 k))]
theorem cv_CL (v : S38) (hv : In64 v.f1) : R.CL (cv v) := by
  unfold cv clS cl
  by_cases h1 : v.f0 = 1
  · rw [if_pos h1]
    by_cases h : v.f1 = 0
    · rw [if_pos h]; exact ⟨1, [], rfl, fun e => absurd e (by decide)⟩
    · rw [if_neg h]; exact ⟨1, [1], rfl, fun e => absurd e (by decide)⟩
  · rw [if_neg h1]
    by_cases h2 : v.f0 = 2
    · rw [if_pos h2]
      have hr := wrap64u v.f1
      refine ⟨2, (be8 (IntKind.u64.wrap v.f1)).map b8, ?_, fun _ => by simp [be8]⟩
      show _ = (⟨2, wrap64 (val8 ((be8 (IntKind.u64.wrap v.f1)).map b8) 0), E0⟩ : S38)
      rw [val8_be8 _ hr.1 hr.2]
      have : wrap64 (IntKind.u64.wrap v.f1) = v.f1 := by
        obtain ⟨a, b⟩ := hv
        rw [IntKind.wrap_u64]
        unfold wrap64
        omega
      rw [this]
    · rw [if_neg h2]
      by_cases h3 : v.f0 = 3
      · rw [if_pos h3]; exact ⟨3, v.f2.data.toList, rfl, fun e => absurd e (by decide)⟩
      · rw [if_neg h3]; exact ⟨0, [], rfl, fun e => absurd e (by decide)⟩
theorem unpack_pack {l : List S38} (hl : ∀ v ∈ l, In64 v.f1) (h : (R.packS l).2 = 0) : R.unpS (R.packS l).1.data.toList = some (l.map cv) := by
  unfold R.packS at h ⊢
  cases he : R.packL l with
  | none => rw [he] at h; exact absurd (show (8 : Int) = 0 from h) (by decide)
  | some e =>
    rw [he] at h
    simp only at h ⊢
    by_cases c : 64 < l.length
    · rw [if_pos c] at h; exact absurd (show (8 : Int) = 0 from h) (by decide)
    · rw [if_neg c]
      have hi := R.enc_items (l.map cv) (fun v hv => by
        obtain ⟨x, hx, rfl⟩ := List.mem_map.1 hv
        exact cv_CL x (hl x hx)) ((pack_cv l).trans he)
      rw [List.length_map] at hi
      have hn : (b8 ((l.length : Int) % 256)).toNat = l.length := by
        have := b8_to ((l.length : Int) % 256) (by omega) (by omega)
        omega
      show R.unpS (b8 ((l.length : Int) % 256) :: e.map b8) = _
      unfold R.unpS
      simp only
      rw [hn, if_neg c]
      unfold R.unp
      rw [hi]
theorem packS_err (l : List S38) : (R.packS l).2 = 0 ∨ R.packS l = (⟨#[]⟩, 8) := by
  unfold R.packS
  cases R.packL l with
  | none => exact .inr rfl
  | some e =>
    simp only
    by_cases c : 64 < l.length
    · rw [if_pos c]; exact .inr rfl
    · rw [if_neg c]; exact .inl rfl
theorem ValueSorted (l m : List S38) (hl : l.length ≤ 1048576) (hm : m.length ≤ 1048576) (hx : ∀ v ∈ l, v.f2.size ≤ 1048576) (hy : ∀ v ∈ m, v.f2.size ≤ 1048576) (hi : ∀ v ∈ l, In64 v.f1) (hj : ∀ v ∈ m, In64 v.f1) (hk : (kbs l).length ≤ 16777216) : ∃ k, relstorekeep_ValueSorted.f k l m = some true := by
  refine Ev.rounds (r := true) ?_
  have hl' : l.length * 32 ≤ 140737488351232 := by omega
  have hU := Unkey_is (toB (kbs l)) (by rw [toB_size]; exact hk)
  have hkl : l.length ≤ (kbs l).length := by
    clear hU hk hi hx hl' hl
    induction l with
    | nil => exact Nat.zero_le _
    | cons v l ih =>
      obtain ⟨x, a, e⟩ := kb_ne v
      show l.length + 1 ≤ (kb v ++ kbs l).length
      rw [e, List.length_append]
      simp only [List.length_cons]
      omega
  rw [toB_size, toB_data, keys_kbs _ l hkl hi] at hU
  unfold relstorekeep_ValueSorted.f
  refine Ev.bind (Key_is hl hx) (Ev.bind (Key_is hm hy) ?_)
  rw [Lib.toList_data, Lib.toList_data, toB_data, toB_data]
  refine Ev.some_bind (sign_is _ _) (Ev.bind (Rows_is (by omega)) (Ev.ite_true (cmp_kbs l m hi hj) (Ev.some_bind (Order_is _ _ _ _ _ _) ?_)))
  rw [show (ord (cl 2 (-1) ⟨#[]⟩) (cl 2 1 ⟨#[]⟩) != -1) = false by decide]
  have last : Ev (fun k => relstorekeep_ValueSorted.j1 k l (!true)) true := by
    refine Ev.step (f := fun k => (value_Pack.f k l).bind fun bt340 => (if bt340.2 = 0 then ((value_Unpack.f k bt340.1).bind fun bt342 => (if bt342.2 = 0 then ((relstorekeep_clean.f k l).bind fun t346 => ((relstorekeep_sameValues.f k bt342.1 t346).bind fun t349 => (some t349))) else (some false))) else (if bt340.2 = 8 then (some (bt340.1.toList == ([] : List UInt8))) else (some false)))) (fun k => ?_) (Ev.bind (R.Pack_is hl') ?_)
    · simp [relstorekeep_ValueSorted.j1]
    rcases packS_err l with h | h
    · have hu := R.Unpack_is (R.packS l).1
      rw [unpack_pack hi h] at hu
      refine Ev.ite_true h (Ev.bind hu (Ev.ite_true rfl (Ev.bind (clean_list hl) ?_)))
      show Ev (fun k => (relstorekeep_sameValues.f k ([] ++ l.map cv) (l.map cv)).bind fun t => some t) true
      rw [List.nil_append]
      exact Ev.bind (ksames_self (by rw [List.length_map]; omega)) (Ev.now true)
    · rw [h]
      refine Ev.ite_false (by decide) (Ev.ite_true rfl ?_)
      rw [show ((⟨#[]⟩ : ByteArray).toList == ([] : List UInt8)) = true by rw [Lib.toList_data]; rfl]
      exact Ev.now true
  refine Ev.step (f := fun k => (value_Unkey.f k (toB (kbs l))).bind fun bt332 => (if bt332.2 = 0 then ((relstorekeep_clean.f k l).bind fun t336 => ((relstorekeep_sameValues.f k bt332.1 t336).bind fun t339 => (relstorekeep_ValueSorted.j1 k l (!t339)))) else (relstorekeep_ValueSorted.j1 k l true))) (fun k => ?_) (Ev.bind hU (Ev.ite_true rfl (Ev.bind (clean_list hl) ?_)))
  · simp [relstorekeep_ValueSorted.j0]
  show Ev (fun k => (relstorekeep_sameValues.f k ([] ++ l.map cv) (l.map cv)).bind fun t339 => relstorekeep_ValueSorted.j1 k l (!t339)) true
  rw [List.nil_append]
  exact Ev.bind (ksames_self (by rw [List.length_map]; omega)) last
end Go.Proofs.YthaoaaboempajabDoor.Sorted
