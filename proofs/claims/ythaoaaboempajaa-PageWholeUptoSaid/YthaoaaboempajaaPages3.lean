/- What any bytes are as a page, as the program and as the document's answer read them: both are one plain reading. -/
import Derived.Test.YthaoaaboempajaaPages2
namespace Go.Proofs.Ythaoaaboempajaa.Pages
open Go.RowKit Go.Proofs.Ythaoaaboempajaa.QPageSeals Go.Proofs.YthaoaaboempajaaW.PrintWords Go.Proofs.YthaoaaboempajaaW.PrintLast Go.Proofs.YthaoaaboempajaaE
set_option linter.unusedVariables false
set_option linter.unusedSimpArgs false
/-! ### numbers in bytes -/
theorem w_nat (n : Nat) (h : n ≤ 4611686018427387904) : wrap64 (n : Int) = (n : Int) := by unfold wrap64; omega
theorem w_add2 (i m : Nat) (h : i + 2 = m) (hm : m ≤ 4611686018427387904) : wrap64 ((i : Int) + 2) = (m : Int) := by unfold wrap64; omega
theorem w_add (a b m : Nat) (h : a + b = m) (hm : m ≤ 4611686018427387904) : wrap64 ((a : Int) + (b : Int)) = (m : Int) := by unfold wrap64; omega
theorem w_12 (i m : Nat) (h : 12 + 2 * i = m) (hm : m ≤ 1000000) : wrap64 (12 + wrap64 (2 * (i : Int))) = (m : Int) := by unfold wrap64; omega
theorem w_14 (i m : Nat) (h : 12 + 2 * i + 2 = m) (hm : m ≤ 1000000) : wrap64 (14 + wrap64 (2 * (i : Int))) = (m : Int) := by unfold wrap64; omega
theorem w_256 (a : Nat) (h : a < 65536) : wrap64 (wrap64 (a : Int) * 256) = ((a * 256 : Nat) : Int) := by unfold wrap64; omega
theorem w_65536 (a : Nat) (h : a < 65536) : wrap64 ((a : Int) * 65536) = ((a * 65536 : Nat) : Int) := by unfold wrap64; omega
def u8 (L : List UInt8) (i : Nat) : Nat := (L.getD i 0).toNat
def u16 (L : List UInt8) (i : Nat) : Nat := u8 L i * 256 + u8 L (i + 1)
def u32 (L : List UInt8) (i : Nat) : Nat := u16 L i * 65536 + u16 L (i + 2)
theorem u8_lt (L : List UInt8) (i : Nat) : u8 L i < 256 := by unfold u8; exact UInt8.toNat_lt _
theorem u16_lt (L : List UInt8) (i : Nat) : u16 L i < 65536 := by have := u8_lt L i; have := u8_lt L (i + 1); unfold u16; omega
theorem u32_lt (L : List UInt8) (i : Nat) : u32 L i < 4294967296 := by have := u16_lt L i; have := u16_lt L (i + 2); unfold u32; omega
theorem bt_u8 (s : ByteArray) (i : Nat) (h : i < s.size) : bt s (i : Int) = (u8 s.data.toList i : Nat) := by
  have hl : i < s.data.toList.length := by rw [data_length]; exact h
  have e := bt_in (s := s) (X := s.data.toList.take i) (x := s.data.toList[i]) (Y := s.data.toList.drop (i + 1)) (by rw [← List.drop_eq_getElem_cons hl, List.take_append_drop])
  rw [List.length_take, Nat.min_eq_left (by omega)] at e
  rw [e]
  simp [u8, List.getD_eq_getElem?_getD, List.getElem?_eq_getElem hl]
theorem or16 (a b : Nat) (ha : a < 65536 * 256) (hb : b < 256) : Go.bits .or .i64 (((a * 256 : Nat)) : Int) (b : Int) = ((a * 256 + b : Nat) : Int) := by
  have := bits_join .i64 63 (by decide) (fun n h0 h1 => IntWalk.i64_in _ (by omega)) 8 ((a * 256 : Nat) : Int) (b : Int) (by omega) (by omega) (by omega) (by omega) (by omega) (by omega)
  rw [this]
  omega
theorem or32 (a b : Nat) (ha : a < 65536) (hb : b < 65536) : Go.bits .or .i64 (((a * 65536 : Nat)) : Int) (b : Int) = ((a * 65536 + b : Nat) : Int) := by
  have := bits_join .i64 63 (by decide) (fun n h0 h1 => IntWalk.i64_in _ (by omega)) 16 ((a * 65536 : Nat) : Int) (b : Int) (by omega) (by omega) (by omega) (by omega) (by omega) (by omega)
  rw [this]
  omega
theorem or_bytes (a b : Nat) (h1 : a < 256) (h2 : b < 256) : some (Go.bits .or .i64 (wrap64 ((wrap64 (a : Int)) * 256)) (wrap64 (b : Int))) = some ((a * 256 + b : Nat) : Int) := by
  rw [w_256 _ (by omega), w_nat _ (by omega), or16 _ _ (by omega) h2]
theorem or_words (a b : Nat) (h1 : a < 65536) (h2 : b < 65536) : some (Go.bits .or .i64 (wrap64 ((a : Int) * 65536)) (b : Int)) = some ((a * 65536 + b : Nat) : Int) := by
  rw [w_65536 _ h1, or32 _ _ h1 h2]
theorem p_at16 (s : ByteArray) (i : Nat) (h : i + 1 < s.size) (hi : i ≤ 100000) : page_at16.f s (i : Int) = some ((u16 s.data.toList i : Nat) : Int) := by
  unfold u16 page_at16.f
  rw [wsucc i (i + 1) rfl (by omega), if_pos (by omega), if_pos (by omega), if_pos (by omega), if_pos (by omega), bt_u8 s i (by omega), bt_u8 s (i + 1) h]
  exact or_bytes _ _ (u8_lt _ _) (u8_lt _ _)
theorem at32_bind (s : ByteArray) (a b : Nat) (h1 : a < 65536) (h2 : b < 65536) (x y : Int) (hx : page_at16.f s x = some (a : Int)) (hy : page_at16.f s y = some (b : Int)) (he : wrap64 (x + 2) = y) : page_at32.f s x = some ((a * 65536 + b : Nat) : Int) := by
  unfold page_at32.f
  rw [hx]
  simp only [Option.bind_some]
  rw [he, hy]
  simp only [Option.bind_some]
  exact or_words a b h1 h2
theorem p_at32 (s : ByteArray) (i : Nat) (h : i + 3 < s.size) (hi : i ≤ 10000) : page_at32.f s (i : Int) = some ((u32 s.data.toList i : Nat) : Int) := by
  unfold u32
  exact at32_bind s _ _ (u16_lt _ _) (u16_lt _ _) _ ((i + 2 : Nat) : Int) (p_at16 s i (by omega) (by omega)) (p_at16 s (i + 2) (by omega) (by omega)) (w_add2 i (i + 2) rfl (by omega))
theorem r_un : ∀ (R Q : List UInt8) (t : ByteArray) (n : Nat), t.data.toList = Q ++ R → n < 256 ^ Q.length → Q.length + R.length ≤ 4 → ∀ k, R.length < k → relstoreref_unbytes.l0 k t (n : Int) (Q.length : Int) = some ((R.foldl (fun n b => n * 256 + b.toNat) n : Nat) : Int)
  | [], Q, t, n, h, hn, hl => fun k hk => by
    obtain ⟨k, rfl⟩ : ∃ m, k = m + 1 := ⟨k - 1, by omega⟩
    have hq := size_in h
    rw [List.append_nil] at hq
    simp only [relstoreref_unbytes.l0]
    rw [if_neg (by omega)]
    rfl
  | b :: R, Q, t, n, h, hn, hl => fun k hk => by
    obtain ⟨k, rfl⟩ : ∃ m, k = m + 1 := ⟨k - 1, by omega⟩
    have hq := size_in h
    rw [List.length_append] at hq
    simp only [List.length_cons] at hl hq hk
    have hb := b.toNat_lt
    have hp : 256 ^ (Q ++ [b]).length = 256 ^ Q.length * 256 := by rw [List.length_append]; rfl
    have hm : 256 ^ Q.length ≤ 256 ^ 3 := Nat.pow_le_pow_right (by decide) (by omega)
    have hm3 : (256 : Nat) ^ 3 = 16777216 := rfl
    have ih := r_un R (Q ++ [b]) t (n * 256 + b.toNat) (by simpa using h) (by rw [hp]; omega) (by simp only [List.length_append, List.length_cons, List.length_nil]; omega) k (by omega)
    simp only [relstoreref_unbytes.l0]
    rw [if_pos (by omega), if_pos (by omega), bt_in h, IntWalk.u64_in (256 * (n : Int)) (by omega), IntWalk.u64_in (b.toNat : Int) (by omega), show (256 * (n : Int) + (b.toNat : Int)) = ((n * 256 + b.toNat : Nat) : Int) by omega, IntWalk.u64_in _ (by omega)]
    rw [wsucc Q.length (Q ++ [b]).length (by simp) (by simp; omega)]
    rw [ih]
    rfl
theorem drop_get {L : List UInt8} {a : Nat} (h : a < L.length) : L.drop a = L.getD a 0 :: L.drop (a + 1) := by
  rw [List.drop_eq_getElem_cons h]
  congr 1
  simp [List.getD_eq_getElem?_getD, List.getElem?_eq_getElem h]
theorem drop_two {L : List UInt8} {a : Nat} (h : a + 1 < L.length) : (L.drop a).take 2 = [L.getD a 0, L.getD (a + 1) 0] := by
  rw [drop_get (by omega), drop_get h]
  rfl
theorem drop_four {L : List UInt8} {a : Nat} (h : a + 3 < L.length) : (L.drop a).take 4 = [L.getD a 0, L.getD (a + 1) 0, L.getD (a + 2) 0, L.getD (a + 3) 0] := by
  rw [drop_get (by omega), drop_get (by omega), drop_get (by omega), drop_get h]
  rfl
theorem extract_list (s : ByteArray) (a b : Nat) : (s.extract a b).data.toList = (s.data.toList.drop a).take (b - a) := by
  rw [ByteArray.data_extract, Array.toList_extract, List.extract_eq_take_drop]
theorem r_un2 (s : ByteArray) (a : Nat) (h : a + 1 < s.size) (k : Nat) (hk : 5 ≤ k) : relstoreref_unbytes.f k (s.extract a (a + 2)) = some ((u16 s.data.toList a : Nat) : Int) := by
  have hl : a + 1 < s.data.toList.length := by rw [data_length]; exact h
  have e := extract_list s a (a + 2)
  rw [show a + 2 - a = 2 by omega, drop_two hl] at e
  have := r_un _ [] _ 0 e (by decide) (by simp) k (by simp; omega)
  refine Eq.trans this ?_
  simp [u16, u8]
theorem four_eq (a b c d : Nat) : (((0 * 256 + a) * 256 + b) * 256 + c) * 256 + d = (a * 256 + b) * 65536 + (c * 256 + d) := by omega
theorem r_un4 (s : ByteArray) (a : Nat) (h : a + 3 < s.size) (k : Nat) (hk : 5 ≤ k) : relstoreref_unbytes.f k (s.extract a (a + 4)) = some ((u32 s.data.toList a : Nat) : Int) := by
  have hl : a + 3 < s.data.toList.length := by rw [data_length]; exact h
  have e := extract_list s a (a + 4)
  rw [show a + 4 - a = 4 by omega, drop_four hl] at e
  have := r_un _ [] _ 0 e (by decide) (by simp) k (by simp; omega)
  refine Eq.trans this ?_
  exact congrArg (fun n : Nat => some (n : Int)) (four_eq (u8 s.data.toList a) (u8 s.data.toList (a + 1)) (u8 s.data.toList (a + 2)) (u8 s.data.toList (a + 3)))
end Go.Proofs.Ythaoaaboempajaa.Pages
