/- The sum of bytes, as the program and as the document's answer reckon it: both are one plain function of the bytes. No conditions but the texts' lengths. -/
import Derived.Test.YthaoaaboempajaaQPageSealsx
import Derived.Test.YthaoaaboempajaaE
namespace Go.Proofs.Ythaoaaboempajaa.Pages
open Go.RowKit Go.Proofs.Ythaoaaboempajaa.QPageSeals Go.Proofs.YthaoaaboempajaaW.PrintWords Go.Proofs.YthaoaaboempajaaW.PrintLast Go.Proofs.YthaoaaboempajaaE
set_option linter.unusedVariables false
set_option linter.unusedSimpArgs false
/-! ### bits -/
theorem xor_nat (a b : Nat) (ha : a < 4294967296) (hb : b < 4294967296) : Go.bits .xor .u32 (a : Int) (b : Int) = ((a ^^^ b : Nat) : Int) := by
  have hp : (2 : Nat) ^ IntKind.u32.bits = 4294967296 := rfl
  have ha' : a % 2 ^ IntKind.u32.bits = a := Nat.mod_eq_of_lt (by rw [hp]; exact ha)
  have hb' : b % 2 ^ IntKind.u32.bits = b := Nat.mod_eq_of_lt (by rw [hp]; exact hb)
  have hx : a ^^^ b < 2 ^ 32 := Nat.xor_lt_two_pow ha hb
  simp only [bits, BitVec.ofInt_natCast, BitVec.toNat_xor, BitVec.toNat_ofNat, ha', hb']
  rw [IntKind.wrap_u32]
  omega
theorem and_one (c : Nat) (h : c < 4294967296) : Go.bits .and .u32 (c : Int) 1 = ((c % 2 : Nat) : Int) := by
  have := bits_mask .u32 32 (by decide) (fun n h0 h1 => by rw [IntKind.wrap_u32]; omega) 1 (by decide) (c : Int) (by omega) (by omega)
  rw [show ((2 : Int) ^ 1 - 1) = 1 from rfl] at this
  rw [this]
  omega
theorem xor_all (c : Nat) (h : c < 4294967296) : 4294967295 ^^^ c = 4294967295 - c := by
  have e : (4294967295 : Nat) = (BitVec.allOnes 32).toNat := rfl
  have h1 : (BitVec.ofNat 32 c).toNat = c := by simp; omega
  have h2 := congrArg BitVec.toNat (BitVec.allOnes_xor (x := BitVec.ofNat 32 c))
  rw [BitVec.toNat_xor, BitVec.toNat_not, h1] at h2
  rw [e, h2]
  rfl
/-! ### the plain sum -/
def rnd (c : Nat) : Nat := if c % 2 = 1 then (c / 2) ^^^ 3988292384 else c / 2
def rnd8 (c : Nat) : Nat := rnd (rnd (rnd (rnd (rnd (rnd (rnd (rnd c)))))))
def crc : Nat → List UInt8 → Nat
  | c, [] => c
  | c, b :: r => crc (rnd8 (c ^^^ b.toNat)) r
def sumOf (l : List UInt8) : Nat := 4294967295 - crc 4294967295 l
theorem rnd_lt {c : Nat} (h : c < 4294967296) : rnd c < 4294967296 := by
  unfold rnd
  split
  · exact Nat.xor_lt_two_pow (n := 32) (by omega) (by decide)
  · omega
theorem rnd8_lt {c : Nat} (h : c < 4294967296) : rnd8 c < 4294967296 := rnd_lt (rnd_lt (rnd_lt (rnd_lt (rnd_lt (rnd_lt (rnd_lt (rnd_lt h)))))))
theorem xorb_lt {c : Nat} (h : c < 4294967296) (b : UInt8) : c ^^^ b.toNat < 4294967296 := Nat.xor_lt_two_pow (n := 32) h (by have := b.toNat_lt; omega)
theorem crc_lt : ∀ (l : List UInt8) {c : Nat}, c < 4294967296 → crc c l < 4294967296
  | [], _, h => h
  | b :: r, _, h => crc_lt r (rnd8_lt (xorb_lt h b))
theorem sumOf_lt (l : List UInt8) : sumOf l < 4294967296 := by unfold sumOf; omega
/-! ### the program's -/
theorem p_step (k : Nat) (s : ByteArray) (c : Nat) (i y : Int) (h0 : 0 ≤ y) (h8 : y < 8) (hc : c < 4294967296) : page_Sum.l1 (k + 1) s (c : Int) i y = page_Sum.l1 k s (rnd c : Nat) i (y + 1) := by
  simp only [page_Sum.l1]
  rw [if_pos h8, and_one c hc, show wrap64 (y + 1) = y + 1 by unfold wrap64; omega]
  unfold rnd
  by_cases h : c % 2 = 1
  · rw [if_pos (by omega), if_pos h]
    rw [show ((c : Int) / 2) = ((c / 2 : Nat) : Int) by omega, show (3988292384 : Int) = ((3988292384 : Nat) : Int) from rfl, xor_nat _ _ (by omega) (by decide)]
  · rw [if_neg (by omega), if_neg h]
    rw [show ((c : Int) / 2) = ((c / 2 : Nat) : Int) by omega]
theorem p_round (k : Nat) (s : ByteArray) (c : Nat) (i : Int) (hc : c < 4294967296) : page_Sum.l1 (k + 9) s (c : Int) i 0 = page_Sum.l0 k s (rnd8 c : Nat) (wrap64 (i + 1)) := by
  have l1 := rnd_lt hc
  have l2 := rnd_lt l1
  have l3 := rnd_lt l2
  have l4 := rnd_lt l3
  have l5 := rnd_lt l4
  have l6 := rnd_lt l5
  have l7 := rnd_lt l6
  rw [p_step (k + 8) s c i 0 (by decide) (by decide) hc, p_step (k + 7) s _ i (0 + 1) (by decide) (by decide) l1, p_step (k + 6) s _ i (0 + 1 + 1) (by decide) (by decide) l2,
    p_step (k + 5) s _ i (0 + 1 + 1 + 1) (by decide) (by decide) l3, p_step (k + 4) s _ i (0 + 1 + 1 + 1 + 1) (by decide) (by decide) l4, p_step (k + 3) s _ i (0 + 1 + 1 + 1 + 1 + 1) (by decide) (by decide) l5,
    p_step (k + 2) s _ i (0 + 1 + 1 + 1 + 1 + 1 + 1) (by decide) (by decide) l6, p_step (k + 1) s _ i (0 + 1 + 1 + 1 + 1 + 1 + 1 + 1) (by decide) (by decide) l7]
  simp only [page_Sum.l1]
  rw [if_neg (by decide)]
  rfl
theorem p_l0 (s : ByteArray) (hs : s.size ≤ 140737488351232) : ∀ (R Q : List UInt8) (c : Nat), s.data.toList = Q ++ R → c < 4294967296 → ∃ n, ∀ k, n ≤ k → page_Sum.l0 k s (c : Int) (Q.length : Int) = some ((4294967295 - crc c R : Nat) : Int)
  | [], Q, c, h, hc => by
    refine ⟨1, fun k hk => ?_⟩
    obtain ⟨k, rfl⟩ : ∃ m, k = m + 1 := ⟨k - 1, by omega⟩
    have hq := size_in h
    rw [List.append_nil] at hq
    simp only [page_Sum.l0]
    rw [if_neg (by omega), show (4294967295 : Int) = ((4294967295 : Nat) : Int) from rfl, xor_nat _ _ (by decide) hc, xor_all c hc]
    rfl
  | b :: R, Q, c, h, hc => by
    obtain ⟨n, ih⟩ := p_l0 s hs R (Q ++ [b]) (rnd8 (c ^^^ b.toNat)) (by simpa using h) (rnd8_lt (xorb_lt hc b))
    refine ⟨n + 10, fun k hk => ?_⟩
    obtain ⟨k, rfl⟩ : ∃ m, k = m + 10 := ⟨k - 10, by omega⟩
    have hq := size_in h
    rw [List.length_append, List.length_cons] at hq
    have hb := bt_in h
    have hb2 := b.toNat_lt
    show page_Sum.l0 (k + 9 + 1) s _ _ = _
    simp only [page_Sum.l0]
    rw [if_pos (by omega), if_pos (by omega), hb, show ((b.toNat : Int) % 4294967296) = ((b.toNat : Nat) : Int) by omega, xor_nat _ _ hc (by omega), p_round k s _ _ (xorb_lt hc b)]
    rw [show wrap64 ((Q.length : Int) + 1) = (((Q ++ [b]).length : Nat) : Int) by rw [List.length_append]; unfold wrap64; simp; omega]
    exact ih k (by omega)
theorem p_sum (s : ByteArray) (hs : s.size ≤ 140737488351232) : ∃ n, ∀ k, n ≤ k → page_Sum.f k s = some ((sumOf s.data.toList : Nat) : Int) := p_l0 s hs s.data.toList [] 4294967295 rfl (by decide)
/-! ### the document's -/
theorem r_step (k : Nat) (s : ByteArray) (c : Nat) (i y : Int) (h0 : 0 ≤ y) (h8 : y < 8) (hc : c < 4294967296) : relstoreref_Sum.l1 (k + 1) s (c : Int) i y = relstoreref_Sum.l1 k s (rnd c : Nat) i (y + 1) := by
  simp only [relstoreref_Sum.l1]
  have e1 : Int.tmod (c : Int) 2 = ((c % 2 : Nat) : Int) := by rw [Int.tmod_eq_emod_of_nonneg (by omega)]; omega
  have e2 : Int.tdiv (c : Int) 2 % 4294967296 = ((c / 2 : Nat) : Int) := by rw [Int.tdiv_eq_ediv_of_nonneg (by omega)]; omega
  rw [if_pos h8, e1, e2, show wrap64 (y + 1) = y + 1 by unfold wrap64; omega]
  unfold rnd
  by_cases h : c % 2 = 1
  · rw [if_pos (by omega), if_pos h]
    rw [show (3988292384 : Int) = ((3988292384 : Nat) : Int) from rfl, xor_nat _ _ (by omega) (by decide)]
  · rw [if_neg (by omega), if_neg h]
theorem r_round (k : Nat) (s : ByteArray) (c : Nat) (i : Int) (hc : c < 4294967296) : relstoreref_Sum.l1 (k + 9) s (c : Int) i 0 = relstoreref_Sum.l0 k s (rnd8 c : Nat) (wrap64 (i + 1)) := by
  have l1 := rnd_lt hc
  have l2 := rnd_lt l1
  have l3 := rnd_lt l2
  have l4 := rnd_lt l3
  have l5 := rnd_lt l4
  have l6 := rnd_lt l5
  have l7 := rnd_lt l6
  rw [r_step (k + 8) s c i 0 (by decide) (by decide) hc, r_step (k + 7) s _ i (0 + 1) (by decide) (by decide) l1, r_step (k + 6) s _ i (0 + 1 + 1) (by decide) (by decide) l2,
    r_step (k + 5) s _ i (0 + 1 + 1 + 1) (by decide) (by decide) l3, r_step (k + 4) s _ i (0 + 1 + 1 + 1 + 1) (by decide) (by decide) l4, r_step (k + 3) s _ i (0 + 1 + 1 + 1 + 1 + 1) (by decide) (by decide) l5,
    r_step (k + 2) s _ i (0 + 1 + 1 + 1 + 1 + 1 + 1) (by decide) (by decide) l6, r_step (k + 1) s _ i (0 + 1 + 1 + 1 + 1 + 1 + 1 + 1) (by decide) (by decide) l7]
  simp only [relstoreref_Sum.l1]
  rw [if_neg (by decide)]
  rfl
theorem r_l0 (s : ByteArray) (hs : s.size ≤ 140737488351232) : ∀ (R Q : List UInt8) (c : Nat), s.data.toList = Q ++ R → c < 4294967296 → ∃ n, ∀ k, n ≤ k → relstoreref_Sum.l0 k s (c : Int) (Q.length : Int) = some ((4294967295 - crc c R : Nat) : Int)
  | [], Q, c, h, hc => by
    refine ⟨1, fun k hk => ?_⟩
    obtain ⟨k, rfl⟩ : ∃ m, k = m + 1 := ⟨k - 1, by omega⟩
    have hq := size_in h
    rw [List.append_nil] at hq
    simp only [relstoreref_Sum.l0]
    rw [if_neg (by omega)]
    rw [show (4294967295 - (c : Int)) % 4294967296 = ((4294967295 - c : Nat) : Int) by omega]
    rfl
  | b :: R, Q, c, h, hc => by
    obtain ⟨n, ih⟩ := r_l0 s hs R (Q ++ [b]) (rnd8 (c ^^^ b.toNat)) (by simpa using h) (rnd8_lt (xorb_lt hc b))
    refine ⟨n + 10, fun k hk => ?_⟩
    obtain ⟨k, rfl⟩ : ∃ m, k = m + 10 := ⟨k - 10, by omega⟩
    have hq := size_in h
    rw [List.length_append, List.length_cons] at hq
    have hb := bt_in h
    have hb2 := b.toNat_lt
    show relstoreref_Sum.l0 (k + 9 + 1) s _ _ = _
    simp only [relstoreref_Sum.l0]
    rw [if_pos (by omega), if_pos (by omega), hb, show ((b.toNat : Int) % 4294967296) = ((b.toNat : Nat) : Int) by omega, xor_nat _ _ hc (by omega), r_round k s _ _ (xorb_lt hc b)]
    rw [show wrap64 ((Q.length : Int) + 1) = (((Q ++ [b]).length : Nat) : Int) by rw [List.length_append]; unfold wrap64; simp; omega]
    exact ih k (by omega)
theorem r_sum (s : ByteArray) (hs : s.size ≤ 140737488351232) : ∃ n, ∀ k, n ≤ k → relstoreref_Sum.f k s = some ((sumOf s.data.toList : Nat) : Int) := r_l0 s hs s.data.toList [] 4294967295 rfl (by decide)
/-! ### another byte is another sum -/
theorem rnd_inj {a b : Nat} (ha : a < 4294967296) (hb : b < 4294967296) (h : rnd a = rnd b) : a = b := by
  have top : ∀ x : Nat, x < 2147483648 → (x ^^^ 3988292384).testBit 31 = true := by
    intro x hx
    rw [Nat.testBit_xor, Nat.testBit_lt_two_pow (show x < 2 ^ 31 from hx)]
    decide +kernel
  have low : ∀ x : Nat, x < 2147483648 → x.testBit 31 = false := fun x hx => Nat.testBit_lt_two_pow (show x < 2 ^ 31 from hx)
  unfold rnd at h
  by_cases h1 : a % 2 = 1 <;> by_cases h2 : b % 2 = 1
  · rw [if_pos h1, if_pos h2] at h
    have h3 : a / 2 = b / 2 := by
      have := congrArg (· ^^^ 3988292384) h
      simpa [Nat.xor_assoc] using this
    omega
  · rw [if_pos h1, if_neg h2] at h
    have := top (a / 2) (by omega)
    rw [h, low _ (by omega)] at this
    cases this
  · rw [if_neg h1, if_pos h2] at h
    have := top (b / 2) (by omega)
    rw [← h, low _ (by omega)] at this
    cases this
  · rw [if_neg h1, if_neg h2] at h
    omega
theorem rnd8_inj {a b : Nat} (ha : a < 4294967296) (hb : b < 4294967296) (h : rnd8 a = rnd8 b) : a = b := by
  have a1 := rnd_lt ha
  have a2 := rnd_lt a1
  have a3 := rnd_lt a2
  have a4 := rnd_lt a3
  have a5 := rnd_lt a4
  have a6 := rnd_lt a5
  have a7 := rnd_lt a6
  have b1 := rnd_lt hb
  have b2 := rnd_lt b1
  have b3 := rnd_lt b2
  have b4 := rnd_lt b3
  have b5 := rnd_lt b4
  have b6 := rnd_lt b5
  have b7 := rnd_lt b6
  exact rnd_inj ha hb (rnd_inj a1 b1 (rnd_inj a2 b2 (rnd_inj a3 b3 (rnd_inj a4 b4 (rnd_inj a5 b5 (rnd_inj a6 b6 (rnd_inj a7 b7 h)))))))
theorem crc_inj : ∀ (l : List UInt8) {a b : Nat}, a < 4294967296 → b < 4294967296 → crc a l = crc b l → a = b
  | [], _, _, _, _, h => h
  | x :: r, a, b, ha, hb, h => by
    have h1 := rnd8_inj (xorb_lt ha x) (xorb_lt hb x) (crc_inj r (rnd8_lt (xorb_lt ha x)) (rnd8_lt (xorb_lt hb x)) h)
    have := congrArg (· ^^^ x.toNat) h1
    simpa [Nat.xor_assoc] using this
theorem crc_append : ∀ (l m : List UInt8) (c : Nat), crc c (l ++ m) = crc (crc c l) m
  | [], _, _ => rfl
  | x :: r, m, c => crc_append r m _
theorem sum_told (X Y : List UInt8) (x y : UInt8) (h : sumOf (X ++ x :: Y) = sumOf (X ++ y :: Y)) : x = y := by
  have l0 : (4294967295 : Nat) < 4294967296 := by decide
  have hx := crc_lt (X ++ x :: Y) l0
  have hy := crc_lt (X ++ y :: Y) l0
  have h1 : crc 4294967295 (X ++ x :: Y) = crc 4294967295 (X ++ y :: Y) := by unfold sumOf at h; omega
  rw [crc_append, crc_append] at h1
  have hX := crc_lt X l0
  have h2 := crc_inj Y (rnd8_lt (xorb_lt hX x)) (rnd8_lt (xorb_lt hX y)) h1
  have h3 := rnd8_inj (xorb_lt hX x) (xorb_lt hX y) h2
  have h4 := congrArg (crc 4294967295 X ^^^ ·) h3
  simp only [← Nat.xor_assoc, Nat.xor_self, Nat.zero_xor] at h4
  exact UInt8.toNat_inj.1 h4
end Go.Proofs.Ythaoaaboempajaa.Pages
