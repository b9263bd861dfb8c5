/- A page that was made is read again as it was; with one byte that is another one it is told to be damaged. -/
import Derived.Test.YthaoaaboempajaaPages5
namespace Go.Proofs.Ythaoaaboempajaa.Pages
open Go.RowKit Go.Proofs.Ythaoaaboempajaa.QPageSeals Go.Proofs.YthaoaaboempajaaW.PrintWords Go.Proofs.YthaoaaboempajaaW.PrintLast Go.Proofs.YthaoaaboempajaaE
set_option linter.unusedVariables false
set_option linter.unusedSimpArgs false
def used2 : List ByteArray → Nat
  | [] => 0
  | c :: r => 2 + c.size + used2 r
theorem bodyL_pre : ∀ (R : List ByteArray) (acc : List Int), ∃ pre, bodyL R acc = pre ++ acc
  | [], acc => ⟨[], rfl⟩
  | c :: r, acc => by
    obtain ⟨pre, h⟩ := bodyL_pre r (two c.size ++ (bytesOf c ++ acc))
    exact ⟨pre ++ (two c.size ++ bytesOf c), by simp only [bodyL, h, List.append_assoc]⟩
theorem bodyL_append : ∀ (Q R : List ByteArray) (acc : List Int), bodyL (Q ++ R) acc = bodyL R (bodyL Q acc)
  | [], R, acc => rfl
  | c :: r, R, acc => bodyL_append r R _
theorem bodyL_used : ∀ (Q : List ByteArray) (acc : List Int), (bodyL Q acc).length = used2 Q + acc.length
  | [], acc => by simp [bodyL, used2]
  | c :: r, acc => by
    simp only [bodyL, used2, bodyL_used r, List.length_append, two_length, bytesOf_length]
    omega
theorem offs_append : ∀ (Q R : List ByteArray) (e : Nat), offs (Q ++ R) e = offs Q e ++ offs R (e - used2 Q)
  | [], R, e => by simp [offs, used2]
  | c :: r, R, e => by
    simp only [List.cons_append, offs, offs_append r R, used2, List.append_assoc]
    rw [Nat.sub_sub]
theorem used2_tot : ∀ l : List ByteArray, used2 l + 2 * l.length = tot l
  | [] => rfl
  | c :: r => by have := used2_tot r; simp only [used2, tot, List.length_cons]; omega
theorem bytesOf_b8 (c : ByteArray) : (bytesOf c).map b8 = c.data.toList := by rw [← nums_data, nums_bytes]
theorem u32_append (X Y : List UInt8) (i : Nat) : u32 (X ++ Y) (X.length + i) = u32 Y i := by
  unfold u32
  rw [u16_append, show X.length + i + 2 = X.length + (i + 2) by omega, u16_append]
section
variable {kd lk : Int} {l : List ByteArray} {s : ByteArray} {F : List Int} {Q R : List ByteArray} {c : ByteArray}
theorem at_off (hF : F.length = 4) (hs : s.data.toList = (F ++ restL kd lk l).map b8) (h : l = Q ++ c :: R) (ht : tot l ≤ 1012) : u16 s.data.toList (12 + 2 * Q.length) = 1024 - (used2 Q + (2 + c.size)) := by
  have e : F ++ restL kd lk l = (F ++ ([kd % 256, 0] ++ (two l.length ++ (four lk.toNat ++ offs Q 1024)))) ++ (two (1024 - (used2 Q + (2 + c.size))) ++ (offs R (1024 - used2 Q - (2 + c.size)) ++ (List.replicate (1012 - tot l) 0 ++ bodyL l []))) := by
    conv => lhs; unfold restL
    rw [show offs l 1024 = offs Q 1024 ++ (two (1024 - (used2 Q + (2 + c.size))) ++ offs R (1024 - used2 Q - (2 + c.size))) by rw [h, offs_append]; simp only [offs]; rw [Nat.sub_sub]]
    simp only [List.append_assoc]
  have hl : ((F ++ ([kd % 256, 0] ++ (two l.length ++ (four lk.toNat ++ offs Q 1024)))).map b8).length = 12 + 2 * Q.length := by
    simp only [List.length_map, List.length_append, hF, two_length, four_length, offs_length, List.length_cons, List.length_nil]
    omega
  rw [hs, e, List.map_append, ← hl]
  have := u16_append ((F ++ ([kd % 256, 0] ++ (two l.length ++ (four lk.toNat ++ offs Q 1024)))).map b8) ((two (1024 - (used2 Q + (2 + c.size))) ++ (offs R (1024 - used2 Q - (2 + c.size)) ++ (List.replicate (1012 - tot l) 0 ++ bodyL l []))).map b8) 0
  rw [Nat.add_zero] at this
  rw [this, List.map_append]
  exact two_u16 _ (by omega) _
theorem at_cell (hF : F.length = 4) (hs : s.data.toList = (F ++ restL kd lk l).map b8) (h : l = Q ++ c :: R) (ht : tot l ≤ 1012) :
    ∃ P Y : List UInt8, s.data.toList = P ++ ((two c.size).map b8 ++ (c.data.toList ++ Y)) ∧ P.length = 1024 - (used2 Q + (2 + c.size)) ∧ used2 Q + (2 + c.size) ≤ 1012 := by
  obtain ⟨pre, hp⟩ := bodyL_pre R (two c.size ++ (bytesOf c ++ bodyL Q []))
  have hb : bodyL l [] = pre ++ (two c.size ++ (bytesOf c ++ bodyL Q [])) := by rw [h, bodyL_append]; exact hp
  have e : F ++ restL kd lk l = (F ++ ([kd % 256, 0] ++ (two l.length ++ (four lk.toNat ++ (offs l 1024 ++ (List.replicate (1012 - tot l) 0 ++ pre)))))) ++ (two c.size ++ (bytesOf c ++ bodyL Q [])) := by
    unfold restL
    rw [hb]
    simp only [List.append_assoc]
  have hlen : (F ++ restL kd lk l).length = 1024 := by rw [List.length_append, hF, restL_length ht]
  have hu := used2_tot Q
  have htq : tot Q + (4 + c.size + tot R) = tot l := by rw [h, tot_append]; rfl
  have h2 : (two c.size ++ (bytesOf c ++ bodyL Q [])).length = 2 + c.size + used2 Q := by
    simp only [List.length_append, two_length, bytesOf_length, bodyL_used, List.length_nil]
    omega
  rw [e, List.length_append, h2] at hlen
  have e2 : (two c.size ++ (bytesOf c ++ bodyL Q [])).map b8 = (two c.size).map b8 ++ (c.data.toList ++ (bodyL Q []).map b8) := by rw [List.map_append, List.map_append, bytesOf_b8]
  refine ⟨_, (bodyL Q []).map b8, by rw [hs, e, List.map_append, e2], ?_, by omega⟩
  rw [List.length_map]
  omega
theorem parse_sealed (hF : F.length = 4) (hs : s.data.toList = (F ++ restL kd lk l).map b8) (ht : tot l ≤ 1012) : ∀ (R Q : List ByteArray), l = Q ++ R → parse s R.length Q.length Q = some l
  | [], Q, h => by rw [List.append_nil] at h; subst h; rfl
  | c :: R, Q, h => by
    have ih := parse_sealed hF hs ht R (Q ++ [c]) (by simpa using h)
    obtain ⟨P, Y, h1, h2, h3⟩ := at_cell hF hs h ht
    have hA := at_off hF hs h ht
    have hB : u16 s.data.toList (1024 - (used2 Q + (2 + c.size))) = c.size := by
      rw [h1, ← h2]
      have := u16_append P ((two c.size).map b8 ++ (c.data.toList ++ Y)) 0
      rw [Nat.add_zero] at this
      rw [this]
      exact two_u16 _ (by omega) _
    have hx : s.extract (1024 - (used2 Q + (2 + c.size)) + 2) (1024 - (used2 Q + (2 + c.size)) + 2 + c.size) = c := by
      apply data_inj
      rw [extract_list, h1, ← h2, show P.length + 2 = (P ++ (two c.size).map b8).length by rw [List.length_append]; rfl, ← List.append_assoc P, List.drop_left, show (P ++ (two c.size).map b8).length + c.size - (P ++ (two c.size).map b8).length = c.data.toList.length by rw [data_length]; omega, List.take_left]
    show parse s (R.length + 1) Q.length Q = _
    rw [parse_go hA hB (by omega) (by omega), hx, show Q.length + 1 = (Q ++ [c]).length by simp]
    exact ih
end
theorem read_sealed (kd lk : Int) (l : List ByteArray) (h : (sealed kd lk l).2 = 0) : (sealed kd lk l).1.size = 1024 ∧ u32 (sealed kd lk l).1.data.toList 0 = sumOf ((sealed kd lk l).1.data.toList.drop 4) ∧ readOf (sealed kd lk l).1 = (kd, lk, l, 0) := by
  have hsum := sealed_sum h rfl
  have hopen : opened (sealed kd lk l).1 kd lk (some l) = (kd, lk, l, 0) := by rw [opened_some, if_pos h, if_pos rfl]
  have ht := sealed_short h
  have hk : ¬ (kd < 1 ∨ kd > 5 ∨ lk < 0 ∨ lk > 2147483647) := by
    intro hc
    unfold sealed at h
    rw [if_pos hc] at h
    cases h
  have hd : (sealed kd lk l).1.data.toList = (four (sumL (restL kd lk l)) ++ restL kd lk l).map b8 := by
    unfold sealed
    rw [if_neg hk, if_neg (by omega)]
    rfl
  have hz : (sealed kd lk l).1.size = 1024 := by rw [← data_length, hd, List.length_map, List.length_append, four_length, restL_length ht]
  refine ⟨hz, hsum, ?_⟩
  have hn := len_tot l
  obtain ⟨a, ha⟩ := Int.eq_ofNat_of_zero_le (show 0 ≤ kd by omega)
  obtain ⟨b, hb⟩ := Int.eq_ofNat_of_zero_le (show 0 ≤ lk by omega)
  have h4 : u8 (sealed kd lk l).1.data.toList 4 = a := by
    rw [hd]
    have := u8_append ((four (sumL (restL kd lk l))).map b8) ((restL kd lk l).map b8) 0
    rw [show ((four (sumL (restL kd lk l))).map b8).length + 0 = 4 from rfl] at this
    rw [List.map_append, this]
    show (b8 (kd % 256)).toNat = a
    rw [show kd % 256 = (a : Int) by omega]
    exact b8_nat a (by omega)
  have h6 : u16 (sealed kd lk l).1.data.toList 6 = l.length := by
    rw [hd, show four (sumL (restL kd lk l)) ++ restL kd lk l = (four (sumL (restL kd lk l)) ++ [kd % 256, 0]) ++ (two l.length ++ (four lk.toNat ++ (offs l 1024 ++ (List.replicate (1012 - tot l) 0 ++ bodyL l [])))) by simp only [restL, List.append_assoc]]
    have := u16_append ((four (sumL (restL kd lk l)) ++ [kd % 256, 0]).map b8) ((two l.length ++ (four lk.toNat ++ (offs l 1024 ++ (List.replicate (1012 - tot l) 0 ++ bodyL l [])))).map b8) 0
    rw [show ((four (sumL (restL kd lk l)) ++ [kd % 256, 0]).map b8).length + 0 = 6 from rfl] at this
    rw [List.map_append, this, List.map_append]
    exact two_u16 _ (by omega) _
  have h8 : u32 (sealed kd lk l).1.data.toList 8 = b := by
    rw [hd, show four (sumL (restL kd lk l)) ++ restL kd lk l = (four (sumL (restL kd lk l)) ++ ([kd % 256, 0] ++ two l.length)) ++ (four lk.toNat ++ (offs l 1024 ++ (List.replicate (1012 - tot l) 0 ++ bodyL l []))) by simp only [restL, List.append_assoc]]
    have := u32_append ((four (sumL (restL kd lk l)) ++ ([kd % 256, 0] ++ two l.length)).map b8) ((four lk.toNat ++ (offs l 1024 ++ (List.replicate (1012 - tot l) 0 ++ bodyL l []))).map b8) 0
    rw [show ((four (sumL (restL kd lk l)) ++ ([kd % 256, 0] ++ two l.length)).map b8).length + 0 = 8 from rfl] at this
    rw [List.map_append, this, List.map_append, four_u32 _ (by omega)]
    omega
  have hps : parse (sealed kd lk l).1 l.length 0 [] = some l := parse_sealed (four_length _) hd ht l [] rfl
  unfold readOf
  rw [if_pos hz, h4, h6, h8, Nat.min_eq_left (by omega), ← ha, ← hb, hps]
  exact hopen
/-! ### a byte that is another one -/
theorem u8_set (L : List UInt8) (i j : Nat) (v : UInt8) (hi : i < L.length) : u8 (L.set i v) j = if j = i then v.toNat else u8 L j := by
  unfold u8
  rw [List.getD_eq_getElem?_getD, List.getD_eq_getElem?_getD, List.getElem?_set]
  by_cases h : i = j
  · subst h
    simp [hi]
  · rw [if_neg h, if_neg (fun e => h e.symm)]
theorem ne32 (a b c d x : Nat) (ha : a < 256) (hb : b < 256) (hc : c < 256) (hd : d < 256) (hx : x < 256) : (x ≠ a → (x * 256 + b) * 65536 + (c * 256 + d) ≠ (a * 256 + b) * 65536 + (c * 256 + d)) ∧ (x ≠ b → (a * 256 + x) * 65536 + (c * 256 + d) ≠ (a * 256 + b) * 65536 + (c * 256 + d)) ∧
    (x ≠ c → (a * 256 + b) * 65536 + (x * 256 + d) ≠ (a * 256 + b) * 65536 + (c * 256 + d)) ∧ (x ≠ d → (a * 256 + b) * 65536 + (c * 256 + x) ≠ (a * 256 + b) * 65536 + (c * 256 + d)) := by omega
theorem sum_set (M : List UInt8) (j : Nat) (v : UInt8) (hj : j < M.length) (h : sumOf (M.set j v) = sumOf M) : v = M[j] := by
  rw [List.set_eq_take_append_cons_drop, if_pos hj] at h
  have e : M = M.take j ++ M[j] :: M.drop (j + 1) := by rw [← List.drop_eq_getElem_cons hj, List.take_append_drop]
  rw [show sumOf M = sumOf (M.take j ++ M[j] :: M.drop (j + 1)) by rw [← e]] at h
  exact sum_told _ _ _ _ h
theorem flip_told (s t : ByteArray) (i : Nat) (v : UInt8) (hs : s.size = 1024) (hsum : u32 s.data.toList 0 = sumOf (s.data.toList.drop 4)) (hi : i < s.data.toList.length) (hv : v ≠ s.data.toList[i]) (ht : t.data.toList = s.data.toList.set i v) : readOf t = dmg := by
  have hz : t.size = 1024 := by rw [← data_length, ht, List.length_set, data_length, hs]
  unfold readOf
  rw [if_pos hz]
  refine opened_sum ?_ _ _ _
  rw [ht]
  have hvn : v.toNat ≠ u8 s.data.toList i := by
    intro h
    apply hv
    apply UInt8.toNat_inj.1
    rw [h]
    unfold u8
    rw [List.getD_eq_getElem?_getD, List.getElem?_eq_getElem hi]
    rfl
  by_cases h4 : i < 4
  · rw [List.drop_set_of_lt h4, ← hsum]
    have hn := ne32 (u8 s.data.toList 0) (u8 s.data.toList 1) (u8 s.data.toList 2) (u8 s.data.toList 3) v.toNat (u8_lt _ _) (u8_lt _ _) (u8_lt _ _) (u8_lt _ _) (UInt8.toNat_lt _)
    unfold u32 u16
    rw [u8_set _ _ _ _ hi, u8_set _ _ _ _ hi, u8_set _ _ _ _ hi, u8_set _ _ _ _ hi]
    rcases (by omega : i = 0 ∨ i = 1 ∨ i = 2 ∨ i = 3) with rfl | rfl | rfl | rfl
    · exact hn.1 hvn
    · exact hn.2.1 hvn
    · exact hn.2.2.1 hvn
    · exact hn.2.2.2 hvn
  · have e32 : u32 (s.data.toList.set i v) 0 = u32 s.data.toList 0 := by
      unfold u32 u16
      rw [u8_set _ _ _ _ hi, u8_set _ _ _ _ hi, u8_set _ _ _ _ hi, u8_set _ _ _ _ hi, if_neg (by omega), if_neg (by omega), if_neg (by omega), if_neg (by omega)]
    rw [e32, hsum, List.drop_set, if_neg h4]
    intro h
    have hj : i - 4 < (s.data.toList.drop 4).length := by rw [List.length_drop]; omega
    have := sum_set _ _ _ hj h.symm
    apply hv
    rw [this, List.getElem_drop]
    congr 1
    omega
theorem xor8 (a b : Nat) (ha : a < 256) (hb : b < 256) : Go.bits .xor .u8 (a : Int) (b : Int) = ((a ^^^ b : Nat) : Int) := by
  have hp : (2 : Nat) ^ IntKind.u8.bits = 256 := rfl
  have ha' : a % 2 ^ IntKind.u8.bits = a := Nat.mod_eq_of_lt (by rw [hp]; exact ha)
  have hb' : b % 2 ^ IntKind.u8.bits = b := Nat.mod_eq_of_lt (by rw [hp]; exact hb)
  have hx : a ^^^ b < 2 ^ 8 := Nat.xor_lt_two_pow ha hb
  simp only [bits, BitVec.ofInt_natCast, BitVec.toNat_xor, BitVec.toNat_ofNat, ha', hb']
  rw [IntKind.wrap_u8]
  omega
/-- What PageWhole asks of the page with another byte. -/
theorem flipped (kd lk : Int) (l : List ByteArray) (h : (sealed kd lk l).2 = 0) (i j : Nat) (hi : i < 1024) (hj : j < 255) :
    readOf (strOfNums ((bytesOf (sealed kd lk l).1).set i (Go.bits .xor .u8 ((bytesOf (sealed kd lk l).1).getD i 0) ((1 + j : Nat) : Int)))) = dmg := by
  obtain ⟨hz, hsum, _⟩ := read_sealed kd lk l h
  generalize (sealed kd lk l).1 = s at *
  have hl : i < s.data.toList.length := by rw [data_length, hz]; exact hi
  have hx : (bytesOf s).getD i 0 = (s.data.toList[i].toNat : Int) := by simp [bytesOf, List.getD_eq_getElem?_getD, List.getElem?_eq_getElem hl]
  have hlt := s.data.toList[i].toNat_lt
  rw [hx, xor8 _ _ hlt (by omega)]
  have hlt2 : s.data.toList[i].toNat ^^^ (1 + j) < 2 ^ 8 := Nat.xor_lt_two_pow hlt (by omega)
  refine flip_told s _ i (b8 ((s.data.toList[i].toNat ^^^ (1 + j) : Nat) : Int)) hz hsum hl ?_ ?_
  · intro hv
    have h1 := congrArg UInt8.toNat hv
    rw [b8_nat _ (by omega)] at h1
    have h2 := congrArg (s.data.toList[i].toNat ^^^ ·) h1
    simp only [← Nat.xor_assoc, Nat.xor_self, Nat.zero_xor] at h2
    omega
  · rw [nums_data, List.map_set, bytesOf_b8]
end Go.Proofs.Ythaoaaboempajaa.Pages
