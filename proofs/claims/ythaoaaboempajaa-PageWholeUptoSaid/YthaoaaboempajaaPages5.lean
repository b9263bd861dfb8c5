/- What any bytes are as a page: the program and the document's answer tell the same; and the small laws of the lent list of texts. -/
import Derived.Test.YthaoaaboempajaaPages4
import Derived.Lib.Strings
namespace Go.Proofs.Ythaoaaboempajaa.Pages
open Go.RowKit Go.Proofs.Ythaoaaboempajaa.QPageSeals Go.Proofs.YthaoaaboempajaaW.PrintWords Go.Proofs.YthaoaaboempajaaW.PrintLast Go.Proofs.YthaoaaboempajaaE
set_option linter.unusedVariables false
set_option linter.unusedSimpArgs false
theorem b8_nat (n : Nat) (h : n < 256) : (b8 (n : Int)).toNat = n := by
  unfold b8
  rw [Int.toNat_natCast]
  simp
  omega
theorem two_u16 (n : Nat) (h : n < 65536) (Y : List UInt8) : u16 ((two n).map b8 ++ Y) 0 = n := by
  have e : (two n).map b8 = [b8 ((n / 256 : Nat) : Int), b8 ((n % 256 : Nat) : Int)] := by
    simp only [two, List.map_cons, List.map_nil]
    rw [show ((n : Int) / 256) % 256 = ((n / 256 : Nat) : Int) by omega, show (n : Int) % 256 = ((n % 256 : Nat) : Int) by omega]
  rw [e]
  simp only [u16, u8, List.cons_append, List.nil_append, List.getD_cons_zero, List.getD_cons_succ]
  rw [b8_nat _ (by omega), b8_nat _ (by omega)]
  omega
theorem u8_append (X Y : List UInt8) (i : Nat) : u8 (X ++ Y) (X.length + i) = u8 Y i := by
  unfold u8
  rw [List.getD_eq_getElem?_getD, List.getD_eq_getElem?_getD, List.getElem?_append_right (by omega), show X.length + i - X.length = i by omega]
theorem u16_append (X Y : List UInt8) (i : Nat) : u16 (X ++ Y) (X.length + i) = u16 Y i := by
  unfold u16
  rw [u8_append, show X.length + i + 1 = X.length + (i + 1) by omega, u8_append]
theorem two_b8_length (n : Nat) : ((two n).map b8).length = 2 := rfl
theorem four_u32 (n : Nat) (h : n < 4294967296) (Y : List UInt8) : u32 ((four n).map b8 ++ Y) 0 = n := by
  have e : (four n).map b8 ++ Y = (two (n / 65536)).map b8 ++ ((two (n % 65536)).map b8 ++ Y) := by
    rw [four, List.map_append, List.append_assoc]
    congr 2
    simp only [two, List.map_cons, List.map_nil]
    rw [show ((n : Int) / 256) % 256 = (((n % 65536 : Nat) : Int) / 256) % 256 by omega, show (n : Int) % 256 = ((n % 65536 : Nat) : Int) % 256 by omega]
  rw [e]
  unfold u32
  have h2 := u16_append ((two (n / 65536)).map b8) ((two (n % 65536)).map b8 ++ Y) 0
  rw [two_b8_length] at h2
  rw [two_u16 _ (by omega), show (0 + 2 : Nat) = 2 + 0 from rfl, h2, two_u16 _ (by omega)]
  omega
/-- A page that is another one's bytes has their sum. -/
theorem sealed_sum {kd lk : Int} {l : List ByteArray} {s : ByteArray} (h : (sealed kd lk l).2 = 0) (h2 : (sealed kd lk l).1.toList = s.toList) : u32 s.data.toList 0 = sumOf (s.data.toList.drop 4) := by
  unfold sealed at h h2
  split at h
  · cases h
  split at h
  · cases h
  rename_i g1 g2
  rw [if_neg g1, if_neg g2, Lib.toList_data, Lib.toList_data, nums_data, List.map_append] at h2
  rw [← h2, four_u32 (sumL (restL kd lk l)) (sumOf_lt _) ((restL kd lk l).map b8)]
  rfl
theorem sealed_short {kd lk : Int} {l : List ByteArray} (h : (sealed kd lk l).2 = 0) : tot l ≤ 1012 := by
  unfold sealed at h
  split at h
  · cases h
  split at h
  · cases h
  omega
def readOf (s : ByteArray) : Res := if s.size = 1024 then opened s ((u8 s.data.toList 4 : Nat) : Int) ((u32 s.data.toList 8 : Nat) : Int) (parse s (min (u16 s.data.toList 6) 506) 0 []) else dmg
theorem opened_some (s : ByteArray) (kd lk : Int) (l : List ByteArray) : opened s kd lk (some l) = if (sealed kd lk l).2 = 0 then (if (sealed kd lk l).1.toList = s.toList then (kd, lk, l, 0) else dmg) else dmg := rfl
theorem opened_sum {s : ByteArray} (h : u32 s.data.toList 0 ≠ sumOf (s.data.toList.drop 4)) (kd lk : Int) : ∀ x, opened s kd lk x = dmg
  | none => rfl
  | some l => by
    rw [opened_some]
    by_cases h1 : (sealed kd lk l).2 = 0
    · rw [if_pos h1, if_neg (fun h2 => h (sealed_sum h1 h2))]
    · rw [if_neg h1]
theorem opened_many {s : ByteArray} (kd lk : Int) (i : Nat) : opened s kd lk (parse s 506 i []) = dmg := by
  cases hp : parse s 506 i [] with
  | none => rfl
  | some l =>
    rw [opened_some]
    by_cases h1 : (sealed kd lk l).2 = 0
    · have h2 := (parse_tot s 506 i [] l hp).2
      have h3 := sealed_short h1
      have h4 := len_tot l
      rw [List.length_nil] at h2
      omega
    · rw [if_neg h1]
theorem r_open (s : ByteArray) : ∃ N, ∀ k, N ≤ k → relstoreref_Open.f k s = some (readOf s) := by
  by_cases hs : s.size = 1024
  · obtain ⟨N, h⟩ := r_loop s hs ((u8 s.data.toList 4 : Nat) : Int) ((u32 s.data.toList 8 : Nat) : Int) _ _ rfl rfl (min (u16 s.data.toList 6) 506) 0 [] (by omega) (by simp) (by simp [tot])
    refine ⟨N + 5, fun k hk => ?_⟩
    have hb : wrap64 (bt s 4) = ((u8 s.data.toList 4 : Nat) : Int) := by
      have := bt_u8 s 4 (by omega)
      rw [show ((4 : Nat) : Int) = 4 from rfl] at this
      rw [this]
      exact w_nat _ (by have := u8_lt s.data.toList 4; omega)
    unfold relstoreref_Open.f
    rw [if_pos (by omega), if_pos (by omega), if_pos (by decide), if_pos (by omega), r_un4 s 8 (by omega) k (by omega), Option.bind_some, hb, w_nat _ (by have := u32_lt s.data.toList 8; omega)]
    refine (h k (by omega)).trans ?_
    unfold readOf
    rw [if_pos hs]
  · refine ⟨0, fun k _ => ?_⟩
    unfold relstoreref_Open.f readOf
    rw [if_neg (by omega), if_neg hs]
    rfl
theorem p_open (s : ByteArray) : ∃ N, ∀ k, N ≤ k → page_Open.f k s = some (readOf s) := by
  by_cases hs : s.size = 1024
  · have hT := u16_lt s.data.toList 6
    have hx : (s.extract 4 s.size).data.toList = s.data.toList.drop 4 := by
      rw [extract_list, List.take_of_length_le (by rw [List.length_drop, data_length]; omega)]
    obtain ⟨M, hsum⟩ := p_sum (s.extract 4 s.size) (by have := extract_size_le s 4 s.size; omega)
    rw [hx] at hsum
    have start : ∀ k, M ≤ k → page_Open.f k s = page_Open.j0 k s (((u32 s.data.toList 0 : Nat) : Int) != ((sumOf (s.data.toList.drop 4) : Nat) : Int)) := by
      intro k hk
      unfold page_Open.f
      have h32 := p_at32 s 0 (by omega) (by omega)
      rw [show ((0 : Nat) : Int) = 0 from rfl] at h32
      rw [if_pos (by omega), h32, Option.bind_some, if_pos (by omega), hsum k hk, Option.bind_some]
      have := u32_lt s.data.toList 0
      rw [show ((u32 s.data.toList 0 : Nat) : Int) % 4294967296 = ((u32 s.data.toList 0 : Nat) : Int) by omega]
    by_cases he : u32 s.data.toList 0 = sumOf (s.data.toList.drop 4)
    · have hb : wrap64 (bt s 4) = ((u8 s.data.toList 4 : Nat) : Int) := by
        have := bt_u8 s 4 (by omega)
        rw [show ((4 : Nat) : Int) = 4 from rfl] at this
        rw [this]
        exact w_nat _ (by have := u8_lt s.data.toList 4; omega)
      have h8 := p_at32 s 8 (by omega) (by omega)
      have h6 := p_at16 s 6 (by omega) (by omega)
      rw [show ((8 : Nat) : Int) = 8 from rfl] at h8
      rw [show ((6 : Nat) : Int) = 6 from rfl] at h6
      have into : ∀ k, page_Open.j0 (k + 1) s false = if wrap64 (12 + wrap64 (2 * ((u16 s.data.toList 6 : Nat) : Int))) > 1024 then some (0, 0, [], 4) else page_Open.l0 k s ((u16 s.data.toList 6 : Nat) : Int) 0 ((u8 s.data.toList 4 : Nat) : Int) ((u32 s.data.toList 8 : Nat) : Int) [] := by
        intro k
        simp only [page_Open.j0]
        rw [if_neg (by decide), if_pos (by omega), h8, Option.bind_some, h6, Option.bind_some, hb]
      rw [he] at start
      simp only [bne_self_eq_false] at start
      by_cases h1 : 12 + 2 * u16 s.data.toList 6 > 1024
      · refine ⟨M + 1, fun k hk => ?_⟩
        obtain ⟨k, rfl⟩ : ∃ m, k = m + 1 := ⟨k - 1, by omega⟩
        rw [start _ (by omega), into, w_12 _ _ rfl (by omega), if_pos (by omega)]
        unfold readOf
        rw [if_pos hs, Nat.min_eq_right (by omega), opened_many]
        rfl
      · obtain ⟨N, h⟩ := p_loop s hs ((u8 s.data.toList 4 : Nat) : Int) ((u32 s.data.toList 8 : Nat) : Int) (u16 s.data.toList 6) (by omega) (u16 s.data.toList 6) 0 [] (by omega) (by simp) (by simp [tot])
        refine ⟨M + N + 1, fun k hk => ?_⟩
        obtain ⟨k, rfl⟩ : ∃ m, k = m + 1 := ⟨k - 1, by omega⟩
        rw [start _ (by omega), into, w_12 _ _ rfl (by omega), if_neg (by omega)]
        refine (h k (by omega)).trans ?_
        unfold readOf
        rw [if_pos hs, Nat.min_eq_left (by omega)]
    · refine ⟨M + 1, fun k hk => ?_⟩
      obtain ⟨k, rfl⟩ : ∃ m, k = m + 1 := ⟨k - 1, by omega⟩
      rw [start _ (by omega)]
      have hne : (((u32 s.data.toList 0 : Nat) : Int) != ((sumOf (s.data.toList.drop 4) : Nat) : Int)) = true := by
        rw [bne_iff_ne]
        omega
      rw [hne]
      simp only [page_Open.j0]
      unfold readOf
      rw [if_pos hs, opened_sum he]
      rfl
  · refine ⟨1, fun k hk => ?_⟩
    obtain ⟨k, rfl⟩ : ∃ m, k = m + 1 := ⟨k - 1, by omega⟩
    unfold page_Open.f readOf
    rw [if_neg (by omega), if_neg hs]
    rfl
/-! ### the lent list -/
def marks : List ByteArray := [(⟨#[109, 97, 114, 107, 32, 55]⟩ : ByteArray), (⟨#[109, 97, 114, 107, 32, 56]⟩ : ByteArray)]
theorem lent_is {l : List ByteArray} (hl : l.length < 8000000000000) : relstorelaw_lentTexts.f l = some (l ++ marks) := by
  unfold relstorelaw_lentTexts.f
  rw [if_pos (by rw [List.length_nil]; omega), Option.bind_some, Option.bind_some, if_pos (by simp; omega)]
  rfl
theorem same_l0 (l : List ByteArray) (hl : l.length ≤ 4611686018427387904) : ∀ (m i : Nat), i + m = l.length → ∀ k, m < k → relstorelaw_sameTexts.l0 k l l (l.length : Int) (i : Int) = some true
  | 0, i, h => fun k hk => by
    obtain ⟨k, rfl⟩ : ∃ m, k = m + 1 := ⟨k - 1, by omega⟩
    simp only [relstorelaw_sameTexts.l0]
    rw [if_neg (by omega)]
  | m + 1, i, h => fun k hk => by
    obtain ⟨k, rfl⟩ : ∃ m, k = m + 1 := ⟨k - 1, by omega⟩
    have ih := same_l0 l hl m (i + 1) (by omega) k (by omega)
    unfold relstorelaw_sameTexts.l0
    rw [if_pos (by omega), if_pos (by omega), if_pos (by omega), if_pos (by omega), if_pos rfl, wsucc i (i + 1) rfl (by omega)]
    exact ih
theorem same_is (l : List ByteArray) (hl : l.length ≤ 4611686018427387904) (k : Nat) (hk : l.length < k) : relstorelaw_sameTexts.f k l l = some true := by
  unfold relstorelaw_sameTexts.f
  rw [if_pos rfl]
  exact same_l0 l hl l.length 0 (by omega) k (by omega)
theorem back_is (l : List ByteArray) (hl : l.length < 8000000000000) (k : Nat) (hk : l.length < k) : relstorelaw_backTexts.f k (l ++ marks) l = some true := by
  have hz : (l ++ marks).length = l.length + 2 := by simp [marks]
  have h0 : rdOf ByteArray.empty (l ++ marks) (l.length : Int) = ⟨#[109, 97, 114, 107, 32, 55]⟩ := getD_in (X := l) (Y := [⟨#[109, 97, 114, 107, 32, 56]⟩]) rfl
  have h1 : rdOf ByteArray.empty (l ++ marks) (wrap64 ((l.length : Int) + 1)) = ⟨#[109, 97, 114, 107, 32, 56]⟩ := by
    rw [wsucc _ _ rfl (by omega)]
    have := getD_in (l := l ++ marks) (X := l ++ [(⟨#[109, 97, 114, 107, 32, 55]⟩ : ByteArray)]) (Y := []) (x := (⟨#[109, 97, 114, 107, 32, 56]⟩ : ByteArray)) (z := ByteArray.empty) (by simp [marks])
    rw [show ((l.length + 1 : Nat) : Int) = ((l ++ [(⟨#[109, 97, 114, 107, 32, 55]⟩ : ByteArray)]).length : Int) by simp]
    exact this
  unfold relstorelaw_backTexts.f
  rw [if_pos (by omega), if_pos (by omega), Int.toNat_natCast, List.take_left, same_is l (by omega) k hk, Option.bind_some, if_pos rfl, if_pos (by omega), h0, h1, wsucc _ _ rfl (by omega)]
  rw [if_pos (by rw [Lib.toList_data]), if_pos (by omega), if_pos (by omega), Lib.toList_data]
  rfl
end Go.Proofs.Ythaoaaboempajaa.Pages
