/- The bytes of a page, as the program and as the document's answer make them: both are one plain list of bytes, where the cells' lengths add up to few enough. -/
import Derived.Test.YthaoaaboempajaaPages1
namespace Go.Proofs.Ythaoaaboempajaa.Pages
open Go.RowKit Go.Proofs.Ythaoaaboempajaa.QPageSeals Go.Proofs.YthaoaaboempajaaW.PrintWords Go.Proofs.YthaoaaboempajaaW.PrintLast Go.Proofs.YthaoaaboempajaaE
set_option linter.unusedVariables false
set_option linter.unusedSimpArgs false
/-! ### texts of numbers -/
def b8 (n : Int) : UInt8 := UInt8.ofNat n.toNat
theorem data_inj {a b : ByteArray} (h : a.data.toList = b.data.toList) : a = b := by
  cases a; cases b
  congr 1
  exact Array.ext' h
theorem nums_data (xs : List Int) : (strOfNums xs).data.toList = xs.map b8 := rfl
theorem nums_append (xs ys : List Int) : strOfNums xs ++ strOfNums ys = strOfNums (xs ++ ys) := by
  apply data_inj
  rw [ByteArray.data_append, Array.toList_append, nums_data, nums_data, nums_data, List.map_append]
theorem nums_bytes (s : ByteArray) : strOfNums (bytesOf s) = s := by
  apply data_inj
  rw [nums_data, bytesOf, List.map_map]
  conv => rhs; rw [← List.map_id s.data.toList]
  apply List.map_congr_left
  intro x _
  show UInt8.ofNat ((x.toNat : Int)).toNat = x
  rw [Int.toNat_natCast]
  exact UInt8.ofNat_toNat
theorem nums_size (xs : List Int) : (strOfNums xs).size = xs.length := by simp [strOfNums, ByteArray.size]
def beN : Nat → Int → List Int → List Int
  | 0, _, ys => ys
  | j + 1, x, ys => beN j (x / 256) (x % 256 :: ys)
theorem bytes_l0 : ∀ (j : Nat) (x : Int) (ys : List Int), 0 ≤ x → x < 18446744073709551616 → j + ys.length ≤ 1000 → ∀ k, j < k → relstoreref_bytes.l0 k x (j : Int) (strOfNums ys) = some (strOfNums (beN j x ys))
  | 0, x, ys, h0, h1, hl => fun k hk => by
    obtain ⟨k, rfl⟩ : ∃ m, k = m + 1 := ⟨k - 1, by omega⟩
    simp only [relstoreref_bytes.l0]
    rw [if_neg (by decide)]
    rfl
  | j + 1, x, ys, h0, h1, hl => fun k hk => by
    obtain ⟨k, rfl⟩ : ∃ m, k = m + 1 := ⟨k - 1, by omega⟩
    have ih := bytes_l0 j (x / 256) (x % 256 :: ys) (by omega) (by omega) (by simp; omega) k (by omega)
    simp only [relstoreref_bytes.l0]
    rw [if_pos (by omega)]
    simp only [Option.bind_some]
    have e1 : Int.tmod x 256 % 256 = x % 256 := by rw [Int.tmod_eq_emod_of_nonneg h0]; omega
    have e2 : IntKind.u64.wrap (Int.tdiv x 256) = x / 256 := by rw [Int.tdiv_eq_ediv_of_nonneg h0, IntWalk.u64_in _ (by omega)]
    have e3 : wrap64 (((j + 1 : Nat) : Int) - 1) = (j : Int) := by unfold wrap64; omega
    rw [e1, e2, e3, nums_append, nums_size, nums_size, if_pos (by simp; omega)]
    exact ih
def two (n : Nat) : List Int := [((n : Int) / 256) % 256, (n : Int) % 256]
def four (n : Nat) : List Int := two (n / 65536) ++ two n
theorem two_length (n : Nat) : (two n).length = 2 := rfl
theorem four_length (n : Nat) : (four n).length = 4 := rfl
theorem bytes2 (x : Nat) (h : x < 18446744073709551616) (k : Nat) (hk : 5 ≤ k) : relstoreref_bytes.f k (x : Int) 2 = some (strOfNums (two x)) := bytes_l0 2 (x : Int) [] (by omega) (by omega) (by decide) k (by omega)
theorem bytes4 (x : Nat) (h : x < 18446744073709551616) (k : Nat) (hk : 5 ≤ k) : relstoreref_bytes.f k (x : Int) 4 = some (strOfNums (four x)) := by
  have := bytes_l0 4 (x : Int) [] (by omega) (by omega) (by decide) k (by omega)
  have e : beN 4 (x : Int) [] = four x := by
    simp only [beN, four, two, List.cons_append, List.nil_append]
    rw [show ((x : Int) / 256 / 256 / 256) % 256 = (((x / 65536 : Nat) : Int) / 256) % 256 by omega, show ((x : Int) / 256 / 256) % 256 = ((x / 65536 : Nat) : Int) % 256 by omega]
  rw [e] at this
  exact this
theorem p_two (x : Nat) : page_two.f (x : Int) = some (two x) := rfl
theorem p_four (x : Nat) : page_four.f (x : Int) = some (four x) := by
  unfold page_four.f
  rw [show ((x : Int) / 65536) = ((x / 65536 : Nat) : Int) by omega, p_two, p_two]
  rfl
theorem seal_two (x : Nat) : page_Seal.two x = two x := rfl
/-! ### how much the cells take -/
def tot : List ByteArray → Nat
  | [] => 0
  | c :: r => 4 + c.size + tot r
theorem tot_append : ∀ (a b : List ByteArray), tot (a ++ b) = tot a + tot b
  | [], b => by simp [tot]
  | c :: r, b => by simp only [List.cons_append, tot, tot_append r b]; omega
theorem rd_in {Q R : List ByteArray} {c : ByteArray} : rdOf ByteArray.empty (Q ++ c :: R) (Q.length : Int) = c := by
  unfold rdOf
  exact getD_in rfl
theorem wadd (a b c : Nat) (h : a + (4 + b) = c) (hc : c ≤ 4611686018427387904) : wrap64 ((a : Int) + wrap64 (4 + (b : Int))) = (c : Int) := by unfold wrap64; omega
theorem wsucc (n m : Nat) (h : n + 1 = m) (hm : m ≤ 4611686018427387904) : wrap64 ((n : Int) + 1) = (m : Int) := by unfold wrap64; omega
theorem len_tot : ∀ l : List ByteArray, 4 * l.length ≤ tot l
  | [] => by simp
  | x :: r => by have := len_tot r; simp only [List.length_cons, tot]; omega
theorem used_l0 (l : List ByteArray) (hb : tot l ≤ 4611686018427387904) : ∀ (R Q : List ByteArray), l = Q ++ R → ∀ k, R.length < k → page_Used.l0 k ((tot Q : Nat) : Int) l (l.length : Int) (Q.length : Int) = some ((tot l : Nat) : Int)
  | [], Q, h => fun k hk => by
    obtain ⟨k, rfl⟩ : ∃ m, k = m + 1 := ⟨k - 1, by omega⟩
    rw [List.append_nil] at h
    subst h
    simp only [page_Used.l0]
    rw [if_neg (by omega)]
  | c :: R, Q, h => fun k hk => by
    obtain ⟨k, rfl⟩ : ∃ m, k = m + 1 := ⟨k - 1, by omega⟩
    have ih := used_l0 l hb R (Q ++ [c]) (by simpa using h) k (by simp at hk; omega)
    have hl : l.length = Q.length + (R.length + 1) := by rw [h]; simp
    have ht : tot l = tot Q + (4 + c.size + tot R) := by rw [h, tot_append]; rfl
    have h4 := len_tot l
    simp only [page_Used.l0]
    rw [if_pos (by omega), if_pos (by omega), if_pos (by omega)]
    have hr : rdOf ByteArray.empty l (Q.length : Int) = c := by rw [h]; exact rd_in
    rw [hr]
    rw [show wrap64 (((tot Q : Nat) : Int) + wrap64 (4 + (c.size : Int))) = ((tot (Q ++ [c]) : Nat) : Int) from wadd _ _ _ (by rw [tot_append]; simp only [tot]; omega) (by rw [tot_append]; simp only [tot]; omega)]
    rw [show wrap64 ((Q.length : Int) + 1) = (((Q ++ [c]).length : Nat) : Int) from wsucc _ _ (by simp) (by simp; omega)]
    exact ih
theorem used_is (l : List ByteArray) (hb : tot l ≤ 4611686018427387904) (k : Nat) (hk : l.length < k) : page_Used.f k l = some ((tot l : Nat) : Int) := used_l0 l hb l [] rfl k hk
/-! ### the cells, laid -/
def offs : List ByteArray → Nat → List Int
  | [], _ => []
  | c :: r, e => two (e - (2 + c.size)) ++ offs r (e - (2 + c.size))
def bodyL : List ByteArray → List Int → List Int
  | [], acc => acc
  | c :: r, acc => bodyL r (two c.size ++ (bytesOf c ++ acc))
theorem offs_length : ∀ (l : List ByteArray) (e : Nat), (offs l e).length = 2 * l.length
  | [], _ => rfl
  | c :: r, e => by simp only [offs, List.length_append, two_length, offs_length r, List.length_cons]; omega
theorem bodyL_length : ∀ (l : List ByteArray) (acc : List Int), (bodyL l acc).length + 2 * l.length = acc.length + tot l
  | [], _ => by simp [bodyL, tot]
  | c :: r, acc => by
    have := bodyL_length r (two c.size ++ (bytesOf c ++ acc))
    simp only [List.length_append, two_length, bytesOf_length] at this
    simp only [bodyL, tot, List.length_cons]
    omega
theorem spl_mid {P X S Y : List Int} {off : Nat} (ho : off = P.length) (h : X.length = Y.length) : page_Seal.spl (P ++ (X ++ S)) off Y = P ++ (Y ++ S) := by
  subst ho
  unfold page_Seal.spl
  rw [List.take_left, ← h, show P.length + X.length = (P ++ X).length by rw [List.length_append], ← List.append_assoc P X S, List.drop_left]
theorem zeros_split (a b : Nat) : List.replicate (a + b) (0 : Int) = List.replicate a 0 ++ List.replicate b 0 := (List.replicate_append_replicate).symm
theorem cells_is : ∀ (l : List ByteArray) (i z : Nat) (H O B : List Int), H.length = 12 → O.length = 2 * i → tot l ≤ z → 12 + 2 * i + z + B.length = 1024 →
    page_Seal.cells l i (12 + 2 * i + z) (H ++ (O ++ (List.replicate z 0 ++ B))) = some (H ++ ((O ++ offs l (12 + 2 * i + z)) ++ (List.replicate (z - tot l) 0 ++ bodyL l B)))
  | [], i, z, H, O, B, hH, hO, ht, hB => by simp [page_Seal.cells, offs, bodyL, tot]
  | c :: r, i, z, H, O, B, hH, hO, ht, hB => by
    simp only [tot] at ht
    obtain ⟨m, hm⟩ : ∃ m, z = 2 + (m + (2 + c.size)) := ⟨z - (4 + c.size), by omega⟩
    have he : 12 + 2 * i + z - (2 + c.size) = 12 + 2 * (i + 1) + m := by omega
    unfold page_Seal.cells
    rw [if_pos (by omega), he]
    have z1 : List.replicate z (0 : Int) ++ B = List.replicate 2 0 ++ (List.replicate m 0 ++ (List.replicate 2 0 ++ (List.replicate c.size 0 ++ B))) := by
      rw [hm, zeros_split, zeros_split m, zeros_split 2 c.size]; simp only [List.append_assoc]
    rw [z1]
    rw [show H ++ (O ++ (List.replicate 2 (0 : Int) ++ (List.replicate m 0 ++ (List.replicate 2 0 ++ (List.replicate c.size 0 ++ B))))) = (H ++ O) ++ (List.replicate 2 (0 : Int) ++ (List.replicate m 0 ++ (List.replicate 2 0 ++ (List.replicate c.size 0 ++ B)))) by simp only [List.append_assoc]]
    rw [spl_mid (off := 12 + 2 * i) (by rw [List.length_append]; omega) (by rw [List.length_replicate]; rfl)]
    rw [show (H ++ O) ++ (page_Seal.two (12 + 2 * (i + 1) + m) ++ (List.replicate m (0 : Int) ++ (List.replicate 2 0 ++ (List.replicate c.size 0 ++ B)))) = (H ++ (O ++ (page_Seal.two (12 + 2 * (i + 1) + m) ++ List.replicate m (0 : Int)))) ++ (List.replicate 2 0 ++ (List.replicate c.size 0 ++ B)) by simp only [List.append_assoc]]
    rw [spl_mid (off := 12 + 2 * (i + 1) + m) (by simp only [List.length_append, List.length_replicate, seal_two, two_length]; omega) (by rw [List.length_replicate]; rfl)]
    rw [show (H ++ (O ++ (page_Seal.two (12 + 2 * (i + 1) + m) ++ List.replicate m (0 : Int)))) ++ (page_Seal.two c.size ++ (List.replicate c.size (0 : Int) ++ B)) = (H ++ (O ++ (page_Seal.two (12 + 2 * (i + 1) + m) ++ (List.replicate m (0 : Int) ++ page_Seal.two c.size)))) ++ (List.replicate c.size (0 : Int) ++ B) by simp only [List.append_assoc]]
    rw [spl_mid (off := 12 + 2 * (i + 1) + m + 2) (by simp only [List.length_append, List.length_replicate, seal_two, two_length]; omega) (by rw [List.length_replicate, bytesOf_length])]
    have ih := cells_is r (i + 1) m H (O ++ two (12 + 2 * (i + 1) + m)) (two c.size ++ (bytesOf c ++ B)) hH (by simp only [List.length_append, two_length]; omega) (by omega) (by simp only [List.length_append, two_length, bytesOf_length]; omega)
    rw [show (H ++ (O ++ (page_Seal.two (12 + 2 * (i + 1) + m) ++ (List.replicate m (0 : Int) ++ page_Seal.two c.size)))) ++ (bytesOf c ++ B) = H ++ ((O ++ two (12 + 2 * (i + 1) + m)) ++ (List.replicate m 0 ++ (two c.size ++ (bytesOf c ++ B)))) by simp only [List.append_assoc, seal_two]]
    rw [ih]
    simp only [offs, bodyL, tot, he, List.append_assoc]
    rw [show z - (4 + c.size + tot r) = m - tot r by omega]
/-! ### the page -/
def restL (kd lk : Int) (l : List ByteArray) : List Int := [kd % 256, 0] ++ (two l.length ++ (four lk.toNat ++ (offs l 1024 ++ (List.replicate (1012 - tot l) 0 ++ bodyL l []))))
def sumL (xs : List Int) : Nat := sumOf (xs.map b8)
def sealed (kd lk : Int) (l : List ByteArray) : ByteArray × Int :=
  if kd < 1 ∨ kd > 5 ∨ lk < 0 ∨ lk > 2147483647 then ((⟨#[]⟩ : ByteArray), 1) else if tot l > 1012 then ((⟨#[]⟩ : ByteArray), 5) else (strOfNums (four (sumL (restL kd lk l)) ++ restL kd lk l), 0)
theorem restL_length {kd lk : Int} {l : List ByteArray} (h : tot l ≤ 1012) : (restL kd lk l).length = 1020 := by
  have := bodyL_length l []
  have h2 := len_tot l
  simp only [restL, List.length_append, List.length_cons, List.length_nil, two_length, four_length, offs_length, List.length_replicate] at this ⊢
  omega
theorem seal_start (kd : Int) (t0 t1 : List Int) (h0 : t0.length = 2) (h1 : t1.length = 4) :
    page_Seal.spl (page_Seal.spl ((List.replicate 1024 (0 : Int)).set 4 (kd % 256)) 6 t0) 8 t1 = ([0, 0, 0, 0] ++ ([kd % 256, 0] ++ (t0 ++ t1))) ++ ([] ++ (List.replicate 1012 0 ++ [])) := by
  have e : (List.replicate 1024 (0 : Int)).set 4 (kd % 256) = ([0, 0, 0, 0, kd % 256, 0] : List Int) ++ (List.replicate 2 0 ++ (List.replicate 4 0 ++ List.replicate 1012 0)) := by
    rw [List.replicate_append_replicate, List.replicate_append_replicate]
    rfl
  rw [e, spl_mid (off := 6) rfl (by rw [List.length_replicate, h0])]
  rw [show ([0, 0, 0, 0, kd % 256, 0] : List Int) ++ (t0 ++ (List.replicate 4 0 ++ List.replicate 1012 0)) = (([0, 0, 0, 0, kd % 256, 0] : List Int) ++ t0) ++ (List.replicate 4 0 ++ List.replicate 1012 0) by simp only [List.append_assoc]]
  rw [spl_mid (off := 8) (by rw [List.length_append, h0]; rfl) (by rw [List.length_replicate, h1])]
  simp only [List.append_assoc, List.nil_append, List.append_nil, List.cons_append]
theorem sealed_drop (kd lk : Int) (l : List ByteArray) (t0 t1 : List Int) (h0 : t0 = two l.length) (h1 : t1 = four lk.toNat) (h : tot l ≤ 1012) :
    page_Seal.cells l 0 1024 (page_Seal.spl (page_Seal.spl ((List.replicate 1024 (0 : Int)).set 4 (kd % 256)) 6 t0) 8 t1) = some ([0, 0, 0, 0] ++ restL kd lk l) := by
  subst h0; subst h1
  rw [seal_start kd _ _ rfl rfl]
  have := cells_is l 0 1012 ([0, 0, 0, 0] ++ ([kd % 256, 0] ++ (two l.length ++ four lk.toNat))) [] [] rfl rfl h rfl
  rw [show (12 + 2 * 0 + 1012 : Nat) = 1024 from rfl] at this
  rw [this]
  simp only [restL, List.append_assoc, List.nil_append, List.append_nil]
theorem p_seal (kd lk : Int) (l : List ByteArray) (hb : tot l ≤ 4611686018427387904) : ∃ n, ∀ k, n ≤ k → page_Seal.f k kd lk l = some (sealed kd lk l) := by
  by_cases h1 : kd < 1 ∨ kd > 5 ∨ lk < 0 ∨ lk > 2147483647
  · refine ⟨0, fun k hk => ?_⟩
    unfold page_Seal.f sealed
    rw [if_pos h1, if_pos h1]
  by_cases h2 : tot l > 1012
  · refine ⟨l.length + 1, fun k hk => ?_⟩
    unfold page_Seal.f sealed
    rw [if_neg h1, if_neg h1, used_is l hb k (by omega)]
    simp only [Option.bind_some]
    rw [if_pos (by omega), if_pos h2]
  obtain ⟨n, hs⟩ := p_sum (strOfNums (restL kd lk l)) (by rw [nums_size, restL_length (by omega)]; decide)
  refine ⟨n + l.length + 1, fun k hk => ?_⟩
  unfold page_Seal.f sealed
  rw [if_neg h1, if_neg h1, used_is l hb k (by omega)]
  simp only [Option.bind_some]
  rw [if_neg (by omega), if_neg h2, p_two]
  simp only [Option.bind_some]
  obtain ⟨m, rfl⟩ := Int.eq_ofNat_of_zero_le (show 0 ≤ lk by omega)
  rw [p_four]
  simp only [Option.bind_some]
  rw [sealed_drop kd (m : Int) l _ _ rfl (by rw [Int.toNat_natCast]) (by omega)]
  simp only [Option.bind_some]
  rw [show (([0, 0, 0, 0] : List Int) ++ restL kd (m : Int) l).drop 4 = restL kd (m : Int) l from rfl, hs k (by omega)]
  simp only [Option.bind_some]
  rw [p_four]
  simp only [Option.bind_some]
  have := spl_mid (P := []) (X := [0, 0, 0, 0]) (S := restL kd (m : Int) l) (Y := four (sumOf (strOfNums (restL kd (m : Int) l)).data.toList)) (off := 0) rfl rfl
  simp only [List.nil_append] at this
  rw [this]
  rfl
/-! ### the document's page -/
theorem wsub (a b c : Nat) (h : b ≤ 4611686018427387904) (hc : c ≤ 4611686018427387904) : wrap64 ((1012 - (a : Int)) - wrap64 (4 + (b : Int))) = 1012 - (c : Int) ∨ ¬ (a + (4 + b) = c) := by
  by_cases h0 : a + (4 + b) = c
  · left; unfold wrap64; omega
  · exact .inr h0
theorem r_l1_loop (kd lk : Int) (l : List ByteArray) (hb : tot l ≤ 4611686018427387904) : ∀ (R Q : List ByteArray), l = Q ++ R → ∀ k, relstoreref_Seal.l0 (k + R.length) (1012 - ((tot Q : Nat) : Int)) l (l.length : Int) (Q.length : Int) kd lk l = relstoreref_Seal.l0 k (1012 - ((tot l : Nat) : Int)) l (l.length : Int) (l.length : Int) kd lk l
  | [], Q, h => fun k => by
    rw [List.append_nil] at h
    subst h
    rfl
  | c :: R, Q, h => fun k => by
    have ih := r_l1_loop kd lk l hb R (Q ++ [c]) (by simpa using h) k
    have hl : l.length = Q.length + (R.length + 1) := by rw [h]; simp
    have ht : tot l = tot Q + (4 + c.size + tot R) := by rw [h, tot_append]; rfl
    have hq : tot (Q ++ [c]) = tot Q + (4 + c.size) := by rw [tot_append]; rfl
    have h4 := len_tot l
    show relstoreref_Seal.l0 (k + R.length + 1) _ _ _ _ _ _ _ = _
    rw [← ih]
    conv => lhs; unfold relstoreref_Seal.l0
    rw [if_pos (by omega), if_pos (by omega), if_pos (by omega)]
    have hr : rdOf ByteArray.empty l (Q.length : Int) = c := by rw [h]; exact rd_in
    rw [hr, (wsub (tot Q) c.size (tot (Q ++ [c])) (by omega) (by omega)).resolve_right (by omega)]
    rw [show wrap64 ((Q.length : Int) + 1) = (((Q ++ [c]).length : Nat) : Int) from wsucc _ _ (by simp) (by simp; omega)]
theorem r_l2_loop (x4 : Int) (l : List ByteArray) (hb : tot l ≤ 1012) : ∀ (R Q : List ByteArray) (hd bd : List Int), l = Q ++ R → hd.length ≤ 2000 + 2 * Q.length → bd.length + tot R ≤ 1012 → ∀ k, 5 ≤ k →
    relstoreref_Seal.l1 (k + R.length) x4 (strOfNums hd) (strOfNums bd) l (l.length : Int) (Q.length : Int) = relstoreref_Seal.l1 k x4 (strOfNums (hd ++ offs R (1024 - bd.length))) (strOfNums (bodyL R bd)) l (l.length : Int) (l.length : Int)
  | [], Q, hd, bd, h, h1, h2 => fun k hk => by
    rw [List.append_nil] at h
    subst h
    simp [offs, bodyL]
  | c :: R, Q, hd, bd, h, h1, h2 => fun k hk => by
    simp only [tot] at h2
    have ih := r_l2_loop x4 l hb R (Q ++ [c]) (hd ++ two (1024 - (2 + c.size + bd.length))) (two c.size ++ (bytesOf c ++ bd)) (by simpa using h) (by simp only [List.length_append, two_length, List.length_cons, List.length_nil]; omega) (by simp only [List.length_append, two_length, bytesOf_length]; omega) k hk
    have hl : l.length = Q.length + (R.length + 1) := by rw [h]; simp
    have h4 := len_tot l
    show relstoreref_Seal.l1 (k + R.length + 1) _ _ _ _ _ _ = _
    have hr : rdOf ByteArray.empty l (Q.length : Int) = c := by rw [h]; exact rd_in
    have e0 : (strOfNums (two c.size) ++ c) ++ strOfNums bd = strOfNums (two c.size ++ (bytesOf c ++ bd)) := by
      rw [show strOfNums (two c.size) ++ c = strOfNums (two c.size ++ bytesOf c) by rw [← nums_append, nums_bytes], nums_append]
      simp only [List.append_assoc]
    have e1 : (strOfNums (two c.size ++ (bytesOf c ++ bd))).size = 2 + c.size + bd.length := by rw [nums_size]; simp only [List.length_append, two_length, bytesOf_length]; omega
    have e2 : IntKind.u64.wrap (wrap64 (1024 - ((2 + c.size + bd.length : Nat) : Int))) = ((1024 - (2 + c.size + bd.length) : Nat) : Int) := by
      rw [show wrap64 (1024 - ((2 + c.size + bd.length : Nat) : Int)) = ((1024 - (2 + c.size + bd.length) : Nat) : Int) by unfold wrap64; omega]
      exact IntWalk.u64_in _ (by omega)
    conv => lhs; unfold relstoreref_Seal.l1
    rw [if_pos (by omega), if_pos (by omega), if_pos (by omega), hr, IntWalk.u64_in _ (by omega), bytes2 _ (by omega) _ (by omega)]
    simp only [Option.bind_some]
    rw [e0, e1, e2, bytes2 _ (by omega) _ (by omega)]
    simp only [Option.bind_some]
    have s1 : (strOfNums (two c.size)).size = 2 := by rw [nums_size]; rfl
    have s2 : (strOfNums bd).size = bd.length := nums_size bd
    rw [if_pos (by rw [s1]; omega), if_pos (by rw [ByteArray.size_append, s1, s2]; omega), if_pos (by rw [nums_size, nums_size, two_length]; omega), nums_append]
    rw [show wrap64 ((Q.length : Int) + 1) = (((Q ++ [c]).length : Nat) : Int) from wsucc _ _ (by simp) (by simp; omega)]
    rw [ih]
    simp only [offs, bodyL, List.append_assoc, List.length_append, two_length, bytesOf_length]
    rw [show 1024 - bd.length - (2 + c.size) = 1024 - (2 + c.size + bd.length) by omega, show 1024 - (2 + (c.size + bd.length)) = 1024 - (2 + c.size + bd.length) by omega]
theorem r_seal (kd lk : Int) (l : List ByteArray) (hb : tot l ≤ 4611686018427387904) : ∃ n, ∀ k, n ≤ k → relstoreref_Seal.f k kd lk l = some (sealed kd lk l) := by
  have bad : (kd < 1 ∨ kd > 5 ∨ lk < 0 ∨ lk > 2147483647) → ∀ k, 1 ≤ k → relstoreref_Seal.f k kd lk l = some ((⟨#[]⟩ : ByteArray), 1) := by
    intro h k hk
    obtain ⟨k, rfl⟩ : ∃ m, k = m + 1 := ⟨k - 1, by omega⟩
    have hj : relstoreref_Seal.j0 (k + 1) true kd lk l = some ((⟨#[]⟩ : ByteArray), 1) := by
      simp [relstoreref_Seal.j0]
    unfold relstoreref_Seal.f relstoreref_in.f
    by_cases h1 : kd ≥ 1
    · rw [if_pos h1]
      simp only [Option.bind_some]
      by_cases h2 : kd ≤ 5
      · rw [if_pos (by simpa using h2)]
        by_cases h3 : lk ≥ 0
        · rw [if_pos h3]
          simp only [Option.bind_some]
          rw [show (!decide (lk ≤ 2147483647)) = true by simp; omega]
          exact hj
        · rw [if_neg h3]
          exact hj
      · rw [if_neg (by simpa using h2)]
        exact hj
    · rw [if_neg h1]
      simp only [Option.bind_some]
      rw [if_neg (by decide)]
      exact hj
  by_cases h1 : kd < 1 ∨ kd > 5 ∨ lk < 0 ∨ lk > 2147483647
  · refine ⟨1, fun k hk => ?_⟩
    rw [bad h1 k hk]
    unfold sealed
    rw [if_pos h1]
  have good : ∀ k, relstoreref_Seal.f (k + 1) kd lk l = relstoreref_Seal.l0 k 1012 l (l.length : Int) 0 kd lk l := by
    intro k
    unfold relstoreref_Seal.f relstoreref_in.f
    rw [if_pos (by omega)]
    simp only [Option.bind_some]
    rw [if_pos (by simp; omega), if_pos (by omega)]
    simp only [Option.bind_some]
    rw [show (!decide (lk ≤ 2147483647)) = false by simp; omega]
    simp only [relstoreref_Seal.j0]
    rw [if_neg (by decide)]
  have loop : ∀ k, relstoreref_Seal.f (k + l.length + 1) kd lk l = relstoreref_Seal.l0 k (1012 - ((tot l : Nat) : Int)) l (l.length : Int) (l.length : Int) kd lk l := fun k => (good _).trans (r_l1_loop kd lk l hb l [] rfl k)
  have h4 := len_tot l
  by_cases h2 : tot l > 1012
  · refine ⟨l.length + 2, fun k hk => ?_⟩
    obtain ⟨k, rfl⟩ : ∃ m, k = m + 1 + l.length + 1 := ⟨k - l.length - 2, by omega⟩
    rw [loop]
    unfold relstoreref_Seal.l0 sealed
    rw [if_neg (by omega), if_pos (by omega), if_neg h1, if_pos h2]
  obtain ⟨n, hs⟩ := r_sum (strOfNums (restL kd lk l)) (by rw [nums_size, restL_length (by omega)]; decide)
  refine ⟨n + 2 * l.length + 10, fun k hk => ?_⟩
  obtain ⟨k, rfl⟩ : ∃ m, k = m + 6 + l.length + 1 + l.length + 1 := ⟨k - 2 * l.length - 8, by omega⟩
  rw [loop]
  unfold relstoreref_Seal.l0
  obtain ⟨m, rfl⟩ := Int.eq_ofNat_of_zero_le (show 0 ≤ lk by omega)
  rw [if_neg (by omega), if_neg (by omega)]
  simp only [Option.bind_some]
  rw [IntWalk.u64_in _ (by omega), bytes2 _ (by omega) _ (by omega)]
  simp only [Option.bind_some]
  rw [if_pos (by rw [nums_size, nums_size]; simp only [List.length_cons, List.length_nil, two_length]; omega), IntWalk.u64_in _ (by omega), bytes4 _ (by omega) _ (by omega)]
  simp only [Option.bind_some]
  rw [nums_append, if_pos (by rw [nums_size, nums_size]; simp only [List.length_append, List.length_cons, List.length_nil, two_length, four_length]; omega), nums_append]
  have hz := r_l2_loop (1012 - ((tot l : Nat) : Int)) l (by omega) l [] ([(kd % 256), 0] ++ two l.length ++ four m) [] rfl (by simp only [List.length_append, List.length_cons, List.length_nil, two_length, four_length]; omega) (by simp; omega) (k + 6) (by omega)
  rw [show (⟨#[]⟩ : ByteArray) = strOfNums [] from rfl]
  refine Eq.trans hz ?_
  unfold relstoreref_Seal.l1
  have hrest : [kd % 256, 0] ++ two l.length ++ four m ++ offs l (1024 - ([] : List Int).length) ++ List.replicate (1012 - tot l) 0 ++ bodyL l [] = restL kd (m : Int) l := by
    simp only [restL, List.append_assoc, List.length_nil, Nat.sub_zero, Int.toNat_natCast]
  have hlen := restL_length (kd := kd) (lk := (m : Int)) (l := l) (by omega)
  have e4 : (1012 - ((tot l : Nat) : Int)).toNat = 1012 - tot l := by omega
  rw [if_neg (by omega), if_pos (by omega), e4, if_pos (by omega)]
  simp only [Option.bind_some]
  have hlen2 := congrArg List.length hrest
  rw [hlen] at hlen2
  simp only [List.length_append] at hlen2
  rw [if_pos (by rw [nums_size, nums_size]; simp only [List.length_append]; omega), nums_append, if_pos (by rw [nums_size, nums_size]; simp only [List.length_append]; omega), nums_append, hrest, hs _ (by omega)]
  simp only [Option.bind_some]
  have hlt := sumOf_lt (strOfNums (restL kd (m : Int) l)).data.toList
  rw [IntWalk.u64_in _ (by omega), bytes4 _ (by omega) _ (by omega)]
  simp only [Option.bind_some]
  rw [if_pos (by rw [nums_size, nums_size, four_length, hlen]; omega), nums_append]
  unfold sealed
  rw [if_neg h1, if_neg h2]
  rfl
end Go.Proofs.Ythaoaaboempajaa.Pages
