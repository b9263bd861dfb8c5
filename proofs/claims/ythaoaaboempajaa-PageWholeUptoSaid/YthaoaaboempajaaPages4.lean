/- What any bytes are as a page (2), as the program and as the document's answer read them: both are one plain reading. -/
import Derived.Test.YthaoaaboempajaaPages3
namespace Go.Proofs.Ythaoaaboempajaa.Pages
open Go.RowKit Go.Proofs.Ythaoaaboempajaa.QPageSeals Go.Proofs.YthaoaaboempajaaW.PrintWords Go.Proofs.YthaoaaboempajaaW.PrintLast Go.Proofs.YthaoaaboempajaaE
set_option linter.unusedVariables false
set_option linter.unusedSimpArgs false
/-! ### the cells that bytes tell -/
def parse (s : ByteArray) : Nat → Nat → List ByteArray → Option (List ByteArray)
  | 0, _, acc => some acc
  | m + 1, i, acc => if u16 s.data.toList (12 + 2 * i) + 2 > 1024 then none else
      if u16 s.data.toList (12 + 2 * i) + 2 + u16 s.data.toList (u16 s.data.toList (12 + 2 * i)) > 1024 then none else
        parse s m (i + 1) (acc ++ [s.extract (u16 s.data.toList (12 + 2 * i) + 2) (u16 s.data.toList (12 + 2 * i) + 2 + u16 s.data.toList (u16 s.data.toList (12 + 2 * i)))])
theorem extract_size_le (s : ByteArray) (a b : Nat) : (s.extract a b).size ≤ b - a := by
  have : (s.extract a b).size = (s.extract a b).data.toList.length := (data_length _).symm
  rw [this, extract_list, List.length_take]
  omega
theorem parse_tot (s : ByteArray) : ∀ (m i : Nat) (acc l : List ByteArray), parse s m i acc = some l → tot l ≤ tot acc + m * 1028 ∧ l.length = acc.length + m
  | 0, i, acc, l, h => by
    obtain rfl := Option.some.inj h
    exact ⟨by omega, by omega⟩
  | m + 1, i, acc, l, h => by
    unfold parse at h
    split at h
    · cases h
    split at h
    · cases h
    have ih := parse_tot s m (i + 1) _ l h
    rw [tot_append, List.length_append] at ih
    have := extract_size_le s (u16 s.data.toList (12 + 2 * i) + 2) (u16 s.data.toList (12 + 2 * i) + 2 + u16 s.data.toList (u16 s.data.toList (12 + 2 * i)))
    simp only [tot, List.length_cons, List.length_nil] at ih
    have e : (m + 1) * 1028 = m * 1028 + 1028 := by omega
    omega
theorem parse_no1 {s : ByteArray} {m i A : Nat} {acc : List ByteArray} (hA : u16 s.data.toList (12 + 2 * i) = A) (h : A + 2 > 1024) : parse s (m + 1) i acc = none := by
  unfold parse
  rw [hA, if_pos h]
theorem parse_no2 {s : ByteArray} {m i A B : Nat} {acc : List ByteArray} (hA : u16 s.data.toList (12 + 2 * i) = A) (hB : u16 s.data.toList A = B) (h : ¬ A + 2 > 1024) (h2 : A + 2 + B > 1024) : parse s (m + 1) i acc = none := by
  unfold parse
  rw [hA, if_neg h, hB, if_pos h2]
theorem parse_go {s : ByteArray} {m i A B : Nat} {acc : List ByteArray} (hA : u16 s.data.toList (12 + 2 * i) = A) (hB : u16 s.data.toList A = B) (h : ¬ A + 2 > 1024) (h2 : ¬ A + 2 + B > 1024) : parse s (m + 1) i acc = parse s m (i + 1) (acc ++ [s.extract (A + 2) (A + 2 + B)]) := by
  conv => lhs; unfold parse
  rw [hA, if_neg h, hB, if_neg h2]
theorem snoc_tot {s : ByteArray} {A B i : Nat} {acc : List ByteArray} (h2 : ¬ A + 2 + B > 1024) (ht : tot acc ≤ i * 1028) : tot (acc ++ [s.extract (A + 2) (A + 2 + B)]) ≤ (i + 1) * 1028 := by
  rw [tot_append]
  have := extract_size_le s (A + 2) (A + 2 + B)
  simp only [tot]
  omega
abbrev Res := Int × Int × List ByteArray × Int
def dmg : Res := (0, 0, [], 4)
def opened (s : ByteArray) (kd lk : Int) : Option (List ByteArray) → Res
  | none => dmg
  | some l => if (sealed kd lk l).2 = 0 then (if (sealed kd lk l).1.toList = s.toList then (kd, lk, l, 0) else dmg) else dmg
theorem p_loop (s : ByteArray) (hs : s.size = 1024) (kd lk : Int) (n : Nat) (hn : n ≤ 506) : ∀ (m i : Nat) (acc : List ByteArray), i + m = n → acc.length ≤ i → tot acc ≤ i * 1028 → ∃ N, ∀ k, N ≤ k → page_Open.l0 k s (n : Int) (i : Int) kd lk acc = some (opened s kd lk (parse s m i acc))
  | 0, i, acc, hi, ha, ht => by
    obtain ⟨N, h⟩ := p_seal kd lk acc (by omega)
    refine ⟨N + 1, fun k hk => ?_⟩
    obtain ⟨k, rfl⟩ : ∃ m, k = m + 1 := ⟨k - 1, by omega⟩
    simp only [page_Open.l0]
    rw [if_neg (by omega), h k (by omega)]
    simp only [Option.bind_some, parse, opened]
    by_cases h1 : (sealed kd lk acc).2 = 0
    · rw [if_pos h1, if_pos h1]
      by_cases h2 : (sealed kd lk acc).1.toList = s.toList
      · rw [if_pos h2, if_pos h2]
      · rw [if_neg h2, if_neg h2]
        rfl
    · rw [if_neg h1, if_neg h1]
      rfl
  | m + 1, i, acc, hi, ha, ht => by
    obtain ⟨A, hA⟩ : ∃ A, u16 s.data.toList (12 + 2 * i) = A := ⟨_, rfl⟩
    obtain ⟨B, hB⟩ : ∃ B, u16 s.data.toList A = B := ⟨_, rfl⟩
    have b1 : A < 65536 := by rw [← hA]; exact u16_lt _ _
    have b2 : B < 65536 := by rw [← hB]; exact u16_lt _ _
    have r1 : Aside0 (page_at16.f s ((12 + 2 * i : Nat) : Int) = some (A : Int)) := ⟨by rw [← hA]; exact p_at16 s _ (by omega) (by omega)⟩
    have e1 : Aside0 (wrap64 (12 + wrap64 (2 * (i : Int))) = ((12 + 2 * i : Nat) : Int)) := ⟨w_12 _ _ rfl (by omega)⟩
    have e2 : Aside0 (wrap64 ((A : Int) + 2) = ((A + 2 : Nat) : Int)) := ⟨w_add2 _ _ rfl (by omega)⟩
    have e3 : Aside0 (wrap64 (((A + 2 : Nat) : Int) + (B : Int)) = ((A + 2 + B : Nat) : Int)) := ⟨w_add _ _ _ rfl (by omega)⟩
    by_cases h1 : A + 2 > 1024
    · refine ⟨1, fun k hk => ?_⟩
      obtain ⟨k, rfl⟩ : ∃ m, k = m + 1 := ⟨k - 1, by omega⟩
      simp only [page_Open.l0]
      rw [if_pos (by omega), e1.out, r1.out]
      rw [Option.bind_some]
      rw [e2.out, if_pos (by omega), parse_no1 hA h1]
      rfl
    have r2 : Aside0 (page_at16.f s (A : Int) = some (B : Int)) := ⟨by rw [← hB]; exact p_at16 s _ (by omega) (by omega)⟩
    by_cases h2 : A + 2 + B > 1024
    · refine ⟨1, fun k hk => ?_⟩
      obtain ⟨k, rfl⟩ : ∃ m, k = m + 1 := ⟨k - 1, by omega⟩
      simp only [page_Open.l0]
      rw [if_pos (by omega), e1.out, r1.out]
      rw [Option.bind_some]
      rw [e2.out, if_neg (by omega), r2.out]
      rw [Option.bind_some]
      rw [e3.out, if_pos (by omega), parse_no2 hA hB h1 h2]
      rfl
    obtain ⟨N, ih⟩ := p_loop s hs kd lk n hn m (i + 1) (acc ++ [s.extract (A + 2) (A + 2 + B)]) (by omega) (by simp; omega) (snoc_tot h2 ht)
    refine ⟨N + 1, fun k hk => ?_⟩
    obtain ⟨k, rfl⟩ : ∃ m, k = m + 1 := ⟨k - 1, by omega⟩
    simp only [page_Open.l0]
    rw [if_pos (by omega), e1.out, r1.out]
    rw [Option.bind_some]
    rw [e2.out, if_neg (by omega), r2.out]
    rw [Option.bind_some]
    rw [e3.out, if_neg (by omega), Option.bind_some, e3.out, if_pos (by omega), if_pos (by omega), if_pos (by omega), if_pos (by omega), wsucc i (i + 1) rfl (by omega), Int.toNat_natCast, Int.toNat_natCast, ih k (by omega), parse_go hA hB h1 h2]
theorem r_loop (s : ByteArray) (hs : s.size = 1024) (kd lk : Int) (T n : Nat) (hT : u16 s.data.toList 6 = T) (hn : n = min T 506) : ∀ (m i : Nat) (acc : List ByteArray), i + m = n → acc.length ≤ i → tot acc ≤ i * 1028 → ∃ N, ∀ k, N ≤ k → relstoreref_Open.l0 k s (i : Int) kd lk acc = some (opened s kd lk (parse s m i acc))
  | 0, i, acc, hi, ha, ht => by
    have b0 : T < 65536 := by rw [← hT]; exact u16_lt _ _
    have r0 : Aside0 (∀ k, 5 ≤ k → relstoreref_unbytes.f k (s.extract 6 8) = some (T : Int)) := ⟨fun k hk => by rw [← hT]; exact r_un2 s 6 (by omega) k hk⟩
    obtain ⟨N, h⟩ := r_seal kd lk acc (by omega)
    refine ⟨N + 7, fun k hk => ?_⟩
    obtain ⟨k, rfl⟩ : ∃ m, k = m + 2 := ⟨k - 2, by omega⟩
    have hend : relstoreref_Open.j1 (k + 1) s (i : Int) false kd lk acc = some (opened s kd lk (parse s 0 i acc)) := by
      simp only [relstoreref_Open.j1]
      rw [if_neg (by decide), h k (by omega)]
      simp only [Option.bind_some, parse, opened]
      by_cases h1 : (sealed kd lk acc).2 = 0
      · rw [if_pos h1, if_pos h1]
        by_cases h2 : (sealed kd lk acc).1.toList = s.toList
        · rw [if_pos h2, if_pos h2]
        · rw [if_neg h2, if_neg h2]
          rfl
      · rw [if_neg h1, if_neg h1]
        rfl
    show relstoreref_Open.l0 (k + 1 + 1) _ _ _ _ _ = _
    simp only [relstoreref_Open.l0]
    rw [if_pos (by decide), if_pos (by omega), r0.out _ (by omega)]
    rw [Option.bind_some]
    rw [w_nat T (by omega)]
    by_cases hlt : i < T
    · rw [if_pos (by omega), decide_eq_false (by rw [w_14 i _ rfl (by omega)]; omega)]
      exact hend
    · rw [if_neg (by omega)]
      exact hend
  | m + 1, i, acc, hi, ha, ht => by
    have b0 : T < 65536 := by rw [← hT]; exact u16_lt _ _
    have r0 : Aside0 (∀ k, 5 ≤ k → relstoreref_unbytes.f k (s.extract 6 8) = some (T : Int)) := ⟨fun k hk => by rw [← hT]; exact r_un2 s 6 (by omega) k hk⟩
    obtain ⟨A, hA⟩ : ∃ A, u16 s.data.toList (12 + 2 * i) = A := ⟨_, rfl⟩
    obtain ⟨B, hB⟩ : ∃ B, u16 s.data.toList A = B := ⟨_, rfl⟩
    have b1 : A < 65536 := by rw [← hA]; exact u16_lt _ _
    have b2 : B < 65536 := by rw [← hB]; exact u16_lt _ _
    have r1 : Aside0 (∀ k, 5 ≤ k → relstoreref_unbytes.f k (s.extract (12 + 2 * i) (12 + 2 * i + 2)) = some (A : Int)) := ⟨fun k hk => by rw [← hA]; exact r_un2 s _ (by omega) k hk⟩
    have e1 : Aside0 (wrap64 (12 + wrap64 (2 * (i : Int))) = ((12 + 2 * i : Nat) : Int)) := ⟨w_12 _ _ rfl (by omega)⟩
    have e1' : Aside0 (wrap64 (14 + wrap64 (2 * (i : Int))) = ((12 + 2 * i + 2 : Nat) : Int)) := ⟨w_14 _ _ rfl (by omega)⟩
    have e0 : Aside0 (wrap64 (A : Int) = (A : Int)) := ⟨w_nat _ (by omega)⟩
    have e0' : Aside0 (wrap64 (B : Int) = (B : Int)) := ⟨w_nat _ (by omega)⟩
    have e2 : Aside0 (wrap64 ((A : Int) + 2) = ((A + 2 : Nat) : Int)) := ⟨w_add2 _ _ rfl (by omega)⟩
    have e3 : Aside0 (wrap64 (((A + 2 : Nat) : Int) + (B : Int)) = ((A + 2 + B : Nat) : Int)) := ⟨w_add _ _ _ rfl (by omega)⟩
    have enter : ∀ k, 6 ≤ k → relstoreref_Open.l0 (k + 1) s (i : Int) kd lk acc = relstoreref_Open.j1 k s (i : Int) true kd lk acc := by
      intro k hk
      simp only [relstoreref_Open.l0]
      rw [if_pos (by decide), if_pos (by omega), r0.out _ (by omega)]
      rw [Option.bind_some]
      rw [w_nat T (by omega), if_pos (by omega), decide_eq_true (by rw [e1'.out]; omega)]
    by_cases h1 : A + 2 > 1024
    · refine ⟨9, fun k hk => ?_⟩
      obtain ⟨k, rfl⟩ : ∃ m, k = m + 1 + 1 := ⟨k - 2, by omega⟩
      rw [enter _ (by omega)]
      simp only [relstoreref_Open.j1]
      rw [if_pos trivial, e1.out, e1'.out, if_pos (by omega), if_pos (by omega), if_pos (by omega), Int.toNat_natCast, Int.toNat_natCast, r1.out _ (by omega)]
      rw [Option.bind_some]
      rw [e0.out, e2.out, if_pos (by omega), parse_no1 hA h1]
      rfl
    have r2 : Aside0 (∀ k, 5 ≤ k → relstoreref_unbytes.f k (s.extract A (A + 2)) = some (B : Int)) := ⟨fun k hk => by rw [← hB]; exact r_un2 s _ (by omega) k hk⟩
    by_cases h2 : A + 2 + B > 1024
    · refine ⟨9, fun k hk => ?_⟩
      obtain ⟨k, rfl⟩ : ∃ m, k = m + 1 + 1 := ⟨k - 2, by omega⟩
      rw [enter _ (by omega)]
      simp only [relstoreref_Open.j1]
      rw [if_pos trivial, e1.out, e1'.out, if_pos (by omega), if_pos (by omega), if_pos (by omega), Int.toNat_natCast, Int.toNat_natCast, r1.out _ (by omega)]
      rw [Option.bind_some]
      rw [e0.out, e2.out, if_neg (by omega), if_pos (by omega), if_pos (by omega), if_pos (by omega), Int.toNat_natCast, Int.toNat_natCast, r2.out _ (by omega)]
      rw [Option.bind_some]
      rw [e0'.out, e3.out, if_pos (by omega), parse_no2 hA hB h1 h2]
      rfl
    obtain ⟨N, ih⟩ := r_loop s hs kd lk T n hT hn m (i + 1) (acc ++ [s.extract (A + 2) (A + 2 + B)]) (by omega) (by simp; omega) (snoc_tot h2 ht)
    refine ⟨N + 9, fun k hk => ?_⟩
    obtain ⟨k, rfl⟩ : ∃ m, k = m + 1 + 1 := ⟨k - 2, by omega⟩
    rw [enter _ (by omega)]
    simp only [relstoreref_Open.j1]
    rw [if_pos trivial, e1.out, e1'.out, if_pos (by omega), if_pos (by omega), if_pos (by omega), Int.toNat_natCast, Int.toNat_natCast, r1.out _ (by omega)]
    rw [Option.bind_some]
    rw [e0.out, e2.out, if_neg (by omega), if_pos (by omega), if_pos (by omega), if_pos (by omega), Int.toNat_natCast, Int.toNat_natCast, r2.out _ (by omega)]
    rw [Option.bind_some]
    rw [e0'.out, e3.out, if_neg (by omega), if_pos (by omega), if_pos (by omega), if_pos (by omega), if_pos (by omega), wsucc i (i + 1) rfl (by omega), Int.toNat_natCast, ih k (by omega), parse_go hA hB h1 h2]
end Go.Proofs.Ythaoaaboempajaa.Pages
