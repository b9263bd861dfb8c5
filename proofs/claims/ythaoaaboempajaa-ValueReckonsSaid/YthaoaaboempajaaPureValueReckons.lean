/- The plain law of ValueReckons: what is reckoned with any values; no conditions. -/
import Derived.Test.YthaoaaboempajaaQValueReckonsx
import Derived.Test.YthaoaaboempajaaE
namespace Go.Proofs.Ythaoaaboempajaa.Pure
open Go.RowKit Go.Proofs.Ythaoaaboempajaa.QValueReckons Go.Proofs.YthaoaaboempajaaW.PrintWords Go.Proofs.YthaoaaboempajaaW.PrintLast Go.Proofs.YthaoaaboempajaaE
set_option linter.unusedVariables false
set_option linter.unusedSimpArgs false
theorem lim_ok {n : Nat} (h : n ≤ 100001) : n < 17592186044416 := by omega
theorem lim_le {n i j a b : Nat} (h1 : n = i) (h2 : i + (j + 1) = max a b + 1) (h3 : a ≤ 100000) (h4 : b ≤ 100000) : n ≤ 100001 := by omega
/-- What digits to the base 10000 say, the lowest first. -/
def val : List Int → Int
  | [] => 0
  | d :: l => d + 10000 * val l
def Dig (l : List Int) : Prop := ∀ d ∈ l, 0 ≤ d ∧ d < 10000
/-- No zeros at the end. -/
def Norm (l : List Int) : Prop := l.getLast? ≠ some 0
theorem pow_pos' (n : Nat) : (0 : Int) < 10000 ^ n := Int.pow_pos (by decide)
theorem val_append : ∀ (l m : List Int), val (l ++ m) = val l + 10000 ^ l.length * val m
  | [], m => by simp [val]
  | d :: l, m => by
    rw [List.cons_append, val, val, val_append l m, List.length_cons, Int.pow_succ]
    generalize (10000 : Int) ^ l.length = p
    rw [Int.mul_add, Int.mul_comm p 10000, Int.mul_assoc]
    omega
theorem val_bound : ∀ {l : List Int}, Dig l → 0 ≤ val l ∧ val l < 10000 ^ l.length
  | [], _ => by simp [val]
  | d :: l, h => by
    have h1 := h d (by simp)
    have h2 := val_bound (l := l) (fun x hx => h x (List.mem_cons_of_mem _ hx))
    rw [val, List.length_cons, Int.pow_succ]
    generalize (10000 : Int) ^ l.length = p at *
    omega
theorem Dig_append {l m : List Int} (hl : Dig l) (hm : Dig m) : Dig (l ++ m) := fun d hd => (List.mem_append.1 hd).elim (hl d) (hm d)
theorem Dig_take {l : List Int} (hl : Dig l) (n : Nat) : Dig (l.take n) := fun d hd => hl d (List.mem_of_mem_take hd)
theorem Dig_drop {l : List Int} (hl : Dig l) (n : Nat) : Dig (l.drop n) := fun d hd => hl d (List.mem_of_mem_drop hd)
theorem Dig_zeros (n : Nat) : Dig (List.replicate n 0) := fun d hd => by
  obtain ⟨_, rfl⟩ := List.mem_replicate.1 hd
  omega
theorem val_zeros : ∀ n : Nat, val (List.replicate n 0) = 0
  | 0 => rfl
  | n + 1 => by rw [List.replicate_succ, val, val_zeros n]; rfl
theorem norm_lower {l : List Int} (h : Dig l) (hn : Norm l) (hne : l ≠ []) : 10000 ^ (l.length - 1) ≤ val l := by
  obtain ⟨m, d, rfl⟩ : ∃ m d, l = m ++ [d] := ⟨l.dropLast, l.getLast hne, (List.dropLast_concat_getLast hne).symm⟩
  have hd : d ≠ 0 := fun e => hn (by simp [e])
  have h1 := h d (by simp)
  have h2 := val_bound (l := m) (fun x hx => h x (by simp [hx]))
  rw [val_append, val, val, Int.mul_zero, Int.add_zero]
  simp only [List.length_append, List.length_singleton, Nat.add_sub_cancel]
  have hp := pow_pos' m.length
  generalize (10000 : Int) ^ m.length = p at *
  have : p * 1 ≤ p * d := Int.mul_le_mul_of_nonneg_left (by omega) (by omega)
  omega
theorem pow_le' {a b : Nat} (h : a ≤ b) : (10000 : Int) ^ a ≤ 10000 ^ b := by
  obtain ⟨c, rfl⟩ := Nat.exists_eq_add_of_le h
  rw [Int.pow_add]
  have h1 := pow_pos' a
  have h2 := pow_pos' c
  have := Int.mul_le_mul_of_nonneg_left (show (1 : Int) ≤ 10000 ^ c by omega) (show (0 : Int) ≤ 10000 ^ a by omega)
  omega
theorem longer_more {a b : List Int} (ha : Dig a) (hb : Dig b) (hn : Norm a) (h : b.length < a.length) : val b < val a := by
  have h1 := norm_lower ha hn (by intro e; rw [e] at h; simp at h)
  have h2 := (val_bound hb).2
  have h3 := pow_le' (show b.length ≤ a.length - 1 by omega)
  omega
theorem take_snoc {l : List Int} {i : Nat} (h : i < l.length) : l.take (i + 1) = l.take i ++ [l.getD i 0] := by
  rw [List.take_add_one, List.getElem?_eq_getElem h, List.getD_eq_getElem?_getD, List.getElem?_eq_getElem h]
  rfl
theorem val_take (l : List Int) (i : Nat) : val (l.take (i + 1)) = val (l.take i) + 10000 ^ i * l.getD i 0 := by
  by_cases h : i < l.length
  · rw [take_snoc h, val_append, val, val, List.length_take, Nat.min_eq_left (by omega)]
    simp
  · rw [List.take_of_length_le (by omega), List.take_of_length_le (by omega), List.getD_eq_getElem?_getD, List.getElem?_eq_none (by omega)]
    simp
theorem Dig_getD {l : List Int} (h : Dig l) (i : Nat) : 0 ≤ l.getD i 0 ∧ l.getD i 0 < 10000 := by
  by_cases hi : i < l.length
  · rw [List.getD_eq_getElem?_getD, List.getElem?_eq_getElem hi]
    exact h _ (List.getElem_mem hi)
  · rw [List.getD_eq_getElem?_getD, List.getElem?_eq_none (by omega)]
    simp
theorem val_drop (l : List Int) (i : Nat) (h : i < l.length) : val (l.drop i) = l.getD i 0 + 10000 * val (l.drop (i + 1)) := by
  rw [List.drop_eq_getElem_cons h, val, List.getD_eq_getElem?_getD, List.getElem?_eq_getElem h]
  rfl
theorem val_parts (l : List Int) (i : Nat) (h : i ≤ l.length) : val l = val (l.take i) + 10000 ^ i * val (l.drop i) := by
  have := val_append (l.take i) (l.drop i)
  rw [List.take_append_drop, List.length_take, Nat.min_eq_left h] at this
  exact this
/-- The digits of a number. -/
theorem longOf_l0 : ∀ (r m : Nat), m < 10000 ^ r → ∀ (x : Int) (mi : Bool) (out : List Int), (x = m ∨ x = -(m : Int)) → out.length + r ≤ 100 → m ≤ 9223372036854775808 →
    ∃ n ds, relstoreref_longOf.l0 n x mi out = some (mi, out ++ ds) ∧ Dig ds ∧ Norm ds ∧ val ds = m ∧ ds.length ≤ r
  | r, 0, _, x, mi, out, hx, _, _ => by
    have hx0 : x = 0 := by omega
    refine ⟨1, [], ?_, by simp [Dig], by simp [Norm], rfl, by simp⟩
    simp only [relstoreref_longOf.l0]
    rw [if_pos hx0, List.append_nil]
  | 0, m + 1, h, _, _, _, _, _, _ => by simp at h
  | r + 1, m + 1, h, x, mi, out, hx, hl, hm => by
    have hq : (m + 1) / 10000 < 10000 ^ r := by
      rw [Nat.pow_succ] at h
      exact Nat.div_lt_of_lt_mul (by rw [Nat.mul_comm]; exact h)
    have hx0 : ¬ x = 0 := by omega
    have hmod : x.tmod 10000 = (((m + 1) % 10000 : Nat) : Int) ∨ x.tmod 10000 = -(((m + 1) % 10000 : Nat) : Int) := by
      rcases hx with rfl | rfl
      · left; rw [Int.tmod_eq_emod_of_nonneg (by omega)]; omega
      · right; rw [Int.neg_tmod, Int.tmod_eq_emod_of_nonneg (by omega)]; omega
    have hdiv : x.tdiv 10000 = (((m + 1) / 10000 : Nat) : Int) ∨ x.tdiv 10000 = -(((m + 1) / 10000 : Nat) : Int) := by
      rcases hx with rfl | rfl
      · left; rw [Int.tdiv_eq_ediv_of_nonneg (by omega)]; omega
      · right; rw [Int.neg_tdiv, Int.tdiv_eq_ediv_of_nonneg (by omega)]; omega
    obtain ⟨n, ds, hn, hd, hN, hv, hlen⟩ := longOf_l0 r ((m + 1) / 10000) hq (x.tdiv 10000) mi (out ++ [(((m + 1) % 10000 : Nat) : Int)]) hdiv (by simp; omega) (by omega)
    have wd : wrap64 (x.tdiv 10000) = x.tdiv 10000 := w64' (by omega) (by omega)
    refine ⟨n + 1, (((m + 1) % 10000 : Nat) : Int) :: ds, ?_, ?_, ?_, ?_, by simp [hlen]⟩
    · simp only [relstoreref_longOf.l0]
      rw [if_neg hx0, wd]
      by_cases hs : x.tmod 10000 < 0
      · rw [if_pos hs, if_pos (by omega), w64' (by omega) (by omega)]
        have : -(x.tmod 10000) = (((m + 1) % 10000 : Nat) : Int) := by omega
        rw [this, hn]
        simp
      · rw [if_neg hs, if_pos (by omega)]
        have : x.tmod 10000 = (((m + 1) % 10000 : Nat) : Int) := by omega
        rw [this, hn]
        simp
    · intro d hd'
      rcases List.mem_cons.1 hd' with rfl | hd'
      · omega
      · exact hd d hd'
    · unfold Norm
      cases ds with
      | nil =>
        simp only [val] at hv
        simp only [List.getLast?_singleton]
        intro e
        have := Option.some.inj e
        omega
      | cons d ds =>
        rw [List.getLast?_cons_cons]
        exact hN
    · rw [val, hv]; omega
def sv (m : Bool) (l : List Int) : Int := if m = true then -(val l) else val l
theorem longOf_is (a : Int) (h0 : -9223372036854775808 ≤ a) (h1 : a ≤ 9223372036854775807) : ∃ ds, Ev (fun k => relstoreref_longOf.f k a) (decide (a < 0), ds) ∧ Dig ds ∧ Norm ds ∧ val ds = a.natAbs ∧ ds.length ≤ 5 := by
  obtain ⟨n, ds, hn, hd, hN, hv, hl⟩ := longOf_l0 5 a.natAbs (by have : (10000 : Nat) ^ 5 = 100000000000000000000 := by decide
                                                                 omega) a (decide (a < 0)) [] (by omega) (by simp) (by omega)
  exact ⟨ds, Ev.of (g := fun k => relstoreref_longOf.f k a) (fun k => relstoreref_longOf.mono a k) (k := n) (by show relstoreref_longOf.l0 n a (decide (a < 0)) [] = _; simpa using hn), hd, hN, hv, hl⟩
/-- Zeros at the end are cut. -/
theorem cut_l0 : ∀ (n : Nat) (l : List Int), l.length = n → n ≤ 1000000 → Dig l → ∃ k l', relstoreref_cut.l0 k l = some l' ∧ Dig l' ∧ Norm l' ∧ val l' = val l ∧ l'.length ≤ n
  | 0, l, hl, _, _ => by
    obtain rfl := List.eq_nil_of_length_eq_zero hl
    exact ⟨1, [], by simp [relstoreref_cut.l0], by simp [Dig], by simp [Norm], rfl, by simp⟩
  | n + 1, l, hl, hn, hd => by
    have hne : l ≠ [] := by intro e; rw [e] at hl; simp at hl
    obtain ⟨m, d, rfl⟩ : ∃ m d, l = m ++ [d] := ⟨l.dropLast, l.getLast hne, (List.dropLast_concat_getLast hne).symm⟩
    have hml : m.length = n := by simpa using hl
    have hw : wrap64 (((m ++ [d]).length : Int) - 1) = (m.length : Int) := by rw [w64' (by simp) (by simp; omega)]; simp
    have hr : rd (m ++ [d]) (m.length : Int) = d := by simp [rd]
    by_cases h0 : d = 0
    · obtain ⟨k, l', hk, h1, h2, h3, h4⟩ := cut_l0 n m hml (by omega) (fun x hx => hd x (by simp [hx]))
      refine ⟨k + 1, l', ?_, h1, h2, ?_, by omega⟩
      · simp only [relstoreref_cut.l0]
        rw [if_pos (by rw [hl]; omega), hw, if_pos (by omega), if_pos (by rw [hl]; omega), hr, if_pos h0, if_pos (by rw [hl]; omega)]
        simpa using hk
      · rw [h3, val_append, h0]; simp [val]
    · refine ⟨1, m ++ [d], ?_, hd, by simp [Norm, h0], rfl, by omega⟩
      simp only [relstoreref_cut.l0]
      rw [if_pos (by rw [hl]; omega), hw, if_pos (by omega), if_pos (by rw [hl]; omega), hr, if_neg h0]
theorem cut_is {l : List Int} (hd : Dig l) (hl : l.length ≤ 1000000) : ∃ l', Ev (fun k => relstoreref_cut.f k l) l' ∧ Dig l' ∧ Norm l' ∧ val l' = val l ∧ l'.length ≤ l.length := by
  obtain ⟨k, l', hk, h⟩ := cut_l0 l.length l rfl hl hd
  exact ⟨l', Ev.of (g := fun k => relstoreref_cut.f k l) (fun k => relstoreref_cut.mono l k) (k := k) hk, h⟩
theorem digit_is (l : List Int) (i : Nat) : relstoreref_digit.f l (i : Int) = some (l.getD i 0) := by
  unfold relstoreref_digit.f
  by_cases h : i < l.length
  · rw [if_pos (by omega), if_pos (by omega)]
    simp [rd]
  · rw [if_neg (by omega), List.getD_eq_getElem?_getD, List.getElem?_eq_none (by omega)]
    rfl
theorem pow_mul_pos {p c : Int} (hp : 0 < p) (hc : 1 ≤ c) : p ≤ p * c := by
  have := Int.mul_le_mul_of_nonneg_left hc (show 0 ≤ p by omega)
  omega
/-- The sum (or what is left) of two, digit by digit. -/
theorem joint_l0 {a b : List Int} {f : Int} (ha : Dig a) (hb : Dig b) (hf : f = -1 ∨ 0 ≤ f ∧ f ≤ 9999) (hla : a.length ≤ 100000) (hlb : b.length ≤ 100000) (h0 : 0 ≤ val a + f * val b) : ∀ (j i : Nat), i + j = max a.length b.length + 1 → ∀ (out : List Int) (c : Int), out.length = i → Dig out →
    (f = -1 → c = -1 ∨ c = 0) → (0 ≤ f → 0 ≤ c ∧ c ≤ 9999) → val out + 10000 ^ i * c = val (a.take i) + f * val (b.take i) →
    ∃ l, Ev (fun k => relstoreref_joint.l0 k a b f out c (i : Int)) l ∧ Dig l ∧ Norm l ∧ val l = val a + f * val b ∧ l.length ≤ max a.length b.length + 1 := by
  have hmx : mx (a.length : Int) (b.length : Int) = ((max a.length b.length : Nat) : Int) := by
    unfold mx
    split <;> omega
  intro j
  induction j with
  | zero =>
    intro i hi out c ho hd hc1 hc2 hv
    rw [List.take_of_length_le (by omega), List.take_of_length_le (by omega)] at hv
    have hb1 := val_bound hd
    have hva := val_bound ha
    have hvb := val_bound hb
    have hT : val a + f * val b < 10000 ^ i := by
      have e : i = max a.length b.length + 1 := by omega
      rw [e, Int.pow_succ]
      have p1 := pow_le' (show a.length ≤ max a.length b.length by omega)
      have p2 := pow_le' (show b.length ≤ max a.length b.length by omega)
      generalize (10000 : Int) ^ (max a.length b.length) = P at *
      rcases hf with rfl | ⟨f0, f1⟩
      · omega
      · have := Int.mul_le_mul_of_nonneg_right f1 hvb.1
        omega
    have hP := pow_pos' i
    rw [ho] at hb1
    have hc0 : c = 0 := by
      rcases Int.lt_trichotomy c 0 with h | h | h
      · have := pow_mul_pos hP (show 1 ≤ -c by omega)
        rw [Int.mul_neg] at this
        omega
      · exact h
      · have := pow_mul_pos hP (show 1 ≤ c by omega)
        omega
    rw [hc0, Int.mul_zero, Int.add_zero] at hv
    obtain ⟨l', he, h1, h2, h3, h4⟩ := cut_is hd (by omega)
    refine ⟨l', ?_, h1, h2, by rw [h3, hv], by omega⟩
    refine Ev.step (f := fun k => (relstoreref_cut.f k out).bind fun t => some t) (fun k => ?_) (Ev.bind he (Ev.now l'))
    simp only [relstoreref_joint.l0]
    rw [hmx, if_neg (by omega)]
  | succ j ih =>
    intro i hi out c ho hd hc1 hc2 hv
    have da := Dig_getD ha i
    have db := Dig_getD hb i
    obtain ⟨A, hA⟩ : ∃ A, a.getD i 0 = A := ⟨_, rfl⟩
    obtain ⟨B, hB⟩ : ∃ B, b.getD i 0 = B := ⟨_, rfl⟩
    rw [hA] at da
    rw [hB] at db
    have hfB : -9999 ≤ f * B ∧ f * B ≤ 99980001 ∧ (0 ≤ f → 0 ≤ f * B) := by
      rcases hf with rfl | ⟨f0, f1⟩
      · omega
      · have h1 := Int.mul_le_mul_of_nonneg_right f1 db.1
        have h2 := Int.mul_nonneg f0 db.1
        omega
    have hcr : -1 ≤ c ∧ c ≤ 9999 := by
      rcases hf with h | h
      · have := hc1 h; omega
      · have := hc2 h.1; omega
    obtain ⟨n, hn⟩ : ∃ n : Int, A + f * B + c = n := ⟨_, rfl⟩
    have hfneg : f = -1 → n ≤ 9999 := by
      intro h
      have := hc1 h
      subst h
      omega
    have hfpos : 0 ≤ f → 0 ≤ n := by
      intro h
      have := hc2 h
      have := hfB.2.2 h
      omega
    have hw : wrap64 (wrap64 (A + wrap64 (f * B)) + c) = n := by
      rw [w64' (i := f * B) (by omega) (by omega), w64' (i := A + f * B) (by omega) (by omega), hn, w64' (by omega) (by omega)]
    have hstep : ∀ (out' : List Int) (c' : Int), out' = out ++ [n % 10000] → c' = n / 10000 →
        ∃ l, Ev (fun k => relstoreref_joint.l0 k a b f out' c' ((i : Int) + 1)) l ∧ Dig l ∧ Norm l ∧ val l = val a + f * val b ∧ l.length ≤ max a.length b.length + 1 := by
      rintro out' c' rfl rfl
      have := ih (i + 1) (by omega) (out ++ [n % 10000]) (n / 10000) (by simp [ho]) (Dig_append hd (by intro d hd'; simp at hd'; omega)) (fun h => by have := hfneg h; omega) (fun h => by have := hfpos h; omega) (by
        rw [val_append, val_take, val_take, hA, hB, ho, Int.pow_succ, val, val]
        have e1 : f * (val (b.take i) + 10000 ^ i * B) = f * val (b.take i) + 10000 ^ i * (f * B) := by
          rw [Int.mul_add, Int.mul_left_comm]
        rw [e1]
        have e2 : 10000 ^ i * A + 10000 ^ i * (f * B) + 10000 ^ i * c = 10000 ^ i * n := by rw [← Int.mul_add, ← Int.mul_add, hn]
        have e3 : 10000 ^ i * (n % 10000) + 10000 ^ i * 10000 * (n / 10000) = 10000 ^ i * n := by
          rw [Int.mul_assoc, ← Int.mul_add, Int.emod_add_mul_ediv]
        simp only [Int.mul_zero, Int.add_zero]
        omega)
      simpa using this
    have hi1 : wrap64 ((i : Int) + 1) = (i : Int) + 1 := w64 (by omega) (by omega)
    have hlim : out.length < 17592186044416 := lim_ok (lim_le ho hi hla hlb)
    by_cases hneg : n < 0
    · obtain ⟨l, hl, hrest⟩ := hstep (out ++ [(n + 10000) % 10000]) (-1) (by simp) (by omega)
      refine ⟨l, ?_, hrest⟩
      refine Ev.step (f := fun k => relstoreref_joint.l1 k a b f out 0 (i : Int) n) (fun k => ?_) ?_
      · simp only [relstoreref_joint.l0]
        rw [hmx, if_pos (by omega), digit_is, digit_is, hA, hB]
        simp only [Option.bind_some]
        rw [hw]
      refine Ev.step (f := fun k => relstoreref_joint.l1 k a b f out (-1) (i : Int) (n + 10000)) (fun k => ?_) ?_
      · simp only [relstoreref_joint.l1]
        rw [if_pos hneg, w64' (i := n + 10000) (by omega) (by omega), show wrap64 (0 - 1) = -1 by unfold wrap64; decide]
      refine Ev.step (f := fun k => relstoreref_joint.l0 k a b f (out ++ [(n + 10000) % 10000]) (-1) ((i : Int) + 1)) (fun k => ?_) hl
      simp only [relstoreref_joint.l1]
      rw [if_neg (by omega), if_pos hlim, Int.tmod_eq_emod_of_nonneg (by omega), Int.tdiv_eq_ediv_of_nonneg (by omega), hi1, w64' (i := (n + 10000) / 10000) (by omega) (by omega)]
      have : (n + 10000) / 10000 = 0 := by omega
      rw [this, show wrap64 (-1 + 0) = -1 by unfold wrap64; decide]
    · obtain ⟨l, hl, hrest⟩ := hstep (out ++ [n % 10000]) (n / 10000) rfl rfl
      refine ⟨l, ?_, hrest⟩
      refine Ev.step (f := fun k => relstoreref_joint.l1 k a b f out 0 (i : Int) n) (fun k => ?_) ?_
      · simp only [relstoreref_joint.l0]
        rw [hmx, if_pos (by omega), digit_is, digit_is, hA, hB]
        simp only [Option.bind_some]
        rw [hw]
      refine Ev.step (f := fun k => relstoreref_joint.l0 k a b f (out ++ [n % 10000]) (n / 10000) ((i : Int) + 1)) (fun k => ?_) hl
      simp only [relstoreref_joint.l1]
      rw [if_neg hneg, if_pos hlim, Int.tmod_eq_emod_of_nonneg (by omega), Int.tdiv_eq_ediv_of_nonneg (by omega), hi1, w64' (i := n / 10000) (by omega) (by omega), Int.zero_add, w64' (by omega) (by omega)]
theorem joint_is {a b : List Int} {f : Int} (ha : Dig a) (hb : Dig b) (hf : f = -1 ∨ 0 ≤ f ∧ f ≤ 9999) (hla : a.length ≤ 100000) (hlb : b.length ≤ 100000) (h0 : 0 ≤ val a + f * val b) :
    ∃ l, Ev (fun k => relstoreref_joint.f k a b f) l ∧ Dig l ∧ Norm l ∧ val l = val a + f * val b ∧ l.length ≤ max a.length b.length + 1 :=
  joint_l0 ha hb hf hla hlb h0 (max a.length b.length + 1) 0 (by omega) [] 0 rfl (by simp [Dig]) (fun _ => .inr rfl) (fun _ => by omega) (by simp [val])
theorem take_all_eq {l : List Int} {n : Nat} (h : l.length ≤ n) : l.take n = l := List.take_of_length_le h
theorem above_l0 {a b : List Int} (ha : Dig a) (hb : Dig b) (hl : a.length = b.length) (hla : a.length ≤ 100000) : ∀ (j : Nat), j ≤ a.length → ∃ n, relstoreref_above.l0 n a b ((j : Int) - 1) = some (decide (val (a.take j) > val (b.take j)))
  | 0, _ => ⟨1, by
      simp only [relstoreref_above.l0]
      rw [if_neg (by omega)]
      simp [val]⟩
  | j + 1, h => by
    have e0 : (((j + 1 : Nat) : Int) - 1) = (j : Int) := by omega
    have ra : rd a (j : Int) = a.getD j 0 := by simp [rd]
    have rb : rd b (j : Int) = b.getD j 0 := by simp [rd]
    have da := Dig_getD ha j
    have db := Dig_getD hb j
    have va := val_bound (Dig_take ha j)
    have vb := val_bound (Dig_take hb j)
    have la : (a.take j).length = j := by rw [List.length_take]; omega
    have lb : (b.take j).length = j := by rw [List.length_take]; omega
    rw [la] at va
    rw [lb] at vb
    rw [e0, val_take, val_take]
    obtain ⟨A, hA⟩ : ∃ A, a.getD j 0 = A := ⟨_, rfl⟩
    obtain ⟨B, hB⟩ : ∃ B, b.getD j 0 = B := ⟨_, rfl⟩
    rw [hA] at ra da ⊢
    rw [hB] at rb db ⊢
    by_cases he : A = B
    · obtain ⟨n, hn⟩ := above_l0 ha hb hl hla j (by omega)
      refine ⟨n + 1, ?_⟩
      simp only [relstoreref_above.l0]
      rw [if_pos (by omega), if_pos (by omega), if_pos (by omega), if_pos (by omega), ra, rb, if_pos he, w64' (by omega) (by omega), hn, he]
      congr 1
      exact decide_eq_decide.2 ⟨fun h => by omega, fun h => by omega⟩
    · refine ⟨1, ?_⟩
      simp only [relstoreref_above.l0]
      rw [if_pos (by omega), if_pos (by omega), if_pos (by omega), if_pos (by omega), ra, rb, if_neg he]
      congr 1
      have hp := pow_pos' j
      generalize (10000 : Int) ^ j = p at *
      refine decide_eq_decide.2 ⟨fun h => ?_, fun h => ?_⟩
      · have := Int.mul_le_mul_of_nonneg_left (show B + 1 ≤ A by omega) (show 0 ≤ p by omega)
        rw [Int.mul_add] at this
        omega
      · rcases Int.lt_or_gt_of_ne he with h1 | h1
        · have := Int.mul_le_mul_of_nonneg_left (show A + 1 ≤ B by omega) (show 0 ≤ p by omega)
          rw [Int.mul_add] at this
          omega
        · omega
theorem above_is {a b : List Int} (ha : Dig a) (hb : Dig b) (na : Norm a) (nb : Norm b) (hla : a.length ≤ 100000) : Ev (fun k => relstoreref_above.f k a b) (decide (val a > val b)) := by
  by_cases hl : a.length = b.length
  · obtain ⟨n, hn⟩ := above_l0 ha hb hl hla a.length (Nat.le_refl _)
    refine Ev.of (g := fun k => relstoreref_above.f k a b) (fun k => relstoreref_above.mono a b k) (k := n) ?_
    unfold relstoreref_above.f
    rw [if_pos (by omega), w64' (by omega) (by omega), hn, take_all_eq (Nat.le_refl _), take_all_eq (by omega)]
  · have : ∀ k, relstoreref_above.f k a b = some (decide (val a > val b)) := by
      intro k
      unfold relstoreref_above.f
      rw [if_neg (by omega)]
      congr 1
      rcases Nat.lt_or_gt_of_ne hl with h | h
      · have := longer_more hb ha nb h
        exact decide_eq_decide.2 ⟨fun h => by omega, fun h => by omega⟩
      · have := longer_more ha hb na h
        exact decide_eq_decide.2 ⟨fun h => by omega, fun h => by omega⟩
    exact ⟨0, fun k _ => this k⟩
/-- A number as it is kept: its digits, no zeros at the end. -/
structure Long (m : Bool) (l : List Int) (n : Int) (b : Nat) : Prop where
  dig : Dig l
  norm : Norm l
  is : sv m l = n
  len : l.length ≤ b
theorem longOf_long (a : Int) (h0 : -9223372036854775808 ≤ a) (h1 : a ≤ 9223372036854775807) : ∃ ds, Ev (fun k => relstoreref_longOf.f k a) (decide (a < 0), ds) ∧ Long (decide (a < 0)) ds a 5 := by
  obtain ⟨ds, he, hd, hN, hv, hl⟩ := longOf_is a h0 h1
  refine ⟨ds, he, hd, hN, ?_, hl⟩
  unfold sv
  by_cases h : a < 0 <;> simp [h, hv] <;> omega
theorem plus_is {ma mb : Bool} {la lb : List Int} {x y : Int} (ha : Long ma la x 5) (hb : Long mb lb y 5) : ∃ m l, Ev (fun k => relstoreref_long_plus.f k ma la mb lb) (m, l) ∧ Long m l (x + y) 6 := by
  have va := val_bound ha.dig
  have vb := val_bound hb.dig
  have la5 := ha.len
  have lb5 := hb.len
  have sx := ha.is
  have sy := hb.is
  unfold sv at sx sy
  by_cases hm : ma = mb
  · subst hm
    obtain ⟨l, he, h1, h2, h3, h4⟩ := joint_is (f := 1) ha.dig hb.dig (.inr (by omega)) (by omega) (by omega) (by omega)
    refine ⟨ma, l, ?_, h1, h2, ?_, by omega⟩
    · exact Ev.ite_true (by simp) (Ev.bind he (Ev.now (ma, l)))
    · unfold sv
      cases ma <;> simp at sx sy ⊢ <;> omega
  · have hne : ¬ ((ma == mb) = true) := by simpa using hm
    have habove := above_is hb.dig ha.dig hb.norm ha.norm (by omega)
    by_cases hgt : val lb > val la
    · rw [decide_eq_true hgt] at habove
      obtain ⟨l, he, h1, h2, h3, h4⟩ := joint_is (f := -1) hb.dig ha.dig (.inl rfl) (by omega) (by omega) (by omega)
      refine ⟨mb, l, ?_, h1, h2, ?_, by omega⟩
      · exact Ev.ite_false hne (Ev.bind habove (Ev.ite_true rfl (Ev.bind he (Ev.now (mb, l)))))
      · unfold sv
        cases ma <;> cases mb <;> simp at sx sy hm ⊢ <;> omega
    · rw [decide_eq_false hgt] at habove
      obtain ⟨l, he, h1, h2, h3, h4⟩ := joint_is (f := -1) ha.dig hb.dig (.inl rfl) (by omega) (by omega) (by omega)
      refine ⟨ma, l, ?_, h1, h2, ?_, by omega⟩
      · exact Ev.ite_false hne (Ev.bind habove (Ev.ite_false (by decide) (Ev.bind he (Ev.now (ma, l)))))
      · unfold sv
        cases ma <;> cases mb <;> simp at sx sy hm ⊢ <;> omega
theorem times_l0 {x y : List Int} (ma m0 : Bool) (hx : Dig x) (hy : Dig y) (hlx : x.length ≤ 5) (hly : y.length ≤ 5) : ∀ (j i : Nat), i + j = y.length → ∀ (out : List Int), Dig out → Norm out → val out = val x * val (y.take i) → out.length ≤ 5 + 2 * i →
    ∃ l, Ev (fun k => relstoreref_long_times.l0 k y (y.length : Int) (i : Int) ma x m0 out) (m0, l) ∧ Dig l ∧ Norm l ∧ val l = val x * val y ∧ l.length ≤ 15
  | 0, i, hi, out, hd, hn, hv, hl => by
    refine ⟨out, ?_, hd, hn, by rw [hv, take_all_eq (by omega)], by omega⟩
    refine Ev.step (f := fun _ => some (m0, out)) (fun k => ?_) (Ev.now _)
    simp only [relstoreref_long_times.l0]
    rw [if_neg (by omega)]
  | j + 1, i, hi, out, hd, hn, hv, hl => by
    have dy := Dig_getD hy i
    have ry : rd y (i : Int) = y.getD i 0 := by simp [rd]
    obtain ⟨B, hB⟩ : ∃ B, y.getD i 0 = B := ⟨_, rfl⟩
    rw [hB] at ry dy
    have hz : Dig (List.replicate i 0 ++ x) := Dig_append (Dig_zeros i) hx
    have hzv : val (List.replicate i 0 ++ x) = 10000 ^ i * val x := by rw [val_append, val_zeros, List.length_replicate]; omega
    have hzl : (List.replicate i (0 : Int) ++ x).length = i + x.length := by simp
    have vx := val_bound hx
    have vo := val_bound hd
    have hp := pow_pos' i
    have hpos : 0 ≤ B * val (List.replicate i 0 ++ x) := Int.mul_nonneg dy.1 (val_bound hz).1
    obtain ⟨l, he, h1, h2, h3, h4⟩ := joint_is (f := B) hd hz (.inr (by omega)) (by omega) (by omega) (by omega)
    obtain ⟨l', he', h1', h2', h3', h4'⟩ := times_l0 ma m0 hx hy hlx hly j (i + 1) (by omega) l h1 h2 (by
      rw [h3, hv, hzv, val_take, hB, Int.mul_add, Int.mul_left_comm B, Int.mul_left_comm (val x), Int.mul_comm B]) (by omega)
    refine ⟨l', ?_, h1', h2', h3', h4'⟩
    refine Ev.step (f := fun k => (relstoreref_joint.f k out (List.replicate i 0 ++ x) B).bind fun t196 => (relstoreref_long_times.l0 k y (y.length : Int) ((i + 1 : Nat) : Int) ma x m0 t196)) (fun k => ?_) (Ev.bind he he')
    simp only [relstoreref_long_times.l0]
    rw [if_pos (by omega), if_pos (by omega), if_pos (by omega), if_pos (by omega)]
    simp only [Option.bind_some, Int.toNat_natCast]
    rw [if_pos (by simp; omega), ry, w64 (by omega) (by omega)]
    rfl
theorem times_is {ma mb : Bool} {la lb : List Int} {x y : Int} (ha : Long ma la x 5) (hb : Long mb lb y 5) : ∃ m l, Ev (fun k => relstoreref_long_times.f k ma la mb lb) (m, l) ∧ Long m l (x * y) 15 := by
  obtain ⟨l, he, h1, h2, h3, h4⟩ := times_l0 ma (ma != mb) ha.dig hb.dig ha.len hb.len lb.length 0 (by omega) [] (by simp [Dig]) (by simp [Norm]) (by simp [val]) (by simp)
  refine ⟨ma != mb, l, he, h1, h2, ?_, h4⟩
  have sx := ha.is
  have sy := hb.is
  unfold sv at sx sy ⊢
  rw [h3, ← sx, ← sy]
  cases ma <;> cases mb <;> simp [Int.neg_mul, Int.mul_neg]
theorem small_l0 (m : Bool) {l : List Int} (hd : Dig l) (hl : l.length ≤ 100) (hv : val l ≤ 9223372036854775808) : ∀ (j : Nat), j ≤ l.length → ∃ n, relstoreref_long_small.l0 n (-(val (l.drop j))) ((j : Int) - 1) m l = some (if m = true then (-(val l), true) else (wrap64 (val l), true))
  | 0, _ => ⟨1, by
      simp only [relstoreref_long_small.l0]
      rw [if_neg (by omega)]
      cases m <;> simp⟩
  | j + 1, h => by
    obtain ⟨n, hn⟩ := small_l0 m hd hl hv j (by omega)
    refine ⟨n + 1, ?_⟩
    have e0 : (((j + 1 : Nat) : Int) - 1) = (j : Int) := by omega
    have rl : rd l (j : Int) = l.getD j 0 := by simp [rd]
    have hdr := val_drop l j (by omega)
    have h1 := val_bound (Dig_drop hd j)
    have h2 := val_bound (Dig_drop hd (j + 1))
    have h3 := Dig_getD hd j
    have h4 := val_parts l j (by omega)
    have h5 := val_bound (Dig_take hd j)
    have hp := pow_pos' j
    have h6 : val (l.drop j) ≤ 10000 ^ j * val (l.drop j) := by
      have := Int.mul_le_mul_of_nonneg_right (show (1 : Int) ≤ 10000 ^ j by omega) h1.1
      omega
    have h7 : val (l.drop j) ≤ 9223372036854775808 := by omega
    simp only [relstoreref_long_small.l0]
    rw [e0, if_pos (by omega), if_pos (by omega), if_pos (by omega), rl, w64' (i := 10000 * -(val (l.drop (j + 1)))) (by omega) (by omega), w64' (by omega) (by omega), w64' (by omega) (by omega)]
    have : 10000 * -(val (l.drop (j + 1))) - l.getD j 0 = -(val (l.drop j)) := by omega
    rw [this]
    exact hn
def inR (n : Int) : Prop := -9223372036854775808 ≤ n ∧ n ≤ 9223372036854775807
instance (n : Int) : Decidable (inR n) := by unfold inR; infer_instance
theorem small_is {m : Bool} {l : List Int} {n : Int} (h : Long m l n 15) : Ev (fun k => relstoreref_long_small.f k m l) (if inR n then (n, true) else (0, false)) := by
  obtain ⟨E, he, hE⟩ := longOf_long (-9223372036854775808) (by decide) (by decide)
  have vE : val E = 9223372036854775808 := by
    have := hE.is
    unfold sv at this
    rw [if_pos (by decide)] at this
    omega
  have vl := val_bound h.dig
  have hl := h.len
  have hn := h.is
  unfold sv at hn
  have a1 := above_is h.dig hE.dig h.norm hE.norm (by omega)
  have a2 := above_is hE.dig h.dig hE.norm h.norm (by have := hE.len; omega)
  rw [vE] at a1 a2
  unfold relstoreref_long_small.f
  refine Ev.bind he (Ev.bind a1 ?_)
  have out : Ev (fun k => relstoreref_long_small.j0 k true m l) (0, false) := Ev.step (f := fun _ => some (0, false)) (fun k => rfl) (Ev.now _)
  have fine : val l ≤ 9223372036854775808 → Ev (fun k => relstoreref_long_small.j0 k false m l) (if m = true then (-(val l), true) else (wrap64 (val l), true)) := by
    intro hle
    obtain ⟨k, hk⟩ := small_l0 m h.dig (by omega) hle l.length (Nat.le_refl _)
    refine Ev.of (g := fun k => relstoreref_long_small.j0 k false m l) (fun k => relstoreref_long_small.mono_l k |>.1 _ _ _) (k := k + 1) ?_
    simp only [relstoreref_long_small.j0]
    rw [if_neg (by decide), w64' (by omega) (by omega)]
    rw [List.drop_length] at hk
    exact hk
  by_cases hgt : val l > 9223372036854775808
  · rw [decide_eq_true hgt]
    have hno : ¬ inR n := by unfold inR; cases m <;> simp at hn <;> omega
    rw [if_neg hno]
    exact Ev.ite_true rfl out
  · rw [decide_eq_false hgt]
    refine Ev.ite_false (by decide) ?_
    cases m with
    | true =>
      have hin : inR n := by unfold inR; simp at hn; omega
      rw [if_pos hin]
      refine Ev.ite_true rfl ?_
      have := fine (by omega)
      simp at this hn
      rw [hn] at this
      exact this
    | false =>
      simp at hn
      refine Ev.ite_false (by decide) (Ev.bind a2 ?_)
      by_cases hlt : (9223372036854775808 : Int) > val l
      · rw [decide_eq_true hlt]
        have hin : inR n := by unfold inR; omega
        rw [if_pos hin]
        have := fine (by omega)
        simp at this
        rw [w64' (by omega) (by omega), hn] at this
        exact this
      · rw [decide_eq_false hlt]
        have hno : ¬ inR n := by unfold inR; omega
        rw [if_neg hno]
        exact out
def none3 : Int × Int × ByteArray := (0, 0, ⟨#[]⟩)
def num3 (n : Int) : Int × Int × ByteArray := (2, n, ⟨#[]⟩)
theorem value_is {m : Bool} {l : List Int} {n : Int} (h : Long m l n 15) : Ev (fun k => relstoreref_long_value.f k m l) (if inR n then num3 n else none3) := by
  unfold relstoreref_long_value.f
  refine Ev.bind (small_is h) ?_
  by_cases hin : inR n
  · rw [if_pos hin, if_pos hin]
    exact Ev.ite_true rfl (Ev.const rfl)
  · rw [if_neg hin, if_neg hin]
    exact Ev.ite_false (by decide) (Ev.const rfl)
/-- What is reckoned with two numbers; nothing where it is no number of 64 bits. -/
def reckO (op a b : Int) : Int × Int × ByteArray :=
  if op = 5 then (if inR (a + b) then num3 (a + b) else none3) else if op = 6 then (if inR (a - b) then num3 (a - b) else none3) else if op = 7 then (if inR (a * b) then num3 (a * b) else none3)
  else if op = 8 ∨ op = 9 then (if b = 0 ∨ a = -9223372036854775808 ∧ b = -1 then none3 else if op = 9 then num3 (a.tmod b) else num3 (a.tdiv b)) else none3
theorem j3_is (k : Nat) (n : Int) (b : Bool) : value_Reckon.j3 (k + 1) n b = some (if b = true then num3 n else none3) := by
  cases b <;> rfl
theorem sum_ok (a b : Int) (ha : inR a) (hb : inR b) : value_sum.f a b = some (wrap64 (a + b), decide (inR (a + b))) ∧ (inR (a + b) → wrap64 (a + b) = a + b) := by
  unfold inR at ha hb
  refine ⟨?_, fun h => w64' h.1 h.2⟩
  unfold value_sum.f
  congr 2
  by_cases h : inR (a + b)
  · rw [decide_eq_true h, w64' h.1 h.2]
    by_cases hp : b > 0
    · rw [decide_eq_true (show a + b > a by omega), decide_eq_true hp]; rfl
    · rw [decide_eq_false (show ¬ a + b > a by omega), decide_eq_false hp]; rfl
  · rw [decide_eq_false h]
    unfold inR at h
    by_cases hp : b > 0
    · rw [decide_eq_false (show ¬ wrap64 (a + b) > a by unfold wrap64; omega), decide_eq_true hp]; rfl
    · rw [decide_eq_true (show wrap64 (a + b) > a by unfold wrap64; omega), decide_eq_false hp]; rfl
theorem sub_ok (a b : Int) (ha : inR a) (hb : inR b) : (decide (wrap64 (a - b) < a) == decide (b > 0)) = decide (inR (a - b)) := by
  unfold inR at ha hb
  by_cases h : inR (a - b)
  · rw [decide_eq_true h, w64' h.1 h.2]
    by_cases hp : b > 0
    · rw [decide_eq_true (show a - b < a by omega), decide_eq_true hp]; rfl
    · rw [decide_eq_false (show ¬ a - b < a by omega), decide_eq_false hp]; rfl
  · rw [decide_eq_false h]
    unfold inR at h
    by_cases hp : b > 0
    · rw [decide_eq_false (show ¬ wrap64 (a - b) < a by unfold wrap64; omega), decide_eq_true hp]; rfl
    · rw [decide_eq_true (show wrap64 (a - b) < a by unfold wrap64; omega), decide_eq_false hp]; rfl
theorem product_is (a b : Int) (ha : inR a) (hb : inR b) : value_product.f a b = some (if inR (a * b) then (a * b, true) else (0, false)) := by
  unfold inR at ha hb
  unfold value_product.f
  rw [if_pos ⟨ha.1, by omega, hb.1, by omega⟩]
  congr 1
  by_cases h : inR (a * b)
  · rw [if_pos h, if_pos ⟨h.1, by have := h.2; omega⟩]
  · rw [if_neg h, if_neg (fun k => h ⟨k.1, by omega⟩)]
theorem tdiv_range (a b : Int) (ha : inR a) (hb0 : b ≠ 0) (hb : ¬ (a = -9223372036854775808 ∧ b = -1)) : inR (a.tdiv b) := by
  unfold inR at *
  have h1 : (a.tdiv b).natAbs ≤ a.natAbs := Int.natAbs_tdiv_le_natAbs a b
  by_cases h : a = -9223372036854775808
  · have hb1 : b ≠ -1 := fun e => hb ⟨h, e⟩
    by_cases h2 : a.tdiv b = 9223372036854775808
    · exfalso
      have := Int.mul_tdiv_add_tmod a b
      subst h
      have hm : ((-9223372036854775808 : Int).tmod b).natAbs < b.natAbs := by rw [Int.natAbs_tmod]; exact Nat.mod_lt _ (by omega)
      rw [h2] at this
      omega
    · omega
  · omega
theorem divided_is (op a b : Int) (ha : inR a) : Ev (fun k => relstoreref_divided.f k op a b) (if b = 0 ∨ a = -9223372036854775808 ∧ b = -1 then none3 else if op = 9 then num3 (a.tmod b) else num3 (a.tdiv b)) := by
  refine ⟨1, fun k hk => ?_⟩
  obtain ⟨k, rfl⟩ : ∃ m, k = m + 1 := ⟨k - 1, by omega⟩
  simp only [relstoreref_divided.f]
  have bad : relstoreref_divided.j0 (k + 1) op a b true = some none3 := rfl
  have good : b ≠ 0 → ¬ (a = -9223372036854775808 ∧ b = -1) → relstoreref_divided.j0 (k + 1) op a b false = some (if op = 9 then num3 (a.tmod b) else num3 (a.tdiv b)) := by
    intro h0 h1
    simp only [relstoreref_divided.j0]
    rw [if_neg (by decide), if_neg h0, if_neg h0]
    have := tdiv_range a b ha h0 h1
    by_cases h9 : op = 9
    · rw [if_pos h9, if_pos h9]; rfl
    · rw [if_neg h9, if_neg h9, w64' this.1 this.2]; rfl
  by_cases h0 : b = 0
  · rw [if_pos h0, if_pos (.inl h0), bad]
  · rw [if_neg h0]
    by_cases hm : a = -9223372036854775808
    · rw [if_pos hm]
      by_cases h1 : b = -1
      · rw [if_pos (.inr ⟨hm, h1⟩)]
        have : (b == -1) = true := beq_iff_eq.2 h1
        rw [this, bad]
      · have hn : ¬ (b = 0 ∨ a = -9223372036854775808 ∧ b = -1) := fun k => k.elim h0 (fun k => h1 k.2)
        rw [if_neg hn]
        have : (b == -1) = false := beq_eq_false_iff_ne.2 h1
        rw [this]
        exact good h0 (fun k => h1 k.2)
    · have hn : ¬ (b = 0 ∨ a = -9223372036854775808 ∧ b = -1) := fun k => k.elim h0 (fun k => hm k.1)
      rw [if_neg hm, if_neg hn]
      exact good h0 (fun k => hm k.1)
theorem divide_step (op a b : Int) (k1 k2 : Int) (s t : ByteArray) (ha : inR a) (x : Bool) (hx : x = decide (op = 8 ∨ op = 9)) : Ev (fun k => value_Reckon.j1 k op 0 x k1 a s k2 b t) (if op = 8 ∨ op = 9 then (if b = 0 ∨ a = -9223372036854775808 ∧ b = -1 then none3 else if op = 9 then num3 (a.tmod b) else num3 (a.tdiv b)) else none3) := by
  subst hx
  refine ⟨3, fun k hk => ?_⟩
  obtain ⟨k, rfl⟩ : ∃ m, k = m + 3 := ⟨k - 3, by omega⟩
  rw [show k + 3 = k + 2 + 1 from rfl]
  simp only [value_Reckon.j1]
  have j2 : ∀ c, value_Reckon.j2 (k + 2) op 0 c k1 a s k2 b t = if c = true then (if b = 0 then none else if op = 9 then some (num3 (a.tmod b)) else some (num3 (wrap64 (a.tdiv b)))) else some none3 := by
    intro c
    rw [show k + 2 = k + 1 + 1 from rfl]
    simp only [value_Reckon.j2, j3_is]
    cases c <;> simp
  by_cases ho : op = 8 ∨ op = 9
  · rw [decide_eq_true ho, if_pos rfl, if_pos ho]
    by_cases h0 : b = 0
    · rw [if_pos h0, if_pos (.inl h0), j2]
      rfl
    · rw [if_neg h0]
      have fine : ¬ (a = -9223372036854775808 ∧ b = -1) → (if b = 0 then none else if op = 9 then some (num3 (a.tmod b)) else some (num3 (wrap64 (a.tdiv b)))) = some (if op = 9 then num3 (a.tmod b) else num3 (a.tdiv b)) := by
        intro h1
        have := tdiv_range a b ha h0 h1
        rw [if_neg h0, w64' this.1 this.2]
        by_cases h9 : op = 9
        · rw [if_pos h9, if_pos h9]
        · rw [if_neg h9, if_neg h9]
      by_cases h1 : b = -1
      · rw [if_pos h1, j2]
        by_cases hm : a = -9223372036854775808
        · have : (a == -9223372036854775808) = true := beq_iff_eq.2 hm
          rw [this, if_pos (Or.inr ⟨hm, h1⟩)]
          rfl
        · have hn : ¬ (b = 0 ∨ a = -9223372036854775808 ∧ b = -1) := fun k => k.elim h0 (fun k => hm k.1)
          have : (a == -9223372036854775808) = false := beq_eq_false_iff_ne.2 hm
          rw [if_neg hn, this, if_pos (by decide)]
          exact fine (fun k => hm k.1)
      · have hn : ¬ (b = 0 ∨ a = -9223372036854775808 ∧ b = -1) := fun k => k.elim h0 (fun k => h1 k.2)
        rw [if_neg h1, j2, if_neg hn, if_pos (by decide)]
        exact fine (fun k => h1 k.2)
  · rw [decide_eq_false ho, if_neg (by decide), if_neg ho, j3_is]
    rfl
theorem Reckon_j0 (op k1 a : Int) (s : ByteArray) (k2 b : Int) (t : ByteArray) (ha : inR a) (hb : inR b) : Ev (fun k => value_Reckon.j0 k op false k1 a s k2 b t) (reckO op a b) := by
  have j3 : ∀ n c, Ev (fun k => value_Reckon.j3 k n c) (if c = true then num3 n else none3) := fun n c => ⟨1, fun k hk => by
    obtain ⟨k, rfl⟩ : ∃ m, k = m + 1 := ⟨k - 1, by omega⟩
    exact j3_is k n c⟩
  refine Ev.step (f := fun k => (if op = 5 then ((value_sum.f a b).bind fun bt115 => (value_Reckon.j3 k bt115.1 bt115.2)) else (if op = 6 then (value_Reckon.j3 k (wrap64 (a - b)) ((decide ((wrap64 (a - b)) < a)) == (decide (b > 0)))) else (if op = 7 then ((value_product.f a b).bind fun bt117 => (value_Reckon.j3 k bt117.1 bt117.2)) else (if op = 8 then (value_Reckon.j1 k op 0 (op == 8) k1 a s k2 b t) else (value_Reckon.j1 k op 0 (op == 9) k1 a s k2 b t)))))) (fun k => rfl) ?_
  unfold reckO
  by_cases h5 : op = 5
  · rw [if_pos h5]
    refine Ev.ite_true h5 (Ev.some_bind (sum_ok a b ha hb).1 ?_)
    have := j3 (wrap64 (a + b)) (decide (inR (a + b)))
    by_cases h : inR (a + b)
    · rw [if_pos h]
      rw [if_pos (decide_eq_true h), (sum_ok a b ha hb).2 h] at this
      rw [decide_eq_true h] at this ⊢
      rw [(sum_ok a b ha hb).2 h]
      exact this
    · rw [if_neg h]
      rw [if_neg (by simp [h])] at this
      exact this
  · refine Ev.ite_false h5 ?_
    rw [if_neg h5]
    by_cases h6 : op = 6
    · rw [if_pos h6]
      refine Ev.ite_true h6 ?_
      rw [sub_ok a b ha hb]
      have := j3 (wrap64 (a - b)) (decide (inR (a - b)))
      by_cases h : inR (a - b)
      · rw [if_pos h]
        rw [if_pos (decide_eq_true h)] at this
        rw [w64' h.1 h.2] at this ⊢
        exact this
      · rw [if_neg h]
        rw [if_neg (by simp [h])] at this
        exact this
    · refine Ev.ite_false h6 ?_
      rw [if_neg h6]
      by_cases h7 : op = 7
      · rw [if_pos h7]
        refine Ev.ite_true h7 (Ev.some_bind (product_is a b ha hb) ?_)
        by_cases h : inR (a * b)
        · rw [if_pos h, if_pos h]
          exact j3 (a * b) true
        · rw [if_neg h, if_neg h]
          exact j3 0 false
      · refine Ev.ite_false h7 ?_
        rw [if_neg h7]
        by_cases h8 : op = 8
        · refine Ev.ite_true h8 (divide_step op a b k1 k2 s t ha _ ?_)
          subst h8
          rfl
        · refine Ev.ite_false h8 (divide_step op a b k1 k2 s t ha _ ?_)
          by_cases h9 : op = 9
          · subst h9; rfl
          · have : (op == 9) = false := beq_eq_false_iff_ne.2 h9
            rw [this]
            exact (decide_eq_false (by omega)).symm
/-- What is reckoned with any two values. -/
def reckV (op : Int) (k1 a k2 b : Int) : Int × Int × ByteArray := if k1 = 2 ∧ k2 = 2 then reckO op a b else none3
theorem Reckon_is (op k1 a : Int) (s : ByteArray) (k2 b : Int) (t : ByteArray) (ha : inR a) (hb : inR b) : Ev (fun k => value_Reckon.f k op k1 a s k2 b t) (reckV op k1 a k2 b) := by
  unfold value_Reckon.f reckV
  have bad : ∀ k2, Ev (fun k => value_Reckon.j0 k op true k1 a s k2 b t) none3 := fun k2 => Ev.step (f := fun _ => some none3) (fun k => rfl) (Ev.now _)
  by_cases h1 : k1 = 2
  · refine Ev.ite_true h1 ?_
    by_cases h2 : k2 = 2
    · rw [if_pos ⟨h1, h2⟩]
      have : (k2 != 2) = false := by simp [h2]
      rw [this]
      exact Reckon_j0 op k1 a s k2 b t ha hb
    · rw [if_neg (fun k => h2 k.2)]
      have : (k2 != 2) = true := by simp [h2]
      rw [this]
      exact bad k2
  · rw [if_neg (fun k => h1 k.1)]
    exact Ev.ite_false h1 (bad k2)
theorem rReckon_j0 (op k1 a : Int) (s : ByteArray) (k2 b : Int) (t : ByteArray) (ha : inR a) (hb : inR b) : Ev (fun k => relstoreref_Reckon.j0 k op false k1 a s k2 b t) (reckO op a b) := by
  obtain ⟨la, ea, Ha⟩ := longOf_long a ha.1 ha.2
  obtain ⟨lb, eb, Hb⟩ := longOf_long b hb.1 hb.2
  have Hb' : Long (!(decide (b < 0))) lb (-b) 5 := ⟨Hb.dig, Hb.norm, by have := Hb.is; unfold sv at this ⊢; cases h : decide (b < 0) <;> simp [h] at this ⊢ <;> omega, Hb.len⟩
  refine Ev.step (f := fun k => ((relstoreref_longOf.f k a).bind fun bt211 => ((relstoreref_longOf.f k b).bind fun bt215 => (if op = 5 then ((relstoreref_long_plus.f k bt211.1 bt211.2 bt215.1 bt215.2).bind fun bt221 => ((relstoreref_long_value.f k bt221.1 bt221.2).bind fun bt225 => (some (bt225.1, bt225.2.1, bt225.2.2)))) else (if op = 6 then ((relstoreref_long_plus.f k bt211.1 bt211.2 (!bt215.1) bt215.2).bind fun bt228 => ((relstoreref_long_value.f k bt228.1 bt228.2).bind fun bt232 => (some (bt232.1, bt232.2.1, bt232.2.2)))) else (if op = 7 then ((relstoreref_long_times.f k bt211.1 bt211.2 bt215.1 bt215.2).bind fun bt235 => ((relstoreref_long_value.f k bt235.1 bt235.2).bind fun bt239 => (some (bt239.1, bt239.2.1, bt239.2.2)))) else (if op = 8 then (relstoreref_Reckon.j1 k op (op == 8) k1 a s k2 b t) else (relstoreref_Reckon.j1 k op (op == 9) k1 a s k2 b t)))))))) (fun k => rfl) ?_
  refine Ev.bind ea (Ev.bind eb ?_)
  unfold reckO
  by_cases h5 : op = 5
  · rw [if_pos h5]
    obtain ⟨m, l, e, H⟩ := plus_is Ha Hb
    exact Ev.ite_true h5 (Ev.bind e (Ev.bind (value_is ⟨H.dig, H.norm, H.is, by have := H.len; dsimp only at this ⊢; omega⟩) (Ev.now _)))
  · refine Ev.ite_false h5 ?_
    rw [if_neg h5]
    by_cases h6 : op = 6
    · rw [if_pos h6]
      obtain ⟨m, l, e, H⟩ := plus_is Ha Hb'
      rw [Int.sub_eq_add_neg]
      exact Ev.ite_true h6 (Ev.bind e (Ev.bind (value_is ⟨H.dig, H.norm, H.is, by have := H.len; dsimp only at this ⊢; omega⟩) (Ev.now _)))
    · refine Ev.ite_false h6 ?_
      rw [if_neg h6]
      by_cases h7 : op = 7
      · rw [if_pos h7]
        obtain ⟨m, l, e, H⟩ := times_is Ha Hb
        exact Ev.ite_true h7 (Ev.bind e (Ev.bind (value_is H) (Ev.now _)))
      · refine Ev.ite_false h7 ?_
        rw [if_neg h7]
        have go : ∀ x : Bool, x = decide (op = 8 ∨ op = 9) → Ev (fun k => relstoreref_Reckon.j1 k op x k1 a s k2 b t) (if op = 8 ∨ op = 9 then (if b = 0 ∨ a = -9223372036854775808 ∧ b = -1 then none3 else if op = 9 then num3 (a.tmod b) else num3 (a.tdiv b)) else none3) := by
          rintro x rfl
          refine Ev.step (f := fun k => if decide (op = 8 ∨ op = 9) = true then ((relstoreref_divided.f k op a b).bind fun bt242 => (some (bt242.1, bt242.2.1, bt242.2.2))) else ((relstoreref_null.f).bind fun bt245 => (some (bt245.1, bt245.2.1, bt245.2.2)))) (fun k => rfl) ?_
          by_cases ho : op = 8 ∨ op = 9
          · rw [if_pos ho]
            exact Ev.ite_true (decide_eq_true ho) (Ev.bind (divided_is op a b ha) (Ev.now _))
          · rw [if_neg ho]
            exact Ev.ite_false (by simp [ho]) (Ev.const rfl)
        by_cases h8 : op = 8
        · refine Ev.ite_true h8 (go _ ?_)
          subst h8
          rfl
        · refine Ev.ite_false h8 (go _ ?_)
          by_cases h9 : op = 9
          · subst h9; rfl
          · have : (op == 9) = false := beq_eq_false_iff_ne.2 h9
            rw [this]
            exact (decide_eq_false (by omega)).symm
theorem rReckon_is (op k1 a : Int) (s : ByteArray) (k2 b : Int) (t : ByteArray) (ha : inR a) (hb : inR b) : Ev (fun k => relstoreref_Reckon.f k op k1 a s k2 b t) (reckV op k1 a k2 b) := by
  unfold relstoreref_Reckon.f reckV
  have bad : ∀ k2, Ev (fun k => relstoreref_Reckon.j0 k op true k1 a s k2 b t) none3 := fun k2 => Ev.step (f := fun _ => some none3) (fun k => rfl) (Ev.now _)
  by_cases h1 : k1 = 2
  · refine Ev.ite_true h1 ?_
    by_cases h2 : k2 = 2
    · rw [if_pos ⟨h1, h2⟩]
      have : (k2 != 2) = false := by simp [h2]
      rw [this]
      exact rReckon_j0 op k1 a s k2 b t ha hb
    · rw [if_neg (fun k => h2 k.2)]
      have : (k2 != 2) = true := by simp [h2]
      rw [this]
      exact bad k2
  · rw [if_neg (fun k => h1 k.1)]
    exact Ev.ite_false h1 (bad k2)
def negV (k1 a : Int) : Int × Int × ByteArray := if k1 = 2 ∧ a ≠ -9223372036854775808 then num3 (-a) else none3
theorem Neg_is (k1 a : Int) (s : ByteArray) (ha : inR a) : Ev (fun k => value_Neg.f k k1 a s) (negV k1 a) := by
  unfold value_Neg.f
  refine Ev.some_bind (a := (2, 0, ⟨#[]⟩)) rfl (Ev.bind (Reckon_is 6 2 0 _ k1 a s (by decide) ha) ?_)
  have : reckV 6 2 0 k1 a = negV k1 a := by
    unfold reckV negV reckO
    by_cases h1 : k1 = 2
    · by_cases hm : a = -9223372036854775808
      · have hr : ¬ inR (0 - a) := by unfold inR; omega
        rw [if_pos ⟨rfl, h1⟩, if_neg (by decide), if_pos rfl, if_neg hr, if_neg (fun k => k.2 hm)]
      · have hr : inR (0 - a) := by unfold inR at *; omega
        rw [if_pos ⟨rfl, h1⟩, if_neg (by decide), if_pos rfl, if_pos hr, if_pos ⟨h1, hm⟩, Int.zero_sub]
    · rw [if_neg (fun k => h1 k.2), if_neg (fun k => h1 k.1)]
  rw [this]
  exact Ev.now _
theorem rNeg_is (k1 a : Int) (s : ByteArray) (ha : inR a) : Ev (fun k => relstoreref_Neg.f k k1 a s) (negV k1 a) := by
  refine ⟨1, fun k hk => ?_⟩
  obtain ⟨k, rfl⟩ : ∃ m, k = m + 1 := ⟨k - 1, by omega⟩
  unfold inR at ha
  simp only [relstoreref_Neg.f, relstoreref_Neg.j0]
  unfold negV
  by_cases h1 : k1 = 2
  · rw [if_pos h1]
    by_cases hm : a = -9223372036854775808
    · have : (a == -9223372036854775808) = true := beq_iff_eq.2 hm
      rw [this, if_pos rfl, if_neg (fun k => k.2 hm)]
      rfl
    · have : (a == -9223372036854775808) = false := beq_eq_false_iff_ne.2 hm
      rw [this, if_neg (by decide), if_pos ⟨h1, hm⟩, w64' (by omega) (by omega)]
      rfl
  · rw [if_neg h1, if_pos trivial, if_neg (fun k => h1 k.1)]
    rfl
theorem same_self (a b : Int) (c : ByteArray) : relstorelaw_sameValue.f a b c a b c = some true := by simp [relstorelaw_sameValue.f]
theorem ValueReckons (op k1 a : Int) (s : ByteArray) (k2 b : Int) (t : ByteArray) (ha : inR a) (hb : inR b) : ∃ k, relstorelaw_ValueReckons.f k op k1 a s k2 b t = some true := by
  refine Ev.rounds (r := true) ?_
  unfold relstorelaw_ValueReckons.f
  refine Ev.bind (Reckon_is op k1 a s k2 b t ha hb) (Ev.bind (rReckon_is op k1 a s k2 b t ha hb) (Ev.some_bind (same_self _ _ _) (Ev.ite_true rfl ?_)))
  exact Ev.bind (Neg_is k1 a s ha) (Ev.bind (rNeg_is k1 a s ha) (Ev.some_bind (same_self _ _ _) (Ev.now true)))
end Go.Proofs.Ythaoaaboempajaa.Pure
