/- Lines of the texts that the claim ValueTexts rests on, bundled: part 8; no conditions but those that each row names. -/
import Derived.Test.YthaoaaboempajabDoorMValueTexts7
import Derived.Lib.ParseIntBCases
namespace Go.Proofs.YthaoaaboempajabDoor.Texts
open Go.RowKit Go.Proofs.YthaoaaboempajabDoor.QValueTexts Go.Proofs.YthaoaaboempajabDoorW.PrintWords Go.Proofs.YthaoaaboempajabDoorW.PrintLast Go.Proofs.YthaoaaboempajabDoorE Go.Proofs.YthaoaaboempajabDoorGlob
set_option linter.unusedVariables false
set_option linter.unusedSimpArgs false
theorem lim_ok {n : Nat} (h : n ≤ 4000001) : n < 17592186044416 := by omega
theorem lim_le {n i j a b : Nat} (h1 : n = i) (h2 : i + (j + 1) = max a b + 1) (h3 : a ≤ 4000000) (h4 : b ≤ 4000000) : n ≤ 4000001 := by omega
def val : List Int → Int
  | [] => 0
  | d :: l => d + 10000 * val l
def Dig (l : List Int) : Prop := ∀ d ∈ l, 0 ≤ d ∧ d < 10000
def Norm (l : List Int) : Prop := l.getLast? ≠ some 0
theorem pow_pos' (n : Nat) : (0 : Int) < 10000 ^ n := Int.pow_pos (by decide)
theorem val_append : ∀ (l m : List Int), val (l ++ m) = val l + 10000 ^ l.length * val m
  | [], m => by simp [val]
  | d :: l, m => by
    rw [List.cons_append, val, val, val_append l m, List.length_cons, Int.pow_succ]
    generalize (10000 : Int) ^ l.length = p
    rw [Int.mul_add, Int.mul_comm p 10000, Int.mul_assoc]
    omega
theorem val_bound : ∀ {l : List Int}, Dig l → 0 ≤ val l ∧ val l < 10000 ^ l.length
  | [], _ => by simp [val]
  | d :: l, h => by
    have h1 := h d (by simp)
    have h2 := val_bound (l := l) (fun x hx => h x (List.mem_cons_of_mem _ hx))
    rw [val, List.length_cons, Int.pow_succ]
    generalize (10000 : Int) ^ l.length = p at *
    omega
theorem Dig_append {l m : List Int} (hl : Dig l) (hm : Dig m) : Dig (l ++ m) := fun d hd => (List.mem_append.1 hd).elim (hl d) (hm d)
theorem Dig_take {l : List Int} (hl : Dig l) (n : Nat) : Dig (l.take n) := fun d hd => hl d (List.mem_of_mem_take hd)
theorem Dig_drop {l : List Int} (hl : Dig l) (n : Nat) : Dig (l.drop n) := fun d hd => hl d (List.mem_of_mem_drop hd)
theorem Dig_zeros (n : Nat) : Dig (List.replicate n 0) := fun d hd => by
  obtain ⟨_, rfl⟩ := List.mem_replicate.1 hd
  omega
theorem val_zeros : ∀ n : Nat, val (List.replicate n 0) = 0
  | 0 => rfl
  | n + 1 => by rw [List.replicate_succ, val, val_zeros n]; rfl
theorem norm_lower {l : List Int} (h : Dig l) (hn : Norm l) (hne : l ≠ []) : 10000 ^ (l.length - 1) ≤ val l := by
  obtain ⟨m, d, rfl⟩ : ∃ m d, l = m ++ [d] := ⟨l.dropLast, l.getLast hne, (List.dropLast_concat_getLast hne).symm⟩
  have hd : d ≠ 0 := fun e => hn (by simp [e])
  have h1 := h d (by simp)
  have h2 := val_bound (l := m) (fun x hx => h x (by simp [hx]))
  rw [val_append, val, val, Int.mul_zero, Int.add_zero]
  simp only [List.length_append, List.length_singleton, Nat.add_sub_cancel]
  have hp := pow_pos' m.length
  generalize (10000 : Int) ^ m.length = p at *
  have : p * 1 ≤ p * d := Int.mul_le_mul_of_nonneg_left (by omega) (by omega)
  omega
theorem pow_le' {a b : Nat} (h : a ≤ b) : (10000 : Int) ^ a ≤ 10000 ^ b := by
  obtain ⟨c, rfl⟩ := Nat.exists_eq_add_of_le h
  rw [Int.pow_add]
  have h1 := pow_pos' a
  have h2 := pow_pos' c
  have := Int.mul_le_mul_of_nonneg_left (show (1 : Int) ≤ 10000 ^ c by omega) (show (0 : Int) ≤ 10000 ^ a by omega)
  omega
theorem longer_more {a b : List Int} (ha : Dig a) (hb : Dig b) (hn : Norm a) (h : b.length < a.length) : val b < val a := by
  have h1 := norm_lower ha hn (by intro e; rw [e] at h; simp at h)
  have h2 := (val_bound hb).2
  have h3 := pow_le' (show b.length ≤ a.length - 1 by omega)
  omega
theorem take_snoc {l : List Int} {i : Nat} (h : i < l.length) : l.take (i + 1) = l.take i ++ [l.getD i 0] := by
  rw [List.take_add_one, List.getElem?_eq_getElem h, List.getD_eq_getElem?_getD, List.getElem?_eq_getElem h]
  rfl
theorem val_take (l : List Int) (i : Nat) : val (l.take (i + 1)) = val (l.take i) + 10000 ^ i * l.getD i 0 := by
  by_cases h : i < l.length
  · rw [take_snoc h, val_append, val, val, List.length_take, Nat.min_eq_left (by omega)]
    simp
  · rw [List.take_of_length_le (by omega), List.take_of_length_le (by omega), List.getD_eq_getElem?_getD, List.getElem?_eq_none (by omega)]
    simp
theorem Dig_getD {l : List Int} (h : Dig l) (i : Nat) : 0 ≤ l.getD i 0 ∧ l.getD i 0 < 10000 := by
  by_cases hi : i < l.length
  · rw [List.getD_eq_getElem?_getD, List.getElem?_eq_getElem hi]
    exact h _ (List.getElem_mem hi)
  · rw [List.getD_eq_getElem?_getD, List.getElem?_eq_none (by omega)]
    simp
theorem val_drop (l : List Int) (i : Nat) (h : i < l.length) : val (l.drop i) = l.getD i 0 + 10000 * val (l.drop (i + 1)) := by
  rw [List.drop_eq_getElem_cons h, val, List.getD_eq_getElem?_getD, List.getElem?_eq_getElem h]
  rfl
theorem val_parts (l : List Int) (i : Nat) (h : i ≤ l.length) : val l = val (l.take i) + 10000 ^ i * val (l.drop i) := by
  have := val_append (l.take i) (l.drop i)
  rw [List.take_append_drop, List.length_take, Nat.min_eq_left h] at this
  exact this
theorem longOf_l0 : ∀ (r m : Nat), m < 10000 ^ r → ∀ (x : Int) (mi : Bool) (out : List Int), (x = m ∨ x = -(m : Int)) → out.length + r ≤ 100 → m ≤ 9223372036854775808 →
    ∃ n ds, relstoreref_longOf.l0 n x mi out = some (mi, out ++ ds) ∧ Dig ds ∧ Norm ds ∧ val ds = m ∧ ds.length ≤ r
  | r, 0, _, x, mi, out, hx, _, _ => by
    have hx0 : x = 0 := by omega
    refine ⟨1, [], ?_, by simp [Dig], by simp [Norm], rfl, by simp⟩
    simp only [relstoreref_longOf.l0]
    rw [if_pos hx0, List.append_nil]
  | 0, m + 1, h, _, _, _, _, _, _ => by simp at h
  | r + 1, m + 1, h, x, mi, out, hx, hl, hm => by
    have hq : (m + 1) / 10000 < 10000 ^ r := by
      rw [Nat.pow_succ] at h
      exact Nat.div_lt_of_lt_mul (by rw [Nat.mul_comm]; exact h)
    have hx0 : ¬ x = 0 := by omega
    have hmod : x.tmod 10000 = (((m + 1) % 10000 : Nat) : Int) ∨ x.tmod 10000 = -(((m + 1) % 10000 : Nat) : Int) := by
      rcases hx with rfl | rfl
      · left; rw [Int.tmod_eq_emod_of_nonneg (by omega)]; omega
      · right; rw [Int.neg_tmod, Int.tmod_eq_emod_of_nonneg (by omega)]; omega
    have hdiv : x.tdiv 10000 = (((m + 1) / 10000 : Nat) : Int) ∨ x.tdiv 10000 = -(((m + 1) / 10000 : Nat) : Int) := by
      rcases hx with rfl | rfl
      · left; rw [Int.tdiv_eq_ediv_of_nonneg (by omega)]; omega
      · right; rw [Int.neg_tdiv, Int.tdiv_eq_ediv_of_nonneg (by omega)]; omega
    obtain ⟨n, ds, hn, hd, hN, hv, hlen⟩ := longOf_l0 r ((m + 1) / 10000) hq (x.tdiv 10000) mi (out ++ [(((m + 1) % 10000 : Nat) : Int)]) hdiv (by simp; omega) (by omega)
    have wd : wrap64 (x.tdiv 10000) = x.tdiv 10000 := w64' (by omega) (by omega)
    refine ⟨n + 1, (((m + 1) % 10000 : Nat) : Int) :: ds, ?_, ?_, ?_, ?_, by simp [hlen]⟩
    · simp only [relstoreref_longOf.l0]
      rw [if_neg hx0, wd]
      by_cases hs : x.tmod 10000 < 0
      · rw [if_pos hs, if_pos (by omega), w64' (by omega) (by omega)]
        have : -(x.tmod 10000) = (((m + 1) % 10000 : Nat) : Int) := by omega
        rw [this, hn]
        simp
      · rw [if_neg hs, if_pos (by omega)]
        have : x.tmod 10000 = (((m + 1) % 10000 : Nat) : Int) := by omega
        rw [this, hn]
        simp
    · intro d hd'
      rcases List.mem_cons.1 hd' with rfl | hd'
      · omega
      · exact hd d hd'
    · unfold Norm
      cases ds with
      | nil =>
        simp only [val] at hv
        simp only [List.getLast?_singleton]
        intro e
        have := Option.some.inj e
        omega
      | cons d ds =>
        rw [List.getLast?_cons_cons]
        exact hN
    · rw [val, hv]; omega
def sv (m : Bool) (l : List Int) : Int := if m = true then -(val l) else val l
theorem longOf_is (a : Int) (h0 : -9223372036854775808 ≤ a) (h1 : a ≤ 9223372036854775807) : ∃ ds, Ev (fun k => relstoreref_longOf.f k a) (decide (a < 0), ds) ∧ Dig ds ∧ Norm ds ∧ val ds = a.natAbs ∧ ds.length ≤ 5 := by
  obtain ⟨n, ds, hn, hd, hN, hv, hl⟩ := longOf_l0 5 a.natAbs (by have : (10000 : Nat) ^ 5 = 100000000000000000000 := by decide
                                                                 omega) a (decide (a < 0)) [] (by omega) (by simp) (by omega)
  exact ⟨ds, Ev.of (g := fun k => relstoreref_longOf.f k a) (fun k => relstoreref_longOf.mono a k) (k := n) (by show relstoreref_longOf.l0 n a (decide (a < 0)) [] = _; simpa using hn), hd, hN, hv, hl⟩
theorem cut_l0 : ∀ (n : Nat) (l : List Int), l.length = n → n ≤ 5000000 → Dig l → ∃ k l', relstoreref_cut.l0 k l = some l' ∧ Dig l' ∧ Norm l' ∧ val l' = val l ∧ l'.length ≤ n
  | 0, l, hl, _, _ => by
    obtain rfl := List.eq_nil_of_length_eq_zero hl
    exact ⟨1, [], by simp [relstoreref_cut.l0], by simp [Dig], by simp [Norm], rfl, by simp⟩
  | n + 1, l, hl, hn, hd => by
    have hne : l ≠ [] := by intro e; rw [e] at hl; simp at hl
    obtain ⟨m, d, rfl⟩ : ∃ m d, l = m ++ [d] := ⟨l.dropLast, l.getLast hne, (List.dropLast_concat_getLast hne).symm⟩
    have hml : m.length = n := by simpa using hl
    have hw : wrap64 (((m ++ [d]).length : Int) - 1) = (m.length : Int) := by rw [w64' (by simp) (by simp; omega)]; simp
    have hr : rd (m ++ [d]) (m.length : Int) = d := by simp [rd]
    by_cases h0 : d = 0
    · obtain ⟨k, l', hk, h1, h2, h3, h4⟩ := cut_l0 n m hml (by omega) (fun x hx => hd x (by simp [hx]))
      refine ⟨k + 1, l', ?_, h1, h2, ?_, by omega⟩
      · simp only [relstoreref_cut.l0]
        rw [if_pos (by rw [hl]; omega), hw, if_pos (by omega), if_pos (by rw [hl]; omega), hr, if_pos h0, if_pos (by rw [hl]; omega)]
        simpa using hk
      · rw [h3, val_append, h0]; simp [val]
    · refine ⟨1, m ++ [d], ?_, hd, by simp [Norm, h0], rfl, by omega⟩
      simp only [relstoreref_cut.l0]
      rw [if_pos (by rw [hl]; omega), hw, if_pos (by omega), if_pos (by rw [hl]; omega), hr, if_neg h0]
theorem cut_is {l : List Int} (hd : Dig l) (hl : l.length ≤ 5000000) : ∃ l', Ev (fun k => relstoreref_cut.f k l) l' ∧ Dig l' ∧ Norm l' ∧ val l' = val l ∧ l'.length ≤ l.length := by
  obtain ⟨k, l', hk, h⟩ := cut_l0 l.length l rfl hl hd
  exact ⟨l', Ev.of (g := fun k => relstoreref_cut.f k l) (fun k => relstoreref_cut.mono l k) (k := k) hk, h⟩
theorem digit_is (l : List Int) (i : Nat) : relstoreref_digit.f l (i : Int) = some (l.getD i 0) := by
  unfold relstoreref_digit.f
  by_cases h : i < l.length
  · rw [if_pos (by omega), if_pos (by omega)]
    simp [rd]
  · rw [if_neg (by omega), List.getD_eq_getElem?_getD, List.getElem?_eq_none (by omega)]
    rfl
theorem pow_mul_pos {p c : Int} (hp : 0 < p) (hc : 1 ≤ c) : p ≤ p * c := by
  have := Int.mul_le_mul_of_nonneg_left hc (show 0 ≤ p by omega)
  omega
theorem joint_l0 {a b : List Int} {f : Int} (ha : Dig a) (hb : Dig b) (hf : f = -1 ∨ 0 ≤ f ∧ f ≤ 9999) (hla : a.length ≤ 4000000) (hlb : b.length ≤ 4000000) (h0 : 0 ≤ val a + f * val b) : ∀ (j i : Nat), i + j = max a.length b.length + 1 → ∀ (out : List Int) (c : Int), out.length = i → Dig out →
    (f = -1 → c = -1 ∨ c = 0) → (0 ≤ f → 0 ≤ c ∧ c ≤ 9999) → val out + 10000 ^ i * c = val (a.take i) + f * val (b.take i) →
    ∃ l, Ev (fun k => relstoreref_joint.l0 k a b f out c (i : Int)) l ∧ Dig l ∧ Norm l ∧ val l = val a + f * val b ∧ l.length ≤ max a.length b.length + 1 := by
  have hmx : mx (a.length : Int) (b.length : Int) = ((max a.length b.length : Nat) : Int) := by
    unfold mx
    split <;> omega
  intro j
  induction j with
  | zero =>
    intro i hi out c ho hd hc1 hc2 hv
    rw [List.take_of_length_le (by omega), List.take_of_length_le (by omega)] at hv
    have hb1 := val_bound hd
    have hva := val_bound ha
    have hvb := val_bound hb
    have hT : val a + f * val b < 10000 ^ i := by
      have e : i = max a.length b.length + 1 := by omega
      rw [e, Int.pow_succ]
      have p1 := pow_le' (show a.length ≤ max a.length b.length by omega)
      have p2 := pow_le' (show b.length ≤ max a.length b.length by omega)
      generalize (10000 : Int) ^ (max a.length b.length) = P at *
      rcases hf with rfl | ⟨f0, f1⟩
      · omega
      · have := Int.mul_le_mul_of_nonneg_right f1 hvb.1
        omega
    have hP := pow_pos' i
    rw [ho] at hb1
    have hc0 : c = 0 := by
      rcases Int.lt_trichotomy c 0 with h | h | h
      · have := pow_mul_pos hP (show 1 ≤ -c by omega)
        rw [Int.mul_neg] at this
        omega
      · exact h
      · have := pow_mul_pos hP (show 1 ≤ c by omega)
        omega
    rw [hc0, Int.mul_zero, Int.add_zero] at hv
    obtain ⟨l', he, h1, h2, h3, h4⟩ := cut_is hd (by omega)
    refine ⟨l', ?_, h1, h2, by rw [h3, hv], by omega⟩
    refine Ev.step (f := fun k => (relstoreref_cut.f k out).bind fun t => some t) (fun k => ?_) (Ev.bind he (Ev.now l'))
    simp only [relstoreref_joint.l0]
    rw [hmx, if_neg (by omega)]
  | succ j ih =>
    intro i hi out c ho hd hc1 hc2 hv
    have da := Dig_getD ha i
    have db := Dig_getD hb i
    obtain ⟨A, hA⟩ : ∃ A, a.getD i 0 = A := ⟨_, rfl⟩
    obtain ⟨B, hB⟩ : ∃ B, b.getD i 0 = B := ⟨_, rfl⟩
    rw [hA] at da
    rw [hB] at db
    have hfB : -9999 ≤ f * B ∧ f * B ≤ 99980001 ∧ (0 ≤ f → 0 ≤ f * B) := by
      rcases hf with rfl | ⟨f0, f1⟩
      · omega
      · have h1 := Int.mul_le_mul_of_nonneg_right f1 db.1
        have h2 := Int.mul_nonneg f0 db.1
        omega
    have hcr : -1 ≤ c ∧ c ≤ 9999 := by
      rcases hf with h | h
      · have := hc1 h; omega
      · have := hc2 h.1; omega
    obtain ⟨n, hn⟩ : ∃ n : Int, A + f * B + c = n := ⟨_, rfl⟩
    have hfneg : f = -1 → n ≤ 9999 := by
      intro h
      have := hc1 h
      subst h
      omega
    have hfpos : 0 ≤ f → 0 ≤ n := by
      intro h
      have := hc2 h
      have := hfB.2.2 h
      omega
    have hw : wrap64 (wrap64 (A + wrap64 (f * B)) + c) = n := by
      rw [w64' (i := f * B) (by omega) (by omega), w64' (i := A + f * B) (by omega) (by omega), hn, w64' (by omega) (by omega)]
    have hstep : ∀ (out' : List Int) (c' : Int), out' = out ++ [n % 10000] → c' = n / 10000 →
        ∃ l, Ev (fun k => relstoreref_joint.l0 k a b f out' c' ((i : Int) + 1)) l ∧ Dig l ∧ Norm l ∧ val l = val a + f * val b ∧ l.length ≤ max a.length b.length + 1 := by
      rintro out' c' rfl rfl
      have := ih (i + 1) (by omega) (out ++ [n % 10000]) (n / 10000) (by simp [ho]) (Dig_append hd (by intro d hd'; simp at hd'; omega)) (fun h => by have := hfneg h; omega) (fun h => by have := hfpos h; omega) (by
        rw [val_append, val_take, val_take, hA, hB, ho, Int.pow_succ, val, val]
        have e1 : f * (val (b.take i) + 10000 ^ i * B) = f * val (b.take i) + 10000 ^ i * (f * B) := by
          rw [Int.mul_add, Int.mul_left_comm]
        rw [e1]
        have e2 : 10000 ^ i * A + 10000 ^ i * (f * B) + 10000 ^ i * c = 10000 ^ i * n := by rw [← Int.mul_add, ← Int.mul_add, hn]
        have e3 : 10000 ^ i * (n % 10000) + 10000 ^ i * 10000 * (n / 10000) = 10000 ^ i * n := by
          rw [Int.mul_assoc, ← Int.mul_add, Int.emod_add_mul_ediv]
        simp only [Int.mul_zero, Int.add_zero]
        omega)
      simpa using this
    have hi1 : wrap64 ((i : Int) + 1) = (i : Int) + 1 := w64 (by omega) (by omega)
    have hlim : out.length < 17592186044416 := lim_ok (lim_le ho hi hla hlb)
    by_cases hneg : n < 0
    · obtain ⟨l, hl, hrest⟩ := hstep (out ++ [(n + 10000) % 10000]) (-1) (by simp) (by omega)
      refine ⟨l, ?_, hrest⟩
      refine Ev.step (f := fun k => relstoreref_joint.l1 k a b f out 0 (i : Int) n) (fun k => ?_) ?_
      · simp only [relstoreref_joint.l0]
        rw [hmx, if_pos (by omega), digit_is, digit_is, hA, hB]
        simp only [Option.bind_some]
        rw [hw]
      refine Ev.step (f := fun k => relstoreref_joint.l1 k a b f out (-1) (i : Int) (n + 10000)) (fun k => ?_) ?_
      · simp only [relstoreref_joint.l1]
        rw [if_pos hneg, w64' (i := n + 10000) (by omega) (by omega), show wrap64 (0 - 1) = -1 by unfold wrap64; decide]
      refine Ev.step (f := fun k => relstoreref_joint.l0 k a b f (out ++ [(n + 10000) % 10000]) (-1) ((i : Int) + 1)) (fun k => ?_) hl
      simp only [relstoreref_joint.l1]
      rw [if_neg (by omega), if_pos hlim, Int.tmod_eq_emod_of_nonneg (by omega), Int.tdiv_eq_ediv_of_nonneg (by omega), hi1, w64' (i := (n + 10000) / 10000) (by omega) (by omega)]
      have : (n + 10000) / 10000 = 0 := by omega
      rw [this, show wrap64 (-1 + 0) = -1 by unfold wrap64; decide]
    · obtain ⟨l, hl, hrest⟩ := hstep (out ++ [n % 10000]) (n / 10000) rfl rfl
      refine ⟨l, ?_, hrest⟩
      refine Ev.step (f := fun k => relstoreref_joint.l1 k a b f out 0 (i : Int) n) (fun k => ?_) ?_
      · simp only [relstoreref_joint.l0]
        rw [hmx, if_pos (by omega), digit_is, digit_is, hA, hB]
        simp only [Option.bind_some]
        rw [hw]
      refine Ev.step (f := fun k => relstoreref_joint.l0 k a b f (out ++ [n % 10000]) (n / 10000) ((i : Int) + 1)) (fun k => ?_) hl
      simp only [relstoreref_joint.l1]
      rw [if_neg hneg, if_pos hlim, Int.tmod_eq_emod_of_nonneg (by omega), Int.tdiv_eq_ediv_of_nonneg (by omega), hi1, w64' (i := n / 10000) (by omega) (by omega), Int.zero_add, w64' (by omega) (by omega)]
theorem joint_is {a b : List Int} {f : Int} (ha : Dig a) (hb : Dig b) (hf : f = -1 ∨ 0 ≤ f ∧ f ≤ 9999) (hla : a.length ≤ 4000000) (hlb : b.length ≤ 4000000) (h0 : 0 ≤ val a + f * val b) :
    ∃ l, Ev (fun k => relstoreref_joint.f k a b f) l ∧ Dig l ∧ Norm l ∧ val l = val a + f * val b ∧ l.length ≤ max a.length b.length + 1 :=
  joint_l0 ha hb hf hla hlb h0 (max a.length b.length + 1) 0 (by omega) [] 0 rfl (by simp [Dig]) (fun _ => .inr rfl) (fun _ => by omega) (by simp [val])
theorem take_all_eq {l : List Int} {n : Nat} (h : l.length ≤ n) : l.take n = l := List.take_of_length_le h
theorem above_l0 {a b : List Int} (ha : Dig a) (hb : Dig b) (hl : a.length = b.length) (hla : a.length ≤ 4000000) : ∀ (j : Nat), j ≤ a.length → ∃ n, relstoreref_above.l0 n a b ((j : Int) - 1) = some (decide (val (a.take j) > val (b.take j)))
  | 0, _ => ⟨1, by
      simp only [relstoreref_above.l0]
      rw [if_neg (by omega)]
      simp [val]⟩
  | j + 1, h => by
    have e0 : (((j + 1 : Nat) : Int) - 1) = (j : Int) := by omega
    have ra : rd a (j : Int) = a.getD j 0 := by simp [rd]
    have rb : rd b (j : Int) = b.getD j 0 := by simp [rd]
    have da := Dig_getD ha j
    have db := Dig_getD hb j
    have va := val_bound (Dig_take ha j)
    have vb := val_bound (Dig_take hb j)
    have la : (a.take j).length = j := by rw [List.length_take]; omega
    have lb : (b.take j).length = j := by rw [List.length_take]; omega
    rw [la] at va
    rw [lb] at vb
    rw [e0, val_take, val_take]
    obtain ⟨A, hA⟩ : ∃ A, a.getD j 0 = A := ⟨_, rfl⟩
    obtain ⟨B, hB⟩ : ∃ B, b.getD j 0 = B := ⟨_, rfl⟩
    rw [hA] at ra da ⊢
    rw [hB] at rb db ⊢
    by_cases he : A = B
    · obtain ⟨n, hn⟩ := above_l0 ha hb hl hla j (by omega)
      refine ⟨n + 1, ?_⟩
      simp only [relstoreref_above.l0]
      rw [if_pos (by omega), if_pos (by omega), if_pos (by omega), if_pos (by omega), ra, rb, if_pos he, w64' (by omega) (by omega), hn, he]
      congr 1
      exact decide_eq_decide.2 ⟨fun h => by omega, fun h => by omega⟩
    · refine ⟨1, ?_⟩
      simp only [relstoreref_above.l0]
      rw [if_pos (by omega), if_pos (by omega), if_pos (by omega), if_pos (by omega), ra, rb, if_neg he]
      congr 1
      have hp := pow_pos' j
      generalize (10000 : Int) ^ j = p at *
      refine decide_eq_decide.2 ⟨fun h => ?_, fun h => ?_⟩
      · have := Int.mul_le_mul_of_nonneg_left (show B + 1 ≤ A by omega) (show 0 ≤ p by omega)
        rw [Int.mul_add] at this
        omega
      · rcases Int.lt_or_gt_of_ne he with h1 | h1
        · have := Int.mul_le_mul_of_nonneg_left (show A + 1 ≤ B by omega) (show 0 ≤ p by omega)
          rw [Int.mul_add] at this
          omega
        · omega
theorem above_is {a b : List Int} (ha : Dig a) (hb : Dig b) (na : Norm a) (nb : Norm b) (hla : a.length ≤ 4000000) : Ev (fun k => relstoreref_above.f k a b) (decide (val a > val b)) := by
  by_cases hl : a.length = b.length
  · obtain ⟨n, hn⟩ := above_l0 ha hb hl hla a.length (Nat.le_refl _)
    refine Ev.of (g := fun k => relstoreref_above.f k a b) (fun k => relstoreref_above.mono a b k) (k := n) ?_
    unfold relstoreref_above.f
    rw [if_pos (by omega), w64' (by omega) (by omega), hn, take_all_eq (Nat.le_refl _), take_all_eq (by omega)]
  · have : ∀ k, relstoreref_above.f k a b = some (decide (val a > val b)) := by
      intro k
      unfold relstoreref_above.f
      rw [if_neg (by omega)]
      congr 1
      rcases Nat.lt_or_gt_of_ne hl with h | h
      · have := longer_more hb ha nb h
        exact decide_eq_decide.2 ⟨fun h => by omega, fun h => by omega⟩
      · have := longer_more ha hb na h
        exact decide_eq_decide.2 ⟨fun h => by omega, fun h => by omega⟩
    exact ⟨0, fun k _ => this k⟩
structure Long (m : Bool) (l : List Int) (n : Int) (b : Nat) : Prop where
  dig : Dig l
  norm : Norm l
  is : sv m l = n
  len : l.length ≤ b
theorem longOf_long (a : Int) (h0 : -9223372036854775808 ≤ a) (h1 : a ≤ 9223372036854775807) : ∃ ds, Ev (fun k => relstoreref_longOf.f k a) (decide (a < 0), ds) ∧ Long (decide (a < 0)) ds a 5 := by
  obtain ⟨ds, he, hd, hN, hv, hl⟩ := longOf_is a h0 h1
  refine ⟨ds, he, hd, hN, ?_, hl⟩
  unfold sv
  by_cases h : a < 0 <;> simp [h, hv] <;> omega
theorem times_l0 {x y : List Int} (ma m0 : Bool) (hx : Dig x) (hy : Dig y) (hlx : x.length ≤ 2000000) (hly : y.length ≤ 5) : ∀ (j i : Nat), i + j = y.length → ∀ (out : List Int), Dig out → Norm out → val out = val x * val (y.take i) → out.length ≤ 2000000 + 2 * i →
    ∃ l, Ev (fun k => relstoreref_long_times.l0 k y (y.length : Int) (i : Int) ma x m0 out) (m0, l) ∧ Dig l ∧ Norm l ∧ val l = val x * val y ∧ l.length ≤ 2000015
  | 0, i, hi, out, hd, hn, hv, hl => by
    refine ⟨out, ?_, hd, hn, by rw [hv, take_all_eq (by omega)], by omega⟩
    refine Ev.step (f := fun _ => some (m0, out)) (fun k => ?_) (Ev.now _)
    simp only [relstoreref_long_times.l0]
    rw [if_neg (by omega)]
  | j + 1, i, hi, out, hd, hn, hv, hl => by
    have dy := Dig_getD hy i
    have ry : rd y (i : Int) = y.getD i 0 := by simp [rd]
    obtain ⟨B, hB⟩ : ∃ B, y.getD i 0 = B := ⟨_, rfl⟩
    rw [hB] at ry dy
    have hz : Dig (List.replicate i 0 ++ x) := Dig_append (Dig_zeros i) hx
    have hzv : val (List.replicate i 0 ++ x) = 10000 ^ i * val x := by rw [val_append, val_zeros, List.length_replicate]; omega
    have hzl : (List.replicate i (0 : Int) ++ x).length = i + x.length := by simp
    have vx := val_bound hx
    have vo := val_bound hd
    have hp := pow_pos' i
    have hpos : 0 ≤ B * val (List.replicate i 0 ++ x) := Int.mul_nonneg dy.1 (val_bound hz).1
    obtain ⟨l, he, h1, h2, h3, h4⟩ := joint_is (f := B) hd hz (.inr (by omega)) (by omega) (by omega) (by omega)
    obtain ⟨l', he', h1', h2', h3', h4'⟩ := times_l0 ma m0 hx hy hlx hly j (i + 1) (by omega) l h1 h2 (by
      rw [h3, hv, hzv, val_take, hB, Int.mul_add, Int.mul_left_comm B, Int.mul_left_comm (val x), Int.mul_comm B]) (by omega)
    refine ⟨l', ?_, h1', h2', h3', h4'⟩
    refine Ev.step (f := fun k => (relstoreref_joint.f k out (List.replicate i 0 ++ x) B).bind fun t196 => (relstoreref_long_times.l0 k y (y.length : Int) ((i + 1 : Nat) : Int) ma x m0 t196)) (fun k => ?_) (Ev.bind he he')
    simp only [relstoreref_long_times.l0]
    rw [if_pos (by omega), if_pos (by omega), if_pos (by omega), if_pos (by omega)]
    simp only [Option.bind_some, Int.toNat_natCast]
    rw [if_pos (by simp; omega), ry, w64 (by omega) (by omega)]
    rfl
theorem times_is {ma mb : Bool} {la lb : List Int} {x y : Int} (ha : Long ma la x 2000000) (hb : Long mb lb y 5) : ∃ l, Ev (fun k => relstoreref_long_times.f k ma la mb lb) (ma != mb, l) ∧ Long (ma != mb) l (x * y) 2000015 := by
  obtain ⟨l, he, h1, h2, h3, h4⟩ := times_l0 ma (ma != mb) ha.dig hb.dig ha.len hb.len lb.length 0 (by omega) [] (by simp [Dig]) (by simp [Norm]) (by simp [val]) (by simp)
  refine ⟨l, he, h1, h2, ?_, h4⟩
  have sx := ha.is
  have sy := hb.is
  unfold sv at sx sy ⊢
  rw [h3, ← sx, ← sy]
  cases ma <;> cases mb <;> simp [Int.neg_mul, Int.mul_neg]
theorem small_l0 (m : Bool) {l : List Int} (hd : Dig l) (hl : l.length ≤ 4000000) (hv : val l ≤ 9223372036854775808) : ∀ (j : Nat), j ≤ l.length → ∃ n, relstoreref_long_small.l0 n (-(val (l.drop j))) ((j : Int) - 1) m l = some (if m = true then (-(val l), true) else (wrap64 (val l), true))
  | 0, _ => ⟨1, by
      simp only [relstoreref_long_small.l0]
      rw [if_neg (by omega)]
      cases m <;> simp⟩
  | j + 1, h => by
    obtain ⟨n, hn⟩ := small_l0 m hd hl hv j (by omega)
    refine ⟨n + 1, ?_⟩
    have e0 : (((j + 1 : Nat) : Int) - 1) = (j : Int) := by omega
    have rl : rd l (j : Int) = l.getD j 0 := by simp [rd]
    have hdr := val_drop l j (by omega)
    have h1 := val_bound (Dig_drop hd j)
    have h2 := val_bound (Dig_drop hd (j + 1))
    have h3 := Dig_getD hd j
    have h4 := val_parts l j (by omega)
    have h5 := val_bound (Dig_take hd j)
    have hp := pow_pos' j
    have h6 : val (l.drop j) ≤ 10000 ^ j * val (l.drop j) := by
      have := Int.mul_le_mul_of_nonneg_right (show (1 : Int) ≤ 10000 ^ j by omega) h1.1
      omega
    have h7 : val (l.drop j) ≤ 9223372036854775808 := by omega
    simp only [relstoreref_long_small.l0]
    rw [e0, if_pos (by omega), if_pos (by omega), if_pos (by omega), rl, w64' (i := 10000 * -(val (l.drop (j + 1)))) (by omega) (by omega), w64' (by omega) (by omega), w64' (by omega) (by omega)]
    have : 10000 * -(val (l.drop (j + 1))) - l.getD j 0 = -(val (l.drop j)) := by omega
    rw [this]
    exact hn
def inR (n : Int) : Prop := -9223372036854775808 ≤ n ∧ n ≤ 9223372036854775807
instance (n : Int) : Decidable (inR n) := by unfold inR; infer_instance
theorem small_is {m : Bool} {l : List Int} {n : Int} (h : Long m l n 2000016) : Ev (fun k => relstoreref_long_small.f k m l) (if inR n then (n, true) else (0, false)) := by
  obtain ⟨E, he, hE⟩ := longOf_long (-9223372036854775808) (by decide) (by decide)
  have vE : val E = 9223372036854775808 := by
    have := hE.is
    unfold sv at this
    rw [if_pos (by decide)] at this
    omega
  have vl := val_bound h.dig
  have hl := h.len
  have hn := h.is
  unfold sv at hn
  have a1 := above_is h.dig hE.dig h.norm hE.norm (by omega)
  have a2 := above_is hE.dig h.dig hE.norm h.norm (by have := hE.len; omega)
  rw [vE] at a1 a2
  unfold relstoreref_long_small.f
  refine Ev.bind he (Ev.bind a1 ?_)
  have out : Ev (fun k => relstoreref_long_small.j0 k true m l) (0, false) := Ev.step (f := fun _ => some (0, false)) (fun k => rfl) (Ev.now _)
  have fine : val l ≤ 9223372036854775808 → Ev (fun k => relstoreref_long_small.j0 k false m l) (if m = true then (-(val l), true) else (wrap64 (val l), true)) := by
    intro hle
    obtain ⟨k, hk⟩ := small_l0 m h.dig (by omega) hle l.length (Nat.le_refl _)
    refine Ev.of (g := fun k => relstoreref_long_small.j0 k false m l) (fun k => relstoreref_long_small.mono_l k |>.1 _ _ _) (k := k + 1) ?_
    simp only [relstoreref_long_small.j0]
    rw [if_neg (by decide), w64' (by omega) (by omega)]
    rw [List.drop_length] at hk
    exact hk
  by_cases hgt : val l > 9223372036854775808
  · rw [decide_eq_true hgt]
    have hno : ¬ inR n := by unfold inR; cases m <;> simp at hn <;> omega
    rw [if_neg hno]
    exact Ev.ite_true rfl out
  · rw [decide_eq_false hgt]
    refine Ev.ite_false (by decide) ?_
    cases m with
    | true =>
      have hin : inR n := by unfold inR; simp at hn; omega
      rw [if_pos hin]
      refine Ev.ite_true rfl ?_
      have := fine (by omega)
      simp at this hn
      rw [hn] at this
      exact this
    | false =>
      simp at hn
      refine Ev.ite_false (by decide) (Ev.bind a2 ?_)
      by_cases hlt : (9223372036854775808 : Int) > val l
      · rw [decide_eq_true hlt]
        have hin : inR n := by unfold inR; omega
        rw [if_pos hin]
        have := fine (by omega)
        simp at this
        rw [w64' (by omega) (by omega), hn] at this
        exact this
      · rw [decide_eq_false hlt]
        have hno : ¬ inR n := by unfold inR; omega
        rw [if_neg hno]
        exact out
def none3 : Int × Int × ByteArray := (0, 0, ⟨#[]⟩)
def num3 (n : Int) : Int × Int × ByteArray := (2, n, ⟨#[]⟩)
theorem value_is {m : Bool} {l : List Int} {n : Int} (h : Long m l n 2000016) : Ev (fun k => relstoreref_long_value.f k m l) (if inR n then num3 n else none3) := by
  unfold relstoreref_long_value.f
  refine Ev.bind (small_is h) ?_
  by_cases hin : inR n
  · rw [if_pos hin, if_pos hin]
    exact Ev.ite_true rfl (Ev.const rfl)
  · rw [if_neg hin, if_neg hin]
    exact Ev.ite_false (by decide) (Ev.const rfl)
def dig (c : UInt8) : Prop := 48 ≤ c.toNat ∧ c.toNat ≤ 57
instance (c : UInt8) : Decidable (dig c) := by unfold dig; infer_instance
def dval (a : Nat) (l : List UInt8) : Nat := l.foldl (fun n c => n * 10 + (c.toNat - 48)) a
theorem dval_cons (a : Nat) (c : UInt8) (l : List UInt8) : dval a (c :: l) = dval (a * 10 + (c.toNat - 48)) l := by simp only [dval, List.foldl_cons]
theorem dval_nil (a : Nat) : dval a [] = a := by simp only [dval, List.foldl_nil]
theorem dval_snoc (a : Nat) (c : UInt8) (l : List UInt8) : dval a (l ++ [c]) = dval a l * 10 + (c.toNat - 48) := by simp [dval]
theorem dval_ge : ∀ (l : List UInt8) (a : Nat), a ≤ dval a l
  | [], a => by rw [dval_nil]; exact Nat.le_refl _
  | c :: l, a => by
    rw [dval_cons]
    have := dval_ge l (a * 10 + (c.toNat - 48))
    omega
theorem dval_lt' : ∀ (l m : List UInt8), (∀ c ∈ l, dig c) → (dval 0 m : Int) < 10000 ^ m.length → (dval 0 (m ++ l) : Int) < 10000 ^ (m ++ l).length
  | [], m, _, h => by rw [List.append_nil]; exact h
  | c :: l, m, h, hm => by
    have h2 := h c (by simp)
    unfold dig at h2
    have h1 : (dval 0 (m ++ [c]) : Int) < 10000 ^ (m ++ [c]).length := by
      rw [dval_snoc, List.length_append, List.length_singleton, Int.pow_succ]
      generalize (10000 : Int) ^ m.length = p at *
      omega
    have := dval_lt' l (m ++ [c]) (fun x hx => h x (List.mem_cons_of_mem _ hx)) h1
    rw [List.append_assoc] at this
    exact this
theorem dval_lt (l : List UInt8) (h : ∀ c ∈ l, dig c) : (dval 0 l : Int) < 10000 ^ l.length := dval_lt' l [] h (by rw [dval_nil]; decide)
theorem uintM_all : ∀ (l : List UInt8) (a : Nat), (∀ c ∈ l, dig c) → a ≤ 18446744073709551615 → Lib.parseUintM 18446744073709551615 a l = if dval a l ≤ 18446744073709551615 then .ok (dval a l) else .range
  | [], a, _, ha => by
    rw [dval_nil, if_pos ha]
    rfl
  | c :: l, a, h, ha => by
    have hc := h c (by simp)
    unfold dig at hc
    have hge := dval_ge l (a * 10 + (c.toNat - 48))
    rw [dval_cons]
    simp only [Lib.parseUintM]
    rw [if_pos hc]
    by_cases h1 : 1844674407370955162 ≤ a
    · rw [if_pos h1, if_neg (by omega)]
    · rw [if_neg h1]
      by_cases h2 : 18446744073709551615 < a * 10 + (c.toNat - 48)
      · rw [if_pos h2, if_neg (by omega)]
      · rw [if_neg h2]
        exact uintM_all l _ (fun x hx => h x (List.mem_cons_of_mem _ hx)) (by omega)
theorem uintM_not : ∀ (l : List UInt8) (a : Nat), ¬ (∀ c ∈ l, dig c) → ∀ u, Lib.parseUintM 18446744073709551615 a l ≠ .ok u
  | [], a, h, u => absurd (fun c hc => by cases hc) h
  | c :: l, a, h, u => by
    simp only [Lib.parseUintM]
    by_cases hc : dig c
    · have hl : ¬ ∀ x ∈ l, dig x := fun hl => h (fun x hx => (List.mem_cons.1 hx).elim (fun e => e ▸ hc) (hl x))
      unfold dig at hc
      rw [if_pos hc]
      split
      · intro e; cases e
      · split
        · intro e; cases e
        · exact uintM_not l _ hl u
    · unfold dig at hc
      rw [if_neg hc]
      intro e; cases e
def castS (l : List UInt8) : Int × Int × ByteArray :=
  match l with
  | [] => none3
  | c :: r => if c = 45 then (if r ≠ [] ∧ (∀ d ∈ r, dig d) ∧ inR (-(dval 0 r : Int)) then num3 (-(dval 0 r : Int)) else none3)
    else (if (∀ d ∈ c :: r, dig d) ∧ inR (dval 0 (c :: r) : Int) then num3 (dval 0 (c :: r) : Int) else none3)
theorem castS_cons (c : UInt8) (r : List UInt8) : castS (c :: r) = if c = 45 then (if r ≠ [] ∧ (∀ d ∈ r, dig d) ∧ inR (-(dval 0 r : Int)) then num3 (-(dval 0 r : Int)) else none3)
    else (if (∀ d ∈ c :: r, dig d) ∧ inR (dval 0 (c :: r) : Int) then num3 (dval 0 (c :: r) : Int) else none3) := rfl
theorem bt_head {s : ByteArray} {c : UInt8} {r : List UInt8} (h : s.data.toList = c :: r) : bt s 0 = (c.toNat : Int) := bt_in (X := []) (Y := r) h
theorem num_is (s : ByteArray) : value_Cast.num s = some (castS s.data.toList) := by
  have hM : (2 : Nat) ^ 64 - 1 = 18446744073709551615 := by decide
  have hC : (2 : Nat) ^ (64 - 1) = 9223372036854775808 := by decide
  unfold value_Cast.num
  cases hl : s.data.toList with
  | nil => rfl
  | cons c r =>
    have hb := bt_head hl
    by_cases h45 : c = 45
    · subst h45
      rw [Lib.parseIntB_minus, hC]
      have ec : castS (45 :: r) = (if r ≠ [] ∧ (∀ d ∈ r, dig d) ∧ inR (-(dval 0 r : Int)) then num3 (-(dval 0 r : Int)) else none3) := by
        rw [castS_cons, if_pos rfl]
      rw [ec]
      unfold Lib.parseUintB
      by_cases hr : r = []
      · rw [if_pos hr, if_neg (fun h => h.1 hr)]
        rfl
      · rw [if_neg hr, hM]
        by_cases hd : ∀ d ∈ r, dig d
        · rw [uintM_all r 0 hd (by omega)]
          by_cases h1 : dval 0 r ≤ 18446744073709551615
          · rw [if_pos h1]
            simp only [Lib.signedC]
            by_cases h2 : 9223372036854775808 < dval 0 r
            · rw [if_pos h2, if_neg (fun h => by have := h.2.2; unfold inR at this; omega)]
              rfl
            · rw [if_neg h2, if_pos ⟨hr, hd, by unfold inR; omega⟩]
              show (if bt s 0 = 43 then value_None.f else value_Of.f _) = _
              rw [if_neg (by rw [hb]; decide)]
              rfl
          · rw [if_neg h1, if_neg (fun h => by have := h.2.2; unfold inR at this; omega)]
            rfl
        · rw [if_neg (fun h => hd h.2.1)]
          rcases hu : Lib.parseUintM 18446744073709551615 0 r with u | _ | _
          · exact absurd hu (uintM_not r 0 hd u)
          · rfl
          · rfl
    · have h45' : c.toNat ≠ 45 := fun e => h45 (UInt8.toNat_inj.1 e)
      have ec : castS (c :: r) = (if (∀ d ∈ c :: r, dig d) ∧ inR (dval 0 (c :: r) : Int) then num3 (dval 0 (c :: r) : Int) else none3) := by rw [castS_cons, if_neg h45]
      rw [ec]
      by_cases h43 : c = 43
      · subst h43
        rw [if_neg (fun h => by have := h.1 43 (by simp); unfold dig at this; revert this; decide)]
        rcases Lib.parseIntB 64 (43 :: r) with u | _ | _
        · skip
          show (if bt s 0 = 43 then value_None.f else value_Of.f _) = _
          rw [if_pos (by rw [hb]; decide)]
          rfl
        · rfl
        · rfl
      · have h43' : c.toNat ≠ 43 := fun e => h43 (UInt8.toNat_inj.1 e)
        rw [Lib.parseIntB_plain 64 c r h43' h45', hC]
        unfold Lib.parseUintB
        rw [if_neg (by simp), hM]
        by_cases hd : ∀ d ∈ c :: r, dig d
        · rw [uintM_all (c :: r) 0 hd (by omega)]
          by_cases h1 : dval 0 (c :: r) ≤ 18446744073709551615
          · rw [if_pos h1]
            simp only [Lib.signlessC]
            by_cases h2 : 9223372036854775808 ≤ dval 0 (c :: r)
            · rw [if_pos h2, if_neg (fun h => by have := h.2; unfold inR at this; omega)]
              rfl
            · rw [if_neg h2, if_pos ⟨hd, by unfold inR; omega⟩]
              show (if bt s 0 = 43 then value_None.f else value_Of.f _) = _
              rw [if_neg (by rw [hb]; omega)]
              rfl
          · rw [if_neg h1, if_neg (fun h => by have := h.2; unfold inR at this; omega)]
            rfl
        · rw [if_neg (fun h => hd h.1)]
          rcases hu : Lib.parseUintM 18446744073709551615 0 (c :: r) with u | _ | _
          · exact absurd hu (uintM_not _ 0 hd u)
          · rfl
          · rfl
theorem short_of {l : List Int} {b : Nat} (hd : Dig l) (hn : Norm l) (h : val l < 10000 ^ b) : l.length ≤ b := by
  by_cases hne : l = []
  · rw [hne]; simp
  · have h1 := norm_lower hd hn hne
    apply Nat.le_of_not_lt
    intro hlt
    have h3 := pow_le' (show b ≤ l.length - 1 by omega)
    omega
def wholeV (neg : Bool) (l : List UInt8) : Int × Int × ByteArray := if l = [] then none3 else if inR (if neg = true then -(dval 0 l : Int) else (dval 0 l : Int)) then num3 (if neg = true then -(dval 0 l : Int) else (dval 0 l : Int)) else none3
theorem wholeV_neg {l : List UInt8} (h : l ≠ []) : wholeV true l = if inR (-(dval 0 l : Int)) then num3 (-(dval 0 l : Int)) else none3 := by
  unfold wholeV
  rw [if_neg h]
  simp only [if_true]
theorem wholeV_pos {l : List UInt8} (h : l ≠ []) : wholeV false l = if inR (dval 0 l : Int) then num3 (dval 0 l : Int) else none3 := by
  unfold wholeV
  rw [if_neg h]
  simp only [Bool.false_eq_true, if_false]
theorem null_f : relstoreref_null.f = some none3 := rfl
theorem toList_nil {s : ByteArray} : s.toList = ([] : List UInt8) ↔ s.data.toList = [] := by rw [Lib.toList_data]
theorem whole_l0 (s d : ByteArray) (hsz : d.size ≤ 1999999) : ∀ (Y X : List UInt8), d.data.toList = X ++ Y → (∀ c ∈ X, dig c) → ∀ l, Dig l → Norm l → val l = (dval 0 X : Int) →
    Ev (fun k => relstoreref_whole.l0 k s d (X.length : Int) false l) (if ∀ c ∈ Y, dig c then wholeV (decide (d.size < s.size)) (X ++ Y) else none3)
  | [], X, hX, hd, l, dl, nl, vl => by
    have hs := size_in hX
    rw [if_pos (fun c hc => by cases hc)]
    simp only [List.append_nil] at hs hX ⊢
    have hlen : l.length ≤ X.length := short_of dl nl (by rw [vl]; exact dval_lt X hd)
    by_cases h0 : X = []
    · refine Ev.step (f := fun k => (relstoreref_null.f).bind fun bt303 => (some (bt303.1, bt303.2.1, bt303.2.2))) (fun k => ?_) (Ev.const (by rw [null_f]; simp [wholeV, h0]))
      simp only [relstoreref_whole.l0]
      rw [if_neg (by omega), if_pos (by rw [toList_nil, hX, h0])]
    · have hv : Long (decide (d.size < s.size)) l (if decide (d.size < s.size) = true then -(dval 0 X : Int) else (dval 0 X : Int)) 2000016 := ⟨dl, nl, by unfold sv; rw [vl], by omega⟩
      have he := value_is hv
      refine Ev.step (f := fun k => (relstoreref_long_value.f k (decide (d.size < s.size)) l).bind fun bt306 => (some (bt306.1, bt306.2.1, bt306.2.2))) (fun k => ?_) (Ev.bind he (Ev.const ?_))
      · simp only [relstoreref_whole.l0]
        rw [if_neg (by omega), if_neg (by rw [toList_nil, hX]; exact h0)]
        have : decide ((d.size : Int) < (s.size : Int)) = decide (d.size < s.size) := decide_eq_decide.2 (by omega)
        rw [this]
      · unfold wholeV
        rw [if_neg h0]
  | c :: Y, X, hX, hd, l, dl, nl, vl => by
    have hs := size_in hX
    rw [List.length_append, List.length_cons] at hs
    have hb : bt d (X.length : Int) = (c.toNat : Int) := bt_in hX
    have hlen : l.length ≤ X.length := short_of dl nl (by rw [vl]; exact dval_lt X hd)
    by_cases hc : dig c
    · have hc' := hc
      unfold dig at hc'
      obtain ⟨t, ht, tL⟩ := longOf_long 10 (by decide) (by decide)
      obtain ⟨u, hu, uL⟩ := longOf_long ((c.toNat : Int) - 48) (by omega) (by omega)
      have e10 : decide ((10 : Int) < 0) = false := by decide
      have ec : decide ((c.toNat : Int) - 48 < 0) = false := decide_eq_false (by omega)
      rw [e10] at ht tL
      rw [ec] at hu uL
      obtain ⟨p, hp, pL⟩ := times_is (ma := false) (mb := false) (la := l) (x := (dval 0 X : Int)) ⟨dl, nl, by unfold sv; rw [vl]; rfl, by omega⟩ tL
      have hsum : val p = (dval 0 X : Int) * 10 := by have := pL.is; unfold sv at this; simpa using this
      have hu' : val u = (c.toNat : Int) - 48 := by have := uL.is; unfold sv at this; simpa using this
      have vp := val_bound pL.dig
      have vu := val_bound uL.dig
      have lp := pL.len
      have lu := uL.len
      obtain ⟨q, hq, q1, q2, q3, q4⟩ := joint_is (f := 1) pL.dig uL.dig (.inr (by omega)) (by omega) (by omega) (by omega)
      have hplus : Ev (fun k => relstoreref_long_plus.f k false p false u) (false, q) := Ev.ite_true (by rfl) (Ev.bind hq (Ev.now (false, q)))
      have hq' : val q = (dval 0 (X ++ [c]) : Int) := by rw [q3, hsum, hu', dval_snoc]; omega
      have ih := whole_l0 s d hsz Y (X ++ [c]) (by simp [hX]) (fun x hx => (List.mem_append.1 hx).elim (hd x) (fun h => by simp at h; subst h; exact hc)) q q1 q2 hq'
      have eL : ((X ++ [c]).length : Int) = (X.length : Int) + 1 := by simp
      rw [eL, List.append_assoc, List.singleton_append] at ih
      have eif : (∀ x ∈ c :: Y, dig x) ↔ (∀ x ∈ Y, dig x) := ⟨fun h x hx => h x (List.mem_cons_of_mem _ hx), fun h x hx => (List.mem_cons.1 hx).elim (fun e => e ▸ hc) (h x)⟩
      simp only [eif]
      refine Ev.step (f := fun k => relstoreref_whole.j3 k s d (X.length : Int) false false l) (fun k => ?_) (Ev.step (f := fun k => (relstoreref_longOf.f k 10).bind fun bt287 => ((relstoreref_long_times.f k false l bt287.1 bt287.2).bind fun bt291 => ((relstoreref_longOf.f k ((c.toNat : Int) - 48)).bind fun bt295 => ((relstoreref_long_plus.f k bt291.1 bt291.2 bt295.1 bt295.2).bind fun bt299 => (relstoreref_whole.l0 k s d ((X.length : Int) + 1) bt299.1 bt299.2))))) (fun k => ?_) (Ev.bind ht (Ev.bind hp (Ev.bind hu (Ev.bind hplus ih)))))
      · simp only [relstoreref_whole.l0]
        rw [if_pos (by omega), if_pos (by omega), hb, if_neg (by omega)]
        have : decide ((c.toNat : Int) > 57) = false := decide_eq_false (by omega)
        rw [this]
      · simp only [relstoreref_whole.j3]
        rw [if_neg (by decide), hb, w64 (by omega) (by omega)]
        have : ((c.toNat : Int) - 48) % 256 = (c.toNat : Int) - 48 := by omega
        rw [this]
        simp only [if_pos (show (0 : Int) ≤ (X.length : Int) by omega), if_pos (show (X.length : Int) < (d.size : Int) by omega)]
    · rw [if_neg (fun h => hc (h c (by simp)))]
      unfold dig at hc
      refine Ev.step (f := fun k => relstoreref_whole.j3 k s d (X.length : Int) true false l) (fun k => ?_) (Ev.step (f := fun k => (relstoreref_null.f).bind fun bt284 => (some (bt284.1, bt284.2.1, bt284.2.2))) (fun k => ?_) (Ev.const rfl))
      · simp only [relstoreref_whole.l0]
        rw [if_pos (by omega), if_pos (by omega), hb]
        by_cases h1 : (c.toNat : Int) < 48
        · rw [if_pos h1]
        · rw [if_neg h1]
          have : decide ((c.toNat : Int) > 57) = true := decide_eq_true (by omega)
          rw [this]
      · simp only [relstoreref_whole.j3]
        rw [if_pos trivial]
theorem whole_j1 (s d : ByteArray) (hsz : d.size ≤ 1999999) : Ev (fun k => relstoreref_whole.j1 k s d) (if ∀ c ∈ d.data.toList, dig c then wholeV (decide (d.size < s.size)) d.data.toList else none3) :=
  Ev.step (f := fun k => relstoreref_whole.l0 k s d 0 false []) (fun k => by simp only [relstoreref_whole.j1]) (whole_l0 s d hsz d.data.toList [] rfl (fun c hc => by cases hc) [] (by simp [Dig]) (by simp [Norm]) rfl)
theorem whole_is (s : ByteArray) (hsz : s.size ≤ 1999999) : Ev (fun k => relstoreref_whole.f k s) (castS s.data.toList) := by
  unfold relstoreref_whole.f
  cases hl : s.data.toList with
  | nil =>
    have h := whole_j1 s s hsz
    rw [hl] at h
    refine Ev.ite_true (toList_nil.2 hl) (Ev.step (f := fun k => relstoreref_whole.j1 k s s) (fun k => ?_) ?_)
    · simp only [relstoreref_whole.j0]
      rw [if_neg (by decide)]
    · rw [if_pos (fun c hc => by cases hc)] at h
      exact h
  | cons c r =>
    have hs := size_in hl
    rw [List.length_cons] at hs
    have hb := bt_head hl
    refine Ev.ite_false (by rw [toList_nil, hl]; simp) (Ev.ite_true (by omega) ?_)
    rw [hb]
    by_cases h45 : c = 45
    · subst h45
      have ec : castS (45 :: r) = (if r ≠ [] ∧ (∀ d ∈ r, dig d) ∧ inR (-(dval 0 r : Int)) then num3 (-(dval 0 r : Int)) else none3) := by
        rw [castS_cons, if_pos rfl]
      rw [ec]
      have hd : (s.extract 1 s.size).data.toList = r := by rw [ByteArray.data_extract, Array.toList_extract, List.extract_eq_take_drop, hl, hs]; simp
      have h := whole_j1 s (s.extract 1 s.size) (by rw [ByteArray.size_extract]; omega)
      rw [hd] at h
      have hneg : decide ((s.extract 1 s.size).size < s.size) = true := decide_eq_true (by rw [ByteArray.size_extract]; omega)
      rw [hneg] at h
      refine Ev.step (f := fun k => relstoreref_whole.j1 k s (s.extract 1 s.size)) (fun k => ?_) ?_
      · simp only [relstoreref_whole.j0]
        rw [if_pos (by decide), if_pos (by omega)]
      · refine (congrArg (Ev _) ?_).mp h
        by_cases hr : r = []
        · subst hr
          rw [if_pos (fun c hc => by cases hc), if_neg (fun h => h.1 rfl)]
          rfl
        · rw [wholeV_neg hr]
          by_cases ha : ∀ d ∈ r, dig d
          · rw [if_pos ha]
            by_cases hi : inR (-(dval 0 r : Int))
            · rw [if_pos hi, if_pos ⟨hr, ha, hi⟩]
            · rw [if_neg hi, if_neg (fun h => hi h.2.2)]
          · rw [if_neg ha, if_neg (fun h => ha h.2.1)]
    · have ec : castS (c :: r) = (if (∀ d ∈ c :: r, dig d) ∧ inR (dval 0 (c :: r) : Int) then num3 (dval 0 (c :: r) : Int) else none3) := by rw [castS_cons, if_neg h45]
      rw [ec]
      have h := whole_j1 s s hsz
      have hneg : decide (s.size < s.size) = false := decide_eq_false (by omega)
      rw [hl, hneg] at h
      have e : ((c.toNat : Int) == 45) = false := beq_eq_false_iff_ne.2 (fun e => h45 ((u8_is c 45 (by decide)).1 e))
      rw [e]
      refine Ev.step (f := fun k => relstoreref_whole.j1 k s s) (fun k => ?_) ?_
      · simp only [relstoreref_whole.j0]
        rw [if_neg (by decide)]
      · refine (congrArg (Ev _) ?_).mp h
        rw [wholeV_pos (by simp)]
        by_cases ha : ∀ d ∈ c :: r, dig d
        · rw [if_pos ha]
          by_cases hi : inR (dval 0 (c :: r) : Int)
          · rw [if_pos hi, if_pos ⟨ha, hi⟩]
          · rw [if_neg hi, if_neg (fun h => hi h.2)]
        · rw [if_neg ha, if_neg (fun h => ha h.1)]
theorem u8_37 (x : UInt8) : ((x.toNat : Int) = 37) ↔ x = 37 := by
  constructor
  · intro h; apply UInt8.toNat_inj.1; show x.toNat = 37; omega
  · rintro rfl; rfl
theorem u8_95 (x : UInt8) : ((x.toNat : Int) = 95) ↔ x = 95 := by
  constructor
  · intro h; apply UInt8.toNat_inj.1; show x.toNat = 95; omega
  · rintro rfl; rfl
theorem like_l1 (p : ByteArray) (hp : p.size ≤ 4611686018427387904) : ∀ (R Q : List UInt8), p.data.toList = Q ++ R → ∃ n r, value_like.l1 n p (Q.length : Int) = some r ∧ (r = true ↔ G R [])
  | [], Q, h => by
    have hs := size_in h
    simp at hs
    refine ⟨1, true, ?_, by simp [G]⟩
    simp only [value_like.l1]
    rw [if_neg (by omega), hs]
    simp
  | c :: R, Q, h => by
    have hs := size_in h
    simp at hs
    by_cases hc : c = 37
    · subst hc
      obtain ⟨n, r, hr, hg⟩ := like_l1 p hp R (Q ++ [37]) (by simp [h])
      refine ⟨n + 1, r, ?_, ?_⟩
      · simp only [value_like.l1]
        rw [if_pos (by omega), if_pos (by omega), bt_in h, if_pos (by decide), w64 (by omega) (by omega)]
        simpa using hr
      · rw [hg, G_nil_right, G_nil_right]; simp
    · refine ⟨1, false, ?_, ?_⟩
      · simp only [value_like.l1]
        rw [if_pos (by omega), if_pos (by omega), bt_in h, if_neg (by rw [u8_37]; exact hc)]
        have : ((Q.length : Int) == (p.size : Int)) = false := beq_eq_false_iff_ne.2 (by omega)
        rw [this]
      · rw [G_nil_right]; simp [hc]
theorem like_eat (s p : ByteArray) (hs : s.size ≤ 4611686018427387904) (hp : p.size ≤ 4611686018427387904) {X Y Q R : List UInt8} {x c : UInt8} (h1 : s.data.toList = X ++ x :: Y) (h2 : p.data.toList = Q ++ c :: R)
    (hc : c ≠ 37) (hx : c = 95 ∨ c = x) (st fr : Int) (n : Nat) : value_like.l0 (n + 3) s p (X.length : Int) (Q.length : Int) st fr = value_like.l0 n s p ((X ++ [x]).length : Int) ((Q ++ [c]).length : Int) st fr := by
  have z1 := size_in h1
  have z2 := size_in h2
  simp at z1 z2
  rw [show value_like.l0 (n + 3) = value_like.l0 (n + 2 + 1) from rfl]
  simp only [value_like.l0]
  rw [if_pos (by omega), if_pos (by omega), if_pos (by omega), bt_in h2, beq_dec (u8_37 c), decide_eq_false hc]
  rw [show n + 2 = n + 1 + 1 from rfl]
  simp only [value_like.j1]
  rw [if_neg (by decide), if_pos (by omega), if_pos (by omega), bt_in h2, bt_in h1]
  have key : ∀ b, b = true → value_like.j2 (n + 1) s p (X.length : Int) (Q.length : Int) st fr b = value_like.l0 n s p ((X ++ [x]).length : Int) ((Q ++ [c]).length : Int) st fr := by
    rintro b rfl
    simp only [value_like.j2]
    rw [if_pos trivial, w64 (by omega) (by omega), w64 (by omega) (by omega)]
    simp
  by_cases h95 : c = 95
  · rw [if_pos (by rw [u8_95]; exact h95)]
    exact key _ rfl
  · rw [if_neg (by rw [u8_95]; exact h95), if_pos (by omega), if_pos (by omega)]
    refine key _ ?_
    rw [beq_dec (u8_eq c x)]
    rcases hx with hx | hx
    · exact absurd hx h95
    · exact decide_eq_true hx
theorem like_star (s p : ByteArray) (hs : s.size ≤ 4611686018427387904) (hp : p.size ≤ 4611686018427387904) {X Y Q R : List UInt8} {x : UInt8} (h1 : s.data.toList = X ++ x :: Y) (h2 : p.data.toList = Q ++ 37 :: R)
    (st fr : Int) (n : Nat) : value_like.l0 (n + 2) s p (X.length : Int) (Q.length : Int) st fr = value_like.l0 n s p (X.length : Int) ((Q ++ [37]).length : Int) (Q.length : Int) (X.length : Int) := by
  have z1 := size_in h1
  have z2 := size_in h2
  simp at z1 z2
  rw [show n + 2 = n + 1 + 1 from rfl]
  simp only [value_like.l0]
  rw [if_pos (by omega), if_pos (by omega), if_pos (by omega), bt_in h2]
  have : (((37 : UInt8).toNat : Int) == 37) = true := rfl
  rw [this]
  simp only [value_like.j1]
  rw [if_pos trivial, w64 (by omega) (by omega)]
  simp
theorem like_miss (s p : ByteArray) (hs : s.size ≤ 4611686018427387904) (hp : p.size ≤ 4611686018427387904) {X Y Q R : List UInt8} {x : UInt8} (h1 : s.data.toList = X ++ x :: Y) (h2 : p.data.toList = Q ++ R)
    (hR : R = [] ∨ ∃ c q, R = c :: q ∧ c ≠ 37 ∧ c ≠ 95 ∧ c ≠ x) (st fr : Int) (n : Nat) :
    value_like.l0 (n + 3) s p (X.length : Int) (Q.length : Int) st fr = if st ≥ 0 then value_like.l0 n s p (wrap64 (fr + 1)) (wrap64 (st + 1)) st (wrap64 (fr + 1)) else some false := by
  have z1 := size_in h1
  have z2 := size_in h2
  simp at z1 z2
  rw [show value_like.l0 (n + 3) = value_like.l0 (n + 2 + 1) from rfl]
  simp only [value_like.l0]
  rw [if_pos (by omega)]
  have key : ∀ b, b = false → value_like.j2 (n + 1) s p (X.length : Int) (Q.length : Int) st fr b = if st ≥ 0 then value_like.l0 n s p (wrap64 (fr + 1)) (wrap64 (st + 1)) st (wrap64 (fr + 1)) else some false := by
    rintro b rfl
    simp only [value_like.j2]
    rw [if_neg (by decide)]
  rcases hR with rfl | ⟨c, q, rfl, hc, h95, hx⟩
  · simp at z2
    rw [if_neg (by omega)]
    rw [show n + 2 = n + 1 + 1 from rfl]
    simp only [value_like.j1]
    rw [if_neg (by decide), if_neg (by omega)]
    exact key _ rfl
  · simp at z2
    rw [if_pos (by omega), if_pos (by omega), bt_in h2, beq_dec (u8_37 c), decide_eq_false hc]
    rw [show n + 2 = n + 1 + 1 from rfl]
    simp only [value_like.j1]
    rw [if_neg (by decide), if_pos (by omega), if_pos (by omega), bt_in h2, bt_in h1, if_neg (by rw [u8_95]; exact h95), if_pos (by omega), if_pos (by omega)]
    refine key _ ?_
    rw [beq_dec (u8_eq c x)]
    exact decide_eq_false hx
theorem like_out (s p : ByteArray) {X Q : List UInt8} (h1 : s.data.toList = X) (st fr : Int) (n : Nat) : value_like.l0 (n + 1) s p (X.length : Int) (Q.length : Int) st fr = value_like.l1 n p (Q.length : Int) := by
  have z1 := size_in h1
  simp only [value_like.l0]
  rw [if_neg (by omega)]
theorem like_B (s p : ByteArray) (hs : s.size ≤ 4611686018427387904) (hp : p.size ≤ 4611686018427387904) : ∀ (m m2 : Nat) (P0 S0 U R A T : List UInt8), (A ++ T).length = m → T.length + R.length = m2 →
    p.data.toList = P0 ++ 37 :: (U ++ R) → s.data.toList = S0 ++ (A ++ T) → Seg U A →
    ∃ n r, value_like.l0 n s p ((S0 ++ A).length : Int) ((P0 ++ 37 :: U).length : Int) (P0.length : Int) (S0.length : Int) = some r ∧ (r = true ↔ G (37 :: (U ++ R)) (A ++ T)) := by
  intro m
  induction m using Nat.strongRecOn with
  | _ m ihm =>
  intro m2
  induction m2 using Nat.strongRecOn with
  | _ m2 ih2 =>
  intro P0 S0 U R A T hm hm2 h2 h1 hseg
  cases T with
  | nil =>
    obtain ⟨n, r, hr, hg⟩ := like_l1 p hp R (P0 ++ 37 :: U) (by rw [h2]; simp)
    refine ⟨n + 1, r, ?_, ?_⟩
    · rw [like_out s p (X := S0 ++ A) (by rw [h1]; simp)]
      exact hr
    · rw [hg, List.append_nil, G_end R hseg]
  | cons x T =>
    have e1 : s.data.toList = (S0 ++ A) ++ x :: T := by rw [h1]; simp
    have e2 : p.data.toList = (P0 ++ 37 :: U) ++ R := by rw [h2]; simp
    have miss : (R = [] ∨ ∃ c q, R = c :: q ∧ c ≠ 37 ∧ c ≠ 95 ∧ c ≠ x) → ∃ n r, value_like.l0 n s p ((S0 ++ A).length : Int) ((P0 ++ 37 :: U).length : Int) (P0.length : Int) (S0.length : Int) = some r ∧ (r = true ↔ G (37 :: (U ++ R)) (A ++ x :: T)) := by
      intro hR
      obtain ⟨y, Z, hy⟩ : ∃ y Z, A ++ x :: T = y :: Z := by cases A <;> simp
      have hno := G_not R x T hseg hR
      have hZ : Z.length < m := by rw [← hm, hy]; simp
      obtain ⟨n, r, hr, hg⟩ := ihm Z.length hZ (Z.length + (U ++ R).length) P0 (S0 ++ [y]) [] (U ++ R) [] Z rfl rfl (by rw [h2]; rfl) (by rw [h1, hy]; simp) trivial
      have z1 := size_in h1
      have z2 := size_in h2
      simp at z1 z2
      refine ⟨n + 3, r, ?_, ?_⟩
      · rw [like_miss s p hs hp e1 e2 hR, if_pos (by omega), w64 (by omega) (by omega), w64 (by omega) (by omega)]
        simpa using hr
      · rw [hg, hy]
        rw [hy] at hno
        exact (G_skip hno).symm
    cases R with
    | nil => exact miss (.inl rfl)
    | cons c R =>
      by_cases hc : c = 37
      · subst hc
        have hlen : (x :: T).length ≤ m := by rw [← hm]; simp
        rcases Nat.lt_or_ge (x :: T).length m with hlt | hge
        · obtain ⟨n, r, hr, hg⟩ := ihm (x :: T).length hlt ((x :: T).length + R.length) (P0 ++ 37 :: U) (S0 ++ A) [] R [] (x :: T) rfl rfl (by rw [h2]; simp) (by rw [h1]; simp) trivial
          refine ⟨n + 2, r, ?_, ?_⟩
          · rw [like_star s p hs hp e1 e2]
            simpa using hr
          · rw [hg, G_next R (x :: T) hseg]; rfl
        · have hA : A = [] := by
            have : A.length = 0 := by rw [← hm, List.length_append] at hge; omega
            exact List.eq_nil_of_length_eq_zero this
          obtain ⟨n, r, hr, hg⟩ := ih2 ((x :: T).length + R.length) (by rw [← hm2]; simp) (P0 ++ 37 :: U) (S0 ++ A) [] R [] (x :: T) (by rw [← hm, hA]) rfl (by rw [h2]; simp) (by rw [h1]; simp) trivial
          refine ⟨n + 2, r, ?_, ?_⟩
          · rw [like_star s p hs hp e1 e2]
            simpa using hr
          · rw [hg, G_next R (x :: T) hseg]; rfl
      · by_cases hx : c = 95 ∨ c = x
        · obtain ⟨n, r, hr, hg⟩ := ih2 (T.length + R.length) (by rw [← hm2]; simp; omega) P0 S0 (U ++ [c]) R (A ++ [x]) T (by rw [← hm]; simp) rfl (by rw [h2]; simp) (by rw [h1]; simp) (Seg_snoc hseg hc hx)
          refine ⟨n + 3, r, ?_, ?_⟩
          · rw [like_eat s p hs hp e1 e2 hc hx]
            simpa using hr
          · rw [hg]; simp
        · exact miss (.inr ⟨c, R, rfl, hc, fun e => hx (.inl e), fun e => hx (.inr e)⟩)
theorem like_A (s p : ByteArray) (hs : s.size ≤ 4611686018427387904) (hp : p.size ≤ 4611686018427387904) : ∀ (T R S0 P0 : List UInt8), p.data.toList = P0 ++ R → s.data.toList = S0 ++ T →
    ∃ n r, value_like.l0 n s p (S0.length : Int) (P0.length : Int) (-1) 0 = some r ∧ (r = true ↔ G R T)
  | [], R, S0, P0, h2, h1 => by
    obtain ⟨n, r, hr, hg⟩ := like_l1 p hp R P0 h2
    exact ⟨n + 1, r, by rw [like_out s p (X := S0) (by rw [h1]; simp)]; exact hr, hg⟩
  | x :: T, [], S0, P0, h2, h1 => ⟨3, false, by rw [like_miss s p hs hp h1 h2 (.inl rfl) (-1) 0 0]; rfl, by simp [G]⟩
  | x :: T, c :: R, S0, P0, h2, h1 => by
    by_cases hc : c = 37
    · subst hc
      obtain ⟨n, r, hr, hg⟩ := like_B s p hs hp _ _ P0 S0 [] R [] (x :: T) rfl rfl h2 h1 trivial
      refine ⟨n + 2, r, ?_, hg⟩
      rw [like_star s p hs hp h1 h2]
      simpa using hr
    · by_cases hx : c = 95 ∨ c = x
      · obtain ⟨n, r, hr, hg⟩ := like_A s p hs hp T R (S0 ++ [x]) (P0 ++ [c]) (by rw [h2]; simp) (by rw [h1]; simp)
        refine ⟨n + 3, r, ?_, ?_⟩
        · rw [like_eat s p hs hp h1 h2 hc hx]
          exact hr
        · rw [hg, G_one hc]
          constructor
          · exact fun k => ⟨x, T, rfl, hx, k⟩
          · rintro ⟨y, z, e, _, k⟩
            simp at e
            exact e.2 ▸ k
      · have hR : c :: R = [] ∨ ∃ d q, c :: R = d :: q ∧ d ≠ 37 ∧ d ≠ 95 ∧ d ≠ x := .inr ⟨c, R, rfl, hc, fun e => hx (.inl e), fun e => hx (.inr e)⟩
        refine ⟨3, false, by rw [like_miss s p hs hp h1 h2 hR (-1) 0 0]; rfl, ?_⟩
        have := G_not (u := []) (a := []) (c :: R) x T trivial hR
        simpa using this
theorem like_is (s p : ByteArray) (hs : s.size ≤ 4611686018427387904) (hp : p.size ≤ 4611686018427387904) : ∃ r, Ev (fun k => value_like.f k s p) r ∧ (r = true ↔ G p.data.toList s.data.toList) := by
  obtain ⟨n, r, hr, hg⟩ := like_A s p hs hp s.data.toList p.data.toList [] [] rfl rfl
  exact ⟨r, Ev.of (g := fun k => value_like.f k s p) (fun k => value_like.mono s p k) (k := n) hr, hg⟩
def anyB (F : Nat → Bool) : Nat → Bool
  | 0 => false
  | i + 1 => anyB F i || F i
theorem anyB_iff (F : Nat → Bool) : ∀ i, anyB F i = true ↔ ∃ t, t < i ∧ F t = true
  | 0 => by simp [anyB]
  | i + 1 => by
    simp only [anyB, Bool.or_eq_true, anyB_iff F i]
    constructor
    · rintro (⟨t, h1, h2⟩ | h)
      · exact ⟨t, by omega, h2⟩
      · exact ⟨i, by omega, h⟩
    · rintro ⟨t, h1, h2⟩
      by_cases e : t = i
      · subst e; exact .inr h2
      · exact .inl ⟨t, by omega, h2⟩
theorem w1 {i : Nat} (h : i ≤ 1048576) : wrap64 ((i : Int) + 1) = ((i + 1 : Nat) : Int) := by rw [w64 (by omega) (by omega)]; simp
def mt (c x : UInt8) : Bool := decide (c = 95) || decide (c = x)
def NV (c : UInt8) (S : List UInt8) (F : Nat → Bool) (i j : Nat) : Bool :=
  if c = 37 then (if j < i then anyB F (j + 1) else false) else (if 1 ≤ j ∧ j ≤ i then (F (j - 1) && mt c (S.getD (j - 1) 0)) else false)
theorem getD_set (l : List Bool) (i j : Nat) (v : Bool) (hi : i < l.length) : (l.set i v).getD j false = if i = j then v else l.getD j false := by
  rw [List.getD_eq_getElem?_getD, List.getElem?_set]
  by_cases h : i = j
  · rw [if_pos h, if_pos h, if_pos hi]; rfl
  · rw [if_neg h, if_neg h, List.getD_eq_getElem?_getD]
def Res (g : Nat → Option (Int × Int × ByteArray)) (p s : List UInt8) : Prop := ∃ r : Bool, Ev g (1, if r = true then 1 else 0, ⟨#[]⟩) ∧ (r = true ↔ G p s)
theorem Res.step {g f : Nat → Option (Int × Int × ByteArray)} {p s : List UInt8} (h : ∀ k, g (k + 1) = f k) (k : Res f p s) : Res g p s := by
  obtain ⟨r, h1, h2⟩ := k
  exact ⟨r, Ev.step h h1, h2⟩
theorem bt_getD (s : ByteArray) (i : Nat) (h : i < s.size) : bt s (i : Int) = ((s.data.toList.getD i 0).toNat : Int) := by
  have hl : i < s.data.toList.length := by rw [Array.length_toList]; exact h
  have e : s.data.toList = s.data.toList.take i ++ s.data.toList.getD i 0 :: s.data.toList.drop (i + 1) := by
    rw [List.getD_eq_getElem?_getD, List.getElem?_eq_getElem hl]
    show _ = _ ++ s.data.toList[i] :: _
    rw [← List.drop_eq_getElem_cons hl, List.take_append_drop]
  have := bt_in e
  rw [List.length_take, Nat.min_eq_left (by omega)] at this
  exact this
section
variable (s p : ByteArray) (a0 a1 b0 b1 : Int) (hs : s.size ≤ 1048576) (hp : p.size ≤ 1048576)
include hs hp
theorem Like_l1 {c : UInt8} {P P' : List UInt8} (hP : p.data.toList = P ++ c :: P') (F : Nat → Bool) (at_ : List Bool) (hat : at_.length = s.size + 1) (hF : ∀ j, j ≤ s.size → at_.getD j false = F j)
    (hk : ∀ nx : List Bool, nx.length = s.size + 1 → (∀ j, j ≤ s.size → nx.getD j false = NV c s.data.toList F (s.size + 1) j) → Res (fun k => relstoreref_Like.l0 k nx ((P.length : Int) + 1) a0 a1 s b0 b1 p) p.data.toList s.data.toList) :
    ∀ (m i : Nat), i + m = s.size + 1 → ∀ nx : List Bool, nx.length = s.size + 1 → (∀ j, j ≤ s.size → nx.getD j false = NV c s.data.toList F i j) →
      Res (fun k => relstoreref_Like.l1 k at_ (P.length : Int) nx (anyB F i) (at_.length : Int) (i : Int) a0 a1 s b0 b1 p) p.data.toList s.data.toList := by
  have hps := size_in hP
  rw [List.length_append, List.length_cons] at hps
  have hb : bt p (P.length : Int) = (c.toNat : Int) := bt_in hP
  intro m
  induction m with
  | zero =>
    intro i hi nx hl hn
    obtain rfl : i = s.size + 1 := by omega
    refine Res.step (f := fun k => relstoreref_Like.l0 k nx ((P.length : Int) + 1) a0 a1 s b0 b1 p) (fun k => ?_) (hk nx hl hn)
    simp only [relstoreref_Like.l1]
    rw [if_neg (by omega), w64 (by omega) (by omega)]
  | succ m ih =>
    intro i hi nx hl hn
    have hi' : i ≤ s.size := by omega
    have hi2 : i ≤ 1048576 := by omega
    have rdi : rdOf false at_ (i : Int) = F i := by rw [← hF i hi']; simp [rdOf]
    have enter : ∀ k, relstoreref_Like.l1 (k + 1) at_ (P.length : Int) nx (anyB F i) (at_.length : Int) (i : Int) a0 a1 s b0 b1 p = relstoreref_Like.j3 k at_ (P.length : Int) nx (anyB F (i + 1)) (i : Int) (at_.length : Int) (i : Int) a0 a1 s b0 b1 p := by
      intro k
      simp only [relstoreref_Like.l1, anyB]
      rw [if_pos (by omega), if_pos (show (0 : Int) ≤ (i : Int) by omega), if_pos (show (i : Int) < (at_.length : Int) by omega), rdi]
      cases anyB F i
      · rw [if_neg (by decide), Bool.false_or]
      · rw [if_pos rfl, Bool.true_or]
    refine Res.step enter ?_
    by_cases h37 : c = 37
    · have hset : ∀ j, j ≤ s.size → (nx.set i (anyB F (i + 1))).getD j false = NV c s.data.toList F (i + 1) j := by
        intro j hj
        rw [getD_set _ _ _ _ (by omega), hn j hj]
        unfold NV
        rw [if_pos h37, if_pos h37]
        by_cases e : i = j
        · subst e; rw [if_pos rfl, if_pos (by omega)]
        · rw [if_neg e]
          by_cases hlt : j < i
          · rw [if_pos hlt, if_pos (by omega)]
          · rw [if_neg hlt, if_neg (by omega)]
      refine Res.step (fun k => ?_) (ih (i + 1) (by omega) (nx.set i (anyB F (i + 1))) (by rw [List.length_set]; exact hl) hset)
      simp only [relstoreref_Like.j3]
      rw [if_pos (by omega), if_pos (by omega), hb, if_pos (by rw [h37]; rfl), if_pos (by omega), if_pos (by omega), w1 hi2, Int.toNat_natCast]
    · have hb37 : ¬ ((c.toNat : Int) = 37) := fun e => h37 ((u8_is c 37 (by decide)).1 e)
      have go : ∀ k, relstoreref_Like.j3 (k + 1) at_ (P.length : Int) nx (anyB F (i + 1)) (i : Int) (at_.length : Int) (i : Int) a0 a1 s b0 b1 p = relstoreref_Like.l1 k at_ (P.length : Int) (if F i = true ∧ i < s.size ∧ mt c (s.data.toList.getD i 0) = true then nx.set (i + 1) true else nx) (anyB F (i + 1)) (at_.length : Int) ((i + 1 : Nat) : Int) a0 a1 s b0 b1 p := by
        intro k
        simp only [relstoreref_Like.j3]
        rw [if_pos (by omega), if_pos (by omega), hb, if_neg hb37, if_pos (by omega), if_pos (by omega), rdi]
        by_cases hFi : F i = true
        · rw [if_pos hFi]
          by_cases hlt : i < s.size
          · rw [if_pos (by omega), bt_getD s i hlt]
            by_cases h95 : c = 95
            · have hm : mt c (s.data.toList.getD i 0) = true := by unfold mt; rw [decide_eq_true h95]; rfl
              rw [if_pos (by rw [h95]; rfl), w1 hi2, if_pos (by omega), if_pos (by omega), if_pos ⟨hFi, hlt, hm⟩, Int.toNat_natCast]
            · rw [if_neg (show ¬ ((c.toNat : Int) = 95) from fun e => h95 ((u8_is c 95 (by decide)).1 e))]
              by_cases hx : c = s.data.toList.getD i 0
              · have hm : mt c (s.data.toList.getD i 0) = true := by unfold mt; rw [decide_eq_true hx]; simp
                rw [if_pos ((u8_eq _ _).2 hx), w1 hi2, if_pos (by omega), if_pos (by omega), if_pos ⟨hFi, hlt, hm⟩, Int.toNat_natCast]
              · have hm : ¬ mt c (s.data.toList.getD i 0) = true := by unfold mt; rw [decide_eq_false hx, decide_eq_false h95]; decide
                rw [if_neg (fun e => hx ((u8_eq _ _).1 e)), if_neg (fun h => hm h.2.2), w1 hi2]
          · rw [if_neg (by omega), if_neg (fun h => hlt h.2.1), w1 hi2]
        · rw [if_neg hFi, if_neg (fun h => hFi h.1), w1 hi2]
      refine Res.step go ?_
      refine ih (i + 1) (by omega) _ ?_ ?_
      · split
        · rw [List.length_set]; exact hl
        · exact hl
      · intro j hj
        have hnj := hn j hj
        unfold NV at hnj ⊢
        rw [if_neg h37] at hnj ⊢
        by_cases hc : F i = true ∧ i < s.size ∧ mt c (s.data.toList.getD i 0) = true
        · rw [if_pos hc, getD_set _ _ _ _ (by omega), hnj]
          by_cases e : i + 1 = j
          · subst e
            rw [if_pos rfl, if_pos (by omega), Nat.add_sub_cancel, hc.1, hc.2.2]; rfl
          · rw [if_neg e]
            by_cases hlt : 1 ≤ j ∧ j ≤ i
            · rw [if_pos hlt, if_pos (by omega)]
            · rw [if_neg hlt, if_neg (by omega)]
        · rw [if_neg hc, hnj]
          by_cases e : i + 1 = j
          · subst e
            rw [if_neg (by omega), if_pos (by omega), Nat.add_sub_cancel]
            by_cases hFi : F i = true
            · have hm : ¬ mt c (s.data.toList.getD i 0) = true := fun hm => hc ⟨hFi, by omega, hm⟩
              rw [Bool.not_eq_true] at hm
              rw [hm, Bool.and_false]
            · rw [Bool.not_eq_true] at hFi
              rw [hFi]; rfl
          · by_cases hlt : 1 ≤ j ∧ j ≤ i
            · rw [if_pos hlt, if_pos (by omega)]
            · rw [if_neg hlt, if_neg (by omega)]
omit hs hp in
theorem G_all (u : List UInt8) : G [37] u := (G_star [] u).2 ⟨u, [], by simp, rfl⟩
omit hs hp in
theorem G_snoc_star (P u : List UInt8) : G (P ++ [37]) u ↔ ∃ t, t ≤ u.length ∧ G P (u.take t) := by
  rw [G_append]
  constructor
  · rintro ⟨a, b, rfl, h, _⟩
    exact ⟨a.length, by simp, by simpa using h⟩
  · rintro ⟨t, _, h⟩
    exact ⟨u.take t, u.drop t, (List.take_append_drop t u).symm, h, G_all _⟩
omit hs hp in
theorem G_snoc_one {c : UInt8} (hc : c ≠ 37) (P u : List UInt8) : G (P ++ [c]) u ↔ ∃ v x, u = v ++ [x] ∧ (c = 95 ∨ c = x) ∧ G P v := by
  rw [G_append]
  constructor
  · rintro ⟨a, b, rfl, h, k⟩
    obtain ⟨x, t, rfl, hx, ht⟩ := (G_one hc _ _).1 k
    rw [G_nil] at ht
    subst ht
    exact ⟨a, x, rfl, hx, h⟩
  · rintro ⟨v, x, rfl, hx, h⟩
    exact ⟨v, [x], rfl, h, (G_one hc _ _).2 ⟨x, [], rfl, hx, rfl⟩⟩
omit hs hp in
theorem NV_is (c : UInt8) (P S : List UInt8) (F : Nat → Bool) (hF : ∀ j, j ≤ S.length → (F j = true ↔ G P (S.take j))) (j : Nat) (hj : j ≤ S.length) : NV c S F (S.length + 1) j = true ↔ G (P ++ [c]) (S.take j) := by
  unfold NV
  by_cases h37 : c = 37
  · subst h37
    rw [if_pos rfl, if_pos (by omega), anyB_iff, G_snoc_star]
    constructor
    · rintro ⟨t, h1, h2⟩
      refine ⟨t, by rw [List.length_take]; omega, ?_⟩
      rw [List.take_take, Nat.min_eq_left (by omega)]
      exact (hF t (by omega)).1 h2
    · rintro ⟨t, h1, h2⟩
      rw [List.length_take] at h1
      rw [List.take_take, Nat.min_eq_left (by omega)] at h2
      exact ⟨t, by omega, (hF t (by omega)).2 h2⟩
  · rw [if_neg h37, G_snoc_one h37]
    by_cases h0 : j = 0
    · subst h0
      rw [if_neg (by omega)]
      constructor
      · intro h; cases h
      · rintro ⟨v, x, h, _⟩
        rw [List.take_zero] at h
        exact absurd h.symm (by simp)
    · rw [if_pos (by omega), Bool.and_eq_true, hF (j - 1) (by omega)]
      have hlt : j - 1 < S.length := by omega
      have e : S.take j = S.take (j - 1) ++ [S.getD (j - 1) 0] := by
        obtain ⟨i, rfl⟩ : ∃ i, j = i + 1 := ⟨j - 1, by omega⟩
        rw [Nat.add_sub_cancel] at hlt ⊢
        rw [List.take_add_one, List.getElem?_eq_getElem hlt, List.getD_eq_getElem?_getD, List.getElem?_eq_getElem hlt]
        rfl
      have hm : mt c (S.getD (j - 1) 0) = true ↔ (c = 95 ∨ c = S.getD (j - 1) 0) := by unfold mt; simp
      rw [hm]
      constructor
      · rintro ⟨h1, h2⟩
        exact ⟨_, _, e, h2, h1⟩
      · rintro ⟨v, x, h1, h2, h3⟩
        rw [e] at h1
        obtain ⟨r1, r2⟩ := List.append_inj' h1 rfl
        simp only [List.cons.injEq, and_true] at r2
        rw [r1, r2]
        exact ⟨h3, h2⟩
theorem Like_l0 : ∀ (P' P : List UInt8), p.data.toList = P ++ P' → ∀ at_ : List Bool, at_.length = s.size + 1 → (∀ j, j ≤ s.size → (at_.getD j false = true ↔ G P (s.data.toList.take j))) →
    Res (fun k => relstoreref_Like.l0 k at_ (P.length : Int) a0 a1 s b0 b1 p) p.data.toList s.data.toList
  | [], P, hP, at_, hl, ha => by
    have hps := size_in hP
    rw [List.length_append, List.length_nil] at hps
    refine ⟨at_.getD s.size false, ?_, ?_⟩
    · refine Ev.step (f := fun k => (relstoreref_truth.f (at_.getD s.size false)).bind fun bt155 => (some (bt155.1, bt155.2.1, bt155.2.2))) (fun k => ?_) (Ev.const ?_)
      · simp only [relstoreref_Like.l0]
        rw [if_neg (by omega), if_pos (by omega), if_pos (by omega)]
        simp [rdOf]
      · cases at_.getD s.size false <;> rfl
    · have := ha s.size (Nat.le_refl _)
      rw [List.append_nil] at hP
      rw [← hP, List.take_of_length_le (by rw [Array.length_toList]; exact Nat.le_refl _)] at this
      exact this
  | c :: P', P, hP, at_, hl, ha => by
    have hps := size_in hP
    rw [List.length_append, List.length_cons] at hps
    have hsl : s.data.toList.length = s.size := Array.length_toList ..
    have h1 := Like_l1 s p a0 a1 b0 b1 hs hp hP (fun j => at_.getD j false) at_ hl (fun j _ => rfl) (fun nx n1 n2 => by
      have := Like_l0 P' (P ++ [c]) (by simp [hP]) nx n1 (fun j hj => by
        rw [n2 j hj, ← hsl]
        exact NV_is c P s.data.toList _ (fun i hi => ha i (by omega)) j (by omega))
      rw [show (((P ++ [c]).length : Nat) : Int) = (P.length : Int) + 1 by simp] at this
      exact this) (s.size + 1) 0 (by omega) (List.replicate (s.size + 1) false) (by simp) (fun j hj => by
        have e : (List.replicate (s.size + 1) false).getD j false = false := by
          rw [List.getD_eq_getElem?_getD, List.getElem?_replicate]
          split <;> rfl
        rw [e]
        unfold NV
        by_cases h37 : c = 37
        · rw [if_pos h37, if_neg (by omega)]
        · rw [if_neg h37, if_neg (by omega)])
    refine Res.step (fun k => ?_) h1
    simp only [relstoreref_Like.l0]
    rw [if_pos (by omega), w1 hs, if_pos (by omega), Int.toNat_natCast, if_pos (by omega)]
    rfl
theorem rLike_is : Res (fun k => relstoreref_Like.j0 k false a0 a1 s b0 b1 p) p.data.toList s.data.toList := by
  have h := Like_l0 s p a0 a1 b0 b1 hs hp p.data.toList [] rfl ((List.replicate (s.size + 1) false).set 0 true) (by simp) (fun j hj => by
    rw [getD_set _ _ _ _ (by simp), G_nil]
    have e : (List.replicate (s.size + 1) false).getD j false = false := by
      rw [List.getD_eq_getElem?_getD, List.getElem?_replicate]
      split <;> rfl
    rw [e]
    by_cases h0 : 0 = j
    · subst h0; simp
    · rw [if_neg h0]
      constructor
      · intro h; cases h
      · intro h
        have := congrArg List.length h
        rw [List.length_take, Array.length_toList, List.length_nil] at this
        have hsz : s.data.size = s.size := rfl
        omega)
  refine Res.step (fun k => ?_) h
  simp only [relstoreref_Like.j0]
  rw [if_neg (by decide), w1 hs, if_pos (by omega), Int.toNat_natCast, if_pos (by omega)]
  simp only [Option.bind_some]
  rw [if_pos (by simp)]
  rfl
end
def cl (a b : Int) (c : ByteArray) : Int × Int × ByteArray := if a = 1 then (1, if b = 0 then 0 else 1, ⟨#[]⟩) else if a = 2 then (2, b, ⟨#[]⟩) else if a = 3 then (3, 0, c) else (0, 0, ⟨#[]⟩)
theorem clean_is (a b : Int) (c : ByteArray) : value_Clean.f a b c = some (cl a b c) := by
  unfold value_Clean.f value_Flag.f value_Of.f value_Str.f value_None.f cl
  by_cases h1 : a = 1
  · rw [if_pos h1, if_pos h1]
    by_cases h : b = 0
    · have : (b != 0) = false := by simp [h]
      rw [this, if_pos h]; rfl
    · have : (b != 0) = true := by simp [h]
      rw [this, if_neg h]; rfl
  · rw [if_neg h1, if_neg h1]
    by_cases h2 : a = 2
    · rw [if_pos h2, if_pos h2]; rfl
    · rw [if_neg h2, if_neg h2]
      by_cases h3 : a = 3
      · rw [if_pos h3, if_pos h3]; rfl
      · rw [if_neg h3, if_neg h3]; rfl
theorem rclean_is (a b : Int) (c : ByteArray) : relstoreref_Clean.f a b c = some (cl a b c) := (rfl : relstoreref_Clean.f a b c = value_Clean.f a b c).trans (clean_is a b c)
theorem cl_cases (a b : Int) (c : ByteArray) (hb : inR b) : ∃ x y z, cl a b c = (x, y, z) ∧ inR y ∧ (z.size ≤ c.size) ∧ (x = 0 ∧ y = 0 ∧ z = ⟨#[]⟩ ∨ x = 1 ∧ (y = 0 ∨ y = 1) ∧ z = ⟨#[]⟩ ∨ x = 2 ∧ z = ⟨#[]⟩ ∨ x = 3 ∧ y = 0) := by
  have h0 : inR 0 := by decide
  have h1 : inR 1 := by decide
  unfold cl
  split
  · split
    · exact ⟨_, _, _, rfl, h0, Nat.zero_le _, .inr (.inl ⟨rfl, .inl rfl, rfl⟩)⟩
    · exact ⟨_, _, _, rfl, h1, Nat.zero_le _, .inr (.inl ⟨rfl, .inr rfl, rfl⟩)⟩
  · split
    · exact ⟨_, _, _, rfl, hb, Nat.zero_le _, .inr (.inr (.inl ⟨rfl, rfl⟩))⟩
    · split
      · exact ⟨_, _, _, rfl, h0, Nat.le_refl _, .inr (.inr (.inr ⟨rfl, rfl⟩))⟩
      · exact ⟨_, _, _, rfl, h0, Nat.zero_le _, .inl ⟨rfl, rfl, rfl⟩⟩
def showS (x y : Int) (z : ByteArray) : ByteArray := if x = 1 then (if y = 1 then ⟨#[116, 114, 117, 101]⟩ else ⟨#[102, 97, 108, 115, 101]⟩) else if x = 2 then ⟨(Lib.itoa y).toArray⟩ else if x = 3 then z else ⟨#[110, 117, 108, 108]⟩
def showV (v : Int × Int × ByteArray) : ByteArray := showS v.1 v.2.1 v.2.2
theorem format_is (y : Int) (h : inR y) : strconv_FormatInt.f y 10 = some ⟨(Lib.itoa y).toArray⟩ := by
  unfold strconv_FormatInt.f
  unfold inR at h
  rw [if_pos ⟨rfl, h.1, h.2⟩]
theorem show_is (a b : Int) (c : ByteArray) (hb : inR b) : value_Show.f a b c = some (showV (cl a b c)) := by
  unfold value_Show.f
  rw [clean_is]
  obtain ⟨x, y, z, e, hy, _, hx⟩ := cl_cases a b c hb
  rw [e]
  simp only [Option.bind_some, showV]
  unfold showS
  rcases hx with ⟨rfl, rfl, rfl⟩ | ⟨rfl, h, rfl⟩ | ⟨rfl, rfl⟩ | ⟨rfl, rfl⟩
  · rfl
  · rcases h with rfl | rfl <;> rfl
  · rw [if_neg (by decide), if_pos rfl, if_neg (by decide), if_pos rfl, format_is y hy]; rfl
  · rfl
theorem rshow_is (a b : Int) (c : ByteArray) (hb : inR b) : relstoreref_Show.f a b c = some (showV (cl a b c)) := by
  unfold relstoreref_Show.f
  rw [rclean_is]
  obtain ⟨x, y, z, e, hy, _, hx⟩ := cl_cases a b c hb
  rw [e]
  simp only [Option.bind_some, showV]
  unfold showS
  rcases hx with ⟨rfl, rfl, rfl⟩ | ⟨rfl, h, rfl⟩ | ⟨rfl, rfl⟩ | ⟨rfl, rfl⟩
  · rfl
  · rcases h with rfl | rfl <;> rfl
  · rw [if_neg (by decide), if_pos rfl, if_neg (by decide), if_pos rfl, format_is y hy]; rfl
  · rfl
def flagV (y : Int) : Int × Int × ByteArray := (1, if y = 0 then 0 else 1, ⟨#[]⟩)
theorem flag_is (y : Int) : value_Flag.f (y != 0) = some (flagV y) := by
  unfold value_Flag.f flagV
  by_cases h : y = 0
  · rw [show (y != 0) = false by simp [h], if_pos h]; rfl
  · rw [show (y != 0) = true by simp [h], if_neg h]; rfl
theorem truth_is (y : Int) : relstoreref_truth.f (y != 0) = some (flagV y) := (rfl : relstoreref_truth.f (y != 0) = value_Flag.f (y != 0)).trans (flag_is y)
def boolS (l : List UInt8) : Int × Int × ByteArray := if l = [116, 114, 117, 101] then (1, 1, ⟨#[]⟩) else if l = [102, 97, 108, 115, 101] then (1, 0, ⟨#[]⟩) else none3
def castV (x y : Int) (z : ByteArray) (k : Int) : Int × Int × ByteArray :=
  if x = 0 then none3 else if x = k then (x, y, z) else if k = 3 then (3, 0, showS x y z) else if k = 2 ∧ x = 1 then num3 y else if k = 1 ∧ x = 2 then flagV y
  else if k = 2 ∧ x = 3 then castS z.data.toList else if k = 1 ∧ x = 3 then boolS z.toList else none3
theorem cast_is (a b : Int) (c : ByteArray) (kd : Int) (hb : inR b) (hc : c.size ≤ 1048576) {x y : Int} {z : ByteArray} (e : cl a b c = (x, y, z)) : value_Cast.f a b c kd = some (castV x y z kd) := by
  obtain ⟨x', y', z', e', hy, hz, hx⟩ := cl_cases a b c hb
  rw [e] at e'
  obtain ⟨rfl, rfl, rfl⟩ : x = x' ∧ y = y' ∧ z = z' := by simpa using e'
  unfold value_Cast.f
  rw [clean_is, e]
  simp only [Option.bind_some]
  have h3 : (3 : Int) ≠ 2 ∧ (3 : Int) ≠ 1 := by decide
  by_cases h0 : x = 0
  · unfold castV
    rw [if_pos (.inl h0), if_pos h0]
    rcases hx with ⟨rfl, rfl, rfl⟩ | ⟨rfl, _⟩ | ⟨rfl, _⟩ | ⟨rfl, _⟩
    · rfl
    all_goals exact absurd h0 (by decide)
  by_cases hk : x = kd
  · unfold castV
    rw [if_pos (.inr hk), if_neg h0, if_pos hk]
  rw [if_neg (fun h => h.elim h0 hk)]
  unfold castV
  rw [if_neg h0, if_neg hk]
  by_cases k3 : kd = 3
  · rw [if_pos k3, if_pos k3, show_is x y z hy]
    have : showV (cl x y z) = showS x y z := by
      rcases hx with ⟨rfl, rfl, rfl⟩ | ⟨rfl, rfl | rfl, rfl⟩ | ⟨rfl, rfl⟩ | ⟨rfl, rfl⟩ <;> rfl
    rw [this]
    rfl
  rw [if_neg k3, if_neg k3]
  by_cases k1 : kd = 2 ∧ x = 1
  · rw [if_pos k1, if_pos k1]; rfl
  rw [if_neg k1, if_neg k1]
  by_cases k2 : kd = 1 ∧ x = 2
  · rw [if_pos k2, if_pos k2, flag_is]
  rw [if_neg k2, if_neg k2]
  by_cases k4 : kd = 2 ∧ x = 3
  · rw [if_pos k4, if_pos k4, if_pos (by omega), num_is]
  rw [if_neg k4, if_neg k4]
  by_cases k5 : kd = 1 ∧ x = 3
  · rw [if_pos k5, if_pos k5]
    unfold boolS
    split
    · rfl
    · split <;> rfl
  rw [if_neg k5, if_neg k5]
  rfl
theorem bool_ev (z : ByteArray) : Ev (fun k => relstoreref_Cast.j2 k 31 false 3 0 z) (boolS z.toList) := by
  unfold boolS
  by_cases h1 : z.toList = [116, 114, 117, 101]
  · rw [if_pos h1]
    refine Ev.step (f := fun k => relstoreref_Cast.j3 k true 3 0 z) (fun k => ?_) (Ev.step (f := fun _ => some (1, 1, ⟨#[]⟩)) (fun k => ?_) (Ev.now _))
    · simp only [relstoreref_Cast.j2]
      rw [if_neg (by decide), if_neg (by decide), if_neg (by decide), if_pos trivial, if_pos h1]
    · simp only [relstoreref_Cast.j3]
      rw [if_pos trivial, show (z.toList == ([116, 114, 117, 101] : List UInt8)) = true from beq_iff_eq.2 h1]
      rfl
  · rw [if_neg h1]
    have hf : (z.toList == ([116, 114, 117, 101] : List UInt8)) = false := beq_eq_false_iff_ne.2 h1
    refine Ev.step (f := fun k => relstoreref_Cast.j3 k (z.toList == ([102, 97, 108, 115, 101] : List UInt8)) 3 0 z) (fun k => ?_) ?_
    · simp only [relstoreref_Cast.j2]
      rw [if_neg (by decide), if_neg (by decide), if_neg (by decide), if_pos trivial, if_neg h1]
    · by_cases h2 : z.toList = [102, 97, 108, 115, 101]
      · rw [if_pos h2, show (z.toList == ([102, 97, 108, 115, 101] : List UInt8)) = true from beq_iff_eq.2 h2]
        refine Ev.step (f := fun _ => some (1, 0, ⟨#[]⟩)) (fun k => ?_) (Ev.now _)
        simp only [relstoreref_Cast.j3]
        rw [if_pos trivial, hf]
        rfl
      · rw [if_neg h2, show (z.toList == ([102, 97, 108, 115, 101] : List UInt8)) = false from beq_eq_false_iff_ne.2 h2]
        refine Ev.step (f := fun _ => some none3) (fun k => ?_) (Ev.now _)
        simp only [relstoreref_Cast.j3]
        rfl
theorem rcast_is (a b : Int) (c : ByteArray) (kd : Int) (hb : inR b) (hc : c.size ≤ 1048576) {x y : Int} {z : ByteArray} (e : cl a b c = (x, y, z)) : Ev (fun k => relstoreref_Cast.f k a b c kd) (castV x y z kd) := by
  obtain ⟨x', y', z', e', hy, hz, hx⟩ := cl_cases a b c hb
  rw [e] at e'
  obtain ⟨rfl, rfl, rfl⟩ : x = x' ∧ y = y' ∧ z = z' := by simpa using e'
  have hzs : z.size ≤ 1999999 := by omega
  unfold relstoreref_Cast.f
  rw [rclean_is, e]
  simp only [Option.bind_some]
  by_cases o1 : kd < 1
  · refine Ev.ite_true o1 (Ev.step (f := fun _ => some none3) (fun k => by simp only [relstoreref_Cast.j0]; rfl) (Ev.const (congrArg some ?_)))
    unfold castV
    rcases hx with ⟨rfl, rfl, rfl⟩ | ⟨rfl, h, rfl⟩ | ⟨rfl, rfl⟩ | ⟨rfl, rfl⟩
    · rw [if_pos rfl]
    all_goals rw [if_neg (by decide), if_neg (by omega), if_neg (by omega), if_neg (by omega), if_neg (by omega), if_neg (by omega), if_neg (by omega)]
  refine Ev.ite_false o1 ?_
  by_cases o2 : kd > 3
  · rw [decide_eq_true o2]
    refine Ev.step (f := fun _ => some none3) (fun k => by simp only [relstoreref_Cast.j0]; rfl) (Ev.const (congrArg some ?_))
    unfold castV
    rcases hx with ⟨rfl, rfl, rfl⟩ | ⟨rfl, h, rfl⟩ | ⟨rfl, rfl⟩ | ⟨rfl, rfl⟩
    · rw [if_pos rfl]
    all_goals rw [if_neg (by decide), if_neg (by omega), if_neg (by omega), if_neg (by omega), if_neg (by omega), if_neg (by omega), if_neg (by omega)]
  rw [decide_eq_false o2]
  have hk : kd = 1 ∨ kd = 2 ∨ kd = 3 := by omega
  rcases hx with ⟨rfl, rfl, rfl⟩ | ⟨rfl, h, rfl⟩ | ⟨rfl, rfl⟩ | ⟨rfl, rfl⟩
  · rcases hk with rfl | rfl | rfl
    · exact Ev.step (f := fun k => relstoreref_Cast.j1 k 1 false 0 0 ⟨#[]⟩) (fun k => by simp only [relstoreref_Cast.j0, show wrap64 (wrap64 (10 * 0) + 1) = 1 from by unfold wrap64; decide]; rfl) (Ev.step (f := fun k => relstoreref_Cast.j2 k 1 false 0 0 ⟨#[]⟩) (fun k => by simp only [relstoreref_Cast.j1]; rfl) (Ev.step (f := fun _ => some none3) (fun k => by simp only [relstoreref_Cast.j2]; rfl) (Ev.const rfl)))
    · exact Ev.step (f := fun k => relstoreref_Cast.j1 k 2 false 0 0 ⟨#[]⟩) (fun k => by simp only [relstoreref_Cast.j0, show wrap64 (wrap64 (10 * 0) + 2) = 2 from by unfold wrap64; decide]; rfl) (Ev.step (f := fun k => relstoreref_Cast.j2 k 2 false 0 0 ⟨#[]⟩) (fun k => by simp only [relstoreref_Cast.j1]; rfl) (Ev.step (f := fun _ => some none3) (fun k => by simp only [relstoreref_Cast.j2]; rfl) (Ev.const rfl)))
    · exact Ev.step (f := fun k => relstoreref_Cast.j1 k 3 false 0 0 ⟨#[]⟩) (fun k => by simp only [relstoreref_Cast.j0, show wrap64 (wrap64 (10 * 0) + 3) = 3 from by unfold wrap64; decide]; rfl) (Ev.step (f := fun k => relstoreref_Cast.j2 k 3 false 0 0 ⟨#[]⟩) (fun k => by simp only [relstoreref_Cast.j1]; rfl) (Ev.step (f := fun _ => some none3) (fun k => by simp only [relstoreref_Cast.j2]; rfl) (Ev.const rfl)))
  · rcases hk with rfl | rfl | rfl
    · exact Ev.step (f := fun k => relstoreref_Cast.j1 k 11 true 1 y ⟨#[]⟩) (fun k => by simp only [relstoreref_Cast.j0, show wrap64 (wrap64 (10 * 1) + 1) = 11 from by unfold wrap64; decide]; rfl) (Ev.step (f := fun _ => some (1, y, ⟨#[]⟩)) (fun k => by simp only [relstoreref_Cast.j1]; rfl) (Ev.const rfl))
    · exact Ev.step (f := fun k => relstoreref_Cast.j1 k 12 false 1 y ⟨#[]⟩) (fun k => by simp only [relstoreref_Cast.j0, show wrap64 (wrap64 (10 * 1) + 2) = 12 from by unfold wrap64; decide]; rfl) (Ev.step (f := fun k => relstoreref_Cast.j2 k 12 false 1 y ⟨#[]⟩) (fun k => by simp only [relstoreref_Cast.j1]; rfl) (Ev.step (f := fun _ => some (num3 y)) (fun k => by simp only [relstoreref_Cast.j2]; rfl) (Ev.const rfl)))
    · rcases h with rfl | rfl
      · exact Ev.step (f := fun k => relstoreref_Cast.j1 k 13 false 1 0 ⟨#[]⟩) (fun k => by simp only [relstoreref_Cast.j0, show wrap64 (wrap64 (10 * 1) + 3) = 13 from by unfold wrap64; decide]; rfl) (Ev.step (f := fun k => relstoreref_Cast.j2 k 13 true 1 0 ⟨#[]⟩) (fun k => by simp only [relstoreref_Cast.j1]; rfl) (Ev.step (f := fun _ => some (3, 0, showS 1 0 ⟨#[]⟩)) (fun k => by simp only [relstoreref_Cast.j2]; rw [if_pos trivial, rshow_is 1 0 ⟨#[]⟩ hy]; rfl) (Ev.const rfl)))
      · exact Ev.step (f := fun k => relstoreref_Cast.j1 k 13 false 1 1 ⟨#[]⟩) (fun k => by simp only [relstoreref_Cast.j0, show wrap64 (wrap64 (10 * 1) + 3) = 13 from by unfold wrap64; decide]; rfl) (Ev.step (f := fun k => relstoreref_Cast.j2 k 13 true 1 1 ⟨#[]⟩) (fun k => by simp only [relstoreref_Cast.j1]; rfl) (Ev.step (f := fun _ => some (3, 0, showS 1 1 ⟨#[]⟩)) (fun k => by simp only [relstoreref_Cast.j2]; rw [if_pos trivial, rshow_is 1 1 ⟨#[]⟩ hy]; rfl) (Ev.const rfl)))
  · rcases hk with rfl | rfl | rfl
    · exact Ev.step (f := fun k => relstoreref_Cast.j1 k 21 false 2 y ⟨#[]⟩) (fun k => by simp only [relstoreref_Cast.j0, show wrap64 (wrap64 (10 * 2) + 1) = 21 from by unfold wrap64; decide]; rfl) (Ev.step (f := fun k => relstoreref_Cast.j2 k 21 false 2 y ⟨#[]⟩) (fun k => by simp only [relstoreref_Cast.j1]; rfl) (Ev.step (f := fun k => (relstoreref_truth.f (y != 0)).bind fun bt373 => (some (bt373.1, bt373.2.1, bt373.2.2))) (fun k => by simp only [relstoreref_Cast.j2]; rfl) (Ev.const (by rw [truth_is]; rfl))))
    · exact Ev.step (f := fun k => relstoreref_Cast.j1 k 22 true 2 y ⟨#[]⟩) (fun k => by simp only [relstoreref_Cast.j0, show wrap64 (wrap64 (10 * 2) + 2) = 22 from by unfold wrap64; decide]; rfl) (Ev.step (f := fun _ => some (2, y, ⟨#[]⟩)) (fun k => by simp only [relstoreref_Cast.j1]; rfl) (Ev.const rfl))
    · exact Ev.step (f := fun k => relstoreref_Cast.j1 k 23 false 2 y ⟨#[]⟩) (fun k => by simp only [relstoreref_Cast.j0, show wrap64 (wrap64 (10 * 2) + 3) = 23 from by unfold wrap64; decide]; rfl) (Ev.step (f := fun k => relstoreref_Cast.j2 k 23 true 2 y ⟨#[]⟩) (fun k => by simp only [relstoreref_Cast.j1]; rfl) (Ev.step (f := fun _ => some (3, 0, showS 2 y ⟨#[]⟩)) (fun k => by simp only [relstoreref_Cast.j2]; rw [if_pos trivial, rshow_is 2 y ⟨#[]⟩ hy]; rfl) (Ev.const rfl)))
  · rcases hk with rfl | rfl | rfl
    · exact Ev.step (f := fun k => relstoreref_Cast.j1 k 31 false 3 0 z) (fun k => by simp only [relstoreref_Cast.j0, show wrap64 (wrap64 (10 * 3) + 1) = 31 from by unfold wrap64; decide]; rfl) (Ev.step (f := fun k => relstoreref_Cast.j2 k 31 false 3 0 z) (fun k => by simp only [relstoreref_Cast.j1]; rfl) (bool_ev z))
    · exact Ev.step (f := fun k => relstoreref_Cast.j1 k 32 false 3 0 z) (fun k => by simp only [relstoreref_Cast.j0, show wrap64 (wrap64 (10 * 3) + 2) = 32 from by unfold wrap64; decide]; rfl) (Ev.step (f := fun k => relstoreref_Cast.j2 k 32 false 3 0 z) (fun k => by simp only [relstoreref_Cast.j1]; rfl) (Ev.step (f := fun k => (relstoreref_whole.f k z).bind fun bt382 => (some (bt382.1, bt382.2.1, bt382.2.2))) (fun k => by simp only [relstoreref_Cast.j2]; rfl) (Ev.bind (whole_is z (by omega)) (Ev.const rfl))))
    · exact Ev.step (f := fun k => relstoreref_Cast.j1 k 33 true 3 0 z) (fun k => by simp only [relstoreref_Cast.j0, show wrap64 (wrap64 (10 * 3) + 3) = 33 from by unfold wrap64; decide]; rfl) (Ev.step (f := fun _ => some (3, 0, z)) (fun k => by simp only [relstoreref_Cast.j1]; rfl) (Ev.const rfl))
def catV (a0 b0 : Int) (s t : ByteArray) : Int × Int × ByteArray := if a0 = 3 ∧ b0 = 3 ∧ s.size + t.size ≤ 1000 then (3, 0, s ++ t) else none3
theorem cat_is (a0 a1 : Int) (s : ByteArray) (b0 b1 : Int) (t : ByteArray) (hs : s.size ≤ 1048576) (ht : t.size ≤ 1048576) : Ev (fun k => value_Concat.f k a0 a1 s b0 b1 t) (catV a0 b0 s t) := by
  unfold value_Concat.f catV
  have hno : Ev (fun k => value_Concat.j0 k true a0 a1 s b0 b1 t) none3 := Ev.step (f := fun _ => some none3) (fun k => by simp only [value_Concat.j0]; rfl) (Ev.now _)
  by_cases h1 : a0 = 3
  · refine Ev.ite_true h1 ?_
    by_cases h2 : b0 = 3
    · rw [show (b0 != 3) = false by simp [h2]]
      have hsz : (s ++ t).size = s.size + t.size := ByteArray.size_append
      refine Ev.step (f := fun _ => (value_text.f (s ++ t)).bind fun bt118 => (some (bt118.1, bt118.2.1, bt118.2.2))) (fun k => ?_) (Ev.const ?_)
      · simp only [value_Concat.j0]
        rw [if_neg (by decide), if_pos (by omega)]
      · unfold value_text.f
        by_cases h3 : s.size + t.size ≤ 1000
        · rw [if_neg (by omega), if_pos ⟨h1, h2, h3⟩]; rfl
        · rw [if_pos (by omega), if_neg (fun h => h3 h.2.2)]; rfl
    · rw [show (b0 != 3) = true by simp [h2], if_neg (fun h => h2 h.2.1)]
      exact hno
  · rw [if_neg (fun h => h1 h.1)]
    exact Ev.ite_false h1 hno
theorem rcat_is (a0 a1 : Int) (s : ByteArray) (b0 b1 : Int) (t : ByteArray) (hs : s.size ≤ 1048576) (ht : t.size ≤ 1048576) : Ev (fun k => relstoreref_Concat.f k a0 a1 s b0 b1 t) (catV a0 b0 s t) := by
  unfold relstoreref_Concat.f catV
  have hno : Ev (fun k => relstoreref_Concat.j0 k true a0 a1 s b0 b1 t) none3 := Ev.step (f := fun _ => some none3) (fun k => by simp only [relstoreref_Concat.j0]; rfl) (Ev.now _)
  by_cases h1 : a0 = 3
  · refine Ev.ite_true h1 ?_
    by_cases h2 : b0 = 3
    · refine Ev.ite_true h2 ?_
      have hw : wrap64 ((s.size : Int) + (t.size : Int)) = (s.size : Int) + (t.size : Int) := w64' (by omega) (by omega)
      rw [hw]
      by_cases h3 : s.size + t.size ≤ 1000
      · rw [decide_eq_false (by omega), if_pos ⟨h1, h2, h3⟩]
        refine Ev.step (f := fun _ => (relstoreref_str.f (s ++ t)).bind fun bt129 => (some (bt129.1, bt129.2.1, bt129.2.2))) (fun k => ?_) (Ev.const rfl)
        simp only [relstoreref_Concat.j0]
        rw [if_neg (by decide), if_pos (by omega)]
      · rw [decide_eq_true (by omega), if_neg (fun h => h3 h.2.2)]
        exact hno
    · rw [if_neg (fun h => h2 h.2.1)]
      exact Ev.ite_false h2 hno
  · rw [if_neg (fun h => h1 h.1)]
    exact Ev.ite_false h1 hno
theorem Likes (a0 a1 : Int) (s : ByteArray) (b0 b1 : Int) (p : ByteArray) (hs : s.size ≤ 1048576) (hp : p.size ≤ 1048576) : ∃ v, Ev (fun k => value_Like.f k a0 a1 s b0 b1 p) v ∧ Ev (fun k => relstoreref_Like.f k a0 a1 s b0 b1 p) v := by
  have hno : Ev (fun k => value_Like.j0 k true a0 a1 s b0 b1 p) none3 := Ev.step (f := fun _ => some none3) (fun k => by simp only [value_Like.j0]; rfl) (Ev.now _)
  have hno' : Ev (fun k => relstoreref_Like.j0 k true a0 a1 s b0 b1 p) none3 := Ev.step (f := fun _ => some none3) (fun k => by simp only [relstoreref_Like.j0]; rfl) (Ev.now _)
  unfold value_Like.f relstoreref_Like.f
  by_cases h1 : a0 = 3
  · by_cases h2 : b0 = 3
    · have e : (b0 != 3) = false := by simp [h2]
      rw [e]
      obtain ⟨r, hr, hg⟩ := like_is s p (by omega) (by omega)
      obtain ⟨r', hr', hg'⟩ := rLike_is s p a0 a1 b0 b1 hs hp
      obtain rfl : r = r' := Bool.eq_iff_iff.2 (hg.trans hg'.symm)
      refine ⟨_, Ev.ite_true h1 ?_, Ev.ite_true h1 hr'⟩
      refine Ev.step (f := fun k => (value_like.f k s p).bind fun t109 => ((value_Flag.f t109).bind fun bt110 => (some (bt110.1, bt110.2.1, bt110.2.2)))) (fun k => ?_) (Ev.bind hr (Ev.const ?_))
      · simp only [value_Like.j0]
        rw [if_neg (by decide)]
      · cases r <;> rfl
    · have e : (b0 != 3) = true := by simp [h2]
      rw [e]
      exact ⟨_, Ev.ite_true h1 hno, Ev.ite_true h1 hno'⟩
  · exact ⟨_, Ev.ite_false h1 hno, Ev.ite_false h1 hno'⟩
theorem same_self (v : Int × Int × ByteArray) : relstorelaw_sameValue.f v.1 v.2.1 v.2.2 v.1 v.2.1 v.2.2 = some true := by simp [relstorelaw_sameValue.f]
theorem ValueTexts (a0 a1 : Int) (s : ByteArray) (b0 b1 : Int) (t : ByteArray) (kd : Int) (ha : inR a1) (hs : s.size ≤ 1048576) (ht : t.size ≤ 1048576) : ∃ k, relstorelaw_ValueTexts.f k a0 a1 s b0 b1 t kd = some true := by
  obtain ⟨v, hv1, hv2⟩ := Likes a0 a1 s b0 b1 t hs ht
  obtain ⟨x, y, z, e, -, -, -⟩ := cl_cases a0 a1 s ha
  refine Ev.rounds (g := fun k => relstorelaw_ValueTexts.f k a0 a1 s b0 b1 t kd) ?_
  unfold relstorelaw_ValueTexts.f
  refine Ev.bind (cat_is a0 a1 s b0 b1 t hs ht) (Ev.bind (rcat_is a0 a1 s b0 b1 t hs ht) (Ev.some_bind (same_self _) (Ev.ite_true rfl ?_)))
  refine Ev.bind hv1 (Ev.bind hv2 (Ev.some_bind (same_self _) (Ev.ite_true rfl ?_)))
  refine Ev.some_bind (cast_is a0 a1 s kd ha hs e) (Ev.bind (rcast_is a0 a1 s kd ha hs e) (Ev.some_bind (same_self _) (Ev.ite_true rfl ?_)))
  exact Ev.some_bind (show_is a0 a1 s ha) (Ev.some_bind (rshow_is a0 a1 s ha) (Ev.const (by simp)))
end Go.Proofs.YthaoaaboempajabDoor.Texts
