/- What a pattern says of a text, on lists of bytes: 37 stands for any bytes, 95 for one. Plain lemmas; no conditions. -/
import Derived.WalkKit
namespace Go.Proofs.YthaoaaboempajaaGlob
/-- A text is as a pattern says. -/
def G : List UInt8 → List UInt8 → Prop
  | [], s => s = []
  | c :: p, s => if c = 37 then ∃ n, n ≤ s.length ∧ G p (s.drop n) else ∃ x t, s = x :: t ∧ (c = 95 ∨ c = x) ∧ G p t
theorem G_nil (s : List UInt8) : G [] s ↔ s = [] := Iff.rfl
theorem G_star (p s : List UInt8) : G (37 :: p) s ↔ ∃ a b, s = a ++ b ∧ G p b := by
  simp only [G, if_true]
  constructor
  · rintro ⟨n, _, h⟩
    exact ⟨s.take n, s.drop n, (List.take_append_drop n s).symm, h⟩
  · rintro ⟨a, b, rfl, h⟩
    exact ⟨a.length, by simp, by simpa using h⟩
theorem G_one {c : UInt8} (hc : c ≠ 37) (p s : List UInt8) : G (c :: p) s ↔ ∃ x t, s = x :: t ∧ (c = 95 ∨ c = x) ∧ G p t := by
  simp only [G, if_neg hc]
theorem G_append : ∀ (p q s : List UInt8), G (p ++ q) s ↔ ∃ a b, s = a ++ b ∧ G p a ∧ G q b
  | [], q, s => by
    constructor
    · intro h; exact ⟨[], s, rfl, rfl, h⟩
    · rintro ⟨a, b, rfl, h, k⟩
      rw [G_nil] at h
      subst h
      exact k
  | c :: p, q, s => by
    by_cases hc : c = 37
    · subst hc
      rw [List.cons_append, G_star]
      constructor
      · rintro ⟨a, b, rfl, h⟩
        obtain ⟨x, y, rfl, hx, hy⟩ := (G_append p q b).1 h
        exact ⟨a ++ x, y, by simp, (G_star _ _).2 ⟨a, x, rfl, hx⟩, hy⟩
      · rintro ⟨a, b, rfl, h, k⟩
        obtain ⟨x, y, rfl, hy⟩ := (G_star _ _).1 h
        exact ⟨x, y ++ b, by simp, (G_append p q _).2 ⟨y, b, rfl, hy, k⟩⟩
    · rw [List.cons_append, G_one hc]
      constructor
      · rintro ⟨x, t, rfl, hx, h⟩
        obtain ⟨a, b, rfl, ha, hb⟩ := (G_append p q t).1 h
        exact ⟨x :: a, b, rfl, (G_one hc _ _).2 ⟨x, a, rfl, hx, ha⟩, hb⟩
      · rintro ⟨a, b, rfl, h, k⟩
        obtain ⟨x, t, rfl, hx, ht⟩ := (G_one hc _ _).1 h
        exact ⟨x, t ++ b, rfl, hx, (G_append p q _).2 ⟨t, b, rfl, ht, k⟩⟩
/-- A piece of a pattern without 37 against as many bytes. -/
def Seg : List UInt8 → List UInt8 → Prop
  | [], [] => True
  | c :: u, x :: a => (c ≠ 37 ∧ (c = 95 ∨ c = x)) ∧ Seg u a
  | _, _ => False
theorem Seg_len : ∀ {u a : List UInt8}, Seg u a → u.length = a.length
  | [], [], _ => rfl
  | c :: u, x :: a, h => by simp [Seg_len h.2]
  | [], _ :: _, h => h.elim
  | _ :: _, [], h => h.elim
theorem Seg_snoc : ∀ {u a : List UInt8} {c x : UInt8}, Seg u a → c ≠ 37 → (c = 95 ∨ c = x) → Seg (u ++ [c]) (a ++ [x])
  | [], [], _, _, _, h1, h2 => ⟨⟨h1, h2⟩, trivial⟩
  | _ :: _, _ :: _, _, _, h, h1, h2 => ⟨h.1, Seg_snoc h.2 h1 h2⟩
  | [], _ :: _, _, _, h, _, _ => h.elim
  | _ :: _, [], _, _, h, _, _ => h.elim
/-- Such a piece takes just its bytes. -/
theorem G_seg : ∀ {u a : List UInt8} (r t : List UInt8), Seg u a → (G (u ++ r) (a ++ t) ↔ G r t)
  | [], [], _, _, _ => Iff.rfl
  | c :: u, x :: a, r, t, h => by
    rw [List.cons_append, G_one h.1.1]
    constructor
    · rintro ⟨y, z, e, _, k⟩
      simp at e
      obtain ⟨rfl, rfl⟩ := e
      exact (G_seg r t h.2).1 k
    · intro k
      exact ⟨x, a ++ t, rfl, h.1.2, (G_seg r t h.2).2 k⟩
  | [], _ :: _, _, _, h => h.elim
  | _ :: _, [], _, _, h => h.elim
/-- A piece without 37 takes as many bytes as it has. -/
theorem G_take : ∀ {u a : List UInt8} (r : List UInt8) {s : List UInt8}, Seg u a → G (u ++ r) s → ∃ y z, s = y ++ z ∧ y.length = u.length ∧ G r z
  | [], [], _, s, _, k => ⟨[], s, rfl, rfl, k⟩
  | c :: u, x :: a, r, s, h, k => by
    rw [List.cons_append, G_one h.1.1] at k
    obtain ⟨b, t, rfl, _, k⟩ := k
    obtain ⟨y, z, rfl, hl, hz⟩ := G_take r h.2 k
    exact ⟨b :: y, z, rfl, by simp [hl], hz⟩
  | [], _ :: _, _, _, h, _ => h.elim
  | _ :: _, [], _, _, h, _ => h.elim
theorem G_more {p s : List UInt8} (w : List UInt8) (h : G (37 :: p) s) : G (37 :: p) (w ++ s) := by
  obtain ⟨a, b, e, k⟩ := (G_star _ _).1 h
  exact (G_star _ _).2 ⟨w ++ a, b, by rw [e]; simp, k⟩
/-- At the next 37 what was taken stays as it is. -/
theorem G_next {u a : List UInt8} (q b : List UInt8) (h : Seg u a) : G (37 :: (u ++ 37 :: q)) (a ++ b) ↔ G (37 :: q) b := by
  constructor
  · intro k
    obtain ⟨x, y, e, hy⟩ := (G_star _ _).1 k
    obtain ⟨y1, z, rfl, hl, hz⟩ := G_take _ h hy
    have hla := Seg_len h
    have : b = (a ++ b).drop a.length := by simp
    rw [this, e, ← List.append_assoc]
    have hd : ∃ w, (x ++ y1 ++ z).drop a.length = w ++ z := ⟨(x ++ y1).drop a.length, by rw [List.drop_append_of_le_length (by simp; omega)]⟩
    obtain ⟨w, hw⟩ := hd
    rw [hw]
    exact G_more w hz
  · intro k
    exact (G_star _ _).2 ⟨[], a ++ b, rfl, (G_seg _ _ h).2 k⟩
theorem G_end {u a : List UInt8} (r : List UInt8) (h : Seg u a) : G (37 :: (u ++ r)) a ↔ G r [] := by
  constructor
  · intro k
    obtain ⟨x, y, e, hy⟩ := (G_star _ _).1 k
    obtain ⟨y1, z, rfl, hl, hz⟩ := G_take _ h hy
    have hla := Seg_len h
    have : a.length = x.length + (y1.length + z.length) := by rw [e]; simp
    have hz0 : z = [] := List.eq_nil_of_length_eq_zero (by omega)
    exact hz0 ▸ hz
  · intro k
    refine (G_star _ _).2 ⟨[], a, rfl, ?_⟩
    have := (G_seg r [] h).2 k
    simpa using this
/-- Where the first try does not fit, 37 takes one byte more. -/
theorem G_skip {p : List UInt8} {y : UInt8} {s : List UInt8} (h : ¬ G p (y :: s)) : G (37 :: p) (y :: s) ↔ G (37 :: p) s := by
  constructor
  · intro k
    obtain ⟨a, b, e, hb⟩ := (G_star _ _).1 k
    cases a with
    | nil => exact absurd (by rw [List.nil_append] at e; exact e ▸ hb) h
    | cons z a =>
      simp at e
      exact (G_star _ _).2 ⟨a, b, e.2, hb⟩
  · exact fun k => G_more [y] k
/-- What does not fit behind a piece. -/
theorem G_not {u a : List UInt8} (r : List UInt8) (x : UInt8) (t : List UInt8) (h : Seg u a) (hr : r = [] ∨ ∃ c q, r = c :: q ∧ c ≠ 37 ∧ c ≠ 95 ∧ c ≠ x) : ¬ G (u ++ r) (a ++ x :: t) := by
  rw [G_seg _ _ h]
  rcases hr with rfl | ⟨c, q, rfl, h1, h2, h3⟩
  · simp [G_nil]
  · rw [G_one h1]
    rintro ⟨y, z, e, hy, _⟩
    simp at e
    obtain ⟨rfl, rfl⟩ := e
    rcases hy with hy | hy
    · exact h2 hy
    · exact h3 hy
theorem G_nil_right : ∀ (r : List UInt8), G r [] ↔ ∀ c ∈ r, c = 37
  | [] => by simp [G_nil]
  | c :: r => by
    by_cases hc : c = 37
    · subst hc
      rw [G_star]
      constructor
      · rintro ⟨a, b, e, h⟩
        have : b = [] := by simp at e; exact e.2
        subst this
        intro x hx
        rcases List.mem_cons.1 hx with rfl | hx
        · rfl
        · exact (G_nil_right r).1 h x hx
      · intro h
        exact ⟨[], [], rfl, (G_nil_right r).2 (fun x hx => h x (List.mem_cons_of_mem _ hx))⟩
    · rw [G_one hc]
      constructor
      · rintro ⟨x, t, e, _⟩; cases e
      · intro h; exact absurd (h c (by simp)) hc
/-- A pattern without marks. -/
theorem G_plain : ∀ {p : List UInt8}, (∀ c ∈ p, c ≠ 37 ∧ c ≠ 95) → ∀ s, G p s ↔ s = p
  | [], _, s => G_nil s
  | c :: p, h, s => by
    have hc := h c (by simp)
    rw [G_one hc.1]
    constructor
    · rintro ⟨x, t, rfl, hx, k⟩
      rcases hx with hx | rfl
      · exact absurd hx hc.2
      · rw [(G_plain (fun d hd => h d (List.mem_cons_of_mem _ hd)) t).1 k]
    · rintro rfl
      exact ⟨c, p, rfl, .inr rfl, (G_plain (fun d hd => h d (List.mem_cons_of_mem _ hd)) p).2 rfl⟩
end Go.Proofs.YthaoaaboempajaaGlob
