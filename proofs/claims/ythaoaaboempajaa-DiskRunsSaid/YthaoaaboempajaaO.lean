/- Opening what a law is given: a datum that is read as a struct, a slice of structs, a slice of slices, told in the words of the printed walks (Kd). Plain lemmas over any program; no conditions. -/
import Derived.Test.YthaoaaboempajaaWWords
import Derived.ProofKit
import Derived.SizedLaws
import Derived.ChangeSlices
import Derived.Deep.Slices
import Derived.Lib.SmallJoins
namespace Go.Proofs.YthaoaaboempajaaO
open Go.RowKit Go.Proofs.YthaoaaboempajaaW.PrintWords Go.ChangeShapes Go.WideShapes
set_option linter.unusedVariables false
/-- Whatever reads as a datum of type t is a value of the kind d, and it is good. -/
def Opens {α : Type} (P : Program) (t : TypeId) (d : Kd α) (good : α → Prop) : Prop :=
  ∀ (H : Type) (enc : TypeId × Value → H) (w : World) (base : Nat) (spare : Nat → Bool) (held : Bool) (fuel : Nat) (cs : List Value) (x : DataW H × List MemPlace),
    DataW.trod enc P w base spare held fuel t cs = some x → (∀ n ∈ x.1.weights P t, n ≤ reachBytes) → ∃ y, d.K w y cs ∧ good y
theorem reach_is : reachBytes = 140737488351232 := by decide
section
variable {P : Program} {t : TypeId}
theorem opens_int {k : IntKind} (ht : P.underlying t = some (.int k)) : Opens P t (Kd.int k) (fun n => (Lit.int k n).wf = true) := by
  intro H enc w base spare held fuel cs x h hw
  obtain ⟨n, rfl, _, hn⟩ := DataW.trod_int ht h
  exact ⟨n, rfl, hn⟩
theorem opens_bool (ht : P.underlying t = some .bool) : Opens P t Kd.bool (fun _ => True) := by
  intro H enc w base spare held fuel cs x h hw
  obtain ⟨n, rfl, _⟩ := DataW.trod_bool ht h
  exact ⟨n, rfl, trivial⟩
theorem opens_string (ht : P.underlying t = some .string) : Opens P t Kd.string (fun s => s.size ≤ 140737488351232) := by
  intro H enc w base spare held fuel cs x h hw
  obtain ⟨s, rfl, rfl, hs⟩ := DataW.trod_string ht h
  have hz := hw s.data.toList.length (by simp [DataW.weights])
  rw [reach_is, Array.length_toList] at hz
  exact ⟨s, rfl, hz⟩
theorem list_of {α : Type} {Q : Nat → α → Prop} : ∀ n, (∀ i, i < n → ∃ y, Q i y) → ∃ l : List α, l.length = n ∧ ∀ i y, l[i]? = some y → Q i y
  | 0, _ => ⟨[], rfl, by simp⟩
  | n + 1, h => by
    obtain ⟨l, hl, hq⟩ := list_of n (fun i hi => h i (by omega))
    obtain ⟨y, hy⟩ := h n (by omega)
    refine ⟨l ++ [y], by simp [hl], fun i z hz => ?_⟩
    by_cases hi : i < n
    · rw [List.getElem?_append_left (by omega)] at hz
      exact hq i z hz
    · have hlt : i < n + 1 := by
        have := (List.getElem?_eq_some_iff.1 hz).1
        simp at this
        omega
      obtain rfl : i = n := by omega
      rw [List.getElem?_append_right (by omega), hl] at hz
      simp at hz
      exact hz ▸ hy
theorem opens_slice {α : Type} {e : TypeId} {d : Kd α} {good : α → Prop} (ht : P.underlying t = some (.slice e)) {B : Nat} (hB : P.bytesOf e = B) (hc : P.cellsOf e = d.sz) (he : Opens P e d good) :
    Opens P t (Kd.slice e d) (fun l => l.length * B ≤ 140737488351232 ∧ ∀ y ∈ l, good y) := by
  intro H enc w base spare held fuel cs x h hw
  rcases DataW.trod_slice ht h with ⟨rfl, rfl⟩ | ⟨a, len, cap, elems, rest, n, _, rfl, rfl, hb, hl, hm, hlen, hel, hsp, hns⟩
  · exact ⟨[], ⟨none, 0, rfl, Nat.le_refl _, rfl, by simp, fun h => absurd h (by simp)⟩, by simp, by simp⟩
  · have hw1 : (elems.length + rest.length) * B ≤ 140737488351232 := by
      have := hw ((elems.length + rest.length) * P.bytesOf e) (by simp [DataW.weights, ht])
      rw [reach_is, hB] at this
      exact this
    have each : ∀ i, i < len → ∃ y c, w.cells? base (a.add (i * d.sz)) d.sz = some c ∧ d.K w y c ∧ good y := by
      intro i hi
      have h1 := hel i hi
      have h2 : i < elems.length := by omega
      rw [List.getElem?_eq_getElem h2, Option.bind_eq_some_iff] at h1
      obtain ⟨c, hcs, hy⟩ := h1
      obtain ⟨y, hK, hg⟩ := he H enc w base spare held n c _ hy (fun m hm => hw m (by
        simp only [DataW.weights, ht, List.mem_cons, List.mem_append]
        refine .inr (.inl ?_)
        have hmem : (elems[i]).1 ∈ elems.map (·.1) := List.mem_map_of_mem (List.getElem_mem h2)
        revert hmem
        generalize elems.map (·.1) = L
        intro hmem
        induction L with
        | nil => simp at hmem
        | cons z zs ih =>
          rcases List.mem_cons.1 hmem with rfl | hmem
          · simp only [DataW.weightsAll, List.mem_append]; exact .inl hm
          · simp only [DataW.weightsAll, List.mem_append]; exact .inr (ih hmem)))
      rw [hc] at hcs
      exact ⟨y, c, hcs, hK, hg⟩
    obtain ⟨l, hl2, hq⟩ := list_of (Q := fun i y => ∃ c, w.cells? base (a.add (i * d.sz)) d.sz = some c ∧ d.K w y c ∧ good y) len each
    have hB2 : l.length * B ≤ 140737488351232 := Nat.le_trans (Nat.mul_le_mul_right _ (by omega)) hw1
    refine ⟨l, ⟨some a, cap, by rw [hl2], by omega, rfl, by unfold maxLen at hm; omega, fun _ => ⟨a, rfl, fun j p hj => ?_⟩⟩, hB2, fun y hy => ?_⟩
    · obtain ⟨c, hcs, hK, _⟩ := hq j p hj
      refine ⟨c, d.K_len hK, hK, fun i u hu => ?_⟩
      obtain ⟨_, hlen2, hc2⟩ := World.cells?_some hcs
      have hi : i < d.sz := by
        have := (List.getElem?_eq_some_iff.1 hu).1
        rw [d.K_len hK] at this
        exact this
      have := hc2 i hi
      rw [hu] at this
      rw [← this, Go.Addr.add_add]
    · obtain ⟨i, hi, he⟩ := List.mem_iff_getElem.1 hy
      exact (hq i y (List.getElem?_eq_some_iff.2 ⟨hi, he⟩)).elim fun c hc => hc.2.2
theorem opens_good {α : Type} {d : Kd α} {good good' : α → Prop} (h : Opens P t d good) (hg : ∀ y, good y → good' y) : Opens P t d good' := by
  intro H enc w base spare held fuel cs x hx hw
  obtain ⟨y, hK, hy⟩ := h H enc w base spare held fuel cs x hx hw
  exact ⟨y, hK, hg y hy⟩
theorem opens_pairs {α β : Type} {f0 f1 : Field} {d0 : Kd α} {d1 : Kd β} {g0 : α → Prop} {g1 : β → Prop} (hs : P.underlying t = some (.struct #[f0, f1])) (h0 : Opens P f0.type d0 g0) (h1 : Opens P f1.type d1 g1)
    (z0 : P.cellsOf f0.type = d0.sz) (z1 : P.cellsOf f1.type = d1.sz) (zt : P.cellsOf t = d0.sz + d1.sz) (o0 : f0.offset = 0) (o1 : f1.offset = d0.sz) :
    Opens P t (Kd.pair d0 d1) (fun y => g0 y.1 ∧ g1 y.2) := by
  intro H enc w base spare held fuel cs x h hw
  obtain ⟨y0, y1, n, rfl, hl, h0', h1'⟩ := trod_struct2 hs h
  rw [o0, z0, List.drop_zero] at h0'
  rw [o1, z1] at h1'
  rw [zt] at hl
  have hW : DataW.weights P t (.agg [y0.1, y1.1]) = DataW.weights P f0.type y0.1 ++ (DataW.weights P f1.type y1.1 ++ []) := by simp [DataW.weights, hs, DataW.weightsEach]
  obtain ⟨a, ka, ga⟩ := h0 H enc w base spare held n _ _ h0' (fun m hm => hw m (by rw [hW]; exact List.mem_append_left _ hm))
  obtain ⟨b, kb, gb⟩ := h1 H enc w base spare held n _ _ h1' (fun m hm => hw m (by rw [hW]; exact List.mem_append_right _ (List.mem_append_left _ hm)))
  have hd : (cs.drop d0.sz).take d1.sz = cs.drop d0.sz := List.take_of_length_le (by simp; omega)
  rw [hd] at kb
  exact ⟨(a, b), ⟨_, _, (List.take_append_drop _ _).symm, ka, kb⟩, ga, gb⟩
theorem opens_triple {α β γ : Type} {f0 f1 f2 : Field} {d0 : Kd α} {d1 : Kd β} {d2 : Kd γ} {g0 : α → Prop} {g1 : β → Prop} {g2 : γ → Prop} (hs : P.underlying t = some (.struct #[f0, f1, f2])) (h0 : Opens P f0.type d0 g0) (h1 : Opens P f1.type d1 g1) (h2 : Opens P f2.type d2 g2)
    (z0 : P.cellsOf f0.type = d0.sz) (z1 : P.cellsOf f1.type = d1.sz) (z2 : P.cellsOf f2.type = d2.sz) (zt : P.cellsOf t = d0.sz + (d1.sz + d2.sz)) (o0 : f0.offset = 0) (o1 : f1.offset = d0.sz) (o2 : f2.offset = d0.sz + d1.sz) :
    Opens P t (Kd.pair d0 (Kd.pair d1 d2)) (fun y => g0 y.1 ∧ g1 y.2.1 ∧ g2 y.2.2) := by
  intro H enc w base spare held fuel cs x h hw
  obtain ⟨xs, n, _, rfl, hl, hlen, hf⟩ := DataW.trod_struct hs h
  obtain ⟨y0, y1, y2, rfl⟩ : ∃ y0 y1 y2, xs = [y0, y1, y2] := by
    match xs, hlen with
    | [y0, y1, y2], _ => exact ⟨y0, y1, y2, rfl⟩
  have h0' := hf 0 f0 rfl
  have h1' := hf 1 f1 rfl
  have h2' := hf 2 f2 rfl
  rw [o0, z0, List.drop_zero] at h0'
  rw [o1, z1] at h1'
  rw [o2, z2] at h2'
  rw [zt] at hl
  have hW : DataW.weights P t (.agg [y0.1, y1.1, y2.1]) = DataW.weights P f0.type y0.1 ++ (DataW.weights P f1.type y1.1 ++ (DataW.weights P f2.type y2.1 ++ [])) := by simp [DataW.weights, hs, DataW.weightsEach]
  obtain ⟨a, ka, ga⟩ := h0 H enc w base spare held n _ _ h0' (fun m hm => hw m (by simp only [List.map_cons, List.map_nil]; rw [hW]; exact List.mem_append_left _ hm))
  obtain ⟨b, kb, gb⟩ := h1 H enc w base spare held n _ _ h1' (fun m hm => hw m (by simp only [List.map_cons, List.map_nil]; rw [hW]; exact List.mem_append_right _ (List.mem_append_left _ hm)))
  obtain ⟨c, kc, gc⟩ := h2 H enc w base spare held n _ _ h2' (fun m hm => hw m (by simp only [List.map_cons, List.map_nil]; rw [hW]; exact List.mem_append_right _ (List.mem_append_right _ (List.mem_append_left _ hm))))
  have hd : (cs.drop (d0.sz + d1.sz)).take d2.sz = (cs.drop d0.sz).drop d1.sz := by rw [List.drop_drop]; exact List.take_of_length_le (by simp; omega)
  rw [hd] at kc
  exact ⟨(a, b, c), ⟨_, _, (List.take_append_drop _ _).symm, ka, ⟨_, _, (List.take_append_drop _ _).symm, kb, kc⟩⟩, ga, gb, gc⟩
theorem opens_iso {α β : Type} {d : Kd α} {good : α → Prop} (h : Opens P t d good) (f : β → α) (g : α → β) (hfg : ∀ a, f (g a) = a) : Opens P t (Kd.iso d f) (fun y => good (f y)) := by
  intro H enc w base spare held fuel cs x hx hw
  obtain ⟨y, hK, hy⟩ := h H enc w base spare held fuel cs x hx hw
  exact ⟨g y, by show d.K w (f (g y)) cs; rw [hfg]; exact hK, by show good (f (g y)); rw [hfg]; exact hy⟩
/-- What a law's own argument is. -/
theorem opened {α : Type} {d : Kd α} {good : α → Prop} (h : Opens P t d good) {H : Type} {enc : TypeId × Value → H} {w : World} {base : Nat} {spare : Nat → Bool} {held : Bool} {v : Value} {x : DataW H} {ps : List MemPlace} {ts : List TypeId} {ds : List (DataW H)} {j : Nat}
    (hsz : (DataW.weightsEach P ts ds).all (· ≤ reachBytes) = true) (ht : ts[j]? = some t) (hd : ds[j]? = some x) (hx : DataW.Trod enc P w base spare held t v x ps) : ∃ y, d.K w y v.cells.toList ∧ good y := by
  obtain ⟨fuel, hf⟩ := hx
  exact h H enc w base spare held fuel _ _ hf (fun n hn => by simpa using List.all_eq_true.1 hsz _ (DataW.weights_mem_each ht hd n hn))
theorem opened_slice {α : Type} {e : Nat} {d : Kd α} {good : List α → Prop} (h : Opens P t (Kd.slice e d) good) {H : Type} {enc : TypeId × Value → H} {w : World} {base : Nat} {spare : Nat → Bool} {held : Bool} {a : Option Addr} {len cap : Nat} {x : DataW H} {ps : List MemPlace} {ts : List TypeId} {ds : List (DataW H)} {j : Nat}
    (hsz : (DataW.weightsEach P ts ds).all (· ≤ reachBytes) = true) (ht : ts[j]? = some t) (hd : ds[j]? = some x) (hx : DataW.Trod enc P w base spare held t (.slice a len cap) x ps) : ∃ l, len = l.length ∧ l.length ≤ cap ∧ d.C w a l.length l ∧ good l := by
  obtain ⟨l, ⟨A, c, he, hc, hC⟩, hg⟩ := opened h hsz ht hd hx
  simp [Value.cells] at he
  obtain ⟨rfl, rfl, rfl⟩ := he
  exact ⟨l, rfl, hc, hC, hg⟩
/-- A struct by value. -/
theorem opened_agg {α : Type} {d : Kd α} {good : α → Prop} (h : Opens P t d good) {fs : Array Field} (hs : P.underlying t = some (.struct fs)) {r : Reach} {b0 : Nat} {H : Type} {enc : TypeId × Value → H} {w : World} {base : Nat} {spare : Nat → Bool} {held : Bool} {v : Value} {x : DataW H} {ps : List MemPlace} {ts : List TypeId} {ds : List (DataW H)} {j : Nat}
    (hv : Value.okWide P w r b0 t v) (hsz : (DataW.weightsEach P ts ds).all (· ≤ reachBytes) = true) (ht : ts[j]? = some t) (hd : ds[j]? = some x) (hx : DataW.Trod enc P w base spare held t v x ps) : ∃ y cs, v = .agg cs ∧ d.K w y cs.toList ∧ good y := by
  obtain ⟨cs, rfl, _⟩ := okWide_struct hs hv
  obtain ⟨y, hK, hg⟩ := opened h hsz ht hd hx
  exact ⟨y, cs, rfl, hK, hg⟩
end
end Go.Proofs.YthaoaaboempajaaO
