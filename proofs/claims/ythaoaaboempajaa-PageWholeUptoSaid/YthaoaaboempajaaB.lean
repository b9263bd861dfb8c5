/- What a bound on an input's bulk gives: a list of texts is as long as its datum tells. No conditions. -/
import Derived.Test.YthaoaaboempajaaRows
import Derived.Test.YthaoaaboempajaaO
namespace Go.Proofs.YthaoaaboempajaaB
open Go.RowKit Go.Proofs.YthaoaaboempajaaW.PrintWords Go.ChangeShapes Go.WideShapes Go.Proofs.YthaoaaboempajaaO
open Go.Proofs.Ythaoaaboempajaa
set_option linter.unusedVariables false
def sizes : List ByteArray → Nat
  | [] => 0
  | c :: r => c.size + 1 + sizes r
theorem bulk_texts {H : Type} : ∀ l : List ByteArray, Rows.uptoBulkAll (l.map fun s => (DataW.lit (.string s.data.toList) : DataW H)) = sizes l
  | [] => by simp [Rows.uptoBulkAll, sizes]
  | c :: r => by
    have := bulk_texts (H := H) r
    have e : c.data.toList.length = c.size := by rw [Array.length_toList]; rfl
    simp only [List.map_cons, Rows.uptoBulkAll, Rows.uptoBulk, sizes, this, e]
theorem bulk_append {H : Type} : ∀ l r : List (DataW H), Rows.uptoBulkAll (l ++ r) = Rows.uptoBulkAll l + Rows.uptoBulkAll r
  | [], r => by simp [Rows.uptoBulkAll]
  | x :: l, r => by simp only [List.cons_append, Rows.uptoBulkAll, bulk_append l r]; omega
theorem bulk_part {H : Type} {d : DataW H} : ∀ {l : List (DataW H)}, d ∈ l → Rows.uptoBulk d ≤ Rows.uptoBulkAll l
  | [], h => by cases h
  | x :: r, h => by
    simp only [Rows.uptoBulkAll]
    rcases List.mem_cons.1 h with rfl | h
    · omega
    · have := bulk_part h; omega
theorem bound {H : Type} {l : List (DataW H)} (hk : Rows.uptoSmall H l = true) : Rows.uptoBulkAll l ≤ 1048576 := of_decide_eq_true hk
/-- A slice of texts: its texts, as they are read, and their lengths by the datum's bulk. -/
theorem texts {P : Program} {t e : TypeId} (ht : P.underlying t = some (.slice e)) (he : P.underlying e = some .string) (hc : P.cellsOf e = 1) (hB : P.bytesOf e = 16)
    {H : Type} {enc : TypeId × Value → H} {w : World} {base : Nat} {spare : Nat → Bool} {held : Bool} {fuel : Nat} {cs : List Value} {x : DataW H × List MemPlace}
    (h : DataW.trod enc P w base spare held fuel t cs = some x) (hw : ∀ n ∈ x.1.weights P t, n ≤ reachBytes) :
    ∃ (A : Option Addr) (c : Nat) (l : List ByteArray), cs = [.slice A l.length c] ∧ l.length ≤ c ∧ Kd.C Kd.string w A l.length l ∧ l.length * 16 ≤ 140737488351232 ∧ sizes l ≤ Rows.uptoBulk x.1 := by
  rcases DataW.trod_slice ht h with ⟨rfl, rfl⟩ | ⟨a, len, cap, elems, rest, n, _, rfl, rfl, hb, hl, hm, hlen, hel, hsp, hns⟩
  · exact ⟨none, 0, [], rfl, Nat.le_refl _, ⟨rfl, by simp, fun h => absurd h (by simp)⟩, by simp, by simp [sizes]⟩
  · have hw1 : (elems.length + rest.length) * 16 ≤ 140737488351232 := by
      have := hw ((elems.length + rest.length) * P.bytesOf e) (by simp [DataW.weights, ht])
      rw [reach_is, hB] at this
      exact this
    have each : ∀ i, i < len → ∃ s : ByteArray, w.cells? base (a.add (i * 1)) 1 = some [.string s] ∧ (elems.map (·.1))[i]? = some (DataW.lit (.string s.data.toList)) := by
      intro i hi
      have h1 := hel i hi
      have h2 : i < elems.length := by omega
      rw [List.getElem?_eq_getElem h2, Option.bind_eq_some_iff] at h1
      obtain ⟨c, hcs, hy⟩ := h1
      obtain ⟨s, rfl, hx, _⟩ := DataW.trod_string he hy
      rw [hc] at hcs
      refine ⟨s, hcs, ?_⟩
      rw [List.getElem?_map, List.getElem?_eq_getElem h2, hx]
      rfl
    obtain ⟨l, hl2, hq⟩ := list_of (Q := fun i s => w.cells? base (a.add (i * 1)) 1 = some [.string s] ∧ (elems.map (·.1))[i]? = some (DataW.lit (H := H) (.string s.data.toList))) len each
    have hmap : elems.map (·.1) = l.map fun s => (DataW.lit (.string s.data.toList) : DataW H) := by
      apply List.ext_getElem?
      intro i
      by_cases hi : i < len
      · obtain ⟨s, hs⟩ : ∃ s, l[i]? = some s := ⟨l[i]'(by omega), List.getElem?_eq_getElem (by omega)⟩
        rw [(hq i s hs).2, List.getElem?_map, hs]
        rfl
      · rw [List.getElem?_eq_none (by rw [List.length_map]; omega), List.getElem?_eq_none (by rw [List.length_map]; omega)]
    refine ⟨some a, cap, l, by rw [hl2], by omega, ⟨rfl, by unfold maxLen at hm; omega, fun _ => ⟨a, rfl, fun j p hj => ?_⟩⟩, by omega, ?_⟩
    · have hcs := (hq j p hj).1
      refine ⟨[.string p], rfl, rfl, fun i u hu => ?_⟩
      obtain ⟨_, hlen2, hc2⟩ := World.cells?_some hcs
      have hi : i = 0 := by
        have := (List.getElem?_eq_some_iff.1 hu).1
        simpa using this
      subst hi
      have := hc2 0 (by omega)
      rw [hu] at this
      rw [← this, Go.Addr.add_add]
      rfl
    · simp only [Rows.uptoBulk]
      have := bulk_texts (H := H) l
      rw [hmap]
      omega
end Go.Proofs.YthaoaaboempajaaB
