/- Opening a struct of eight fields of one cell each. Plain lemma over any program; no conditions. -/
import Derived.Test.YthaoaaboempajaaO
namespace Go.Proofs.YthaoaaboempajaaO
open Go.RowKit Go.Proofs.YthaoaaboempajaaW.PrintWords Go.ChangeShapes Go.WideShapes
set_option linter.unusedVariables false
theorem opens_eight {P : Program} {t : TypeId} {α0 α1 α2 α3 α4 α5 α6 α7 : Type} {f0 f1 f2 f3 f4 f5 f6 f7 : Field} {d0 : Kd α0} {d1 : Kd α1} {d2 : Kd α2} {d3 : Kd α3} {d4 : Kd α4} {d5 : Kd α5} {d6 : Kd α6} {d7 : Kd α7} {g0 : α0 → Prop} {g1 : α1 → Prop} {g2 : α2 → Prop} {g3 : α3 → Prop} {g4 : α4 → Prop} {g5 : α5 → Prop} {g6 : α6 → Prop} {g7 : α7 → Prop} (hs : P.underlying t = some (.struct #[f0, f1, f2, f3, f4, f5, f6, f7])) (h0 : Opens P f0.type d0 g0) (h1 : Opens P f1.type d1 g1) (h2 : Opens P f2.type d2 g2) (h3 : Opens P f3.type d3 g3) (h4 : Opens P f4.type d4 g4) (h5 : Opens P f5.type d5 g5) (h6 : Opens P f6.type d6 g6) (h7 : Opens P f7.type d7 g7) (z0 : P.cellsOf f0.type = 1) (z1 : P.cellsOf f1.type = 1) (z2 : P.cellsOf f2.type = 1) (z3 : P.cellsOf f3.type = 1) (z4 : P.cellsOf f4.type = 1) (z5 : P.cellsOf f5.type = 1) (z6 : P.cellsOf f6.type = 1) (z7 : P.cellsOf f7.type = 1) (zt : P.cellsOf t = 8) (o0 : f0.offset = 0) (o1 : f1.offset = 1) (o2 : f2.offset = 2) (o3 : f3.offset = 3) (o4 : f4.offset = 4) (o5 : f5.offset = 5) (o6 : f6.offset = 6) (o7 : f7.offset = 7) :
    Opens P t (Kd.pair d0 (Kd.pair d1 (Kd.pair d2 (Kd.pair d3 (Kd.pair d4 (Kd.pair d5 (Kd.pair d6 d7))))))) (fun y => g0 y.1 ∧ g1 y.2.1 ∧ g2 y.2.2.1 ∧ g3 y.2.2.2.1 ∧ g4 y.2.2.2.2.1 ∧ g5 y.2.2.2.2.2.1 ∧ g6 y.2.2.2.2.2.2.1 ∧ g7 y.2.2.2.2.2.2.2) := by
  intro H enc w base spare held fuel cs x h hw
  obtain ⟨xs, n, _, rfl, hl, hlen, hf⟩ := DataW.trod_struct hs h
  rw [zt] at hl
  obtain ⟨y0, y1, y2, y3, y4, y5, y6, y7, rfl⟩ : ∃ y0 y1 y2 y3 y4 y5 y6 y7, xs = [y0, y1, y2, y3, y4, y5, y6, y7] := by
    match xs, hlen with
    | [y0, y1, y2, y3, y4, y5, y6, y7], _ => exact ⟨y0, y1, y2, y3, y4, y5, y6, y7, rfl⟩
  obtain ⟨c0, c1, c2, c3, c4, c5, c6, c7, rfl⟩ : ∃ c0 c1 c2 c3 c4 c5 c6 c7, cs = [c0, c1, c2, c3, c4, c5, c6, c7] := by
    match cs, hl with
    | [c0, c1, c2, c3, c4, c5, c6, c7], _ => exact ⟨c0, c1, c2, c3, c4, c5, c6, c7, rfl⟩
  have hW : DataW.weights P t (.agg [y0.1, y1.1, y2.1, y3.1, y4.1, y5.1, y6.1, y7.1]) = DataW.weights P f0.type y0.1 ++ (DataW.weights P f1.type y1.1 ++ (DataW.weights P f2.type y2.1 ++ (DataW.weights P f3.type y3.1 ++ (DataW.weights P f4.type y4.1 ++ (DataW.weights P f5.type y5.1 ++ (DataW.weights P f6.type y6.1 ++ (DataW.weights P f7.type y7.1 ++ ([])))))))) := by simp [DataW.weights, hs, DataW.weightsEach]
  simp only [List.map_cons, List.map_nil] at hw
  rw [hW] at hw
  have t0 := hf 0 f0 rfl
  rw [o0, z0] at t0
  obtain ⟨a0, k0, b0⟩ := h0 H enc w base spare held n [c0] y0 t0 (fun m hm => hw m (by simp only [List.mem_append]; exact .inl hm))
  have t1 := hf 1 f1 rfl
  rw [o1, z1] at t1
  obtain ⟨a1, k1, b1⟩ := h1 H enc w base spare held n [c1] y1 t1 (fun m hm => hw m (by simp only [List.mem_append]; exact .inr (.inl hm)))
  have t2 := hf 2 f2 rfl
  rw [o2, z2] at t2
  obtain ⟨a2, k2, b2⟩ := h2 H enc w base spare held n [c2] y2 t2 (fun m hm => hw m (by simp only [List.mem_append]; exact .inr (.inr (.inl hm))))
  have t3 := hf 3 f3 rfl
  rw [o3, z3] at t3
  obtain ⟨a3, k3, b3⟩ := h3 H enc w base spare held n [c3] y3 t3 (fun m hm => hw m (by simp only [List.mem_append]; exact .inr (.inr (.inr (.inl hm)))))
  have t4 := hf 4 f4 rfl
  rw [o4, z4] at t4
  obtain ⟨a4, k4, b4⟩ := h4 H enc w base spare held n [c4] y4 t4 (fun m hm => hw m (by simp only [List.mem_append]; exact .inr (.inr (.inr (.inr (.inl hm))))))
  have t5 := hf 5 f5 rfl
  rw [o5, z5] at t5
  obtain ⟨a5, k5, b5⟩ := h5 H enc w base spare held n [c5] y5 t5 (fun m hm => hw m (by simp only [List.mem_append]; exact .inr (.inr (.inr (.inr (.inr (.inl hm)))))))
  have t6 := hf 6 f6 rfl
  rw [o6, z6] at t6
  obtain ⟨a6, k6, b6⟩ := h6 H enc w base spare held n [c6] y6 t6 (fun m hm => hw m (by simp only [List.mem_append]; exact .inr (.inr (.inr (.inr (.inr (.inr (.inl hm))))))))
  have t7 := hf 7 f7 rfl
  rw [o7, z7] at t7
  obtain ⟨a7, k7, b7⟩ := h7 H enc w base spare held n [c7] y7 t7 (fun m hm => hw m (by simp only [List.mem_append]; exact .inr (.inr (.inr (.inr (.inr (.inr (.inr (.inl hm)))))))))
  exact ⟨(a0, a1, a2, a3, a4, a5, a6, a7), ⟨[c0], [c1, c2, c3, c4, c5, c6, c7], rfl, k0, ⟨[c1], [c2, c3, c4, c5, c6, c7], rfl, k1, ⟨[c2], [c3, c4, c5, c6, c7], rfl, k2, ⟨[c3], [c4, c5, c6, c7], rfl, k3, ⟨[c4], [c5, c6, c7], rfl, k4, ⟨[c5], [c6, c7], rfl, k5, ⟨[c6], [c7], rfl, k6, k7⟩⟩⟩⟩⟩⟩⟩, b0, b1, b2, b3, b4, b5, b6, b7⟩
end Go.Proofs.YthaoaaboempajaaO
