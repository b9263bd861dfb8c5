/- The disks in memory: a block, and rows apart from it and from one another. No conditions. -/
import Derived.Test.YthaoaaboempajaaDisk6
namespace Go.Proofs.Ythaoaaboempajaa.Disk
open Go.RowKit Go.Proofs.YthaoaaboempajaaW.PrintWords Go.Proofs.YthaoaaboempajaaW.PrintLast Go.Proofs.YthaoaaboempajaaW.PrintMore Go.Proofs.YthaoaaboempajaaX
set_option linter.unusedVariables false
set_option linter.unusedSimpArgs false
def kC : Kd Chg := Kd.iso (Kd.pair (Kd.int .i64) (Kd.pair (Kd.int .i64) (Kd.pair Kd.string Kd.bool))) (fun x => (x.file, ((x.at_ : Nat) : Int), x.text, x.cut))
theorem kC_open {w : World} {x : Chg} {cs : List Value} (h : kC.K w x cs) : cs = [.int .i64 x.file, .int .i64 (x.at_ : Int), .string x.text, .bool x.cut] := by
  obtain ⟨c0, c1, rfl, h0, c2, c3, rfl, h1, c4, c5, rfl, h2, h3⟩ := h
  have e0 : c0 = [.int .i64 x.file] := h0
  have e1 : c2 = [.int .i64 (x.at_ : Int)] := h1
  have e2 : c4 = [.string x.text] := h2
  have e3 : c5 = [.bool x.cut] := h3
  subst e0 e1 e2 e3
  rfl
theorem kC_M {w : World} {base : Nat} {ok : Nat → Prop} (x : Chg) : kC.M w base ok x [.int .i64 x.file, .int .i64 (x.at_ : Int), .string x.text, .bool x.cut] :=
  ⟨[_], _, rfl, rfl, [_], _, rfl, rfl, [_], [_], rfl, rfl, rfl⟩
def chgV (x : Chg) : Value := .agg #[.int .i64 x.file, .int .i64 (x.at_ : Int), .string x.text, .bool x.cut]
/-- Blocks that were there keep their label; those that are new are of label m. -/
def relab (N : Nat) (lab : Nat → Nat) (m : Nat) : Nat → Nat := fun k => if k < N then lab k else m
section
variable {α : Type} {d : Kd α} {e base i j g : Nat} {O S : Nat → Prop} {lab : Nat → Nat} {w w' : World} {x v : Value} {l : List α}
theorem lab_keep (h : d.R e w base (fun k => O k ∧ lab k = j) x l) (hk : Kept w w' (fun k => O k ∧ lab k = i)) (hne : j ≠ i) (m : Nat) : d.R e w' base (fun k => (O k ∨ w.heap.size ≤ k) ∧ relab w.heap.size lab m k = j) x l :=
  Kd.R_mono (Kd.R_keptB h hk (fun k hk hS => hne (hk.2.symm.trans hS.2))) (fun k hk => ⟨.inl hk.1.1, by unfold relab; rw [if_pos hk.2.2]; exact hk.1.2⟩)
theorem lab_new {N : Nat} (h : d.R e w' base (fun k => (O k ∧ lab k = i) ∨ N ≤ k) x l) : d.R e w' base (fun k => (O k ∨ N ≤ k) ∧ relab N lab i k = i) x l :=
  Kd.R_mono h (fun k hk => by
    unfold relab
    rcases hk with hk | hk
    · refine ⟨.inl hk.1, ?_⟩
      split
      · exact hk.2
      · rfl
    · exact ⟨.inr hk, by rw [if_neg (by omega)]⟩)
theorem lab_far (h : d.R e w base (fun k => O k ∧ lab k = j) x l) (hg : lab g = 5) (hne : j ≠ 5) (c : Nat) (u : Value) : d.R e (w.setCell ⟨g, c, none⟩ u) base (fun k => O k ∧ lab k = j) x l :=
  Kd.R_far h (fun k hk he => by
    have e2 : k = g := he
    subst e2
    exact hne (hk.2.symm.trans hg)) u
theorem lab_only (h : d.R e w base (fun k => O k ∧ lab k = j) x l) (hk : Kept w w' (fun k => k = g)) (hg : lab g = 5) (hne : j ≠ 5) : d.R e w' base (fun k => O k ∧ lab k = j) x l :=
  Kd.R_kept h hk (fun k h1 he => by
    subst he
    exact hne (h1.2.symm.trans hg))
theorem lab_apart (h : d.R e w base (fun k => O k ∧ lab k = j) x l) (hk : Kept w w' S) (hS : ∀ k, O k → ¬ S k) : d.R e w' base (fun k => O k ∧ lab k = j) x l :=
  Kd.R_kept h hk (fun k h1 he => hS k h1.1 he)
theorem lab_narrow (h : d.R e w base (fun k => O k ∧ lab k = j) x l) : d.R e w base (fun k => (O k ∧ k < w.heap.size) ∧ lab k = j) x l :=
  Kd.R_mono (Kd.R_bound h) (fun k hk => ⟨⟨hk.1.1, hk.2.2.1⟩, hk.1.2⟩)
end
/-- The disk's rows. -/
structure Rws (w : World) (base : Nat) (O : Nat → Prop) (lab : Nat → Nat) (x0 x1 x2 x3 x4 : Value) (a0 b0 a1 b1 : List Int) (ws : List Chg) : Prop where
  r0 : (Kd.int .u8).R 5 w base (fun k => O k ∧ lab k = 0) x0 a0
  r1 : (Kd.int .u8).R 5 w base (fun k => O k ∧ lab k = 1) x1 b0
  r2 : (Kd.int .u8).R 5 w base (fun k => O k ∧ lab k = 2) x2 a1
  r3 : (Kd.int .u8).R 5 w base (fun k => O k ∧ lab k = 3) x3 b1
  r4 : kC.R 172 w base (fun k => O k ∧ lab k = 4) x4 ws
section
variable {w w' : World} {base g : Nat} {O S : Nat → Prop} {lab : Nat → Nat} {x0 x1 x2 x3 x4 v : Value} {a0 b0 a1 b1 l : List Int} {ws l' : List Chg}
theorem Rws.up0 (h : Rws w base O lab x0 x1 x2 x3 x4 a0 b0 a1 b1 ws) (hk : Kept w w' (fun k => O k ∧ lab k = 0)) (hn : (Kd.int .u8).R 5 w' base (fun k => (O k ∧ lab k = 0) ∨ w.heap.size ≤ k) v l) : Rws w' base (fun k => O k ∨ w.heap.size ≤ k) (relab w.heap.size lab 0) v x1 x2 x3 x4 l b0 a1 b1 ws :=
  ⟨lab_new hn, lab_keep h.r1 hk (by decide) 0, lab_keep h.r2 hk (by decide) 0, lab_keep h.r3 hk (by decide) 0, lab_keep h.r4 hk (by decide) 0⟩
theorem Rws.up1 (h : Rws w base O lab x0 x1 x2 x3 x4 a0 b0 a1 b1 ws) (hk : Kept w w' (fun k => O k ∧ lab k = 1)) (hn : (Kd.int .u8).R 5 w' base (fun k => (O k ∧ lab k = 1) ∨ w.heap.size ≤ k) v l) : Rws w' base (fun k => O k ∨ w.heap.size ≤ k) (relab w.heap.size lab 1) x0 v x2 x3 x4 a0 l a1 b1 ws :=
  ⟨lab_keep h.r0 hk (by decide) 1, lab_new hn, lab_keep h.r2 hk (by decide) 1, lab_keep h.r3 hk (by decide) 1, lab_keep h.r4 hk (by decide) 1⟩
theorem Rws.up2 (h : Rws w base O lab x0 x1 x2 x3 x4 a0 b0 a1 b1 ws) (hk : Kept w w' (fun k => O k ∧ lab k = 2)) (hn : (Kd.int .u8).R 5 w' base (fun k => (O k ∧ lab k = 2) ∨ w.heap.size ≤ k) v l) : Rws w' base (fun k => O k ∨ w.heap.size ≤ k) (relab w.heap.size lab 2) x0 x1 v x3 x4 a0 b0 l b1 ws :=
  ⟨lab_keep h.r0 hk (by decide) 2, lab_keep h.r1 hk (by decide) 2, lab_new hn, lab_keep h.r3 hk (by decide) 2, lab_keep h.r4 hk (by decide) 2⟩
theorem Rws.up3 (h : Rws w base O lab x0 x1 x2 x3 x4 a0 b0 a1 b1 ws) (hk : Kept w w' (fun k => O k ∧ lab k = 3)) (hn : (Kd.int .u8).R 5 w' base (fun k => (O k ∧ lab k = 3) ∨ w.heap.size ≤ k) v l) : Rws w' base (fun k => O k ∨ w.heap.size ≤ k) (relab w.heap.size lab 3) x0 x1 x2 v x4 a0 b0 a1 l ws :=
  ⟨lab_keep h.r0 hk (by decide) 3, lab_keep h.r1 hk (by decide) 3, lab_keep h.r2 hk (by decide) 3, lab_new hn, lab_keep h.r4 hk (by decide) 3⟩
theorem Rws.up4 (h : Rws w base O lab x0 x1 x2 x3 x4 a0 b0 a1 b1 ws) (hk : Kept w w' (fun k => O k ∧ lab k = 4)) (hn : kC.R 172 w' base (fun k => (O k ∧ lab k = 4) ∨ w.heap.size ≤ k) v l') : Rws w' base (fun k => O k ∨ w.heap.size ≤ k) (relab w.heap.size lab 4) x0 x1 x2 x3 v a0 b0 a1 b1 l' :=
  ⟨lab_keep h.r0 hk (by decide) 4, lab_keep h.r1 hk (by decide) 4, lab_keep h.r2 hk (by decide) 4, lab_keep h.r3 hk (by decide) 4, lab_new hn⟩
theorem Rws.set (h : Rws w base O lab x0 x1 x2 x3 x4 a0 b0 a1 b1 ws) (hg : lab g = 5) (c : Nat) (u : Value) : Rws (w.setCell ⟨g, c, none⟩ u) base O lab x0 x1 x2 x3 x4 a0 b0 a1 b1 ws :=
  ⟨lab_far h.r0 hg (by decide) c u, lab_far h.r1 hg (by decide) c u, lab_far h.r2 hg (by decide) c u, lab_far h.r3 hg (by decide) c u, lab_far h.r4 hg (by decide) c u⟩
theorem Rws.only (h : Rws w base O lab x0 x1 x2 x3 x4 a0 b0 a1 b1 ws) (hk : Kept w w' (fun k => k = g)) (hg : lab g = 5) : Rws w' base O lab x0 x1 x2 x3 x4 a0 b0 a1 b1 ws :=
  ⟨lab_only h.r0 hk hg (by decide), lab_only h.r1 hk hg (by decide), lab_only h.r2 hk hg (by decide), lab_only h.r3 hk hg (by decide), lab_only h.r4 hk hg (by decide)⟩
theorem Rws.apart (h : Rws w base O lab x0 x1 x2 x3 x4 a0 b0 a1 b1 ws) (hk : Kept w w' S) (hS : ∀ k, O k → ¬ S k) : Rws w' base O lab x0 x1 x2 x3 x4 a0 b0 a1 b1 ws :=
  ⟨lab_apart h.r0 hk hS, lab_apart h.r1 hk hS, lab_apart h.r2 hk hS, lab_apart h.r3 hk hS, lab_apart h.r4 hk hS⟩
theorem Rws.below (h : Rws w base O lab x0 x1 x2 x3 x4 a0 b0 a1 b1 ws) (hb : Below w.heap.size w w') : Rws w' base O lab x0 x1 x2 x3 x4 a0 b0 a1 b1 ws :=
  ⟨Kd.R_below h.r0 hb, Kd.R_below h.r1 hb, Kd.R_below h.r2 hb, Kd.R_below h.r3 hb, Kd.R_below h.r4 hb⟩
theorem Rws.mono {O' : Nat → Prop} (h : Rws w base O lab x0 x1 x2 x3 x4 a0 b0 a1 b1 ws) (hO : ∀ k, O k → O' k) : Rws w base O' lab x0 x1 x2 x3 x4 a0 b0 a1 b1 ws :=
  ⟨Kd.R_mono h.r0 (fun k hk => ⟨hO k hk.1, hk.2⟩), Kd.R_mono h.r1 (fun k hk => ⟨hO k hk.1, hk.2⟩), Kd.R_mono h.r2 (fun k hk => ⟨hO k hk.1, hk.2⟩), Kd.R_mono h.r3 (fun k hk => ⟨hO k hk.1, hk.2⟩), Kd.R_mono h.r4 (fun k hk => ⟨hO k hk.1, hk.2⟩)⟩
theorem Rws.narrow (h : Rws w base O lab x0 x1 x2 x3 x4 a0 b0 a1 b1 ws) : Rws w base (fun k => O k ∧ k < w.heap.size) lab x0 x1 x2 x3 x4 a0 b0 a1 b1 ws :=
  ⟨lab_narrow h.r0, lab_narrow h.r1, lab_narrow h.r2, lab_narrow h.r3, lab_narrow h.r4⟩
end
/-- The disk at a block. -/
def DX (w : World) (base g : Nat) (O : Nat → Prop) (a0 b0 a1 b1 : ByteArray) (ws : List Chg) (f : Int) (d : Bool) (c : Int) : Prop :=
  ∃ lab x0 x1 x2 x3 x4, w.heap[g]? = some (.cells (dcells x0 x1 x2 x3 x4 f d c) 146 (0, 0)) ∧ base ≤ g ∧ O g ∧ lab g = 5 ∧ Rws w base O lab x0 x1 x2 x3 x4 (bytesOf a0) (bytesOf b0) (bytesOf a1) (bytesOf b1) ws
def DD (w : World) (base g : Nat) (O : Nat → Prop) (s : St) : Prop := DX w base g O s.l0 s.s0 s.l1 s.s1 s.ws s.f s.d s.c
section
variable {w w' : World} {base g : Nat} {O S : Nat → Prop} {a0 b0 a1 b1 : ByteArray} {ws : List Chg} {f c : Int} {d : Bool}
theorem DX.apart (h : DX w base g O a0 b0 a1 b1 ws f d c) (hk : Kept w w' S) (hS : ∀ k, O k → ¬ S k) : DX w' base g O a0 b0 a1 b1 ws f d c := by
  obtain ⟨lab, x0, x1, x2, x3, x4, hb, hg, hO, hl, hr⟩ := h
  exact ⟨lab, x0, x1, x2, x3, x4, blk_kept hb hk (hS g hO), hg, hO, hl, hr.apart hk hS⟩
theorem DX.mono {O' : Nat → Prop} (h : DX w base g O a0 b0 a1 b1 ws f d c) (hS : ∀ k, O k → O' k) : DX w base g O' a0 b0 a1 b1 ws f d c := by
  obtain ⟨lab, x0, x1, x2, x3, x4, hb, hg, hO, hl, hr⟩ := h
  exact ⟨lab, x0, x1, x2, x3, x4, hb, hg, hS g hO, hl, hr.mono hS⟩
theorem DX.narrow (h : DX w base g O a0 b0 a1 b1 ws f d c) : DX w base g (fun k => O k ∧ k < w.heap.size) a0 b0 a1 b1 ws f d c := by
  obtain ⟨lab, x0, x1, x2, x3, x4, hb, hg, hO, hl, hr⟩ := h
  exact ⟨lab, x0, x1, x2, x3, x4, hb, hg, ⟨hO, blk_lt hb⟩, hl, hr.narrow⟩
end
/-- The document's disk at a block. -/
def RX (w : World) (base g : Nat) (O : Nat → Prop) (a0 a1 : ByteArray) (ws : List Chg) (f : Int) (d : Bool) (c : Int) (x2 : Value) : Prop :=
  w.heap[g]? = some (.cells (rcells (.string a0) (.string a1) x2 f d c) 150 (0, 0)) ∧ base ≤ g ∧ O g ∧ kC.R 181 w base (fun k => O k ∧ k ≠ g) x2 ws
def RD (w : World) (base g : Nat) (O : Nat → Prop) (s : St) : Prop := ∃ x2, RX w base g O s.l0 s.l1 s.ws s.f s.d s.c x2
section
variable {w w' : World} {base g : Nat} {O S : Nat → Prop} {s : St}
theorem RD.apart (h : RD w base g O s) (hk : Kept w w' S) (hS : ∀ k, O k → ¬ S k) : RD w' base g O s := by
  obtain ⟨x2, hb, hg, hO, hr⟩ := h
  exact ⟨x2, blk_kept hb hk (hS g hO), hg, hO, Kd.R_kept hr hk (fun k h1 => hS k h1.1)⟩
theorem RD.mono {O' : Nat → Prop} (h : RD w base g O s) (hS : ∀ k, O k → O' k) : RD w base g O' s := by
  obtain ⟨x2, hb, hg, hO, hr⟩ := h
  exact ⟨x2, hb, hg, hS g hO, Kd.R_mono hr (fun k h1 => ⟨hS k h1.1, h1.2⟩)⟩
theorem RD.narrow (h : RD w base g O s) : RD w base g (fun k => O k ∧ k < w.heap.size) s := by
  obtain ⟨x2, hb, hg, hO, hr⟩ := h
  exact ⟨x2, hb, hg, ⟨hO, blk_lt hb⟩, Kd.R_mono (Kd.R_bound hr) (fun k h1 => ⟨⟨h1.1.1, h1.2.2.1⟩, h1.1.2⟩)⟩
end
end Go.Proofs.Ythaoaaboempajaa.Disk
