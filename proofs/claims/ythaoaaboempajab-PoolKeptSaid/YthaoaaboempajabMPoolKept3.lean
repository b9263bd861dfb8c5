/- Lines of the texts that the claim PoolKept rests on, bundled: part 3; no conditions but those that each row names. -/
import Derived.Test.YthaoaaboempajabMPoolKept2
import Derived.Deep.CutBlock
import Derived.Test.YthaoaaboempajabProg
import Derived.Below
import Derived.Deep.Draws
import Derived.Deep.AppendLies
import Derived.Maps.AppendAt
import Derived.OwnWalk
import Derived.Laws.BytesArg
import Derived.Laws.MakeOwn
import Derived.Laws.OwnMore
import Derived.Deep.OwnRows
import Derived.Tactics
import Derived.Lib.ConvBytes
import Derived.Laws.Slices
import Derived.WalkKit
import Derived.KernelRfl
import Derived.RowKit3
import Derived.Deep.LoopGhost
import Derived.Deep.QuietTactic
import Derived.BigQuiet
import Derived.WideLaws
import Derived.Deep.DeepCutAuto
import Derived.Deep.RegionHeld3
import Derived.Laws.Rows
import Derived.Lib.AppendStr
import Derived.ArgAppend
import Derived.Laws.IdiomCopy
import Derived.OrdersHeld
import Derived.Laws.BitsLemmas
import Derived.RowKit
import Derived.Laws.CopyOwn
import Derived.Lib.BufferWrite
import Derived.OpenShut
namespace Go.Proofs.Ythaoaaboempajab.Log
open Go.RowKit Go.Maps Go.Proofs.Ythaoaaboempajab.QLogRuns Go.Proofs.Ythaoaaboempajab.QDiskRuns Go.Proofs.Ythaoaaboempajab.Disk Go.Proofs.YthaoaaboempajabW.PrintWords Go.Proofs.YthaoaaboempajabW.PrintLast Go.Proofs.YthaoaaboempajabW.PrintMore
set_option linter.unusedVariables false
set_option linter.unusedSimpArgs false
theorem Lg.ok.append {g : Lg} (h : g.ok) (s : St) (n : Int) (t : ByteArray) : (Lg.append s g n t).2.2.ok := by
  unfold Lg.append
  split
  · exact h
  · rename_i hb
    split
    · exact h
    · rename_i hl
      split
      · refine ⟨by simp; omega, by have := h.kept; simp; omega, h.pages, h.slot, h.number, ?_⟩
        intro c hc
        rcases List.mem_append.mp hc with hc | hc
        · exact h.fr c hc
        · rw [List.mem_singleton] at hc
          subst hc
          exact ⟨by simp only; omega, by simp only; omega⟩
      · exact h
theorem St.ok.appended {s : St} {m : Nat} (h : s.ok m) (g : Lg) (n : Int) (t : ByteArray) : (Lg.append s g n t).2.1.ok (m + 1) := by
  unfold Lg.append
  split
  · exact h.mono (Nat.le_succ m)
  · split
    · exact h.mono (Nat.le_succ m)
    · split
      · exact h.write _ _ _
      · exact h.write _ _ _
theorem Lg.ok.tell {g : Lg} (h : g.ok) (s : St) (f p : Nat) : (Lg.tell s g f p).2.2.ok := by
  unfold Lg.tell
  simp only
  split
  · exact h
  · split
    · exact h
    · exact ⟨h.n, h.kept, h.pages, by have := h.slot; simp only; omega, by simp only; omega, h.fr⟩
theorem St.ok.told {s : St} {m : Nat} (h : s.ok m) (g : Lg) (f p : Nat) : (Lg.tell s g f p).2.1.ok (m + 2) := by
  unfold Lg.tell
  simp only
  split
  · exact (h.write _ _ _).mono (by omega)
  · split
    · exact (h.write _ _ _).sync _
    · exact (h.write _ _ _).sync _
theorem Lg.tell_fr (s : St) (g : Lg) (f p : Nat) : (Lg.tell s g f p).2.2.fr = g.fr ∧ (Lg.tell s g f p).2.2.kept = g.kept ∧ (Lg.tell s g f p).2.2.pages = g.pages := by
  unfold Lg.tell
  simp only
  split
  · exact ⟨rfl, rfl, rfl⟩
  · split <;> exact ⟨rfl, rfl, rfl⟩
structure Run where
  c : Int
  s : St
  g : Lg
def Run.andThen (r : Run) (f : St → Lg → Run) : Run := if r.c ≠ 0 then r else f r.s r.g
def rAppend (n : Int) (t : ByteArray) (s : St) (g : Lg) : Run := ⟨(Lg.append s g n t).1, (Lg.append s g n t).2.1, (Lg.append s g n t).2.2⟩
def rTell (f p : Nat) (s : St) (g : Lg) : Run := ⟨(Lg.tell s g f p).1, (Lg.tell s g f p).2.1, (Lg.tell s g f p).2.2⟩
def rSync (f : Int) (s : St) (g : Lg) : Run := ⟨(s.sync f).1, (s.sync f).2, g⟩
def rCut (f a : Int) (s : St) (g : Lg) : Run := ⟨(s.cutTo f a).1, (s.cutTo f a).2, g⟩
def Lg.commit (s : St) (g : Lg) (n : Int) (t : ByteArray) (p : Int) : Run :=
  if p < 1 ∨ p > 65536 then ⟨1, s, g⟩ else
  let r := ((rAppend n t s g).andThen (rSync 1)).andThen (fun s g => rTell g.fr.length p.toNat s g)
  if r.c = 0 then { r with g := { r.g with pages := p.toNat, kept := r.g.fr.length } } else r
set_option maxHeartbeats 4000000 in
theorem append143.calls (bl b1 b2 gd gl : Nat) (n : Int) (t : ByteArray) (bx : List (Nat × Obj)) (O : Nat → Prop) (s : St) (g : Lg) (m : Nat) (w0 w : World) (h : WB w0 w bx gd (LX w0.heap.size gl gd g) O s) (hok : s.ok m) (hm : m ≤ 900000000) (hg : g.ok) (hn : -9223372036854775808 ≤ n ∧ n < 9223372036854775808)
    (hb : (bl, bx1 (pv gl) 60) ∈ bx) (hb1 : (b1, bx1 (.int .i64 n) 3) ∈ bx) (hb2 : (b2, bx1 (.string t) 9) ∈ bx) :
    Calls Try.prog 51 #[pv bl, pv b1, pv b2] w fun e w' => e = .returned (.int .i64 (rAppend n t s g).c) ∧ Ran w0 w bx gd (LX w0.heap.size gl gd (rAppend n t s g).g) O (rAppend n t s g).s w' := by
  have HC := Aside0.mk (h.onL (append.calls gd gl O s g m n t w0 w h.hB h.hD hok hm hg hn))
  have p0 : w.cell? ⟨bl, 0, none⟩ = some (pv gl) := (h.box _ _ _ hb 0).trans rfl
  have p1 : w.cell? ⟨b1, 0, none⟩ = some (.int .i64 n) := (h.box _ _ _ hb1 0).trans rfl
  have p2 : w.cell? ⟨b2, 0, none⟩ = some (.string t) := (h.box _ _ _ hb2 0).trans rfl
  clear hb hb1 hb2 h hok hm hg hn
  go_enter Try.func51, Try.ntmps51
  go_wp2_with (go_at_call 36; (with_reducible refine HC.out.mono ?_); rintro e w2 ⟨rfl, h2⟩; have H2 := Aside0.mk h2; clear h2)
  go_ret
  exact ⟨rfl, H2.out⟩
theorem WB.cells {w0 w : World} {bx : List (Nat × Obj)} {gd gl : Nat} {g : Lg} {O : Nat → Prop} {s : St} (h : WB w0 w bx gd (LX w0.heap.size gl gd g) O s) : w.cell? ⟨gl, 1, none⟩ = some (.int .i64 g.fr.length) ∧ w.cell? ⟨gl, 2, none⟩ = some (.int .i64 g.pages) := by
  obtain ⟨bn, bk, hx, -⟩ := PL.cells h.hD
  exact ⟨(blk_cell hx 1).trans rfl, (blk_cell hx 2).trans rfl⟩
set_option maxHeartbeats 4000000 in
set_option maxRecDepth 100000 in
theorem tell145.calls (bl b1 gd gl : Nat) (p : Nat) (bx : List (Nat × Obj)) (O : Nat → Prop) (s : St) (g : Lg) (m : Nat) (w0 w : World) (h : WB w0 w bx gd (LX w0.heap.size gl gd g) O s) (hok : s.ok m) (hm : m ≤ 800000000) (hg : g.ok) (hp : p ≤ 65536)
    (hb : (bl, bx1 (pv gl) 60) ∈ bx) (hb1 : (b1, bx1 (.int .i64 p) 3) ∈ bx) :
    Calls Try.prog 53 #[pv bl, pv b1] w fun e w' => e = .returned (.int .i64 (rTell g.fr.length p s g).c) ∧ Ran w0 w bx gd (LX w0.heap.size gl gd (rTell g.fr.length p s g).g) O (rTell g.fr.length p s g).s w' := by
  have hl := lkLX w0.heap.size gd gl g
  have T0 := Aside0.mk h
  have HL := Aside0.mk hl
  have hd := h.drew hl
  have HC := Aside0.mk (hd.onL (tell.calls gd gl O s g m g.fr.length p w0 w.drew hd.hB hd.hD hok (by omega) hg (by have := hg.n; omega) (by omega)))
  have p0 : w.cell? ⟨bl, 0, none⟩ = some (pv gl) := (h.box _ _ _ hb 0).trans rfl
  have p1 : w.cell? ⟨b1, 0, none⟩ = some (.int .i64 p) := (h.box _ _ _ hb1 0).trans rfl
  have p2 := (WB.cells h).1
  have hh : ∀ {w1 : World} {O1 : Nat → Prop} {s1 : St}, WB w0 w1 bx gd (LX w0.heap.size gl gd (Lg.tell s g g.fr.length p).2.2) O1 s1 → w1.cell? ⟨bl, 0, none⟩ = some (pv gl) ∧ w1.cell? ⟨b1, 0, none⟩ = some (.int .i64 p) ∧ w1.cell? ⟨gl, 1, none⟩ = some (.int .i64 g.fr.length) :=
    fun h1 => ⟨(h1.box _ _ _ hb 0).trans rfl, (h1.box _ _ _ hb1 0).trans rfl, by have := (WB.cells h1).1; rw [(Lg.tell_fr s g g.fr.length p).1] at this; exact this⟩
  have HH := Aside0.mk @hh
  clear hh
  clear hb hb1 h hok hm hg hp hl hd
  go_enter Try.func53, Try.ntmps53
  go_upto_region 1 with (fail)
  go_region_held3 (fun w' => w'.cell? ⟨bl, 0, none⟩ = some (pv gl) ∧ w'.cell? ⟨b1, 0, none⟩ = some (.int .i64 p) ∧ w'.cell? ⟨gl, 1, none⟩ = some (.int .i64 g.fr.length)) (first | exact HH.out H2.out.1 | exact ⟨p0, p1, p2⟩)
    (first
    | (go_at_call 54; (with_reducible refine HC.out.mono ?_); rintro e w3 ⟨rfl, hb⟩; have H2 := Aside0.mk hb; clear hb))
  go_wp2_with (fail)
  go_ret
  exact ⟨rfl, H2.out⟩
theorem Lg.ok.commit {g : Lg} (h : g.ok) (s : St) (n : Int) (t : ByteArray) (p : Int) : (Lg.commit s g n t p).g.ok := by
  unfold Lg.commit
  split
  · exact h
  · rename_i hp
    have h1 : (rAppend n t s g).g.ok := h.append s n t
    have h2 : ((rAppend n t s g).andThen (rSync 1)).g.ok := by
      unfold Run.andThen
      split
      · exact h1
      · exact h1
    have h3 : (((rAppend n t s g).andThen (rSync 1)).andThen (fun s g => rTell g.fr.length p.toNat s g)).g.ok := by
      generalize ((rAppend n t s g).andThen (rSync 1)) = r at h2 ⊢
      unfold Run.andThen
      split
      · exact h2
      · exact Lg.ok.tell h2 _ _ _
    simp only
    generalize (((rAppend n t s g).andThen (rSync 1)).andThen (fun s g => rTell g.fr.length p.toNat s g)) = r at h3 ⊢
    split
    · exact ⟨h3.n, Nat.le_refl _, by simp only; omega, h3.slot, h3.number, h3.fr⟩
    · exact h3
theorem Lg.commit_ok {s : St} {m : Nat} (h : s.ok m) (g : Lg) (n : Int) (t : ByteArray) (p : Int) : (Lg.commit s g n t p).s.ok (m + 4) := by
  unfold Lg.commit
  split
  · exact h.mono (by omega)
  · rename_i hp
    have h1 : (rAppend n t s g).s.ok (m + 1) := St.ok.appended h g n t
    have h2 : ((rAppend n t s g).andThen (rSync 1)).s.ok (m + 2) := by
      unfold Run.andThen
      split
      · exact h1.mono (by omega)
      · exact h1.sync _
    have h3 : (((rAppend n t s g).andThen (rSync 1)).andThen (fun s g => rTell g.fr.length p.toNat s g)).s.ok (m + 4) := by
      generalize ((rAppend n t s g).andThen (rSync 1)) = r at h2 ⊢
      unfold Run.andThen
      split
      · exact h2.mono (by omega)
      · exact St.ok.told h2 _ _ _
    simp only
    split <;> exact h3
set_option maxHeartbeats 8000000 in
set_option maxRecDepth 100000 in
theorem commit.calls (gd gl : Nat) (O : Nat → Prop) (s : St) (g : Lg) (m : Nat) (n : Int) (t : ByteArray) (p : Int) (w0 w : World) (hB : Below w0.heap.size w0 w) (hD : PL w w0.heap.size gd gl O s g) (hok : s.ok m) (hm : m ≤ 700000000) (hg : g.ok)
    (hn : -9223372036854775808 ≤ n ∧ n < 9223372036854775808) :
    Calls Try.prog 24 #[pv gl, .int .i64 n, .string t, .int .i64 p] w fun e w' => e = .returned (.int .i64 (Lg.commit s g n t p).c) ∧
      PL w' w0.heap.size gd gl (fun k => O k ∨ w.heap.size ≤ k) (Lg.commit s g n t p).s (Lg.commit s g n t p).g ∧ Below w0.heap.size w0 w' ∧ Kept w w' O := by
  have HB := Aside0.mk hB
  have HD := Aside0.mk hD
  have HOK := Aside0.mk hok
  have HM := Aside0.mk hm
  have HG := Aside0.mk hg
  have HN := Aside0.mk hn
  clear hB hD hok hm hg hn
  by_cases hp : p < 1 ∨ p > 65536
  · have HS := Aside0.mk (show Lg.commit s g n t p = ⟨1, s, g⟩ by unfold Lg.commit; rw [if_pos hp])
    have fin : ∀ w' : World, Below w.heap.size w w' → (Ending.returned (Value.int .i64 1) = .returned (.int .i64 (Lg.commit s g n t p).c) ∧ PL w' w0.heap.size gd gl (fun k => O k ∨ w.heap.size ≤ k) (Lg.commit s g n t p).s (Lg.commit s g n t p).g ∧ Below w0.heap.size w0 w' ∧ Kept w w' O) := by
      intro w' hb
      rw [HS.out]
      exact ⟨rfl, (frPL _ _ _ _ _).mono ((frPL _ _ _ _ _).apart HD.out (S := fun _ => False) (Kept.of_below hb _) (fun _ _ h => h)) (fun k hk => .inl hk), below_step HB.out hb, Kept.of_below hb _⟩
    have FIN := Aside0.mk fin
    clear fin
    by_cases h1 : p < 1
    · have q1 : decide (p < 1) = true := decide_eq_true h1
      clear h1 hp
      go_enter Try.func24, Try.ntmps24
      go_upto_region 1 with (first
    | ((with_reducible refine gate_dst (N := 4) rfl ?_); refine box_event ?hg (N := 4) ?hd (cs := #[pv gl]) (t := 60) ?hr ?_; (case hd => rfl); (case hg => rfl); (case hr => first | (go_simp; done) | (go_simp; rfl)); intro g1 hg1 w1 hbox hb; have HX1 := Aside0.mk hbox; have HB1 := Aside0.mk hb; have HG1 := Aside0.mk hg1; clear hg1 hbox hb)
    | ((with_reducible refine gate_dst (N := 5) rfl ?_); refine box_event ?hg (N := 5) ?hd (cs := #[.int .i64 n]) (t := 3) ?hr ?_; (case hd => rfl); (case hg => rfl); (case hr => first | (go_simp; done) | (go_simp; rfl)); intro g2 hg2 w2 hbox hb; have HX2 := Aside0.mk hbox; have HB2 := Aside0.mk hb; have HG2 := Aside0.mk hg2; clear hg2 hbox hb)
    | ((with_reducible refine gate_dst (N := 6) rfl ?_); refine box_event ?hg (N := 6) ?hd (cs := #[.string t]) (t := 9) ?hr ?_; (case hd => rfl); (case hg => rfl); (case hr => first | (go_simp; done) | (go_simp; rfl)); intro g3 hg3 w3 hbox hb; have HX3 := Aside0.mk hbox; have HB3 := Aside0.mk hb; have HG3 := Aside0.mk hg3; clear hg3 hbox hb)
    | ((with_reducible refine gate_dst (N := 7) rfl ?_); refine box_event ?hg (N := 7) ?hd (cs := #[.int .i64 p]) (t := 3) ?hr ?_; (case hd => rfl); (case hg => rfl); (case hr => first | (go_simp; done) | (go_simp; rfl)); intro g4 hg4 w4 hbox hb; have HX4 := Aside0.mk hbox; have HB4 := Aside0.mk hb; have HG4 := Aside0.mk hg4; clear hg4 hbox hb))
      have HBW := Aside0.mk (below_step (below_step (below_step (below_step (Below.refl _ w) HB1.out) HB2.out) HB3.out) HB4.out)
      have p7 : w4.cell? ⟨g4, 0, none⟩ = some (.int .i64 p) := (blk_cell HX4.out 0).trans rfl
      go_wp2_with (fail)
      go_ret
      exact FIN.out _ HBW.out
    · have q1 : decide (p < 1) = false := decide_eq_false h1
      have q2 : decide (p > 65536) = true := decide_eq_true (by omega)
      have q2' : decide (65536 < p) = true := decide_eq_true (by omega)
      clear h1 hp
      go_enter Try.func24, Try.ntmps24
      go_upto_region 1 with (first
    | ((with_reducible refine gate_dst (N := 4) rfl ?_); refine box_event ?hg (N := 4) ?hd (cs := #[pv gl]) (t := 60) ?hr ?_; (case hd => rfl); (case hg => rfl); (case hr => first | (go_simp; done) | (go_simp; rfl)); intro g1 hg1 w1 hbox hb; have HX1 := Aside0.mk hbox; have HB1 := Aside0.mk hb; have HG1 := Aside0.mk hg1; clear hg1 hbox hb)
    | ((with_reducible refine gate_dst (N := 5) rfl ?_); refine box_event ?hg (N := 5) ?hd (cs := #[.int .i64 n]) (t := 3) ?hr ?_; (case hd => rfl); (case hg => rfl); (case hr => first | (go_simp; done) | (go_simp; rfl)); intro g2 hg2 w2 hbox hb; have HX2 := Aside0.mk hbox; have HB2 := Aside0.mk hb; have HG2 := Aside0.mk hg2; clear hg2 hbox hb)
    | ((with_reducible refine gate_dst (N := 6) rfl ?_); refine box_event ?hg (N := 6) ?hd (cs := #[.string t]) (t := 9) ?hr ?_; (case hd => rfl); (case hg => rfl); (case hr => first | (go_simp; done) | (go_simp; rfl)); intro g3 hg3 w3 hbox hb; have HX3 := Aside0.mk hbox; have HB3 := Aside0.mk hb; have HG3 := Aside0.mk hg3; clear hg3 hbox hb)
    | ((with_reducible refine gate_dst (N := 7) rfl ?_); refine box_event ?hg (N := 7) ?hd (cs := #[.int .i64 p]) (t := 3) ?hr ?_; (case hd => rfl); (case hg => rfl); (case hr => first | (go_simp; done) | (go_simp; rfl)); intro g4 hg4 w4 hbox hb; have HX4 := Aside0.mk hbox; have HB4 := Aside0.mk hb; have HG4 := Aside0.mk hg4; clear hg4 hbox hb))
      have HBW := Aside0.mk (below_step (below_step (below_step (below_step (Below.refl _ w) HB1.out) HB2.out) HB3.out) HB4.out)
      have p7 : w4.cell? ⟨g4, 0, none⟩ = some (.int .i64 p) := (blk_cell HX4.out 0).trans rfl
      go_wp2_with (fail)
      go_ret
      exact FIN.out _ HBW.out
  · have q1 : decide (p < 1) = false := decide_eq_false (by omega)
    have q2 : decide (p > 65536) = false := decide_eq_false (by omega)
    have q2' : decide (65536 < p) = false := decide_eq_false (by omega)
    obtain ⟨pn, rfl⟩ : ∃ k : Nat, p = (k : Int) := ⟨p.toNat, by omega⟩
    have HP := Aside0.mk (show 1 ≤ pn ∧ pn ≤ 65536 by omega)
    obtain ⟨rA, hrA⟩ : ∃ r, r = rAppend n t s g := ⟨_, rfl⟩
    obtain ⟨rB, hrB⟩ : ∃ r, r = rSync 1 rA.s rA.g := ⟨_, rfl⟩
    obtain ⟨rC, hrC⟩ : ∃ r, r = rTell rB.g.fr.length pn rB.s rB.g := ⟨_, rfl⟩
    obtain ⟨rF, hrF⟩ : ∃ r, r = if rA.c ≠ 0 then rA else if rB.c ≠ 0 then rB else rC := ⟨_, rfl⟩
    have hS : Lg.commit s g n t (pn : Int) = if rF.c = 0 then { rF with g := { rF.g with pages := pn, kept := rF.g.fr.length } } else rF := by
      have e : ((rAppend n t s g).andThen (rSync 1)).andThen (fun s g => rTell g.fr.length pn s g) = rF := by
        have eB : (rA.andThen (rSync 1)) = if rA.c ≠ 0 then rA else rB := by rw [hrB]; rfl
        rw [← hrA, eB, hrF]
        unfold Run.andThen
        by_cases e1 : rA.c = 0 <;> by_cases e2 : rB.c = 0 <;> simp [e1, e2, hrC]
      unfold Lg.commit
      rw [if_neg hp]
      simp only [Int.toNat_natCast]
      rw [e]
    have HS := Aside0.mk hS
    have gokA : rA.g.ok := by rw [hrA]; exact HG.out.append s n t
    have gokB : rB.g.ok := by rw [hrB]; exact gokA
    have gokC : rC.g.ok := by rw [hrC]; exact Lg.ok.tell gokB _ _ _
    have okA : rA.s.ok (m + 1) := by rw [hrA]; exact St.ok.appended HOK.out g n t
    have okB : rB.s.ok (m + 2) := by rw [hrB]; exact okA.sync 1
    have GF := Aside0.mk (show rF.g.ok by rw [hrF]; split; exact gokA; split; exact gokB; exact gokC)
    have HRA := Aside0.mk hrA
    have HRB := Aside0.mk hrB
    have HRC := Aside0.mk hrC
    have HRF := Aside0.mk hrF
    have GA := Aside0.mk gokA
    have GB := Aside0.mk gokB
    have KA := Aside0.mk okA
    have KB := Aside0.mk okB
    clear hp hrA hrB hrC hrF hS gokA gokB gokC okA okB
    obtain ⟨bn00, bk00, -, -, -, -, -, -, hgl00, -⟩ := PL.cells HD.out
    have hgl0 := Aside0.mk hgl00
    clear hgl00
    go_enter Try.func24, Try.ntmps24
    go_upto_region 1 with (first
    | ((with_reducible refine gate_dst (N := 4) rfl ?_); refine box_event ?hg (N := 4) ?hd (cs := #[pv gl]) (t := 60) ?hr ?_; (case hd => rfl); (case hg => rfl); (case hr => first | (go_simp; done) | (go_simp; rfl)); intro g1 hg1 w1 hbox hb; have HX1 := Aside0.mk hbox; have HB1 := Aside0.mk hb; have HG1 := Aside0.mk hg1; clear hg1 hbox hb)
    | ((with_reducible refine gate_dst (N := 5) rfl ?_); refine box_event ?hg (N := 5) ?hd (cs := #[.int .i64 n]) (t := 3) ?hr ?_; (case hd => rfl); (case hg => rfl); (case hr => first | (go_simp; done) | (go_simp; rfl)); intro g2 hg2 w2 hbox hb; have HX2 := Aside0.mk hbox; have HB2 := Aside0.mk hb; have HG2 := Aside0.mk hg2; clear hg2 hbox hb)
    | ((with_reducible refine gate_dst (N := 6) rfl ?_); refine box_event ?hg (N := 6) ?hd (cs := #[.string t]) (t := 9) ?hr ?_; (case hd => rfl); (case hg => rfl); (case hr => first | (go_simp; done) | (go_simp; rfl)); intro g3 hg3 w3 hbox hb; have HX3 := Aside0.mk hbox; have HB3 := Aside0.mk hb; have HG3 := Aside0.mk hg3; clear hg3 hbox hb)
    | ((with_reducible refine gate_dst (N := 7) rfl ?_); refine box_event ?hg (N := 7) ?hd (cs := #[.int .i64 pn]) (t := 3) ?hr ?_; (case hd => rfl); (case hg => rfl); (case hr => first | (go_simp; done) | (go_simp; rfl)); intro g4 hg4 w4 hbox hb; have HX4 := Aside0.mk hbox; have HB4 := Aside0.mk hb; have HG4 := Aside0.mk hg4; clear hg4 hbox hb))
    have HBW := Aside0.mk (below_step (below_step (below_step (below_step (Below.refl _ w) HB1.out) HB2.out) HB3.out) HB4.out)
    have p7 : w4.cell? ⟨g4, 0, none⟩ = some (.int .i64 pn) := (blk_cell HX4.out 0).trans rfl
    go_upto_region 3 with (fail)
    try go_frame
    obtain ⟨O', hO'⟩ : ∃ O' : Nat → Prop, O' = fun k => O k ∧ w0.heap.size ≤ k ∧ k < w.heap.size := ⟨_, rfl⟩
    have HO := Aside0.mk hO'
    obtain ⟨arr, harr⟩ : ∃ arr : Obj, arr = .cells #[.func (.func 51) #[] #[pv g1, pv g2, pv g3], .func (.func 52) #[] #[pv g1], .func (.func 53) #[] #[pv g1, pv g4]] 46 (0, 0) := ⟨_, rfl⟩
    have HARR := Aside0.mk harr
    obtain ⟨bx, hbx⟩ : ∃ bx : List (Nat × Obj), bx = [(g1, bx1 (pv gl) 60), (g2, bx1 (.int .i64 n) 3), (g3, bx1 (.string t) 9), (g4, bx1 (.int .i64 pn) 3), (w4.heap.size, arr)] := ⟨_, rfl⟩
    have HBX := Aside0.mk hbx
    have hwb : WB w0 (w4.alloc arr) bx gd (LX w0.heap.size gl gd g) O' s := by
      have hba := below_step HBW.out ((Below.refl w4.heap.size w4).alloc (Nat.le_refl _) arr)
      refine ⟨below_step HB.out hba, ?_, ?_⟩
      · rw [HO.out]
        exact (frPL _ _ _ _ _).apart ((frPL _ _ _ _ _).narrow HD.out) (S := fun _ => False) (Kept.of_below hba _) (fun _ _ h => h)
      · have z1 : w.heap.size ≤ g1 := Nat.le_of_eq HG1.out.symm
        have z2 : w.heap.size ≤ g2 := by rw [HG2.out]; exact HB1.out.size
        have z3 : w.heap.size ≤ g3 := by rw [HG3.out]; exact Nat.le_trans HB1.out.size HB2.out.size
        have z4 : w.heap.size ≤ g4 := by rw [HG4.out]; exact Nat.le_trans HB1.out.size (Nat.le_trans HB2.out.size HB3.out.size)
        have z5 := HBW.out.size
        have no : ∀ k, w.heap.size ≤ k → ¬ O' k := fun k hk ho => by rw [HO.out] at ho; omega
        rw [HBX.out]
        intro x hx
        simp only [List.mem_cons, List.not_mem_nil, or_false] at hx
        rcases hx with rfl | rfl | rfl | rfl | rfl
        · exact ⟨blk_alloc (blk_below (blk_below (blk_below HX1.out HB2.out) HB3.out) HB4.out) _, no _ z1⟩
        · exact ⟨blk_alloc (blk_below (blk_below HX2.out HB3.out) HB4.out) _, no _ z2⟩
        · exact ⟨blk_alloc (blk_below HX3.out HB4.out) _, no _ z3⟩
        · exact ⟨blk_alloc HX4.out _, no _ z4⟩
        · exact ⟨blk_new _ _, no _ z5⟩
    have hl : ∀ g', Lk w0.heap.size gd gl (LX w0.heap.size gl gd g') := fun g' => lkLX w0.heap.size gd gl g'
    have hcall : Calls Try.prog 50 #[.slice (some ⟨w4.heap.size, 0, none⟩) 3 3] (w4.alloc arr) fun e w' => e = .returned (.int .i64 rF.c) ∧ Ran w0 (w4.alloc arr) bx gd (LX w0.heap.size gl gd rF.g) O' rF.s w' := by
      have m1 : (w4.heap.size, arr) ∈ bx := by rw [HBX.out]; simp
      have hs := (hwb.bx _ m1).1
      rw [HARR.out] at hs
      have hm := HM.out
      refine (done_143_144_145 w4.heap.size _ _ _ rA.c rB.c rC.c (Ran w0 (w4.alloc arr) bx gd (LX w0.heap.size gl gd rA.g) O' rA.s) (Ran w0 (w4.alloc arr) bx gd (LX w0.heap.size gl gd rB.g) O' rB.s) (Ran w0 (w4.alloc arr) bx gd (LX w0.heap.size gl gd rC.g) O' rC.s) (w4.alloc arr) (by rw [HARR.out]; exact hs) ?_ ?_ ?_).mono ?_
      · refine (append143.calls g1 g2 g3 gd gl n t bx O' s g m w0 (w4.alloc arr) hwb HOK.out (by omega) HG.out HN.out (by rw [HBX.out]; simp) (by rw [HBX.out]; simp) (by rw [HBX.out]; simp)).mono ?_
        rintro e w' ⟨rfl, hr⟩
        rw [← HRA.out] at hr ⊢
        exact ⟨rfl, hr, Ran.keeps hwb hr m1⟩
      · intro _ w1' hp1 _
        have hc := sync144.calls g1 gd gl bx _ _ rA.s (m + 1) w0 w1' hp1.1 (hl _) KA.out (by omega) (by rw [HBX.out]; simp)
        refine hc.mono ?_
        rintro e w' ⟨rfl, hr⟩
        have e1 : (rA.s.sync 1).1 = rB.c := by rw [HRB.out]; rfl
        have e2 : (rA.s.sync 1).2 = rB.s := by rw [HRB.out]; rfl
        have e3 : rA.g = rB.g := by rw [HRB.out]; rfl
        rw [e2, e3] at hr
        rw [e1]
        exact ⟨rfl, Ran.next hwb hp1 (hl _) hr, Ran.keeps hp1.1 hr m1⟩
      · intro _ _ w1' hp1 _
        refine (tell145.calls g1 g4 gd gl pn bx _ rB.s rB.g (m + 2) w0 w1' hp1.1 KB.out (by omega) GB.out HP.out.2 (by rw [HBX.out]; simp) (by rw [HBX.out]; simp)).mono ?_
        rintro e w' ⟨rfl, hr⟩
        rw [← HRC.out] at hr ⊢
        exact ⟨rfl, Ran.next hwb hp1 (hl _) hr, Ran.keeps hp1.1 hr m1⟩
      · rintro e w' ⟨rfl, hr⟩
        by_cases e1 : rA.c = 0
        · rw [if_neg (fun h => h e1)] at hr
          by_cases e2 : rB.c = 0
          · rw [if_neg (fun h => h e2)] at hr
            have hF : rF = rC := by rw [HRF.out, if_neg (fun h => h e1), if_neg (fun h => h e2)]
            rw [if_neg (fun h => h e1), if_neg (fun h => h e2), hF]
            exact ⟨rfl, hr⟩
          · rw [if_pos e2] at hr
            have hF : rF = rB := by rw [HRF.out, if_neg (fun h => h e1), if_pos e2]
            rw [if_neg (fun h => h e1), if_pos e2, hF]
            exact ⟨rfl, hr⟩
        · rw [if_pos e1] at hr
          have hF : rF = rA := by rw [HRF.out, if_pos e1]
          rw [if_pos e1, hF]
          exact ⟨rfl, hr⟩
    have HCALL := Aside0.mk hcall
    have hsz : w.heap.size ≤ (w4.alloc arr).heap.size := (below_step HBW.out ((Below.refl w4.heap.size w4).alloc (Nat.le_refl _) arr)).size
    have HWA := Aside0.mk (below_step HBW.out ((Below.refl w4.heap.size w4).alloc (Nat.le_refl _) arr))
    rw [HARR.out] at HCALL
    clear harr hbx hO' hcall hwb hl hsz p7
    have hmf : ∀ (fn : Fn) (first cap : Array Value) (w : World), (Instr.makeFunc fn first cap).run Try.prog w = .ok (.func fn first cap) w := fun _ _ _ _ => rfl
    go_upto_region 4 with (go_at_call 50; (with_reducible refine HCALL.out.mono ?_); rintro e w5 ⟨rfl, hr⟩; rw [← HARR.out] at hr; have HR := Aside0.mk hr; clear hr)
    have hend : PL w5 w0.heap.size gd gl (fun k => O k ∨ w.heap.size ≤ k) rF.s rF.g ∧ Below w0.heap.size w0 w5 ∧ Kept w w5 O := by
      refine ⟨(frPL _ _ _ _ _).mono HR.out.1.hD (fun k hk => ?_), HR.out.1.hB, ((Kept.of_below HWA.out O).then_ HR.out.2 (fun k hk => by rw [HO.out] at hk; exact .inl hk.1))⟩
      rcases hk with hk | hk
      · rw [HO.out] at hk; exact .inl hk.1
      · exact .inr (Nat.le_trans HWA.out.size hk)
    have HEND := Aside0.mk hend
    clear hend
    by_cases hc : rF.c = 0
    · have HS0 := Aside0.mk (HS.out.trans (if_pos hc))
      have q_ : (rF.c == 0) = true := by rw [hc]; rfl
      clear hc
      obtain ⟨bn, bk, hx, hmn, hmk, hn5, hk5, hne, hgl, hbn, hbk, hb1, hb2, hb3⟩ := PL.cells HEND.out.1
      have HX := Aside0.mk hx
      have HMN := Aside0.mk hmn
      have HMN5 := Aside0.mk hmn
      have HF5 := Aside0.mk (And.intro hn5 (And.intro hk5 (And.intro hne (And.intro hgl (And.intro hbn (And.intro hbk (And.intro hb1 (And.intro hb2 hb3))))))))
      have m1 : (g1, bx1 (pv gl) 60) ∈ bx := by rw [HBX.out]; simp
      have m4 : (g4, bx1 (.int .i64 pn) 3) ∈ bx := by rw [HBX.out]; simp
      have b1 := (HR.out.1.bx _ m1).1
      have b4 := (HR.out.1.bx _ m4).1
      have n1 : g1 ≠ gl := fun e => by rw [e] at b1; rw [b1] at hx; cases hx
      have BX1 := Aside0.mk b1
      have N1 := Aside0.mk n1
      have p0 : w5.cell? ⟨g1, 0, none⟩ = some (pv gl) := (blk_cell b1 0).trans rfl
      have p4 : w5.cell? ⟨g4, 0, none⟩ = some (.int .i64 pn) := (blk_cell b4 0).trans rfl
      have p2 : ∃ v, w5.cell? ⟨gl, 2, none⟩ = some v := ⟨_, (blk_cell hx 2).trans rfl⟩
      obtain ⟨x2, p2⟩ := p2
      have z2 := blk_frozen hx 2
      clear hx hmn hmk hn5 hk5 hne hgl hbn hbk hb1 hb2 hb3 m1 m4 b1 b4 n1
      go_upto_region 6 with (fail)
      have HX6 := Aside0.mk (show (w5.setCell ⟨gl, 2, none⟩ (.int .i64 pn)).heap[gl]? = some (.cells (lcells gd rF.g.fr.length pn bn rF.g.kept rF.g.pages bk rF.g.slot rF.g.number) 96 (0, 0)) from blk_put HX.out 2 _ rfl)
      have HM6 := Aside0.mk (HMN.out.kept (w' := w5.setCell ⟨gl, 2, none⟩ (.int .i64 pn)) (Below.heap_setCell w5 ⟨gl, 2, none⟩ _ _ HF5.out.1))
      have BX6 := Aside0.mk (blk_far BX1.out (p := ⟨gl, 2, none⟩) N1.out (.int .i64 pn))
      have HK6 := Aside0.mk (set_kept (w := w5) (g := gl) (j := 2) (v := .int .i64 pn))
      have HB6 := Aside0.mk (HEND.out.2.1.setCell (p := ⟨gl, 2, none⟩) HF5.out.2.2.2.2.2.2.1 (.int .i64 pn))
      clear p0 p4 p2 z2 BX1 HMN
      generalize w5.setCell ⟨gl, 2, none⟩ (.int .i64 pn) = w6 at HX6 HM6 BX6 HK6 HB6 ⊢
      have p0 : w6.cell? ⟨g1, 0, none⟩ = some (pv gl) := (blk_cell BX6.out 0).trans rfl
      have p1 : w6.cell? ⟨gl, 1, none⟩ = some (.int .i64 rF.g.fr.length) := (blk_cell HX6.out 1).trans rfl
      have p2 : w6.cell? ⟨gl, 2, none⟩ = some (.int .i64 pn) := (blk_cell HX6.out 2).trans rfl
      have p3 : w6.cell? ⟨gl, 3, none⟩ = some (.map (some bn)) := (blk_cell HX6.out 3).trans rfl
      have hc := copied.calls bn rF.g.fr.length (idx rF.g.fr) rF.g.fr.length pn w6.drew (HM6.out.kept rfl) (by have := GF.out.n; omega)
      unfold pcells at hc
      have HC := Aside0.mk hc
      clear hc
      go_region_law (first
        | (refine goes_ Try.func49 (by kernel_rfl) rfl #[.agg #[.int .i64 rF.g.fr.length, .int .i64 pn, .map (some bn)]] (by rfl) rfl rfl (by (try simp only [List.map_toArray, List.map_cons, List.map_nil]); first | done | rfl) ?_; (with_reducible refine HC.out.mono ?_); rintro e w7 ⟨b', rfl, hb7, hm7, hw7⟩; refine ⟨_, rfl, ?_⟩; have HB7 := Aside0.mk hb7; have HM7 := Aside0.mk hm7; have HW7 := Aside0.mk (below_step (below_drew (Below.refl _ w6)) hw7); have BX7 := Aside0.mk (blk_below BX6.out HW7.out); have HX7 := Aside0.mk (blk_below HX6.out HW7.out); have p70 : w7.cell? ⟨g1, 0, none⟩ = some (pv gl) := (blk_cell BX7.out 0).trans rfl; have y4 : ∃ v, w7.cell? ⟨gl, 4, none⟩ = some v := ⟨_, (blk_cell HX7.out 4).trans rfl⟩; have y5 : ∃ v, w7.cell? ⟨gl, 5, none⟩ = some v := ⟨_, (blk_cell HX7.out 5).trans rfl⟩; have y6 : ∃ v, w7.cell? ⟨gl, 6, none⟩ = some v := ⟨_, (blk_cell HX7.out 6).trans rfl⟩; obtain ⟨x4, y4⟩ := y4; obtain ⟨x5, y5⟩ := y5; obtain ⟨x6, y6⟩ := y6; have z4 := blk_frozen HX7.out 4; have z5 := blk_frozen HX7.out 5; have z6 := blk_frozen HX7.out 6; clear hb7 hm7 hw7))
      all_goals
        try go_frame
        go_wp2_with (fail)
        go_ret
        rw [HS0.out]
        refine ⟨rfl, ?_⟩
        obtain ⟨hn5, hk5, hne, hgl, hbn, hbk, hb1, hb2, hb3⟩ := HF5.out
        have hk3 := set3_kept w7 gl 4 5 6 (.int .i64 rF.g.fr.length) (.int .i64 pn) (.map (some b'))
        have hk8 : Kept w5 (((w7.setCell ⟨gl, 4, none⟩ (.int .i64 rF.g.fr.length)).setCell ⟨gl, 5, none⟩ (.int .i64 pn)).setCell ⟨gl, 6, none⟩ (.map (some b'))) (fun j => j = gl) :=
          (HK6.out.then_ (Kept.of_below HW7.out (fun j => j = gl)) (fun j hj => .inl hj)).then_ hk3 (fun j hj => .inl hj)
        have hs6 := HK6.out.1
        have hbn5 : w5.heap.size ≤ b' := Nat.le_trans hs6 HB7.out
        have hln := HMN5.out.lt
        refine ⟨(frPL _ _ _ _ _).mono (PL.redo (w := w5) (g' := { rF.g with pages := pn, kept := rF.g.fr.length }) HEND.out.1 hk8 HX.out (bn' := bn) (bk' := b') ?_ ?_ ?_ (by omega) (.inl rfl) (.inr (.inr hbn5))) (fun k hk => hk.elim id (fun h => .inr (Nat.le_trans HEND.out.2.2.1 h))), ?_, ?_⟩
        · exact blk_put (blk_put (blk_put HX7.out 4 (.int .i64 rF.g.fr.length) rfl) 5 (.int .i64 pn) rfl) 6 (.map (some b')) rfl
        · exact HMN5.out.kept (hk8.2 bn hln hn5)
        · rw [show rF.g.fr.take rF.g.fr.length = rF.g.fr from List.take_length]
          exact HM7.out.kept (hk3.2 b' HM7.out.lt (HM7.out.ne HX7.out))
        · exact (((below_step HB6.out HW7.out).setCell (p := ⟨gl, 4, none⟩) hb1 _).setCell (p := ⟨gl, 5, none⟩) hb1 _).setCell (p := ⟨gl, 6, none⟩) hb1 _
        · exact HEND.out.2.2.then_ hk8 (fun j hj => .inl (by rw [hj]; exact hgl0.out))
    · have q_ : (rF.c == 0) = false := beq_false hc
      have HS0 := Aside0.mk (HS.out.trans (if_neg hc))
      clear hc
      go_wp2_with (fail)
      go_ret
      rw [HS0.out]
      exact ⟨rfl, HEND.out⟩
theorem drawn0_then {w w1 w2 : World} (h : Drawn0 w w1) (h2 : Drawn0 w1 w2) : Drawn0 w w2 := by
  obtain ⟨m, e⟩ := h2.out
  rw [e]
  exact h.step m
def Lg.read (s : St) (g : Lg) (n : Int) : ByteArray × Int :=
  if n < 0 ∨ n ≥ 2147483648 then (ByteArray.empty, 1)
  else if idx g.fr n > 0 then s.read 1 (64 + (idx g.fr n - 1) * 1028 + 4) 1024
  else if (s.size 0).2 ≠ 0 then (ByteArray.empty, (s.size 0).2)
  else if n ≥ (s.size 0).1 / 1024 then (ByteArray.empty, 7)
  else s.read 0 (n * 1024) 1024
set_option maxHeartbeats 4000000 in
theorem pages.calls (gd gl : Nat) (O : Nat → Prop) (s : St) (g : Lg) (w0 w : World) (hD : PL w w0.heap.size gd gl O s g) :
    Calls Try.prog 23 #[pv gl] w fun e w' => e = .returned (.int .i64 g.pages) ∧ w' = w := by
  obtain ⟨bn, bk, hx, -⟩ := PL.cells hD
  have p5 : w.cell? ⟨gl, 5, none⟩ = some (.int .i64 g.pages) := (blk_cell hx 5).trans rfl
  clear hD hx
  go_enter Try.func23, Try.ntmps23
  go_wp2_with (fail)
  go_ret
  exact ⟨rfl, rfl⟩
set_option maxHeartbeats 4000000 in
theorem frames.calls (gd gl : Nat) (O : Nat → Prop) (s : St) (g : Lg) (w0 w : World) (hD : PL w w0.heap.size gd gl O s g) :
    Calls Try.prog 37 #[pv gl] w fun e w' => e = .returned (.int .i64 g.fr.length) ∧ w' = w := by
  obtain ⟨bn, bk, hx, -⟩ := PL.cells hD
  have p5 : w.cell? ⟨gl, 1, none⟩ = some (.int .i64 g.fr.length) := (blk_cell hx 1).trans rfl
  clear hD hx
  go_enter Try.func37, Try.ntmps37
  go_wp2_with (fail)
  go_ret
  exact ⟨rfl, rfl⟩
set_option maxHeartbeats 8000000 in
set_option maxRecDepth 100000 in
theorem lread.calls (gd gl : Nat) (O : Nat → Prop) (s : St) (g : Lg) (m : Nat) (n : Int) (w0 w : World) (hD : PL w w0.heap.size gd gl O s g) (hok : s.ok m) (hg : g.ok) (hn : -9223372036854775808 ≤ n ∧ n < 9223372036854775808) :
    Calls Try.prog 55 #[pv gl, .int .i64 n] w fun e w' => e = .returned (.tuple #[.string (Lg.read s g n).1, .int .i64 (Lg.read s g n).2]) ∧ Drawn0 w w' := by
  have HD := Aside0.mk hD
  have HN := Aside0.mk hn
  have HG := Aside0.mk hg
  by_cases hbad : n < 0 ∨ n ≥ 2147483648
  · have HS := Aside0.mk (show Lg.read s g n = (ByteArray.empty, 1) by unfold Lg.read; rw [if_pos hbad])
    by_cases h1 : n < 0
    · have q1 : decide (n < 0) = true := decide_eq_true h1
      clear h1 hbad hn hD hok hg
      go_enter Try.func55, Try.ntmps55
      go_wp2_with (fail)
      go_ret2
      rw [HS.out]
      exact ⟨rfl, Drawn0.refl _⟩
    · have q1 : decide (n < 0) = false := decide_eq_false h1
      have q2 : decide (n ≥ 2147483648) = true := decide_eq_true (by omega)
      have q2' : decide (2147483648 ≤ n) = true := decide_eq_true (by omega)
      clear h1 hbad hn hD hok hg
      go_enter Try.func55, Try.ntmps55
      go_wp2_with (fail)
      go_ret2
      rw [HS.out]
      exact ⟨rfl, Drawn0.refl _⟩
  · have q1 : decide (n < 0) = false := decide_eq_false (by omega)
    have q2 : decide (n ≥ 2147483648) = false := decide_eq_false (by omega)
    have q2' : decide (2147483648 ≤ n) = false := decide_eq_false (by omega)
    obtain ⟨bn, bk, hx, hmn, -⟩ := PL.cells hD
    have HX := Aside0.mk hx
    have p0 : w.cell? ⟨gl, 0, none⟩ = some (pv gd) := (blk_cell hx 0).trans rfl
    have p3 : w.cell? ⟨gl, 3, none⟩ = some (.map (some bn)) := (blk_cell hx 3).trans rfl
    have hlook := hmn.look (wf_int hn)
    obtain ⟨hi1, hi2⟩ := idx_le g.fr n
    have hlen := hg.n
    obtain ⟨O1, O2, hd, -⟩ := id hD
    have HDD := Aside0.mk hd
    by_cases hi : idx g.fr n > 0
    · have HS := Aside0.mk (show Lg.read s g n = s.read 1 (64 + (idx g.fr n - 1) * 1028 + 4) 1024 by unfold Lg.read; rw [if_neg hbad, if_pos hi])
      generalize idx g.fr n = ix at hi1 hi2 hi HS hlook
      have qi : decide (ix > 0) = true := decide_eq_true hi
      have qi' : decide (0 < ix) = true := decide_eq_true hi
      have v1 : IntKind.i64.wrap (ix - 1) = ix - 1 := IntWalk.i64_in _ (by omega)
      have v2 : IntKind.i64.wrap ((ix - 1) * 1028) = (ix - 1) * 1028 := IntWalk.i64_in _ (by omega)
      have v3 : IntKind.i64.wrap (64 + (ix - 1) * 1028) = 64 + (ix - 1) * 1028 := IntWalk.i64_in _ (by omega)
      have v4 : IntKind.i64.wrap (64 + (ix - 1) * 1028 + 4) = 64 + (ix - 1) * 1028 + 4 := IntWalk.i64_in _ (by omega)
      have HC := Aside0.mk (read.calls gd O1 s 1 (64 + (ix - 1) * 1028 + 4) 1024 w0 w hd)
      clear hbad hn hD hok hg hx hmn hi hd
      go_enter Try.func55, Try.ntmps55
      go_wp2_with (go_at_call 43; (with_reducible refine HC.out.mono ?_); rintro e w1 ⟨rfl, h1⟩; have H1 := Aside0.mk h1; clear h1)
      go_ret2
      rw [HS.out]
      exact ⟨rfl, H1.out⟩
    · have hi0 : idx g.fr n = 0 := by omega
      rw [hi0] at hlook
      have HC := Aside0.mk (size.calls gd O1 s 0 w0 w hd)
      have HS := Aside0.mk (show Lg.read s g n = if (s.size 0).2 ≠ 0 then (ByteArray.empty, (s.size 0).2) else if n ≥ (s.size 0).1 / 1024 then (ByteArray.empty, 7) else s.read 0 (n * 1024) 1024 by unfold Lg.read; rw [if_neg hbad, if_neg hi])
      have hz : 0 ≤ (s.size 0).1 ∧ (s.size 0).1 ≤ 67108864 := by
        unfold St.size
        split
        · split
          · exact ⟨by decide, by decide⟩
          · have := seenOf_size hok 0
            unfold maxFile at this
            simp only
            omega
        · exact ⟨by decide, by decide⟩
      generalize s.size 0 = z at HC HS hz
      obtain ⟨z1, z2⟩ := z
      simp only at HC HS hz
      have v1 : IntKind.i64.wrap (n * 1024) = n * 1024 := IntWalk.i64_in _ (by omega)
      have t1 : z1.tdiv 1024 = z1 / 1024 := Int.tdiv_eq_ediv_of_nonneg hz.1
      have v2 : IntKind.i64.wrap (z1 / 1024) = z1 / 1024 := IntWalk.i64_in _ (by omega)
      by_cases hz2 : z2 = 0
      · subst hz2
        have hS := HS.out
        rw [if_neg (fun h => h rfl)] at hS
        by_cases hm : n ≥ z1 / 1024
        · rw [if_pos hm] at hS
          have HS := Aside0.mk hS
          have d1 : decide (n ≥ z1 / 1024) = true := decide_eq_true hm
          have d2 : decide (z1 / 1024 ≤ n) = true := decide_eq_true hm
          clear hbad hn hD hok hg hx hmn hi hd hS hm hi0
          go_enter Try.func55, Try.ntmps55
          go_wp2_with (go_at_call 42; (with_reducible refine HC.out.mono ?_); rintro e w1 ⟨rfl, h1⟩; have H1 := Aside0.mk h1; clear h1)
          go_ret2
          rw [HS.out]
          exact ⟨rfl, H1.out⟩
        · rw [if_neg hm] at hS
          have HS := Aside0.mk hS
          have d1 : decide (n ≥ z1 / 1024) = false := decide_eq_false hm
          have d2 : decide (z1 / 1024 ≤ n) = false := decide_eq_false hm
          clear hbad hn hD hok hg hx hmn hi hd hS hm hi0
          go_enter Try.func55, Try.ntmps55
          go_wp2_with (first
            | (go_at_call 42; (with_reducible refine HC.out.mono ?_); rintro e w1 ⟨rfl, h1⟩; have H1 := Aside0.mk h1; have p01 : w1.cell? ⟨gl, 0, none⟩ = some (pv gd) := (blk_cell (blk_below HX.out h1.below) 0).trans rfl; have HC2 := Aside0.mk (read.calls gd O1 s 0 (n * 1024) 1024 w0 w1 (drawn_keep h1 HDD.out)); clear h1)
            | (go_at_call 43; (with_reducible refine HC2.out.mono ?_); rintro e w2 ⟨rfl, h2⟩; have H2 := Aside0.mk (drawn0_then H1.out h2); clear h2))
          go_ret2
          rw [HS.out]
          exact ⟨rfl, H2.out⟩
      · have qz : (z2 != 0) = true := by simp [bne, beq_false hz2]
        have hS := HS.out
        rw [if_pos hz2] at hS
        have HS := Aside0.mk hS
        clear hbad hn hD hok hg hx hmn hi hd hS hi0
        go_enter Try.func55, Try.ntmps55
        go_wp2_with (go_at_call 42; (with_reducible refine HC.out.mono ?_); rintro e w1 ⟨rfl, h1⟩; have H1 := Aside0.mk h1; clear h1)
        go_ret2
        rw [HS.out]
        exact ⟨rfl, H1.out⟩
def hits (fr : List (Nat × ByteArray)) : Nat → Nat
  | 0 => 0
  | k + 1 => hits fr k + (if idx fr (k : Int) = 0 then 0 else 1)
def move1 (g : Lg) (n : Nat) (s : St) : Int × St :=
  if idx g.fr n = 0 then (0, s) else
  if (Lg.read s g n).2 ≠ 0 then ((Lg.read s g n).2, s) else s.write 0 ((n : Int) * 1024) (Lg.read s g n).1
def moveN (g : Lg) : Nat → St → Int × St
  | 0, s => (0, s)
  | k + 1, s => if (moveN g k s).1 ≠ 0 then moveN g k s else move1 g k (moveN g k s).2
theorem moveN_succ {g : Lg} {k : Nat} {s : St} (h : (moveN g k s).1 = 0) : moveN g (k + 1) s = move1 g k (moveN g k s).2 := by
  rw [moveN, if_neg (fun e => e h)]
theorem moveN_stop {g : Lg} {j : Nat} {s : St} (h : (moveN g j s).1 ≠ 0) : ∀ d, moveN g (j + d) s = moveN g j s
  | 0 => rfl
  | d + 1 => by
    have ih := moveN_stop h d
    rw [show j + (d + 1) = (j + d) + 1 by omega, moveN, ih, if_pos h]
theorem moveN_stop_le {g : Lg} {j K : Nat} {s : St} (h : (moveN g j s).1 ≠ 0) (hk : j ≤ K) : moveN g K s = moveN g j s := by
  have := moveN_stop h (K - j)
  rwa [show j + (K - j) = K by omega] at this
theorem hits_snoc (fr : List (Nat × ByteArray)) (c : Nat × ByteArray) : ∀ k, hits (fr ++ [c]) k ≤ hits fr k + (if c.1 < k then 1 else 0)
  | 0 => by simp [hits]
  | k + 1 => by
    have ih := hits_snoc fr c k
    unfold hits
    rw [idx_snoc]
    by_cases e : (c.1 : Int) = (k : Int)
    · have e1 : c.1 = k := by omega
      rw [if_neg (show ¬ c.1 < k by omega)] at ih
      rw [if_pos (show c.1 < k + 1 by omega)]
      split <;> split <;> omega
    · rw [if_neg e]
      by_cases e2 : c.1 < k
      · rw [if_pos e2] at ih
        rw [if_pos (show c.1 < k + 1 by omega)]
        omega
      · rw [if_neg e2] at ih
        rw [if_neg (show ¬ c.1 < k + 1 by omega)]
        omega
theorem hits_nil : ∀ k, hits [] k = 0
  | 0 => rfl
  | k + 1 => by unfold hits; rw [hits_nil k, idx_nil, if_pos rfl]
theorem hits_rev (k : Nat) : ∀ l : List (Nat × ByteArray), hits l.reverse k ≤ l.length
  | [] => by rw [List.reverse_nil, hits_nil]; exact Nat.zero_le _
  | c :: l => by
    have ih := hits_rev k l
    have h := hits_snoc l.reverse c k
    rw [List.reverse_cons, List.length_cons]
    split at h <;> omega
theorem hits_le (fr : List (Nat × ByteArray)) (k : Nat) : hits fr k ≤ fr.length := by
  have h := hits_rev k fr.reverse
  rwa [List.reverse_reverse, List.length_reverse] at h
theorem move1_ok {s : St} {m : Nat} (h : s.ok m) (g : Lg) (n : Nat) : (move1 g n s).2.ok (m + (if idx g.fr (n : Int) = 0 then 0 else 1)) := by
  unfold move1
  split
  · exact h.mono (by omega)
  · split
    · exact h.mono (by omega)
    · exact h.write _ _ _
theorem moveN_ok {s : St} {m : Nat} (h : s.ok m) (g : Lg) : ∀ k, (moveN g k s).2.ok (m + hits g.fr k)
  | 0 => h
  | k + 1 => by
    have ih := moveN_ok h g k
    rw [moveN]
    unfold hits
    split
    · exact ih.mono (by omega)
    · exact (move1_ok ih g k).mono (by omega)
def Lg.checkpoint (s : St) (g : Lg) : Run :=
  if g.fr.length ≠ g.kept then ⟨11, s, g⟩
  else if g.fr.length = 0 then ⟨0, s, g⟩
  else if (moveN g g.pages s).1 ≠ 0 then ⟨(moveN g g.pages s).1, (moveN g g.pages s).2, g⟩
  else
    let r := ((rCut 0 ((g.pages : Int) * 1024) (moveN g g.pages s).2 g).andThen (rSync 0)).andThen (rTell 0 g.pages)
    if r.c = 0 then { r with g := { r.g with fr := [], kept := 0 } } else r
set_option maxHeartbeats 4000000 in
set_option maxRecDepth 100000 in
theorem cut147.calls (bl gd gl : Nat) (bx : List (Nat × Obj)) (O : Nat → Prop) (s : St) (g : Lg) (m : Nat) (w0 w : World) (h : WB w0 w bx gd (LX w0.heap.size gl gd g) O s) (hok : s.ok m) (hm : m ≤ 900000000) (hg : g.ok) (hb : (bl, bx1 (pv gl) 60) ∈ bx) :
    Calls Try.prog 65 #[pv bl] w fun e w' => e = .returned (.int .i64 (s.cutTo 0 ((g.pages : Int) * 1024)).1) ∧ Ran w0 w bx gd (LX w0.heap.size gl gd g) O (s.cutTo 0 ((g.pages : Int) * 1024)).2 w' := by
  have hl := lkLX w0.heap.size gd gl g
  have hd := h.drew hl
  have HC := Aside0.mk (hd.onD hl (fun O1 h1 => cut.calls gd O1 s 0 ((g.pages : Int) * 1024) m w0 w.drew hd.hB h1 hok (Nat.le_trans hm (by decide))))
  have hp := hg.pages
  have v1 : IntKind.i64.wrap ((g.pages : Int) * 1024) = (g.pages : Int) * 1024 := IntWalk.i64_in _ (by omega)
  have p0 : w.cell? ⟨bl, 0, none⟩ = some (pv gl) := (h.box _ _ _ hb 0).trans rfl
  have p1 := h.disk hl
  have p2 := (WB.cells h).2
  have hh : ∀ {w1 : World} {O1 : Nat → Prop} {s1 : St}, WB w0 w1 bx gd (LX w0.heap.size gl gd g) O1 s1 → w1.cell? ⟨bl, 0, none⟩ = some (pv gl) ∧ w1.cell? ⟨gl, 0, none⟩ = some (pv gd) ∧ w1.cell? ⟨gl, 2, none⟩ = some (.int .i64 g.pages) :=
    fun h1 => ⟨(h1.box _ _ _ hb 0).trans rfl, h1.disk hl, (WB.cells h1).2⟩
  have HH := Aside0.mk @hh
  clear hh hb h hl hok hm hd hg hp
  go_enter Try.func65, Try.ntmps65
  go_upto_region 1 with (fail)
  go_region_held3 (fun w' => w'.cell? ⟨bl, 0, none⟩ = some (pv gl) ∧ w'.cell? ⟨gl, 0, none⟩ = some (pv gd) ∧ w'.cell? ⟨gl, 2, none⟩ = some (.int .i64 g.pages)) (first | exact HH.out H2.out.1 | exact ⟨p0, p1, p2⟩)
    (first
    | (go_at_call 66; (with_reducible refine HC.out.mono ?_); rintro e w3 ⟨rfl, hb⟩; have H2 := Aside0.mk hb; clear hb))
  go_wp2_with (fail)
  go_ret
  exact ⟨rfl, H2.out⟩
set_option maxHeartbeats 4000000 in
set_option maxRecDepth 100000 in
theorem tell149.calls (bl gd gl : Nat) (bx : List (Nat × Obj)) (O : Nat → Prop) (s : St) (g : Lg) (m : Nat) (w0 w : World) (h : WB w0 w bx gd (LX w0.heap.size gl gd g) O s) (hok : s.ok m) (hm : m ≤ 800000000) (hg : g.ok)
    (hb : (bl, bx1 (pv gl) 60) ∈ bx) :
    Calls Try.prog 68 #[pv bl] w fun e w' => e = .returned (.int .i64 (rTell 0 g.pages s g).c) ∧ Ran w0 w bx gd (LX w0.heap.size gl gd (rTell 0 g.pages s g).g) O (rTell 0 g.pages s g).s w' := by
  have hl := lkLX w0.heap.size gd gl g
  have hd := h.drew hl
  have hc : Calls Try.prog 54 #[pv gl, .int .i64 0, .int .i64 g.pages] w.drew _ := hd.onL (tell.calls gd gl O s g m 0 g.pages w0 w.drew hd.hB hd.hD hok (by omega) hg (by omega) hg.pages)
  have HC := Aside0.mk hc
  clear hc
  have p0 : w.cell? ⟨bl, 0, none⟩ = some (pv gl) := (h.box _ _ _ hb 0).trans rfl
  have p2 := (WB.cells h).2
  have hh : ∀ {w1 : World} {O1 : Nat → Prop} {s1 : St}, WB w0 w1 bx gd (LX w0.heap.size gl gd (Lg.tell s g 0 g.pages).2.2) O1 s1 → w1.cell? ⟨bl, 0, none⟩ = some (pv gl) ∧ w1.cell? ⟨gl, 2, none⟩ = some (.int .i64 g.pages) :=
    fun h1 => ⟨(h1.box _ _ _ hb 0).trans rfl, by have := (WB.cells h1).2; rw [(Lg.tell_fr s g 0 g.pages).2.2] at this; exact this⟩
  have HH := Aside0.mk @hh
  clear hh hb h hok hm hg hl hd
  go_enter Try.func68, Try.ntmps68
  go_upto_region 1 with (fail)
  go_region_held3 (fun w' => w'.cell? ⟨bl, 0, none⟩ = some (pv gl) ∧ w'.cell? ⟨gl, 2, none⟩ = some (.int .i64 g.pages)) (first | exact HH.out H2.out.1 | exact ⟨p0, p2⟩)
    (first
    | (go_at_call 54; (with_reducible refine HC.out.mono ?_); rintro e w3 ⟨rfl, hb⟩; have H2 := Aside0.mk hb; clear hb))
  go_wp2_with (fail)
  go_ret
  exact ⟨rfl, H2.out⟩
theorem WB.start {w0 w w2 : World} {bx : List (Nat × Obj)} {gd gl : Nat} {g : Lg} {O : Nat → Prop} {s : St} (hB : Below w0.heap.size w0 w) (hD : PL w w0.heap.size gd gl O s g) (hb : Below w.heap.size w w2) (hbx : ∀ x ∈ bx, w2.heap[x.1]? = some x.2 ∧ w.heap.size ≤ x.1) :
    WB w0 w2 bx gd (LX w0.heap.size gl gd g) (fun k => O k ∧ w0.heap.size ≤ k ∧ k < w.heap.size) s :=
  ⟨below_step hB hb, (frPL _ _ _ _ _).apart ((frPL _ _ _ _ _).narrow hD) (S := fun _ => False) (Kept.of_below hb _) (fun _ _ h => h), fun x hx => ⟨(hbx x hx).1, fun ho => Nat.not_le.mpr ho.2.2 (hbx x hx).2⟩⟩
theorem WB.more {w0 w : World} {bx : List (Nat × Obj)} {gd gl : Nat} {L : World → (Nat → Prop) → Prop} {O : Nat → Prop} {s : St} (h : WB w0 w bx gd L O s) (hl : Lk w0.heap.size gd gl L) (o : Obj) :
    WB w0 (w.alloc o) ((w.heap.size, o) :: bx) gd L (fun k => O k ∧ w0.heap.size ≤ k ∧ k < w.heap.size) s := by
  have hb := (Below.refl w.heap.size w).alloc (Nat.le_refl _) o
  refine ⟨below_step h.hB hb, (frSep (frD _ _ _) hl.fr).apart ((frSep (frD _ _ _) hl.fr).narrow h.hD) (S := fun _ => False) (Kept.of_below hb _) (fun _ _ h => h), fun x hx => ?_⟩
  rcases List.mem_cons.mp hx with rfl | hx
  · exact ⟨blk_new _ _, fun ho => Nat.lt_irrefl _ ho.2.2⟩
  · exact ⟨blk_alloc (h.bx x hx).1 _, fun ho => (h.bx x hx).2 ho.1⟩
theorem Ran.refl {w0 w : World} {bx : List (Nat × Obj)} {gd gl : Nat} {L : World → (Nat → Prop) → Prop} {O : Nat → Prop} {s : St} (h : WB w0 w bx gd L O s) (hl : Lk w0.heap.size gd gl L) : Ran w0 w bx gd L O s w :=
  ⟨h.mono hl (fun k hk => .inl hk) (fun x hx ho => ho.elim (h.bx x hx).2 (Nat.not_le.mpr (h.lt hx))), Kept.refl _ _⟩
theorem Ran.below {w0 w w1 w2 : World} {bx : List (Nat × Obj)} {gd gl : Nat} {L : World → (Nat → Prop) → Prop} {O : Nat → Prop} {s : St} (h : Ran w0 w bx gd L O s w1) (hl : Lk w0.heap.size gd gl L) (hb : Below w1.heap.size w1 w2) : Ran w0 w bx gd L O s w2 :=
  ⟨h.1.below hl hb, h.2.then_ (Kept.of_below hb O) (fun k hk => .inl hk)⟩
theorem Ran.out {w0 w w2 w' : World} {bx : List (Nat × Obj)} {gd gl : Nat} {g' : Lg} {O : Nat → Prop} {s' : St} (hb : Below w.heap.size w w2) (h : Ran w0 w2 bx gd (LX w0.heap.size gl gd g') (fun k => O k ∧ w0.heap.size ≤ k ∧ k < w.heap.size) s' w') :
    PL w' w0.heap.size gd gl (fun k => O k ∨ w.heap.size ≤ k) s' g' ∧ Below w0.heap.size w0 w' ∧ Kept w w' O :=
  ⟨(frPL _ _ _ _ _).mono h.1.hD (fun k hk => hk.elim (fun a => .inl a.1) (fun a => .inr (Nat.le_trans hb.size a))), h.1.hB, (Kept.of_below hb O).then_ h.2 (fun k hk => .inl hk.1)⟩
set_option maxHeartbeats 8000000 in
set_option maxRecDepth 100000 in
theorem checkpoint.calls (gd gl : Nat) (O : Nat → Prop) (s : St) (g : Lg) (m : Nat) (w0 w : World) (hB : Below w0.heap.size w0 w) (hD : PL w w0.heap.size gd gl O s g) (hok : s.ok m) (hm : m ≤ 700000000) (hg : g.ok) :
    Calls Try.prog 38 #[pv gl] w fun e w' => e = .returned (.int .i64 (Lg.checkpoint s g).c) ∧
      PL w' w0.heap.size gd gl (fun k => O k ∨ w.heap.size ≤ k) (Lg.checkpoint s g).s (Lg.checkpoint s g).g ∧ Below w0.heap.size w0 w' ∧ Kept w w' O := by
  have HB := Aside0.mk hB
  have HD := Aside0.mk hD
  have HOK := Aside0.mk hok
  have HM := Aside0.mk hm
  have HG := Aside0.mk hg
  obtain ⟨bn, bk, hx, -, -, -, -, -, hgl0, -⟩ := PL.cells hD
  have HX := Aside0.mk hx
  have HGL := Aside0.mk hgl0
  clear hgl0
  have hN := hg.n
  have hK := hg.kept
  have hP := hg.pages
  clear hB hD hok hm hg hx
  have fin : ∀ (c : Int), Lg.checkpoint s g = ⟨c, s, g⟩ → ∀ w' : World, Below w.heap.size w w' → (Ending.returned (Value.int .i64 c) = .returned (.int .i64 (Lg.checkpoint s g).c) ∧ PL w' w0.heap.size gd gl (fun k => O k ∨ w.heap.size ≤ k) (Lg.checkpoint s g).s (Lg.checkpoint s g).g ∧ Below w0.heap.size w0 w' ∧ Kept w w' O) := by
    intro c hs w' hb
    rw [hs]
    exact ⟨rfl, (frPL _ _ _ _ _).mono ((frPL _ _ _ _ _).apart HD.out (S := fun _ => False) (Kept.of_below hb _) (fun _ _ h => h)) (fun k hk => .inl hk), below_step HB.out hb, Kept.of_below hb _⟩
  have FIN := Aside0.mk fin
  clear fin
  by_cases h1 : g.fr.length = g.kept
  · have n1 : ((g.fr.length : Int) != (g.kept : Int)) = false := by rw [h1]; simp [bne]
    by_cases h2 : g.fr.length = 0
    · have HS := Aside0.mk (show Lg.checkpoint s g = ⟨0, s, g⟩ by unfold Lg.checkpoint; rw [if_neg (fun h => h h1), if_pos h2])
      have n2 : ((g.fr.length : Int) == 0) = true := by rw [h2]; rfl
      go_enter Try.func38, Try.ntmps38
      go_upto_region 1 with (first
    | ((with_reducible refine gate_dst (N := 1) rfl ?_); refine box_event ?hg (N := 1) ?hd (cs := #[pv gl]) (t := 60) ?hr ?_; (case hd => rfl); (case hg => rfl); (case hr => first | (go_simp; done) | (go_simp; rfl)); intro g1 hg1 w1 hbox hb; have HX1 := Aside0.mk hbox; have HB1 := Aside0.mk hb; have HG1 := Aside0.mk hg1; clear hg1 hbox hb))
      have HXL := Aside0.mk (blk_below HX.out HB1.out)
      have p0 : w1.cell? ⟨g1, 0, none⟩ = some (pv gl) := (blk_cell HX1.out 0).trans rfl
      have p1 : w1.cell? ⟨gl, 1, none⟩ = some (.int .i64 g.fr.length) := (blk_cell HXL.out 1).trans rfl
      have p4 : w1.cell? ⟨gl, 4, none⟩ = some (.int .i64 g.kept) := (blk_cell HXL.out 4).trans rfl
      clear h1 h2
      go_quiet (fail)
      have FB := Aside0.mk (pw_below_drewN HB1.out nq)
      have p0b : (w1.drewN nq).cell? ⟨g1, 0, none⟩ = some (pv gl) := p0
      have p1b : (w1.drewN nq).cell? ⟨gl, 1, none⟩ = some (.int .i64 g.fr.length) := p1
      generalize w1.drewN nq = w2 at FB p0b p1b ⊢
      go_wp2_with (fail)
      go_ret
      exact FIN.out 0 HS.out _ FB.out
    · have n2 : ((g.fr.length : Int) == 0) = false := beq_false (by omega)
      have hS : Lg.checkpoint s g = if (moveN g g.pages s).1 ≠ 0 then ⟨(moveN g g.pages s).1, (moveN g g.pages s).2, g⟩ else
          (let r := ((rCut 0 ((g.pages : Int) * 1024) (moveN g g.pages s).2 g).andThen (rSync 0)).andThen (rTell 0 g.pages)
           if r.c = 0 then { r with g := { r.g with fr := [], kept := 0 } } else r) := by unfold Lg.checkpoint; rw [if_neg (fun h => h h1), if_neg h2]
      have HS := Aside0.mk hS
      have H12 := Aside0.mk (And.intro h1 h2)
      clear hS h1 h2
      go_enter Try.func38, Try.ntmps38
      go_upto_region 1 with (first
    | ((with_reducible refine gate_dst (N := 1) rfl ?_); refine box_event ?hg (N := 1) ?hd (cs := #[pv gl]) (t := 60) ?hr ?_; (case hd => rfl); (case hg => rfl); (case hr => first | (go_simp; done) | (go_simp; rfl)); intro g1 hg1 w1 hbox hb; have HX1 := Aside0.mk hbox; have HB1 := Aside0.mk hb; have HG1 := Aside0.mk hg1; clear hg1 hbox hb))
      have HXL := Aside0.mk (blk_below HX.out HB1.out)
      have p0 : w1.cell? ⟨g1, 0, none⟩ = some (pv gl) := (blk_cell HX1.out 0).trans rfl
      have p1 : w1.cell? ⟨gl, 1, none⟩ = some (.int .i64 g.fr.length) := (blk_cell HXL.out 1).trans rfl
      have p4 : w1.cell? ⟨gl, 4, none⟩ = some (.int .i64 g.kept) := (blk_cell HXL.out 4).trans rfl
      go_quiet (fail)
      have FB := Aside0.mk (pw_below_drewN HB1.out nq)
      have p0b : (w1.drewN nq).cell? ⟨g1, 0, none⟩ = some (pv gl) := p0
      have p1b : (w1.drewN nq).cell? ⟨gl, 1, none⟩ = some (.int .i64 g.fr.length) := p1
      have p2b : (w1.drewN nq).cell? ⟨gl, 2, none⟩ = some (.int .i64 g.pages) := (blk_cell HXL.out 2).trans rfl
      have W2 := Aside0.mk (WB.start (bx := [(g1, bx1 (pv gl) 60)]) HB.out HD.out FB.out (fun x hx => by
        rw [List.mem_singleton] at hx
        subst hx
        exact ⟨HX1.out, Nat.le_of_eq HG1.out.symm⟩))
      clear p0 p1 p4 HX1 HG1 HB1 HXL
      generalize w1.drewN nq = w2 at FB p0b p1b p2b W2 ⊢
      have HL := Aside0.mk (lkLX w0.heap.size gd gl g)
      go_wp2_with (fail)
      clear p0b p1b p2b
      obtain ⟨O', hO'⟩ : ∃ O' : Nat → Prop, O' = fun k => O k ∧ w0.heap.size ≤ k ∧ k < w.heap.size := ⟨_, rfl⟩
      have HO := Aside0.mk hO'
      rw [← hO'] at W2
      clear hO'
      go_loopw [29] (fun v29 wr => ∃ (j : Nat), j ≤ g.pages ∧ v29 = .int .i64 (j : Int) ∧ Aside0 ((moveN g j s).1 = 0) ∧ Aside0 (Ran w0 w2 [(g1, bx1 (pv gl) 60)] gd (LX w0.heap.size gl gd g) O' (moveN g j s).2 wr)) (fun v29 _ => g.pages - (intOf v29).toNat)
      case atStart => exact ⟨0, Nat.zero_le _, rfl, ⟨rfl⟩, ⟨Ran.refl W2.out HL.out⟩⟩
      case round =>
        obtain ⟨j, hj, rfl, HZ, HR⟩ := hrel
        obtain ⟨bnr, bkr, hxr, hmr, -⟩ := PL.cells HR.out.1.hD
        have HXR := Aside0.mk hxr
        have p0 : wr.cell? ⟨g1, 0, none⟩ = some (pv gl) := (HR.out.1.box g1 #[pv gl] 60 (by simp) 0).trans rfl
        by_cases hlt : j < g.pages
        · have t_ : decide ((j : Int) < (g.pages : Int)) = true := decide_eq_true (by omega)
          have t2_ : (j : Int) < (g.pages : Int) := by omega
          have HSU := Aside0.mk (moveN_succ HZ.out)
          have OKJ := Aside0.mk (moveN_ok HOK.out g j)
          have p3 : wr.cell? ⟨gl, 3, none⟩ = some (.map (some bnr)) := (blk_cell hxr 3).trans rfl
          have hjr : -9223372036854775808 ≤ (j : Int) ∧ (j : Int) < 9223372036854775808 := by omega
          have hlook := hmr.look (wf_int hjr)
          clear hxr hmr
          have HM1 : (moveN g (j + 1) s).1 ≠ 0 → moveN g g.pages s = moveN g (j + 1) s := fun h => moveN_stop_le h (by omega)
          have HSTOP := Aside0.mk HM1
          clear HM1
          have HLT := Aside0.mk hlt
          have OM := Aside0.mk (show m + hits g.fr j ≤ 1000000000 by have := HM.out; have := hits_le g.fr j; omega)
          obtain ⟨sj, hsj⟩ : ∃ sj, sj = (moveN g j s).2 := ⟨_, rfl⟩
          rw [← hsj] at HR HSU OKJ
          have HSJ := Aside0.mk hsj
          clear hsj
          by_cases hi : idx g.fr (j : Int) = 0
          · have HM0 := Aside0.mk (HSU.out.trans (show move1 g j sj = (0, sj) by unfold move1; rw [if_pos hi]))
            rw [hi] at hlook
            clear hi
            go_wp2_with (fail)
            go_roundw
            case rel => exact ⟨j + 1, by have := HLT.out; omega, by go_num, ⟨by rw [HM0.out]⟩, ⟨by rw [HM0.out]; exact HR.out⟩⟩
            case measure => simp [intOf]; omega
          · have qi : (idx g.fr (j : Int) == 0) = false := beq_false hi
            have HC := Aside0.mk (lread.calls gd gl _ sj g _ (j : Int) w0 wr HR.out.1.hD OKJ.out HG.out hjr)
            obtain ⟨rd, hrd⟩ : ∃ r, r = Lg.read sj g (j : Int) := ⟨_, rfl⟩
            rw [← hrd] at HC
            obtain ⟨rt, re⟩ := rd
            by_cases he : re = 0
            · subst he
              have HWR := Aside0.mk (show ∃ r, r = sj.write 0 ((j : Int) * 1024) rt from ⟨_, rfl⟩)
              obtain ⟨⟨wc_, sw⟩, hwr⟩ := HWR.out
              have HMV := Aside0.mk (HSU.out.trans (show move1 g j sj = (wc_, sw) by
                unfold move1
                rw [if_neg hi, ← hrd]
                simp only [ne_eq, not_true_eq_false, if_false]
                exact hwr.symm))
              have HWE := Aside0.mk hwr
              have v1 : IntKind.i64.wrap ((j : Int) * 1024) = (j : Int) * 1024 := IntWalk.i64_in _ (by omega)
              have q0_ : ((0 : Int) == 0) = true := rfl
              clear hi hrd hwr HWR
              by_cases hw : wc_ = 0
              · subst hw
                go_wp2_with (first
                  | (go_at_call 55; (with_reducible refine HC.out.mono ?_); rintro e w3 ⟨rfl, h3⟩; have H3 := Aside0.mk (HR.out.below HL.out h3.below); clear h3; have p03 : w3.cell? ⟨g1, 0, none⟩ = some (pv gl) := (H3.out.1.box g1 #[pv gl] 60 (by simp) 0).trans rfl; have p04 := H3.out.1.disk HL.out; have hcw := H3.out.1.onD HL.out (fun O1 h1 => write.calls gd O1 sj 0 ((j : Int) * 1024) rt _ w0 w3 H3.out.1.hB h1 OKJ.out OM.out); rw [← HWE.out] at hcw; have HCW := Aside0.mk hcw; clear hcw)
                  | (go_at_call 44; (with_reducible refine HCW.out.mono ?_); rintro e w4 ⟨rfl, h4⟩; have H4 := Aside0.mk h4; clear h4))
                go_roundw
                case rel => exact ⟨j + 1, by have := HLT.out; omega, by go_num, ⟨by rw [HMV.out]⟩, ⟨by rw [HMV.out]; exact Ran.next W2.out H3.out HL.out H4.out⟩⟩
                case measure => simp [intOf]; omega
              · have qw : (wc_ != 0) = true := by simp [bne, beq_false hw]
                have HF := Aside0.mk (show Lg.checkpoint s g = ⟨wc_, sw, g⟩ by rw [HS.out, HSTOP.out (by rw [HMV.out]; exact hw), HMV.out, if_pos hw])
                clear hw
                go_wp2_with (first
                  | (go_at_call 55; (with_reducible refine HC.out.mono ?_); rintro e w3 ⟨rfl, h3⟩; have H3 := Aside0.mk (HR.out.below HL.out h3.below); clear h3; have p03 : w3.cell? ⟨g1, 0, none⟩ = some (pv gl) := (H3.out.1.box g1 #[pv gl] 60 (by simp) 0).trans rfl; have p04 := H3.out.1.disk HL.out; have hcw := H3.out.1.onD HL.out (fun O1 h1 => write.calls gd O1 sj 0 ((j : Int) * 1024) rt _ w0 w3 H3.out.1.hB h1 OKJ.out OM.out); rw [← HWE.out] at hcw; have HCW := Aside0.mk hcw; clear hcw)
                  | (go_at_call 44; (with_reducible refine HCW.out.mono ?_); rintro e w4 ⟨rfl, h4⟩; have H4 := Aside0.mk h4; clear h4))
                go_ret
                rw [HF.out]
                have hr := Ran.next W2.out H3.out HL.out H4.out
                rw [HO.out] at hr
                exact ⟨rfl, Ran.out FB.out hr⟩
            · have qe : (re == 0) = false := beq_false he
              have qe' : (re != 0) = true := by simp [bne, qe]
              have HMV := Aside0.mk (HSU.out.trans (show move1 g j sj = (re, sj) by
                unfold move1
                rw [if_neg hi, ← hrd, if_pos he]))
              have HF := Aside0.mk (show Lg.checkpoint s g = ⟨re, sj, g⟩ by rw [HS.out, HSTOP.out (by rw [HMV.out]; exact he), HMV.out, if_pos he])
              clear hi hrd he
              go_wp2_with (go_at_call 55; (with_reducible refine HC.out.mono ?_); rintro e w3 ⟨rfl, h3⟩; have H3 := Aside0.mk (HR.out.below HL.out h3.below); clear h3; have p03 : w3.cell? ⟨g1, 0, none⟩ = some (pv gl) := (H3.out.1.box g1 #[pv gl] 60 (by simp) 0).trans rfl)
              go_ret
              rw [HF.out]
              have hr := H3.out
              rw [HO.out] at hr
              exact ⟨rfl, Ran.out FB.out hr⟩
        · obtain rfl : j = g.pages := by omega
          clear hlt hj
          have OKP := Aside0.mk (moveN_ok HOK.out g g.pages)
          have hS := HS.out
          rw [if_neg (fun h => h HZ.out)] at hS
          obtain ⟨sP, hsP⟩ : ∃ sP, sP = (moveN g g.pages s).2 := ⟨_, rfl⟩
          rw [← hsP] at HR OKP hS
          obtain ⟨rA, hrA⟩ : ∃ r, r = rCut 0 ((g.pages : Int) * 1024) sP g := ⟨_, rfl⟩
          obtain ⟨rB, hrB⟩ : ∃ r, r = rSync 0 rA.s rA.g := ⟨_, rfl⟩
          obtain ⟨rC, hrC⟩ : ∃ r, r = rTell 0 g.pages rB.s rB.g := ⟨_, rfl⟩
          obtain ⟨rF, hrF⟩ : ∃ r, r = if rA.c ≠ 0 then rA else if rB.c ≠ 0 then rB else rC := ⟨_, rfl⟩
          have hS2 : Lg.checkpoint s g = if rF.c = 0 then { rF with g := { rF.g with fr := [], kept := 0 } } else rF := by
            have e : ((rCut 0 ((g.pages : Int) * 1024) sP g).andThen (rSync 0)).andThen (rTell 0 g.pages) = rF := by
              have eB : (rA.andThen (rSync 0)) = if rA.c ≠ 0 then rA else rB := by rw [hrB]; rfl
              rw [← hrA, eB, hrF]
              unfold Run.andThen
              by_cases e1 : rA.c = 0 <;> by_cases e2 : rB.c = 0 <;> simp [e1, e2, hrC]
            rw [hS]
            simp only
            rw [e]
          have HS2 := Aside0.mk hS2
          have gA : rA.g = g := by rw [hrA]; rfl
          have gB : rB.g = g := by rw [hrB]; exact gA
          have gokC : rC.g.ok := by rw [hrC, gB]; exact Lg.ok.tell HG.out _ _ _
          have okA : rA.s.ok (m + hits g.fr g.pages + 1) := by rw [hrA]; exact OKP.out.cutTo _ _
          have okB : rB.s.ok (m + hits g.fr g.pages + 2) := by rw [hrB]; exact okA.sync 0
          have frC : rC.g.pages = g.pages := by rw [hrC, gB]; exact (Lg.tell_fr _ _ _ _).2.2
          have GF := Aside0.mk (show rF.g.ok by rw [hrF]; split; (rw [gA]; exact HG.out); split; (rw [gB]; exact HG.out); exact gokC)
          have GP := Aside0.mk (show rF.g.pages = g.pages by rw [hrF]; split; (rw [gA]); split; (rw [gB]); exact frC)
          have HRA := Aside0.mk hrA
          have HRB := Aside0.mk hrB
          have HRC := Aside0.mk hrC
          have HRF := Aside0.mk hrF
          have GA := Aside0.mk gA
          have GB := Aside0.mk gB
          have KA := Aside0.mk okA
          have KB := Aside0.mk okB
          have HL' : ∀ g', Lk w0.heap.size gd gl (LX w0.heap.size gl gd g') := fun g' => lkLX w0.heap.size gd gl g'
          have HLL := Aside0.mk HL'
          obtain ⟨arr, harr⟩ : ∃ arr : Obj, arr = .cells #[.func (.func 65) #[] #[pv g1], .func (.func 67) #[] #[pv g1], .func (.func 68) #[] #[pv g1]] 46 (0, 0) := ⟨_, rfl⟩
          have HARR := Aside0.mk harr
          obtain ⟨bx, hbx⟩ : ∃ bx : List (Nat × Obj), bx = [(wr.heap.size, arr), (g1, bx1 (pv gl) 60)] := ⟨_, rfl⟩
          have HBX := Aside0.mk hbx
          have hwb := HR.out.1.more HL.out arr
          rw [← hbx] at hwb
          obtain ⟨O3, hO3⟩ : ∃ O3 : Nat → Prop, O3 = fun k => (O' k ∨ w2.heap.size ≤ k) ∧ w0.heap.size ≤ k ∧ k < wr.heap.size := ⟨_, rfl⟩
          have HO3 := Aside0.mk hO3
          rw [← hO3] at hwb
          clear hbx hO3 hS hS2 hsP hrA hrB hrC hrF gA gB gokC okA okB frC HL' hxr hmr
          have hcall : Calls Try.prog 50 #[.slice (some ⟨wr.heap.size, 0, none⟩) 3 3] (wr.alloc arr) fun e w' => e = .returned (.int .i64 rF.c) ∧ Ran w0 (wr.alloc arr) bx gd (LX w0.heap.size gl gd rF.g) O3 rF.s w' := by
            have m1 : (wr.heap.size, arr) ∈ bx := by rw [HBX.out]; simp
            have m2 : (g1, bx1 (pv gl) 60) ∈ bx := by rw [HBX.out]; simp
            have hs := (hwb.bx _ m1).1
            rw [HARR.out] at hs
            have hm := HM.out
            have hh := hits_le g.fr g.pages
            refine (done_147_148_149 wr.heap.size _ _ _ rA.c rB.c rC.c (Ran w0 (wr.alloc arr) bx gd (LX w0.heap.size gl gd g) O3 rA.s) (Ran w0 (wr.alloc arr) bx gd (LX w0.heap.size gl gd g) O3 rB.s) (Ran w0 (wr.alloc arr) bx gd (LX w0.heap.size gl gd rC.g) O3 rC.s) (wr.alloc arr) (by rw [HARR.out]; exact hs) ?_ ?_ ?_).mono ?_
            · refine (cut147.calls g1 gd gl bx O3 sP g (m + hits g.fr g.pages) w0 (wr.alloc arr) hwb OKP.out (by omega) HG.out m2).mono ?_
              rintro e w' ⟨rfl, hr⟩
              have e1 : (sP.cutTo 0 ((g.pages : Int) * 1024)).1 = rA.c := by rw [HRA.out]; rfl
              have e2 : (sP.cutTo 0 ((g.pages : Int) * 1024)).2 = rA.s := by rw [HRA.out]; rfl
              rw [e2] at hr
              rw [e1]
              exact ⟨rfl, hr, Ran.keeps hwb hr m1⟩
            · intro _ w1' hp1 _
              refine (sync148.calls g1 gd gl bx _ _ rA.s (m + hits g.fr g.pages + 1) w0 w1' hp1.1 (HLL.out _) KA.out (by omega) m2).mono ?_
              rintro e w' ⟨rfl, hr⟩
              have e1 : (rA.s.sync 0).1 = rB.c := by rw [HRB.out]; rfl
              have e2 : (rA.s.sync 0).2 = rB.s := by rw [HRB.out]; rfl
              rw [e2] at hr
              rw [e1]
              exact ⟨rfl, Ran.next hwb hp1 (HLL.out _) hr, Ran.keeps hp1.1 hr m1⟩
            · intro _ _ w1' hp1 _
              refine (tell149.calls g1 gd gl bx _ rB.s g (m + hits g.fr g.pages + 2) w0 w1' hp1.1 KB.out (by omega) HG.out m2).mono ?_
              rintro e w' ⟨rfl, hr⟩
              have e0 : rTell 0 g.pages rB.s g = rC := by rw [HRC.out, GB.out]
              rw [e0] at hr ⊢
              exact ⟨rfl, Ran.next hwb hp1 (HLL.out _) hr, Ran.keeps hp1.1 hr m1⟩
            · rintro e w' ⟨rfl, hr⟩
              by_cases e1 : rA.c = 0
              · rw [if_neg (fun h => h e1)] at hr
                by_cases e2 : rB.c = 0
                · rw [if_neg (fun h => h e2)] at hr
                  have hF : rF = rC := by rw [HRF.out, if_neg (fun h => h e1), if_neg (fun h => h e2)]
                  rw [if_neg (fun h => h e1), if_neg (fun h => h e2), hF]
                  exact ⟨rfl, hr⟩
                · rw [if_pos e2] at hr
                  have hF : rF = rB := by rw [HRF.out, if_neg (fun h => h e1), if_pos e2]
                  rw [if_neg (fun h => h e1), if_pos e2, hF, GB.out]
                  exact ⟨rfl, hr⟩
              · rw [if_pos e1] at hr
                have hF : rF = rA := by rw [HRF.out, if_pos e1]
                rw [if_pos e1, hF, GA.out]
                exact ⟨rfl, hr⟩
          have HWB := Aside0.mk hwb
          have HCALL := Aside0.mk hcall
          rw [HARR.out] at HCALL
          clear harr hcall hwb
          have hmf : ∀ (fn : Fn) (first cap : Array Value) (w : World), (Instr.makeFunc fn first cap).run Try.prog w = .ok (.func fn first cap) w := fun _ _ _ _ => rfl
          go_upto_region 16 with (go_at_call 50; (with_reducible refine HCALL.out.mono ?_); rintro e w5 ⟨rfl, hr⟩; rw [← HARR.out] at hr; have HR5 := Aside0.mk hr; clear hr)
          have hend : PL w5 w0.heap.size gd gl (fun k => O k ∨ w.heap.size ≤ k) rF.s rF.g ∧ Below w0.heap.size w0 w5 ∧ Kept w w5 O := by
            have ha := (Below.refl wr.heap.size wr).alloc (Nat.le_refl _) arr
            have hr := HR.out
            rw [HO.out] at hr
            have h1 := Ran.out FB.out hr
            have hs : w.heap.size ≤ wr.heap.size := h1.2.2.1
            refine ⟨(frPL _ _ _ _ _).mono HR5.out.1.hD (fun k hk => ?_), HR5.out.1.hB, ((h1.2.2.then_ (Kept.of_below ha O) (fun k hk => .inl hk)).then_ HR5.out.2 (fun k hk => ?_))⟩
            · rcases hk with hk | hk
              · rw [HO3.out, HO.out] at hk
                exact hk.1.imp (fun a => a.1) (fun a => Nat.le_trans FB.out.size a)
              · exact .inr (Nat.le_trans hs (Nat.le_trans ha.size hk))
            · rw [HO3.out, HO.out] at hk
              exact hk.1.imp (fun a => a.1) (fun a => Nat.le_trans FB.out.size a)
          have HEND := Aside0.mk hend
          clear hend
          by_cases hc : rF.c = 0
          · have hs0 : Lg.checkpoint s g = ⟨0, rF.s, { rF.g with fr := [], kept := 0 }⟩ := by rw [HS2.out, if_pos hc, hc]
            have HS0 := Aside0.mk hs0
            clear hs0
            have q_ : (rF.c != 0) = false := by rw [hc]; rfl
            clear hc
            obtain ⟨bn5, bk5, hx5, hmn5, hmk5, hn5, hk5, hne5, hgl, hbn, hbk, hb1, hb2, hb3⟩ := PL.cells HEND.out.1
            have HX5 := Aside0.mk hx5
            have HF5 := Aside0.mk (And.intro hn5 (And.intro hk5 (And.intro hne5 (And.intro hgl (And.intro hbn (And.intro hbk (And.intro hb1 (And.intro hb2 hb3))))))))
            have HMN5 := Aside0.mk hmn5
            have b1 := (HR5.out.1.bx (g1, bx1 (pv gl) 60) (by rw [HBX.out]; simp)).1
            have BX5 := Aside0.mk b1
            have n1 : g1 ≠ gl := fun e => by rw [e] at b1; rw [b1] at hx5; cases hx5
            have N1 := Aside0.mk n1
            clear b1 n1 hx5 hmn5 hmk5 hn5 hk5 hne5 hgl hbn hbk hb1 hb2 hb3
            clear p0
            go_upto_region 18 with (fail)
            have p0 : w5.cell? ⟨g1, 0, none⟩ = some (pv gl) := (blk_cell BX5.out 0).trans rfl
            have p5 : w5.cell? ⟨gl, 5, none⟩ = some (.int .i64 rF.g.pages) := (blk_cell HX5.out 5).trans rfl
            have p0b : ∀ o, (w5.alloc o).cell? ⟨g1, 0, none⟩ = some (pv gl) := fun o => (blk_cell (blk_alloc BX5.out o) 0).trans rfl
            have p5b : ∀ o, (w5.alloc o).cell? ⟨gl, 5, none⟩ = some (.int .i64 rF.g.pages) := fun o => (blk_cell (blk_alloc HX5.out o) 5).trans rfl
            have y4 : ∀ o, ∃ v, (w5.alloc o).cell? ⟨gl, 4, none⟩ = some v := fun o => ⟨_, (blk_cell (blk_alloc HX5.out o) 4).trans rfl⟩
            have y6 : ∀ o, ∃ v, (w5.alloc o).cell? ⟨gl, 6, none⟩ = some v := fun o => ⟨_, (blk_cell (blk_alloc HX5.out o) 6).trans rfl⟩
            obtain ⟨x4, y4⟩ := y4 (.map #[] 0)
            obtain ⟨x6, y6⟩ := y6 (.map #[] 0)
            have z4 := blk_frozen (blk_alloc HX5.out (.map #[] 0)) 4
            have z5 := blk_frozen (blk_alloc HX5.out (.map #[] 0)) 5
            have z6 := blk_frozen (blk_alloc HX5.out (.map #[] 0)) 6
            have hmm : ∀ (w : World), (Instr.makeMap 67 none).run Try.prog w = .ok (.map (some w.heap.size)) (w.alloc (.map #[] 0)) := by
              intro w
              simp [Instr.makeMap, underlying, Try.underlying67]
            go_cut [] from 68 to 77 (fun wx => ∃ b', Aside0 (wx.heap[gl]? = some (.cells (lcells gd rF.g.fr.length rF.g.pages bn5 0 rF.g.pages b' rF.g.slot rF.g.number) 96 (0, 0)) ∧ MapF wx b' 0 (idx []) ∧ Kept w5 wx (fun j => j = gl) ∧ Below w0.heap.size w0 wx ∧ w5.heap.size ≤ b'))
            case first =>
              go_region
              all_goals go_wp2_with (fail)
              go_meet
              case rel =>
                have hk3 := set3_kept (w5.alloc (.map #[] 0)) gl 4 5 6 (.int .i64 0) (.int .i64 rF.g.pages) (.map (some w5.heap.size))
                have ha := (Below.refl w5.heap.size w5).alloc (Nat.le_refl _) (.map #[] 0)
                refine ⟨w5.heap.size, ⟨?_, ?_, ?_, ?_, Nat.le_refl _⟩⟩
                · exact blk_drew (blk_put (blk_put (blk_put (blk_alloc HX5.out (.map #[] 0)) 4 (.int .i64 0) rfl) 5 (.int .i64 rF.g.pages) rfl) 6 (.map (some w5.heap.size)) rfl)
                · have hm : MapF (w5.alloc (.map #[] 0)) w5.heap.size 0 (idx []) := ⟨.map [], World.ownsMap_made _ _ _ _, fun x hx => rfl⟩
                  have hb := (blk_lt HX5.out)
                  exact hm.kept (hk3.2 w5.heap.size hm.lt (Nat.ne_of_gt hb))
                · exact ((Kept.of_below ha (fun j => j = gl)).then_ hk3 (fun j hj => .inl hj)).then_ (Kept.drew (Kept.refl _ (fun j => j = gl))) (fun j hj => .inl hj)
                · have hbs := HF5.out.2.2.2.2.2.2.1
                  exact ((((below_step HEND.out.2.1 ha).setCell (p := ⟨gl, 4, none⟩) hbs _).setCell (p := ⟨gl, 5, none⟩) hbs _).setCell (p := ⟨gl, 6, none⟩) hbs _).drew
            case rest =>
              obtain ⟨bk6, HC6⟩ := hcut
              clear p0 p5 p0b p5b y4 y6 z4 z5 z6 hmm
              have BX6 := Aside0.mk (blk_kept BX5.out HC6.out.2.2.1 N1.out)
              have HX6 := Aside0.mk HC6.out.1
              have p0 : wc.cell? ⟨g1, 0, none⟩ = some (pv gl) := (blk_cell BX6.out 0).trans rfl
              have p4 : wc.cell? ⟨gl, 4, none⟩ = some (.int .i64 0) := (blk_cell HX6.out 4).trans rfl
              have p5 : wc.cell? ⟨gl, 5, none⟩ = some (.int .i64 rF.g.pages) := (blk_cell HX6.out 5).trans rfl
              have p6 : wc.cell? ⟨gl, 6, none⟩ = some (.map (some bk6)) := (blk_cell HX6.out 6).trans rfl
              have hc := copied.calls bk6 0 (idx []) 0 rF.g.pages wc.drew (HC6.out.2.1.kept rfl) (by decide)
              unfold pcells at hc
              have HC := Aside0.mk hc
              clear hc
              go_upto_region 19 with (fail)
              go_region_law (first
                | (refine goes_ Try.func49 (by kernel_rfl) rfl #[.agg #[.int .i64 0, .int .i64 rF.g.pages, .map (some bk6)]] (by rfl) rfl rfl (by (try simp only [List.map_toArray, List.map_cons, List.map_nil]); first | done | rfl) ?_; (with_reducible refine HC.out.mono ?_); rintro e w7 ⟨b', rfl, hb7, hm7, hw7⟩; refine ⟨_, rfl, ?_⟩; have HB7 := Aside0.mk hb7; have HM7 := Aside0.mk hm7; have HW7 := Aside0.mk (below_step (below_drew (Below.refl _ wc)) hw7); have BX7 := Aside0.mk (blk_below BX6.out HW7.out); have HX7 := Aside0.mk (blk_below HX6.out HW7.out); have p70 : w7.cell? ⟨g1, 0, none⟩ = some (pv gl) := (blk_cell BX7.out 0).trans rfl; have y1 : ∃ v, w7.cell? ⟨gl, 1, none⟩ = some v := ⟨_, (blk_cell HX7.out 1).trans rfl⟩; have y2 : ∃ v, w7.cell? ⟨gl, 2, none⟩ = some v := ⟨_, (blk_cell HX7.out 2).trans rfl⟩; have y3 : ∃ v, w7.cell? ⟨gl, 3, none⟩ = some v := ⟨_, (blk_cell HX7.out 3).trans rfl⟩; obtain ⟨x1, y1⟩ := y1; obtain ⟨x2, y2⟩ := y2; obtain ⟨x3, y3⟩ := y3; have z1 := blk_frozen HX7.out 1; have z2 := blk_frozen HX7.out 2; have z3 := blk_frozen HX7.out 3; clear hb7 hm7 hw7))
              all_goals
                try go_frame
                go_wp2_with (fail)
                go_ret
                rw [HS0.out]
                refine ⟨rfl, ?_⟩
                obtain ⟨hn5, hk5, hne, hgl, hbn, hbk, hb1, hb2, hb3⟩ := HF5.out
                have hk3 := set3_kept w7 gl 1 2 3 (.int .i64 0) (.int .i64 rF.g.pages) (.map (some b'))
                have hk8 : Kept w5 (((w7.setCell ⟨gl, 1, none⟩ (.int .i64 0)).setCell ⟨gl, 2, none⟩ (.int .i64 rF.g.pages)).setCell ⟨gl, 3, none⟩ (.map (some b'))) (fun j => j = gl) :=
                  (HC6.out.2.2.1.then_ (Kept.of_below HW7.out (fun j => j = gl)) (fun j hj => .inl hj)).then_ hk3 (fun j hj => .inl hj)
                have hs6 := HC6.out.2.2.1.1
                have hb5 : w5.heap.size ≤ b' := Nat.le_trans hs6 HB7.out
                have hk6 := HC6.out.2.1.lt
                have hk7 : bk6 < b' := Nat.lt_of_lt_of_le hk6 HB7.out
                refine ⟨(frPL _ _ _ _ _).mono (PL.redo (w := w5) (g' := { rF.g with fr := [], kept := 0 }) HEND.out.1 hk8 HX5.out (bn' := b') (bk' := bk6) ?_ ?_ ?_ (by omega) (.inr (.inr hb5)) (.inr (.inr HC6.out.2.2.2.2))) (fun k hk => hk.elim id (fun h => .inr (Nat.le_trans HEND.out.2.2.1 h))), ?_, ?_⟩
                · exact blk_put (blk_put (blk_put HX7.out 1 (.int .i64 0) rfl) 2 (.int .i64 rF.g.pages) rfl) 3 (.map (some b')) rfl
                · exact HM7.out.kept (hk3.2 b' HM7.out.lt (HM7.out.ne HX7.out))
                · have hm6 := HC6.out.2.1
                  have hmw := hm6.kept ((Kept.of_below HW7.out (fun j => j = gl)).2 bk6 hm6.lt (hm6.ne HX6.out))
                  exact hmw.kept (hk3.2 bk6 hmw.lt (hmw.ne HX7.out))
                · exact (((below_step HC6.out.2.2.2.1 HW7.out).setCell (p := ⟨gl, 1, none⟩) hb1 _).setCell (p := ⟨gl, 2, none⟩) hb1 _).setCell (p := ⟨gl, 3, none⟩) hb1 _
                · exact HEND.out.2.2.then_ hk8 (fun j hj => .inl (by rw [hj]; exact HGL.out))
          · have q_ : (rF.c != 0) = true := by simp [bne, beq_false hc]
            have HS0 := Aside0.mk (HS2.out.trans (if_neg hc))
            clear hc
            go_wp2_with (fail)
            go_ret
            rw [HS0.out]
            exact ⟨rfl, HEND.out⟩
  · have n1 : ((g.fr.length : Int) != (g.kept : Int)) = true := by simp [bne, beq_false (show (g.fr.length : Int) ≠ (g.kept : Int) by omega)]
    have HS := Aside0.mk (show Lg.checkpoint s g = ⟨11, s, g⟩ by unfold Lg.checkpoint; rw [if_pos h1])
    go_enter Try.func38, Try.ntmps38
    go_upto_region 1 with (first
    | ((with_reducible refine gate_dst (N := 1) rfl ?_); refine box_event ?hg (N := 1) ?hd (cs := #[pv gl]) (t := 60) ?hr ?_; (case hd => rfl); (case hg => rfl); (case hr => first | (go_simp; done) | (go_simp; rfl)); intro g1 hg1 w1 hbox hb; have HX1 := Aside0.mk hbox; have HB1 := Aside0.mk hb; have HG1 := Aside0.mk hg1; clear hg1 hbox hb))
    have HXL := Aside0.mk (blk_below HX.out HB1.out)
    have p0 : w1.cell? ⟨g1, 0, none⟩ = some (pv gl) := (blk_cell HX1.out 0).trans rfl
    have p1 : w1.cell? ⟨gl, 1, none⟩ = some (.int .i64 g.fr.length) := (blk_cell HXL.out 1).trans rfl
    have p4 : w1.cell? ⟨gl, 4, none⟩ = some (.int .i64 g.kept) := (blk_cell HXL.out 4).trans rfl
    clear h1
    go_quiet (fail)
    have FB := Aside0.mk (pw_below_drewN HB1.out nq)
    generalize w1.drewN nq = w2 at FB ⊢
    go_wp2_with (fail)
    go_ret
    exact FIN.out 11 HS.out _ FB.out
abbrev C4 := Nat × Nat × Nat × Nat
def l0cells (gd : Nat) (c : C4) (bk : Nat) : Array Value :=
  #[.pointer (some ⟨gd, 0, none⟩), .int .i64 0, .int .i64 0, .map none, .int .i64 c.2.2.1, .int .i64 c.2.2.2, .map (some bk), .int .i64 c.1, .int .i64 c.2.1]
def LX0 (base gl gd : Nat) (c : C4) (n : Nat) (f : Int → Int) (w : World) (O : Nat → Prop) : Prop :=
  ∃ bk, w.heap[gl]? = some (.cells (l0cells gd c bk) 96 (0, 0)) ∧ MapF w bk n f ∧ O gl ∧ O bk ∧ base ≤ gl ∧ base ≤ bk
theorem frL0 (base gl gd : Nat) (c : C4) (n : Nat) (f : Int → Int) : Fr base (LX0 base gl gd c n f) := by
  refine ⟨?_, ?_, ?_⟩
  · rintro w w' O S ⟨bk, h1, h3, h5, h7, h8⟩ hk hs
    exact ⟨bk, blk_kept h1 hk (hs gl h5), h3.kept (hk.2 bk h3.lt (hs bk h7)), h5, h7, h8⟩
  · rintro w O O' ⟨bk, h1, h3, h5, h7, h8⟩ hs
    exact ⟨bk, h1, h3, hs _ h5, hs _ h7, h8⟩
  · rintro w O ⟨bk, h1, h3, h5, h7, h8⟩
    exact ⟨bk, h1, h3, ⟨h5, h8.1, blk_lt h1⟩, ⟨h7, h8.2, h3.lt⟩, h8⟩
theorem lkL0 (base gd gl : Nat) (c : C4) (n : Nat) (f : Int → Int) : Lk base gd gl (LX0 base gl gd c n f) :=
  ⟨frL0 _ _ _ _ _ _, fun w O h => by obtain ⟨bk, hx, -⟩ := h; exact (blk_cell hx 0).trans rfl⟩
def PL0 (w : World) (base gd gl : Nat) (O : Nat → Prop) (s : St) (c : C4) (n : Nat) (f : Int → Int) : Prop := Sep base (fun w O => DD w base gd O s) (LX0 base gl gd c n f) w O
theorem frPL0 (base gd gl : Nat) (s : St) (c : C4) (n : Nat) (f : Int → Int) : Fr base (fun w O => PL0 w base gd gl O s c n f) := frSep (frD base gd s) (frL0 base gl gd c n f)
section
variable {w w' : World} {base gd gl : Nat} {O : Nat → Prop} {s : St} {c : C4} {n : Nat} {f : Int → Int}
theorem PL0.cells (h : PL0 w base gd gl O s c n f) : ∃ bk, w.heap[gl]? = some (.cells (l0cells gd c bk) 96 (0, 0)) ∧ MapF w bk n f ∧ O gl ∧ O bk ∧ base ≤ gl ∧ base ≤ bk := by
  obtain ⟨O1, O2, hd, ⟨bk, hx, hmk, hgl, hbk, hb1, hb3⟩, ho1, ho2, -⟩ := h
  exact ⟨bk, hx, hmk, ho2 _ hgl, ho2 _ hbk, hb1, hb3⟩
theorem PL0.upd {c' : C4} (h : PL0 w base gd gl O s c n f) (hk : Kept w w' (fun j => j = gl)) (hx : ∀ bk, w.heap[gl]? = some (.cells (l0cells gd c bk) 96 (0, 0)) → w'.heap[gl]? = some (.cells (l0cells gd c' bk) 96 (0, 0))) : PL0 w' base gd gl O s c' n f := by
  obtain ⟨O1, O2, hd, ⟨bk, hb, hmk, hgl, hbk, hb1, hb3⟩, ho1, ho2, hdis, hbd1, hbd2⟩ := h
  exact ⟨O1, O2, (frD _ _ _).apart hd hk (fun j hj he => hdis j hj (by rw [he]; exact hgl)), ⟨bk, hx _ hb, hmk.kept (hk.2 bk hmk.lt (hmk.ne hb)), hgl, hbk, hb1, hb3⟩, ho1, ho2, hdis, fun j hj => ⟨(hbd1 j hj).1, Nat.lt_of_lt_of_le (hbd1 j hj).2 hk.1⟩, fun j hj => ⟨(hbd2 j hj).1, Nat.lt_of_lt_of_le (hbd2 j hj).2 hk.1⟩⟩
theorem set4_kept (w : World) (gl : Nat) (a b x y : Value) : Kept w ((((w.setCell ⟨gl, 7, none⟩ a).setCell ⟨gl, 8, none⟩ b).setCell ⟨gl, 4, none⟩ x).setCell ⟨gl, 5, none⟩ y) (fun j => j = gl) :=
  (((set_kept (w := w) (g := gl) (j := 7) (v := a)).then_ (set_kept (g := gl) (j := 8) (v := b)) (fun j hj => .inl hj)).then_ (set_kept (g := gl) (j := 4) (v := x)) (fun j hj => .inl hj)).then_ (set_kept (g := gl) (j := 5) (v := y)) (fun j hj => .inl hj)
theorem set4_below {w0 : World} (h : Below base w0 w) (hb : base ≤ gl) (a b x y : Value) : Below base w0 ((((w.setCell ⟨gl, 7, none⟩ a).setCell ⟨gl, 8, none⟩ b).setCell ⟨gl, 4, none⟩ x).setCell ⟨gl, 5, none⟩ y) :=
  (((h.setCell (p := ⟨gl, 7, none⟩) hb a).setCell (p := ⟨gl, 8, none⟩) hb b).setCell (p := ⟨gl, 4, none⟩) hb x).setCell (p := ⟨gl, 5, none⟩) hb y
theorem PL0.set4 (h : PL0 w base gd gl O s c n f) (k a b d : Nat) : PL0 ((((w.setCell ⟨gl, 7, none⟩ (.int .i64 k)).setCell ⟨gl, 8, none⟩ (.int .i64 a)).setCell ⟨gl, 4, none⟩ (.int .i64 b)).setCell ⟨gl, 5, none⟩ (.int .i64 d)) base gd gl O s (k, a, b, d) n f :=
  h.upd (set4_kept w gl _ _ _ _) (fun bk hb => blk_put (blk_put (blk_put (blk_put hb 7 (.int .i64 k) rfl) 8 (.int .i64 a) rfl) 4 (.int .i64 b) rfl) 5 (.int .i64 d) rfl)
end
def markB : ByteArray := ⟨#[114, 101, 108, 115, 116, 111, 114, 101, 32, 108, 111, 103, 32, 48, 48, 49]⟩
def lastStep (text : ByteArray) (k : Nat) (c : C4) : C4 := match slotOfB text k with
  | none => c
  | some (n, f, p) => if c.2.1 = 0 ∨ n = c.2.1 % 3 + 1 then (k, n, f, p) else c
def lastN (text : ByteArray) : Nat → Nat → C4
  | 0, p => (0, 0, 0, p)
  | k + 1, p => lastStep text k (lastN text k p)
abbrev markL : List UInt8 := [114, 101, 108, 115, 116, 111, 114, 101, 32, 108, 111, 103, 32, 48, 48, 49]
def lastOf (text : ByteArray) (p : Nat) : C4 := if text.size < 16 ∨ (text.extract 0 16).toList ≠ markL then (0, 0, 0, p) else lastN text 2 p
theorem lastStep_none {text : ByteArray} {k : Nat} {c : C4} (h : slotOfB text k = none) : lastStep text k c = c := by unfold lastStep; rw [h]
theorem lastStep_take {text : ByteArray} {k n f p : Nat} {c : C4} (h : slotOfB text k = some (n, f, p)) (hz : c.2.1 = 0 ∨ n = c.2.1 % 3 + 1) : lastStep text k c = (k, n, f, p) := by unfold lastStep; rw [h]; exact if_pos hz
theorem lastStep_keep {text : ByteArray} {k n f p : Nat} {c : C4} (h : slotOfB text k = some (n, f, p)) (hz : ¬ (c.2.1 = 0 ∨ n = c.2.1 % 3 + 1)) : lastStep text k c = c := by unfold lastStep; rw [h]; exact if_neg hz
theorem slotOfB_le {text : ByteArray} {k n f p : Nat} (h : slotOfB text k = some (n, f, p)) : 1 ≤ n ∧ n ≤ 3 ∧ (f = 0 ∨ 64 + 1028 * f ≤ text.size) := by
  unfold slotOfB at h
  split at h
  · cases h
  · split at h
    · rename_i hk
      cases h
      exact hk.2
    · cases h
set_option maxHeartbeats 8000000 in
set_option maxRecDepth 100000 in
theorem last.calls (gd gl : Nat) (O : Nat → Prop) (s : St) (p : Nat) (mn : Nat) (mf : Int → Int) (text : ByteArray) (w0 w : World) (hB : Below w0.heap.size w0 w) (hD : PL0 w w0.heap.size gd gl O s (0, 0, 0, p) mn mf) (hs : text.size ≤ 67108864) :
    Calls Try.prog 46 #[pv gl, .string text] w fun e w' => e = .returned (.bool (decide (0 < (lastOf text p).2.1))) ∧
      PL0 w' w0.heap.size gd gl O s (lastOf text p) mn mf ∧ Below w0.heap.size w0 w' ∧ Kept w w' O := by
  have HB := Aside0.mk hB
  have HD := Aside0.mk hD
  have HSZ := Aside0.mk hs
  obtain ⟨bk0, hx0, hmk0, hgl0, hbk0, hb01, hb02⟩ := PL0.cells hD
  have HGL := Aside0.mk hgl0
  clear hx0 hmk0 hgl0 hbk0 hb01 hb02 hB hD hs
  by_cases hl : text.size < 16
  · have HS := Aside0.mk (show lastOf text p = (0, 0, 0, p) by unfold lastOf; rw [if_pos (.inl hl)])
    have l_ : (text.size : Int) < 16 := by omega
    have l2_ : decide ((text.size : Int) < 16) = true := decide_eq_true l_
    clear hl
    go_enter Try.func46, Try.ntmps46
    go_wp2_with (fail)
    go_ret
    rw [HS.out]
    exact ⟨rfl, HD.out, HB.out, Kept.refl _ _⟩
  · have l_ : ¬ (text.size : Int) < 16 := by omega
    have l2_ : decide ((text.size : Int) < 16) = false := decide_eq_false l_
    have l3_ : ¬ text.size < 16 := hl
    have l4_ : 16 ≤ text.size := by omega
    by_cases hm : (text.extract 0 16).toList = markL
    · have HS := Aside0.mk (show lastOf text p = lastN text 2 p by unfold lastOf; rw [if_neg (fun h => h.elim hl (fun h => h hm))])
      have qm : ((text.extract 0 16).toList == [114, 101, 108, 115, 116, 111, 114, 101, 32, 108, 111, 103, 32, 48, 48, 49]) = true := beq_iff_eq.mpr hm
      clear hm hl
      go_enter Try.func46, Try.ntmps46
      go_wp2_with (fail)
      go_loopw [18] (fun v18 wr => ∃ (j : Nat), j ≤ 2 ∧ v18 = .int .i64 (j : Int) ∧ Aside0 (PL0 wr w0.heap.size gd gl O s (lastN text j p) mn mf) ∧ Aside0 (Below w0.heap.size w0 wr) ∧ Aside0 (Kept w wr O)) (fun v18 _ => 2 - (intOf v18).toNat)
      case atStart => exact ⟨0, Nat.zero_le _, rfl, HD, HB, ⟨Kept.refl _ _⟩⟩
      case round =>
        clear HB HD
        obtain ⟨j, hj, rfl, HR, HBr, HKr⟩ := hrel
        by_cases hj2 : j < 2
        · have t_ : decide ((j : Int) < 2) = true := decide_eq_true (by omega)
          have HN := Aside0.mk (show lastN text (j + 1) p = lastStep text j (lastN text j p) from rfl)
          obtain ⟨c, hc⟩ : ∃ c, c = lastN text j p := ⟨_, rfl⟩
          rw [← hc] at HR HN
          clear hc
          by_cases hj0 : j = 0
          · subst hj0
            have HSA := Aside0.mk (slotAt.calls0 text wr HSZ.out)
            go_upto_region 7 with (go_at_call 73; (with_reducible refine HSA.out.mono ?_); rintro e w1 ⟨n, f, q, ok, rfl, h1, h2⟩; have H1 := Aside0.mk h1; have H2 := Aside0.mk h2; clear h1 h2)
            clear HSA
            have P1 := Aside0.mk ((frPL0 _ _ _ _ _ _ _).apart HR.out (S := fun _ => False) (Kept.of_below H2.out _) (fun _ _ h => h))
            have B1 := Aside0.mk (below_step HBr.out H2.out)
            have K1 := Aside0.mk (HKr.out.then_ (Kept.of_below H2.out O) (fun k hk => .inl hk))
            obtain ⟨bk1, hx1, hmk1, hgl1, hbk1, hb11, hb12⟩ := PL0.cells P1.out
            have HX1 := Aside0.mk hx1
            have p8 : w1.cell? ⟨gl, 8, none⟩ = some (.int .i64 c.2.1) := (blk_cell hx1 8).trans rfl
            cases ok with
            | false =>
              have HST := Aside0.mk (lastStep_none (c := c) (show slotOfB text 0 = none from H1.out.trans (if_neg (by decide))))
              clear hx1
              go_wp2_with (fail)
              go_roundw
              case rel => exact ⟨0 + 1, by omega, rfl, ⟨by show PL0 _ _ _ _ _ _ (lastN text 1 p) _ _; rw [HN.out, HST.out]; exact (frPL0 _ _ _ _ _ _ _).mono P1.out (fun k hk => hk)⟩, B1, K1⟩
              case measure => simp [intOf]
            | true =>
              have hso : slotOfB text 0 = some (n, f, q) := H1.out.trans (if_pos rfl)
              have hnn := slotOfB_le hso
              by_cases hz : c.2.1 = 0 ∨ n = c.2.1 % 3 + 1
              · have HST := Aside0.mk (lastStep_take hso hz)
                have p7 : ∃ v, w1.cell? ⟨gl, 7, none⟩ = some v := ⟨_, (blk_cell hx1 7).trans rfl⟩
                have p4 : ∃ v, w1.cell? ⟨gl, 4, none⟩ = some v := ⟨_, (blk_cell hx1 4).trans rfl⟩
                have p5 : ∃ v, w1.cell? ⟨gl, 5, none⟩ = some v := ⟨_, (blk_cell hx1 5).trans rfl⟩
                obtain ⟨x7, p7⟩ := p7
                obtain ⟨x4, p4⟩ := p4
                obtain ⟨x5, p5⟩ := p5
                have z4 := blk_frozen hx1 4
                have z5 := blk_frozen hx1 5
                have z7 := blk_frozen hx1 7
                have z8 := blk_frozen hx1 8
                clear hx1
                by_cases hz0 : c.2.1 = 0
                · have qz : ((c.2.1 : Int) == 0) = true := by rw [hz0]; rfl
                  clear hz hz0
                  go_wp2_with (fail)
                  go_roundw
                  case rel => exact ⟨0 + 1, by omega, rfl, ⟨by show PL0 _ _ _ _ _ _ (lastN text 1 p) _ _; rw [HN.out, HST.out]; exact PL0.set4 P1.out 0 n f q⟩, ⟨set4_below B1.out hb11 _ _ _ _⟩, ⟨K1.out.then_ (set4_kept w1 gl _ _ _ _) (fun j hj => .inl (by rw [hj]; exact HGL.out))⟩⟩
                  case measure => simp [intOf]
                · have qz : ((c.2.1 : Int) == 0) = false := beq_false (by omega)
                  have hn3 : n = c.2.1 % 3 + 1 := hz.resolve_left hz0
                  have d_ : (c.2.1 : Int).tmod 3 = (c.2.1 : Int) % 3 := Int.tmod_eq_emod_of_nonneg (by omega)
                  have v1 : IntKind.i64.wrap ((c.2.1 : Int) % 3) = (c.2.1 : Int) % 3 := IntWalk.i64_in _ (by omega)
                  have v2 : IntKind.i64.wrap ((c.2.1 : Int) % 3 + 1) = (c.2.1 : Int) % 3 + 1 := IntWalk.i64_in _ (by omega)
                  have qn : ((n : Int) == (c.2.1 : Int) % 3 + 1) = true := by rw [hn3]; simp
                  clear hz hz0 hn3
                  go_wp2_with (fail)
                  go_roundw
                  case rel => exact ⟨0 + 1, by omega, rfl, ⟨by show PL0 _ _ _ _ _ _ (lastN text 1 p) _ _; rw [HN.out, HST.out]; exact PL0.set4 P1.out 0 n f q⟩, ⟨set4_below B1.out hb11 _ _ _ _⟩, ⟨K1.out.then_ (set4_kept w1 gl _ _ _ _) (fun j hj => .inl (by rw [hj]; exact HGL.out))⟩⟩
                  case measure => simp [intOf]
              · have HST := Aside0.mk (lastStep_keep hso hz)
                have hz0 : c.2.1 ≠ 0 := fun h => hz (.inl h)
                have hn3 : n ≠ c.2.1 % 3 + 1 := fun h => hz (.inr h)
                have qz : ((c.2.1 : Int) == 0) = false := beq_false (by omega)
                have d_ : (c.2.1 : Int).tmod 3 = (c.2.1 : Int) % 3 := Int.tmod_eq_emod_of_nonneg (by omega)
                have v1 : IntKind.i64.wrap ((c.2.1 : Int) % 3) = (c.2.1 : Int) % 3 := IntWalk.i64_in _ (by omega)
                have v2 : IntKind.i64.wrap ((c.2.1 : Int) % 3 + 1) = (c.2.1 : Int) % 3 + 1 := IntWalk.i64_in _ (by omega)
                have qn : ((n : Int) == (c.2.1 : Int) % 3 + 1) = false := beq_false (by omega)
                clear hz hz0 hn3 hx1
                go_wp2_with (fail)
                go_roundw
                case rel => exact ⟨0 + 1, by omega, rfl, ⟨by show PL0 _ _ _ _ _ _ (lastN text 1 p) _ _; rw [HN.out, HST.out]; exact (frPL0 _ _ _ _ _ _ _).mono P1.out (fun k hk => hk)⟩, B1, K1⟩
                case measure => simp [intOf]
          · obtain rfl : j = 1 := by omega
            clear hj0
            have HSA := Aside0.mk (slotAt.calls1 text wr HSZ.out)
            go_upto_region 7 with (go_at_call 73; (with_reducible refine HSA.out.mono ?_); rintro e w1 ⟨n, f, q, ok, rfl, h1, h2⟩; have H1 := Aside0.mk h1; have H2 := Aside0.mk h2; clear h1 h2)
            clear HSA
            have P1 := Aside0.mk ((frPL0 _ _ _ _ _ _ _).apart HR.out (S := fun _ => False) (Kept.of_below H2.out _) (fun _ _ h => h))
            have B1 := Aside0.mk (below_step HBr.out H2.out)
            have K1 := Aside0.mk (HKr.out.then_ (Kept.of_below H2.out O) (fun k hk => .inl hk))
            obtain ⟨bk1, hx1, hmk1, hgl1, hbk1, hb11, hb12⟩ := PL0.cells P1.out
            have HX1 := Aside0.mk hx1
            have p8 : w1.cell? ⟨gl, 8, none⟩ = some (.int .i64 c.2.1) := (blk_cell hx1 8).trans rfl
            cases ok with
            | false =>
              have HST := Aside0.mk (lastStep_none (c := c) (show slotOfB text 1 = none from H1.out.trans (if_neg (by decide))))
              clear hx1
              go_wp2_with (fail)
              go_roundw
              case rel => exact ⟨1 + 1, by omega, rfl, ⟨by show PL0 _ _ _ _ _ _ (lastN text 2 p) _ _; rw [HN.out, HST.out]; exact (frPL0 _ _ _ _ _ _ _).mono P1.out (fun k hk => hk)⟩, B1, K1⟩
              case measure => simp [intOf]
            | true =>
              have hso : slotOfB text 1 = some (n, f, q) := H1.out.trans (if_pos rfl)
              have hnn := slotOfB_le hso
              by_cases hz : c.2.1 = 0 ∨ n = c.2.1 % 3 + 1
              · have HST := Aside0.mk (lastStep_take hso hz)
                have p7 : ∃ v, w1.cell? ⟨gl, 7, none⟩ = some v := ⟨_, (blk_cell hx1 7).trans rfl⟩
                have p4 : ∃ v, w1.cell? ⟨gl, 4, none⟩ = some v := ⟨_, (blk_cell hx1 4).trans rfl⟩
                have p5 : ∃ v, w1.cell? ⟨gl, 5, none⟩ = some v := ⟨_, (blk_cell hx1 5).trans rfl⟩
                obtain ⟨x7, p7⟩ := p7
                obtain ⟨x4, p4⟩ := p4
                obtain ⟨x5, p5⟩ := p5
                have z4 := blk_frozen hx1 4
                have z5 := blk_frozen hx1 5
                have z7 := blk_frozen hx1 7
                have z8 := blk_frozen hx1 8
                clear hx1
                by_cases hz0 : c.2.1 = 0
                · have qz : ((c.2.1 : Int) == 0) = true := by rw [hz0]; rfl
                  clear hz hz0
                  go_wp2_with (fail)
                  go_roundw
                  case rel => exact ⟨1 + 1, by omega, rfl, ⟨by show PL0 _ _ _ _ _ _ (lastN text 2 p) _ _; rw [HN.out, HST.out]; exact PL0.set4 P1.out 1 n f q⟩, ⟨set4_below B1.out hb11 _ _ _ _⟩, ⟨K1.out.then_ (set4_kept w1 gl _ _ _ _) (fun j hj => .inl (by rw [hj]; exact HGL.out))⟩⟩
                  case measure => simp [intOf]
                · have qz : ((c.2.1 : Int) == 0) = false := beq_false (by omega)
                  have hn3 : n = c.2.1 % 3 + 1 := hz.resolve_left hz0
                  have d_ : (c.2.1 : Int).tmod 3 = (c.2.1 : Int) % 3 := Int.tmod_eq_emod_of_nonneg (by omega)
                  have v1 : IntKind.i64.wrap ((c.2.1 : Int) % 3) = (c.2.1 : Int) % 3 := IntWalk.i64_in _ (by omega)
                  have v2 : IntKind.i64.wrap ((c.2.1 : Int) % 3 + 1) = (c.2.1 : Int) % 3 + 1 := IntWalk.i64_in _ (by omega)
                  have qn : ((n : Int) == (c.2.1 : Int) % 3 + 1) = true := by rw [hn3]; simp
                  clear hz hz0 hn3
                  go_wp2_with (fail)
                  go_roundw
                  case rel => exact ⟨1 + 1, by omega, rfl, ⟨by show PL0 _ _ _ _ _ _ (lastN text 2 p) _ _; rw [HN.out, HST.out]; exact PL0.set4 P1.out 1 n f q⟩, ⟨set4_below B1.out hb11 _ _ _ _⟩, ⟨K1.out.then_ (set4_kept w1 gl _ _ _ _) (fun j hj => .inl (by rw [hj]; exact HGL.out))⟩⟩
                  case measure => simp [intOf]
              · have HST := Aside0.mk (lastStep_keep hso hz)
                have hz0 : c.2.1 ≠ 0 := fun h => hz (.inl h)
                have hn3 : n ≠ c.2.1 % 3 + 1 := fun h => hz (.inr h)
                have qz : ((c.2.1 : Int) == 0) = false := beq_false (by omega)
                have d_ : (c.2.1 : Int).tmod 3 = (c.2.1 : Int) % 3 := Int.tmod_eq_emod_of_nonneg (by omega)
                have v1 : IntKind.i64.wrap ((c.2.1 : Int) % 3) = (c.2.1 : Int) % 3 := IntWalk.i64_in _ (by omega)
                have v2 : IntKind.i64.wrap ((c.2.1 : Int) % 3 + 1) = (c.2.1 : Int) % 3 + 1 := IntWalk.i64_in _ (by omega)
                have qn : ((n : Int) == (c.2.1 : Int) % 3 + 1) = false := beq_false (by omega)
                clear hz hz0 hn3 hx1
                go_wp2_with (fail)
                go_roundw
                case rel => exact ⟨1 + 1, by omega, rfl, ⟨by show PL0 _ _ _ _ _ _ (lastN text 2 p) _ _; rw [HN.out, HST.out]; exact (frPL0 _ _ _ _ _ _ _).mono P1.out (fun k hk => hk)⟩, B1, K1⟩
                case measure => simp [intOf]
        · obtain rfl : j = 2 := by omega
          clear hj2 hj
          obtain ⟨bk1, hx1, -⟩ := PL0.cells HR.out
          have p8 : wr.cell? ⟨gl, 8, none⟩ = some (.int .i64 (lastN text 2 p).2.1) := (blk_cell hx1 8).trans rfl
          clear hx1
          go_wp2_with (fail)
          go_ret
          rw [HS.out]
          exact ⟨rfl, HR.out, HBr.out, HKr.out⟩
    · have HS := Aside0.mk (show lastOf text p = (0, 0, 0, p) by unfold lastOf; rw [if_pos (.inr hm)])
      have qm : ((text.extract 0 16).toList == [114, 101, 108, 115, 116, 111, 114, 101, 32, 108, 111, 103, 32, 48, 48, 49]) = false := beq_eq_false_iff_ne.mpr hm
      clear hm hl
      go_enter Try.func46, Try.ntmps46
      go_wp2_with (fail)
      go_ret
      rw [HS.out]
      exact ⟨rfl, HD.out, HB.out, Kept.refl _ _⟩
theorem slotB_size (n f p : Nat) : (slotB n f p).size = 24 := by
  unfold slotB
  simp [ByteArray.size_append, size_four, twelve]
def begin1 (s : St) (p : Nat) : Int × St :=
  let a := s.cutTo 1 0
  if a.1 ≠ 0 then a else
  let b := a.2.sync 1
  if b.1 ≠ 0 then b else
  let c := b.2.write 1 0 (markB ++ slotB 1 0 p)
  if c.1 ≠ 0 then c else c.2.sync 1
theorem begin1_ok {s : St} {m : Nat} (h : s.ok m) (p : Nat) : (begin1 s p).2.ok (m + 4) := by
  unfold begin1
  simp only
  have h1 := h.cutTo 1 0
  have h2 := h1.sync 1
  have h3 := h2.write 1 0 (markB ++ slotB 1 0 p)
  have h4 := h3.sync 1
  split
  · exact h1.mono (by omega)
  · split
    · exact h2.mono (by omega)
    · split
      · exact h3.mono (by omega)
      · exact h4
theorem begin1_is (s : St) (p : Nat) (a b c d : Int × St) (ha : a = s.cutTo 1 0) (hb : b = a.2.sync 1) (hc : c = b.2.write 1 0 (markB ++ slotB 1 0 p)) (hd : d = c.2.sync 1) :
    begin1 s p = if a.1 ≠ 0 then a else if b.1 ≠ 0 then b else if c.1 ≠ 0 then c else d := by
  unfold begin1
  simp only
  rw [← ha, ← hb, ← hc, ← hd]
theorem WB.cells0 {w0 w : World} {bx : List (Nat × Obj)} {gd gl : Nat} {c : C4} {n : Nat} {f : Int → Int} {O : Nat → Prop} {s : St} (h : WB w0 w bx gd (LX0 w0.heap.size gl gd c n f) O s) : w.cell? ⟨gl, 5, none⟩ = some (.int .i64 c.2.2.2) := by
  obtain ⟨bk, hx, -⟩ := PL0.cells h.hD
  exact (blk_cell hx 5).trans rfl
set_option maxHeartbeats 4000000 in
set_option maxRecDepth 100000 in
theorem write173.calls (bl gd gl : Nat) (bx : List (Nat × Obj)) (c : C4) (n : Nat) (f : Int → Int) (O : Nat → Prop) (s : St) (m : Nat) (w0 w : World) (h : WB w0 w bx gd (LX0 w0.heap.size gl gd c n f) O s) (hok : s.ok m) (hm : m ≤ 900000000)
    (hb : (bl, bx1 (pv gl) 60) ∈ bx) :
    Calls Try.prog 76 #[pv bl] w fun e w' => e = .returned (.int .i64 (s.write 1 0 (markB ++ slotB 1 0 c.2.2.2)).1) ∧ Ran w0 w bx gd (LX0 w0.heap.size gl gd c n f) O (s.write 1 0 (markB ++ slotB 1 0 c.2.2.2)).2 w' := by
  have hl := lkL0 w0.heap.size gd gl c n f
  have held : ∀ {w1 : World} {O1 : Nat → Prop} {s1 : St}, WB w0 w1 bx gd (LX0 w0.heap.size gl gd c n f) O1 s1 → w1.cell? ⟨bl, 0, none⟩ = some (pv gl) ∧ w1.cell? ⟨gl, 0, none⟩ = some (pv gd) ∧ w1.cell? ⟨gl, 5, none⟩ = some (.int .i64 c.2.2.2) :=
    fun h1 => ⟨(h1.box _ _ _ hb 0).trans rfl, h1.disk hl, WB.cells0 h1⟩
  have HELD := Aside0.mk @held
  clear held
  have T0 := Aside0.mk h
  have HL := Aside0.mk hl
  have HOK := Aside0.mk hok
  have HM := Aside0.mk (Nat.le_trans hm (by decide : (900000000:Nat) ≤ 1000000000))
  have htx := slotText_is 1 0 c.2.2.2
  have hsz := slotB_size 1 0 c.2.2.2
  obtain ⟨tx, etx⟩ : ∃ tx, tx = slotB 1 0 c.2.2.2 := ⟨_, rfl⟩
  rw [← etx] at htx hsz ⊢
  have HT := Aside0.mk (show wal_slotText.f 1 0 (c.2.2.2 : Int) = some tx from htx)
  have sz1 : (9223372036854775807 < 16 + tx.size) = False := eq_false (by omega)
  have sz2 : ¬ (9223372036854775807 < 16 + tx.size) := by omega
  have sz3 : (9223372036854775807 < (ByteArray.mk #[114, 101, 108, 115, 116, 111, 114, 101, 32, 108, 111, 103, 32, 48, 48, 49]).size + tx.size) = False := eq_false (by rw [show (ByteArray.mk #[114, 101, 108, 115, 116, 111, 114, 101, 32, 108, 111, 103, 32, 48, 48, 49]).size = 16 from rfl]; omega)
  clear h hl hok hm htx hb etx hsz
  go_enter Try.func76, Try.ntmps76
  go_upto_region 1 with (fail)
  go_region_held3 (fun w' => w'.cell? ⟨bl, 0, none⟩ = some (pv gl) ∧ w'.cell? ⟨gl, 0, none⟩ = some (pv gd) ∧ w'.cell? ⟨gl, 5, none⟩ = some (.int .i64 c.2.2.2)) (first | exact HELD.out T2.out.1 | exact HELD.out T1.out | exact HELD.out (T0.out.drew HL.out))
    (first
    | (have T1_ := Aside0.mk T1.out; go_at_call 44; (with_reducible refine (T1.out.onD HL.out (fun O1 h1 => write.calls gd O1 s 1 0 (⟨#[114, 101, 108, 115, 116, 111, 114, 101, 32, 108, 111, 103, 32, 48, 48, 49]⟩ ++ tx) _ w0 _ T1.out.hB h1 HOK.out HM.out)).mono ?_); rintro e w4 ⟨rfl, hd⟩; have T2 := Aside0.mk hd; clear hd)
    | (have T1 := Aside0.mk (T0.out.drew HL.out); go_at_call 77; (with_reducible refine (wal_slotText.calls 1 0 (c.2.2.2 : Int) tx _ HT.out).mono ?_); rintro e3 w3 ⟨rfl, hb3⟩; replace T1 := Aside0.mk ((T0.out.drew HL.out).below HL.out hb3); have HB3 := Aside0.mk (below_step (below_drew (Below.refl _ w)) hb3); clear hb3))
  go_wp2_with (fail)
  go_ret
  have hs3 := HB3.out.size
  have hd := T2.out
  exact ⟨rfl, hd.1.mono HL.out (fun k hk => hk.imp id (Nat.le_trans hs3)) (fun x hx ho => ho.elim (T0.out.bx x hx).2 (Nat.not_le.mpr (T0.out.lt hx))), (Kept.of_below HB3.out O).then_ hd.2 (fun k hk => .inl hk)⟩
set_option maxHeartbeats 8000000 in
set_option maxRecDepth 100000 in
theorem begin.calls (gd gl : Nat) (O : Nat → Prop) (s : St) (c : C4) (n : Nat) (f : Int → Int) (m : Nat) (w0 w : World) (hB : Below w0.heap.size w0 w) (hD : PL0 w w0.heap.size gd gl O s c n f) (hok : s.ok m) (hm : m ≤ 700000000) :
    Calls Try.prog 47 #[pv gl] w fun e w' => e = .returned (.int .i64 (begin1 s c.2.2.2).1) ∧
      PL0 w' w0.heap.size gd gl (fun k => O k ∨ w.heap.size ≤ k) (begin1 s c.2.2.2).2 (0, 1, c.2.2.1, c.2.2.2) n f ∧ Below w0.heap.size w0 w' ∧ Kept w w' O := by
  have HB := Aside0.mk hB
  have HD := Aside0.mk hD
  have HOK := Aside0.mk hok
  have HM := Aside0.mk hm
  obtain ⟨bk, hx, hmk, hgl, hbk, hb1, hb2⟩ := PL0.cells hD
  have HX := Aside0.mk hx
  have HGL := Aside0.mk hgl
  have HBS := Aside0.mk hb1
  clear hB hD hok hm hx hmk hgl hbk hb1 hb2
  go_enter Try.func47, Try.ntmps47
  go_upto_region 1 with (first
    | ((with_reducible refine gate_dst (N := 1) rfl ?_); refine box_event ?hg (N := 1) ?hd (cs := #[pv gl]) (t := 60) ?hr ?_; (case hd => rfl); (case hg => rfl); (case hr => first | (go_simp; done) | (go_simp; rfl)); intro g1 hg1 w1 hbox hb; have HX1 := Aside0.mk hbox; have HB1 := Aside0.mk hb; have HG1 := Aside0.mk hg1; clear hg1 hbox hb))
  have HXL := Aside0.mk (blk_below HX.out HB1.out)
  have N1 := Aside0.mk (show g1 ≠ gl by have := blk_lt HX.out; rw [HG1.out]; omega)
  have p0 : w1.cell? ⟨g1, 0, none⟩ = some (pv gl) := (blk_cell HX1.out 0).trans rfl
  have p0b : ∀ v, (w1.setCell ⟨gl, 7, none⟩ v).cell? ⟨g1, 0, none⟩ = some (pv gl) := fun v => (blk_cell (blk_far HX1.out (p := ⟨gl, 7, none⟩) N1.out v) 0).trans rfl
  have p7 : ∃ v, w1.cell? ⟨gl, 7, none⟩ = some v := ⟨_, (blk_cell HXL.out 7).trans rfl⟩
  have p8 : ∃ v, w1.cell? ⟨gl, 8, none⟩ = some v := ⟨_, (blk_cell HXL.out 8).trans rfl⟩
  obtain ⟨x7, p7⟩ := p7
  obtain ⟨x8, p8⟩ := p8
  have z7 := blk_frozen HXL.out 7
  have z8 := blk_frozen HXL.out 8
  have z8b : ∀ u, (w1.setCell ⟨gl, 7, none⟩ u).frozen? ⟨gl, 8, none⟩ = false := fun u => blk_frozen (blk_set HXL.out 7 u) 8
  go_cut [] from 3 to 8 (fun wx => wx = ((w1.setCell ⟨gl, 7, none⟩ (.int .i64 0)).setCell ⟨gl, 8, none⟩ (.int .i64 1)).drew)
  case first =>
    go_region
    all_goals go_wp2_with (fail)
    all_goals
      go_meet
      case rel => rfl
  case rest =>
    have HK2 := Aside0.mk (((set_kept (w := w1) (g := gl) (j := 7) (v := .int .i64 0)).then_ (set_kept (g := gl) (j := 8) (v := .int .i64 1)) (fun j hj => .inl hj)).then_ (Kept.drew (Kept.refl _ (fun j => j = gl))) (fun j hj => .inl hj))
    have HP2 := Aside0.mk (PL0.upd (c' := (0, 1, c.2.2.1, c.2.2.2)) ((frPL0 _ _ _ _ _ _ _).apart ((frPL0 _ _ _ _ _ _ _).narrow HD.out) (S := fun _ => False) (Kept.of_below HB1.out _) (fun _ _ h => h)) HK2.out (fun bk hb => blk_drew (blk_put (blk_put hb 7 (.int .i64 0) rfl) 8 (.int .i64 1) rfl)))
    have HB2 := Aside0.mk ((((below_step HB.out HB1.out).setCell (p := ⟨gl, 7, none⟩) HBS.out (.int .i64 0)).setCell (p := ⟨gl, 8, none⟩) HBS.out (.int .i64 1)).drew)
    have HX2 := Aside0.mk (blk_kept HX1.out HK2.out N1.out)
    rw [← hcut] at HK2 HP2 HB2 HX2
    have HKW := Aside0.mk ((Kept.of_below HB1.out O).then_ HK2.out (fun j hj => .inl (by rw [hj]; exact HGL.out)))
    clear hcut p0 p0b p7 p8 z7 z8 z8b HX1
    obtain ⟨ra, hra⟩ : ∃ r, r = s.cutTo 1 0 := ⟨_, rfl⟩
    obtain ⟨rb, hrb⟩ : ∃ r, r = ra.2.sync 1 := ⟨_, rfl⟩
    obtain ⟨rc, hrc⟩ : ∃ r, r = rb.2.write 1 0 (markB ++ slotB 1 0 c.2.2.2) := ⟨_, rfl⟩
    obtain ⟨rd, hrd⟩ : ∃ r, r = rc.2.sync 1 := ⟨_, rfl⟩
    have hS := begin1_is s c.2.2.2 ra rb rc rd hra hrb hrc hrd
    have oka : ra.2.ok (m + 1) := by rw [hra]; exact HOK.out.cutTo _ _
    have okb : rb.2.ok (m + 2) := by rw [hrb]; exact oka.sync _
    have okc : rc.2.ok (m + 3) := by rw [hrc]; exact okb.write _ _ _
    obtain ⟨arr, harr⟩ : ∃ arr : Obj, arr = .cells #[.func (.func 74) #[] #[pv g1], .func (.func 75) #[] #[pv g1], .func (.func 76) #[] #[pv g1], .func (.func 78) #[] #[pv g1]] 46 (0, 0) := ⟨_, rfl⟩
    have HARR := Aside0.mk harr
    obtain ⟨bx, hbx⟩ : ∃ bx : List (Nat × Obj), bx = [(wc.heap.size, arr), (g1, bx1 (pv gl) 60)] := ⟨_, rfl⟩
    have hl := lkL0 w0.heap.size gd gl (0, 1, c.2.2.1, c.2.2.2) n f
    obtain ⟨O', hO'⟩ : ∃ O' : Nat → Prop, O' = fun k => O k ∧ w0.heap.size ≤ k ∧ k < w.heap.size := ⟨_, rfl⟩
    have hwb0 : WB w0 wc [(g1, bx1 (pv gl) 60)] gd (LX0 w0.heap.size gl gd (0, 1, c.2.2.1, c.2.2.2) n f) O' s := by
      refine ⟨HB2.out, by rw [hO']; exact HP2.out, fun x hx => ?_⟩
      rw [List.mem_singleton] at hx
      subst hx
      exact ⟨HX2.out, fun ho => by rw [hO', HG1.out] at ho; omega⟩
    have hwb := hwb0.more hl arr
    rw [← hbx] at hwb
    obtain ⟨O3, hO3⟩ : ∃ O3 : Nat → Prop, O3 = fun k => O' k ∧ w0.heap.size ≤ k ∧ k < wc.heap.size := ⟨_, rfl⟩
    rw [← hO3] at hwb
    have hO31 : ∀ k, O3 k → O k := fun k hk => by rw [hO3, hO'] at hk; exact hk.1.1
    have HO := Aside0.mk hO31
    have hsF : ∃ sF : Int × St, sF = if ra.1 ≠ 0 then ra else if rb.1 ≠ 0 then rb else if rc.1 ≠ 0 then rc else rd := ⟨_, rfl⟩
    obtain ⟨rF, hrF⟩ := hsF
    rw [← hrF] at hS
    have HS := Aside0.mk hS
    have hcall : Calls Try.prog 50 #[.slice (some ⟨wc.heap.size, 0, none⟩) 4 4] (wc.alloc arr) fun e w' => e = .returned (.int .i64 rF.1) ∧ Ran w0 (wc.alloc arr) bx gd (LX0 w0.heap.size gl gd (0, 1, c.2.2.1, c.2.2.2) n f) O3 rF.2 w' := by
      have m1 : (wc.heap.size, arr) ∈ bx := by rw [hbx]; simp
      have m2 : (g1, bx1 (pv gl) 60) ∈ bx := by rw [hbx]; simp
      have hs := (hwb.bx _ m1).1
      rw [harr] at hs
      have hm := HM.out
      refine (done_171_172_173_175 wc.heap.size _ _ _ _ ra.1 rb.1 rc.1 rd.1 (Ran w0 (wc.alloc arr) bx gd (LX0 w0.heap.size gl gd (0, 1, c.2.2.1, c.2.2.2) n f) O3 ra.2) (Ran w0 (wc.alloc arr) bx gd (LX0 w0.heap.size gl gd (0, 1, c.2.2.1, c.2.2.2) n f) O3 rb.2) (Ran w0 (wc.alloc arr) bx gd (LX0 w0.heap.size gl gd (0, 1, c.2.2.1, c.2.2.2) n f) O3 rc.2) (Ran w0 (wc.alloc arr) bx gd (LX0 w0.heap.size gl gd (0, 1, c.2.2.1, c.2.2.2) n f) O3 rd.2) (wc.alloc arr) (by rw [harr]; exact hs) ?_ ?_ ?_ ?_).mono ?_
      · refine (cut171.calls g1 gd gl bx _ O3 s m w0 (wc.alloc arr) hwb hl HOK.out (by omega) m2).mono ?_
        rintro e w' ⟨rfl, hr⟩
        rw [← hra] at hr ⊢
        exact ⟨rfl, hr, Ran.keeps hwb hr m1⟩
      · intro _ w1' hp1 _
        refine (sync172.calls g1 gd gl bx _ _ ra.2 (m + 1) w0 w1' hp1.1 hl oka (by omega) m2).mono ?_
        rintro e w' ⟨rfl, hr⟩
        rw [← hrb] at hr ⊢
        exact ⟨rfl, Ran.next hwb hp1 hl hr, Ran.keeps hp1.1 hr m1⟩
      · intro _ _ w1' hp1 _
        refine (write173.calls g1 gd gl bx _ n f _ rb.2 (m + 2) w0 w1' hp1.1 okb (by omega) m2).mono ?_
        rintro e w' ⟨rfl, hr⟩
        rw [← hrc] at hr ⊢
        exact ⟨rfl, Ran.next hwb hp1 hl hr, Ran.keeps hp1.1 hr m1⟩
      · intro _ _ _ w1' hp1 _
        refine (sync175.calls g1 gd gl bx _ _ rc.2 (m + 3) w0 w1' hp1.1 hl okc (by omega) m2).mono ?_
        rintro e w' ⟨rfl, hr⟩
        rw [← hrd] at hr ⊢
        exact ⟨rfl, Ran.next hwb hp1 hl hr, Ran.keeps hp1.1 hr m1⟩
      · rintro e w' ⟨rfl, hr⟩
        by_cases e1 : ra.1 = 0
        · rw [if_neg (fun h => h e1)] at hr
          by_cases e2 : rb.1 = 0
          · rw [if_neg (fun h => h e2)] at hr
            by_cases e3 : rc.1 = 0
            · rw [if_neg (fun h => h e3)] at hr
              have hF : rF = rd := by rw [hrF, if_neg (fun h => h e1), if_neg (fun h => h e2), if_neg (fun h => h e3)]
              rw [if_neg (fun h => h e1), if_neg (fun h => h e2), if_neg (fun h => h e3), hF]
              exact ⟨rfl, hr⟩
            · rw [if_pos e3] at hr
              have hF : rF = rc := by rw [hrF, if_neg (fun h => h e1), if_neg (fun h => h e2), if_pos e3]
              rw [if_neg (fun h => h e1), if_neg (fun h => h e2), if_pos e3, hF]
              exact ⟨rfl, hr⟩
          · rw [if_pos e2] at hr
            have hF : rF = rb := by rw [hrF, if_neg (fun h => h e1), if_pos e2]
            rw [if_neg (fun h => h e1), if_pos e2, hF]
            exact ⟨rfl, hr⟩
        · rw [if_pos e1] at hr
          have hF : rF = ra := by rw [hrF, if_pos e1]
          rw [if_pos e1, hF]
          exact ⟨rfl, hr⟩
    have HA := Aside0.mk ((Below.refl wc.heap.size wc).alloc (Nat.le_refl _) arr)
    have HCALL := Aside0.mk hcall
    rw [harr] at HCALL
    clear harr hcall hwb hwb0 hbx hO' hO3 hO31 hS hra hrb hrc hrd oka okb okc hl hrF
    have hmf : ∀ (fn : Fn) (first cap : Array Value) (w : World), (Instr.makeFunc fn first cap).run Try.prog w = .ok (.func fn first cap) w := fun _ _ _ _ => rfl
    go_wp2_with (go_at_call 50; (with_reducible refine HCALL.out.mono ?_); rintro e w5 ⟨rfl, hr⟩; rw [← HARR.out] at hr; have HR := Aside0.mk hr; clear hr)
    go_ret
    rw [HS.out]
    have hz := HKW.out.1
    have ha := HA.out
    exact ⟨rfl, (frPL0 _ _ _ _ _ _ _).mono HR.out.1.hD (fun k hk => hk.imp (HO.out k) (fun a => Nat.le_trans hz (Nat.le_trans ha.size a))), HR.out.1.hB, (HKW.out.then_ (Kept.of_below ha O) (fun k hk => .inl hk)).then_ HR.out.2 (fun k hk => .inl (HO.out k hk))⟩
def frameAt (t : ByteArray) (k : Nat) : Nat × ByteArray := (tn t (64 + 1028 * k), t.extract (68 + 1028 * k) (64 + 1028 * (k + 1)))
def framesOf (t : ByteArray) (n : Nat) : List (Nat × ByteArray) := (List.range n).map (frameAt t)
theorem framesOf_succ (t : ByteArray) (n : Nat) : framesOf t (n + 1) = framesOf t n ++ [frameAt t n] := by
  unfold framesOf
  rw [List.range_succ, List.map_append]
  rfl
theorem framesOf_len (t : ByteArray) (n : Nat) : (framesOf t n).length = n := by unfold framesOf; simp
def openP (s : St) : Int × St × Option Lg :=
  if s.d = true then (2, s, none)
  else if (lastOf s.s1 (s.s0.size / 1024)).2.1 > 0 then
    (0, s, some ⟨framesOf s.s1 (lastOf s.s1 (s.s0.size / 1024)).2.2.1, (lastOf s.s1 (s.s0.size / 1024)).2.2.1, (lastOf s.s1 (s.s0.size / 1024)).2.2.2, (lastOf s.s1 (s.s0.size / 1024)).1, (lastOf s.s1 (s.s0.size / 1024)).2.1⟩)
  else if (begin1 s (s.s0.size / 1024)).1 ≠ 0 then ((begin1 s (s.s0.size / 1024)).1, (begin1 s (s.s0.size / 1024)).2, none)
  else (0, (begin1 s (s.s0.size / 1024)).2, some ⟨[], 0, s.s0.size / 1024, 0, 1⟩)
theorem lastStep_c {text : ByteArray} {k : Nat} {c : C4} (hc : c.2.2.1 = 0 ∨ 64 + 1028 * c.2.2.1 ≤ text.size) (hz : c.2.1 = 0 → c.1 = 0 ∧ c.2.2.1 = 0) (hn : c.2.1 ≤ 3) (hs : c.1 = 0 ∨ c.1 = 1) (hk : k = 0 ∨ k = 1) :
    ((lastStep text k c).2.2.1 = 0 ∨ 64 + 1028 * (lastStep text k c).2.2.1 ≤ text.size) ∧ ((lastStep text k c).2.1 = 0 → (lastStep text k c).1 = 0 ∧ (lastStep text k c).2.2.1 = 0) ∧ (lastStep text k c).2.1 ≤ 3 ∧ ((lastStep text k c).1 = 0 ∨ (lastStep text k c).1 = 1) := by
  cases h : slotOfB text k with
  | none => rw [lastStep_none h]; exact ⟨hc, hz, hn, hs⟩
  | some x =>
    obtain ⟨n, f, p⟩ := x
    have hb := slotOfB_le h
    by_cases e : c.2.1 = 0 ∨ n = c.2.1 % 3 + 1
    · rw [lastStep_take h e]
      exact ⟨hb.2.2, fun h0 => by simp only at h0; omega, hb.2.1, hk⟩
    · rw [lastStep_keep h e]
      exact ⟨hc, hz, hn, hs⟩
theorem lastOf_c (text : ByteArray) (p : Nat) : ((lastOf text p).2.2.1 = 0 ∨ 64 + 1028 * (lastOf text p).2.2.1 ≤ text.size) ∧ ((lastOf text p).2.1 = 0 → (lastOf text p).1 = 0 ∧ (lastOf text p).2.2.1 = 0) ∧ (lastOf text p).2.1 ≤ 3 ∧ ((lastOf text p).1 = 0 ∨ (lastOf text p).1 = 1) := by
  unfold lastOf
  split
  · exact ⟨.inl rfl, fun _ => ⟨rfl, rfl⟩, Nat.zero_le _, .inl rfl⟩
  · unfold lastN
    have h0 : ((lastN text 1 p).2.2.1 = 0 ∨ 64 + 1028 * (lastN text 1 p).2.2.1 ≤ text.size) ∧ ((lastN text 1 p).2.1 = 0 → (lastN text 1 p).1 = 0 ∧ (lastN text 1 p).2.2.1 = 0) ∧ (lastN text 1 p).2.1 ≤ 3 ∧ ((lastN text 1 p).1 = 0 ∨ (lastN text 1 p).1 = 1) :=
      lastStep_c (c := (0, 0, 0, p)) (.inl rfl) (fun _ => ⟨rfl, rfl⟩) (Nat.zero_le _) (.inl rfl) (.inl rfl)
    exact lastStep_c h0.1 h0.2.1 h0.2.2.1 h0.2.2.2 (.inr rfl)
theorem lastStep_p {text : ByteArray} {k p : Nat} {c : C4} (hz : c.2.1 = 0 → c = (0, 0, 0, p)) : (lastStep text k c).2.1 = 0 → lastStep text k c = (0, 0, 0, p) := by
  cases h : slotOfB text k with
  | none => rw [lastStep_none h]; exact hz
  | some x =>
    obtain ⟨n, f, q⟩ := x
    have hb := slotOfB_le h
    by_cases e : c.2.1 = 0 ∨ n = c.2.1 % 3 + 1
    · rw [lastStep_take h e]
      exact fun h0 => by simp only at h0; omega
    · rw [lastStep_keep h e]
      exact hz
theorem lastOf_none (text : ByteArray) (p : Nat) : (lastOf text p).2.1 = 0 → lastOf text p = (0, 0, 0, p) := by
  unfold lastOf
  split
  · exact fun _ => rfl
  · unfold lastN
    exact lastStep_p (lastStep_p (c := (0, 0, 0, p)) (fun _ => rfl))
theorem PL0.put {w0 w w' : World} {gd gl : Nat} {O : Nat → Prop} {s : St} {c : C4} {n n' bk : Nat} {f f' : Int → Int} (h : PL0 w w0.heap.size gd gl O s c n f) (hx : w.heap[gl]? = some (.cells (l0cells gd c bk) 96 (0, 0))) (hm : MapF w' bk n' f') (hg : w.grownBy w' (some bk)) (hB : Below w0.heap.size w0 w) :
    PL0 w' w0.heap.size gd gl O s c n' f' ∧ Below w0.heap.size w0 w' ∧ Kept w w' O := by
  obtain ⟨O1, O2, hd, ⟨bk0, hb, hmk, hgl, hbk, hb1, hb3⟩, ho1, ho2, hdis, hbd1, hbd2⟩ := h
  have e6 : bk0 = bk := by
    have e0 := hb.symm.trans hx
    injection e0 with e0
    injection e0 with e0
    have := congrArg (fun c : Array Value => c[6]?) e0
    simp [l0cells] at this
    exact this
  subst e6
  have hne := hmk.ne hb
  have hk : Kept w w' (fun j => j = bk0) := Kept.of_grown hg (Kept.refl w (fun j => j = bk0)) (fun j hj => .inl (Option.some.inj hj).symm)
  exact ⟨⟨O1, O2, (frD _ _ _).apart hd hk (fun j hj he => hdis j hj (by rw [he]; exact hbk)), ⟨bk0, blk_grown hb hg (fun e => hne (Option.some.inj e).symm), hm, hgl, hbk, hb1, hb3⟩, ho1, ho2, hdis, fun j hj => ⟨(hbd1 j hj).1, Nat.lt_of_lt_of_le (hbd1 j hj).2 hk.1⟩, fun j hj => ⟨(hbd2 j hj).1, Nat.lt_of_lt_of_le (hbd2 j hj).2 hk.1⟩⟩,
    hB.grown hg (below_size hB) (fun j hj => by cases hj; exact hb3), hk.mono (fun j hj => by rw [hj]; exact ho2 _ hbk)⟩
theorem kept_new {w w' : World} {O : Nat → Prop} (h : Kept w w' (fun k => O k ∨ w.heap.size ≤ k)) : Kept w w' O := ⟨h.1, fun i hi hn => h.2 i hi (fun a => a.elim hn (Nat.not_le.mpr hi))⟩
theorem PL0.done {w w' : World} {base gd gl : Nat} {O : Nat → Prop} {s : St} {c : C4} {m : Nat} {f : Int → Int} (h : PL0 w base gd gl O s c m f) (hk : Kept w w' (fun j => j = gl)) {bk b' : Nat} {g : Lg}
    (hx : w.heap[gl]? = some (.cells (l0cells gd c bk) 96 (0, 0)))
    (hx' : w'.heap[gl]? = some (.cells (lcells gd g.fr.length g.pages b' g.kept g.pages bk g.slot g.number) 96 (0, 0)))
    (hn : MapF w' b' g.fr.length (idx g.fr)) (hkm : MapF w' bk g.kept (idx (g.fr.take g.kept))) (hb' : w.heap.size ≤ b') : PL w' base gd gl (fun j => O j ∨ w.heap.size ≤ j) s g := by
  obtain ⟨O1, O2, hd, ⟨bk0, hb, hmk, hgl, hbk, hb1, hb3⟩, ho1, ho2, hdis, hbd1, hbd2⟩ := h
  have e6 : bk0 = bk := by
    have e0 := hb.symm.trans hx
    injection e0 with e0
    injection e0 with e0
    have := congrArg (fun c : Array Value => c[6]?) e0
    simp [l0cells] at this
    exact this
  subst e6
  have hwl := hk.1
  have hbl := hmk.lt
  have hbase : base ≤ w.heap.size := Nat.le_trans hb1 (Nat.le_of_lt (blk_lt hx))
  refine ⟨O1, fun j => (O2 j ∨ w.heap.size ≤ j) ∧ j < w'.heap.size, (frD _ _ _).apart hd hk (fun j hj he => hdis j hj (by rw [he]; exact hgl)), ⟨b', bk0, hx', hn, hkm, by omega, ⟨.inl hgl, blk_lt hx'⟩, ⟨.inr hb', hn.lt⟩, ⟨.inl hbk, hkm.lt⟩, hb1, Nat.le_trans hbase hb', hb3⟩, fun j hj => .inl (ho1 j hj), fun j hj => hj.1.imp (ho2 j) id, fun j h1 h2 => h2.1.elim (hdis j h1) (Nat.not_le.mpr (hbd1 j h1).2), fun j hj => ⟨(hbd1 j hj).1, Nat.lt_of_lt_of_le (hbd1 j hj).2 hwl⟩, fun j hj => ⟨hj.1.elim (fun h => (hbd2 j h).1) (fun h => Nat.le_trans hbase h), hj.2⟩⟩
def Opened (w' : World) (base gd : Nat) (O : Nat → Prop) (v : Value) (s : St) : Option Lg → Prop
  | none => v = .pointer none ∧ DD w' base gd O s
  | some g => ∃ gl, v = pv gl ∧ PL w' base gd gl O s g
set_option maxHeartbeats 8000000 in
set_option maxRecDepth 100000 in
theorem open.calls (gd : Nat) (O : Nat → Prop) (s : St) (m : Nat) (w0 w : World) (hB : Below w0.heap.size w0 w) (hD : DD w w0.heap.size gd O s) (hok : s.ok m) (hm : m ≤ 600000000) :
    Calls Try.prog 22 #[pv gd] w fun e w' => ∃ v : Value, e = .returned (.tuple #[v, .int .i64 (openP s).1]) ∧ Below w0.heap.size w0 w' ∧ Kept w w' O ∧
      Opened w' w0.heap.size gd (fun k => O k ∨ w.heap.size ≤ k) v (openP s).2.1 (openP s).2.2 := by
  have HB := Aside0.mk hB
  have HD := Aside0.mk hD
  have HOK := Aside0.mk hok
  have HM := Aside0.mk hm
  by_cases hdn : s.d = true
  · have HS := Aside0.mk (show openP s = (2, s, none) by unfold openP; rw [if_pos hdn])
    have HC := Aside0.mk (size.calls gd O s 0 w0 w hD)
    have hz : s.size 0 = (0, 2) := by unfold St.size; rw [if_pos (by decide), if_pos hdn]
    rw [hz] at HC
    clear hB hD hok hm hdn hz
    go_enter Try.func22, Try.ntmps22
    go_wp2_with (go_at_call 42; (with_reducible refine HC.out.mono ?_); rintro e w1 ⟨rfl, h1⟩; have H1 := Aside0.mk h1; clear h1)
    go_ret2
    rw [HS.out]
    exact ⟨_, rfl, below_step HB.out H1.out.below, Kept.of_below H1.out.below O, rfl, DX.mono (drawn_keep H1.out HD.out) (fun k hk => .inl hk)⟩
  · have hs0 : s.size 0 = ((s.s0.size : Int), 0) := by unfold St.size; rw [if_pos (by decide), if_neg hdn, seenOf0]
    have hs1 : s.size 1 = ((s.s1.size : Int), 0) := by unfold St.size; rw [if_pos (by decide), if_neg hdn, seenOf1]
    have h0 := hok.s0
    have h1 := hok.s1
    unfold maxFile at h0 h1
    have hr : s.read 1 0 (s.s1.size : Int) = (s.s1, 0) := by
      unfold St.read
      rw [if_pos (by unfold rightB; exact decide_eq_true (by omega)), if_neg hdn, seenOf1, if_neg (by omega)]
      rw [show ((0 : Int)).toNat = 0 from rfl, show (0 + (s.s1.size : Int)).toNat = s.s1.size by omega]
      rw [show s.s1.extract 0 s.s1.size = s.s1 from ByteArray.extract_zero_size]
    have HC0 := Aside0.mk (size.calls gd O s 0 w0 w hD)
    have HC1 := Aside0.mk (fun w1 (h : Drawn0 w w1) => size.calls gd O s 1 w0 w1 (drawn_keep h hD))
    have HC2 := Aside0.mk (fun w1 (h : Drawn0 w w1) => read.calls gd O s 1 0 (s.s1.size : Int) w0 w1 (drawn_keep h hD))
    rw [hs0] at HC0
    rw [hs1] at HC1
    rw [hr] at HC2
    have t1 : (s.s0.size : Int).tdiv 1024 = ((s.s0.size / 1024 : Nat) : Int) := by rw [Int.tdiv_eq_ediv_of_nonneg (by omega)]; omega
    have v1 : IntKind.i64.wrap ((s.s0.size / 1024 : Nat) : Int) = ((s.s0.size / 1024 : Nat) : Int) := IntWalk.i64_in _ (by omega)
    have hmm : ∀ (w : World), (Instr.makeMap 67 none).run Try.prog w = .ok (.map (some w.heap.size)) (w.alloc (.map #[] 0)) := by
      intro w
      simp [Instr.makeMap, underlying, Try.underlying67]
    have HN := Aside0.mk hdn
    clear hB hD hok hm hdn hs0 hs1 hr
    go_enter Try.func22, Try.ntmps22
    go_upto_region 10 with (first
      | (go_at_call 42; (with_reducible refine (HC1.out _ HH1.out).mono ?_); rintro e w2 ⟨rfl, h2⟩; have HH2 := Aside0.mk (drawn0_then HH1.out h2); clear h2)
      | (go_at_call 42; (with_reducible refine HC0.out.mono ?_); rintro e w1 ⟨rfl, h1⟩; have HH1 := Aside0.mk h1; clear h1)
      | (go_at_call 43; (with_reducible refine (HC2.out _ HH2.out).mono ?_); rintro e w3 ⟨rfl, h3⟩; have HH3 := Aside0.mk (drawn0_then HH2.out h3); clear h3))
    go_upto_region 11 with ((with_reducible refine gate_dst (N := 41) rfl ?_); refine box_event ?hg (N := 41) ?hd (cs := l0cells gd (0, 0, 0, s.s0.size / 1024) w3.heap.size) (t := 96) ?hr ?_; (case hd => rfl); (case hg => rfl); (case hr => first | (go_simp; done) | (go_simp; rfl)); intro gl hgl w4 hbox hb; have HX4 := Aside0.mk hbox; have HB4 := Aside0.mk hb; have HG4 := Aside0.mk hgl; clear hgl hbox hb)
    try go_frame
    have HW3 := Aside0.mk (below_step HH3.out.below ((Below.refl w3.heap.size w3).alloc (Nat.le_refl _) (.map #[] 0)))
    have HW4 := Aside0.mk (below_step HW3.out HB4.out)
    have hmp : MapF w4 w3.heap.size 0 (idx []) := by
      have h : MapF (w3.alloc (.map #[] 0)) w3.heap.size 0 (idx []) := ⟨.map [], World.ownsMap_made _ _ _ _, fun x hx => rfl⟩
      exact h.kept ((Kept.of_below HB4.out (fun _ => False)).2 _ h.lt (fun h => h))
    have hp4 : PL0 w4 w0.heap.size gd gl (fun k => O k ∨ w.heap.size ≤ k) s (0, 0, 0, s.s0.size / 1024) 0 (idx []) := by
      have z1 : w.heap.size ≤ w3.heap.size := HH3.out.below.size
      have z2 : w3.heap.size < (w3.alloc (.map #[] 0)).heap.size := by simp
      have z3 := blk_lt HX4.out
      have z4 := hmp.lt
      have z5 : gl = (w3.alloc (.map #[] 0)).heap.size := HG4.out
      have z6 := HB.out.size
      refine ⟨fun k => O k ∧ w0.heap.size ≤ k ∧ k < w.heap.size, fun k => k = gl ∨ k = w3.heap.size, (frD _ _ _).apart ((frD _ _ _).narrow HD.out) (S := fun _ => False) (Kept.of_below HW4.out _) (fun _ _ h => h), ⟨_, HX4.out, hmp, .inl rfl, .inr rfl, by omega, by omega⟩, fun k hk => .inl hk.1, fun k hk => .inr (by rcases hk with rfl | rfl <;> omega), fun k h1 h2 => by rcases h2 with rfl | rfl <;> omega, fun k hk => ⟨hk.2.1, Nat.lt_of_lt_of_le hk.2.2 HW4.out.size⟩, fun k hk => by rcases hk with rfl | rfl <;> omega⟩
    have HP4 := Aside0.mk hp4
    have HCL := Aside0.mk (last.calls gd gl _ s (s.s0.size / 1024) 0 (idx []) s.s1 w0 w4 (below_step HB.out HW4.out) hp4 h1)
    have HLC := Aside0.mk (lastOf_c s.s1 (s.s0.size / 1024))
    have HLN := Aside0.mk (lastOf_none s.s1 (s.s0.size / 1024))
    have hop : openP s = if (lastOf s.s1 (s.s0.size / 1024)).2.1 > 0 then
        (0, s, some ⟨framesOf s.s1 (lastOf s.s1 (s.s0.size / 1024)).2.2.1, (lastOf s.s1 (s.s0.size / 1024)).2.2.1, (lastOf s.s1 (s.s0.size / 1024)).2.2.2, (lastOf s.s1 (s.s0.size / 1024)).1, (lastOf s.s1 (s.s0.size / 1024)).2.1⟩)
      else if (begin1 s (s.s0.size / 1024)).1 ≠ 0 then ((begin1 s (s.s0.size / 1024)).1, (begin1 s (s.s0.size / 1024)).2, none)
      else (0, (begin1 s (s.s0.size / 1024)).2, some ⟨[], 0, s.s0.size / 1024, 0, 1⟩) := by unfold openP; rw [if_neg HN.out]
    have HOP := Aside0.mk hop
    clear hmp hp4 hop HC0 HC1 HC2 t1 v1 hmm
    generalize lastOf s.s1 (s.s0.size / 1024) = c at HCL HLC HLN HOP
    go_upto_if 45 with (go_at_call 46; (with_reducible refine HCL.out.mono ?_); rintro e w5 ⟨rfl, h5, h6, h7⟩; have HP5 := Aside0.mk h5; have HB5 := Aside0.mk h6; have HK5 := Aside0.mk h7; clear h5 h6 h7)
    go_cut [] from 44 to 50 (fun wx => ∃ (c' : C4) (s' : St), Aside0 (PL0 wx w0.heap.size gd gl (fun k => O k ∨ w.heap.size ≤ k) s' c' 0 (idx [])) ∧ Aside0 (Below w0.heap.size w0 wx) ∧ Aside0 (Kept w wx O) ∧ Aside0 (c'.2.2.1 = 0 ∨ 64 + 1028 * c'.2.2.1 ≤ s.s1.size) ∧ Aside0 (openP s = (0, s', some ⟨framesOf s.s1 c'.2.2.1, c'.2.2.1, c'.2.2.2, c'.1, c'.2.1⟩)))
    case first =>
      have hk5 : Kept w w5 O := kept_new ((Kept.of_below HW4.out (fun k => O k ∨ w.heap.size ≤ k)).then_ HK5.out (fun k hk => .inl hk))
      have HK := Aside0.mk hk5
      clear hk5
      by_cases hc : 0 < c.2.1
      · have qc : decide (0 < c.2.1) = true := decide_eq_true hc
        have HF := Aside0.mk (HOP.out.trans (if_pos hc))
        rw [qc]
        go_wp2_with (fail)
        go_meet
        case rel => exact ⟨c, s, HP5, HB5, HK, ⟨HLC.out.1⟩, HF⟩
      · have qc : decide (0 < c.2.1) = false := decide_eq_false hc
        have hc0 : c = (0, 0, 0, s.s0.size / 1024) := HLN.out (by omega)
        subst hc0
        have hF := HOP.out.trans (if_neg hc)
        have HCB := Aside0.mk (begin.calls gd gl _ s (0, 0, 0, s.s0.size / 1024) 0 (idx []) m w0 w5 HB5.out HP5.out HOK.out (by have := HM.out; omega))
        obtain ⟨⟨bc, bs⟩, hb⟩ : ∃ r, r = begin1 s (s.s0.size / 1024) := ⟨_, rfl⟩
        simp only at HCB
        rw [← hb] at hF HCB
        clear hb hc
        by_cases he : bc = 0
        · subst he
          rw [if_neg (fun h => h rfl)] at hF
          have HF := Aside0.mk hF
          clear hF
          go_wp2_with (go_at_call 47; (with_reducible refine HCB.out.mono ?_); rintro e w6 ⟨rfl, h5, h6, h7⟩; have HP6 := Aside0.mk h5; have HB6 := Aside0.mk h6; have HK6 := Aside0.mk h7; clear h5 h6 h7)
          go_meet
          case rel => exact ⟨(0, 1, 0, s.s0.size / 1024), bs, ⟨(frPL0 _ _ _ _ _ _ _).mono HP6.out (fun k hk => hk.elim id (fun a => .inr (Nat.le_trans HK.out.1 a)))⟩, HB6, ⟨kept_new ((HK.out.mono (fun k hk => .inl hk)).then_ HK6.out (fun k hk => .inl hk))⟩, ⟨.inl rfl⟩, HF⟩
        · have qe : (bc != 0) = true := by simp [bne, beq_false he]
          rw [if_pos he] at hF
          have HF := Aside0.mk hF
          clear hF he
          go_wp2_with (go_at_call 47; (with_reducible refine HCB.out.mono ?_); rintro e w6 ⟨rfl, h5, h6, h7⟩; have HP6 := Aside0.mk h5; have HB6 := Aside0.mk h6; have HK6 := Aside0.mk h7; clear h5 h6 h7)
          go_ret2
          rw [HF.out]
          obtain ⟨O1, O2, hd, -, ho1, -⟩ := HP6.out
          exact ⟨_, rfl, HB6.out, kept_new ((HK.out.mono (fun k hk => .inl hk)).then_ HK6.out (fun k hk => .inl hk)), rfl, (frD _ _ _).mono hd (fun k hk => (ho1 k hk).elim id (fun a => .inr (Nat.le_trans HK.out.1 a)))⟩
    case rest =>
      obtain ⟨c', s', HP, HBc, HKc, HFc, HOPc⟩ := hcut
      clear HP4 HP5 HB5 HK5 HCL HLC HLN HOP HX4 HB4 HG4
      obtain ⟨bkc, hxc, hmc, -⟩ := PL0.cells HP.out
      have p4 : wc.cell? ⟨gl, 4, none⟩ = some (.int .i64 c'.2.2.1) := (blk_cell hxc 4).trans rfl
      have hF := HFc.out
      clear hxc hmc
      go_wp2_with (fail)
      clear p4
      go_loopw [56] (fun v56 wr => ∃ (j : Nat), j ≤ c'.2.2.1 ∧ v56 = .int .i64 (j : Int) ∧ Aside0 (PL0 wr w0.heap.size gd gl (fun k => O k ∨ w.heap.size ≤ k) s' c' j (idx (framesOf s.s1 j))) ∧ Aside0 (Below w0.heap.size w0 wr) ∧ Aside0 (Kept w wr O)) (fun v56 _ => c'.2.2.1 - (intOf v56).toNat)
      case atStart => exact ⟨0, Nat.zero_le _, rfl, HP, HBc, HKc⟩
      case round =>
        clear HP HBc HKc
        obtain ⟨j, hj, rfl, HR, HBr, HKr⟩ := hrel
        obtain ⟨bkr, hxr, hmr, hglr, hbkr, hbr1, hbr2⟩ := PL0.cells HR.out
        have HXR := Aside0.mk hxr
        have HMR := Aside0.mk hmr
        by_cases hlt : j < c'.2.2.1
        · have t_ : decide ((j : Int) < (c'.2.2.1 : Int)) = true := decide_eq_true (by omega)
          have hjb : 64 + 1028 * (j + 1) ≤ s.s1.size := by omega
          have HLT := Aside0.mk hlt
          have v1 : IntKind.i64.wrap ((j : Int) * 1028) = (j : Int) * 1028 := IntWalk.i64_in _ (by omega)
          have v2 : IntKind.i64.wrap (64 + (j : Int) * 1028) = 64 + (j : Int) * 1028 := IntWalk.i64_in _ (by omega)
          have v3 : IntKind.i64.wrap ((j : Int) + 1) = (j : Int) + 1 := IntWalk.i64_in _ (by omega)
          have v4 : (64 + (j : Int) * 1028).toNat = 64 + 1028 * j := by omega
          have v5 : 0 ≤ 64 + (j : Int) * 1028 := by omega
          have v6 : 64 + (j : Int) * 1028 ≤ (s.s1.size : Int) := by omega
          have p6 : wr.cell? ⟨gl, 6, none⟩ = some (.map (some bkr)) := (blk_cell hxr 6).trans rfl
          have HNE := Aside0.mk (hmr.ne hxr)
          clear hxr hmr
          go_upto_region 18 with (fail)
          have hnum := number_is (s.s1.extract (64 + 1028 * j) s.s1.size) (by rw [size_extract _ _ _ (Nat.le_refl _)]; omega)
          rw [tn_drop s.s1 (64 + 1028 * j) s.s1.size (by omega) (Nat.le_refl _)] at hnum
          have htn : tn s.s1 (64 + 1028 * j) < 4294967296 := u32_lt _ _
          obtain ⟨nm, hnm⟩ : ∃ nm, nm = tn s.s1 (64 + 1028 * j) := ⟨_, rfl⟩
          rw [← hnm] at hnum htn
          have HNM := Aside0.mk hnm
          have HNU := Aside0.mk hnum
          have HTN := Aside0.mk htn
          have hput := fun (w3_ : World) (hb : Below wr.heap.size wr w3_) => MapF.put (w := w3_) (HMR.out.kept ((Kept.of_below hb (fun _ => False)).2 bkr HMR.out.lt (fun h => h))) (show j < maxLen by unfold maxLen; omega) (x := ((nm : Nat) : Int)) (y := (j : Int) + 1) (wf_int (by omega)) (wf_int (by omega))
          have HPUT := Aside0.mk hput
          clear hnum htn hnm hput
          go_region_held3 (fun w' => w'.cell? ⟨gl, 6, none⟩ = some (.map (some bkr)) ∧ True) (first | exact ⟨p66, trivial⟩ | exact ⟨p63, trivial⟩ | exact ⟨p6, trivial⟩)
            (first
            | (go_at_call 48; (with_reducible refine (wal_number.calls (s.s1.extract (64 + 1028 * j) s.s1.size) _ _ HNU.out).mono ?_); rintro e w3_ ⟨rfl, hd3⟩; have HD3 := Aside0.mk (below_step (below_drew (Below.refl _ wr)) hd3.below); clear hd3; have HP3 := Aside0.mk ((frPL0 _ _ _ _ _ _ _).apart HR.out (S := fun _ => False) (Kept.of_below HD3.out _) (fun _ _ h => h)); have HX3 := Aside0.mk (blk_below HXR.out HD3.out); have p63 : w3_.cell? ⟨gl, 6, none⟩ = some (.map (some bkr)) := (blk_cell HX3.out 6).trans rfl; obtain ⟨w6, hrun, hm6, hg6⟩ := HPUT.out w3_ HD3.out; have HM6 := Aside0.mk hm6; have HG6 := Aside0.mk hg6; clear hm6 hg6; have p66 : w6.cell? ⟨gl, 6, none⟩ = some (.map (some bkr)) := (blk_cell (blk_grown HX3.out HG6.out (fun e => HNE.out (Option.some.inj e).symm)) 6).trans rfl))
          all_goals
            go_wp2_with (fail)
            go_roundw
            case rel =>
              have hq := HP3.out.put HX3.out HM6.out HG6.out (below_step HBr.out HD3.out)
              refine ⟨j + 1, HLT.out, by go_num, ⟨?_⟩, ⟨hq.2.1⟩, ⟨kept_new (((HKr.out.mono (fun k hk => .inl hk)).then_ (Kept.of_below HD3.out (fun k => O k ∨ w.heap.size ≤ k)) (fun k hk => .inl hk)).then_ hq.2.2 (fun k hk => .inl hk))⟩⟩
              rw [framesOf_succ, show idx (framesOf s.s1 j ++ [frameAt s.s1 j]) = fun z => if z = ((nm : Nat) : Int) then (j : Int) + 1 else idx (framesOf s.s1 j) z from funext fun z => by
                rw [idx_snoc, framesOf_len]
                show (if ((tn s.s1 (64 + 1028 * j) : Nat) : Int) = z then _ else _) = _
                rw [← HNM.out]
                by_cases e : z = ((nm : Nat) : Int)
                · rw [if_pos e.symm, if_pos e]; omega
                · rw [if_neg (fun h => e h.symm), if_neg e]]
              exact hq.1
            case measure => simp [intOf]; have := HLT.out; omega
        · obtain rfl : j = c'.2.2.1 := by omega
          clear hlt hj
          have p4 : wr.cell? ⟨gl, 4, none⟩ = some (.int .i64 c'.2.2.1) := (blk_cell hxr 4).trans rfl
          have p5 : wr.cell? ⟨gl, 5, none⟩ = some (.int .i64 c'.2.2.2) := (blk_cell hxr 5).trans rfl
          have p6 : wr.cell? ⟨gl, 6, none⟩ = some (.map (some bkr)) := (blk_cell hxr 6).trans rfl
          have hc := copied.calls bkr c'.2.2.1 (idx (framesOf s.s1 c'.2.2.1)) c'.2.2.1 c'.2.2.2 wr hmr (by omega)
          unfold pcells at hc
          have HC := Aside0.mk hc
          have HBS := Aside0.mk hbr1
          clear hc hxr hmr hglr hbkr hbr1 hbr2 hF
          go_wp2_with (go_at_call 49; (with_reducible refine HC.out.mono ?_); rintro e w7 ⟨b', rfl, hb7, hm7, hw7⟩; have HB7 := Aside0.mk hb7; have HM7 := Aside0.mk hm7; have HW7 := Aside0.mk hw7; have HX7 := Aside0.mk (blk_below HXR.out hw7); have z1 := blk_frozen HX7.out 1; have z2 := blk_frozen HX7.out 2; have z3 := blk_frozen HX7.out 3; have y1 : ∃ v, w7.cell? ⟨gl, 1, none⟩ = some v := ⟨_, (blk_cell HX7.out 1).trans rfl⟩; have y2 : ∃ v, w7.cell? ⟨gl, 2, none⟩ = some v := ⟨_, (blk_cell HX7.out 2).trans rfl⟩; have y3 : ∃ v, w7.cell? ⟨gl, 3, none⟩ = some v := ⟨_, (blk_cell HX7.out 3).trans rfl⟩; obtain ⟨x1, y1⟩ := y1; obtain ⟨x2, y2⟩ := y2; obtain ⟨x3, y3⟩ := y3; clear hm7 hw7 hb7)
          go_ret2
          rw [HOPc.out]
          have hk3 := set3_kept w7 gl 1 2 3 (.int .i64 c'.2.2.1) (.int .i64 c'.2.2.2) (.map (some b'))
          have hk8 : Kept wr (((w7.setCell ⟨gl, 1, none⟩ (.int .i64 c'.2.2.1)).setCell ⟨gl, 2, none⟩ (.int .i64 c'.2.2.2)).setCell ⟨gl, 3, none⟩ (.map (some b'))) (fun j => j = gl) := (Kept.of_below HW7.out _).then_ hk3 (fun j hj => .inl hj)
          have hfin := PL0.done HR.out hk8 HXR.out (g := ⟨framesOf s.s1 c'.2.2.1, c'.2.2.1, c'.2.2.2, c'.1, c'.2.1⟩) (b' := b')
            (by
              have h := blk_put (blk_put (blk_put HX7.out 1 (.int .i64 c'.2.2.1) rfl) 2 (.int .i64 c'.2.2.2) rfl) 3 (.map (some b')) rfl
              simp only [framesOf_len]
              exact h)
            (by
              simp only [framesOf_len]
              exact HM7.out.kept (hk3.2 b' HM7.out.lt (HM7.out.ne HX7.out)))
            (by
              simp only [show (framesOf s.s1 c'.2.2.1).take c'.2.2.1 = framesOf s.s1 c'.2.2.1 from List.take_of_length_le (by rw [framesOf_len]; exact Nat.le_refl _)]
              exact HMR.out.kept (hk8.2 bkr HMR.out.lt (HMR.out.ne HXR.out))) HB7.out
          have hbs := HBS.out
          obtain ⟨_, _, _, hgl9, _⟩ := PL0.cells HR.out
          refine ⟨_, rfl, ((((below_step HBr.out HW7.out).setCell (p := ⟨gl, 1, none⟩) hbs _).setCell (p := ⟨gl, 2, none⟩) hbs _).setCell (p := ⟨gl, 3, none⟩) hbs _), kept_new ((HKr.out.mono (fun k hk => .inl hk)).then_ hk8 (fun j hj => .inl (by rw [hj]; exact hgl9))), gl, rfl, (frPL _ _ _ _ _).mono hfin (fun k hk => hk.elim id (fun a => .inr (Nat.le_trans HKr.out.1 a)))⟩
def noF : Nat × ByteArray := (0, ByteArray.empty)
def frD_ (fr : List (Nat × ByteArray)) (i : Nat) : Nat × ByteArray := fr.getD i noF
def textAt (fr : List (Nat × ByteArray)) (i : Int) : ByteArray := (frD_ fr (i.toNat - 1)).2
def Lg.rread (s : St) (g : Lg) (n : Int) : ByteArray × Int :=
  if n < 0 ∨ n ≥ 2147483648 then (ByteArray.empty, 1)
  else if s.d = true then (ByteArray.empty, 2)
  else if idx g.fr n > 0 then (textAt g.fr (idx g.fr n), 0)
  else if n ≥ (s.s0.size : Int) / 1024 then (ByteArray.empty, 7)
  else (s.s0.extract (1024 * n).toNat (1024 * n + 1024).toNat, 0)
def slotA (t : ByteArray) (k : Nat) : Nat := if t.size < 16 ∨ (t.extract 0 16).toList ≠ markL then 0 else (slot3 t k).1
def whichS (a b : Nat) : Nat := if a = 0 ∨ (b ≠ 0 ∧ b = a % 3 + 1) then 1 else 0
theorem last_none {t : ByteArray} {p : Nat} (ha : slotA t 0 = 0) (hb : slotA t 1 = 0) : lastOf t p = (0, 0, 0, p) := by
  unfold slotA at ha hb
  unfold lastOf
  by_cases h : t.size < 16 ∨ (t.extract 0 16).toList ≠ markL
  · rw [if_pos h]
  · rw [if_neg h] at ha hb ⊢
    unfold lastN lastN
    have n0 : slotOfB t 0 = none := by
      cases h0 : slotOfB t 0 with
      | none => rfl
      | some x => rw [slot3_some h0] at ha; obtain ⟨n, f, q⟩ := x; have := (slotOfB_le h0).1; simp only at ha; omega
    have n1 : slotOfB t 1 = none := by
      cases h1 : slotOfB t 1 with
      | none => rfl
      | some x => rw [slot3_some h1] at hb; obtain ⟨n, f, q⟩ := x; have := (slotOfB_le h1).1; simp only at hb; omega
    show lastStep t 1 (lastStep t 0 (0, 0, 0, p)) = _
    rw [lastStep_none n0, lastStep_none n1]
theorem last_some {t : ByteArray} {p : Nat} (h : ¬ (slotA t 0 = 0 ∧ slotA t 1 = 0)) :
    lastOf t p = (whichS (slotA t 0) (slotA t 1), (slot3 t (whichS (slotA t 0) (slotA t 1))).1, (slot3 t (whichS (slotA t 0) (slotA t 1))).2.1, (slot3 t (whichS (slotA t 0) (slotA t 1))).2.2) := by
  unfold slotA at h ⊢
  unfold lastOf
  by_cases hm : t.size < 16 ∨ (t.extract 0 16).toList ≠ markL
  · rw [if_pos hm, if_pos hm] at h
    exact absurd ⟨rfl, rfl⟩ h
  · rw [if_neg hm, if_neg hm] at h
    rw [if_neg hm, if_neg hm, if_neg hm]
    show lastStep t 1 (lastStep t 0 (0, 0, 0, p)) = _
    cases h0 : slotOfB t 0 with
    | none =>
      rw [lastStep_none h0, slot3_none h0]
      rw [slot3_none h0] at h
      have hw : whichS 0 (slot3 t 1).1 = 1 := rfl
      rw [hw]
      cases h1 : slotOfB t 1 with
      | none => rw [slot3_none h1] at h; exact absurd ⟨rfl, rfl⟩ h
      | some x =>
        obtain ⟨n, f, q⟩ := x
        rw [lastStep_take h1 (.inl rfl), slot3_some h1]
    | some x =>
      obtain ⟨n, f, q⟩ := x
      have hn := slotOfB_le h0
      rw [lastStep_take h0 (.inl rfl), slot3_some h0]
      cases h1 : slotOfB t 1 with
      | none =>
        rw [lastStep_none h1, slot3_none h1]
        have hw : whichS n 0 = 0 := by unfold whichS; rw [if_neg (by omega)]
        simp only [hw, slot3_some h0]
      | some y =>
        obtain ⟨n1, f1, q1⟩ := y
        have hn1 := slotOfB_le h1
        rw [slot3_some h1]
        by_cases e : n1 = n % 3 + 1
        · have hw : whichS n n1 = 1 := by unfold whichS; rw [if_pos (.inr ⟨by omega, e⟩)]
          rw [lastStep_take h1 (.inr e)]
          simp only [hw, slot3_some h1]
        · have hw : whichS n n1 = 0 := by unfold whichS; rw [if_neg (by omega)]
          rw [lastStep_keep h1 (by simp only; omega)]
          simp only [hw, slot3_some h0]
theorem which_pos {t : ByteArray} (h : ¬ (slotA t 0 = 0 ∧ slotA t 1 = 0)) : 0 < (slot3 t (whichS (slotA t 0) (slotA t 1))).1 := by
  unfold slotA at h ⊢
  by_cases hm : t.size < 16 ∨ (t.extract 0 16).toList ≠ markL
  · rw [if_pos hm, if_pos hm] at h
    exact absurd ⟨rfl, rfl⟩ h
  · rw [if_neg hm, if_neg hm] at h ⊢
    unfold whichS
    split
    · omega
    · omega
theorem openP_none {s : St} (hd : s.d = false) (h : slotA s.s1 0 = 0 ∧ slotA s.s1 1 = 0) : openP s = if (begin1 s (s.s0.size / 1024)).1 ≠ 0 then ((begin1 s (s.s0.size / 1024)).1, (begin1 s (s.s0.size / 1024)).2, none) else (0, (begin1 s (s.s0.size / 1024)).2, some ⟨[], 0, s.s0.size / 1024, 0, 1⟩) := by
  unfold openP
  rw [if_neg (by rw [hd]; decide), last_none h.1 h.2, if_neg (by simp)]
def byS (t : ByteArray) (k : Nat) : Lg := ⟨framesOf t (slot3 t k).2.1, (slot3 t k).2.1, (slot3 t k).2.2, k, (slot3 t k).1⟩
theorem openP_some {s : St} (hd : s.d = false) (h : ¬ (slotA s.s1 0 = 0 ∧ slotA s.s1 1 = 0)) : openP s = (0, s, some (byS s.s1 (whichS (slotA s.s1 0) (slotA s.s1 1)))) := by
  unfold openP
  rw [if_neg (by rw [hd]; decide), last_some h, if_pos (which_pos h)]
  rfl
theorem slot3_le {t : ByteArray} (k : Nat) : (slot3 t k).1 ≤ 3 ∧ (slot3 t k).2.2 ≤ 4294967295 ∧ ((slot3 t k).2.1 = 0 ∨ 64 + 1028 * (slot3 t k).2.1 ≤ t.size) := by
  cases h : slotOfB t k with
  | none => rw [slot3_none h]; exact ⟨by decide, by decide, .inl rfl⟩
  | some x =>
    obtain ⟨n, f, q⟩ := x
    have hb := slotOfB_le h
    rw [slot3_some h]
    refine ⟨hb.2.1, ?_, hb.2.2⟩
    unfold slotOfB at h
    split at h
    · simp at h
    · split at h
      · injection h with h
        injection h with h1 h2
        injection h2 with h2 h3
        have := u32_lt (slotT t k).data.toList 8
        unfold tn at h3
        simp only
        omega
      · simp at h
theorem frame_parts (t : ByteArray) (j : Nat) (h : 64 + 1028 * (j + 1) ≤ t.size) : relstoreref_unbytes.f 5 ((t.extract (64 + 1028 * j) (64 + 1028 * (j + 1))).extract 0 4) = some ((tn t (64 + 1028 * j) : Nat) : Int) ∧
    (t.extract (64 + 1028 * j) (64 + 1028 * (j + 1))).extract 4 (t.extract (64 + 1028 * j) (64 + 1028 * (j + 1))).size = (frameAt t j).2 ∧ (t.extract (64 + 1028 * j) (64 + 1028 * (j + 1))).size = 1028 := by
  have hs : (t.extract (64 + 1028 * j) (64 + 1028 * (j + 1))).size = 1028 := by rw [size_extract _ _ _ h]; omega
  refine ⟨?_, ?_, hs⟩
  · have h1 := un_drop (t.extract (64 + 1028 * j) (64 + 1028 * (j + 1))) 0 (by omega)
    rw [Nat.zero_add] at h1
    have e : tn (t.extract (64 + 1028 * j) (64 + 1028 * (j + 1))) 0 = tn t (64 + 1028 * j) := by
      unfold tn
      rw [tn_drop t (64 + 1028 * j) (64 + 1028 * (j + 1)) (by omega) h]
      rfl
    rw [h1, e]
  · show _ = t.extract (68 + 1028 * j) (64 + 1028 * (j + 1))
    rw [hs]
    apply bytes_ext
    rw [extract_list, extract_list, extract_list, List.drop_take, List.drop_drop, List.take_take]
    congr 1
    · omega
    · congr 1
      omega
end Go.Proofs.Ythaoaaboempajab.Log
namespace Go.Proofs.Ythaoaaboempajab.Disk
open Go.RowKit Go.Proofs.YthaoaaboempajabW.PrintWords Go.Proofs.YthaoaaboempajabW.PrintLast Go.Proofs.YthaoaaboempajabW.PrintMore Go.Proofs.Ythaoaaboempajab.QDiskRuns
set_option linter.unusedVariables false
set_option linter.unusedSimpArgs false
theorem size_up {s : St} {f : Int} (hf : f = 0 ∨ f = 1) (hd : s.d = false) : s.size f = (((seenOf s f).size : Int), 0) := by
  unfold St.size
  rw [if_pos (by rcases hf with rfl | rfl <;> decide), if_neg (by rw [hd]; decide)]
theorem size_down {s : St} {f : Int} (hf : f = 0 ∨ f = 1) (hd : s.d = true) : s.size f = (0, 2) := by
  unfold St.size
  rw [if_pos (by rcases hf with rfl | rfl <;> decide), if_pos hd]
end Go.Proofs.Ythaoaaboempajab.Disk
namespace Go.Proofs.Ythaoaaboempajab.Log
open Go.RowKit Go.Maps Go.Proofs.Ythaoaaboempajab.QLogRuns Go.Proofs.Ythaoaaboempajab.QDiskRuns Go.Proofs.Ythaoaaboempajab.Disk Go.Proofs.YthaoaaboempajabW.PrintWords Go.Proofs.YthaoaaboempajabW.PrintLast Go.Proofs.YthaoaaboempajabW.PrintMore
set_option linter.unusedVariables false
set_option linter.unusedSimpArgs false
theorem size_putB (s : ByteArray) (a : Nat) (t : ByteArray) : (putB s a t).size = max s.size (a + t.size) := by
  rw [← bytesOf_length, bytesOf_putB, putL_length, bytesOf_length]
theorem fill_take (l : List Int) (n y : Nat) (h : y ≤ l.length) : (fill l n).take y = l.take y := by
  unfold fill
  rw [List.take_append_of_le_length h]
theorem putB_low (s : ByteArray) (a : Nat) (t : ByteArray) (x y : Nat) (h1 : y ≤ a) (h2 : y ≤ s.size) : (putB s a t).extract x y = s.extract x y := by
  apply bytesOf_inj
  rw [bytesOf_extract, bytesOf_extract, bytesOf_putB, ← List.drop_take, ← List.drop_take]
  congr 1
  unfold putL
  have hl : ((fill (bytesOf s) (a + t.size)).take a).length = a := by rw [List.length_take, fill_length]; omega
  rw [List.take_append_of_le_length (by rw [hl]; exact h1), List.take_take, Nat.min_eq_left h1, fill_take _ _ _ (by rw [bytesOf_length]; exact h2)]
theorem putB_high (s : ByteArray) (a : Nat) (t : ByteArray) (x y : Nat) (h1 : a + t.size ≤ x) (h2 : y ≤ s.size) : (putB s a t).extract x y = s.extract x y := by
  by_cases hxy : y ≤ x
  · apply bytesOf_inj
    rw [bytesOf_extract, bytesOf_extract, Nat.sub_eq_zero_of_le hxy, List.take_zero, List.take_zero]
  · apply bytesOf_inj
    rw [bytesOf_extract, bytesOf_extract, bytesOf_putB]
    congr 1
    unfold putL
    have hl : ((fill (bytesOf s) (a + t.size)).take a).length = a := by rw [List.length_take, fill_length]; omega
    have hf : fill (bytesOf s) (a + t.size) = bytesOf s := by
      unfold fill
      rw [bytesOf_length, Nat.sub_eq_zero_of_le (by omega)]
      simp
    have hb := bytesOf_length t
    rw [hf] at hl ⊢
    rw [← List.append_assoc, List.drop_append, List.drop_of_length_le (by rw [List.length_append, hl, hb]; exact h1), List.nil_append, List.drop_drop, List.length_append, hl, hb]
    congr 1
    omega
theorem putB_at (s : ByteArray) (a : Nat) (t : ByteArray) : (putB s a t).extract a (a + t.size) = t := by
  apply bytesOf_inj
  rw [bytesOf_extract, bytesOf_putB]
  unfold putL
  have hl : ((fill (bytesOf s) (a + t.size)).take a).length = a := by rw [List.length_take, fill_length]; omega
  have hb := bytesOf_length t
  rw [List.drop_append, List.drop_of_length_le (by omega), List.nil_append, hl, Nat.sub_self, List.drop_zero, show a + t.size - a = t.size by omega, List.take_append_of_le_length (by omega), List.take_of_length_le (by omega)]
theorem frame_ext {t t' : ByteArray} {i : Nat} (h : 64 + 1028 * (i + 1) ≤ t.size) (h' : 64 + 1028 * (i + 1) ≤ t'.size) (he : t'.extract (64 + 1028 * i) (64 + 1028 * (i + 1)) = t.extract (64 + 1028 * i) (64 + 1028 * (i + 1))) : frameAt t' i = frameAt t i := by
  have a1 := tn_drop t (64 + 1028 * i) (64 + 1028 * (i + 1)) (by omega) h
  have a2 := tn_drop t' (64 + 1028 * i) (64 + 1028 * (i + 1)) (by omega) h'
  have b1 := (frame_parts t i h).2.1
  have b2 := (frame_parts t' i h').2.1
  rw [he] at a2 b2
  exact Prod.ext (a2.symm.trans a1) (b2.symm.trans b1)
def Holds (t : ByteArray) (fr : List (Nat × ByteArray)) : Prop := ∀ i, i < fr.length → 64 + 1028 * (i + 1) ≤ t.size ∧ frameAt t i = frD_ fr i
theorem Holds.high {t : ByteArray} {fr : List (Nat × ByteArray)} (h : Holds t fr) (a : Nat) (x : ByteArray) (ha : a + x.size ≤ 64) : Holds (putB t a x) fr := by
  intro i hi
  obtain ⟨h1, h2⟩ := h i hi
  have hs : 64 + 1028 * (i + 1) ≤ (putB t a x).size := by rw [size_putB]; omega
  exact ⟨hs, (frame_ext h1 hs (putB_high t a x _ _ (by omega) h1)).trans h2⟩
theorem frD_last (fr : List (Nat × ByteArray)) (c : Nat × ByteArray) : frD_ (fr ++ [c]) fr.length = c := by
  unfold frD_
  rw [List.getD_eq_getElem?_getD, List.getElem?_append_right (Nat.le_refl _), Nat.sub_self]
  rfl
theorem frD_init (fr : List (Nat × ByteArray)) (c : Nat × ByteArray) (i : Nat) (h : i < fr.length) : frD_ (fr ++ [c]) i = frD_ fr i := by
  unfold frD_
  rw [List.getD_eq_getElem?_getD, List.getD_eq_getElem?_getD, List.getElem?_append_left h]
theorem Holds.snoc {t : ByteArray} {fr : List (Nat × ByteArray)} (h : Holds t fr) (n : Nat) (x : ByteArray) (hn : n < 4294967296) (hx : x.size = 1024) : Holds (putB t (64 + 1028 * fr.length) (fourB n ++ x)) (fr ++ [(n, x)]) := by
  have hsz : (fourB n ++ x).size = 1028 := by rw [ByteArray.size_append, size_four, hx]
  intro i hi
  rw [List.length_append, List.length_singleton] at hi
  by_cases e : i = fr.length
  · subst e
    have hs : 64 + 1028 * (fr.length + 1) ≤ (putB t (64 + 1028 * fr.length) (fourB n ++ x)).size := by rw [size_putB, hsz]; omega
    refine ⟨hs, ?_⟩
    have he := putB_at t (64 + 1028 * fr.length) (fourB n ++ x)
    rw [hsz, show 64 + 1028 * fr.length + 1028 = 64 + 1028 * (fr.length + 1) by omega] at he
    have a2 := tn_drop (putB t (64 + 1028 * fr.length) (fourB n ++ x)) (64 + 1028 * fr.length) (64 + 1028 * (fr.length + 1)) (by omega) hs
    have b2 := (frame_parts _ fr.length hs).2.1
    rw [he] at a2 b2
    rw [frD_last]
    refine Prod.ext (a2.symm.trans ?_) (b2.symm.trans ?_)
    · rw [ByteArray.data_append, Array.toList_append]
      exact u32_four n hn _
    · rw [hsz]
      apply bytes_ext
      rw [extract_list, ByteArray.data_append, Array.toList_append, List.drop_append, List.drop_of_length_le (by rw [data_length, size_four]; exact Nat.le_refl _), List.nil_append, data_length, size_four, Nat.sub_self, List.drop_zero, List.take_of_length_le (by rw [data_length, hx]; exact Nat.le_refl _)]
  · have hi2 : i < fr.length := by omega
    obtain ⟨h1, h2⟩ := h i hi2
    have hs : 64 + 1028 * (i + 1) ≤ (putB t (64 + 1028 * fr.length) (fourB n ++ x)).size := by rw [size_putB]; omega
    rw [frD_init _ _ _ hi2]
    exact ⟨hs, (frame_ext h1 hs (putB_low t _ _ _ _ (by omega) h1)).trans h2⟩
theorem Holds.take {t : ByteArray} {fr : List (Nat × ByteArray)} (h : Holds t fr) (k : Nat) : Holds t (fr.take k) := by
  intro i hi
  rw [List.length_take] at hi
  obtain ⟨h1, h2⟩ := h i (by omega)
  refine ⟨h1, h2.trans ?_⟩
  unfold frD_
  rw [List.getD_eq_getElem?_getD, List.getD_eq_getElem?_getD, List.getElem?_take_of_lt (by omega)]
theorem Holds.nil (t : ByteArray) : Holds t [] := fun i hi => by cases hi
theorem Holds.of_file (t : ByteArray) (f : Nat) (h : f = 0 ∨ 64 + 1028 * f ≤ t.size) : Holds t (framesOf t f) := by
  intro i hi
  rw [framesOf_len] at hi
  refine ⟨by omega, ?_⟩
  unfold frD_ framesOf
  rw [List.getD_eq_getElem?_getD, List.getElem?_map, List.getElem?_range hi]
  rfl
theorem write1_s1 (s : St) (a : Int) (t : ByteArray) : (s.write 1 a t).2.s1 = if (s.write 1 a t).1 = 0 then putB s.s1 a.toNat t else s.s1 := by
  unfold St.write
  split
  · unfold St.changed
    dsimp only
    split
    · unfold St.s1
      rw [seenB_snoc, if_pos rfl]
      rfl
    · rfl
  · rw [if_neg (show ¬ ((1 : Int) = 0) by decide)]
theorem sync_s1 (s : St) (f : Int) : (s.sync f).2.s1 = s.s1 := by
  unfold St.sync
  split
  · unfold St.synced
    split
    · unfold St.s1
      by_cases h : f = 1
      · subst h
        show seenB 1 (others 1 s.ws) (if (1 : Int) = 1 then s.s1 else s.l1) = _
        rw [if_pos rfl, seenB_others_self]
        rfl
      · show seenB 1 (others f s.ws) (if f = 1 then s.s1 else s.l1) = _
        rw [if_neg h, seenB_others_ne (by omega)]
    · rfl
  · rfl
structure Good (s : St) (g : Lg) : Prop where
  ok : g.ok
  holds : Holds s.s1 g.fr
theorem read_is {s : St} {g : Lg} {m : Nat} (hok : s.ok m) (h : Good s g) (n : Int) : Lg.read s g n = Lg.rread s g n := by
  have hs0 := hok.s0
  have hs1 := hok.s1
  unfold maxFile at hs0 hs1
  unfold Lg.read Lg.rread
  by_cases hb : n < 0 ∨ n ≥ 2147483648
  · rw [if_pos hb, if_pos hb]
  · rw [if_neg hb, if_neg hb]
    by_cases hi : idx g.fr n > 0
    · rw [if_pos hi, if_pos hi]
      have hle := (idx_le g.fr n).2
      obtain ⟨i, hix⟩ : ∃ i : Nat, idx g.fr n = (i : Int) + 1 := ⟨(idx g.fr n).toNat - 1, by omega⟩
      rw [hix] at hle ⊢
      obtain ⟨h1, h2⟩ := h.holds i (by omega)
      have hr : rightB 1 (64 + ((i : Int) + 1 - 1) * 1028 + 4) 1024 = true := by unfold rightB; exact decide_eq_true (by omega)
      unfold St.read
      rw [if_pos hr]
      by_cases hd : s.d = true
      · rw [if_pos hd, if_pos hd]
      · rw [if_neg hd, if_neg hd, seenOf1, if_neg (by omega)]
        unfold textAt
        rw [show (((i : Int) + 1).toNat - 1) = i by omega, ← h2, show (64 + ((i : Int) + 1 - 1) * 1028 + 4).toNat = 68 + 1028 * i by omega, show (64 + ((i : Int) + 1 - 1) * 1028 + 4 + 1024).toNat = 64 + 1028 * (i + 1) by omega]
        rfl
    · rw [if_neg hi, if_neg hi]
      by_cases hd : s.d = true
      · rw [size_down (by decide) hd, if_pos hd]
        rfl
      · rw [size_up (by decide) (by simpa using hd), if_neg hd, seenOf0, if_neg (show ¬ ((0 : Int) ≠ 0) by decide)]
        by_cases hm : n ≥ (s.s0.size : Int) / 1024
        · rw [if_pos hm, if_pos hm]
        · rw [if_neg hm, if_neg hm]
          unfold St.read
          rw [if_pos (by unfold rightB; exact decide_eq_true (by omega)), if_neg hd, seenOf0, if_neg (by omega), show n * 1024 = 1024 * n by omega]
theorem Good.s1 {s s' : St} {g : Lg} (h : Good s g) (e : s'.s1 = s.s1) : Good s' g := ⟨h.ok, by rw [e]; exact h.holds⟩
theorem Good.append {s : St} {g : Lg} (h : Good s g) (n : Int) (t : ByteArray) : Good (Lg.append s g n t).2.1 (Lg.append s g n t).2.2 := by
  have hok := h.ok.append s n t
  refine ⟨hok, ?_⟩
  unfold Lg.append at hok ⊢
  split
  · exact h.holds
  · rename_i hb
    split
    · exact h.holds
    · have hw := write1_s1 s ((64 + 1028 * g.fr.length : Nat) : Int) (fourB n.toNat ++ t)
      split
      · rename_i he
        rw [if_pos he] at hw
        show Holds _ (g.fr ++ [(n.toNat, t)])
        rw [show (0, (s.write 1 ((64 + 1028 * g.fr.length : Nat) : Int) (fourB n.toNat ++ t)).2, { g with fr := g.fr ++ [(n.toNat, t)] }).2.1.s1 = _ from hw, Int.toNat_natCast]
        exact h.holds.snoc n.toNat t (by omega) (by omega)
      · rename_i he
        rw [if_neg he] at hw
        show Holds _ g.fr
        rw [show ((s.write 1 ((64 + 1028 * g.fr.length : Nat) : Int) (fourB n.toNat ++ t)).1, (s.write 1 ((64 + 1028 * g.fr.length : Nat) : Int) (fourB n.toNat ++ t)).2, g).2.1.s1 = _ from hw]
        exact h.holds
theorem Good.write_low {s : St} {g : Lg} (h : Good s g) (a : Nat) (t : ByteArray) (ha : a + t.size ≤ 64) : Good (s.write 1 (a : Int) t).2 g := by
  refine ⟨h.ok, ?_⟩
  rw [write1_s1]
  split
  · rw [Int.toNat_natCast]
    exact h.holds.high a t ha
  · exact h.holds
theorem Good.sync {s : St} {g : Lg} (h : Good s g) (f : Int) : Good (s.sync f).2 g := h.s1 (sync_s1 s f)
theorem Good.tell {s : St} {g : Lg} (h : Good s g) (f p : Nat) : Good (Lg.tell s g f p).2.1 (Lg.tell s g f p).2.2 := by
  have hf := (Lg.tell_fr s g f p).1
  have hs := h.ok.slot
  have h1 := h.write_low (16 + 24 * (1 - g.slot)) (slotB (g.number % 3 + 1) f p) (by rw [size_slot]; omega)
  refine ⟨h.ok.tell s f p, ?_⟩
  rw [hf]
  unfold Lg.tell
  simp only
  split
  · exact h1.holds
  · split
    · exact (h1.sync 1).holds
    · exact (h1.sync 1).holds
theorem andThen_ok {r : Run} (h : r.c = 0) (f : St → Lg → Run) : r.andThen f = f r.s r.g := by unfold Run.andThen; rw [if_neg (fun e => e h)]
theorem andThen_no {r : Run} (h : r.c ≠ 0) (f : St → Lg → Run) : r.andThen f = r := by unfold Run.andThen; rw [if_pos h]
theorem Good.commit {s : St} {g : Lg} (h : Good s g) (n : Int) (t : ByteArray) (p : Int) : Good (Lg.commit s g n t p).s (Lg.commit s g n t p).g := by
  refine ⟨h.ok.commit s n t p, ?_⟩
  unfold Lg.commit
  split
  · exact h.holds
  · have hA := h.append n t
    have hX : Good ((rAppend n t s g).andThen (rSync 1)).s ((rAppend n t s g).andThen (rSync 1)).g := by
      unfold Run.andThen
      split
      · exact hA
      · exact hA.sync 1
    generalize (rAppend n t s g).andThen (rSync 1) = X at hX
    have hT : Good (X.andThen (fun s g => rTell g.fr.length p.toNat s g)).s (X.andThen (fun s g => rTell g.fr.length p.toNat s g)).g := by
      unfold Run.andThen
      split
      · exact hX
      · exact hX.tell _ _
    simp only
    split
    · exact hT.holds
    · exact hT.holds
theorem Good.back {s : St} {g : Lg} (h : Good s g) : Good s g.back := ⟨h.ok.back, h.holds.take _⟩
theorem turn_up {f : Int} {d : Bool} {c : Int} (h : (turn f d c).1 = 0) : (turn f d c).2.2.1 = false := by
  unfold turn at h ⊢
  split at h
  · simp at h
  · rename_i hn
    rw [if_neg hn]
    simp only
    first | (simpa using fun e => hn (.inl e)) | rfl
theorem begin1_up {s : St} (hf : s.f = -1) (hd : s.d = false) (p : Nat) : (begin1 s p).1 = 0 := by
  have w1 : ∀ x : St, x.f = -1 → x.d = false → (turn x.f x.d x.c).1 = 0 ∧ (turn x.f x.d x.c).2.1 = -1 ∧ (turn x.f x.d x.c).2.2.1 = false := by
    intro x h1 h2
    unfold turn
    rw [h1, h2, if_neg (by decide), if_neg (by decide)]
    exact ⟨rfl, rfl, rfl⟩
  have c1 : (s.cutTo 1 0).1 = 0 ∧ (s.cutTo 1 0).2.f = -1 ∧ (s.cutTo 1 0).2.d = false := by
    unfold St.cutTo St.changed
    rw [if_pos (by decide), if_pos (w1 s hf hd).1]
    exact w1 s hf hd
  have c2 : ∀ x : St, x.f = -1 → x.d = false → (x.sync 1).1 = 0 ∧ (x.sync 1).2.f = -1 ∧ (x.sync 1).2.d = false := by
    intro x h1 h2
    unfold St.sync St.synced
    rw [if_pos (by decide), if_pos (w1 x h1 h2).1]
    exact w1 x h1 h2
  have c3 : ∀ (x : St) (t : ByteArray), t.size = 40 → x.f = -1 → x.d = false → (x.write 1 0 t).1 = 0 ∧ (x.write 1 0 t).2.f = -1 ∧ (x.write 1 0 t).2.d = false := by
    intro x t ht h1 h2
    unfold St.write St.changed
    rw [if_pos (by unfold rightB; exact decide_eq_true (by omega)), if_pos (w1 x h1 h2).1]
    exact w1 x h1 h2
  have hs : (markB ++ slotB 1 0 p).size = 40 := by rw [ByteArray.size_append, size_slot]; rfl
  have a2 := c2 _ c1.2.1 c1.2.2
  have a3 := c3 _ _ hs a2.2.1 a2.2.2
  have a4 := c2 _ a3.2.1 a3.2.2
  unfold begin1
  simp only
  rw [if_neg (fun h => h c1.1), if_neg (fun h => h a2.1), if_neg (fun h => h a3.1)]
  exact a4.1
theorem which_01 (a b : Nat) : whichS a b = 0 ∨ whichS a b = 1 := by
  unfold whichS
  split
  · exact .inr rfl
  · exact .inl rfl
theorem byS_ok {t : ByteArray} (ht : t.size ≤ 67108864) {k : Nat} (hk : k = 0 ∨ k = 1) (hn : 0 < (slot3 t k).1) : (byS t k).ok := by
  have h := slot3_le (t := t) k
  refine ⟨?_, ?_, h.2.1, hk, ⟨hn, h.1⟩, ?_⟩
  · show (framesOf t (slot3 t k).2.1).length ≤ _
    rw [framesOf_len]
    omega
  · show (slot3 t k).2.1 ≤ (framesOf t (slot3 t k).2.1).length
    rw [framesOf_len]
    exact Nat.le_refl _
  · intro c hc
    obtain ⟨i, hi, rfl⟩ := List.mem_map.1 hc
    have hi := List.mem_range.1 hi
    refine ⟨u32_lt _ _, ?_⟩
    show (t.extract (68 + 1028 * i) (64 + 1028 * (i + 1))).size = 1024
    rw [size_extract _ _ _ (by omega)]
    omega
theorem open_good {s : St} {m : Nat} (hok : s.ok m) : (openP s).2.1.ok (m + 4) ∧ ∀ g, (openP s).2.2 = some g → Good (openP s).2.1 g := by
  have hs1 := hok.s1
  have hs0 := hok.s0
  unfold maxFile at hs0 hs1
  cases hd : s.d with
  | true =>
    have h : openP s = (2, s, none) := by unfold openP; rw [if_pos hd]
    rw [h]
    exact ⟨hok.mono (by omega), fun g hg => by cases hg⟩
  | false =>
    by_cases h : slotA s.s1 0 = 0 ∧ slotA s.s1 1 = 0
    · rw [openP_none hd h]
      split
      · exact ⟨begin1_ok hok _, fun g hg => by cases hg⟩
      · refine ⟨begin1_ok hok _, fun g hg => ?_⟩
        injection hg with hg
        subst hg
        exact ⟨⟨Nat.zero_le _, Nat.zero_le _, by show s.s0.size / 1024 ≤ _; omega, .inl rfl, ⟨Nat.le_refl _, show 1 ≤ 3 by decide⟩, fun c hc => by cases hc⟩, Holds.nil _⟩
    · rw [openP_some hd h]
      refine ⟨hok.mono (by omega), fun g hg => ?_⟩
      injection hg with hg
      subst hg
      exact ⟨byS_ok hs1 (which_01 _ _) (which_pos h), Holds.of_file _ _ (slot3_le _).2.2⟩
theorem open_up {s : St} (hf : s.f = -1) (hd : s.d = false) : ∃ g, openP s = (0, (openP s).2.1, some g) := by
  by_cases h : slotA s.s1 0 = 0 ∧ slotA s.s1 1 = 0
  · rw [openP_none hd h, if_neg (fun e => e (begin1_up hf hd _))]
    exact ⟨_, rfl⟩
  · rw [openP_some hd h]
    exact ⟨_, rfl⟩
abbrev Part := World → (Nat → Prop) → Prop
structure Bd (w0 w : World) (P Q : Part) (bx : List (Nat × Obj)) : Prop where
  hB : Below w0.heap.size w0 w
  hD : ∃ O, Sep w0.heap.size P Q w O ∧ ∀ x ∈ bx, w.heap[x.1]? = some x.2 ∧ ¬ O x.1
section
variable {w0 w w' : World} {P P' Q Q' : Part} {bx : List (Nat × Obj)}
theorem Bd.below (h : Bd w0 w P Q bx) (hP : Fr w0.heap.size P) (hQ : Fr w0.heap.size Q) (hb : Below w.heap.size w w') : Bd w0 w' P Q bx := by
  obtain ⟨O, hs, hx⟩ := h.hD
  exact ⟨below_step h.hB hb, O, (frSep hP hQ).apart hs (S := fun _ => False) (Kept.of_below hb _) (fun _ _ h => h), fun x hm => ⟨(Kept.of_below hb (fun _ => False)).2 x.1 ((Array.getElem?_eq_some_iff.mp (hx x hm).1).1) (fun h => h) |>.trans (hx x hm).1, (hx x hm).2⟩⟩
theorem Bd.mono {bx' : List (Nat × Obj)} (h : Bd w0 w P Q bx) (hs : ∀ x ∈ bx', x ∈ bx) : Bd w0 w P Q bx' := by
  obtain ⟨O, h1, h2⟩ := h.hD
  exact ⟨h.hB, O, h1, fun x hx => h2 x (hs x hx)⟩
theorem Bd.imp (h : Bd w0 w P Q bx) (hP : ∀ O, P w O → P' w O) (hQ : ∀ O, Q w O → Q' w O) : Bd w0 w P' Q' bx := by
  obtain ⟨O, ⟨O1, O2, a, b, c⟩, h2⟩ := h.hD
  exact ⟨h.hB, O, ⟨O1, O2, hP _ a, hQ _ b, c⟩, h2⟩
theorem Bd.more (h : Bd w0 w P Q bx) (hP : Fr w0.heap.size P) (hQ : Fr w0.heap.size Q) (hb : Below w.heap.size w w') {x : Nat × Obj} (hx : w'.heap[x.1]? = some x.2) (hn : w.heap.size ≤ x.1) : Bd w0 w' P Q (x :: bx) := by
  obtain ⟨O, hs, hbx⟩ := h.hD
  have h2 := (frSep hP hQ).narrow hs
  refine ⟨below_step h.hB hb, _, (frSep hP hQ).apart h2 (S := fun _ => False) (Kept.of_below hb _) (fun _ _ h => h), fun y hy => ?_⟩
  rcases List.mem_cons.1 hy with e | hy
  · subst e
    exact ⟨hx, fun ho => Nat.not_le.mpr ho.2.2 hn⟩
  · exact ⟨(Kept.of_below hb (fun _ => False)).2 y.1 ((Array.getElem?_eq_some_iff.mp (hbx y hy).1).1) (fun h => h) |>.trans (hbx y hy).1, fun ho => (hbx y hy).2 ho.1⟩
theorem Bd.box (h : Bd w0 w P Q bx) (b : Nat) (cs : Array Value) (t : TypeId) (hx : (b, Obj.cells cs t (0, 0)) ∈ bx) (i : Nat) : w.cell? ⟨b, i, none⟩ = cs[i]? := by
  obtain ⟨O, hs, hb⟩ := h.hD
  exact blk_cell (hb _ hx).1 i
theorem Bd.onP {X : Type} {f : FuncId} {args : Array Value} {V : X → Value} {PP : X → Part} (h : Bd w0 w P Q bx) (hP' : ∀ x, Fr w0.heap.size (PP x)) (hQ : Fr w0.heap.size Q)
    (hc : ∀ O1, P w O1 → (∀ k, O1 k → w0.heap.size ≤ k) → Calls Try.prog f args w fun e w' => ∃ x, e = .returned (V x) ∧ PP x w' (fun k => O1 k ∨ w.heap.size ≤ k) ∧ Below w0.heap.size w0 w' ∧ Kept w w' O1) :
    Calls Try.prog f args w fun e w' => ∃ x, e = .returned (V x) ∧ Bd w0 w' (PP x) Q bx := by
  obtain ⟨O, hs, hb⟩ := h.hD
  obtain ⟨O1, O2, h1, h2, h3, h4, h5, h6, h7⟩ := hs
  refine (hc O1 h1 (fun k hk => (h6 k hk).1)).mono ?_
  rintro e w' ⟨x, rfl, hp, hb', hk⟩
  have hlt : ∀ y ∈ bx, y.1 < w.heap.size := fun y hy => (Array.getElem?_eq_some_iff.mp (hb y hy).1).1
  refine ⟨x, rfl, hb', _, ⟨_, O2, (hP' x).narrow hp, hQ.apart h2 hk (fun k a b => h5 k b a), fun k a => a.1.imp (h3 k) id, fun k a => .inl (h4 k a), fun k a b => ?_, fun k a => a.2, fun k a => ⟨(h7 k a).1, Nat.lt_of_lt_of_le (h7 k a).2 hk.1⟩⟩, fun y hy => ⟨(hk.2 y.1 (hlt y hy) (fun ho => (hb y hy).2 (h3 _ ho))).trans (hb y hy).1, fun ho => ho.elim (hb y hy).2 (Nat.not_le.mpr (hlt y hy))⟩⟩
  rcases a.1 with a1 | a1
  · exact h5 k a1 b
  · exact Nat.not_le.mpr (h7 k b).2 a1
theorem Bd.swap (h : Bd w0 w P Q bx) : Bd w0 w Q P bx := by
  obtain ⟨O, hs, hb⟩ := h.hD
  exact ⟨h.hB, O, hs.swap, hb⟩
theorem Bd.onQ {X : Type} {f : FuncId} {args : Array Value} {V : X → Value} {QQ : X → Part} (h : Bd w0 w P Q bx) (hP : Fr w0.heap.size P) (hQ' : ∀ x, Fr w0.heap.size (QQ x))
    (hc : ∀ O1, Q w O1 → (∀ k, O1 k → w0.heap.size ≤ k) → Calls Try.prog f args w fun e w' => ∃ x, e = .returned (V x) ∧ QQ x w' (fun k => O1 k ∨ w.heap.size ≤ k) ∧ Below w0.heap.size w0 w' ∧ Kept w w' O1) :
    Calls Try.prog f args w fun e w' => ∃ x, e = .returned (V x) ∧ Bd w0 w' P (QQ x) bx := by
  refine (h.swap.onP hQ' hP hc).mono ?_
  rintro e w' ⟨x, rfl, hb⟩
  exact ⟨x, rfl, hb.swap⟩
end
def pP (base gd gl : Nat) (s : St) (g : Lg) : Part := fun w O => PL w base gd gl O s g
def pD (base gd : Nat) (s : St) : Part := fun w O => DD w base gd O s
theorem fpP (base gd gl : Nat) (s : St) (g : Lg) : Fr base (pP base gd gl s g) := frPL _ _ _ _ _
theorem fpD (base gd : Nat) (s : St) : Fr base (pD base gd s) := frD _ _ _
theorem pP_D {w : World} {base gd gl : Nat} {s : St} {g : Lg} (O : Nat → Prop) (h : pP base gd gl s g w O) : pD base gd s w O := by
  obtain ⟨O1, O2, a, -, c, -⟩ := h
  exact (frD _ _ _).mono a c
section
variable {w0 w w' : World} {gd gl gr gm : Nat} {s1 s2 s : St} {g1 g2 g : Lg} {bx : List (Nat × Obj)} {m : Nat}
theorem fail_D {O : Nat → Prop} (hB : Below w0.heap.size w0 w) (h : DD w w0.heap.size gd O s) (n : Int) : Calls Try.prog 6 #[pv gd, .int .i64 n] w fun e w' => e = .returned (.tuple #[]) ∧ DD w' w0.heap.size gd (fun k => O k ∨ w.heap.size ≤ k) (s.failed n) ∧ Below w0.heap.size w0 w' ∧ Kept w w' O := by
  obtain ⟨lab, x0, x1, x2, x3, x4, hb, hg, hO, hl, hr⟩ := h
  refine (fail.calls gd x0 x1 x2 x3 x4 s.f s.d s.c n w0 w hB hg hb).mono ?_
  rintro e w' ⟨rfl, hx, hb', hk, hs⟩
  exact ⟨rfl, ⟨lab, x0, x1, x2, x3, x4, hx, hg, .inl hO, hl, (hr.only hk hl).mono (fun k hk => .inl hk)⟩, hb', hk.mono (fun k hk => by rw [hk]; exact hO)⟩
end
theorem sync_up {s : St} {f : Int} (h : (s.sync f).1 = 0) : (s.sync f).2.d = false := by
  unfold St.sync at h ⊢
  split
  · rename_i hr
    rw [if_pos hr] at h
    unfold St.synced
    dsimp only at h ⊢
    rw [if_pos h]
    exact turn_up h
  · rename_i hr
    rw [if_neg hr] at h
    exact absurd h (show ¬ ((1 : Int) = 0) by decide)
theorem begin1_d {s : St} {p : Nat} (h : (begin1 s p).1 = 0) : (begin1 s p).2.d = false := by
  rw [begin1_is s p _ _ _ _ rfl rfl rfl rfl] at h ⊢
  split
  · rename_i h1
    rw [if_pos h1] at h
    exact absurd h h1
  · rename_i h1
    rw [if_neg h1] at h
    split
    · rename_i h2
      rw [if_pos h2] at h
      exact absurd h h2
    · rename_i h2
      rw [if_neg h2] at h
      split
      · rename_i h3
        rw [if_pos h3] at h
        exact absurd h h3
      · rename_i h3
        rw [if_neg h3] at h
        exact sync_up h
theorem open_d {s : St} {g : Lg} (hd : s.d = false) (h : (openP s).2.2 = some g) : (openP s).2.1.d = false := by
  by_cases hs : slotA s.s1 0 = 0 ∧ slotA s.s1 1 = 0
  · rw [openP_none hd hs] at h ⊢
    split
    · rename_i hc
      rw [if_pos hc] at h
      cases h
    · rename_i hc
      exact begin1_d (by simpa using hc)
  · rw [openP_some hd hs]
    exact hd
theorem opened {s : St} {m : Nat} (hok : s.ok m) (hf : s.f = -1) (hd : s.d = false) : ∃ g, openP s = (0, (openP s).2.1, some g) ∧ Good (openP s).2.1 g ∧ (openP s).2.1.ok (m + 4) ∧ (openP s).2.1.d = false := by
  obtain ⟨g, hg⟩ := open_up hf hd
  have h2 : (openP s).2.2 = some g := by rw [hg]
  exact ⟨g, hg, (open_good hok).2 g h2, (open_good hok).1, open_d hd h2⟩
def bAt (l : ByteArray) (i : Nat) : Nat := u8 l.data.toList i
theorem bAt_out {l : ByteArray} {i : Nat} (h : l.size ≤ i) : bAt l i = 0 := by
  unfold bAt u8
  rw [List.getD_eq_getElem?_getD, List.getElem?_eq_none (by rw [data_length]; exact h)]
  rfl
theorem bAt_append (a b : ByteArray) (i : Nat) : bAt (a ++ b) i = if i < a.size then bAt a i else bAt b (i - a.size) := by
  unfold bAt u8
  rw [ByteArray.data_append, Array.toList_append, List.getD_eq_getElem?_getD, List.getD_eq_getElem?_getD, List.getD_eq_getElem?_getD]
  split
  · rename_i h
    rw [List.getElem?_append_left (by rw [data_length]; exact h)]
  · rename_i h
    rw [List.getElem?_append_right (by rw [data_length]; omega), data_length]
theorem bAt_extract (s : ByteArray) (a b i : Nat) (hb : b ≤ s.size) : bAt (s.extract a b) i = if i < b - a then bAt s (a + i) else 0 := by
  unfold bAt u8
  rw [extract_list, List.getD_eq_getElem?_getD, List.getD_eq_getElem?_getD, List.getElem?_take, List.getElem?_drop]
  split <;> rfl
theorem bAt_zeros (n i : Nat) : bAt (zerosB n) i = 0 := by
  unfold bAt u8 zerosB
  rw [List.getD_eq_getElem?_getD]
  show (((List.replicate n (0 : UInt8))[i]?).getD 0).toNat = 0
  rw [List.getElem?_replicate]
  split <;> rfl
theorem bAt_fill (s : ByteArray) (n i : Nat) : bAt (fillB s n) i = bAt s i := by
  unfold fillB
  split
  · rfl
  · rw [bAt_append]
    split
    · rfl
    · rename_i h
      rw [bAt_zeros, bAt_out (by omega)]
theorem bAt_put (s : ByteArray) (a : Nat) (t : ByteArray) (i : Nat) : bAt (putB s a t) i = if a ≤ i ∧ i < a + t.size then bAt t (i - a) else bAt s i := by
  have hf := size_fillB s (a + t.size)
  have h1 : ((fillB s (a + t.size)).extract 0 a).size = a := by rw [size_extract _ _ _ (by omega)]; omega
  unfold putB
  rw [bAt_append, ByteArray.size_append, h1, bAt_append, h1, bAt_extract _ _ _ _ (by omega), bAt_extract _ _ _ _ (Nat.le_refl _), bAt_fill, bAt_fill]
  by_cases c1 : i < a
  · rw [if_pos (by omega), if_pos c1, if_pos (by omega), if_neg (by omega), Nat.zero_add]
  · by_cases c2 : i < a + t.size
    · rw [if_pos c2, if_neg c1, if_pos ⟨by omega, c2⟩]
    · rw [if_neg c2, if_neg (by omega : ¬ (a ≤ i ∧ i < a + t.size))]
      split
      · congr 1; omega
      · rename_i c3
        rw [bAt_out (by omega)]
theorem bytes_at {a b : ByteArray} (hs : a.size = b.size) (h : ∀ i, i < a.size → bAt a i = bAt b i) : a = b := by
  apply bytes_ext
  apply List.ext_getElem
  · rw [data_length, data_length, hs]
  · intro i h1 h2
    have e := h i (by rw [data_length] at h1; exact h1)
    unfold bAt u8 at e
    rw [List.getD_eq_getElem?_getD, List.getD_eq_getElem?_getD, List.getElem?_eq_getElem h1, List.getElem?_eq_getElem h2] at e
    exact UInt8.toNat_inj.1 e
theorem u32_bytes (l l' : ByteArray) (a b : Nat) (h : ∀ i, i < 4 → bAt l (a + i) = bAt l' (b + i)) : u32 l.data.toList a = u32 l'.data.toList b := by
  have h0 := h 0 (by omega)
  have h1 := h 1 (by omega)
  have h2 := h 2 (by omega)
  have h3 := h 3 (by omega)
  unfold bAt at h0 h1 h2 h3
  rw [Nat.add_zero, Nat.add_zero] at h0
  unfold u32
  rw [h0, h1, h2, h3]
theorem extract_at {s s' : ByteArray} {a b : Nat} (hb : b ≤ s.size) (hb' : b ≤ s'.size) (h : ∀ i, a ≤ i → i < b → bAt s' i = bAt s i) : s'.extract a b = s.extract a b := by
  apply bytes_at
  · rw [size_extract _ _ _ hb, size_extract _ _ _ hb']
  · intro i hi
    rw [size_extract _ _ _ hb'] at hi
    rw [bAt_extract _ _ _ _ hb, bAt_extract _ _ _ _ hb', if_pos hi, if_pos hi]
    exact h _ (by omega) (by omega)
def o12 (l : ByteArray) (k : Nat) : Nat := u32 l.data.toList (28 + 24 * k)
structure Tells (l : ByteArray) (g : Lg) : Prop where
  slot01 : g.slot = 0 ∨ g.slot = 1
  num : 1 ≤ g.number ∧ g.number ≤ 3
  kept : g.kept ≤ 65280
  pages : g.pages ≤ 4294967295
  size : 40 + 24 * g.slot ≤ l.size
  mark : (l.extract 0 16).toList = markL
  slot : slotT l g.slot = slotB g.number g.kept g.pages
  room : g.kept = 0 ∨ 64 + 1028 * g.kept ≤ l.size
  other : o12 l (1 - g.slot) = 0 ∨ o12 l (1 - g.slot) % 3 + 1 = g.number
theorem o12_slot {l : ByteArray} {k : Nat} (hs : 40 + 24 * k ≤ l.size) : tn (slotT l k) 12 = o12 l k := by
  unfold tn o12 slotT
  refine u32_bytes _ _ _ _ (fun i hi => ?_)
  rw [bAt_extract _ _ _ _ hs, if_pos (by omega)]
  congr 1
  omega
theorem other_of {l : ByteArray} {g : Lg} (h : o12 l (1 - g.slot) = 0 ∨ o12 l (1 - g.slot) % 3 + 1 = g.number) : ∀ x, slotOfB l (1 - g.slot) = some x → x.1 % 3 + 1 = g.number := by
  intro x hx
  unfold slotOfB at hx
  split at hx
  · simp at hx
  · rename_i hs
    split at hx
    · rename_i hok
      injection hx with hx
      subst hx
      have hz : (slotT l (1 - g.slot)).size = 24 := by unfold slotT; rw [size_extract _ _ _ (by omega)]; omega
      have a1 := tn_drop (slotT l (1 - g.slot)) 0 12 (by omega) (by omega)
      have a2 := tn_drop (slotT l (1 - g.slot)) 12 24 (by omega) (by omega)
      have e12 : tn (slotT l (1 - g.slot)) 12 = tn (slotT l (1 - g.slot)) 0 := by rw [← a1, ← a2, hok.1]
      rw [o12_slot (by omega)] at e12
      have := hok.2.1
      show tn (slotT l (1 - g.slot)) 0 % 3 + 1 = _
      omega
    · simp at hx
theorem slotB_tn (n f p : Nat) (hn : n < 4294967296) (hf : f < 4294967296) (hp : p < 4294967296) : tn (slotB n f p) 0 = n ∧ tn (slotB n f p) 4 = f ∧ tn (slotB n f p) 8 = p := by
  have hs : (slotB n f p).size = 24 := size_slot n f p
  have e0 : ∀ a, a + 4 ≤ 24 → tn (slotB n f p) a = u32 ((slotB n f p).extract a (a + 4)).data.toList 0 := fun a ha => (tn_drop (slotB n f p) a (a + 4) (Nat.le_refl _) (by omega)).symm
  have l1 : (slotB n f p).data.toList = (fourB n).data.toList ++ ((fourB f).data.toList ++ ((fourB p).data.toList ++ (twelve n f p).data.toList)) := by
    unfold slotB
    rw [ByteArray.data_append, Array.toList_append]
    conv => lhs; arg 1; unfold twelve; rw [ByteArray.data_append, Array.toList_append, ByteArray.data_append, Array.toList_append]
    simp only [List.append_assoc]
  have s4 : ∀ x, (fourB x).data.toList.length = 4 := fun x => by rw [data_length, size_four]
  refine ⟨?_, ?_, ?_⟩
  · rw [e0 0 (by omega), extract_list, l1, List.drop_zero, List.take_append_of_le_length (by rw [s4]; omega), List.take_of_length_le (by rw [s4]; omega)]
    have := u32_four n hn []
    rwa [List.append_nil] at this
  · rw [e0 4 (by omega), extract_list, l1, List.drop_append, List.drop_of_length_le (by rw [s4]; omega), List.nil_append, s4, Nat.sub_self, List.drop_zero, List.take_append_of_le_length (by rw [s4]; omega), List.take_of_length_le (by rw [s4]; omega)]
    have := u32_four f hf []
    rwa [List.append_nil] at this
  · rw [e0 8 (by omega), extract_list, l1, List.drop_append, List.drop_of_length_le (by rw [s4]; omega), List.nil_append, s4, List.drop_append, List.drop_of_length_le (by rw [s4]; omega), List.nil_append, s4, show 8 - 4 - 4 = 0 by rfl, List.drop_zero, List.take_append_of_le_length (by rw [s4]; omega), List.take_of_length_le (by rw [s4]; omega)]
    have := u32_four p hp []
    rwa [List.append_nil] at this
theorem slotB_12 (n f p : Nat) (hn : n < 4294967296) (hf : f < 4294967296) (hp : p < 4294967296) : tn (slotB n f p) 12 = n := by
  have hz : (slotB n f p).size = 24 := size_slot n f p
  have hh : (slotB n f p).extract 0 12 = (slotB n f p).extract 12 24 := (slot_text _ hz).1 (by obtain ⟨t0, t1, t2⟩ := slotB_tn n f p hn hf hp; rw [t0, t1, t2])
  have a1 := tn_drop (slotB n f p) 0 12 (by omega) (by omega)
  have a2 := tn_drop (slotB n f p) 12 24 (by omega) (by omega)
  rw [← a2, ← hh, a1]
  exact (slotB_tn n f p hn hf hp).1
theorem Tells.at_ {l : ByteArray} {g : Lg} (h : Tells l g) : slotOfB l g.slot = some (g.number, g.kept, g.pages) := by
  have h1 := h.size
  have h2 := h.slot
  have hk := h.kept
  have hp := h.pages
  have hn := h.num
  obtain ⟨t0, t1, t2⟩ := slotB_tn g.number g.kept g.pages (by omega) (by omega) (by omega)
  have hok : slotOk l (slotB g.number g.kept g.pages) := by
    refine ⟨?_, by rw [t0]; exact hn.1, by rw [t0]; exact hn.2, ?_⟩
    · exact (slot_text _ (size_slot _ _ _)).1 (by rw [t0, t1, t2])
    · rw [t1]; exact h.room
  unfold slotOfB
  rw [if_neg (by omega), h2, if_pos hok, t0, t1, t2]
theorem Tells.opens {s : St} {g : Lg} (h : Tells s.s1 g) (hd : s.d = false) : openP s = (0, s, some ⟨framesOf s.s1 g.kept, g.kept, g.pages, g.slot, g.number⟩) := by
  have h1 := h.size
  have hn := h.num
  have hm : ¬ (s.s1.size < 16 ∨ (s.s1.extract 0 16).toList ≠ markL) := fun e => e.elim (by omega) (fun e => e h.mark)
  have hA : ∀ k, slotA s.s1 k = (slot3 s.s1 k).1 := fun k => by unfold slotA; rw [if_neg hm]
  have hg := slot3_some h.at_
  have ho : (slot3 s.s1 (1 - g.slot)).1 = 0 ∨ (slot3 s.s1 (1 - g.slot)).1 % 3 + 1 = g.number := by
    cases e : slotOfB s.s1 (1 - g.slot) with
    | none => rw [slot3_none e]; exact .inl rfl
    | some x => rw [slot3_some e]; exact .inr (other_of h.other x e)
  have hw : whichS (slotA s.s1 0) (slotA s.s1 1) = g.slot := by
    rw [hA, hA]
    unfold whichS
    rcases h.slot01 with e | e
    · have h3 := (slot3_le (t := s.s1) 1).1
      rw [e] at hg ho ⊢
      rw [Nat.sub_zero] at ho
      rw [hg]
      simp only at ho ⊢
      rw [if_neg (by omega)]
    · rw [e] at hg ho ⊢
      rw [Nat.sub_self] at ho
      rw [hg]
      simp only at ho ⊢
      rw [if_pos (by omega)]
  have hne : ¬ (slotA s.s1 0 = 0 ∧ slotA s.s1 1 = 0) := by
    rw [hA, hA]
    rcases h.slot01 with e | e
    · rw [e] at hg
      rw [hg]
      simp only
      omega
    · rw [e] at hg
      rw [hg]
      simp only
      omega
  rw [openP_some hd hne, hw]
  unfold byS
  rw [hg]
theorem o12_put (l : ByteArray) (a : Nat) (x : ByteArray) (k : Nat) (h : a + x.size ≤ 28 + 24 * k ∨ 32 + 24 * k ≤ a) : o12 (putB l a x) k = o12 l k := by
  unfold o12
  refine u32_bytes _ _ _ _ (fun i hi => ?_)
  rw [bAt_put, if_neg (by omega)]
theorem Tells.behind {l : ByteArray} {g : Lg} (h : Tells l g) (a : Nat) (x : ByteArray) (ha : 64 ≤ a) : Tells (putB l a x) g := by
  have hs := h.size
  have hz := size_putB l a x
  have h01 := h.slot01
  refine ⟨h.slot01, h.num, h.kept, h.pages, by omega, ?_, ?_, ?_, ?_⟩
  · rw [extract_at (s := l) (by omega) (by omega) (fun i _ hi => by rw [bAt_put, if_neg (by omega)])]
    exact h.mark
  · unfold slotT
    rw [extract_at (s := l) (by omega) (by omega) (fun i _ hi => by rw [bAt_put, if_neg (by omega)])]
    exact h.slot
  · have := h.room; omega
  · rw [o12_put _ _ _ _ (by omega)]
    exact h.other
theorem Tells.half {l : ByteArray} {g : Lg} (h : Tells l g) (x : ByteArray) (hx : x.size = 12) : Tells (putB l (16 + 24 * (1 - g.slot)) x) g := by
  have hs := h.size
  have hz := size_putB l (16 + 24 * (1 - g.slot)) x
  have h01 := h.slot01
  refine ⟨h.slot01, h.num, h.kept, h.pages, by omega, ?_, ?_, ?_, ?_⟩
  · rw [extract_at (s := l) (by omega) (by omega) (fun i _ hi => by rw [bAt_put, if_neg (by omega)])]
    exact h.mark
  · unfold slotT
    rw [extract_at (s := l) (by omega) (by omega) (fun i _ hi => by rw [bAt_put, if_neg (by omega)])]
    exact h.slot
  · have := h.room; omega
  · rw [o12_put _ _ _ _ (by omega)]
    exact h.other
theorem Tells.full {l : ByteArray} {g : Lg} (h : Tells l g) (f p : Nat) (hf : f ≤ 65280) (hp : p ≤ 4294967295) (hr : f = 0 ∨ 64 + 1028 * f ≤ l.size) (fr : List (Nat × ByteArray)) :
    Tells (putB l (16 + 24 * (1 - g.slot)) (slotB (g.number % 3 + 1) f p)) ⟨fr, f, p, 1 - g.slot, g.number % 3 + 1⟩ := by
  have hs := h.size
  have hn := h.num
  have hk := h.kept
  have hpp := h.pages
  have hz := size_putB l (16 + 24 * (1 - g.slot)) (slotB (g.number % 3 + 1) f p)
  have hx : (slotB (g.number % 3 + 1) f p).size = 24 := size_slot _ _ _
  have h01 := h.slot01
  have hsl : slotT l g.slot = slotB g.number g.kept g.pages := h.slot
  refine ⟨?_, ?_, hf, hp, ?_, ?_, ?_, ?_, ?_⟩
  · show 1 - g.slot = 0 ∨ 1 - g.slot = 1
    omega
  · show 1 ≤ g.number % 3 + 1 ∧ g.number % 3 + 1 ≤ 3
    omega
  · show 40 + 24 * (1 - g.slot) ≤ _
    omega
  · rw [extract_at (s := l) (by omega) (by omega) (fun i _ hi => by rw [bAt_put, if_neg (by omega)])]
    exact h.mark
  · show (putB l (16 + 24 * (1 - g.slot)) (slotB (g.number % 3 + 1) f p)).extract (16 + 24 * (1 - g.slot)) (40 + 24 * (1 - g.slot)) = _
    have := putB_at l (16 + 24 * (1 - g.slot)) (slotB (g.number % 3 + 1) f p)
    rw [hx, show 16 + 24 * (1 - g.slot) + 24 = 40 + 24 * (1 - g.slot) by omega] at this
    exact this
  · show f = 0 ∨ 64 + 1028 * f ≤ _
    omega
  · show o12 _ (1 - (1 - g.slot)) = 0 ∨ o12 _ (1 - (1 - g.slot)) % 3 + 1 = g.number % 3 + 1
    rw [show 1 - (1 - g.slot) = g.slot by omega, o12_put _ _ _ _ (by omega), ← o12_slot (by omega), hsl, slotB_12 _ _ _ (by omega) (by omega) (by omega)]
    exact .inr rfl
theorem Holds.behind {t : ByteArray} {fr : List (Nat × ByteArray)} (h : Holds t fr) (a : Nat) (x : ByteArray) (ha : 64 + 1028 * fr.length ≤ a) : Holds (putB t a x) fr := by
  intro i hi
  obtain ⟨h1, h2⟩ := h i hi
  have hs : 64 + 1028 * (i + 1) ≤ (putB t a x).size := by rw [size_putB]; omega
  exact ⟨hs, (frame_ext h1 hs (putB_low t a x _ _ (by omega) h1)).trans h2⟩
theorem Holds.frames {t : ByteArray} {fr : List (Nat × ByteArray)} (h : Holds t fr) : framesOf t fr.length = fr := by
  apply List.ext_getElem
  · rw [framesOf_len]
  · intro i h1 h2
    obtain ⟨-, e⟩ := h i h2
    simp only [framesOf, List.getElem_map, List.getElem_range, e]
    unfold frD_
    rw [List.getD_eq_getElem?_getD, List.getElem?_eq_getElem h2, Option.getD_some]
theorem kept1_put (h : Int) (c : Chg) (f : Int) (s : ByteArray) (hc : c.cut = false) : kept1 h c f s = s ∨ ∃ x : ByteArray, kept1 h c f s = putB s c.at_ x ∧ x.size ≤ c.text.size := by
  unfold kept1
  split
  · right
    unfold onB
    split
    · refine ⟨(halved c).text, ?_, (halved_le c).2.1⟩
      rw [if_neg (by unfold halved; rw [if_neg (by rw [hc]; decide)]; rw [hc]; decide), (halved_le c).1]
    · exact ⟨c.text, by rw [if_neg (by rw [hc]; decide)], Nat.le_refl _⟩
  · exact .inl rfl
def Behind (ws : List Chg) (k : Nat) : Prop := ∀ c ∈ ws, c.file = 1 → c.cut = false ∧ 64 + 1028 * k ≤ c.at_
theorem crash_behind {g : Lg} {fr : List (Nat × ByteArray)} (keep : List Int) : ∀ (ws : List Chg) (i : Nat) (l : ByteArray), Tells l g → Holds l fr → fr.length = g.kept → Behind ws g.kept → Tells (crashB 1 keep i ws l) g ∧ Holds (crashB 1 keep i ws l) fr
  | [], _, l, ht, hh, _, _ => ⟨ht, hh⟩
  | c :: ws, i, l, ht, hh, hk, hb => by
    have hb2 : Behind ws g.kept := fun c' hc' => hb c' (by simp [hc'])
    by_cases hf : c.file = 1
    · obtain ⟨hc, ha⟩ := hb c (by simp) hf
      rcases kept1_put (howOf keep i) c 1 l hc with e | ⟨x, e, -⟩
      · show Tells (crashB 1 keep (i + 1) ws (kept1 (howOf keep i) c 1 l)) g ∧ _
        rw [crashB, e]
        exact crash_behind keep ws (i + 1) l ht hh hk hb2
      · rw [crashB, e]
        exact crash_behind keep ws (i + 1) _ (ht.behind _ _ (by omega)) (hh.behind _ _ (by omega)) hk hb2
    · have e : kept1 (howOf keep i) c 1 l = l := by unfold kept1; rw [if_neg (fun h => hf h.1)]
      rw [crashB, e]
      exact crash_behind keep ws (i + 1) l ht hh hk hb2
theorem seen_behind {g : Lg} : ∀ (ws : List Chg) (l : ByteArray), Tells l g → Behind ws g.kept → Tells (seenB 1 ws l) g
  | [], l, ht, _ => ht
  | c :: ws, l, ht, hb => by
    have hb2 : Behind ws g.kept := fun c' hc' => hb c' (by simp [hc'])
    by_cases hf : c.file = 1
    · obtain ⟨hc, ha⟩ := hb c (by simp) hf
      have e : seenB 1 (c :: ws) l = seenB 1 ws (putB l c.at_ c.text) := by
        unfold seenB
        rw [List.foldl_cons, if_pos hf]
        unfold onB
        rw [if_neg (by rw [hc]; decide)]
      rw [e]
      exact seen_behind ws _ (ht.behind _ _ (by omega)) hb2
    · have e : seenB 1 (c :: ws) l = seenB 1 ws l := by
        unfold seenB
        rw [List.foldl_cons, if_neg hf]
      rw [e]
      exact seen_behind ws l ht hb2
def PgAt (b : ByteArray) (fr : List (Nat × ByteArray)) (M : Nat → Option ByteArray) (n : Nat) : Prop :=
  match M n with
  | some t => (idx fr (n : Int) = 0 → 1024 * (n + 1) ≤ b.size ∧ b.extract (1024 * n) (1024 * (n + 1)) = t) ∧ (idx fr (n : Int) ≠ 0 → textAt fr (idx fr (n : Int)) = t)
  | none => idx fr (n : Int) = 0 ∧ ∀ i, 1024 * n ≤ i → i < 1024 * (n + 1) → bAt b i = 0
def Pg (b : ByteArray) (fr : List (Nat × ByteArray)) (M : Nat → Option ByteArray) : Prop := ∀ n, n < 6 → PgAt b fr M n
abbrev PM := Nat → Option ByteArray
theorem turn_two {f : Int} {d : Bool} {c : Int} (hd : d = false) : ((turn f d c).1 = 0 ∧ (turn f d c).2.2.1 = false) ∨ ((turn f d c).1 = 2 ∧ (turn f d c).2.2.1 = true) := by
  subst hd
  unfold turn
  split
  · exact .inr ⟨rfl, rfl⟩
  · exact .inl ⟨rfl, rfl⟩
structure Is (s : St) (l0 l1 : ByteArray) (ws : List Chg) (d : Bool) : Prop where
  l0 : s.l0 = l0
  l1 : s.l1 = l1
  ws : s.ws = ws
  d : s.d = d
theorem write_two {s : St} {f a : Int} {t : ByteArray} (hr : rightB f a t.size = true) (hd : s.d = false) :
    ((s.write f a t).1 = 0 ∧ Is (s.write f a t).2 s.l0 s.l1 (s.ws ++ [⟨f, a.toNat, t, false⟩]) false) ∨ ((s.write f a t).1 = 2 ∧ Is (s.write f a t).2 s.l0 s.l1 s.ws true) := by
  unfold St.write
  rw [if_pos hr]
  unfold St.changed
  rcases turn_two (f := s.f) (c := s.c) hd with ⟨e0, e1⟩ | ⟨e0, e1⟩
  · left
    refine ⟨e0, ?_⟩
    dsimp only
    rw [if_pos e0]
    exact ⟨rfl, rfl, rfl, e1⟩
  · right
    refine ⟨e0, ?_⟩
    dsimp only
    rw [if_neg (by rw [e0]; decide)]
    exact ⟨rfl, rfl, rfl, e1⟩
theorem cut_two {s : St} {f a : Int} (hr : rightB f a 0 = true) (hd : s.d = false) :
    ((s.cutTo f a).1 = 0 ∧ Is (s.cutTo f a).2 s.l0 s.l1 (s.ws ++ [⟨f, a.toNat, ByteArray.empty, true⟩]) false) ∨ ((s.cutTo f a).1 = 2 ∧ Is (s.cutTo f a).2 s.l0 s.l1 s.ws true) := by
  unfold St.cutTo
  rw [if_pos hr]
  unfold St.changed
  rcases turn_two (f := s.f) (c := s.c) hd with ⟨e0, e1⟩ | ⟨e0, e1⟩
  · left
    refine ⟨e0, ?_⟩
    dsimp only
    rw [if_pos e0]
    exact ⟨rfl, rfl, rfl, e1⟩
  · right
    refine ⟨e0, ?_⟩
    dsimp only
    rw [if_neg (by rw [e0]; decide)]
    exact ⟨rfl, rfl, rfl, e1⟩
theorem sync_two {s : St} {f : Int} (hr : rightB f 0 0 = true) (hd : s.d = false) :
    ((s.sync f).1 = 0 ∧ Is (s.sync f).2 (if f = 0 then s.s0 else s.l0) (if f = 1 then s.s1 else s.l1) (others f s.ws) false) ∨ ((s.sync f).1 = 2 ∧ Is (s.sync f).2 s.l0 s.l1 s.ws true) := by
  unfold St.sync
  rw [if_pos hr]
  unfold St.synced
  rcases turn_two (f := s.f) (c := s.c) hd with ⟨e0, e1⟩ | ⟨e0, e1⟩
  · left
    refine ⟨e0, ?_⟩
    dsimp only
    rw [if_pos e0]
    exact ⟨rfl, rfl, rfl, e1⟩
  · right
    refine ⟨e0, ?_⟩
    dsimp only
    rw [if_neg (by rw [e0]; decide)]
    exact ⟨rfl, rfl, rfl, e1⟩
structure Stored (s : St) (g : Lg) (KM : PM) : Prop where
  tells : Tells s.l1 g
  held : Holds s.l1 (g.fr.take g.kept)
  ws : ∀ c ∈ s.ws, c.file = 1 ∧ c.cut = false ∧ 64 + 1028 * g.kept ≤ c.at_
  pg : Pg s.l0 (g.fr.take g.kept) KM
  le : g.kept ≤ g.fr.length
structure Clean (s : St) (g : Lg) (KM NM : PM) : Prop where
  d : s.d = false
  good : Good s g
  st : Stored s g KM
  now : Pg s.l0 g.fr NM
  pages : 0 < g.kept → g.pages = 6
  same : g.fr.length = g.kept → NM = KM
theorem take_append_self {α : Type} (l m : List α) (k : Nat) (h : k ≤ l.length) : (l ++ m).take k = l.take k := by
  rw [List.take_append_of_le_length h]
theorem textAt_old (fr : List (Nat × ByteArray)) (c : Nat × ByteArray) (i : Int) (h : 0 < i) (hi : i ≤ fr.length) : textAt (fr ++ [c]) i = textAt fr i := by
  unfold textAt
  rw [frD_init _ _ _ (by omega)]
theorem Holds.room {t : ByteArray} {fr : List (Nat × ByteArray)} (h : Holds t fr) : fr.length = 0 ∨ 64 + 1028 * fr.length ≤ t.size := by
  by_cases e : fr.length = 0
  · exact .inl e
  · right
    have := (h (fr.length - 1) (by omega)).1
    omega
theorem others_all {ws : List Chg} (f : Int) (h : ∀ c ∈ ws, c.file = f) : others f ws = [] := by
  unfold others
  rw [List.filter_eq_nil_iff]
  intro c hc
  rw [h c hc]
  simp
theorem begin1_all {s : St} {p : Nat} (h : (begin1 s p).1 = 0) : (s.cutTo 1 0).1 = 0 ∧ ((s.cutTo 1 0).2.sync 1).1 = 0 ∧ (((s.cutTo 1 0).2.sync 1).2.write 1 0 (markB ++ slotB 1 0 p)).1 = 0 ∧ ((((s.cutTo 1 0).2.sync 1).2.write 1 0 (markB ++ slotB 1 0 p)).2.sync 1).1 = 0 ∧ begin1 s p = ((((s.cutTo 1 0).2.sync 1).2.write 1 0 (markB ++ slotB 1 0 p)).2.sync 1) := by
  have e := begin1_is s p _ _ _ _ rfl rfl rfl rfl
  rw [e] at h
  by_cases h1 : (s.cutTo 1 0).1 = 0
  · rw [if_neg (fun x => x h1)] at h e
    by_cases h2 : ((s.cutTo 1 0).2.sync 1).1 = 0
    · rw [if_neg (fun x => x h2)] at h e
      by_cases h3 : (((s.cutTo 1 0).2.sync 1).2.write 1 0 (markB ++ slotB 1 0 p)).1 = 0
      · rw [if_neg (fun x => x h3)] at h e
        exact ⟨h1, h2, h3, h, e⟩
      · rw [if_pos h3] at h; exact absurd h h3
    · rw [if_pos h2] at h; exact absurd h h2
  · rw [if_pos h1] at h; exact absurd h h1
theorem mark_first (x : ByteArray) : ((markB ++ x).extract 0 16).toList = markL := by
  have e : (markB ++ x).extract 0 16 = markB := by
    apply bytes_ext
    rw [extract_list, ByteArray.data_append, Array.toList_append, List.drop_zero, List.take_append_of_le_length (show 16 - 0 ≤ markB.data.toList.length from Nat.le_refl _)]
    rfl
  rw [e]
  rw [Go.ByteArray.toList_eq]
  rfl
theorem tells_new : Tells (markB ++ slotB 1 0 0) ⟨[], 0, 0, 0, 1⟩ := by
  have hz : (slotB 1 0 0).size = 24 := size_slot _ _ _
  have hm : markB.size = 16 := rfl
  have hs : (markB ++ slotB 1 0 0).size = 40 := by rw [ByteArray.size_append, hz, hm]
  refine ⟨.inl rfl, ⟨Nat.le_refl _, show 1 ≤ 3 by decide⟩, Nat.zero_le _, Nat.zero_le _, show 40 + 24 * 0 ≤ _ by omega, mark_first _, ?_, .inl rfl, .inl ?_⟩
  · show (markB ++ slotB 1 0 0).extract 16 40 = slotB 1 0 0
    apply bytes_at
    · rw [size_extract _ _ _ (by omega), hz]
    · intro i hi
      rw [size_extract _ _ _ (by omega)] at hi
      rw [bAt_extract _ _ _ _ (by omega), if_pos hi, bAt_append, hm, if_neg (by omega)]
      congr 1
      omega
  · show o12 (markB ++ slotB 1 0 0) 1 = 0
    have h0 : ∀ i, 40 ≤ i → bAt (markB ++ slotB 1 0 0) i = 0 := fun i hi => bAt_out (by omega)
    unfold o12 u32
    have a0 := h0 52 (by omega)
    have a1 := h0 53 (by omega)
    have a2 := h0 54 (by omega)
    have a3 := h0 55 (by omega)
    unfold bAt at a0 a1 a2 a3
    show ((u8 _ 52 * 256 + u8 _ 53) * 256 + u8 _ 54) * 256 + u8 _ 55 = 0
    rw [a0, a1, a2, a3]
theorem new_clean : ∃ g, openP St.new = (0, (openP St.new).2.1, some g) ∧ Clean (openP St.new).2.1 g (fun _ => none) (fun _ => none) ∧ g.fr.length = 0 ∧ (openP St.new).2.1.ok 4 := by
  obtain ⟨g, ho, hgood, hok, hd⟩ := opened St.new_ok (show St.new.f = -1 from rfl) (show St.new.d = false from rfl)
  have e0 : St.new.s1 = ByteArray.empty := rfl
  have hA : ∀ k, slotA St.new.s1 k = 0 := fun k => by unfold slotA; rw [e0, if_pos (.inl (by decide))]
  have hop := openP_none (s := St.new) rfl ⟨hA 0, hA 1⟩
  have hb := begin1_up (s := St.new) rfl rfl (St.new.s0.size / 1024)
  rw [if_neg (fun x => x hb)] at hop
  have hp0 : St.new.s0.size / 1024 = 0 := rfl
  rw [hp0] at hop hb
  obtain ⟨c1, c2, c3, c4, eb⟩ := begin1_all hb
  rcases cut_two (s := St.new) (f := 1) (a := 0) (by decide) rfl with ⟨-, i1⟩ | ⟨x1, -⟩
  · generalize St.new.cutTo 1 0 = A at c1 c2 c3 c4 eb i1
    rcases sync_two (s := A.2) (f := 1) (by decide) i1.d with ⟨-, i2⟩ | ⟨x2, -⟩
    · rw [if_neg (by decide), if_pos rfl, others_all 1 (fun c hc => by rw [i1.ws] at hc; rw [List.mem_singleton.1 hc])] at i2
      have es : A.2.s1.size = 0 := by
        unfold St.s1
        rw [i1.ws, i1.l1]
        rfl
      generalize A.2.sync 1 = B at c2 c3 c4 eb i2
      have hz : (markB ++ slotB 1 0 0).size = 40 := by rw [ByteArray.size_append, size_slot]; rfl
      rcases write_two (s := B.2) (f := 1) (a := 0) (t := markB ++ slotB 1 0 0) (by unfold rightB; rw [hz]; decide) i2.d with ⟨-, i3⟩ | ⟨x3, -⟩
      · generalize B.2.write 1 0 (markB ++ slotB 1 0 0) = C at c3 c4 eb i3
        rw [i2.ws, List.nil_append] at i3
        rcases sync_two (s := C.2) (f := 1) (by decide) i3.d with ⟨-, i4⟩ | ⟨x4, -⟩
        · rw [if_neg (by decide), if_pos rfl, others_all 1 (fun c hc => by rw [i3.ws] at hc; rw [List.mem_singleton.1 hc])] at i4
          have el : C.2.s1 = markB ++ slotB 1 0 0 := by
            have e1 : C.2.s1 = putB B.2.l1 0 (markB ++ slotB 1 0 0) := by
              unfold St.s1
              rw [i3.ws, i3.l1]
              rfl
            rw [e1]
            have hsz : B.2.l1.size = 0 := by rw [i2.l1]; exact es
            have h1 := putB_at B.2.l1 0 (markB ++ slotB 1 0 0)
            have h2 := size_putB B.2.l1 0 (markB ++ slotB 1 0 0)
            rw [Nat.zero_add, show (markB ++ slotB 1 0 0).size = (putB B.2.l1 0 (markB ++ slotB 1 0 0)).size by omega] at h1
            exact ByteArray.extract_zero_size.symm.trans h1
          have el0 : C.2.l0 = ByteArray.empty := by rw [i3.l0, i2.l0, i1.l0]; rfl
          rw [el, el0] at i4
          rw [eb] at hop
          generalize C.2.sync 1 = D at c4 i4 hop
          have eD : (openP St.new).2.1 = D.2 := by rw [hop]
          have eg : g = ⟨[], 0, 0, 0, 1⟩ := by
            have := ho
            rw [hop] at this
            injection this with _ this
            injection this with _ this
            injection this with this
            exact this.symm
          refine ⟨g, ho, ?_, by rw [eg]; rfl, hok⟩
          rw [eD] at hgood hd ⊢
          have hpg : ∀ fr0, fr0 = ([] : List (Nat × ByteArray)) → Pg D.2.l0 fr0 (fun _ => none) := by
            rintro _ rfl n hn
            show idx [] (n : Int) = 0 ∧ _
            refine ⟨idx_nil _, fun i _ _ => ?_⟩
            rw [i4.l0]
            exact bAt_out (Nat.zero_le _)
          subst eg
          exact ⟨hd, hgood, ⟨by rw [i4.l1]; exact tells_new, Holds.nil _, fun c hc => (by rw [i4.ws] at hc; exact absurd hc (by simp)), hpg _ rfl, Nat.le_refl _⟩, hpg _ rfl, fun e => absurd e (Nat.lt_irrefl 0), fun _ => rfl⟩
        · rw [x4] at c4; exact absurd c4 (by decide)
      · rw [x3] at c3; exact absurd c3 (by decide)
    · rw [x2] at c2; exact absurd c2 (by decide)
  · rw [x1] at c1; exact absurd c1 (by decide)
abbrev Frs := List (Nat × ByteArray)
structure Fin2 (s : St) (fr : Frs) (p : Nat) : Prop where
  ws : s.ws = []
  d : s.d = false
  ex : ∃ sl nu, Tells s.l1 ⟨fr, fr.length, p, sl, nu⟩
  holds : Holds s.l1 fr
theorem Fin2.opens {s : St} {fr : Frs} {p : Nat} (h : Fin2 s fr p) : ∃ sl nu, openP s = (0, s, some ⟨fr, fr.length, p, sl, nu⟩) ∧ Tells s.l1 ⟨fr, fr.length, p, sl, nu⟩ := by
  obtain ⟨sl, nu, ht⟩ := h.ex
  have e1 : s.s1 = s.l1 := by unfold St.s1; rw [h.ws]; rfl
  have := Tells.opens (s := s) (by rw [e1]; exact ht) h.d
  rw [e1] at this
  refine ⟨sl, nu, ?_, ht⟩
  rw [this]
  show (0, s, some (Lg.mk (framesOf s.l1 fr.length) fr.length p sl nu)) = _
  rw [h.holds.frames]
theorem Fin2.failed {s : St} {fr : Frs} {p : Nat} (h : Fin2 s fr p) (n : Int) : Fin2 (s.failed n) fr p := ⟨h.ws, h.d, h.ex, h.holds⟩
theorem Fin2.crashed {s : St} {fr : Frs} {p : Nat} (h : Fin2 s fr p) (keep : List Int) : Fin2 (s.crashed keep) fr p := by
  have e1 : (s.crashed keep).l1 = s.l1 := by show crashB 1 keep 0 s.ws s.l1 = _; rw [h.ws]; rfl
  exact ⟨rfl, rfl, by rw [e1]; exact h.ex, by rw [e1]; exact h.holds⟩
theorem Fin2.moved {s x : St} {fr : Frs} {p : Nat} (h : Fin2 s fr p) (h1 : x.l1 = s.s1) (hw : x.ws = []) (hd : x.d = false) : Fin2 x fr p := by
  have e1 : x.l1 = s.l1 := by rw [h1]; unfold St.s1; rw [h.ws]; rfl
  exact ⟨hw, hd, by rw [e1]; exact h.ex, by rw [e1]; exact h.holds⟩
theorem Fin2.good {s : St} {fr : Frs} {p : Nat} {m : Nat} (h : Fin2 s fr p) (hok : s.ok m) {sl nu : Nat} (ho : openP s = (0, s, some ⟨fr, fr.length, p, sl, nu⟩)) : Good s ⟨fr, fr.length, p, sl, nu⟩ := by
  have := (open_good hok).2 ⟨fr, fr.length, p, sl, nu⟩ (by rw [ho])
  rw [ho] at this
  exact this
structure CleanL (s : St) (g : Lg) : Prop where
  good : Good s g
  tells : Tells s.l1 g
  held : Holds s.l1 (g.fr.take g.kept)
  ws : ∀ c ∈ s.ws, c.file = 1 ∧ c.cut = false ∧ 64 + 1028 * g.kept ≤ c.at_
  le : g.kept ≤ g.fr.length
theorem Tells.frs {l : ByteArray} {g : Lg} (h : Tells l g) (fr : Frs) : Tells l ⟨fr, g.kept, g.pages, g.slot, g.number⟩ :=
  ⟨h.slot01, h.num, h.kept, h.pages, h.size, h.mark, h.slot, h.room, h.other⟩
theorem CleanL.crash {s : St} {g : Lg} (h : CleanL s g) (keep : List Int) : Fin2 (s.crashed keep) (g.fr.take g.kept) g.pages := by
  have hk : (g.fr.take g.kept).length = g.kept := by rw [List.length_take]; have := h.le; omega
  have hc := crash_behind keep s.ws 0 s.l1 h.tells h.held hk (fun c hc _ => (h.ws c hc).2)
  refine ⟨rfl, rfl, ⟨g.slot, g.number, ?_⟩, hc.2⟩
  rw [hk]
  exact hc.1.frs _
theorem CleanL.of {s s' : St} {g : Lg} {d : Bool} (h : CleanL s g) (hi : Is s' s.l0 s.l1 s.ws d) : CleanL s' g :=
  ⟨h.good.s1 (by unfold St.s1; rw [hi.ws, hi.l1]), by rw [hi.l1]; exact h.tells, by rw [hi.l1]; exact h.held, by rw [hi.ws]; exact h.ws, h.le⟩
theorem CleanL.failed {s : St} {g : Lg} (h : CleanL s g) (n : Int) : CleanL (s.failed n) g := ⟨h.good.s1 rfl, h.tells, h.held, h.ws, h.le⟩
theorem turn_dn {f : Int} {d : Bool} {c : Int} (hd : d = true) : (turn f d c).1 = 2 ∧ (turn f d c).2.2.1 = true := by
  unfold turn
  rw [if_pos (.inl hd)]
  exact ⟨rfl, rfl⟩
theorem write_any {s : St} {f a : Int} {t : ByteArray} (hr : rightB f a t.size = true) :
    ((s.write f a t).1 = 0 ∧ s.d = false ∧ Is (s.write f a t).2 s.l0 s.l1 (s.ws ++ [⟨f, a.toNat, t, false⟩]) false) ∨ ((s.write f a t).1 = 2 ∧ Is (s.write f a t).2 s.l0 s.l1 s.ws true) := by
  cases hd : s.d with
  | false => rcases write_two (s := s) hr hd with h | h
             · exact .inl ⟨h.1, rfl, h.2⟩
             · exact .inr h
  | true =>
    right
    have ht := turn_dn (f := s.f) (c := s.c) hd
    unfold St.write
    rw [if_pos hr]
    unfold St.changed
    dsimp only
    rw [if_neg (by rw [ht.1]; decide)]
    exact ⟨ht.1, rfl, rfl, rfl, ht.2⟩
theorem CleanL.append {s : St} {g : Lg} (h : CleanL s g) (n : Nat) (hn : n < 2147483648) (t : ByteArray) (ht : t.size = 1024) (hl : g.fr.length < 60000) :
    ((Lg.append s g (n : Int) t).1 = 0 ∧ (Lg.append s g (n : Int) t).2.1.d = false ∧ CleanL (Lg.append s g (n : Int) t).2.1 (Lg.append s g (n : Int) t).2.2 ∧ (Lg.append s g (n : Int) t).2.2 = { g with fr := g.fr ++ [(n, t)] }) ∨
    ((Lg.append s g (n : Int) t).1 = 2 ∧ (Lg.append s g (n : Int) t).2.1.d = true ∧ CleanL (Lg.append s g (n : Int) t).2.1 (Lg.append s g (n : Int) t).2.2 ∧ (Lg.append s g (n : Int) t).2.2 = g) := by
  have hg := h.good.append (n : Int) t
  have e : Lg.append s g (n : Int) t = if (s.write 1 ((64 + 1028 * g.fr.length : Nat) : Int) (fourB n ++ t)).1 = 0 then (0, (s.write 1 ((64 + 1028 * g.fr.length : Nat) : Int) (fourB n ++ t)).2, { g with fr := g.fr ++ [(n, t)] }) else ((s.write 1 ((64 + 1028 * g.fr.length : Nat) : Int) (fourB n ++ t)).1, (s.write 1 ((64 + 1028 * g.fr.length : Nat) : Int) (fourB n ++ t)).2, g) := by
    unfold Lg.append
    rw [if_neg (by omega), if_neg (by omega), Int.toNat_natCast]
  have hz : (fourB n ++ t).size = 1028 := by rw [ByteArray.size_append, size_four, ht]
  rcases write_any (s := s) (f := 1) (a := ((64 + 1028 * g.fr.length : Nat) : Int)) (t := fourB n ++ t) (by unfold rightB; rw [hz]; exact decide_eq_true (by omega)) with ⟨e0, hd0, hi⟩ | ⟨e0, hi⟩
  · left
    rw [e, if_pos e0] at hg ⊢
    have hle := h.le
    refine ⟨rfl, hi.d, ⟨hg, ?_, ?_, ?_, ?_⟩, rfl⟩
    · show Tells _ _
      rw [hi.l1]
      exact h.tells.frs _
    · show Holds _ ((g.fr ++ [(n, t)]).take g.kept)
      rw [hi.l1, take_append_self _ _ _ hle]
      exact h.held
    · intro c hc
      rw [hi.ws] at hc
      rcases List.mem_append.1 hc with hc | hc
      · exact h.ws c hc
      · rw [List.mem_singleton.1 hc]
        refine ⟨rfl, rfl, ?_⟩
        show 64 + 1028 * g.kept ≤ (((64 + 1028 * g.fr.length : Nat) : Int)).toNat
        omega
    · show g.kept ≤ (g.fr ++ [(n, t)]).length
      rw [List.length_append]
      omega
  · right
    have hne : ¬ ((s.write 1 ((64 + 1028 * g.fr.length : Nat) : Int) (fourB n ++ t)).1 = 0) := by rw [e0]; decide
    rw [e, if_neg hne]
    exact ⟨e0, hi.d, h.of hi, rfl⟩
theorem CleanL.back {s : St} {g : Lg} (h : CleanL s g) : CleanL s g.back := by
  have e : g.back.fr.take g.back.kept = g.fr.take g.kept := by
    show (g.fr.take g.kept).take g.kept = _
    rw [List.take_take, Nat.min_self]
  refine ⟨h.good.back, h.tells.frs _, ?_, h.ws, ?_⟩
  · rw [e]; exact h.held
  · show g.kept ≤ (g.fr.take g.kept).length
    rw [List.length_take]
    have := h.le
    omega
theorem fin2_of {s : St} {g : Lg} {fr : Frs} (hw : s.ws = []) (hd : s.d = false) (ht : Tells s.l1 g) (hh : Holds s.l1 fr) (hk : fr.length = g.kept) : Fin2 s fr g.pages :=
  ⟨hw, hd, ⟨g.slot, g.number, by rw [hk]; exact ht.frs _⟩, hh⟩
theorem tell_f {s : St} {g : Lg} {frO frN : Frs} (p : Nat) (hd : s.d = false) (hw : ∀ c ∈ s.ws, c.file = 1 ∧ c.cut = false ∧ 64 + 1028 * g.kept ≤ c.at_) (ht : Tells s.l1 g) (hO : Holds s.l1 frO) (hk : frO.length = g.kept)
    (hN : ∀ keep, Holds (crashB 1 keep 0 s.ws s.l1) frN) (hf : frN.length ≤ 65280) (hp : p ≤ 4294967295) :
    ((Lg.tell s g frN.length p).1 = 0 ∧ Is (Lg.tell s g frN.length p).2.1 s.l0 (putB s.s1 (16 + 24 * (1 - g.slot)) (slotB (g.number % 3 + 1) frN.length p)) [] false ∧ (Lg.tell s g frN.length p).2.2 = { g with slot := 1 - g.slot, number := g.number % 3 + 1 }) ∨
    ((Lg.tell s g frN.length p).1 = 2 ∧ (Lg.tell s g frN.length p).2.1.d = true ∧ ∀ keep, Fin2 ((Lg.tell s g frN.length p).2.1.crashed keep) frO g.pages ∨ Fin2 ((Lg.tell s g frN.length p).2.1.crashed keep) frN p) := by
  have h01 := ht.slot01
  have hz : (slotB (g.number % 3 + 1) frN.length p).size = 24 := size_slot _ _ _
  have hcb : ∀ keep, Tells (crashB 1 keep 0 s.ws s.l1) g ∧ Holds (crashB 1 keep 0 s.ws s.l1) frO := fun keep => crash_behind keep s.ws 0 s.l1 ht hO hk (fun c hc _ => (hw c hc).2)
  have e0 : Lg.tell s g frN.length p = if (s.write 1 ((16 + 24 * (1 - g.slot) : Nat) : Int) (slotB (g.number % 3 + 1) frN.length p)).1 ≠ 0 then ((s.write 1 ((16 + 24 * (1 - g.slot) : Nat) : Int) (slotB (g.number % 3 + 1) frN.length p)).1, (s.write 1 ((16 + 24 * (1 - g.slot) : Nat) : Int) (slotB (g.number % 3 + 1) frN.length p)).2, g) else
      if ((s.write 1 ((16 + 24 * (1 - g.slot) : Nat) : Int) (slotB (g.number % 3 + 1) frN.length p)).2.sync 1).1 ≠ 0 then (((s.write 1 ((16 + 24 * (1 - g.slot) : Nat) : Int) (slotB (g.number % 3 + 1) frN.length p)).2.sync 1).1, ((s.write 1 ((16 + 24 * (1 - g.slot) : Nat) : Int) (slotB (g.number % 3 + 1) frN.length p)).2.sync 1).2, g) else (0, ((s.write 1 ((16 + 24 * (1 - g.slot) : Nat) : Int) (slotB (g.number % 3 + 1) frN.length p)).2.sync 1).2, { g with slot := 1 - g.slot, number := g.number % 3 + 1 }) := rfl
  rw [e0]
  rcases write_two (s := s) (f := 1) (a := ((16 + 24 * (1 - g.slot) : Nat) : Int)) (t := slotB (g.number % 3 + 1) frN.length p) (by unfold rightB; rw [hz]; exact decide_eq_true (by omega)) hd with ⟨c1, i1⟩ | ⟨c1, i1⟩
  · generalize s.write 1 ((16 + 24 * (1 - g.slot) : Nat) : Int) (slotB (g.number % 3 + 1) frN.length p) = W at c1 i1
    rw [if_neg (fun h => h c1)]
    rw [Int.toNat_natCast] at i1
    have es1 : W.2.s1 = putB s.s1 (16 + 24 * (1 - g.slot)) (slotB (g.number % 3 + 1) frN.length p) := by
      unfold St.s1
      rw [i1.ws, i1.l1, seenB_snoc, if_pos rfl]
      rfl
    have hall : ∀ c ∈ W.2.ws, c.file = 1 := by
      intro c hc
      rw [i1.ws] at hc
      rcases List.mem_append.1 hc with hc | hc
      · exact (hw c hc).1
      · rw [List.mem_singleton.1 hc]
    rcases sync_two (s := W.2) (f := 1) (by decide) i1.d with ⟨c2, i2⟩ | ⟨c2, i2⟩
    · left
      generalize W.2.sync 1 = Y at c2 i2
      rw [if_neg (fun h => h c2)]
      refine ⟨rfl, ?_, rfl⟩
      rw [if_neg (by decide), if_pos rfl, es1, i1.l0, others_all 1 hall] at i2
      exact i2
    · right
      generalize W.2.sync 1 = Y at c2 i2
      have hc : Y.1 ≠ 0 := by rw [c2]; decide
      rw [if_pos hc]
      refine ⟨c2, i2.d, fun keep => ?_⟩
      have ew : Y.2.ws = s.ws ++ [⟨1, 16 + 24 * (1 - g.slot), slotB (g.number % 3 + 1) frN.length p, false⟩] := by rw [i2.ws, i1.ws]
      have el1 : Y.2.l1 = s.l1 := by rw [i2.l1, i1.l1]
      obtain ⟨hT, hH⟩ := hcb keep
      have hN2 := hN keep
      have k1 : (Y.2.crashed keep).l1 = kept1 (howOf keep (0 + s.ws.length)) ⟨1, 16 + 24 * (1 - g.slot), slotB (g.number % 3 + 1) frN.length p, false⟩ 1 (crashB 1 keep 0 s.ws s.l1) := by
        show crashB 1 keep 0 Y.2.ws Y.2.l1 = _
        rw [ew, el1, crashB_snoc]
      generalize crashB 1 keep 0 s.ws s.l1 = L at hT hH hN2 k1
      by_cases how1 : howOf keep (0 + s.ws.length) = 1
      · right
        have k2 : (Y.2.crashed keep).l1 = putB L (16 + 24 * (1 - g.slot)) (slotB (g.number % 3 + 1) frN.length p) := by
          rw [k1, how1]
          rfl
        refine fin2_of (g := ⟨frN, frN.length, p, 1 - g.slot, g.number % 3 + 1⟩) (fr := frN) rfl rfl ?_ ?_ rfl
        · rw [k2]; exact hT.full frN.length p hf hp hN2.room frN
        · rw [k2]; exact hN2.high _ _ (by rw [hz]; omega)
      · left
        by_cases how2 : howOf keep (0 + s.ws.length) = 2
        · have k2 : (Y.2.crashed keep).l1 = putB L (16 + 24 * (1 - g.slot)) ((slotB (g.number % 3 + 1) frN.length p).extract 0 12) := by
            rw [k1, how2]
            unfold kept1
            rw [if_pos ⟨rfl, .inr rfl⟩, if_pos rfl]
            unfold halved
            rw [if_neg (show ¬ (false = true) by decide)]
            unfold onB
            rw [if_neg (show ¬ (false = true) by decide)]
            show putB L _ ((slotB (g.number % 3 + 1) frN.length p).extract 0 ((slotB (g.number % 3 + 1) frN.length p).size / 2)) = _
            rw [hz]
          have hx : ((slotB (g.number % 3 + 1) frN.length p).extract 0 12).size = 12 := by rw [size_extract _ _ _ (by omega)]
          refine fin2_of (g := g) (fr := frO) rfl rfl ?_ ?_ hk
          · rw [k2]; exact hT.half _ hx
          · rw [k2]; exact hH.high _ _ (by omega)
        · have k2 : (Y.2.crashed keep).l1 = L := by
            rw [k1]
            unfold kept1
            rw [if_neg (by omega)]
          refine fin2_of (g := g) (fr := frO) rfl rfl ?_ ?_ hk
          · rw [k2]; exact hT
          · rw [k2]; exact hH
  · right
    generalize s.write 1 ((16 + 24 * (1 - g.slot) : Nat) : Int) (slotB (g.number % 3 + 1) frN.length p) = W at c1 i1
    have hc : W.1 ≠ 0 := by rw [c1]; decide
    rw [if_pos hc]
    refine ⟨c1, i1.d, fun keep => .inl ?_⟩
    obtain ⟨hT, hH⟩ := hcb keep
    refine fin2_of (g := g) (fr := frO) rfl rfl ?_ ?_ hk
    · show Tells (crashB 1 keep 0 W.2.ws W.2.l1) g
      rw [i1.ws, i1.l1]; exact hT
    · show Holds (crashB 1 keep 0 W.2.ws W.2.l1) frO
      rw [i1.ws, i1.l1]; exact hH
theorem CleanL.commit {s : St} {g : Lg} (h : CleanL s g) (n : Nat) (hn : n < 2147483648) (t : ByteArray) (ht : t.size = 1024) (hl : g.fr.length < 60000) (p : Nat) (hp : 1 ≤ p ∧ p ≤ 65536) :
    ((Lg.commit s g (n : Int) t (p : Int)).c = 0 ∧ (Lg.commit s g (n : Int) t (p : Int)).s.d = false ∧ CleanL (Lg.commit s g (n : Int) t (p : Int)).s (Lg.commit s g (n : Int) t (p : Int)).g ∧ (Lg.commit s g (n : Int) t (p : Int)).g.fr = g.fr ++ [(n, t)] ∧ (Lg.commit s g (n : Int) t (p : Int)).g.kept = g.fr.length + 1 ∧ (Lg.commit s g (n : Int) t (p : Int)).g.pages = p) ∨
    ((Lg.commit s g (n : Int) t (p : Int)).c = 2 ∧ (Lg.commit s g (n : Int) t (p : Int)).s.d = true ∧ ∀ keep, Fin2 ((Lg.commit s g (n : Int) t (p : Int)).s.crashed keep) (g.fr.take g.kept) g.pages ∨ Fin2 ((Lg.commit s g (n : Int) t (p : Int)).s.crashed keep) (g.fr ++ [(n, t)]) p) := by
  have hgood := h.good.commit (n : Int) t (p : Int)
  have e0 : Lg.commit s g (n : Int) t (p : Int) = (let r := ((rAppend (n : Int) t s g).andThen (rSync 1)).andThen (fun s g => rTell g.fr.length p s g); if r.c = 0 then { r with g := { r.g with pages := p, kept := r.g.fr.length } } else r) := by
    unfold Lg.commit
    rw [if_neg (by omega), Int.toNat_natCast]
  rw [e0] at hgood ⊢
  rcases h.append n hn t ht hl with ⟨c1, hdA, hc, egA⟩ | ⟨c1, hd1, hs1, egA⟩
  · have eA : rAppend (n : Int) t s g = ⟨(Lg.append s g (n : Int) t).1, (Lg.append s g (n : Int) t).2.1, (Lg.append s g (n : Int) t).2.2⟩ := rfl
    rw [eA] at hgood ⊢
    generalize Lg.append s g (n : Int) t = A at c1 hc hdA egA hgood ⊢
    obtain ⟨ac, as_, ag⟩ := A
    simp only at c1 hc hdA egA hgood ⊢
    subst c1
    have eB : (Run.mk 0 as_ ag).andThen (rSync 1) = ⟨(as_.sync 1).1, (as_.sync 1).2, ag⟩ := andThen_ok rfl _
    rw [eB] at hgood ⊢
    have hfile : ∀ c ∈ as_.ws, c.file = 1 := fun c hcc => (hc.ws c hcc).1
    have hlen : ag.fr.length = g.fr.length + 1 := by rw [egA]; simp
    have hfr : ag.fr = g.fr ++ [(n, t)] := by rw [egA]
    have hkt : ag.kept = g.kept := by rw [egA]
    have hpg : ag.pages = g.pages := by rw [egA]
    have hO2 : ag.fr.take ag.kept = g.fr.take g.kept := by rw [hfr, hkt, take_append_self _ _ _ h.le]
    have hk : (ag.fr.take ag.kept).length = ag.kept := by rw [List.length_take]; have := hc.le; omega
    rcases sync_two (s := as_) (f := 1) (by decide) hdA with ⟨c2, i2⟩ | ⟨c2, i2⟩
    · rw [if_neg (by decide), if_pos rfl, others_all 1 hfile] at i2
      generalize as_.sync 1 = Y at c2 i2 hgood ⊢
      rw [andThen_ok c2] at hgood ⊢
      unfold rTell at hgood ⊢
      simp only at hgood ⊢
      have hT : Tells Y.2.l1 ag := by
        rw [i2.l1]
        exact seen_behind as_.ws as_.l1 hc.tells (fun c hcc _ => (hc.ws c hcc).2)
      have hH : Holds Y.2.l1 ag.fr := by rw [i2.l1]; exact hc.good.holds
      rcases tell_f (frO := ag.fr.take ag.kept) (frN := ag.fr) p i2.d (fun c hcc => by rw [i2.ws] at hcc; cases hcc) hT (hH.take _) hk (fun keep => by rw [i2.ws]; exact hH) (by omega) (by omega) with ⟨c3, i3, eg⟩ | ⟨c3, hd3, hf3⟩
      · left
        have hfull := hT.full ag.fr.length p (by omega) (by omega) hH.room ag.fr
        have h01 := hT.slot01
        have eY : Y.2.s1 = Y.2.l1 := by unfold St.s1; rw [i2.ws]; rfl
        rw [eY] at i3
        generalize Lg.tell Y.2 ag ag.fr.length p = Z at c3 i3 eg hgood ⊢
        rw [if_pos c3] at hgood ⊢
        simp only at hgood ⊢
        rw [eg] at hgood ⊢
        refine ⟨c3, i3.d, ⟨hgood, ?_, ?_, ?_, Nat.le_refl _⟩, hfr, hlen, trivial⟩
        · rw [i3.l1]
          exact hfull
        · show Holds Z.2.1.l1 (ag.fr.take ag.fr.length)
          rw [List.take_length, i3.l1]
          exact hH.high _ _ (by rw [size_slot]; omega)
        · intro c hcc
          rw [i3.ws] at hcc
          cases hcc
      · right
        generalize Lg.tell Y.2 ag ag.fr.length p = Z at c3 hd3 hf3 hgood ⊢
        have hne : Z.1 ≠ 0 := by rw [c3]; decide
        rw [if_neg hne]
        refine ⟨c3, hd3, fun keep => ?_⟩
        have := hf3 keep
        rw [hO2, hpg, hfr] at this
        exact this
    · right
      generalize as_.sync 1 = Y at c2 i2 hgood ⊢
      have hne : Y.1 ≠ 0 := by rw [c2]; decide
      rw [andThen_no (r := ⟨Y.1, Y.2, ag⟩) hne]
      simp only
      rw [if_neg hne]
      refine ⟨c2, i2.d, fun keep => .inl ?_⟩
      have := (hc.of i2).crash keep
      rw [hO2, hpg] at this
      exact this
  · right
    have eA : rAppend (n : Int) t s g = ⟨(Lg.append s g (n : Int) t).1, (Lg.append s g (n : Int) t).2.1, (Lg.append s g (n : Int) t).2.2⟩ := rfl
    rw [eA]
    generalize Lg.append s g (n : Int) t = A at c1 hd1 hs1 egA ⊢
    have hne : A.1 ≠ 0 := by rw [c1]; decide
    rw [andThen_no (r := ⟨A.1, A.2.1, A.2.2⟩) hne, andThen_no (r := ⟨A.1, A.2.1, A.2.2⟩) hne]
    simp only
    rw [if_neg hne]
    refine ⟨c1, hd1, fun keep => .inl ?_⟩
    have := hs1.crash keep
    rw [egA] at this
    exact this
theorem new_cleanL : ∃ g, openP St.new = (0, (openP St.new).2.1, some g) ∧ CleanL (openP St.new).2.1 g ∧ g.fr = [] ∧ g.kept = 0 ∧ g.pages = 0 ∧ (openP St.new).2.1.d = false ∧ (openP St.new).2.1.ok 4 := by
  obtain ⟨g, h1, h2, h3, h4⟩ := new_clean
  have hfr : g.fr = [] := List.eq_nil_of_length_eq_zero h3
  have hk : g.kept = 0 := by have := h2.st.le; omega
  obtain ⟨g', ho, hgood, hok, hd⟩ := opened St.new_ok (show St.new.f = -1 from rfl) (show St.new.d = false from rfl)
  refine ⟨g, h1, ⟨h2.good, h2.st.tells, h2.st.held, h2.st.ws, h2.st.le⟩, hfr, hk, ?_, h2.d, h4⟩
  have hA : ∀ k, slotA St.new.s1 k = 0 := fun k => by unfold slotA; rw [show St.new.s1 = ByteArray.empty from rfl, if_pos (.inl (by decide))]
  have hop := openP_none (s := St.new) rfl ⟨hA 0, hA 1⟩
  have hb := begin1_up (s := St.new) rfl rfl (St.new.s0.size / 1024)
  rw [if_neg (fun x => x hb)] at hop
  rw [hop] at h1
  injection h1 with _ h1
  injection h1 with _ h1
  injection h1 with h1
  rw [← h1]
  rfl
end Go.Proofs.Ythaoaaboempajab.Log
namespace Go.Proofs.Ythaoaaboempajab.QPageSeals
open Go.RowKit Go.Proofs.YthaoaaboempajabW.PrintWords Go.Proofs.YthaoaaboempajabW.PrintLast Go.Proofs.YthaoaaboempajabW.PrintMore
attribute [local go_sem] max2_int min2_int max_two min_two max_three min_three max_four min_four   -- for this text's walks alone
set_option linter.unusedVariables false
set_option linter.unusedSimpArgs false
def errW : Option Int → Value
  | none => .nilIface
  | some c => .iface 0 (.int .i64 c)
theorem errW_none : errW none = .nilIface := rfl
theorem errW_some (c : Int) : errW (some c) = .iface 0 (.int .i64 c) := rfl
theorem info5 : (Try.prog.info? 5).map (fun i => (i.zero, i.size, i.bytes)) = some (some (.int .u8 0), 1, 1) := by kernel_rfl
theorem info9 : (Try.prog.info? 9).map (fun i => (i.zero, i.size, i.bytes)) = some (some (.string ⟨#[]⟩), 1, 16) := by kernel_rfl
end Go.Proofs.Ythaoaaboempajab.QPageSeals
