/- Both disks side by side, and their methods. Conditions: the disks are blocks apart from one another; their states are in order. -/
import Derived.Test.YthaoaaboempajaaDisk14
namespace Go.Proofs.Ythaoaaboempajaa.Disk
open Go.RowKit Go.Proofs.YthaoaaboempajaaW.PrintWords Go.Proofs.YthaoaaboempajaaW.PrintLast Go.Proofs.YthaoaaboempajaaW.PrintMore Go.Proofs.YthaoaaboempajaaX Go.Proofs.Ythaoaaboempajaa.QDiskRuns
set_option linter.unusedVariables false
set_option linter.unusedSimpArgs false
def St.sync (s : St) (f : Int) : Int × St := if rightB f 0 0 = true then ((turn s.f s.d s.c).1, s.synced f) else (1, s)
theorem sync.calls (g : Nat) (O : Nat → Prop) (s : St) (f : Int) (m : Nat) (w0 w : World) (hB : Below w0.heap.size w0 w) (hD : DD w w0.heap.size g O s) (hok : s.ok m) (hm : m ≤ 1000000000) :
    Calls Try.prog 131 #[.pointer (some ⟨g, 0, none⟩), .int .i64 f] w fun e w' => e = .returned (.int .i64 (s.sync f).1) ∧
      DD w' w0.heap.size g (fun k => O k ∨ w.heap.size ≤ k) (s.sync f).2 ∧ Below w0.heap.size w0 w' ∧ Kept w w' O := by
  by_cases hr : rightB f 0 0 = true
  · have hs : s.sync f = ((turn s.f s.d s.c).1, s.synced f) := by unfold St.sync; rw [if_pos hr]
    rw [hs]
    rcases (right_file hr).1 with rfl | rfl
    · exact sync.calls0 g O s m w0 w hB hD hok hm
    · exact sync.calls1 g O s m w0 w hB hD hok hm
  · have hr' : rightB f 0 0 = false := by simpa using hr
    have hs : s.sync f = (1, s) := by unfold St.sync; rw [if_neg hr]
    rw [hs]
    have HRT := Aside0.mk hr'
    have HB := Aside0.mk hB
    have HD := Aside0.mk hD
    clear hr hr' hs hB hD hok hm
    go_enter Try.func131, Try.ntmps131
    go_wp2_with (go_at_call 164; (refine (disk_right.calls f 0 0 false _ (by rw [right_is, HRT.out])).mono ?_); rintro e2 w2 ⟨rfl, hd2⟩; have HW2 := Aside0.mk hd2; clear hd2)
    go_ret
    exact ⟨rfl, DX.mono (drawn_keep HW2.out HD.out) (fun k hk => .inl hk), below_step HB.out HW2.out.below, Kept.of_below HW2.out.below O⟩
theorem rsync.calls (g : Nat) (O : Nat → Prop) (s : St) (f : Int) (m : Nat) (w0 w : World) (hB : Below w0.heap.size w0 w) (hD : RD w w0.heap.size g O s) (hok : s.ok m) (hm : m ≤ 1000000000) :
    Calls Try.prog 132 #[.pointer (some ⟨g, 0, none⟩), .int .i64 f] w fun e w' => e = .returned (.int .i64 (s.sync f).1) ∧
      RD w' w0.heap.size g (fun k => O k ∨ w.heap.size ≤ k) (s.sync f).2 ∧ Below w0.heap.size w0 w' ∧ Kept w w' O := by
  by_cases hr : rightB f 0 0 = true
  · have hs : s.sync f = ((turn s.f s.d s.c).1, s.synced f) := by unfold St.sync; rw [if_pos hr]
    rw [hs]
    rcases (right_file hr).1 with rfl | rfl
    · exact rsync.calls0 g O s m w0 w hB hD hok hm
    · exact rsync.calls1 g O s m w0 w hB hD hok hm
  · have hr' : rightB f 0 0 = false := by simpa using hr
    have hs : s.sync f = (1, s) := by unfold St.sync; rw [if_neg hr]
    rw [hs]
    have HRT := Aside0.mk hr'
    have HB := Aside0.mk hB
    have HD := Aside0.mk hD
    clear hr hr' hs hB hD hok hm
    go_enter Try.func132, Try.ntmps132
    go_wp2_with (go_at_call 105; (refine (relstoreref_in.calls f 0 1 false _ (by rw [in_is, HRT.out])).mono ?_); rintro e2 w2 ⟨rfl, hd2⟩; have HW2 := Aside0.mk hd2; clear hd2)
    go_ret
    exact ⟨rfl, RD.mono (drawn_keepR HW2.out HD.out) (fun k hk => .inl hk), below_step HB.out HW2.out.below, Kept.of_below HW2.out.below O⟩
theorem St.ok.mono {s : St} {m n : Nat} (h : s.ok m) (hn : m ≤ n) : s.ok n := ⟨h.l0, h.l1, h.ws, h.f, ⟨h.c.1, by have := h.c.2; omega⟩, h.n⟩
theorem St.ok.write {s : St} {m : Nat} (h : s.ok m) (f a : Int) (t : ByteArray) : (s.write f a t).2.ok (m + 1) := by
  unfold St.write
  split
  · rename_i hr
    obtain ⟨hf, ha, hn, han⟩ := right_file hr
    exact h.changed hf (by unfold maxFile; dsimp only; omega)
  · exact h.mono (Nat.le_succ m)
theorem St.ok.cutTo {s : St} {m : Nat} (h : s.ok m) (f a : Int) : (s.cutTo f a).2.ok (m + 1) := by
  unfold St.cutTo
  split
  · rename_i hr
    obtain ⟨hf, ha, hn, han⟩ := right_file hr
    exact h.changed hf (by unfold maxFile; rw [show ByteArray.empty.size = 0 from rfl]; dsimp only; omega)
  · exact h.mono (Nat.le_succ m)
theorem St.ok.sync {s : St} {m : Nat} (h : s.ok m) (f : Int) : (s.sync f).2.ok (m + 1) := by
  unfold St.sync
  split
  · exact h.synced
  · exact h.mono (Nat.le_succ m)
/-- Both disks; X: blocks apart from them. -/
def LT (w0 w : World) (gd gr : Nat) (X : Nat → Prop) (s1 s2 : St) (m : Nat) : Prop :=
  ∃ O1 O2, DD w w0.heap.size gd O1 s1 ∧ RD w w0.heap.size gr O2 s2 ∧ (∀ k, O1 k → w0.heap.size ≤ k ∧ k < w.heap.size ∧ ¬ O2 k ∧ ¬ X k) ∧ (∀ k, O2 k → w0.heap.size ≤ k ∧ k < w.heap.size ∧ ¬ X k) ∧ (∀ k, X k → k < w.heap.size) ∧ Below w0.heap.size w0 w ∧ s1.ok m ∧ s2.ok m
def Same (X : Nat → Prop) (w w' : World) : Prop := ∀ k, X k → w'.heap[k]? = w.heap[k]?
section
variable {w0 w w' : World} {gd gr : Nat} {X : Nat → Prop} {s1 s2 s1' s2' : St} {m : Nat}
theorem DX.narrow2 {base g : Nat} {O : Nat → Prop} {a0 b0 a1 b1 : ByteArray} {ws : List Chg} {f c : Int} {d : Bool} (h : DX w base g O a0 b0 a1 b1 ws f d c) : DX w base g (fun k => O k ∧ base ≤ k ∧ k < w.heap.size) a0 b0 a1 b1 ws f d c := by
  obtain ⟨lab, x0, x1, x2, x3, x4, hb, hg, hO, hl, hr⟩ := h
  refine ⟨lab, x0, x1, x2, x3, x4, hb, hg, ⟨hO, hg, blk_lt hb⟩, hl, ⟨?_, ?_, ?_, ?_, ?_⟩⟩
  · exact Kd.R_mono (Kd.R_bound hr.r0) (fun k h => ⟨⟨h.1.1, h.2.1, h.2.2.1⟩, h.1.2⟩)
  · exact Kd.R_mono (Kd.R_bound hr.r1) (fun k h => ⟨⟨h.1.1, h.2.1, h.2.2.1⟩, h.1.2⟩)
  · exact Kd.R_mono (Kd.R_bound hr.r2) (fun k h => ⟨⟨h.1.1, h.2.1, h.2.2.1⟩, h.1.2⟩)
  · exact Kd.R_mono (Kd.R_bound hr.r3) (fun k h => ⟨⟨h.1.1, h.2.1, h.2.2.1⟩, h.1.2⟩)
  · exact Kd.R_mono (Kd.R_bound hr.r4) (fun k h => ⟨⟨h.1.1, h.2.1, h.2.2.1⟩, h.1.2⟩)
theorem RD.narrow2 {base g : Nat} {O : Nat → Prop} {s : St} (h : RD w base g O s) : RD w base g (fun k => O k ∧ base ≤ k ∧ k < w.heap.size) s := by
  obtain ⟨x2, hb, hg, hO, hr⟩ := h
  exact ⟨x2, hb, hg, ⟨hO, hg, blk_lt hb⟩, Kd.R_mono (Kd.R_bound hr) (fun k h1 => ⟨⟨h1.1.1, h1.2.1, h1.2.2.1⟩, h1.1.2⟩)⟩
theorem LT.below (h : LT w0 w gd gr X s1 s2 m) (hb : Below w.heap.size w w') : LT w0 w' gd gr X s1 s2 m := by
  obtain ⟨O1, O2, h1, h2, h3, h4, h5, h6, h7, h8⟩ := h
  have hs := hb.size
  exact ⟨O1, O2, DX.apart h1 (S := fun _ => False) (Kept.of_below hb _) (fun _ _ h => h), RD.apart h2 (S := fun _ => False) (Kept.of_below hb _) (fun _ _ h => h), fun k hk => ⟨(h3 k hk).1, Nat.lt_of_lt_of_le (h3 k hk).2.1 hs, (h3 k hk).2.2⟩, fun k hk => ⟨(h4 k hk).1, Nat.lt_of_lt_of_le (h4 k hk).2.1 hs, (h4 k hk).2.2⟩, fun k hk => Nat.lt_of_lt_of_le (h5 k hk) hs, below_step h6 hb, h7, h8⟩
theorem LT.drew (h : LT w0 w gd gr X s1 s2 m) : LT w0 w.drew gd gr X s1 s2 m := h.below (below_drew (Below.refl _ w))
theorem LT.drewN (h : LT w0 w gd gr X s1 s2 m) (n : Nat) : LT w0 (w.drewN n) gd gr X s1 s2 m := h.below (pw_below_drewN (Below.refl _ w) n)
/-- More blocks apart: those that the disks do not own. -/
theorem LT.more (h : LT w0 w gd gr X s1 s2 m) (hb : Below w.heap.size w w') {Y : Nat → Prop} (hY : ∀ k, Y k → (X k ∨ w.heap.size ≤ k) ∧ k < w'.heap.size) : LT w0 w' gd gr Y s1 s2 m := by
  have hs := hb.size
  obtain ⟨O1, O2, h1, h2, h3, h4, h5, h6, h7, h8⟩ := h
  refine ⟨O1, O2, DX.apart h1 (S := fun _ => False) (Kept.of_below hb _) (fun _ _ h => h), RD.apart h2 (S := fun _ => False) (Kept.of_below hb _) (fun _ _ h => h), fun k hk => ⟨(h3 k hk).1, Nat.lt_of_lt_of_le (h3 k hk).2.1 hs, (h3 k hk).2.2.1, fun hy => ?_⟩, fun k hk => ⟨(h4 k hk).1, Nat.lt_of_lt_of_le (h4 k hk).2.1 hs, fun hy => ?_⟩, fun k hk => (hY k hk).2, below_step h6 hb, h7, h8⟩
  · rcases (hY k hy).1 with h | h
    · exact (h3 k hk).2.2.2 h
    · exact absurd (h3 k hk).2.1 (Nat.not_lt.mpr h)
  · rcases (hY k hy).1 with h | h
    · exact (h4 k hk).2.2 h
    · exact absurd (h4 k hk).2.1 (Nat.not_lt.mpr h)
theorem LT.less (h : LT w0 w gd gr X s1 s2 m) {Y : Nat → Prop} (hY : ∀ k, Y k → X k) : LT w0 w gd gr Y s1 s2 m :=
  h.more (Below.refl _ _) (fun k hk => ⟨.inl (hY k hk), by obtain ⟨O1, O2, h1, h2, h3, h4, h5, h6, h7, h8⟩ := h; exact h5 k (hY k hk)⟩)
theorem LT.ok (h : LT w0 w gd gr X s1 s2 m) : s1.ok m ∧ s2.ok m := by obtain ⟨O1, O2, h1, h2, h3, h4, h5, h6, h7, h8⟩ := h; exact ⟨h7, h8⟩
theorem LT.hB (h : LT w0 w gd gr X s1 s2 m) : Below w0.heap.size w0 w := by obtain ⟨O1, O2, h1, h2, h3, h4, h5, h6, h7, h8⟩ := h; exact h6
theorem LT.up (h : LT w0 w gd gr X s1 s2 m) {n : Nat} (hn : m ≤ n) : LT w0 w gd gr X s1 s2 n := by obtain ⟨O1, O2, h1, h2, h3, h4, h5, h6, h7, h8⟩ := h; exact ⟨O1, O2, h1, h2, h3, h4, h5, h6, h7.mono hn, h8.mono hn⟩
/-- A method of the program's disk, beside the document's. -/
theorem LT.onD {f : FuncId} {args : Array Value} {V : Value} (h : LT w0 w gd gr X s1 s2 m) {n : Nat} (hn : m ≤ n) (hok : s1'.ok n)
    (hc : ∀ O1, DD w w0.heap.size gd O1 s1 → (∀ k, O1 k → w0.heap.size ≤ k ∧ k < w.heap.size ∧ ¬ X k) → Calls Try.prog f args w fun e w' => e = .returned V ∧ DD w' w0.heap.size gd (fun k => O1 k ∨ w.heap.size ≤ k) s1' ∧ Below w0.heap.size w0 w' ∧ Kept w w' O1) :
    Calls Try.prog f args w fun e w' => e = .returned V ∧ LT w0 w' gd gr X s1' s2 n ∧ Same X w w' ∧ w.heap.size ≤ w'.heap.size := by
  obtain ⟨O1, O2, h1, h2, h3, h4, h5, h6, h7, h8⟩ := h
  refine (hc O1 h1 (fun k hk => ⟨(h3 k hk).1, (h3 k hk).2.1, (h3 k hk).2.2.2⟩)).mono ?_
  rintro e w' ⟨rfl, hd, hb, hk⟩
  have hs := hk.1
  refine ⟨rfl, ⟨_, O2, DX.narrow2 hd, RD.apart h2 hk (fun k ho h1k => (h3 k h1k).2.2.1 ho), fun k hk' => ⟨hk'.2.1, hk'.2.2, fun ho => ?_, fun hx => ?_⟩, fun k hk' => ⟨(h4 k hk').1, Nat.lt_of_lt_of_le (h4 k hk').2.1 hs, (h4 k hk').2.2⟩, fun k hx => Nat.lt_of_lt_of_le (h5 k hx) hs, hb, hok, h8.mono hn⟩, fun k hx => hk.2 k (h5 k hx) (fun h1k => (h3 k h1k).2.2.2 hx), hs⟩
  · rcases hk'.1 with h | h
    · exact (h3 k h).2.2.1 ho
    · exact absurd (h4 k ho).2.1 (Nat.not_lt.mpr h)
  · rcases hk'.1 with h | h
    · exact (h3 k h).2.2.2 hx
    · exact absurd (h5 k hx) (Nat.not_lt.mpr h)
theorem LT.onR {f : FuncId} {args : Array Value} {V : Value} (h : LT w0 w gd gr X s1 s2 m) {n : Nat} (hn : m ≤ n) (hok : s2'.ok n)
    (hc : ∀ O1, RD w w0.heap.size gr O1 s2 → (∀ k, O1 k → w0.heap.size ≤ k ∧ k < w.heap.size ∧ ¬ X k) → Calls Try.prog f args w fun e w' => e = .returned V ∧ RD w' w0.heap.size gr (fun k => O1 k ∨ w.heap.size ≤ k) s2' ∧ Below w0.heap.size w0 w' ∧ Kept w w' O1) :
    Calls Try.prog f args w fun e w' => e = .returned V ∧ LT w0 w' gd gr X s1 s2' n ∧ Same X w w' ∧ w.heap.size ≤ w'.heap.size := by
  obtain ⟨O1, O2, h1, h2, h3, h4, h5, h6, h7, h8⟩ := h
  refine (hc O2 h2 h4).mono ?_
  rintro e w' ⟨rfl, hd, hb, hk⟩
  have hs := hk.1
  refine ⟨rfl, ⟨O1, _, DX.apart h1 hk (fun k ho h2k => (h3 k ho).2.2.1 h2k), RD.narrow2 hd, fun k hk' => ⟨(h3 k hk').1, Nat.lt_of_lt_of_le (h3 k hk').2.1 hs, fun ho => ?_, (h3 k hk').2.2.2⟩, fun k hk' => ⟨hk'.2.1, hk'.2.2, fun hx => ?_⟩, fun k hx => Nat.lt_of_lt_of_le (h5 k hx) hs, hb, h7.mono hn, hok⟩, fun k hx => hk.2 k (h5 k hx) (fun h1k => (h4 k h1k).2.2 hx), hs⟩
  · rcases ho.1 with h | h
    · exact (h3 k hk').2.2.1 h
    · exact absurd (h3 k hk').2.1 (Nat.not_lt.mpr h)
  · rcases hk'.1 with h | h
    · exact (h4 k h).2.2 hx
    · exact absurd (h5 k hx) (Nat.not_lt.mpr h)
end
section
variable {w0 w : World} {gd gr : Nat} {X : Nat → Prop} {s1 s2 : St} {m : Nat}
theorem LT.write (h : LT w0 w gd gr X s1 s2 m) (hm : m ≤ 1000000) (f a : Int) (t : ByteArray) : Calls Try.prog 125 #[.pointer (some ⟨gd, 0, none⟩), .int .i64 f, .int .i64 a, .string t] w fun e w' => e = .returned (.int .i64 (s1.write f a t).1) ∧ LT w0 w' gd gr X (s1.write f a t).2 s2 (m + 1) ∧ Same X w w' ∧ w.heap.size ≤ w'.heap.size :=
  h.onD (Nat.le_succ m) (h.ok.1.write f a t) (fun O hD _ => write.calls gd O s1 f a t m w0 w h.hB hD h.ok.1 (by omega))
theorem LT.cut (h : LT w0 w gd gr X s1 s2 m) (hm : m ≤ 1000000) (f a : Int) : Calls Try.prog 127 #[.pointer (some ⟨gd, 0, none⟩), .int .i64 f, .int .i64 a] w fun e w' => e = .returned (.int .i64 (s1.cutTo f a).1) ∧ LT w0 w' gd gr X (s1.cutTo f a).2 s2 (m + 1) ∧ Same X w w' ∧ w.heap.size ≤ w'.heap.size :=
  h.onD (Nat.le_succ m) (h.ok.1.cutTo f a) (fun O hD _ => cut.calls gd O s1 f a m w0 w h.hB hD h.ok.1 (by omega))
theorem LT.sync (h : LT w0 w gd gr X s1 s2 m) (hm : m ≤ 1000000) (f : Int) : Calls Try.prog 131 #[.pointer (some ⟨gd, 0, none⟩), .int .i64 f] w fun e w' => e = .returned (.int .i64 (s1.sync f).1) ∧ LT w0 w' gd gr X (s1.sync f).2 s2 (m + 1) ∧ Same X w w' ∧ w.heap.size ≤ w'.heap.size :=
  h.onD (Nat.le_succ m) (h.ok.1.sync f) (fun O hD _ => sync.calls gd O s1 f m w0 w h.hB hD h.ok.1 (by omega))
theorem LT.rwrite (h : LT w0 w gd gr X s1 s2 m) (hm : m ≤ 1000000) (f a : Int) (t : ByteArray) : Calls Try.prog 126 #[.pointer (some ⟨gr, 0, none⟩), .int .i64 f, .int .i64 a, .string t] w fun e w' => e = .returned (.int .i64 (s2.write f a t).1) ∧ LT w0 w' gd gr X s1 (s2.write f a t).2 (m + 1) ∧ Same X w w' ∧ w.heap.size ≤ w'.heap.size :=
  h.onR (Nat.le_succ m) (h.ok.2.write f a t) (fun O hD _ => rwrite.calls gr O s2 f a t m w0 w h.hB hD h.ok.2 (by omega))
theorem LT.rcut (h : LT w0 w gd gr X s1 s2 m) (hm : m ≤ 1000000) (f a : Int) : Calls Try.prog 128 #[.pointer (some ⟨gr, 0, none⟩), .int .i64 f, .int .i64 a] w fun e w' => e = .returned (.int .i64 (s2.cutTo f a).1) ∧ LT w0 w' gd gr X s1 (s2.cutTo f a).2 (m + 1) ∧ Same X w w' ∧ w.heap.size ≤ w'.heap.size :=
  h.onR (Nat.le_succ m) (h.ok.2.cutTo f a) (fun O hD _ => rcut.calls gr O s2 f a m w0 w h.hB hD h.ok.2 (by omega))
theorem LT.rsync (h : LT w0 w gd gr X s1 s2 m) (hm : m ≤ 1000000) (f : Int) : Calls Try.prog 132 #[.pointer (some ⟨gr, 0, none⟩), .int .i64 f] w fun e w' => e = .returned (.int .i64 (s2.sync f).1) ∧ LT w0 w' gd gr X s1 (s2.sync f).2 (m + 1) ∧ Same X w w' ∧ w.heap.size ≤ w'.heap.size :=
  h.onR (Nat.le_succ m) (h.ok.2.sync f) (fun O hD _ => rsync.calls gr O s2 f m w0 w h.hB hD h.ok.2 (by omega))
theorem LT.fail (h : LT w0 w gd gr X s1 s2 m) (n : Int) (hn : n < 9223372036854775808) : Calls Try.prog 64 #[.pointer (some ⟨gd, 0, none⟩), .int .i64 n] w fun e w' => e = .returned (.tuple #[]) ∧ LT w0 w' gd gr X (s1.failed n) s2 m ∧ Same X w w' ∧ w.heap.size ≤ w'.heap.size :=
  h.onD (Nat.le_refl m) (h.ok.1.failed hn) (fun O hD _ => by
    obtain ⟨lab, x0, x1, x2, x3, x4, hb, hg, hO, hl, hr⟩ := hD
    refine (fail.calls gd x0 x1 x2 x3 x4 s1.f s1.d s1.c n w0 w h.hB hg hb).mono ?_
    rintro e w' ⟨rfl, hx, hb', hk, hs⟩
    exact ⟨rfl, ⟨lab, x0, x1, x2, x3, x4, hx, hg, .inl hO, hl, (hr.only hk hl).mono (fun k hk => .inl hk)⟩, hb', hk.mono (fun k he => by rw [he]; exact hO)⟩)
theorem LT.rfail (h : LT w0 w gd gr X s1 s2 m) (n : Int) (hn : n < 9223372036854775808) : Calls Try.prog 84 #[.pointer (some ⟨gr, 0, none⟩), .int .i64 n] w fun e w' => e = .returned (.tuple #[]) ∧ LT w0 w' gd gr X s1 (s2.failed n) m ∧ Same X w w' ∧ w.heap.size ≤ w'.heap.size :=
  h.onR (Nat.le_refl m) (h.ok.2.failed hn) (fun O hD _ => by
    obtain ⟨x2, hb, hg, hO, hr⟩ := hD
    refine (rfail.calls gr _ _ x2 s2.f s2.d s2.c n w0 w h.hB hg hb).mono ?_
    rintro e w' ⟨rfl, hx, hb', hk, hs⟩
    exact ⟨rfl, ⟨x2, hx, hg, .inl hO, Kd.R_mono (Kd.R_kept hr hk (fun k h1 he => h1.2 he)) (fun k h1 => ⟨.inl h1.1, h1.2⟩)⟩, hb', hk.mono (fun k he => by rw [he]; exact hO)⟩)
theorem LT.crash (h : LT w0 w gd gr X s1 s2 m) (hm : m ≤ 1000000) (Ak : Option Addr) (ck : Nat) (keep : List Int) (hk : ∀ W', Kept w W' (fun k => w0.heap.size ≤ k ∧ ¬ X k) → (Kd.int .i64).C W' Ak keep.length keep) (hkl : keep.length ≤ 9223372036854775807) : Calls Try.prog 73 #[.pointer (some ⟨gd, 0, none⟩), .slice Ak keep.length ck] w fun e w' => e = .returned (.tuple #[]) ∧ LT w0 w' gd gr X (s1.crashed keep) s2 m ∧ Same X w w' ∧ w.heap.size ≤ w'.heap.size :=
  h.onD (Nat.le_refl m) h.ok.1.crashed (fun O hD hO => crash.calls gd O s1 m Ak ck keep w0 w h.hB hD h.ok.1 (by omega) (fun W' hW => hk W' (hW.mono (fun k h1 => ⟨(hO k h1).1, (hO k h1).2.2⟩))) hkl)
theorem LT.rcrash (h : LT w0 w gd gr X s1 s2 m) (hm : m ≤ 1000000) (Ak : Option Addr) (ck : Nat) (keep : List Int) (hk : ∀ W', Kept w W' (fun k => w0.heap.size ≤ k ∧ ¬ X k) → (Kd.int .i64).C W' Ak keep.length keep) (hkl : keep.length ≤ 9223372036854775807) : Calls Try.prog 85 #[.pointer (some ⟨gr, 0, none⟩), .slice Ak keep.length ck] w fun e w' => e = .returned (.tuple #[]) ∧ LT w0 w' gd gr X s1 (s2.crashed keep) m ∧ Same X w w' ∧ w.heap.size ≤ w'.heap.size :=
  h.onR (Nat.le_refl m) h.ok.2.crashed (fun O hD hO => rcrash.calls gr O s2 m Ak ck keep w0 w h.hB hD h.ok.2 (by omega) (fun W' hW => hk W' (hW.mono (fun k h1 => ⟨(hO k h1).1, (hO k h1).2.2⟩))) hkl)
/-- Methods that only read. -/
theorem LT.size (h : LT w0 w gd gr X s1 s2 m) (f : Int) : Calls Try.prog 129 #[.pointer (some ⟨gd, 0, none⟩), .int .i64 f] w fun e w' => e = .returned (.tuple #[.int .i64 (s1.size f).1, .int .i64 (s1.size f).2]) ∧ Drawn0 w w' := by
  obtain ⟨O1, O2, h1, h2, h3, h4, h5, h6, h7, h8⟩ := h
  exact size.calls gd O1 s1 f w0 w h1
theorem LT.read (h : LT w0 w gd gr X s1 s2 m) (f a n : Int) : Calls Try.prog 123 #[.pointer (some ⟨gd, 0, none⟩), .int .i64 f, .int .i64 a, .int .i64 n] w fun e w' => e = .returned (.tuple #[.string (s1.read f a n).1, .int .i64 (s1.read f a n).2]) ∧ Drawn0 w w' := by
  obtain ⟨O1, O2, h1, h2, h3, h4, h5, h6, h7, h8⟩ := h
  exact read.calls gd O1 s1 f a n w0 w h1
theorem LT.rsize (h : LT w0 w gd gr X s1 s2 m) (hm : m ≤ 1000000) (f : Int) : Calls Try.prog 130 #[.pointer (some ⟨gr, 0, none⟩), .int .i64 f] w fun e w' => e = .returned (.tuple #[.int .i64 (s2.size f).1, .int .i64 (s2.size f).2]) ∧ Below w.heap.size w w' := by
  obtain ⟨O1, O2, h1, h2, h3, h4, h5, h6, h7, h8⟩ := h
  exact rsize.calls gr O2 s2 f m w0.heap.size w h2 h8 (by omega)
theorem LT.rread (h : LT w0 w gd gr X s1 s2 m) (hm : m ≤ 1000000) (f a n : Int) : Calls Try.prog 124 #[.pointer (some ⟨gr, 0, none⟩), .int .i64 f, .int .i64 a, .int .i64 n] w fun e w' => e = .returned (.tuple #[.string (s2.read f a n).1, .int .i64 (s2.read f a n).2]) ∧ Below w.heap.size w w' := by
  obtain ⟨O1, O2, h1, h2, h3, h4, h5, h6, h7, h8⟩ := h
  exact rread.calls gr O2 s2 f a n m w0.heap.size w h2 h8 (by omega)
theorem LT.seen (h : LT w0 w gd gr X s1 s2 m) (hm : m ≤ 1000000) (f : Int) (hf : f = 0 ∨ f = 1) : Calls Try.prog 136 #[.pointer (some ⟨gr, 0, none⟩), .int .i64 f] w fun e w' => e = .returned (.string (seenOf s2 f)) ∧ Below w.heap.size w w' := by
  obtain ⟨O1, O2, h1, h2, h3, h4, h5, h6, h7, h8⟩ := h
  rcases hf with rfl | rfl
  · rw [seenOf0]
    exact seen.calls0 gr O2 s2 m w0.heap.size w h2 h8 (by omega)
  · rw [seenOf1]
    exact seen.calls1 gr O2 s2 m w0.heap.size w h2 h8 (by omega)
theorem LT.down (h : LT w0 w gd gr X s1 s2 m) : Calls Try.prog 72 #[.pointer (some ⟨gd, 0, none⟩)] w fun e w' => e = .returned (.bool s1.d) ∧ w' = w := by
  obtain ⟨O1, O2, ⟨lab, x0, x1, x2, x3, x4, hb, _⟩, _⟩ := h
  exact down.calls gd x0 x1 x2 x3 x4 s1.f s1.d s1.c w hb
theorem LT.count (h : LT w0 w gd gr X s1 s2 m) : Calls Try.prog 134 #[.pointer (some ⟨gd, 0, none⟩)] w fun e w' => e = .returned (.int .i64 s1.c) ∧ w' = w := by
  obtain ⟨O1, O2, ⟨lab, x0, x1, x2, x3, x4, hb, _⟩, _⟩ := h
  exact count.calls gd x0 x1 x2 x3 x4 s1.f s1.d s1.c w hb
theorem LT.waits (h : LT w0 w gd gr X s1 s2 m) : Calls Try.prog 135 #[.pointer (some ⟨gd, 0, none⟩)] w fun e w' => e = .returned (.int .i64 (s1.ws.length : Int)) ∧ w' = w := by
  obtain ⟨O1, O2, ⟨lab, x0, x1, x2, x3, x4, hb, _, _, _, hr⟩, _⟩ := h
  obtain ⟨A4, c4, e4⟩ := Kd.R_slice hr.r4
  subst e4
  exact waits.calls gd x0 x1 x2 x3 A4 s1.ws.length c4 s1.f s1.d s1.c w hb
/-- The document's cells. -/
theorem LT.cells (h : LT w0 w gd gr X s1 s2 m) : ∃ A c, w.cell? ⟨gr, 4, none⟩ = some (.bool s2.d) ∧ w.cell? ⟨gr, 5, none⟩ = some (.int .i64 s2.c) ∧ w.cell? ⟨gr, 2, none⟩ = some (.slice A s2.ws.length c) := by
  obtain ⟨O1, O2, _, ⟨x2, hb, _, _, hr⟩, _⟩ := h
  obtain ⟨A4, c4, e4⟩ := Kd.R_slice hr
  subst e4
  exact ⟨A4, c4, (blk_cell hb 4).trans rfl, (blk_cell hb 5).trans rfl, (blk_cell hb 2).trans rfl⟩
end
end Go.Proofs.Ythaoaaboempajaa.Disk
