/- Lines of the texts that the claim PoolKept rests on, bundled: part 1; no conditions but those that each row names. -/
import Derived.Below
import Derived.Deep.Draws
import Derived.Deep.AppendLies
import Derived.Maps.AppendAt
import Derived.OwnWalk
import Derived.Laws.BytesArg
import Derived.Laws.MakeOwn
import Derived.Laws.OwnMore
import Derived.Deep.OwnRows
import Derived.Tactics
import Derived.Lib.ConvBytes
import Derived.Laws.Slices
import Derived.WalkKit
import Derived.KernelRfl
import Derived.RowKit3
import Derived.Deep.LoopGhost
import Derived.Deep.QuietTactic
import Derived.BigQuiet
import Derived.WideLaws
import Derived.Deep.DeepCutAuto
import Derived.Deep.CutBlock
import Derived.Deep.RegionHeld3
import Derived.Laws.Rows
import Derived.Lib.AppendStr
import Derived.ArgAppend
import Derived.Laws.IdiomCopy
import Derived.RowKit
import Derived.ProofKit
import Derived.SizedLaws
import Derived.ChangeSlices
import Derived.Deep.Slices
import Derived.Lib.SmallJoins
import Derived.OrdersHeld
import Derived.Laws.BitsLemmas
import Derived.Test.YthaoaaboempajabProg
import Derived.Laws.CopyOwn
import Derived.Lib.BufferWrite
import Derived.OpenShut
import Derived.Lib.Bytes
import Derived.Lib.Bytealg
import Derived.Lib.IndexBytes
set_option linter.unusedVariables false
set_option linter.unusedSimpArgs false
namespace Go.Proofs.YthaoaaboempajabW.PrintWords
open Go.RowKit
structure Aside0 (p : Prop) : Prop where mk :: (out : p)
structure Drawn0 (w w' : World) : Prop where mk :: (out : ∃ n, w' = w.drewN n)
theorem Drawn0.refl (w : World) : Drawn0 w w := ⟨⟨0, rfl⟩⟩
theorem Drawn0.step {w w' : World} (h : Drawn0 w w') (n : Nat) : Drawn0 w (w'.drewN n) := by
  obtain ⟨m, rfl⟩ := h
  exact ⟨⟨m + n, World.drewN_drewN ..⟩⟩
theorem Drawn0.below {w w' : World} (h : Drawn0 w w') : Below w.heap.size w w' := by
  obtain ⟨n, rfl⟩ := h
  induction n with
  | zero => exact Below.refl _ _
  | succ n ih => rw [← World.drew_drewN]; exact ih.drew
def bt (s : ByteArray) (i : Int) : Int := if h : i.toNat < s.size then ((s[i.toNat]'h).toNat : Int) else 0
theorem bt_at (s : ByteArray) (i : Int) : ∀ h : i.toNat < s.size, ((s[i.toNat]'h).toNat : Int) = bt s i := fun h => by simp [bt, h]
def nums (k : IntKind) (xs : List Int) : List Value := xs.map fun x => .int k x
theorem nums_length (k : IntKind) (xs : List Int) : (nums k xs).length = xs.length := by simp [nums]
theorem below_alloc {w W : World} (h : Below w.heap.size w W) (o : Obj) : Below w.heap.size w (W.alloc o) := h.alloc h.size o
theorem below_drew {B : Nat} {w W : World} (h : Below B w W) : Below B w W.drew := ⟨h.os, h.tape, h.output, h.size, h.block⟩
theorem pw_below_drewN {B : Nat} {w W : World} (h : Below B w W) (n : Nat) : Below B w (W.drewN n) := ⟨h.os, h.tape, h.output, h.size, h.block⟩
theorem below_then {B : Nat} {w w1 w2 : World} (h : Below B w w1) (hB : B ≤ w1.heap.size) (k : Below w1.heap.size w1 w2) : Below B w w2 :=
  h.trans ⟨k.os, k.tape, k.output, k.size, fun i hi => k.block i (Nat.lt_of_lt_of_le hi hB)⟩
theorem grown_of_below {w w1 : World} (h : Below w.heap.size w w1) (row : Option Nat) : w.grownBy w1 row := ⟨h.os, h.tape, h.output, h.size, fun i hi _ => h.block i hi⟩
theorem pw_cell_below {w w1 : World} (h : Below w.heap.size w w1) {a : Addr} {v : Value} (hc : w.cell? a = some v) : w1.cell? a = some v := (h.cell (World.block_lt_of_cell? w a hc)).trans hc
theorem add_plain (g j : Nat) : (⟨g, 0, none⟩ : Addr).add j = ⟨g, j, none⟩ := by unfold Addr.add; split <;> simp_all
def ReadsInt (w : World) (k : IntKind) (A : Option Addr) (n : Nat) (xs : List Int) : Prop :=
  xs.length = n ∧ n ≤ 9223372036854775807 ∧ (0 < n → ∃ ad, A = some ad ∧ ∀ j, j < n → w.cell? (ad.add j) = some (.int k (xs.getD j 0)))
theorem own_nil (W : World) (base : Nat) (e : TypeId) (size : Nat) : W.ownsRow base e size (.slice none 0 0) 0 [] := ⟨by simp, .inl ⟨rfl, rfl⟩⟩
theorem own_base {w : World} {base : Nat} {e : TypeId} {size n : Nat} {v : Value} {xs : List Value} (h : w.ownsRow base e size v n xs) (k : Nat) (hk : v.ownBlock = some k) : base ≤ k := by
  rcases h.2 with ⟨rfl, _⟩ | ⟨g, cap, cur, rfl, hb, _⟩
  · simp [Value.ownBlock] at hk
  · have : g = k := by simpa [Value.ownBlock] using hk
    omega
theorem own_lt {w : World} {base : Nat} {e : TypeId} {size n : Nat} {v : Value} {xs : List Value} (h : w.ownsRow base e size v n xs) (k : Nat) (hk : v.ownBlock = some k) : k < w.heap.size := by
  rcases h.2 with ⟨rfl, _⟩ | ⟨g, cap, cur, rfl, hb, hh, _⟩
  · simp [Value.ownBlock] at hk
  · have : g = k := by simpa [Value.ownBlock] using hk
    subst this
    exact (Array.getElem?_eq_some_iff.1 hh).1
theorem own_reads {w : World} {base n : Nat} {e : TypeId} {k : IntKind} {v : Value} {xs : List Int} (h : w.ownsRow base e 1 v n (nums k xs)) : ∃ A c, v = .slice A n c ∧ ReadsInt w k A n xs := by
  have hl : xs.length = n := by have := h.1; simp [nums] at this; exact this
  rcases Nat.eq_zero_or_pos n with h0 | h0
  · rcases h.2 with ⟨rfl, rfl⟩ | ⟨g, cap, cur, rfl, _⟩
    · exact ⟨none, 0, rfl, hl, by omega, fun hp => absurd hp (by omega)⟩
    · exact ⟨_, cap, rfl, hl, by omega, fun hp => absurd hp (by omega)⟩
  · obtain ⟨g, cap, rfl, _, _⟩ := h.form h0
    have hm : n ≤ 9223372036854775807 := by
      rcases h.2 with ⟨_, h1⟩ | ⟨g', cap', cur, he, _, _, h1, h2, _⟩
      · omega
      · simp only [maxLen] at h2
        omega
    refine ⟨_, cap, rfl, hl, hm, fun _ => ⟨_, rfl, fun j hj => h.cells (g := g) rfl j _ ?_⟩⟩
    simp [nums, List.getElem?_eq_getElem (show j < xs.length by omega), List.getD_eq_getElem?_getD]
theorem own_slice {w : World} {base n : Nat} {e : TypeId} {size : Nat} {v : Value} {xs : List Value} (h : w.ownsRow base e size v n xs) : ∃ A c, v = .slice A n c := by
  rcases h.2 with ⟨rfl, rfl⟩ | ⟨g, cap, cur, rfl, _⟩
  · exact ⟨none, 0, rfl⟩
  · exact ⟨_, cap, rfl⟩
theorem own_string {P : Program} {w : World} {base n : Nat} {e' src dst e : TypeId} {v : Value} {xs : List Int} (hs : P.underlying src = some (.slice e)) (he : P.underlying e = some (.int .u8)) (hd : P.underlying dst = some .string)
    (h : w.ownsRow base e' 1 v n (nums .u8 xs)) : (convert src dst v).run P w = .ok (.string (strOfNums xs)) w := by
  have hl : xs.length = n := by have := h.1; simp [nums] at this; exact this
  rcases h.2 with ⟨rfl, rfl⟩ | ⟨g, cap, cur, rfl, _⟩
  · obtain rfl : xs = [] := List.eq_nil_of_length_eq_zero hl
    exact run_convert_bytes_nil w src e hs he 0 0 dst hd
  · refine run_convert_bytes_arg w src e hs he g 0 n cap xs hl (fun i hi => ?_) dst hd
    have hc := h.cells (g := g) rfl i (.int .u8 (xs.getD i 0)) (by simp [nums, List.getElem?_eq_getElem (show i < xs.length by omega), List.getD_eq_getElem?_getD])
    have ha : (⟨g, 0, none⟩ : Addr).add i = ⟨g, 0 + i, none⟩ := by unfold Addr.add; split <;> simp_all
    rwa [ha] at hc
section
variable {P : Program} {ops : Array Oper} {rest : List Oper} {o : Oper} {a : Act} {Q : Exit → Act → World → Prop}
theorem print_append {w0 W : World} (base : Nat) (hgd : o.guard = none) (s x : Operand) (t e : TypeId) (z : Value) (bytes : Nat)
    (ho : o.op = .call { callee := .builtin .append, args := #[s, x], argTypes := #[t, t] })
    (ht : P.underlying t = some (.slice e)) (hinfo : (P.info? e).map (fun i => (i.zero, i.size, i.bytes)) = some (some z, 1, bytes)) (hz : z.cells.size = 1) (hb0 : 0 < bytes)
    (v : Value) (xs : List Value) (y : Value) (hs : a.eval s = v) (hx : a.eval x = .slice (some ⟨W.heap.size, 0, none⟩) 1 1) (h1 : y.oneCell' = true)
    (HO : W.ownsRow base e 1 v xs.length xs) (HB : Below base w0 W) (hbase : base ≤ W.heap.size) (hl : (xs.length + 1) * bytes ≤ 140737488355328)
    (h : ∀ v1 w1, w1.ownsRow base e 1 v1 (xs ++ [y]).length (xs ++ [y]) → Below base w0 w1 → W.grownBy w1 v.ownBlock → (v1.ownBlock = v.ownBlock ∨ ∃ b, v1.ownBlock = some b ∧ W.heap.size ≤ b) → wpList P ops Q rest (a.put o.dst v1) w1) :
    wpList P ops Q (o :: rest) a (W.alloc (.cells #[y] e)) := by
  obtain ⟨i0, hi, hzz⟩ := Option.map_eq_some_iff.1 hinfo
  simp only [Prod.mk.injEq] at hzz
  obtain ⟨hz0, hz1, hz2⟩ := hzz
  have hlen : xs.length + 1 ≤ 140737488355328 := Nat.le_trans (Nat.le_mul_of_pos_right _ hb0) hl
  refine wpList_append_own_at (W.alloc (.cells #[y] e)) hgd s x t ho base e i0 z 1 bytes ht hi hz0 hz1 hz2 hz (by omega) v xs.length xs hs (HO.alloc _) ⟨W.heap.size, 0, none⟩ 1 1 [y] hx rfl
    (World.news_of_block (cs := #[y]) (t := e) (fr := (0, 0)) (heap_alloc_new W _)) (by simpa using h1) (by simp only [maxLen]; omega) hl (by simp; omega) ?_
  intro v1 w1 hown hg _ hat
  refine h v1 w1 (by simpa using hown) ((HB.alloc hbase _).grown hg (by simp; omega) (own_base HO)) (World.grownBy.trans (World.grownBy_alloc W _ _) hg) ?_
  rcases hat with hat | hat
  · exact .inl hat
  · exact .inr ⟨_, hat, by simp⟩
theorem print_append_num {w0 W : World} (base : Nat) (hgd : o.guard = none) (s x : Operand) (t e : TypeId) (k : IntKind) (bytes : Nat)
    (ho : o.op = .call { callee := .builtin .append, args := #[s, x], argTypes := #[t, t] })
    (ht : P.underlying t = some (.slice e)) (hinfo : (P.info? e).map (fun i => (i.zero, i.size, i.bytes)) = some (some (.int k 0), 1, bytes)) (hb0 : 0 < bytes)
    (v : Value) (xs : List Int) (y : Int) (hs : a.eval s = v) (hx : a.eval x = .slice (some ⟨W.heap.size, 0, none⟩) 1 1)
    (HO : W.ownsRow base e 1 v xs.length (nums k xs)) (HB : Below base w0 W) (hbase : base ≤ W.heap.size) (hl : (xs.length + 1) * bytes ≤ 140737488355328)
    (h : ∀ v1 w1, w1.ownsRow base e 1 v1 (xs ++ [y]).length (nums k (xs ++ [y])) → Below base w0 w1 → W.grownBy w1 v.ownBlock → (v1.ownBlock = v.ownBlock ∨ ∃ b, v1.ownBlock = some b ∧ W.heap.size ≤ b) → wpList P ops Q rest (a.put o.dst v1) w1) :
    wpList P ops Q (o :: rest) a (W.alloc (.cells #[.int k y] e)) :=
  print_append base hgd s x t e (.int k 0) bytes ho ht hinfo rfl hb0 v (nums k xs) (.int k y) hs hx rfl (by rw [nums_length]; exact HO) HB hbase (by rw [nums_length]; exact hl)
    fun v1 w1 hown hB hg hat => h v1 w1 (by simpa [nums] using hown) hB hg hat
end
def bytesOf (s : ByteArray) : List Int := s.data.toList.map fun b => (b.toNat : Int)
theorem data_length (s : ByteArray) : s.data.toList.length = s.size := by rw [Array.length_toList]; rfl
theorem bytesOf_length (s : ByteArray) : (bytesOf s).length = s.size := by rw [bytesOf, List.length_map, data_length]
def Reps {α : Type} (R : α → List Value → Prop) (size : Nat) (ps : List α) (cs : List Value) : Prop :=
  cs.length = ps.length * size ∧ ∀ j p, ps[j]? = some p → R p ((cs.drop (j * size)).take size)
theorem Reps.none {α : Type} (R : α → List Value → Prop) (size : Nat) : Reps R size [] [] := ⟨by simp, fun j p h => by simp at h⟩
theorem Reps.snoc {α : Type} {R : α → List Value → Prop} {size : Nat} {ps : List α} {cs c : List Value} {p : α} (h : Reps R size ps cs) (hp : R p c) (hc : c.length = size) : Reps R size (ps ++ [p]) (cs ++ c) := by
  refine ⟨by rw [List.length_append, h.1, hc, List.length_append, List.length_singleton, Nat.add_mul, Nat.one_mul], fun j q hq => ?_⟩
  rcases Nat.lt_or_ge j ps.length with hj | hj
  · rw [List.getElem?_append_left hj] at hq
    have h1 : j * size + size ≤ cs.length := by rw [h.1, ← Nat.succ_mul]; exact Nat.mul_le_mul_right _ hj
    have h2 := h.2 j q hq
    rw [List.drop_append_of_le_length (by omega), List.take_append_of_le_length (by rw [List.length_drop]; omega)]
    exact h2
  · have hj' : j = ps.length := by
      have := (List.getElem?_eq_some_iff.1 hq).1
      rw [List.length_append, List.length_singleton] at this
      omega
    subst hj'
    have hq' : p = q := by simpa using hq
    subst hq'
    rw [← h.1, List.drop_left, ← hc, List.take_length]
    exact hp
theorem Reps.imp_ {α : Type} {R R' : α → List Value → Prop} {size : Nat} {ps : List α} {cs : List Value} (h : Reps R size ps cs) (hR : ∀ p c, R p c → R' p c) : Reps R' size ps cs := ⟨h.1, fun j p hj => hR _ _ (h.2 j p hj)⟩
def ReadsRow {α : Type} (R : α → List Value → Prop) (size : Nat) (w : World) (A : Option Addr) (n : Nat) (ps : List α) : Prop :=
  ps.length = n ∧ n ≤ 9223372036854775807 ∧ (0 < n → ∃ ad, A = some ad ∧ ∀ j p, ps[j]? = some p → ∃ c, c.length = size ∧ R p c ∧ ∀ i u, c[i]? = some u → w.cell? (ad.add (j * size + i)) = some u)
theorem ReadsRow.get_ {α : Type} {R : α → List Value → Prop} {size : Nat} {w : World} {A : Option Addr} {n : Nat} {ps : List α} (h : ReadsRow R size w A n ps) (d : α) (i : Int) (h0 : 0 ≤ i) (h1 : i < n) :
    ∃ ad c, A = some ad ∧ c.length = size ∧ R (ps.getD i.toNat d) c ∧ ∀ j u, c[j]? = some u → w.cell? (ad.add (i.toNat * size + j)) = some u := by
  obtain ⟨ad, e, hc⟩ := h.2.2 (by omega)
  have hl : i.toNat < ps.length := by have := h.1; omega
  obtain ⟨c, hs, hr, hcell⟩ := hc i.toNat _ (List.getElem?_eq_getElem hl)
  refine ⟨ad, c, e, hs, ?_, hcell⟩
  rw [List.getD_eq_getElem?_getD, List.getElem?_eq_getElem hl]
  exact hr
theorem ReadsRow.imp_ {α : Type} {R R' : α → List Value → Prop} {size : Nat} {w w1 : World} {A : Option Addr} {n : Nat} {ps : List α} (h : ReadsRow R size w A n ps) (hb : Below w.heap.size w w1) (hR : ∀ p c, R p c → R' p c) : ReadsRow R' size w1 A n ps :=
  ⟨h.1, h.2.1, fun hn => by
    obtain ⟨ad, e, hc⟩ := h.2.2 hn
    refine ⟨ad, e, fun j p hj => ?_⟩
    obtain ⟨c, hs, hr, hcell⟩ := hc j p hj
    exact ⟨c, hs, hR _ _ hr, fun i u hu => pw_cell_below hb (hcell i u hu)⟩⟩
theorem own_reads_row {α : Type} {R : α → List Value → Prop} {w : World} {base n size : Nat} {e : TypeId} {v : Value} {ps : List α} {cs : List Value} (h : w.ownsRow base e size v n cs) (hR : Reps R size ps cs) (hn : ps.length = n) :
    ∃ A c, v = .slice A n c ∧ ReadsRow R size w A n ps := by
  rcases Nat.eq_zero_or_pos n with h0 | h0
  · rcases h.2 with ⟨rfl, rfl⟩ | ⟨g, cap, cur, rfl, _⟩
    · exact ⟨none, 0, rfl, hn, by omega, fun hp => absurd hp (by omega)⟩
    · exact ⟨_, cap, rfl, hn, by omega, fun hp => absurd hp (by omega)⟩
  · obtain ⟨g, cap, rfl, _, _⟩ := h.form h0
    have hm : n ≤ 9223372036854775807 := by
      rcases h.2 with ⟨_, h1⟩ | ⟨g', cap', cur, he, _, _, h1, h2, _⟩
      · omega
      · simp only [maxLen] at h2
        omega
    refine ⟨_, cap, rfl, hn, hm, fun _ => ⟨_, rfl, fun j p hj => ⟨(cs.drop (j * size)).take size, ?_, hR.2 j p hj, fun i u hu => ?_⟩⟩⟩
    · have hjl := (List.getElem?_eq_some_iff.1 hj).1
      have h1 : j * size + size ≤ cs.length := by rw [hR.1, ← Nat.succ_mul]; exact Nat.mul_le_mul_right _ hjl
      rw [List.length_take, List.length_drop]
      omega
    · refine h.cells (g := g) rfl _ u ?_
      rw [List.getElem?_take] at hu
      split at hu
      · rw [List.getElem?_drop] at hu
        exact hu
      · cases hu
theorem add_field (ad : Addr) (m j : Nat) (hj : 0 < j) : ad.add (m + j) = ⟨(ad.add m).block, (ad.add m).off + j, none⟩ := by
  unfold Addr.add
  by_cases hm : m = 0
  · subst hm
    simp [Nat.ne_of_gt hj]
  · simp [hm, Nat.add_assoc]
section
variable {P : Program} {ops : Array Oper} {rest : List Oper} {o : Oper} {a : Act} {Q : Exit → Act → World → Prop}
theorem print_append_cells {w0 W : World} (base : Nat) (hgd : o.guard = none) (s x : Operand) (t e : TypeId) (z : Value) (size bytes : Nat)
    (ho : o.op = .call { callee := .builtin .append, args := #[s, x], argTypes := #[t, t] })
    (ht : P.underlying t = some (.slice e)) (hinfo : (P.info? e).map (fun i => (i.zero, i.size, i.bytes)) = some (some z, size, bytes)) (hz : z.cells.size = size) (hs0 : 0 < size) (hb0 : 0 < bytes)
    (v : Value) (n : Nat) (xs ys : List Value) (hs : a.eval s = v) (hx : a.eval x = .slice (some ⟨W.heap.size, 0, none⟩) 1 1) (hys : ys.length = size) (h1 : ∀ u ∈ ys, u.oneCell' = true)
    (HO : W.ownsRow base e size v n xs) (HB : Below base w0 W) (hbase : base ≤ W.heap.size) (hl : (n + 1) * bytes ≤ 140737488355328)
    (h : ∀ v1 w1, w1.ownsRow base e size v1 (n + 1) (xs ++ ys) → Below base w0 w1 → W.grownBy w1 v.ownBlock → (v1.ownBlock = v.ownBlock ∨ ∃ b, v1.ownBlock = some b ∧ W.heap.size ≤ b) → wpList P ops Q rest (a.put o.dst v1) w1) :
    wpList P ops Q (o :: rest) a (W.alloc (.cells ys.toArray e)) := by
  obtain ⟨i0, hi, hzz⟩ := Option.map_eq_some_iff.1 hinfo
  simp only [Prod.mk.injEq] at hzz
  obtain ⟨hz0, hz1, hz2⟩ := hzz
  have hlen : n + 1 ≤ 140737488355328 := Nat.le_trans (Nat.le_mul_of_pos_right _ hb0) hl
  refine wpList_append_own_at (W.alloc (.cells ys.toArray e)) hgd s x t ho base e i0 z size bytes ht hi hz0 hz1 hz2 hz hs0 v n xs hs (HO.alloc _) ⟨W.heap.size, 0, none⟩ 1 1 ys hx (by rw [hys]; simp)
    (by simpa using World.news_of_block (cs := ys.toArray) (t := e) (fr := (0, 0)) (heap_alloc_new W (.cells ys.toArray e))) h1 (by simp only [maxLen]; omega) hl (by simp; omega) ?_
  intro v1 w1 hown hg _ hat
  refine h v1 w1 hown ((HB.alloc hbase _).grown hg (by simp; omega) (own_base HO)) (World.grownBy.trans (World.grownBy_alloc W _ _) hg) ?_
  rcases hat with hat | hat
  · exact .inl hat
  · exact .inr ⟨_, hat, by simp⟩
end
theorem own_ne {w : World} {base : Nat} {e t : TypeId} {size n g : Nat} {v : Value} {xs : List Value} {cs : Array Value} (h : w.ownsRow base e size v n xs) (hg : w.heap[g]? = some (.cells cs t (0, 0))) (hne : e ≠ t) : some g ≠ v.ownBlock := by
  rcases h.2 with ⟨rfl, _⟩ | ⟨g', cap, cur, rfl, _, hh, _⟩
  · simp [Value.ownBlock]
  · intro he
    have : g = g' := by simpa [Value.ownBlock] using he
    subst this
    rw [hg] at hh
    injection hh with hh
    injection hh with _ ht
    exact hne ht.symm
theorem blk_set {w : World} {g : Nat} {t : TypeId} {cs : Array Value} (h : w.heap[g]? = some (.cells cs t (0, 0))) (i : Nat) (u : Value) : (w.setCell ⟨g, i, none⟩ u).heap[g]? = some (.cells (cs.setIfInBounds i u) t (0, 0)) := by
  simp [World.setCell, Array.getElem?_modify, h]
theorem blk_far {w : World} {g : Nat} {t : TypeId} {cs : Array Value} (h : w.heap[g]? = some (.cells cs t (0, 0))) {p : Addr} (hp : g ≠ p.block) (u : Value) : (w.setCell p u).heap[g]? = some (.cells cs t (0, 0)) := (Below.heap_setCell w p u g hp).trans h
theorem blk_lt {w : World} {g : Nat} {o : Obj} (h : w.heap[g]? = some o) : g < w.heap.size := (Array.getElem?_eq_some_iff.1 h).1
theorem blk_cell {w : World} {g : Nat} {t : TypeId} {cs : Array Value} (h : w.heap[g]? = some (.cells cs t (0, 0))) (i : Nat) : w.cell? ⟨g, i, none⟩ = cs[i]? := cell_of_row w g i cs t (0, 0) h
theorem blk_frozen {w : World} {g : Nat} {t : TypeId} {cs : Array Value} (h : w.heap[g]? = some (.cells cs t (0, 0))) (i : Nat) : w.frozen? ⟨g, i, none⟩ = false := by simp [World.frozen?, h]
theorem blk_grown {w w1 : World} {g : Nat} {o : Obj} {row : Option Nat} (h : w.heap[g]? = some o) (hg : w.grownBy w1 row) (hne : some g ≠ row) : w1.heap[g]? = some o := (hg.block g (blk_lt h) hne).trans h
theorem blk_ne {w : World} {g g' : Nat} {t t' : TypeId} {cs cs' : Array Value} (h : w.heap[g]? = some (.cells cs t (0, 0))) (h' : w.heap[g']? = some (.cells cs' t' (0, 0))) (hne : t ≠ t') : g ≠ g' := by
  rintro rfl
  rw [h] at h'
  injection h' with h'
  injection h' with _ ht
  exact hne ht
section
variable {P : Program} {ops : Array Oper} {o : Oper} {a : Act} {Q : Exit → Act → World → Prop} {K : Act → World → Prop}
theorem step_append_cells {w0 W : World} (base : Nat) (hw : Region.wanted o (yielded ops a.tmps) = true) (s x : Operand) (t e : TypeId) (z : Value) (size bytes : Nat)
    (ho : o.op = .call { callee := .builtin .append, args := #[s, x], argTypes := #[t, t] })
    (ht : P.underlying t = some (.slice e)) (hinfo : (P.info? e).map (fun i => (i.zero, i.size, i.bytes)) = some (some z, size, bytes)) (hz : z.cells.size = size) (hs0 : 0 < size) (hb0 : 0 < bytes)
    (v : Value) (n : Nat) (xs ys : List Value) (hs : a.eval s = v) (hx : a.eval x = .slice (some ⟨W.heap.size, 0, none⟩) 1 1) (hys : ys.length = size) (h1 : ∀ u ∈ ys, u.oneCell' = true)
    (HO : W.ownsRow base e size v n xs) (HB : Below base w0 W) (hbase : base ≤ W.heap.size) (hl : (n + 1) * bytes ≤ 140737488355328)
    (h : ∀ v1 w1, w1.ownsRow base e size v1 (n + 1) (xs ++ ys) → Below base w0 w1 → W.grownBy w1 v.ownBlock → (v1.ownBlock = v.ownBlock ∨ ∃ b, v1.ownBlock = some b ∧ W.heap.size ≤ b) → K (a.put o.dst v1) w1) :
    if Region.wanted o (yielded ops a.tmps) = true then Oper.wp P o a (W.alloc (.cells ys.toArray e)) K Q else K (a.put o.dst undef) (W.alloc (.cells ys.toArray e)) := by
  obtain ⟨i0, hi, hzz⟩ := Option.map_eq_some_iff.1 hinfo
  simp only [Prod.mk.injEq] at hzz
  obtain ⟨hz0, hz1, hz2⟩ := hzz
  have hlen : n + 1 ≤ 140737488355328 := Nat.le_trans (Nat.le_mul_of_pos_right _ hb0) hl
  rw [if_pos hw]
  obtain ⟨v1, w1, hr, hown, hg, _, hat⟩ := run_append_own_at (P := P) (W.alloc (.cells ys.toArray e)) base t o.type e i0 z size bytes ht hi hz0 hz1 hz2 hz hs0 v n xs (HO.alloc _) ⟨W.heap.size, 0, none⟩ 1 1 ys (by rw [hys]; simp)
    (by simpa using World.news_of_block (cs := ys.toArray) (t := e) (fr := (0, 0)) (heap_alloc_new W (.cells ys.toArray e))) h1 (by simp only [maxLen]; omega) hl (by simp; omega)
  unfold Oper.wp execOp
  simp only [ho, resolve, invoke, builtin, Sem.run_bind, Sem.run_pure, Result.andThen_ok, List.map_toArray, List.map_cons, List.map_nil, hs, hx, hr]
  refine h v1 w1 hown ((HB.alloc hbase _).grown hg (by simp; omega) (own_base HO)) (World.grownBy.trans (World.grownBy_alloc W _ _) hg) ?_
  rcases hat with hat | hat
  · exact .inl hat
  · exact .inr ⟨_, hat, by simp⟩
end
theorem own_weaken {w : World} {base base' : Nat} {e : TypeId} {size n : Nat} {v : Value} {xs : List Value} (h : w.ownsRow base e size v n xs) (hb : base' ≤ base) : w.ownsRow base' e size v n xs := by
  obtain ⟨h1, h2⟩ := h
  refine ⟨h1, ?_⟩
  rcases h2 with h2 | ⟨g, cap, cur, rfl, hg, r⟩
  · exact .inl h2
  · exact .inr ⟨g, cap, cur, rfl, Nat.le_trans hb hg, r⟩
section
variable {α : Type} {enc : α → Value} {d : α}
def encs (enc : α → Value) (xs : List α) : List Value := xs.map enc
def rdOf (d : α) (xs : List α) (i : Int) : α := xs.getD i.toNat d
theorem encs_length (xs : List α) : (encs enc xs).length = xs.length := by simp [encs]
theorem encs_get (xs : List α) (j : Nat) (h : j < xs.length) : (encs enc xs)[j]? = some (enc (xs.getD j d)) := by
  simp [encs, List.getElem?_eq_getElem h, List.getD_eq_getElem?_getD]
def ReadsOf (enc : α → Value) (d : α) (w : World) (A : Option Addr) (n : Nat) (xs : List α) : Prop :=
  xs.length = n ∧ n ≤ 9223372036854775807 ∧ (0 < n → ∃ ad, A = some ad ∧ ∀ j, j < n → w.cell? (ad.add j) = some (enc (xs.getD j d)))
theorem ReadsOf.at_ {w : World} {A : Option Addr} {n : Nat} {xs : List α} (h : ReadsOf enc d w A n xs) (i : Int) (h0 : 0 ≤ i) (h1 : i < n) : ∃ ad, A = some ad ∧ w.cell? (ad.add i.toNat) = some (enc (rdOf d xs i)) := by
  obtain ⟨ad, e, hc⟩ := h.2.2 (by omega)
  exact ⟨ad, e, hc _ (by omega)⟩
theorem own_at_of {W : World} {base g n cap : Nat} {e : TypeId} {xs : List α} (h : W.ownsRow base e 1 (.slice (some ⟨g, 0, none⟩) n cap) n (encs enc xs)) (i : Int) (h0 : 0 ≤ i) (h1 : i < n) :
    W.cell? ⟨g, i.toNat, none⟩ = some (enc (rdOf d xs i)) ∧ W.frozen? ⟨g, i.toNat, none⟩ = false := by
  have hl : xs.length = n := by have := h.1; simp [encs] at this; exact this
  constructor
  · have hc := h.cells (g := g) rfl i.toNat _ (encs_get (d := d) xs i.toNat (by omega))
    rwa [add_plain] at hc
  · rcases h.2 with ⟨h', _⟩ | ⟨g', cap', cur, h', _, hh, _⟩
    · cases h'
    · have : g = g' := by injection h' with h'; injection h' with h'; injection h' with h'
      subst this
      simp [World.frozen?, hh]
theorem own_store_of {W : World} {base g n cap : Nat} {e : TypeId} {xs : List α} (h : W.ownsRow base e 1 (.slice (some ⟨g, 0, none⟩) n cap) n (encs enc xs)) (i : Int) (x : α) :
    (W.setCell ⟨g, i.toNat, none⟩ (enc x)).ownsRow base e 1 (.slice (some ⟨g, 0, none⟩) n cap) n (encs enc (xs.set i.toNat x)) ∧ W.grownBy (W.setCell ⟨g, i.toNat, none⟩ (enc x)) (some g) := by
  have hs := h.stored i.toNat (enc x)
  have he : (encs enc xs).set i.toNat (enc x) = encs enc (xs.set i.toNat x) := by simp [encs, List.map_set]
  rwa [he] at hs
end
theorem blk_alloc {w : World} {g : Nat} {o : Obj} (h : w.heap[g]? = some o) (o' : Obj) : (w.alloc o').heap[g]? = some o := (Below.heap_alloc w o' g (blk_lt h)).trans h
theorem blk_drew {w : World} {g : Nat} {o : Obj} (h : w.heap[g]? = some o) : w.drew.heap[g]? = some o := h
theorem blk_drewN {w : World} {g : Nat} {o : Obj} (h : w.heap[g]? = some o) (n : Nat) : (w.drewN n).heap[g]? = some o := h
theorem blk_below {w w1 : World} {g : Nat} {o : Obj} (h : w.heap[g]? = some o) (hb : Below w.heap.size w w1) : w1.heap[g]? = some o := (hb.block g (blk_lt h)).trans h
theorem blk_new (w : World) (o : Obj) : (w.alloc o).heap[w.heap.size]? = some o := heap_alloc_new w o
section
variable {P : Program}
theorem results_ct {fn : Func} {p u : Tmp} {ty : TypeId} (h : fn.results = #[.cell p ty, .tmp u]) (tmps : Array Value) (w : World) (g : Nat) (t : TypeId) (cs : Array Value) (fr : Nat × Nat) (d : TypeDesc)
    (hp : tmps.getD p undef = .pointer (some ⟨g, 0, none⟩)) (hg : w.heap[g]? = some (.cells cs t fr))
    (hu : P.underlying ty = some d) (hd : (match d with | .struct _ | .array _ _ => true | _ => false) = true) (hi : (P.info? ty).map (·.size) = some cs.size) :
    (results fn tmps).run P w = .ok (.tuple #[.agg cs, tmps.getD u undef]) w := by
  have hp' : tmps[p]?.getD undef = .pointer (some ⟨g, 0, none⟩) := by simpa using hp
  simp [results, h, hp', asAddr, run_loadVar_row w g t ty cs fr d hg hu hd hi]
end
theorem own_le {w : World} {base n m c size : Nat} {e : TypeId} {A : Option Addr} {xs : List Value} (h : w.ownsRow base e size (.slice A m c) n xs) : m ≤ c := by
  rcases h.2 with ⟨he, _⟩ | ⟨g, cap, cur, he, _, _, hnc, _⟩
  · injection he with _ h2 h3
    omega
  · injection he with _ h2 h3
    omega
def OwnRow {α : Type} (R : α → List Value → Prop) (e : TypeId) (size : Nat) (w : World) (base : Nat) (v : Value) (ps : List α) : Prop :=
  ∃ inner, w.ownsRow base e size v ps.length inner ∧ Reps R size ps inner
section
variable {α : Type} {R R' : α → List Value → Prop} {e : TypeId} {size : Nat} {w w1 : World} {base : Nat} {v : Value} {ps : List α}
theorem OwnRow.none_ (R : α → List Value → Prop) (e : TypeId) (size : Nat) (w : World) (base : Nat) : OwnRow R e size w base (.slice none 0 0) [] := ⟨[], own_nil _ _ _ _, Reps.none _ _⟩
theorem OwnRow.imp_ (h : OwnRow R e size w base v ps) (hR : ∀ p c, R p c → R' p c) : OwnRow R' e size w base v ps := by
  obtain ⟨inner, ho, hr⟩ := h
  exact ⟨inner, ho, hr.imp_ hR⟩
theorem OwnRow.reads (h : OwnRow R e size w base v ps) : ∃ A c, v = .slice A ps.length c ∧ ps.length ≤ c ∧ ReadsRow R size w A ps.length ps := by
  obtain ⟨inner, ho, hr⟩ := h
  obtain ⟨A, c, rfl, hrow⟩ := own_reads_row ho hr rfl
  exact ⟨A, c, rfl, own_le ho, hrow⟩
theorem OwnRow.ne_block (h : OwnRow R e size w base v ps) {g : Nat} {t : TypeId} {cells : Array Value} (hb : w.heap[g]? = some (.cells cells t (0, 0))) (ht : e ≠ t) : some g ≠ v.ownBlock := by
  obtain ⟨inner, ho, hr⟩ := h
  exact own_ne ho hb ht
end
theorem ReadsRow.inner_ {α : Type} {R : α → List Value → Prop} {size : Nat} {w : World} {ad : Addr} {n : Nat} {ps : List α} (h : ReadsRow R size w (some ad) n ps) :
    ∃ inner, Reps R size ps inner ∧ ∀ j u, inner[j]? = some u → w.cell? (ad.add j) = some u := by
  have key : ∀ m, m ≤ ps.length → ∃ inner, Reps R size (ps.take m) inner ∧ ∀ j u, inner[j]? = some u → w.cell? (ad.add j) = some u := by
    intro m
    induction m with
    | zero => exact fun _ => ⟨[], Reps.none _ _, fun j u hu => by simp at hu⟩
    | succ m ih =>
      intro hm
      obtain ⟨inner, hr, hc⟩ := ih (by omega)
      obtain ⟨ad', he, hcell⟩ := h.2.2 (by have := h.1; omega)
      injection he with he
      subst he
      obtain ⟨c, hcl, hp, hcc⟩ := hcell m _ (List.getElem?_eq_getElem (show m < ps.length by omega))
      refine ⟨inner ++ c, ?_, fun j u hu => ?_⟩
      · rw [List.take_succ_eq_append_getElem (show m < ps.length by omega)]
        exact hr.snoc hp hcl
      · have hil : inner.length = m * size := by rw [hr.1, List.length_take, Nat.min_eq_left (by omega)]
        rcases Nat.lt_or_ge j inner.length with hj | hj
        · rw [List.getElem?_append_left hj] at hu
          exact hc j u hu
        · rw [List.getElem?_append_right hj] at hu
          have := hcc (j - inner.length) u hu
          rwa [hil, Nat.add_sub_cancel' (by omega)] at this
  obtain ⟨inner, hr, hc⟩ := key ps.length (Nat.le_refl _)
  rw [List.take_length] at hr
  exact ⟨inner, hr, hc⟩
structure Kd (α : Type) where
  sz : Nat
  E : List Nat
  K : World → α → List Value → Prop
  M : World → Nat → (Nat → Prop) → α → List Value → Prop
  K_len : ∀ {w x cs}, K w x cs → cs.length = sz
  K_one : ∀ {w x cs}, K w x cs → ∀ u ∈ cs, u.oneCell' = true
  K_below : ∀ {w w1 : World} {x cs}, Below w.heap.size w w1 → K w x cs → K w1 x cs
  K_of_M : ∀ {w base ok x cs}, M w base ok x cs → K w x cs
  M_mono : ∀ {w base ok ok' x cs}, (∀ k, ok k → ok' k) → M w base ok x cs → M w base ok' x cs
  M_bound : ∀ {w : World} {base ok x cs}, M w base ok x cs → M w base (fun k => ok k ∧ base ≤ k ∧ k < w.heap.size ∧ ∃ q, q ∈ E ∧ ∃ cells, w.heap[k]? = some (.cells cells q (0, 0))) x cs
  M_move : ∀ {w w1 : World} {base ok x cs}, (∀ k, ok k → w1.heap[k]? = w.heap[k]?) → M w base ok x cs → M w1 base ok x cs
  M_lower : ∀ {w base base' ok x cs}, base' ≤ base → M w base ok x cs → M w base' ok x cs
theorem own_move {w w1 : World} {base : Nat} {e : TypeId} {size n : Nat} {v : Value} {xs : List Value} (h : w.ownsRow base e size v n xs) (hm : ∀ k, v.ownBlock = some k → w1.heap[k]? = w.heap[k]?) : w1.ownsRow base e size v n xs := by
  obtain ⟨h1, h2⟩ := h
  refine ⟨h1, ?_⟩
  rcases h2 with h2 | ⟨g, cap, cur, rfl, hg, hh, r⟩
  · exact .inl h2
  · exact .inr ⟨g, cap, cur, rfl, hg, (hm g (by simp [Value.ownBlock])).trans hh, r⟩
theorem own_typed {w : World} {base : Nat} {e : TypeId} {size n : Nat} {v : Value} {xs : List Value} (h : w.ownsRow base e size v n xs) (k : Nat) (hk : v.ownBlock = some k) : ∃ cells, w.heap[k]? = some (.cells cells e (0, 0)) := by
  rcases h.2 with ⟨rfl, _⟩ | ⟨g, cap, cur, rfl, hg, hh, r⟩
  · simp [Value.ownBlock] at hk
  · have : g = k := by simpa [Value.ownBlock] using hk
    subst this
    exact ⟨cur, hh⟩
namespace Kd
def C {α : Type} (d : Kd α) (w : World) (A : Option Addr) (n : Nat) (xs : List α) : Prop := ReadsRow (d.K w) d.sz w A n xs
def R {α : Type} (d : Kd α) (e : Nat) (w : World) (base : Nat) (ok : Nat → Prop) (v : Value) (xs : List α) : Prop :=
  (∀ k, v.ownBlock = some k → ok k) ∧ OwnRow (d.M w base (fun k => ok k ∧ some k ≠ v.ownBlock)) e d.sz w base v xs
section
variable {α : Type} {d : Kd α} {e : Nat} {w w1 : World} {base : Nat} {ok ok' : Nat → Prop} {v : Value} {xs : List α}
theorem C_below {A : Option Addr} {n : Nat} (h : d.C w A n xs) (hb : Below w.heap.size w w1) : d.C w1 A n xs := ReadsRow.imp_ h hb (fun _ _ hp => d.K_below hb hp)
theorem R_nil (d : Kd α) (e : Nat) (w : World) (base : Nat) (ok : Nat → Prop) : d.R e w base ok (.slice none 0 0) [] := ⟨fun k hk => by simp [Value.ownBlock] at hk, OwnRow.none_ _ _ _ _ _⟩
theorem R_mono (h : d.R e w base ok v xs) (hok : ∀ k, ok k → ok' k) : d.R e w base ok' v xs := ⟨fun k hk => hok k (h.1 k hk), h.2.imp_ (fun _ _ hp => d.M_mono (fun k hk => ⟨hok k hk.1, hk.2⟩) hp)⟩
theorem R_bound (h : d.R e w base ok v xs) : d.R e w base (fun k => ok k ∧ base ≤ k ∧ k < w.heap.size ∧ ∃ q, q ∈ e :: d.E ∧ ∃ cells, w.heap[k]? = some (.cells cells q (0, 0))) v xs := by
  obtain ⟨h0, inner, ho, hr⟩ := h
  refine ⟨fun k hk => ?_, inner, ho, hr.imp_ (fun _ _ hp => d.M_mono (fun k hk => ?_) (d.M_bound hp))⟩
  · obtain ⟨cells, hc⟩ := own_typed ho k hk
    exact ⟨h0 k hk, own_base ho k hk, own_lt ho k hk, e, List.mem_cons_self, cells, hc⟩
  · obtain ⟨⟨h1, h2⟩, h3, h4, q, hq, hc⟩ := hk
    exact ⟨⟨h1, h3, h4, q, List.mem_cons_of_mem _ hq, hc⟩, h2⟩
theorem R_move (h : d.R e w base ok v xs) (hm : ∀ k, ok k → w1.heap[k]? = w.heap[k]?) : d.R e w1 base ok v xs := by
  obtain ⟨h0, inner, ho, hr⟩ := h
  exact ⟨h0, inner, own_move ho (fun k hk => hm k (h0 k hk)), hr.imp_ (fun _ _ hp => d.M_move (fun k hk => hm k hk.1) hp)⟩
theorem R_lower {base' : Nat} (h : d.R e w base ok v xs) (hb : base' ≤ base) : d.R e w base' ok v xs := by
  obtain ⟨h0, inner, ho, hr⟩ := h
  exact ⟨h0, inner, own_weaken ho hb, hr.imp_ (fun _ _ hp => d.M_lower hb hp)⟩
theorem R_step (h : d.R e w base ok v xs) (hm : ∀ k, ok k → k < w.heap.size → w1.heap[k]? = w.heap[k]?) : d.R e w1 base ok v xs :=
  R_mono (R_move (R_bound h) (fun k hk => hm k hk.1 hk.2.2.1)) (fun _ hk => hk.1)
theorem M_step {x : α} {cs : List Value} (h : d.M w base ok x cs) (hm : ∀ k, ok k → k < w.heap.size → w1.heap[k]? = w.heap[k]?) : d.M w1 base ok x cs :=
  d.M_mono (fun _ hk => hk.1) (d.M_move (fun k hk => hm k hk.1 hk.2.2.1) (d.M_bound h))
theorem R_below (h : d.R e w base ok v xs) (hb : Below w.heap.size w w1) : d.R e w1 base ok v xs := R_step h (fun k _ hk => hb.block k hk)
theorem M_below {x : α} {cs : List Value} (h : d.M w base ok x cs) (hb : Below w.heap.size w w1) : d.M w1 base ok x cs := M_step h (fun k _ hk => hb.block k hk)
theorem R_far (h : d.R e w base ok v xs) {p : Addr} (hok : ∀ k, ok k → k ≠ p.block) (u : Value) : d.R e (w.setCell p u) base ok v xs := R_step h (fun k ho _ => Below.heap_setCell w p u k (hok k ho))
theorem R_types (h : d.R e w base ok v xs) {g t : Nat} {cells : Array Value} (hb : w.heap[g]? = some (.cells cells t (0, 0))) (ht : ∀ q, q ∈ e :: d.E → q ≠ t) : d.R e w base (fun k => ok k ∧ k ≠ g) v xs :=
  R_mono (R_bound h) (fun k hk => ⟨hk.1, by
    obtain ⟨_, _, _, q, hq, cells', hc⟩ := hk
    rintro rfl
    rw [hc] at hb
    injection hb with hb
    injection hb with _ hb
    exact ht q hq hb⟩)
theorem R_reads (h : d.R e w base ok v xs) : ∃ A c, v = .slice A xs.length c ∧ xs.length ≤ c ∧ d.C w A xs.length xs := by
  obtain ⟨A, c, he, hl, hr⟩ := OwnRow.reads h.2
  exact ⟨A, c, he, hl, hr.imp_ (Below.refl _ _) (fun _ _ hp => d.K_of_M hp)⟩
theorem R_slice (h : d.R e w base ok v xs) : ∃ A c, v = .slice A xs.length c := by
  obtain ⟨A, c, he, _⟩ := R_reads h
  exact ⟨A, c, he⟩
theorem R_own (h : d.R e w base ok v xs) : ∃ inner, w.ownsRow base e d.sz v xs.length inner := by
  obtain ⟨_, inner, ho, _⟩ := h
  exact ⟨inner, ho⟩
theorem R_ne (h : d.R e w base ok v xs) {g t : Nat} {cells : Array Value} (hb : w.heap[g]? = some (.cells cells t (0, 0))) (ht : e ≠ t) : some g ≠ v.ownBlock := OwnRow.ne_block h.2 hb ht
end
def scalar {α : Type} (enc : α → Value) (h1 : ∀ x, (enc x).oneCell' = true) : Kd α where
  sz := 1
  E := []
  K := fun _ x cs => cs = [enc x]
  M := fun _ _ _ x cs => cs = [enc x]
  K_len := fun h => by rw [h]; rfl
  K_one := fun h u hu => by
    rw [h] at hu
    rw [List.mem_singleton.1 hu]
    exact h1 _
  K_below := fun _ h => h
  K_of_M := fun h => h
  M_mono := fun _ h => h
  M_bound := fun h => h
  M_move := fun _ h => h
  M_lower := fun _ h => h
def int (k : IntKind) : Kd Int := scalar (Value.int k) (fun _ => rfl)
def bool : Kd Bool := scalar Value.bool (fun _ => rfl)
def string : Kd ByteArray := scalar Value.string (fun _ => rfl)
def slice {α : Type} (e : Nat) (d : Kd α) : Kd (List α) where
  sz := 1
  E := e :: d.E
  K := fun w xs cs => ∃ A c, cs = [.slice A xs.length c] ∧ xs.length ≤ c ∧ d.C w A xs.length xs
  M := fun w base ok xs cs => ∃ v, cs = [v] ∧ d.R e w base ok v xs
  K_len := by
    rintro w x cs ⟨A, c, rfl, _⟩
    rfl
  K_one := by
    rintro w x cs ⟨A, c, rfl, _⟩ u hu
    rw [List.mem_singleton.1 hu]
    rfl
  K_below := by
    rintro w w1 x cs hb ⟨A, c, rfl, hl, hr⟩
    exact ⟨A, c, rfl, hl, C_below hr hb⟩
  K_of_M := by
    rintro w base ok x cs ⟨v, rfl, h⟩
    obtain ⟨A, c, rfl, hl, hr⟩ := R_reads h
    exact ⟨A, c, rfl, hl, hr⟩
  M_mono := by
    rintro w base ok ok' x cs hok ⟨v, rfl, h⟩
    exact ⟨v, rfl, R_mono h hok⟩
  M_bound := by
    rintro w base ok x cs ⟨v, rfl, h⟩
    exact ⟨v, rfl, R_bound h⟩
  M_move := by
    rintro w w1 base ok x cs hm ⟨v, rfl, h⟩
    exact ⟨v, rfl, R_move h hm⟩
  M_lower := by
    rintro w base base' ok x cs hb ⟨v, rfl, h⟩
    exact ⟨v, rfl, R_lower h hb⟩
def pair {α β : Type} (a : Kd α) (b : Kd β) : Kd (α × β) where
  sz := a.sz + b.sz
  E := a.E ++ b.E
  K := fun w x cs => ∃ c0 c1, cs = c0 ++ c1 ∧ a.K w x.1 c0 ∧ b.K w x.2 c1
  M := fun w base ok x cs => ∃ c0 c1, cs = c0 ++ c1 ∧ a.M w base ok x.1 c0 ∧ b.M w base ok x.2 c1
  K_len := by
    rintro w x cs ⟨c0, c1, rfl, h0, h1⟩
    rw [List.length_append, a.K_len h0, b.K_len h1]
  K_one := by
    rintro w x cs ⟨c0, c1, rfl, h0, h1⟩ u hu
    rcases List.mem_append.1 hu with hu | hu
    · exact a.K_one h0 u hu
    · exact b.K_one h1 u hu
  K_below := by
    rintro w w1 x cs hb ⟨c0, c1, rfl, h0, h1⟩
    exact ⟨c0, c1, rfl, a.K_below hb h0, b.K_below hb h1⟩
  K_of_M := by
    rintro w base ok x cs ⟨c0, c1, rfl, h0, h1⟩
    exact ⟨c0, c1, rfl, a.K_of_M h0, b.K_of_M h1⟩
  M_mono := by
    rintro w base ok ok' x cs hok ⟨c0, c1, rfl, h0, h1⟩
    exact ⟨c0, c1, rfl, a.M_mono hok h0, b.M_mono hok h1⟩
  M_bound := by
    rintro w base ok x cs ⟨c0, c1, rfl, h0, h1⟩
    refine ⟨c0, c1, rfl, a.M_mono ?_ (a.M_bound h0), b.M_mono ?_ (b.M_bound h1)⟩
    · rintro k ⟨h2, h3, h4, q, hq, hc⟩
      exact ⟨h2, h3, h4, q, List.mem_append_left _ hq, hc⟩
    · rintro k ⟨h2, h3, h4, q, hq, hc⟩
      exact ⟨h2, h3, h4, q, List.mem_append_right _ hq, hc⟩
  M_move := by
    rintro w w1 base ok x cs hm ⟨c0, c1, rfl, h0, h1⟩
    exact ⟨c0, c1, rfl, a.M_move hm h0, b.M_move hm h1⟩
  M_lower := by
    rintro w base base' ok x cs hb ⟨c0, c1, rfl, h0, h1⟩
    exact ⟨c0, c1, rfl, a.M_lower hb h0, b.M_lower hb h1⟩
def iso {α β : Type} (d : Kd α) (f : β → α) : Kd β where
  sz := d.sz
  E := d.E
  K := fun w x cs => d.K w (f x) cs
  M := fun w base ok x cs => d.M w base ok (f x) cs
  K_len := d.K_len
  K_one := d.K_one
  K_below := d.K_below
  K_of_M := d.K_of_M
  M_mono := d.M_mono
  M_bound := d.M_bound
  M_move := d.M_move
  M_lower := d.M_lower
theorem C_get {α : Type} {d : Kd α} {w : World} {A : Option Addr} {n : Nat} {xs : List α} (h : d.C w A n xs) (z : α) (i : Int) (h0 : 0 ≤ i) (h1 : i < n) :
    ∃ ad c, A = some ad ∧ c.length = d.sz ∧ d.K w (xs.getD i.toNat z) c ∧ ∀ j u, c[j]? = some u → w.cell? (ad.add (i.toNat * d.sz + j)) = some u := ReadsRow.get_ h z i h0 h1
theorem R_appended {α : Type} {d : Kd α} {e base : Nat} {ok okp : Nat → Prop} {W w1 : World} {v v1 : Value} {xs : List α} {p : α} {inner cs : List Value} (h0 : ∀ k, v.ownBlock = some k → ok k) (hr : Reps (d.M W base (fun k => ok k ∧ some k ≠ v.ownBlock)) d.sz xs inner) (hp : d.M W base okp p cs) (hokp : ∀ k, okp k → ok k ∧ some k ≠ v.ownBlock) (hfresh : ∀ k, W.heap.size ≤ k → ok k)
    (hown : w1.ownsRow base e d.sz v1 (xs.length + 1) (inner ++ cs)) (hg : W.grownBy w1 v.ownBlock) (hat : v1.ownBlock = v.ownBlock ∨ ∃ b, v1.ownBlock = some b ∧ W.heap.size ≤ b) : d.R e w1 base ok v1 (xs ++ [p]) := by
  have hne : ∀ k, some k ≠ v.ownBlock → k < W.heap.size → some k ≠ v1.ownBlock := by
    intro k hk hlt
    rcases hat with hat | ⟨b, hb, hle⟩
    · rw [hat]; exact hk
    · rw [hb]
      intro he
      injection he with he
      omega
  have step : ∀ {q : α} {c : List Value} {o : Nat → Prop}, d.M W base o q c → (∀ k, o k → ok k ∧ some k ≠ v.ownBlock) → d.M w1 base (fun k => ok k ∧ some k ≠ v1.ownBlock) q c := by
    intro q c o hq ho
    have h1 := d.M_move (w1 := w1) (fun k hk => hg.block k hk.2.2.1 (ho k hk.1).2) (d.M_bound hq)
    exact d.M_mono (fun k hk => ⟨(ho k hk.1).1, hne k (ho k hk.1).2 hk.2.2.1⟩) h1
  refine ⟨fun k hk => ?_, inner ++ cs, by rw [List.length_append, List.length_singleton]; exact hown, ?_⟩
  · rcases hat with hat | ⟨b, hb, hle⟩
    · exact h0 k (hat ▸ hk)
    · rw [hb] at hk
      injection hk with hk
      exact hfresh k (by omega)
  · exact (hr.imp_ (fun _ _ hq => step hq (fun _ hk => hk))).snoc (step hp hokp) (d.K_len (d.K_of_M hp))
section
variable {P : Program} {ops : Array Oper} {rest : List Oper} {o : Oper} {a : Act} {Q : Exit → Act → World → Prop} {α : Type}
theorem R_append (d : Kd α) {w0 W : World} (base : Nat) (hgd : o.guard = none) (s x : Operand) (t e : TypeId) (z : Value) (bytes : Nat)
    (ho : o.op = .call { callee := .builtin .append, args := #[s, x], argTypes := #[t, t] })
    (ht : P.underlying t = some (.slice e)) (hinfo : (P.info? e).map (fun i => (i.zero, i.size, i.bytes)) = some (some z, d.sz, bytes)) (hz : z.cells.size = d.sz) (hs0 : 0 < d.sz) (hb0 : 0 < bytes)
    (v : Value) (xs : List α) (p : α) (cs : List Value) (ok okp : Nat → Prop) (hs : a.eval s = v) (hx : a.eval x = .slice (some ⟨W.heap.size, 0, none⟩) 1 1) (hp : d.M W base okp p cs) (hokp : ∀ k, okp k → ok k ∧ some k ≠ v.ownBlock) (hfresh : ∀ k, W.heap.size ≤ k → ok k)
    (HO : d.R e W base ok v xs) (HB : Below base w0 W) (hbase : base ≤ W.heap.size) (hl : (xs.length + 1) * bytes ≤ 140737488355328)
    (h : ∀ v1 w1, d.R e w1 base ok v1 (xs ++ [p]) → Below base w0 w1 → W.grownBy w1 v.ownBlock → (v1.ownBlock = v.ownBlock ∨ ∃ b, v1.ownBlock = some b ∧ W.heap.size ≤ b) → wpList P ops Q rest (a.put o.dst v1) w1) :
    wpList P ops Q (o :: rest) a (W.alloc (.cells cs.toArray e)) := by
  obtain ⟨h0, inner, hown, hr⟩ := HO
  refine print_append_cells base hgd s x t e z d.sz bytes ho ht hinfo hz hs0 hb0 v xs.length inner cs hs hx (d.K_len (d.K_of_M hp)) (d.K_one (d.K_of_M hp)) hown HB hbase hl ?_
  intro v1 w1 hown1 hb1 hg1 hat1
  exact h v1 w1 (R_appended h0 hr hp hokp hfresh hown1 hg1 hat1) hb1 hg1 hat1
end
section
variable {P : Program} {ops : Array Oper} {o : Oper} {a : Act} {Q : Exit → Act → World → Prop} {Kc : Act → World → Prop} {α : Type}
theorem R_append_step (d : Kd α) {w0 W : World} (base : Nat) (hw : Region.wanted o (yielded ops a.tmps) = true) (s x : Operand) (t e : TypeId) (z : Value) (bytes : Nat)
    (ho : o.op = .call { callee := .builtin .append, args := #[s, x], argTypes := #[t, t] })
    (ht : P.underlying t = some (.slice e)) (hinfo : (P.info? e).map (fun i => (i.zero, i.size, i.bytes)) = some (some z, d.sz, bytes)) (hz : z.cells.size = d.sz) (hs0 : 0 < d.sz) (hb0 : 0 < bytes)
    (v : Value) (xs : List α) (p : α) (cs : List Value) (ok okp : Nat → Prop) (hs : a.eval s = v) (hx : a.eval x = .slice (some ⟨W.heap.size, 0, none⟩) 1 1) (hp : d.M W base okp p cs) (hokp : ∀ k, okp k → ok k ∧ some k ≠ v.ownBlock) (hfresh : ∀ k, W.heap.size ≤ k → ok k)
    (HO : d.R e W base ok v xs) (HB : Below base w0 W) (hbase : base ≤ W.heap.size) (hl : (xs.length + 1) * bytes ≤ 140737488355328)
    (h : ∀ v1 w1, d.R e w1 base ok v1 (xs ++ [p]) → Below base w0 w1 → W.grownBy w1 v.ownBlock → (v1.ownBlock = v.ownBlock ∨ ∃ b, v1.ownBlock = some b ∧ W.heap.size ≤ b) → Kc (a.put o.dst v1) w1) :
    if Region.wanted o (yielded ops a.tmps) = true then Oper.wp P o a (W.alloc (.cells cs.toArray e)) Kc Q else Kc (a.put o.dst undef) (W.alloc (.cells cs.toArray e)) := by
  obtain ⟨h0, inner, hown, hr⟩ := HO
  refine step_append_cells base hw s x t e z d.sz bytes ho ht hinfo hz hs0 hb0 v xs.length inner cs hs hx (d.K_len (d.K_of_M hp)) (d.K_one (d.K_of_M hp)) hown HB hbase hl ?_
  intro v1 w1 hown1 hb1 hg1 hat1
  exact h v1 w1 (R_appended h0 hr hp hokp hfresh hown1 hg1 hat1) hb1 hg1 hat1
end
theorem reps_scalar {α : Type} {enc : α → Value} (xs : List α) : Reps (fun (x : α) (cs : List Value) => cs = [enc x]) 1 xs (encs enc xs) := by
  refine ⟨by simp [encs], fun j p hj => ?_⟩
  obtain ⟨hl, hp⟩ := List.getElem?_eq_some_iff.1 hj
  have hl' : j < (encs enc xs).length := by rw [encs_length]; exact hl
  rw [Nat.mul_one, List.drop_eq_getElem_cons hl']
  simp [encs, hp]
theorem R_of_own {α : Type} {enc : α → Value} {h1 : ∀ x, (enc x).oneCell' = true} {e : Nat} {w : World} {base : Nat} {ok : Nat → Prop} {v : Value} {xs : List α} (ho : w.ownsRow base e 1 v xs.length (encs enc xs)) (hok : ∀ k, v.ownBlock = some k → ok k) : (scalar enc h1).R e w base ok v xs := ⟨hok, encs enc xs, ho, reps_scalar xs⟩
theorem own_of_R {α : Type} {enc : α → Value} {h1 : ∀ x, (enc x).oneCell' = true} {e : Nat} {w : World} {base : Nat} {ok : Nat → Prop} {v : Value} {xs : List α} (h : (scalar enc h1).R e w base ok v xs) : w.ownsRow base e 1 v xs.length (encs enc xs) := by
  obtain ⟨_, inner, ho, hr⟩ := h
  have : inner = encs enc xs := by
    apply List.ext_getElem?
    intro j
    rcases Nat.lt_or_ge j xs.length with hj | hj
    · have h2 := hr.2 j _ (List.getElem?_eq_getElem hj)
      have hl : j < inner.length := by have := hr.1; simp [scalar] at this; omega
      have h3 : (inner.drop (j * 1)).take 1 = [enc xs[j]] := h2
      rw [Nat.mul_one, List.drop_eq_getElem_cons hl] at h3
      have h4 : inner[j] = enc xs[j] := by
        have h5 := congrArg List.head? h3
        rw [List.take_succ_cons] at h5
        exact Option.some.inj h5
      rw [List.getElem?_eq_getElem hl, h4]
      simp [encs, List.getElem?_eq_getElem hj]
    · have h3 : inner.length = xs.length := by have := hr.1; simp [scalar] at this; omega
      rw [List.getElem?_eq_none (by omega), List.getElem?_eq_none (by rw [encs_length]; omega)]
  rw [← this]
  exact ho
theorem reads_of_C {α : Type} {enc : α → Value} {d : α} {h1 : ∀ x, (enc x).oneCell' = true} {w : World} {A : Option Addr} {n : Nat} {xs : List α} (h : (scalar enc h1).C w A n xs) : ReadsOf enc d w A n xs := by
  refine ⟨h.1, h.2.1, fun hn => ?_⟩
  obtain ⟨ad, e, hc⟩ := h.2.2 hn
  refine ⟨ad, e, fun j hj => ?_⟩
  have hl : j < xs.length := by have := h.1; omega
  obtain ⟨c, _, hK, hcell⟩ := hc j _ (List.getElem?_eq_getElem hl)
  have hK' : c = [enc xs[j]] := hK
  subst hK'
  have := hcell 0 _ rfl
  simpa [scalar, List.getD_eq_getElem?_getD, List.getElem?_eq_getElem hl] using this
end Kd
namespace Kd
end Kd
namespace Kd
theorem R_after {α : Type} {d : Kd α} {e base : Nat} {ok : Nat → Prop} {W w1 : World} {u v v1 : Value} {xs : List α} (h : d.R e W base (fun k => ok k ∧ some k ≠ v.ownBlock) u xs) (hg : W.grownBy w1 v.ownBlock) (hat : v1.ownBlock = v.ownBlock ∨ ∃ b, v1.ownBlock = some b ∧ W.heap.size ≤ b) : d.R e w1 base (fun k => ok k ∧ some k ≠ v1.ownBlock) u xs := by
  refine R_mono (R_move (R_bound h) (fun k hk => hg.block k hk.2.2.1 hk.1.2)) (fun k hk => ⟨hk.1.1, ?_⟩)
  rcases hat with hat | ⟨b, hb, hle⟩
  · rw [hat]; exact hk.1.2
  · rw [hb]
    intro he
    injection he with he
    have := hk.2.2.1
    omega
end Kd
namespace Kd
section
variable {α β : Type} {d : Kd α} {d' : Kd β} {e e' : Nat} {w w1 W : World} {base b b' : Nat} {ok ok' okv oku : Nat → Prop} {v u : Value} {xs : List α} {ys : List β}
theorem R_drew (h : d.R e w base ok v xs) : d.R e w.drew base ok v xs := R_below h (below_drew (Below.refl _ _))
theorem R_drewN (h : d.R e w base ok v xs) (m : Nat) : d.R e (w.drewN m) base ok v xs := R_below h (pw_below_drewN (Below.refl _ _) m)
theorem C_nil (d : Kd α) (w : World) : d.C w none ([] : List α).length [] := ⟨rfl, by simp, fun h => absurd h (Nat.lt_irrefl 0)⟩
theorem R_reads' {A : Option Addr} {n c : Nat} (h : d.R e w base ok (.slice A n c) xs) : n = xs.length ∧ n ≤ c ∧ d.C w A xs.length xs := by
  obtain ⟨A', c', he, hl, hr⟩ := R_reads h
  injection he with h1 h2 h3
  subst h1
  exact ⟨h2, by omega, hr⟩
theorem R_lt (h : d.R e w base ok v xs) : ∀ k, v.ownBlock = some k → k < w.heap.size := by
  obtain ⟨inner, ho⟩ := R_own h
  exact own_lt ho
theorem R_base (h : d.R e w base ok v xs) : ∀ k, v.ownBlock = some k → base ≤ k := by
  obtain ⟨inner, ho⟩ := R_own h
  exact own_base ho
theorem R_form (h : d.R e w base ok v xs) (hp : 0 < xs.length) : ∃ g cap, v = .slice (some ⟨g, 0, none⟩) xs.length cap ∧ base ≤ g ∧ g < w.heap.size ∧ ∃ cells, w.heap[g]? = some (.cells cells e (0, 0)) := by
  obtain ⟨inner, ho⟩ := R_own h
  obtain ⟨g, cap, he, hb, hl⟩ := ho.form hp
  obtain ⟨cells, hc⟩ := own_typed ho g (by rw [he]; simp [Value.ownBlock])
  exact ⟨g, cap, he, hb, hl, cells, hc⟩
end
section
variable {w W : World} {A : Option Addr} {n : Nat}
theorem at_string {xs : List ByteArray} (h : Kd.string.C w A n xs) (i : Int) (h0 : 0 ≤ i) (h1 : i < n) : ∃ ad, A = some ad ∧ w.cell? (ad.add i.toNat) = some (.string (rdOf ByteArray.empty xs i)) :=
  ReadsOf.at_ (reads_of_C (enc := Value.string) (d := ByteArray.empty) (h1 := fun _ => rfl) h) i h0 h1
variable {α : Type} {enc : α → Value} {h1 : ∀ x, (enc x).oneCell' = true} {e base g cap : Nat} {ok : Nat → Prop} {xs : List α}
theorem R_cell (d : α) (h : (scalar enc h1).R e W base ok (.slice (some ⟨g, 0, none⟩) xs.length cap) xs) (i : Int) (h0 : 0 ≤ i) (hi : i < xs.length) : W.cell? ⟨g, i.toNat, none⟩ = some (enc (rdOf d xs i)) ∧ W.frozen? ⟨g, i.toNat, none⟩ = false := own_at_of (own_of_R h) i h0 hi
theorem R_put (h : (scalar enc h1).R e W base ok (.slice (some ⟨g, 0, none⟩) xs.length cap) xs) (i : Int) (x : α) : (scalar enc h1).R e (W.setCell ⟨g, i.toNat, none⟩ (enc x)) base ok (.slice (some ⟨g, 0, none⟩) xs.length cap) (xs.set i.toNat x) ∧ W.grownBy (W.setCell ⟨g, i.toNat, none⟩ (enc x)) (some g) := by
  obtain ⟨ho, hg⟩ := own_store_of (own_of_R h) i x
  exact ⟨R_of_own (by rw [List.length_set]; exact ho) h.1, hg⟩
end
section
variable {P : Program} {ops : Array Oper} {rest : List Oper} {o : Oper} {a : Act} {Q : Exit → Act → World → Prop}
theorem event_run {W w1 : World} {v : Value} (hgd : o.guard = none) (hrun : (execOp a.eval o).run P W = .ok (.value v) w1) (h : wpList P ops Q rest (a.put o.dst v) w1) : wpList P ops Q (o :: rest) a W := by
  refine wpList_plain hgd fun K hK => ?_
  unfold Oper.wp
  rw [hrun]
  exact hK _ _ h
variable {α : Type}
theorem R_lit (d : Kd α) {w0 W : World} (base e : Nat) (hgd : o.guard = none) {N : Tmp} (_hd : o.dst = some N) {xs : List α} {inner : List Value} {ok okp : Nat → Prop}
    (hrun : (execOp a.eval o).run P W = .ok (.value (.slice (some ⟨W.heap.size, 0, none⟩) xs.length xs.length)) (W.alloc (.cells inner.toArray e)))
    (hrep : Reps (d.M W base okp) d.sz xs inner) (hok : ∀ k, okp k → ok k) (hfresh : ok W.heap.size) (HB : Below base w0 W) (hbase : base ≤ W.heap.size) (hm : xs.length ≤ 9223372036854775807)
    (h : ∀ v1 w1, d.R e w1 base ok v1 xs → Below base w0 w1 → W.grownBy w1 none → (∃ b, v1.ownBlock = some b ∧ W.heap.size ≤ b) → wpList P ops Q rest (a.put o.dst v1) w1) : wpList P ops Q (o :: rest) a W := by
  refine event_run hgd hrun (h _ _ ⟨fun k hk => ?_, inner, ?_, ?_⟩ (HB.alloc hbase _) (World.grownBy_alloc W _ none) ⟨W.heap.size, by simp [Value.ownBlock], Nat.le_refl _⟩)
  · have : W.heap.size = k := by simpa [Value.ownBlock] using hk
    subst this
    exact hfresh
  · have h2 := World.ownsRow_lit (base := base) (e := e) (size := d.sz) W inner.toArray xs.length hbase (by simpa [maxLen] using hm) (by simpa using hrep.1)
    simpa using h2
  · refine hrep.imp_ (fun p c hp => d.M_mono (fun k hk => ⟨hok k hk.1, fun he => ?_⟩) (M_below (d.M_bound hp) (below_alloc (Below.refl _ _) _)))
    have h3 : k = W.heap.size := by simpa [Value.ownBlock] using he
    have := hk.2.2.1
    omega
theorem reps_made {α : Type} {R : α → List Value → Prop} {z : Value} {size : Nat} {z0 : α} (hz : z.cells.size = size) (hs : 0 < size) (h0 : R z0 z.cells.toList) (m : Nat) : Reps R size (List.replicate m z0) (madeCells z.cells (m * size)).toList := by
  refine ⟨by simp [size_madeCells], fun j p hj => ?_⟩
  obtain ⟨hjl, hp⟩ := List.getElem?_eq_some_iff.1 hj
  have hjm : j < m := by simpa using hjl
  have hp' : z0 = p := by simpa using hp
  subst hp'
  have hle : j * size + size ≤ m * size := by rw [← Nat.succ_mul]; exact Nat.mul_le_mul_right _ hjm
  have : ((madeCells z.cells (m * size)).toList.drop (j * size)).take size = z.cells.toList := by
    apply List.ext_getElem
    · simp [size_madeCells, hz]
      omega
    · intro i h1 h2
      have hi : i < size := by rw [Array.length_toList, hz] at h2; exact h2
      have hmod : (j * size + i) % size = i := by
        rw [Nat.mul_comm, Nat.mul_add_mod]
        exact Nat.mod_eq_of_lt hi
      simp [madeCells, hz, hmod]
      rw [getElem!_pos z.cells i (by omega)]
  rw [this]
  exact h0
theorem R_make (d : Kd α) {w0 W : World} (base e : Nat) (hgd : o.guard = none) {N : Tmp} (hd : o.dst = some N) (t : TypeId) (x y : Operand) (ho : o.op = .makeSlice t x y) (n : Int) (hx : a.eval x = .int .i64 n) (hy : a.eval y = .int .i64 n)
    (ht : P.underlying t = some (.slice e)) (z : Value) (bytes : Nat) (hinfo : (P.info? e).map (fun i => (i.zero, i.size, i.bytes)) = some (some z, d.sz, bytes)) (hz : z.cells.size = d.sz) (hs0 : 0 < d.sz) (hb0 : 0 < bytes)
    (z0 : α) {ok okp : Nat → Prop} (hzero : d.M W base okp z0 z.cells.toList) (hok : ∀ k, okp k → ok k) (hfresh : ok W.heap.size) (h0 : 0 ≤ n) (hl : n.toNat * bytes ≤ 281474976710656) (HB : Below base w0 W) (hbase : base ≤ W.heap.size)
    (h : ∀ v1 w1, d.R e w1 base ok v1 (List.replicate n.toNat z0) → Below base w0 w1 → W.grownBy w1 none → (∃ b, v1.ownBlock = some b ∧ W.heap.size ≤ b) → wpList P ops Q rest (a.put o.dst v1) w1) : wpList P ops Q (o :: rest) a W := by
  obtain ⟨m, rfl⟩ := Int.eq_ofNat_of_zero_le h0
  simp only [Int.toNat_natCast] at hl h
  obtain ⟨i0, hi, hzz⟩ := Option.map_eq_some_iff.1 hinfo
  simp only [Prod.mk.injEq] at hzz
  obtain ⟨hz0, hz1, hz2⟩ := hzz
  have hm : m ≤ 281474976710656 := Nat.le_trans (Nat.le_mul_of_pos_right _ hb0) hl
  have hr := run_make (P := P) W t e i0 z ht hi hz0 .i64 .i64 (m : Int) (m : Int) (by omega) (by omega)
    (by
      have h3 : ((i0.bytes * m : Nat) : Int) ≤ 281474976710656 := by rw [hz2, Nat.mul_comm]; omega
      rwa [Int.natCast_mul] at h3) (by omega)
  simp only [Int.toNat_natCast] at hr
  rw [hz1] at hr
  refine R_lit d base e hgd hd (xs := List.replicate m z0) (inner := (madeCells z.cells (m * d.sz)).toList) (okp := okp) (ok := ok) ?_ (reps_made hz hs0 hzero m) hok hfresh HB hbase (by simp; omega) h
  simp [execOp, ho, hx, hy, hr]
end
end Kd
theorem own_take {w : World} {base n m c size : Nat} {e : TypeId} {A : Option Addr} {xs : List Value} (h : w.ownsRow base e size (.slice A n c) n xs) (hm : m ≤ n) : w.ownsRow base e size (.slice A m c) m (xs.take (m * size)) := by
  obtain ⟨h1, h2⟩ := h
  refine ⟨by rw [List.length_take, h1]; exact Nat.min_eq_left (Nat.mul_le_mul_right _ hm), ?_⟩
  rcases h2 with ⟨he, h0⟩ | ⟨g, cap, cur, he, hb, hh, hnc, hcm, hcs, ht⟩
  · injection he with ha _ hc
    subst ha; subst hc
    exact .inl ⟨by rw [show m = 0 by omega], by omega⟩
  · injection he with ha _ hc
    subst ha; subst hc
    refine .inr ⟨g, c, cur, rfl, hb, hh, by omega, hcm, hcs, ?_⟩
    rw [← ht, List.take_take, Nat.min_eq_left (Nat.mul_le_mul_right _ hm)]
section
variable {P : Program}
theorem cut_to (t e : TypeId) (kh : IntKind) {i : TypeInfo} (ht : P.underlying t = some (.slice e)) (hi : P.info? e = some i) (A : Option Addr) (n c : Nat) (j : Int) (h0 : 0 ≤ j) (hm : j ≤ n) (hc : n ≤ c) :
    ∀ W : World, (Instr.slice t (.slice A n c) none (some (.int kh j)) none).run P W = .ok (.slice A j.toNat c) W := by
  intro W
  have hel : P.elem t = e := by simp [Program.elem, ht]
  have hu : P.underlying t = some (.slice (P.elem t)) := by rw [hel]; exact ht
  have ha : (A.map fun x => x.add 0) = A := by cases A <;> simp [Addr.add]
  rw [run_slice_h W t A n c hu kh j h0 (by omega), hel]
  simp [sizeOf, typeInfo, hi, sliced, Result.andThen, ha]
theorem cut_from (t e : TypeId) (kl : IntKind) {i : TypeInfo} (ht : P.underlying t = some (.slice e)) (hi : P.info? e = some i) (size : Nat) (hsz : i.size = size) (A : Option Addr) (n c : Nat) (j : Int) (h0 : 0 ≤ j) (hm : j ≤ n) :
    ∀ W : World, (Instr.slice t (.slice A n c) (some (.int kl j)) none none).run P W = .ok (.slice (if c = j.toNat then A else A.map (·.add (j.toNat * size))) (n - j.toNat) (c - j.toNat)) W := by
  intro W
  have hel : P.elem t = e := by simp [Program.elem, ht]
  have hu : P.underlying t = some (.slice (P.elem t)) := by rw [hel]; exact ht
  rw [run_slice_l W t A n c hu kl j h0 hm, hel]
  simp [sizeOf, typeInfo, hi, hsz, sliced, Result.andThen]
end
def QRow (w : World) (base : Nat) (e : TypeId) (size : Nat) (v : Value) (n : Nat) (xs : List Value) : Prop :=
  xs.length = n * size ∧
  ((n = 0 ∧ ∃ A, v = .slice A 0 0 ∧ ∀ a, A = some a → base ≤ a.block ∧ ∃ cur, w.heap[a.block]? = some (.cells cur e (0, 0))) ∨
   ∃ g off cap cur, v = .slice (some ⟨g, off * size, none⟩) n cap ∧ base ≤ g ∧ w.heap[g]? = some (.cells cur e (0, 0)) ∧ n ≤ cap ∧ off + cap ≤ maxLen ∧ cur.size = (off + cap) * size ∧ (cur.toList.drop (off * size)).take (n * size) = xs)
namespace Kd
theorem reps_take {α : Type} {R : α → List Value → Prop} {size m : Nat} {ps : List α} {cs : List Value} (h : Reps R size ps cs) (hm : m ≤ ps.length) : Reps R size (ps.take m) (cs.take (m * size)) := by
  refine ⟨by rw [List.length_take, List.length_take, h.1, Nat.min_eq_left hm, Nat.min_eq_left (Nat.mul_le_mul_right _ hm)], fun j p hj => ?_⟩
  rw [List.getElem?_take] at hj
  split at hj
  · rename_i hjm
    have := h.2 j p hj
    have hle : j * size + size ≤ m * size := by rw [← Nat.succ_mul]; exact Nat.mul_le_mul_right _ hjm
    rw [List.drop_take, List.take_take, Nat.min_eq_left (by omega)]
    exact this
  · cases hj
theorem R_take {α : Type} {d : Kd α} {e m n c : Nat} {w : World} {base : Nat} {ok : Nat → Prop} {A : Option Addr} {xs : List α} (h : d.R e w base ok (.slice A n c) xs) (hm : m ≤ xs.length) : d.R e w base ok (.slice A m c) (xs.take m) := by
  obtain ⟨h0, inner, ho, hr⟩ := h
  have hn : n = xs.length := by
    obtain ⟨A', c', he⟩ := own_slice ho
    injection he
  subst hn
  have hb : ∀ x y : Nat, (Value.slice A x c).ownBlock = (Value.slice A y c).ownBlock := by
    intro x y
    cases A <;> rfl
  refine ⟨fun k hk => h0 k (by rw [hb _ m]; exact hk), inner.take (m * d.sz), ?_, ?_⟩
  · rw [List.length_take, Nat.min_eq_left hm]
    exact own_take ho hm
  · rw [hb m xs.length]
    exact reps_take hr hm
def Q {α : Type} (d : Kd α) (e : Nat) (w : World) (base : Nat) (ok : Nat → Prop) (v : Value) (xs : List α) : Prop :=
  (∀ k, v.ownBlock = some k → ok k) ∧ ∃ inner, QRow w base e d.sz v xs.length inner ∧ Reps (d.M w base (fun k => ok k ∧ some k ≠ v.ownBlock)) d.sz xs inner
end Kd
namespace Kd
section
variable {α : Type} {d : Kd α} {e e' : Nat} {w w1 W : World} {base : Nat} {ok : Nat → Prop} {u v : Value} {xs : List α}
theorem R_elder' (hu : d.R e W base ok u xs) (hbase : ∀ k, v.ownBlock = some k → W.heap.size ≤ k) (hb : Below W.heap.size W w1) : d.R e w1 base (fun k => ok k ∧ some k ≠ v.ownBlock) u xs :=
  R_mono (R_move (R_bound hu) (fun k hk => hb.block k hk.2.2.1)) (fun k hk => ⟨hk.1, fun he => by have := hbase k he.symm; have := hk.2.2.1; omega⟩)
theorem R_new' (h : d.R e w1 W.heap.size ok v xs) (hlt : ∀ k, u.ownBlock = some k → k < W.heap.size) : d.R e w1 W.heap.size (fun k => ok k ∧ some k ≠ u.ownBlock) v xs :=
  R_mono (R_bound h) (fun k hk => ⟨hk.1, fun he => by have := hlt k he.symm; have := hk.2.1; omega⟩)
theorem fresh' (hlt : ∀ k, u.ownBlock = some k → k < W.heap.size) : ∀ k, W.heap.size ≤ k → some k ≠ u.ownBlock := fun k hk he => by have := hlt k he.symm; omega
end
end Kd
namespace Kd
end Kd
namespace Kd
end Kd
namespace Kd
theorem reps_append {α : Type} {R : α → List Value → Prop} {size : Nat} {ps qs : List α} {cs ds : List Value} (h : Reps R size ps cs) (h' : Reps R size qs ds) : Reps R size (ps ++ qs) (cs ++ ds) := by
  refine ⟨by rw [List.length_append, List.length_append, h.1, h'.1, Nat.add_mul], fun j p hj => ?_⟩
  rcases Nat.lt_or_ge j ps.length with hlt | hge
  · rw [List.getElem?_append_left hlt] at hj
    have hle : j * size + size ≤ cs.length := by rw [h.1, ← Nat.succ_mul]; exact Nat.mul_le_mul_right _ hlt
    rw [List.drop_append_of_le_length (by omega), List.take_append_of_le_length (by rw [List.length_drop]; omega)]
    exact h.2 j p hj
  · rw [List.getElem?_append_right hge] at hj
    have h2 := h'.2 (j - ps.length) p hj
    have hle : ps.length * size ≤ j * size := Nat.mul_le_mul_right _ hge
    rw [List.drop_append, List.drop_eq_nil_of_le (by rw [h.1]; exact hle), List.nil_append, h.1, ← Nat.sub_mul]
    exact h2
section
variable {P : Program} {ops : Array Oper} {rest : List Oper} {o : Oper} {a : Act} {Q : Exit → Act → World → Prop} {α : Type}
theorem R_append_rows (d : Kd α) {Rr : α → List Value → Prop} {w0 W : World} (base : Nat) (hgd : o.guard = none) (s x : Operand) (t e : TypeId) (z : Value) (bytes : Nat)
    (ho : o.op = .call { callee := .builtin .append, args := #[s, x], argTypes := #[t, t] })
    (ht : P.underlying t = some (.slice e)) (hinfo : (P.info? e).map (fun i => (i.zero, i.size, i.bytes)) = some (some z, d.sz, bytes)) (hz : z.cells.size = d.sz) (hs0 : 0 < d.sz) (hb0 : 0 < bytes)
    (v : Value) (xs ys : List α) (A : Option Addr) (m c : Nat) (ok okp : Nat → Prop) (hs : a.eval s = v) (hx : a.eval x = .slice A m c)
    (HO : d.R e W base ok v xs) (HR : ReadsRow Rr d.sz W A m ys) (hKM : ∀ x cs, Rr x cs → d.M W base okp x cs) (hokp : ∀ k, okp k → ok k ∧ some k ≠ v.ownBlock) (hfresh : ∀ k, W.heap.size ≤ k → ok k)
    (HB : Below base w0 W) (hbase : base ≤ W.heap.size) (hl : (xs.length + m) * bytes ≤ 140737488355328)
    (h : ∀ v1 w1, d.R e w1 base ok v1 (xs ++ ys) → Below base w0 w1 → W.grownBy w1 v.ownBlock → (v1.ownBlock = v.ownBlock ∨ ∃ b, v1.ownBlock = some b ∧ W.heap.size ≤ b) → wpList P ops Q rest (a.put o.dst v1) w1) :
    wpList P ops Q (o :: rest) a W := by
  obtain ⟨i0, hi, hzz⟩ := Option.map_eq_some_iff.1 hinfo
  simp only [Prod.mk.injEq] at hzz
  obtain ⟨hz0, hz1, hz2⟩ := hzz
  have hm : ys.length = m := HR.1
  have hlen : xs.length + m ≤ 140737488355328 := Nat.le_trans (Nat.le_mul_of_pos_right _ hb0) hl
  obtain ⟨hok, inner, hown, hr⟩ := HO
  have hrun : ∃ v1 w1, (Builtin.append_ #[t, t] o.type #[v, .slice A m c]).run P W = .ok v1 w1 ∧ d.R e w1 base ok v1 (xs ++ ys) ∧ W.grownBy w1 v.ownBlock ∧ (v1.ownBlock = v.ownBlock ∨ ∃ b, v1.ownBlock = some b ∧ W.heap.size ≤ b) := by
    rcases A with _ | ad
    · have h0 : m = 0 := by
        rcases Nat.eq_zero_or_pos m with h0 | h0
        · exact h0
        · obtain ⟨ad, h, _⟩ := HR.2.2 h0
          cases h
      subst h0
      obtain rfl : ys = [] := List.eq_nil_of_length_eq_zero hm
      refine ⟨v, W, ?_, by rw [List.append_nil]; exact ⟨hok, inner, hown, hr⟩, World.grownBy.refl W _, .inl rfl⟩
      rcases hown.2 with ⟨rfl, hn⟩ | ⟨g, cap, cur, rfl, _, _, hnc, _⟩
      · simp [Builtin.append_, run_underlying ht, sizeOf, typeInfo, hi, Builtin.lenOf, Builtin.firstCells]
      · simp [Builtin.append_, run_underlying ht, sizeOf, typeInfo, hi, Builtin.lenOf, Builtin.firstCells, hnc, storeCells]
    · obtain ⟨news, hnr, hnc⟩ := ReadsRow.inner_ HR
      have hnM : Reps (d.M W base okp) d.sz ys news := hnr.imp_ (fun p c hp => hKM p c hp)
      have hone : ∀ u ∈ news, u.oneCell' = true := by
        intro u hu
        obtain ⟨q, hq, rfl⟩ := List.mem_iff_getElem.1 hu
        have hql : q / d.sz < ys.length := by
          rw [Nat.div_lt_iff_lt_mul hs0]
          rw [← hnM.1]
          exact hq
        have hc := hnM.2 (q / d.sz) _ (List.getElem?_eq_getElem hql)
        refine d.K_one (d.K_of_M hc) _ ?_
        rw [List.mem_iff_getElem?]
        refine ⟨q % d.sz, ?_⟩
        rw [List.getElem?_take, if_pos (Nat.mod_lt _ hs0), List.getElem?_drop, Nat.mul_comm, Nat.div_add_mod, List.getElem?_eq_getElem hq]
      obtain ⟨v1, w1, hrun, h2, hg, _, hat⟩ := run_append_own_at (P := P) W base t o.type e i0 z d.sz bytes ht hi hz0 hz1 hz2 hz hs0 v xs.length inner hown ad m c news (by rw [hnM.1, hm]) hnc hone (by simp only [maxLen]; omega) hl hbase
      have hat' : v1.ownBlock = v.ownBlock ∨ ∃ b, v1.ownBlock = some b ∧ W.heap.size ≤ b := by
        rcases hat with hat | hat
        · exact .inl hat
        · exact .inr ⟨_, hat, Nat.le_refl _⟩
      have hne : ∀ k, some k ≠ v.ownBlock → k < W.heap.size → some k ≠ v1.ownBlock := by
        intro k hk hlt
        rcases hat' with hat | ⟨b, hb, hle⟩
        · rw [hat]; exact hk
        · rw [hb]
          intro he
          injection he with he
          omega
      have step : ∀ {q : α} {c : List Value} {o : Nat → Prop}, d.M W base o q c → (∀ k, o k → ok k ∧ some k ≠ v.ownBlock) → d.M w1 base (fun k => ok k ∧ some k ≠ v1.ownBlock) q c := by
        intro q c o hq ho
        have h1 := d.M_move (w1 := w1) (fun k hk => hg.block k hk.2.2.1 (ho k hk.1).2) (d.M_bound hq)
        exact d.M_mono (fun k hk => ⟨(ho k hk.1).1, hne k (ho k hk.1).2 hk.2.2.1⟩) h1
      refine ⟨v1, w1, hrun, ⟨fun k hk => ?_, inner ++ news, by rw [List.length_append, hm]; exact h2, reps_append (hr.imp_ (fun _ _ hq => step hq (fun _ hk => hk))) (hnM.imp_ (fun _ _ hq => step hq hokp))⟩, hg, hat'⟩
      rcases hat' with hat | ⟨b, hb, hle⟩
      · exact hok k (hat ▸ hk)
      · rw [hb] at hk
        injection hk with hk
        exact hfresh k (by omega)
  obtain ⟨v1, w1, hr1, h1, hg, hat⟩ := hrun
  refine wpList_plain hgd fun K hK => ?_
  unfold Oper.wp execOp
  simp only [ho, resolve, invoke, builtin, Sem.run_bind, Sem.run_pure, Result.andThen_ok, List.map_toArray, List.map_cons, List.map_nil, hs, hx, hr1]
  exact hK _ _ (h v1 w1 h1 (HB.grown hg hbase (own_base hown)) hg hat)
end
end Kd
namespace Kd
end Kd
theorem add_add (a : Addr) (i j : Nat) : (a.add i).add j = a.add (i + j) := by
  unfold Addr.add
  by_cases h1 : i = 0 <;> by_cases h2 : j = 0 <;> simp [h1, h2, Nat.add_assoc]
namespace Kd
section
variable {α : Type} {k : Kd α} {w : World} {A : Option Addr} {xs : List α} {m c : Nat}
theorem C_take (h : k.C w A xs.length xs) (hm : m ≤ xs.length) : k.C w A (xs.take m).length (xs.take m) := by
  have hl : (xs.take m).length = m := by rw [List.length_take]; omega
  refine ⟨rfl, by rw [hl]; have := h.2.1; omega, fun hp => ?_⟩
  obtain ⟨ad, e, hc⟩ := h.2.2 (by omega)
  refine ⟨ad, e, fun j p hj => hc j p ?_⟩
  rw [List.getElem?_take] at hj
  split at hj
  · exact hj
  · cases hj
theorem C_drop (h : k.C w A xs.length xs) (hm : m ≤ xs.length) (hc : xs.length ≤ c) : k.C w (if c = m then A else A.map (·.add (m * k.sz))) (xs.drop m).length (xs.drop m) := by
  have hl : (xs.drop m).length = xs.length - m := List.length_drop
  refine ⟨rfl, by rw [hl]; have := h.2.1; omega, fun hp => ?_⟩
  rw [hl] at hp
  obtain ⟨ad, rfl, hcell⟩ := h.2.2 (by omega)
  rw [if_neg (by omega)]
  refine ⟨ad.add (m * k.sz), rfl, fun j p hj => ?_⟩
  rw [List.getElem?_drop] at hj
  obtain ⟨cs, h1, h2, h3⟩ := hcell (m + j) p hj
  refine ⟨cs, h1, h2, fun i u hu => ?_⟩
  rw [add_add, show m * k.sz + (j * k.sz + i) = (m + j) * k.sz + i by rw [Nat.add_mul]; omega]
  exact h3 i u hu
theorem C_mid {lo hi : Nat} (h : k.C w A xs.length xs) (h1 : lo ≤ hi) (h2 : hi ≤ xs.length) (hc : xs.length ≤ c) : k.C w (if c = lo then A else A.map (·.add (lo * k.sz))) ((xs.take hi).drop lo).length ((xs.take hi).drop lo) := by
  have hl : (xs.take hi).length = hi := by rw [List.length_take]; omega
  exact C_drop (C_take h h2) (by omega) (by omega)
end
end Kd
section
variable {P : Program}
theorem cut_mid (t e : TypeId) (kl kh : IntKind) {i : TypeInfo} (ht : P.underlying t = some (.slice e)) (hi : P.info? e = some i) (size : Nat) (hsz : i.size = size) (A : Option Addr) (n c : Nat) (lo hi' : Int) (h0 : 0 ≤ lo) (h1 : lo ≤ hi') (h2 : hi' ≤ n) (hc : n ≤ c) :
    ∀ W : World, (Instr.slice t (.slice A n c) (some (.int kl lo)) (some (.int kh hi')) none).run P W = .ok (.slice (if c = lo.toNat then A else A.map (·.add (lo.toNat * size))) (hi'.toNat - lo.toNat) (c - lo.toNat)) W := by
  intro W
  have hel : P.elem t = e := by simp [Program.elem, ht]
  have hu : P.underlying t = some (.slice (P.elem t)) := by rw [hel]; exact ht
  rw [run_slice_lh W t A n c hu kl kh lo hi' h0 h1 (by omega), hel]
  simp [sizeOf, typeInfo, hi, hsz, sliced, Result.andThen]
end
theorem string_of_reads {P : Program} {w : World} {src dst e : TypeId} {A : Option Addr} {n c : Nat} {xs : List Int} (hs : P.underlying src = some (.slice e)) (he : P.underlying e = some (.int .u8)) (hd : P.underlying dst = some .string)
    (h : ReadsInt w .u8 A n xs) : (convert src dst (.slice A n c)).run P w = .ok (.string (strOfNums xs)) w := by
  have hn : xs.length = n := h.1
  rcases A with _ | ad
  · have h0 : n = 0 := by
      rcases Nat.eq_zero_or_pos n with h0 | h0
      · exact h0
      · obtain ⟨ad, h', _⟩ := h.2.2 h0
        cases h'
    subst h0
    obtain rfl : xs = [] := List.eq_nil_of_length_eq_zero hn
    exact run_convert_bytes_nil w src e hs he 0 c dst hd
  · have hl : (loadCells ad n).run P w = .ok (xs.map (Value.int .u8)).toArray w := by
      have := run_loadCells_list (P := P) w ad (xs.map (Value.int .u8)) (fun j v hj => by
        have hjl : j < xs.length := by
          rcases Nat.lt_or_ge j xs.length with h' | h'
          · exact h'
          · rw [List.getElem?_eq_none (by rw [List.length_map]; exact h')] at hj
            cases hj
        obtain ⟨ad', he', hc⟩ := h.2.2 (by omega)
        injection he' with he'
        subst he'
        rw [hc j (by omega)]
        rw [List.getElem?_map, List.getElem?_eq_getElem hjl] at hj
        simp at hj
        subst hj
        simp [List.getD_eq_getElem?_getD, List.getElem?_eq_getElem hjl])
      simpa [hn] using this
    rw [run_convert_bytes_string w src dst e _ n c hs he hd, run_bytesToString w ad n c xs hl, foldl_push_bytes]
    simp [strOfNums, ByteArray.empty, ByteArray.emptyWithCapacity]
    rfl
theorem Kd.C_string {P : Program} {w : World} {src dst e : TypeId} {A : Option Addr} {n c : Nat} {xs : List Int} (hs : P.underlying src = some (.slice e)) (he : P.underlying e = some (.int .u8)) (hd : P.underlying dst = some .string)
    (h : (Kd.int .u8).C w A n xs) : (convert src dst (.slice A n c)).run P w = .ok (.string (strOfNums xs)) w :=
  string_of_reads hs he hd (Kd.reads_of_C (enc := Value.int .u8) (d := (0 : Int)) (h1 := fun _ => rfl) h)
theorem below_size {w W : World} (h : Below w.heap.size w W) : w.heap.size ≤ W.heap.size := h.size
theorem below_step {w W w2 : World} (h : Below w.heap.size w W) (k : Below W.heap.size W w2) : Below w.heap.size w w2 := below_then h h.size k
theorem below_set {w W : World} {g j : Nat} {v : Value} (h : Below w.heap.size w W) (hg : w.heap.size ≤ g) : Below w.heap.size w (W.setCell ⟨g, j, none⟩ v) := h.setCell hg _
theorem blk_put {w : World} {g : Nat} {t : TypeId} {cs cs' : Array Value} (h : w.heap[g]? = some (.cells cs t (0, 0))) (i : Nat) (u : Value) (e : cs.setIfInBounds i u = cs') : (w.setCell ⟨g, i, none⟩ u).heap[g]? = some (.cells cs' t (0, 0)) := e ▸ blk_set h i u
theorem below_drew1 {base : Nat} {w W : World} (h : Below base w W) : Below base w W.drew := h.drew
namespace Kd
end Kd
namespace Kd
end Kd
section
variable {P : Program} {ops : Array Oper} {rest : List Oper} {o : Oper} {a : Act} {Q : Exit → Act → World → Prop}
theorem box_event {W : World} (hgd : o.guard = none) {N : Tmp} (_hd : o.dst = some N) {cs : Array Value} {t : TypeId}
    (hrun : (execOp a.eval o).run P W = .ok (.value (.pointer (some ⟨W.heap.size, 0, none⟩))) (W.alloc (.cells cs t (0, 0))))
    (h : ∀ g, g = W.heap.size → ∀ w1, w1.heap[g]? = some (.cells cs t (0, 0)) → Below W.heap.size W w1 → wpList P ops Q rest (a.put o.dst (.pointer (some ⟨g, 0, none⟩))) w1) : wpList P ops Q (o :: rest) a W :=
  Kd.event_run hgd hrun (h _ rfl _ (blk_new W _) (below_alloc (Below.refl _ _) _))
end
namespace Kd
section
variable {α : Type} {enc : α → Value} {h1 : ∀ x, (enc x).oneCell' = true} {e base g n cap : Nat} {ok : Nat → Prop} {W : World} {xs : List α}
theorem R_celln (d : α) (h : (scalar enc h1).R e W base ok (.slice (some ⟨g, 0, none⟩) n cap) xs) (i : Int) (h0 : 0 ≤ i) (hi : i < n) : W.cell? ⟨g, i.toNat, none⟩ = some (enc (rdOf d xs i)) ∧ W.frozen? ⟨g, i.toNat, none⟩ = false := by
  obtain ⟨rfl, _⟩ := R_reads' h
  exact R_cell d h i h0 hi
end
end Kd
section
variable {P : Program} {ops : Array Oper} {rest : List Oper} {o : Oper} {a : Act} {Q : Exit → Act → World → Prop}
theorem store_event {W w1 : World} (hgd : o.guard = none) {t : TypeId} {p : Tmp} {v : Operand} (_ho : o.op = .store t (.tmp p) v) (hN : o.dst = none)
    (hrun : (execOp a.eval o).run P W = .ok .skip w1) (h : ∀ w', w' = w1 → wpList P ops Q rest a w') : wpList P ops Q (o :: rest) a W := by
  refine wpList_plain hgd fun K hK => ?_
  unfold Oper.wp
  rw [hrun]
  show K (a.put o.dst undef) w1
  rw [hN]
  exact hK _ _ (h _ rfl)
end
namespace Kd
section
variable {α : Type} {enc : α → Value} {h1 : ∀ x, (enc x).oneCell' = true} {e base g n cap : Nat} {ok : Nat → Prop} {W : World} {xs : List α}
theorem R_putg (h : (scalar enc h1).R e W base ok (.slice (some ⟨g, 0, none⟩) n cap) xs) (i : Int) (x : α) : (scalar enc h1).R e (W.setCell ⟨g, i.toNat, none⟩ (enc x)) base ok (.slice (some ⟨g, 0, none⟩) n cap) (xs.set i.toNat x) ∧ W.grownBy (W.setCell ⟨g, i.toNat, none⟩ (enc x)) (some g) := by
  obtain ⟨rfl, _⟩ := R_reads' h
  exact R_put h i x
end
end Kd
section
variable {P : Program} {ops : Array Oper} {rest : List Oper} {o : Oper} {a : Act} {Q : Exit → Act → World → Prop} {W : World}
theorem gate_dst {N : Tmp} (_hN : o.dst = some N) (h : wpList P ops Q (o :: rest) a W) : wpList P ops Q (o :: rest) a W := h
theorem gate_store {t : TypeId} {p : Tmp} {v : Operand} (_ho : o.op = .store t (.tmp p) v) (h : wpList P ops Q (o :: rest) a W) : wpList P ops Q (o :: rest) a W := h
end
section
variable {P : Program} {ops : Array Oper} {o : Oper} {a : Act} {Q : Exit → Act → World → Prop} {Kc : Act → World → Prop}
theorem event_step {W w1 : World} {v : Value} (hw : Region.wanted o (yielded ops a.tmps) = true) (hrun : (execOp a.eval o).run P W = .ok (.value v) w1) (h : Kc (a.put o.dst v) w1) : if Region.wanted o (yielded ops a.tmps) = true then Oper.wp P o a W Kc Q else Kc (a.put o.dst undef) W := by
  rw [if_pos hw]
  unfold Oper.wp
  rw [hrun]
  exact h
theorem box_step {W : World} (hw : Region.wanted o (yielded ops a.tmps) = true) {N : Tmp} (_hd : o.dst = some N) {cs : Array Value} {t : TypeId}
    (hrun : (execOp a.eval o).run P W = .ok (.value (.pointer (some ⟨W.heap.size, 0, none⟩))) (W.alloc (.cells cs t (0, 0))))
    (h : ∀ g, g = W.heap.size → ∀ w1, w1.heap[g]? = some (.cells cs t (0, 0)) → Below W.heap.size W w1 → Kc (a.put o.dst (.pointer (some ⟨g, 0, none⟩))) w1) : if Region.wanted o (yielded ops a.tmps) = true then Oper.wp P o a W Kc Q else Kc (a.put o.dst undef) W :=
  event_step hw hrun (h _ rfl _ (blk_new W _) (below_alloc (Below.refl _ _) _))
namespace Kd
variable {α : Type}
theorem R_append_rows_step (d : Kd α) {Rr : α → List Value → Prop} {w0 W : World} (base : Nat) (hw : Region.wanted o (yielded ops a.tmps) = true) (s x : Operand) (t e : TypeId) (z : Value) (bytes : Nat)
    (ho : o.op = .call { callee := .builtin .append, args := #[s, x], argTypes := #[t, t] })
    (ht : P.underlying t = some (.slice e)) (hinfo : (P.info? e).map (fun i => (i.zero, i.size, i.bytes)) = some (some z, d.sz, bytes)) (hz : z.cells.size = d.sz) (hs0 : 0 < d.sz) (hb0 : 0 < bytes)
    (v : Value) (xs ys : List α) (A : Option Addr) (m c : Nat) (ok okp : Nat → Prop) (hs : a.eval s = v) (hx : a.eval x = .slice A m c)
    (HO : d.R e W base ok v xs) (HR : ReadsRow Rr d.sz W A m ys) (hKM : ∀ x cs, Rr x cs → d.M W base okp x cs) (hokp : ∀ k, okp k → ok k ∧ some k ≠ v.ownBlock) (hfresh : ∀ k, W.heap.size ≤ k → ok k)
    (HB : Below base w0 W) (hbase : base ≤ W.heap.size) (hl : (xs.length + m) * bytes ≤ 140737488355328)
    (h : ∀ v1 w1, d.R e w1 base ok v1 (xs ++ ys) → Below base w0 w1 → W.grownBy w1 v.ownBlock → (v1.ownBlock = v.ownBlock ∨ ∃ b, v1.ownBlock = some b ∧ W.heap.size ≤ b) → Kc (a.put o.dst v1) w1) :
    if Region.wanted o (yielded ops a.tmps) = true then Oper.wp P o a W Kc Q else Kc (a.put o.dst undef) W := by
  obtain ⟨i0, hi, hzz⟩ := Option.map_eq_some_iff.1 hinfo
  simp only [Prod.mk.injEq] at hzz
  obtain ⟨hz0, hz1, hz2⟩ := hzz
  have hm : ys.length = m := HR.1
  have hlen : xs.length + m ≤ 140737488355328 := Nat.le_trans (Nat.le_mul_of_pos_right _ hb0) hl
  obtain ⟨hok, inner, hown, hr⟩ := HO
  have hrun : ∃ v1 w1, (Builtin.append_ #[t, t] o.type #[v, .slice A m c]).run P W = .ok v1 w1 ∧ d.R e w1 base ok v1 (xs ++ ys) ∧ W.grownBy w1 v.ownBlock ∧ (v1.ownBlock = v.ownBlock ∨ ∃ b, v1.ownBlock = some b ∧ W.heap.size ≤ b) := by
    rcases A with _ | ad
    · have h0 : m = 0 := by
        rcases Nat.eq_zero_or_pos m with h0 | h0
        · exact h0
        · obtain ⟨ad, h, _⟩ := HR.2.2 h0
          cases h
      subst h0
      obtain rfl : ys = [] := List.eq_nil_of_length_eq_zero hm
      refine ⟨v, W, ?_, by rw [List.append_nil]; exact ⟨hok, inner, hown, hr⟩, World.grownBy.refl W _, .inl rfl⟩
      rcases hown.2 with ⟨rfl, hn⟩ | ⟨g, cap, cur, rfl, _, _, hnc, _⟩
      · simp [Builtin.append_, run_underlying ht, sizeOf, typeInfo, hi, Builtin.lenOf, Builtin.firstCells]
      · simp [Builtin.append_, run_underlying ht, sizeOf, typeInfo, hi, Builtin.lenOf, Builtin.firstCells, hnc, storeCells]
    · obtain ⟨news, hnr, hnc⟩ := ReadsRow.inner_ HR
      have hnM : Reps (d.M W base okp) d.sz ys news := hnr.imp_ (fun p c hp => hKM p c hp)
      have hone : ∀ u ∈ news, u.oneCell' = true := by
        intro u hu
        obtain ⟨q, hq, rfl⟩ := List.mem_iff_getElem.1 hu
        have hql : q / d.sz < ys.length := by
          rw [Nat.div_lt_iff_lt_mul hs0]
          rw [← hnM.1]
          exact hq
        have hc := hnM.2 (q / d.sz) _ (List.getElem?_eq_getElem hql)
        refine d.K_one (d.K_of_M hc) _ ?_
        rw [List.mem_iff_getElem?]
        refine ⟨q % d.sz, ?_⟩
        rw [List.getElem?_take, if_pos (Nat.mod_lt _ hs0), List.getElem?_drop, Nat.mul_comm, Nat.div_add_mod, List.getElem?_eq_getElem hq]
      obtain ⟨v1, w1, hrun, h2, hg, _, hat⟩ := run_append_own_at (P := P) W base t o.type e i0 z d.sz bytes ht hi hz0 hz1 hz2 hz hs0 v xs.length inner hown ad m c news (by rw [hnM.1, hm]) hnc hone (by simp only [maxLen]; omega) hl hbase
      have hat' : v1.ownBlock = v.ownBlock ∨ ∃ b, v1.ownBlock = some b ∧ W.heap.size ≤ b := by
        rcases hat with hat | hat
        · exact .inl hat
        · exact .inr ⟨_, hat, Nat.le_refl _⟩
      have hne : ∀ k, some k ≠ v.ownBlock → k < W.heap.size → some k ≠ v1.ownBlock := by
        intro k hk hlt
        rcases hat' with hat | ⟨b, hb, hle⟩
        · rw [hat]; exact hk
        · rw [hb]
          intro he
          injection he with he
          omega
      have step : ∀ {q : α} {c : List Value} {o : Nat → Prop}, d.M W base o q c → (∀ k, o k → ok k ∧ some k ≠ v.ownBlock) → d.M w1 base (fun k => ok k ∧ some k ≠ v1.ownBlock) q c := by
        intro q c o hq ho
        have h1 := d.M_move (w1 := w1) (fun k hk => hg.block k hk.2.2.1 (ho k hk.1).2) (d.M_bound hq)
        exact d.M_mono (fun k hk => ⟨(ho k hk.1).1, hne k (ho k hk.1).2 hk.2.2.1⟩) h1
      refine ⟨v1, w1, hrun, ⟨fun k hk => ?_, inner ++ news, by rw [List.length_append, hm]; exact h2, reps_append (hr.imp_ (fun _ _ hq => step hq (fun _ hk => hk))) (hnM.imp_ (fun _ _ hq => step hq hokp))⟩, hg, hat'⟩
      rcases hat' with hat | ⟨b, hb, hle⟩
      · exact hok k (hat ▸ hk)
      · rw [hb] at hk
        injection hk with hk
        exact hfresh k (by omega)
  obtain ⟨v1, w1, hr1, h1, hg, hat⟩ := hrun
  rw [if_pos hw]
  unfold Oper.wp execOp
  simp only [ho, resolve, invoke, builtin, Sem.run_bind, Sem.run_pure, Result.andThen_ok, List.map_toArray, List.map_cons, List.map_nil, hs, hx, hr1]
  exact h v1 w1 h1 (HB.grown hg hbase (own_base hown)) hg hat
end Kd
end
inductive Vals (P : Program) (tmps : Array Value) (w : World) : List ResultVar → List Value → Prop where
  | nil : Vals P tmps w [] []
  | tmp {u : Tmp} {rs : List ResultVar} {vs : List Value} (h : Vals P tmps w rs vs) : Vals P tmps w (.tmp u :: rs) (tmps.getD u undef :: vs)
  | cell {p : Tmp} {ty : TypeId} {rs : List ResultVar} {vs : List Value} (g : Nat) (t : TypeId) (cs : Array Value) (fr : Nat × Nat) (d : TypeDesc)
      (hp : tmps.getD p undef = .pointer (some ⟨g, 0, none⟩)) (hg : w.heap[g]? = some (.cells cs t fr))
      (hu : P.underlying ty = some d) (hd : (match d with | .struct _ | .array _ _ => true | _ => false) = true) (hi : (P.info? ty).map (·.size) = some cs.size)
      (h : Vals P tmps w rs vs) : Vals P tmps w (.cell p ty :: rs) (.agg cs :: vs)
section
variable {P : Program} {tmps : Array Value} {w : World}
theorem vals_run {rs : List ResultVar} {vs : List Value} (hv : Vals P tmps w rs vs) (f : ResultVar → Sem Value) (hf : ∀ u, f (.tmp u) = pure (tmps.getD u undef)) (hc : ∀ a t, f (.cell a t) = (do loadVar t (← asAddr (tmps.getD a undef)))) :
    (rs.mapM f).run P w = .ok vs w := by
  induction hv with
  | nil => simp
  | tmp h ih => simp [List.mapM_cons, hf, ih]
  | cell g t cs fr d hp hg hu hd hi h ih =>
    rw [List.mapM_cons, hc, hp]
    simp [asAddr, run_loadVar_row w g t _ cs fr d hg hu hd hi, ih]
theorem results_list {fn : Func} {rs : List ResultVar} {vs : List Value} (h : fn.results = rs.toArray) (hl : vs.length ≠ 1) (hv : Vals P tmps w rs vs) : (results fn tmps).run P w = .ok (.tuple vs.toArray) w := by
  unfold results
  rw [h, List.mapM_toArray]
  simp only [Sem.run_bind, Sem.run_map]
  rw [vals_run hv]
  · simp [hl]
  · intro u
    rfl
  · intro a t
    rfl
end
namespace Kd
end Kd
end Go.Proofs.YthaoaaboempajabW.PrintWords
/-- n bits of k. -/
def Go.Proofs.Ythaoaaboempajab.flg (n k : Nat) : Array Bool := ((List.range n).map (fun i => k.testBit i)).toArray
namespace Go.Proofs.YthaoaaboempajabO
open Go.RowKit Go.Proofs.YthaoaaboempajabW.PrintWords Go.ChangeShapes Go.WideShapes
set_option linter.unusedVariables false
def Opens {α : Type} (P : Program) (t : TypeId) (d : Kd α) (good : α → Prop) : Prop :=
  ∀ (H : Type) (enc : TypeId × Value → H) (w : World) (base : Nat) (spare : Nat → Bool) (held : Bool) (fuel : Nat) (cs : List Value) (x : DataW H × List MemPlace),
    DataW.trod enc P w base spare held fuel t cs = some x → (∀ n ∈ x.1.weights P t, n ≤ reachBytes) → ∃ y, d.K w y cs ∧ good y
theorem reach_is : reachBytes = 140737488351232 := by decide
section
variable {P : Program} {t : TypeId}
theorem opens_int {k : IntKind} (ht : P.underlying t = some (.int k)) : Opens P t (Kd.int k) (fun n => (Lit.int k n).wf = true) := by
  intro H enc w base spare held fuel cs x h hw
  obtain ⟨n, rfl, _, hn⟩ := DataW.trod_int ht h
  exact ⟨n, rfl, hn⟩
theorem opens_string (ht : P.underlying t = some .string) : Opens P t Kd.string (fun s => s.size ≤ 140737488351232) := by
  intro H enc w base spare held fuel cs x h hw
  obtain ⟨s, rfl, rfl, hs⟩ := DataW.trod_string ht h
  have hz := hw s.data.toList.length (by simp [DataW.weights])
  rw [reach_is, Array.length_toList] at hz
  exact ⟨s, rfl, hz⟩
theorem list_of {α : Type} {Q : Nat → α → Prop} : ∀ n, (∀ i, i < n → ∃ y, Q i y) → ∃ l : List α, l.length = n ∧ ∀ i y, l[i]? = some y → Q i y
  | 0, _ => ⟨[], rfl, by simp⟩
  | n + 1, h => by
    obtain ⟨l, hl, hq⟩ := list_of n (fun i hi => h i (by omega))
    obtain ⟨y, hy⟩ := h n (by omega)
    refine ⟨l ++ [y], by simp [hl], fun i z hz => ?_⟩
    by_cases hi : i < n
    · rw [List.getElem?_append_left (by omega)] at hz
      exact hq i z hz
    · have hlt : i < n + 1 := by
        have := (List.getElem?_eq_some_iff.1 hz).1
        simp at this
        omega
      obtain rfl : i = n := by omega
      rw [List.getElem?_append_right (by omega), hl] at hz
      simp at hz
      exact hz ▸ hy
theorem opens_slice {α : Type} {e : TypeId} {d : Kd α} {good : α → Prop} (ht : P.underlying t = some (.slice e)) {B : Nat} (hB : P.bytesOf e = B) (hc : P.cellsOf e = d.sz) (he : Opens P e d good) :
    Opens P t (Kd.slice e d) (fun l => l.length * B ≤ 140737488351232 ∧ ∀ y ∈ l, good y) := by
  intro H enc w base spare held fuel cs x h hw
  rcases DataW.trod_slice ht h with ⟨rfl, rfl⟩ | ⟨a, len, cap, elems, rest, n, _, rfl, rfl, hb, hl, hm, hlen, hel, hsp, hns⟩
  · exact ⟨[], ⟨none, 0, rfl, Nat.le_refl _, rfl, by simp, fun h => absurd h (by simp)⟩, by simp, by simp⟩
  · have hw1 : (elems.length + rest.length) * B ≤ 140737488351232 := by
      have := hw ((elems.length + rest.length) * P.bytesOf e) (by simp [DataW.weights, ht])
      rw [reach_is, hB] at this
      exact this
    have each : ∀ i, i < len → ∃ y c, w.cells? base (a.add (i * d.sz)) d.sz = some c ∧ d.K w y c ∧ good y := by
      intro i hi
      have h1 := hel i hi
      have h2 : i < elems.length := by omega
      rw [List.getElem?_eq_getElem h2, Option.bind_eq_some_iff] at h1
      obtain ⟨c, hcs, hy⟩ := h1
      obtain ⟨y, hK, hg⟩ := he H enc w base spare held n c _ hy (fun m hm => hw m (by
        simp only [DataW.weights, ht, List.mem_cons, List.mem_append]
        refine .inr (.inl ?_)
        have hmem : (elems[i]).1 ∈ elems.map (·.1) := List.mem_map_of_mem (List.getElem_mem h2)
        revert hmem
        generalize elems.map (·.1) = L
        intro hmem
        induction L with
        | nil => simp at hmem
        | cons z zs ih =>
          rcases List.mem_cons.1 hmem with rfl | hmem
          · simp only [DataW.weightsAll, List.mem_append]; exact .inl hm
          · simp only [DataW.weightsAll, List.mem_append]; exact .inr (ih hmem)))
      rw [hc] at hcs
      exact ⟨y, c, hcs, hK, hg⟩
    obtain ⟨l, hl2, hq⟩ := list_of (Q := fun i y => ∃ c, w.cells? base (a.add (i * d.sz)) d.sz = some c ∧ d.K w y c ∧ good y) len each
    have hB2 : l.length * B ≤ 140737488351232 := Nat.le_trans (Nat.mul_le_mul_right _ (by omega)) hw1
    refine ⟨l, ⟨some a, cap, by rw [hl2], by omega, rfl, by unfold maxLen at hm; omega, fun _ => ⟨a, rfl, fun j p hj => ?_⟩⟩, hB2, fun y hy => ?_⟩
    · obtain ⟨c, hcs, hK, _⟩ := hq j p hj
      refine ⟨c, d.K_len hK, hK, fun i u hu => ?_⟩
      obtain ⟨_, hlen2, hc2⟩ := World.cells?_some hcs
      have hi : i < d.sz := by
        have := (List.getElem?_eq_some_iff.1 hu).1
        rw [d.K_len hK] at this
        exact this
      have := hc2 i hi
      rw [hu] at this
      rw [← this, Go.Addr.add_add]
    · obtain ⟨i, hi, he⟩ := List.mem_iff_getElem.1 hy
      exact (hq i y (List.getElem?_eq_some_iff.2 ⟨hi, he⟩)).elim fun c hc => hc.2.2
theorem opens_good {α : Type} {d : Kd α} {good good' : α → Prop} (h : Opens P t d good) (hg : ∀ y, good y → good' y) : Opens P t d good' := by
  intro H enc w base spare held fuel cs x hx hw
  obtain ⟨y, hK, hy⟩ := h H enc w base spare held fuel cs x hx hw
  exact ⟨y, hK, hg y hy⟩
theorem opens_iso {α β : Type} {d : Kd α} {good : α → Prop} (h : Opens P t d good) (f : β → α) (g : α → β) (hfg : ∀ a, f (g a) = a) : Opens P t (Kd.iso d f) (fun y => good (f y)) := by
  intro H enc w base spare held fuel cs x hx hw
  obtain ⟨y, hK, hy⟩ := h H enc w base spare held fuel cs x hx hw
  exact ⟨g y, by show d.K w (f (g y)) cs; rw [hfg]; exact hK, by show good (f (g y)); rw [hfg]; exact hy⟩
theorem opened {α : Type} {d : Kd α} {good : α → Prop} (h : Opens P t d good) {H : Type} {enc : TypeId × Value → H} {w : World} {base : Nat} {spare : Nat → Bool} {held : Bool} {v : Value} {x : DataW H} {ps : List MemPlace} {ts : List TypeId} {ds : List (DataW H)} {j : Nat}
    (hsz : (DataW.weightsEach P ts ds).all (· ≤ reachBytes) = true) (ht : ts[j]? = some t) (hd : ds[j]? = some x) (hx : DataW.Trod enc P w base spare held t v x ps) : ∃ y, d.K w y v.cells.toList ∧ good y := by
  obtain ⟨fuel, hf⟩ := hx
  exact h H enc w base spare held fuel _ _ hf (fun n hn => by simpa using List.all_eq_true.1 hsz _ (DataW.weights_mem_each ht hd n hn))
theorem opened_slice {α : Type} {e : Nat} {d : Kd α} {good : List α → Prop} (h : Opens P t (Kd.slice e d) good) {H : Type} {enc : TypeId × Value → H} {w : World} {base : Nat} {spare : Nat → Bool} {held : Bool} {a : Option Addr} {len cap : Nat} {x : DataW H} {ps : List MemPlace} {ts : List TypeId} {ds : List (DataW H)} {j : Nat}
    (hsz : (DataW.weightsEach P ts ds).all (· ≤ reachBytes) = true) (ht : ts[j]? = some t) (hd : ds[j]? = some x) (hx : DataW.Trod enc P w base spare held t (.slice a len cap) x ps) : ∃ l, len = l.length ∧ l.length ≤ cap ∧ d.C w a l.length l ∧ good l := by
  obtain ⟨l, ⟨A, c, he, hc, hC⟩, hg⟩ := opened h hsz ht hd hx
  simp [Value.cells] at he
  obtain ⟨rfl, rfl, rfl⟩ := he
  exact ⟨l, rfl, hc, hC, hg⟩
end
theorem opens_six {P : Program} {t : TypeId} {α0 α1 α2 α3 α4 α5 : Type} {f0 f1 f2 f3 f4 f5 : Field} {d0 : Kd α0} {d1 : Kd α1} {d2 : Kd α2} {d3 : Kd α3} {d4 : Kd α4} {d5 : Kd α5} {g0 : α0 → Prop} {g1 : α1 → Prop} {g2 : α2 → Prop} {g3 : α3 → Prop} {g4 : α4 → Prop} {g5 : α5 → Prop} (hs : P.underlying t = some (.struct #[f0, f1, f2, f3, f4, f5])) (h0 : Opens P f0.type d0 g0) (h1 : Opens P f1.type d1 g1) (h2 : Opens P f2.type d2 g2) (h3 : Opens P f3.type d3 g3) (h4 : Opens P f4.type d4 g4) (h5 : Opens P f5.type d5 g5) (z0 : P.cellsOf f0.type = 1) (z1 : P.cellsOf f1.type = 1) (z2 : P.cellsOf f2.type = 1) (z3 : P.cellsOf f3.type = 1) (z4 : P.cellsOf f4.type = 1) (z5 : P.cellsOf f5.type = 1) (zt : P.cellsOf t = 6) (o0 : f0.offset = 0) (o1 : f1.offset = 1) (o2 : f2.offset = 2) (o3 : f3.offset = 3) (o4 : f4.offset = 4) (o5 : f5.offset = 5) :
    Opens P t (Kd.pair d0 (Kd.pair d1 (Kd.pair d2 (Kd.pair d3 (Kd.pair d4 d5))))) (fun y => g0 y.1 ∧ g1 y.2.1 ∧ g2 y.2.2.1 ∧ g3 y.2.2.2.1 ∧ g4 y.2.2.2.2.1 ∧ g5 y.2.2.2.2.2) := by
  intro H enc w base spare held fuel cs x h hw
  obtain ⟨xs, n, _, rfl, hl, hlen, hf⟩ := DataW.trod_struct hs h
  rw [zt] at hl
  obtain ⟨y0, y1, y2, y3, y4, y5, rfl⟩ : ∃ y0 y1 y2 y3 y4 y5, xs = [y0, y1, y2, y3, y4, y5] := by
    match xs, hlen with
    | [y0, y1, y2, y3, y4, y5], _ => exact ⟨y0, y1, y2, y3, y4, y5, rfl⟩
  obtain ⟨c0, c1, c2, c3, c4, c5, rfl⟩ : ∃ c0 c1 c2 c3 c4 c5, cs = [c0, c1, c2, c3, c4, c5] := by
    match cs, hl with
    | [c0, c1, c2, c3, c4, c5], _ => exact ⟨c0, c1, c2, c3, c4, c5, rfl⟩
  have hW : DataW.weights P t (.agg [y0.1, y1.1, y2.1, y3.1, y4.1, y5.1]) = DataW.weights P f0.type y0.1 ++ (DataW.weights P f1.type y1.1 ++ (DataW.weights P f2.type y2.1 ++ (DataW.weights P f3.type y3.1 ++ (DataW.weights P f4.type y4.1 ++ (DataW.weights P f5.type y5.1 ++ ([])))))) := by simp [DataW.weights, hs, DataW.weightsEach]
  simp only [List.map_cons, List.map_nil] at hw
  rw [hW] at hw
  have t0 := hf 0 f0 rfl
  rw [o0, z0] at t0
  obtain ⟨a0, k0, b0⟩ := h0 H enc w base spare held n [c0] y0 t0 (fun m hm => hw m (by simp only [List.mem_append]; exact .inl hm))
  have t1 := hf 1 f1 rfl
  rw [o1, z1] at t1
  obtain ⟨a1, k1, b1⟩ := h1 H enc w base spare held n [c1] y1 t1 (fun m hm => hw m (by simp only [List.mem_append]; exact .inr (.inl hm)))
  have t2 := hf 2 f2 rfl
  rw [o2, z2] at t2
  obtain ⟨a2, k2, b2⟩ := h2 H enc w base spare held n [c2] y2 t2 (fun m hm => hw m (by simp only [List.mem_append]; exact .inr (.inr (.inl hm))))
  have t3 := hf 3 f3 rfl
  rw [o3, z3] at t3
  obtain ⟨a3, k3, b3⟩ := h3 H enc w base spare held n [c3] y3 t3 (fun m hm => hw m (by simp only [List.mem_append]; exact .inr (.inr (.inr (.inl hm)))))
  have t4 := hf 4 f4 rfl
  rw [o4, z4] at t4
  obtain ⟨a4, k4, b4⟩ := h4 H enc w base spare held n [c4] y4 t4 (fun m hm => hw m (by simp only [List.mem_append]; exact .inr (.inr (.inr (.inr (.inl hm))))))
  have t5 := hf 5 f5 rfl
  rw [o5, z5] at t5
  obtain ⟨a5, k5, b5⟩ := h5 H enc w base spare held n [c5] y5 t5 (fun m hm => hw m (by simp only [List.mem_append]; exact .inr (.inr (.inr (.inr (.inr (.inl hm)))))))
  exact ⟨(a0, a1, a2, a3, a4, a5), ⟨[c0], [c1, c2, c3, c4, c5], rfl, k0, ⟨[c1], [c2, c3, c4, c5], rfl, k1, ⟨[c2], [c3, c4, c5], rfl, k2, ⟨[c3], [c4, c5], rfl, k3, ⟨[c4], [c5], rfl, k4, k5⟩⟩⟩⟩⟩, b0, b1, b2, b3, b4, b5⟩
end Go.Proofs.YthaoaaboempajabO
namespace Go.Proofs.YthaoaaboempajabW.PrintLast
section
variable {P : Program} {ops : Array Oper} {Q : Exit → Act → World → Prop} {md : Region.Mode} {S : World → Prop} {ds : List Nat}
def Region.reachB (md : Region.Mode) (ops : Array Oper) (i : Nat) : Nat → Nat → Bool
  | 0, _ => false
  | fuel + 1, d => match ops[d]? with
    | some o => o.after.any fun e => Region.binds md e && (e.on == i || Region.reachB md ops i fuel e.on)
    | none => false
def Region.closedB (md : Region.Mode) (ops : Array Oper) (listed : Array Bool) : Bool :=
  (List.range ops.size).all fun j => !listed.getD j false || match ops[j]? with
    | some o => o.after.all fun e => !Region.binds md e || listed.getD e.on false
    | none => true
def Region.lastB (md : Region.Mode) (ops : Array Oper) (listed : Array Bool) (ds : List Nat) (i : Nat) : Bool :=
  ds.all fun d => listed.getD d true || Region.reachB md ops i ops.size d
def ListedClosed (md : Region.Mode) (ops : Array Oper) (listed : Array Bool) : Prop :=
  ∀ j oj, ops[j]? = some oj → listed.getD j false = true → ∀ e ∈ oj.after, Region.binds md e = true → listed.getD e.on false = true
theorem Region.closedB_spec {listed : Array Bool} (h : Region.closedB md ops listed = true) : ListedClosed md ops listed := by
  intro j oj hj hl e he hb
  have hlt : j < ops.size := (Array.getElem?_eq_some_iff.1 hj).1
  have h1 := List.all_eq_true.1 h j (List.mem_range.2 hlt)
  simp only [hl, hj, Bool.not_true, Bool.false_or] at h1
  have h2 := Array.all_eq_true_iff_forall_mem.1 h1 e he
  simpa [hb] using h2
theorem ListedClosed.set {listed : Array Bool} {i : Nat} (h : ListedClosed md ops listed) (hi : i ∈ Region.ready md ops listed) : ListedClosed md ops (listed.setIfInBounds i true) := by
  obtain ⟨_, oi, hoi, hall⟩ := mem_ready.1 hi
  intro j oj hj hl e he hb
  by_cases hij : i = j
  · subst hij
    have : oj = oi := Option.some.inj (hj.symm.trans hoi)
    subst this
    exact getD_set_true (hall e he hb)
  · rw [getD_set_ne false hij] at hl
    exact getD_set_true (h j oj hj hl e he hb)
theorem Region.reach_listed {listed : Array Bool} {i : Nat} (hc : ListedClosed md ops listed) : ∀ (fuel d : Nat), Region.reachB md ops i fuel d = true → listed.getD d false = true → listed.getD i false = true
  | 0, _, h, _ => by simp [Region.reachB] at h
  | fuel + 1, d, h, hl => by
    unfold Region.reachB at h
    cases ho : ops[d]? with
    | none => rw [ho] at h; simp at h
    | some o =>
      rw [ho] at h
      obtain ⟨e, he, h1⟩ := Array.any_eq_true'.1 h
      simp only [Bool.and_eq_true, Bool.or_eq_true, beq_iff_eq] at h1
      have hle := hc d o ho hl e he h1.1
      rcases h1.2 with h2 | h2
      · rw [← h2]; exact hle
      · exact Region.reach_listed hc fuel e.on h2 hle
theorem Region.reach_not_ready {listed : Array Bool} {i d fuel : Nat} (hc : ListedClosed md ops listed) (hr : Region.reachB md ops i fuel d = true) (hun : listed.getD i true = false) : d ∉ Region.ready md ops listed := by
  intro hd
  obtain ⟨_, o, ho, hall⟩ := mem_ready.1 hd
  have hi : listed.getD i false = true := by
    cases fuel with
    | zero => simp [Region.reachB] at hr
    | succ n =>
      unfold Region.reachB at hr
      rw [ho] at hr
      obtain ⟨e, he, h1⟩ := Array.any_eq_true'.1 hr
      simp only [Bool.and_eq_true, Bool.or_eq_true, beq_iff_eq] at h1
      have hle := hall e he h1.1
      rcases h1.2 with h2 | h2
      · rw [← h2]; exact hle
      · exact Region.reach_listed hc n e.on h2 hle
  rcases Nat.lt_or_ge i listed.size with h' | h'
  · simp [h'] at hun hi
    rw [hun] at hi
    cases hi
  · simp [Array.getElem?_eq_none h'] at hun
def wpAnyLast (P : Program) (md : Region.Mode) (ops : Array Oper) (Q : Exit → Act → World → Prop) (S : World → Prop) (ds : List Nat) : Nat → Array Bool → Act → World → Prop
  | 0, listed, a, w => Region.ready md ops listed = [] ∧ Q .normal a w
  | fuel + 1, listed, a, w =>
    (Region.ready md ops listed = [] → Q .normal a w) ∧
    ∀ i ∈ Region.ready md ops listed, wpOp P ops Q i (fun a' w' => (i ∉ ds → S w → S w') ∧ wpAnyLast P md ops Q S ds fuel (listed.setIfInBounds i true) a' w') a w
theorem wpAny_of_last : ∀ (fuel : Nat) (listed : Array Bool) (a : Act) (w : World), wpAnyLast P md ops Q S ds fuel listed a w → wpAny P md ops Q fuel listed a w
  | 0, _, _, _, h => h
  | fuel + 1, _, _, _, h => ⟨h.1, fun i hi => wpOp_mono (fun a' w' h' => wpAny_of_last fuel _ a' w' h'.2) (h.2 i hi)⟩
theorem wpAnyLast_first {i : Nat} {oi : Oper} {v : Value} (hi : ops[i]? = some oi) (hsel : ∀ (j : Nat) (o : Oper) cs b, ops[j]? = some o → o.op ≠ .select cs b)
    (hQ : ∀ c a w, Q (.panic c) (a.put oi.dst v) w → Q (.panic c) a w) (n : Nat) :
    ∀ (fuel : Nat) (listed : Array Bool) (a : Act) (w : World),
      (∀ j oj, ops[j]? = some oj → j ≠ i → listed.getD j true = false → (∀ e ∈ oj.after, Region.binds md e = true → e.on ≠ i) → oi.apart ops oj = true) →
      ListedClosed md ops listed → (∀ d ∈ ds, listed.getD d true = false → Region.reachB md ops i n d = true) →
      i ∈ Region.ready md ops listed → YieldsIf P ops S oi v a → S w →
      wpAnyLast P md ops Q S ds fuel (listed.setIfInBounds i true) (a.put oi.dst v) w → wpAnyLast P md ops Q S ds (fuel + 1) listed a w := by
  intro fuel
  induction fuel with
  | zero =>
    intro listed a w _ _ _ hr hy hS H
    refine ⟨fun h => (by rw [h] at hr; cases hr), fun j hj => ?_⟩
    by_cases hji : j = i
    · subst hji; exact hy.wpOp hi hS ⟨fun _ h => h, H⟩
    · have := ready_mono hj hji
      rw [H.1] at this
      cases this
  | succ fuel ih =>
    intro listed a w hfree hc hd hr hy hS H
    refine ⟨fun h => (by rw [h] at hr; cases hr), fun j hj => ?_⟩
    by_cases hji : j = i
    · subst hji; exact hy.wpOp hi hS ⟨fun _ h => h, H⟩
    · have h1 := H.2 j (ready_mono hj hji)
      obtain ⟨hjun, oj, hoj, hall⟩ := mem_ready.1 hj
      have hiun := (mem_ready.1 hr).1
      have hnot : ∀ e ∈ oj.after, Region.binds md e = true → e.on ≠ i := fun e he hb heq => by
        have h1 := hall e he hb
        rw [heq] at h1
        rcases Nat.lt_or_ge i listed.size with h' | h'
        · simp [h'] at hiun h1; rw [hiun] at h1; cases h1
        · simp [Array.getElem?_eq_none h'] at h1
      have hjd : j ∉ ds := fun hm => Region.reach_not_ready hc (hd j hm hjun) hiun hj
      have h2 := wpOp_putIf hoj (hfree j oj hoj hji hjun hnot) (fun cs b => hsel i oi cs b hi) (fun cs b => hsel j oj cs b hoj) hQ hy h1
      have hfree' : ∀ k ok, ops[k]? = some ok → k ≠ i → (listed.setIfInBounds j true).getD k true = false →
          (∀ e ∈ ok.after, Region.binds md e = true → e.on ≠ i) → oi.apart ops ok = true := fun k ok hk hki hun hno => by
        refine hfree k ok hk hki ?_ hno
        by_cases hjk : j = k
        · subst hjk; exact hjun
        · rw [getD_set_ne true hjk] at hun; exact hun
      have hd' : ∀ d ∈ ds, (listed.setIfInBounds j true).getD d true = false → Region.reachB md ops i n d = true := fun d hm hun => by
        refine hd d hm ?_
        by_cases hjk : j = d
        · subst hjk; exact hjun
        · rw [getD_set_ne true hjk] at hun; exact hun
      refine wpOp_mono (fun a' w' h3 => ⟨h3.2.1, ih (listed.setIfInBounds j true) a' w' hfree' (hc.set hj) hd' (ready_mono hr (Ne.symm hji)) h3.1 (h3.2.1 hjd hS) ?_⟩) h2
      rw [Array.setIfInBounds_comm _ _ hji]
      exact h3.2.2
theorem wpAnyLast_any {i : Nat} {oi : Oper} {v : Value} (hi : ops[i]? = some oi) (hsel : ∀ (j : Nat) (o : Oper) cs b, ops[j]? = some o → o.op ≠ .select cs b)
    (hQ : ∀ c a w, Q (.panic c) (a.put oi.dst v) w → Q (.panic c) a w) :
    ∀ (fuel : Nat) (listed : Array Bool) (a : Act) (w : World),
      (∀ j oj, ops[j]? = some oj → j ≠ i → listed.getD j true = false → (∀ e ∈ oj.after, Region.binds md e = true → e.on ≠ i) → oi.apart ops oj = true) →
      i ∈ Region.ready md ops listed → Yields P ops oi v a →
      wpAnyLast P md ops Q S ds fuel (listed.setIfInBounds i true) (a.put oi.dst v) w → wpAnyLast P md ops Q S ds (fuel + 1) listed a w := by
  intro fuel
  induction fuel with
  | zero =>
    intro listed a w _ hr hy H
    refine ⟨fun h => (by rw [h] at hr; cases hr), fun j hj => ?_⟩
    by_cases hji : j = i
    · subst hji; exact (hy.yieldsIf (S := fun _ => True)).wpOp hi trivial ⟨fun _ h => h, H⟩
    · have := ready_mono hj hji
      rw [H.1] at this
      cases this
  | succ fuel ih =>
    intro listed a w hfree hr hy H
    refine ⟨fun h => (by rw [h] at hr; cases hr), fun j hj => ?_⟩
    by_cases hji : j = i
    · subst hji; exact (hy.yieldsIf (S := fun _ => True)).wpOp hi trivial ⟨fun _ h => h, H⟩
    · have h1 := H.2 j (ready_mono hj hji)
      obtain ⟨hjun, oj, hoj, hall⟩ := mem_ready.1 hj
      have hiun := (mem_ready.1 hr).1
      have hnot : ∀ e ∈ oj.after, Region.binds md e = true → e.on ≠ i := fun e he hb heq => by
        have h1 := hall e he hb
        rw [heq] at h1
        rcases Nat.lt_or_ge i listed.size with h' | h'
        · simp [h'] at hiun h1; rw [hiun] at h1; cases h1
        · simp [Array.getElem?_eq_none h'] at h1
      have h2 := wpOp_put hoj (hfree j oj hoj hji hjun hnot) (fun cs b => hsel i oi cs b hi) (fun cs b => hsel j oj cs b hoj) hQ hy h1
      have hfree' : ∀ k ok, ops[k]? = some ok → k ≠ i → (listed.setIfInBounds j true).getD k true = false →
          (∀ e ∈ ok.after, Region.binds md e = true → e.on ≠ i) → oi.apart ops ok = true := fun k ok hk hki hun hno => by
        refine hfree k ok hk hki ?_ hno
        by_cases hjk : j = k
        · subst hjk; exact hjun
        · rw [getD_set_ne true hjk] at hun; exact hun
      refine wpOp_mono (fun a' w' h3 => ⟨h3.2.1, ih (listed.setIfInBounds j true) a' w' hfree' (ready_mono hr (Ne.symm hji)) h3.1 ?_⟩) h2
      rw [Array.setIfInBounds_comm _ _ hji]
      exact h3.2.2
theorem wpAnyLast_take {i : Nat} {oi : Oper} {v : Value} {fuel : Nat} {listed : Array Bool} {a : Act} {w : World} (hi : ops[i]? = some oi)
    (hs : Region.noSelect ops = true) (hf : Region.free md ops listed i = true) (hr : (Region.ready md ops listed).contains i = true)
    (hc : Region.closedB md ops listed = true) (hl : Region.lastB md ops listed ds i = true)
    (hQ : ∀ c a w, Q (.panic c) (a.put oi.dst v) w → Q (.panic c) a w) (hy : YieldsIf P ops S oi v a) (hS : S w)
    (h : wpAnyLast P md ops Q S ds fuel (listed.setIfInBounds i true) (a.put oi.dst v) w) : wpAnyLast P md ops Q S ds (fuel + 1) listed a w :=
  wpAnyLast_first hi (Region.noSelect_spec hs) hQ ops.size fuel listed a w (Region.free_spec hi hf) (Region.closedB_spec hc)
    (fun d hm hun => by have := List.all_eq_true.1 hl d hm; rw [hun] at this; simpa using this) (by simpa using hr) hy hS h
theorem wpAnyLast_all {rs : List Nat} {fuel : Nat} {listed : Array Bool} {a : Act} {w : World} (hr : Region.ready md ops listed = rs) (hne : rs ≠ [])
    (h : ∀ i ∈ rs, wpOp P ops Q i (fun a' w' => (i ∉ ds → S w → S w') ∧ wpAnyLast P md ops Q S ds fuel (listed.setIfInBounds i true) a' w') a w) : wpAnyLast P md ops Q S ds (fuel + 1) listed a w :=
  ⟨fun h0 => absurd (hr ▸ h0) hne, hr ▸ h⟩
theorem wpAnyLast_done {listed : Array Bool} {a : Act} {w : World} (hr : Region.ready md ops listed = []) (h : Q .normal a w) :
    ∀ fuel, wpAnyLast P md ops Q S ds fuel listed a w
  | 0 => ⟨hr, h⟩
  | _ + 1 => ⟨fun _ => h, by rw [hr]; simp⟩
theorem wp_region_last {id : Nat} {a : Act} {w : World} (hm : P.follows .mixedOrders = true)
    (h : wpAnyLast P .any ops Q S ds ops.size (Array.replicate ops.size false) a { w with drawn := w.drawn + 1 }) : (Code.region id ops true).wp P Q a w :=
  wp_region_any hm (wpAny_of_last _ _ _ _ h)
end
section
variable {P : Program} {ops : Array Oper} {Q : Exit → Act → World → Prop} {md : Region.Mode} {S : World → Prop} {ds : List Nat}
def AllReadyL (P : Program) (md : Region.Mode) (ops : Array Oper) (Q : Exit → Act → World → Prop) (S : World → Prop) (ds : List Nat) (fuel : Nat) (listed : Array Bool) (a : Act) (w : World) (rs : List Nat) : Prop :=
  ∀ i ∈ rs, wpOp P ops Q i (fun a' w' => (i ∉ ds → S w → S w') ∧ wpAnyLast P md ops Q S ds fuel (listed.setIfInBounds i true) a' w') a w
theorem AllReadyL.nil {fuel : Nat} {listed : Array Bool} {a : Act} {w : World} : AllReadyL P md ops Q S ds fuel listed a w [] := fun _ h => by cases h
theorem AllReadyL.cons {fuel : Nat} {listed : Array Bool} {a : Act} {w : World} {i : Nat} {o : Oper} {rs : List Nat} (ho : ops[i]? = some o) (hd : i ∉ ds)
    (h : ∀ K' : Act → World → Prop, Shut (∀ a w, S w → (S w → wpAnyLast P md ops Q S ds fuel (listed.setIfInBounds i true) a w) → K' a w) → if Region.wanted o (yielded ops a.tmps) = true then Oper.wp P o a w K' Q else K' (a.put o.dst undef) w)
    (hs : AllReadyL P md ops Q S ds fuel listed a w rs) : AllReadyL P md ops Q S ds fuel listed a w (i :: rs) := fun j hj => by
  rcases List.mem_cons.1 hj with rfl | hj
  · exact wpOp_step ho (fun K' hK => h K' (fun a w hS hW => hK a w ⟨fun _ _ => hS, hW hS⟩))
  · exact hs j hj
theorem AllReadyL.cons_last {fuel : Nat} {listed : Array Bool} {a : Act} {w : World} {i : Nat} {o : Oper} {rs : List Nat} (ho : ops[i]? = some o) (hd : i ∈ ds)
    (h : ∀ K' : Act → World → Prop, Shut (∀ a w, wpAnyLast P md ops Q S ds fuel (listed.setIfInBounds i true) a w → K' a w) → if Region.wanted o (yielded ops a.tmps) = true then Oper.wp P o a w K' Q else K' (a.put o.dst undef) w)
    (hs : AllReadyL P md ops Q S ds fuel listed a w rs) : AllReadyL P md ops Q S ds fuel listed a w (i :: rs) := fun j hj => by
  rcases List.mem_cons.1 hj with rfl | hj
  · exact wpOp_step ho (fun K' hK => h K' (fun a w hW => hK a w ⟨fun hn => absurd hd hn, hW⟩))
  · exact hs j hj
theorem wpAnyLast_ready {rs : List Nat} {fuel : Nat} {listed : Array Bool} {a : Act} {w : World} (hr : Region.ready md ops listed = rs) (hne : rs ≠ [])
    (h : AllReadyL P md ops Q S ds fuel listed a w rs) : wpAnyLast P md ops Q S ds (fuel + 1) listed a w := wpAnyLast_all hr hne h
theorem start_ {id n : Nat} {a : Act} {w : World} (l : Array Bool) (hm : P.follows .mixedOrders = true) (hn : ops.size = n) (hl : Array.replicate n false = l) (hS : S w.drew)
    (h : S w.drew → wpAnyLast P .any ops Q S ds n l a w.drew) : (Code.region id ops true).wp P Q a w := by
  subst hn
  subst hl
  exact wp_region_last hm (h hS)
def takeB (md : Region.Mode) (ops : Array Oper) (ds : List Nat) (l l' : Array Bool) (i : Nat) : Bool :=
  Region.noSelect ops && Region.free md ops l i && (Region.ready md ops l).contains i && Region.closedB md ops l && Region.lastB md ops l ds i && (l.setIfInBounds i true == l')
theorem take_ {i : Nat} {N : Option Tmp} {oi : Oper} {v : Value} {fuel : Nat} {l : Array Bool} {a : Act} {w : World} (l' : Array Bool) (hi : ops[i]? = some oi) (hN : oi.dst = N) (hc : takeB md ops ds l l' i = true)
    (hQ : ∀ c a w, Q (.panic c) (a.put oi.dst v) w → Q (.panic c) a w) (hy : YieldsIf P ops S oi v a) (hS : S w) {a' : Act} (ha : a.put N v = a')
    (h : wpAnyLast P md ops Q S ds fuel l' a' w) : wpAnyLast P md ops Q S ds (fuel + 1) l a w := by
  subst ha
  subst hN
  simp only [takeB, Bool.and_eq_true, beq_iff_eq] at hc
  obtain ⟨⟨⟨⟨⟨h1, h2⟩, h3⟩, h4⟩, h5⟩, h6⟩ := hc
  subst h6
  exact wpAnyLast_take hi h1 h2 h3 h4 h5 hQ hy hS h
def anyB (md : Region.Mode) (ops : Array Oper) (l l' : Array Bool) (i : Nat) : Bool :=
  Region.noSelect ops && Region.free md ops l i && (Region.ready md ops l).contains i && (l.setIfInBounds i true == l')
theorem pure_ {i : Nat} {N : Option Tmp} {oi : Oper} {v : Value} {fuel : Nat} {l : Array Bool} {a : Act} {w : World} (l' : Array Bool) (hi : ops[i]? = some oi) (hN : oi.dst = N) (hc : anyB md ops l l' i = true)
    (hQ : ∀ c a w, Q (.panic c) (a.put oi.dst v) w → Q (.panic c) a w) (hy : Yields P ops oi v a) {a' : Act} (ha : a.put N v = a')
    (h : wpAnyLast P md ops Q S ds fuel l' a' w) : wpAnyLast P md ops Q S ds (fuel + 1) l a w := by
  subst ha
  subst hN
  simp only [anyB, Bool.and_eq_true, beq_iff_eq] at hc
  obtain ⟨⟨⟨h1, h2⟩, h3⟩, h6⟩ := hc
  subst h6
  exact wpAnyLast_any hi (Region.noSelect_spec h1) hQ fuel l a w (Region.free_spec hi h2) (by simpa using h3) hy h
def readyB (md : Region.Mode) (ops : Array Oper) (l l' : Array Bool) (i : Nat) : Bool := (Region.ready md ops l == [i]) && (l.setIfInBounds i true == l')
theorem one_ {i : Nat} {N : Option Tmp} {oi : Oper} {fuel : Nat} {l : Array Bool} {a : Act} {w : World} (l' : Array Bool) (hi : ops[i]? = some oi) (hN : oi.dst = N) (hc : readyB md ops l l' i = true) (hd : i ∉ ds)
    (h : ∀ K : Act → World → Prop, Shut (∀ a' w', S w' → (S w' → wpAnyLast P md ops Q S ds fuel l' a' w') → K a' w') → if Region.wanted oi (yielded ops a.tmps) = true then Oper.wp P oi a w K Q else K (a.put N undef) w) :
    wpAnyLast P md ops Q S ds (fuel + 1) l a w := by
  subst hN
  simp only [readyB, Bool.and_eq_true, beq_iff_eq] at hc
  obtain ⟨h1, h2⟩ := hc
  subst h2
  exact wpAnyLast_ready h1 (by simp) (AllReadyL.cons hi hd (fun K hK => h K hK) AllReadyL.nil)
theorem last_ {i : Nat} {N : Option Tmp} {oi : Oper} {fuel : Nat} {l : Array Bool} {a : Act} {w : World} (l' : Array Bool) (hi : ops[i]? = some oi) (hN : oi.dst = N) (hc : readyB md ops l l' i = true) (hd : i ∈ ds)
    (h : ∀ K : Act → World → Prop, Shut (∀ a' w', wpAnyLast P md ops Q S ds fuel l' a' w' → K a' w') → if Region.wanted oi (yielded ops a.tmps) = true then Oper.wp P oi a w K Q else K (a.put N undef) w) :
    wpAnyLast P md ops Q S ds (fuel + 1) l a w := by
  subst hN
  simp only [readyB, Bool.and_eq_true, beq_iff_eq] at hc
  obtain ⟨h1, h2⟩ := hc
  subst h2
  exact wpAnyLast_ready h1 (by simp) (AllReadyL.cons_last hi hd (fun K hK => h K hK) AllReadyL.nil)
theorem done_ {l : Array Bool} {a : Act} {w : World} {n : Nat} (hr : (Region.ready md ops l == []) = true) (h : Q .normal a w) : wpAnyLast P md ops Q S ds n l a w := wpAnyLast_done (by simpa using hr) h n
theorem two_ {i j : Nat} {Ni Nj : Option Tmp} {oi oj : Oper} {fuel : Nat} {l : Array Bool} {a : Act} {w : World} (li lj : Array Bool) (hi : ops[i]? = some oi) (hj : ops[j]? = some oj) (hNi : oi.dst = Ni) (hNj : oj.dst = Nj)
    (hc : (Region.ready md ops l == [i, j] && l.setIfInBounds i true == li && l.setIfInBounds j true == lj) = true) (hdi : i ∉ ds) (hdj : j ∉ ds)
    (h1 : ∀ K : Act → World → Prop, Shut (∀ a' w', S w' → (S w' → wpAnyLast P md ops Q S ds fuel li a' w') → K a' w') → if Region.wanted oi (yielded ops a.tmps) = true then Oper.wp P oi a w K Q else K (a.put Ni undef) w)
    (h2 : ∀ K : Act → World → Prop, Shut (∀ a' w', S w' → (S w' → wpAnyLast P md ops Q S ds fuel lj a' w') → K a' w') → if Region.wanted oj (yielded ops a.tmps) = true then Oper.wp P oj a w K Q else K (a.put Nj undef) w) :
    wpAnyLast P md ops Q S ds (fuel + 1) l a w := by
  subst hNi
  subst hNj
  simp only [Bool.and_eq_true, beq_iff_eq] at hc
  obtain ⟨⟨h3, h4⟩, h5⟩ := hc
  subst h4
  subst h5
  exact wpAnyLast_ready h3 (by simp) (AllReadyL.cons hi hdi (fun K hK => h1 K hK) (AllReadyL.cons hj hdj (fun K hK => h2 K hK) AllReadyL.nil))
def putAll : Act → List (Tmp × Value) → Act
  | a, [] => a
  | a, (n, v) :: r => putAll (a.put (some n) v) r
theorem join_ {σ : Type} {fuel : Nat} {l : Array Bool} {a : Act} {w : World} (fuel' : Nat) (l' : Array Bool) (ns : σ → List (Tmp × Value)) (F : σ → World → Prop)
    (hcont : ∀ s w', F s w' → wpAnyLast P md ops Q S ds fuel' l' (putAll a (ns s)) w')
    (h : (∀ s w', F s w' → wpAnyLast P md ops Q S ds fuel' l' (putAll a (ns s)) w') → wpAnyLast P md ops Q S ds fuel l a w) : wpAnyLast P md ops Q S ds fuel l a w := h hcont
theorem norm_ {fuel : Nat} {l : Array Bool} {a a' : Act} {w : World} (ha : a = a') (h : wpAnyLast P md ops Q S ds fuel l a' w) : wpAnyLast P md ops Q S ds fuel l a w := by
  subst ha
  exact h
theorem call_ {oi : Oper} {N : Option Tmp} {a : Act} {w : World} {K : Act → World → Prop} (f : FuncId) (args : Array Value) (hw : Region.wanted oi (yielded ops a.tmps) = true) (hN : oi.dst = N) (hrun : (execOp a.eval oi).run P w = .ok (.enter f args) w)
    (h : Calls P f args w fun e w' => ∃ v, e = .returned v ∧ K (a.put N v) w') : if Region.wanted oi (yielded ops a.tmps) = true then Oper.wp P oi a w K Q else K (a.put N undef) w := by
  rw [if_pos hw]
  subst hN
  unfold Oper.wp
  rw [hrun, Oper.upon_enter]
  refine h.mono fun e w'' hh => ?_
  obtain ⟨v, rfl, hk⟩ := hh
  exact hk
theorem enters_ {f : FuncId} {fn : Func} (hf : P.funcs[f]? = some fn) (hname : (fn.name == "runtime.NumGoroutine") = false) (hb : fn.body.isSome = true) (args : Array Value) (w : World) : (callFunc f args).run P w = .ok (.enter f args) w := by
  have h1 : fn.name ≠ "runtime.NumGoroutine" := by simpa using hname
  obtain ⟨c, hc⟩ := Option.isSome_iff_exists.1 hb
  simp [callFunc, hf, h1, hc]
theorem goes_ {oi : Oper} {N : Option Tmp} {a : Act} {w : World} {K : Act → World → Prop} {f : FuncId} {fn : Func} {as_ : Array Operand} {ts : Array TypeId} (hf : P.funcs[f]? = some fn) (hname : (fn.name == "runtime.NumGoroutine") = false) (hb : fn.body.isSome = true) (args : Array Value)
    (hw : Region.wanted oi (yielded ops a.tmps) = true) (hN : oi.dst = N) (hop : oi.op = .call { callee := .value (.func f), args := as_, argTypes := ts }) (hargs : as_.map a.eval = args)
    (h : Calls P f args w fun e w' => ∃ v, e = .returned v ∧ K (a.put N v) w') : if Region.wanted oi (yielded ops a.tmps) = true then Oper.wp P oi a w K Q else K (a.put N undef) w := by
  refine call_ f args hw hN ?_ h
  have he := enters_ hf hname hb args w
  unfold execOp
  simp [hop, resolve, Deferred.ofValue, invoke, Act.eval, hargs, he]
theorem goesL_ {rest : List Oper} {oi : Oper} {a : Act} {w : World} (N : Option Tmp) (hd : oi.dst = N) (hg : oi.guard = none) {f : FuncId} {fn : Func} {as_ : Array Operand} {ts : Array TypeId} (hf : P.funcs[f]? = some fn) (hname : (fn.name == "runtime.NumGoroutine") = false) (hb : fn.body.isSome = true) (args : Array Value)
    (hop : oi.op = .call { callee := .value (.func f), args := as_, argTypes := ts }) (hargs : as_.map a.eval = args)
    (h : Calls P f args w fun e w' => ∃ v, e = .returned v ∧ wpList P ops Q rest (a.put N v) w') : wpList P ops Q (oi :: rest) a w := by
  refine wpList_plain hg fun K hK => ?_
  have he := enters_ hf hname hb args w
  have hrun : (execOp a.eval oi).run P w = .ok (.enter f args) w := by
    unfold execOp
    simp [hop, resolve, Deferred.ofValue, invoke, Act.eval, hargs, he]
  unfold Oper.wp
  rw [hrun, Oper.upon_enter]
  refine h.mono fun e w'' hh => ?_
  obtain ⟨v, rfl, hk⟩ := hh
  subst hd
  exact hK _ _ hk
theorem value_ {oi : Oper} {N : Option Tmp} {a : Act} {w w1 : World} {v : Value} {K : Act → World → Prop} (hw : Region.wanted oi (yielded ops a.tmps) = true) (hN : oi.dst = N) (hrun : (execOp a.eval oi).run P w = .ok (.value v) w1)
    (h : K (a.put N v) w1) : if Region.wanted oi (yielded ops a.tmps) = true then Oper.wp P oi a w K Q else K (a.put N undef) w := by
  rw [if_pos hw]
  subst hN
  unfold Oper.wp
  rw [hrun]
  exact h
theorem skip_ {oi : Oper} {a : Act} {w w1 : World} {K : Act → World → Prop} (hw : Region.wanted oi (yielded ops a.tmps) = true) (hN : oi.dst = none) (hrun : (execOp a.eval oi).run P w = .ok .skip w1)
    (h : K a w1) : if Region.wanted oi (yielded ops a.tmps) = true then Oper.wp P oi a w K Q else K (a.put none undef) w := by
  rw [if_pos hw]
  unfold Oper.wp
  rw [hrun]
  show K (a.put oi.dst undef) w1
  rw [hN]
  exact h
theorem i64_w (n : Int) : IntKind.i64.wrap n = Go.RowKit.wrap64 n := by unfold Go.RowKit.wrap64; exact IntKind.wrap_i64 n
theorem i32_w (n : Int) : IntKind.i32.wrap n = Go.RowKit.wrap32 n := by unfold Go.RowKit.wrap32; exact IntKind.wrap_i32 n
end
end Go.Proofs.YthaoaaboempajabW.PrintLast
namespace Go.Proofs.YthaoaaboempajabW.PrintLast
open Go.Proofs.YthaoaaboempajabW.PrintWords (Aside0)
def needsOf (md : Region.Mode) (o : Oper) : List Nat := (o.after.toList.filter (fun e => Region.binds md e)).map (fun e => e.on)
def clashOf (md : Region.Mode) (ops : Array Oper) (i : Nat) (oi : Oper) : List Nat := (List.range ops.size).filter fun j => !(j == i) && match ops[j]? with
  | some oj => !(oj.after.any (fun e => Region.binds md e && e.on == i) || oi.apart ops oj)
  | none => false
def rtab (md : Region.Mode) (ops : Array Oper) : Bool × List (List Nat × List Nat) := (Region.noSelect ops, (List.range ops.size).map fun i => match ops[i]? with
  | some o => (needsOf md o, clashOf md ops i o)
  | none => ([], []))
def readyAt (T : List (List Nat × List Nat)) (l : List Bool) (i : Nat) : Bool := !l.getD i true && match T[i]? with
  | some r => r.1.all (fun j => l.getD j false)
  | none => false
def readyT (T : List (List Nat × List Nat)) (l : List Bool) : List Nat := (List.range T.length).filter (readyAt T l)
def freeT (T : List (List Nat × List Nat)) (l : List Bool) (i : Nat) : Bool := match T[i]? with
  | some r => r.2.all (fun j => l.getD j true)
  | none => false
def closedT (T : List (List Nat × List Nat)) (l : List Bool) : Bool := (List.range T.length).all fun j => !l.getD j false || match T[j]? with
  | some r => r.1.all (fun k => l.getD k false)
  | none => true
def reachT (T : List (List Nat × List Nat)) (i : Nat) : Nat → Nat → Bool
  | 0, _ => false
  | fuel + 1, d => match T[d]? with
    | some r => r.1.any fun j => j == i || reachT T i fuel j
    | none => false
def lastT (T : List (List Nat × List Nat)) (l : List Bool) (ds : List Nat) (i : Nat) : Bool := ds.all fun d => l.getD d true || reachT T i T.length d
section
variable {md : Region.Mode} {ops : Array Oper} {T : Bool × List (List Nat × List Nat)} {l l' li lj lk : Array Bool} {ds : List Nat} {i j k : Nat}
theorem gd (l : Array Bool) (j : Nat) (b : Bool) : l.getD j b = l.toList.getD j b := by simp [Array.getD_eq_getD_getElem?, List.getD_eq_getElem?_getD]
theorem needs_all (o : Oper) (p : Nat → Bool) : o.after.all (fun e => !Region.binds md e || p e.on) = (needsOf md o).all p := by
  unfold needsOf
  rw [← Array.all_toList]
  induction o.after.toList with
  | nil => rfl
  | cons e r ih =>
    rw [List.all_cons, ih, List.filter_cons]
    cases h : Region.binds md e <;> simp
theorem needs_any (o : Oper) (p : Nat → Bool) : o.after.any (fun e => Region.binds md e && p e.on) = (needsOf md o).any p := by
  unfold needsOf
  rw [← Array.any_toList]
  induction o.after.toList with
  | nil => rfl
  | cons e r ih =>
    rw [List.any_cons, ih, List.filter_cons]
    cases h : Region.binds md e <;> simp
theorem rtab_length : (rtab md ops).2.length = ops.size := by simp [rtab]
theorem rtab_some {o : Oper} (h : ops[i]? = some o) : (rtab md ops).2[i]? = some (needsOf md o, clashOf md ops i o) := by
  have hi := (Array.getElem?_eq_some_iff.1 h).1
  unfold rtab
  rw [List.getElem?_map, List.getElem?_range hi, Option.map_some, h]
theorem rtab_none (h : ops[i]? = none) : (rtab md ops).2[i]? = none := by
  have hi : ops.size ≤ i := Array.getElem?_eq_none_iff.1 h
  exact List.getElem?_eq_none (by rw [rtab_length]; exact hi)
theorem readyAt_eq : readyAt (rtab md ops).2 l.toList i = (!l.getD i true && ((ops[i]?).map (·.after.all fun e => !Region.binds md e || l.getD e.on false)).getD false) := by
  unfold readyAt
  rw [gd]
  cases h : ops[i]? with
  | none => rw [rtab_none h]; rfl
  | some o =>
    rw [rtab_some h]
    simp only [Option.map_some, Option.getD_some]
    rw [← needs_all]
    simp only [gd]
theorem ready_eq : Region.ready md ops l = readyT (rtab md ops).2 l.toList := by
  unfold Region.ready readyT
  rw [rtab_length]
  refine List.filter_congr (fun i _ => ?_)
  rw [readyAt_eq]
theorem free_eq : Region.free md ops l i = freeT (rtab md ops).2 l.toList i := by
  unfold Region.free freeT
  cases h : ops[i]? with
  | none => rw [rtab_none h]
  | some oi =>
    rw [rtab_some h]
    simp only [clashOf]
    rw [List.all_filter]
    congr 1
    funext j
    rw [gd]
    cases hj : ops[j]? with
    | none => cases (j == i) <;> cases (l.toList.getD j true) <;> simp
    | some oj =>
      cases (j == i) <;> cases (l.toList.getD j true) <;> cases (oj.after.any (fun e => Region.binds md e && e.on == i) || oi.apart ops oj) <;> simp_all
theorem closed_eq : Region.closedB md ops l = closedT (rtab md ops).2 l.toList := by
  unfold Region.closedB closedT
  rw [rtab_length]
  congr 1
  funext j
  rw [gd]
  cases h : ops[j]? with
  | none => rw [rtab_none h]
  | some o =>
    rw [rtab_some h]
    simp only
    rw [← needs_all]
    simp only [gd]
theorem reach_eq : ∀ (fuel d : Nat), Region.reachB md ops i fuel d = reachT (rtab md ops).2 i fuel d
  | 0, _ => rfl
  | fuel + 1, d => by
    unfold Region.reachB reachT
    cases h : ops[d]? with
    | none => rw [rtab_none h]
    | some o =>
      rw [rtab_some h]
      simp only
      rw [← needs_any]
      congr 1
      funext e
      rw [reach_eq fuel]
theorem last_eq : Region.lastB md ops l ds i = lastT (rtab md ops).2 l.toList ds i := by
  unfold Region.lastB lastT
  rw [rtab_length]
  congr 1
  funext d
  rw [gd, reach_eq]
theorem readyAt_mem (h : readyAt T.2 l.toList i = true) (hT : rtab md ops = T) : (Region.ready md ops l).contains i = true := by
  subst hT
  rw [ready_eq]
  unfold readyT
  rw [List.contains_iff_mem, List.mem_filter, List.mem_range]
  refine ⟨?_, h⟩
  unfold readyAt at h
  rw [Bool.and_eq_true] at h
  cases hq : (rtab md ops).2[i]? with
  | none => rw [hq] at h; simp at h
  | some r => exact (List.getElem?_eq_some_iff.1 hq).1
theorem set_of (h : (l.toList.set i true == l'.toList) = true) : (l.setIfInBounds i true == l') = true := by
  rw [beq_iff_eq] at h ⊢
  apply Array.ext'
  rw [Array.toList_setIfInBounds]
  exact h
def anyT (T : Bool × List (List Nat × List Nat)) (l l' : List Bool) (i : Nat) : Bool := T.1 && freeT T.2 l i && readyAt T.2 l i && (l.set i true == l')
theorem any_of (hT : rtab md ops = T) (h : anyT T l.toList l'.toList i = true) : anyB md ops l l' i = true := by
  simp only [anyT, Bool.and_eq_true] at h
  obtain ⟨⟨⟨h1, h2⟩, h3⟩, h4⟩ := h
  have h5 := readyAt_mem h3 hT
  have h6 := set_of h4
  subst hT
  simp only [anyB, Bool.and_eq_true]
  exact ⟨⟨⟨h1, by rw [free_eq]; exact h2⟩, h5⟩, h6⟩
def takeT (T : Bool × List (List Nat × List Nat)) (ds : List Nat) (l l' : List Bool) (i : Nat) : Bool := T.1 && freeT T.2 l i && readyAt T.2 l i && closedT T.2 l && lastT T.2 l ds i && (l.set i true == l')
theorem take_of (hT : rtab md ops = T) (h : takeT T ds l.toList l'.toList i = true) : takeB md ops ds l l' i = true := by
  simp only [takeT, Bool.and_eq_true] at h
  obtain ⟨⟨⟨⟨⟨h1, h2⟩, h3⟩, h4⟩, h5⟩, h6⟩ := h
  have h7 := readyAt_mem h3 hT
  have h8 := set_of h6
  subst hT
  simp only [takeB, Bool.and_eq_true]
  exact ⟨⟨⟨⟨⟨h1, by rw [free_eq]; exact h2⟩, h7⟩, by rw [closed_eq]; exact h4⟩, by rw [last_eq]; exact h5⟩, h8⟩
theorem one_of (hT : rtab md ops = T) (h : (readyT T.2 l.toList == [i] && l.toList.set i true == l'.toList) = true) : readyB md ops l l' i = true := by
  simp only [Bool.and_eq_true] at h
  obtain ⟨h1, h2⟩ := h
  subst hT
  simp only [readyB, Bool.and_eq_true]
  exact ⟨by rw [ready_eq]; exact h1, set_of h2⟩
theorem two_of (hT : rtab md ops = T) (h : (readyT T.2 l.toList == [i, j] && l.toList.set i true == li.toList && l.toList.set j true == lj.toList) = true) : (Region.ready md ops l == [i, j] && l.setIfInBounds i true == li && l.setIfInBounds j true == lj) = true := by
  simp only [Bool.and_eq_true] at h ⊢
  obtain ⟨⟨h1, h2⟩, h3⟩ := h
  subst hT
  exact ⟨⟨by rw [ready_eq]; exact h1, set_of h2⟩, set_of h3⟩
theorem done_of (hT : rtab md ops = T) (h : (readyT T.2 l.toList == []) = true) : (Region.ready md ops l == []) = true := by
  subst hT
  rw [ready_eq]
  exact h
def upM (B : List Nat) (d : Nat) : List Nat → Nat
  | [] => 0
  | n :: r => (2 ^ n ||| (if n < d then B.getD n 0 else 0)) ||| upM B d r
def waitsOk (T : List (List Nat × List Nat)) (B : List Nat) : Bool := (List.range T.length).all fun d => match T[d]? with
  | some r => (B.getD d 0 ||| upM B d r.1) == upM B d r.1
  | none => false
theorem upM_bit {B : List Nat} {d i : Nat} : ∀ {ns : List Nat}, (upM B d ns).testBit i = true → ∃ n ∈ ns, n = i ∨ (n < d ∧ (B.getD n 0).testBit i = true)
  | [], h => by simp [upM] at h
  | n :: r, h => by
    unfold upM at h
    rw [Nat.testBit_or, Nat.testBit_or, Bool.or_eq_true, Bool.or_eq_true] at h
    rcases h with (h | h) | h
    · rw [Nat.testBit_two_pow] at h
      exact ⟨n, List.mem_cons_self, .inl (by simpa using h)⟩
    · by_cases hn : n < d
      · rw [if_pos hn] at h
        exact ⟨n, List.mem_cons_self, .inr ⟨hn, h⟩⟩
      · rw [if_neg hn] at h
        simp at h
    · obtain ⟨m, hm, h2⟩ := upM_bit h
      exact ⟨m, List.mem_cons_of_mem _ hm, h2⟩
theorem reach_bit {T : List (List Nat × List Nat)} {B : List Nat} (hB : waitsOk T B = true) : ∀ (fuel d : Nat), d < fuel → d < T.length → (B.getD d 0).testBit i = true → reachT T i fuel d = true
  | 0, d, h, _, _ => by omega
  | fuel + 1, d, h, hd, hb => by
    have h1 := List.all_eq_true.1 hB d (List.mem_range.2 hd)
    cases hr : T[d]? with
    | none => rw [hr] at h1; simp at h1
    | some r =>
      rw [hr] at h1
      simp only [beq_iff_eq] at h1
      have h2 : (upM B d r.1).testBit i = true := by rw [← h1, Nat.testBit_or, hb, Bool.true_or]
      obtain ⟨n, hn, h3⟩ := upM_bit h2
      unfold reachT
      rw [hr]
      simp only
      rw [List.any_eq_true]
      refine ⟨n, hn, ?_⟩
      rcases h3 with rfl | ⟨h4, h5⟩
      · simp
      · rw [reach_bit hB fuel n (by omega) (by omega) h5, Bool.or_true]
def lastW (T : List (List Nat × List Nat)) (B : List Nat) (l : List Bool) (ds : List Nat) (i : Nat) : Bool := ds.all fun d => l.getD d true || (decide (d < T.length) && (B.getD d 0).testBit i)
def takeW (T : Bool × List (List Nat × List Nat)) (B : List Nat) (ds : List Nat) (l l' : List Bool) (i : Nat) : Bool := T.1 && freeT T.2 l i && readyAt T.2 l i && closedT T.2 l && lastW T.2 B l ds i && (l.set i true == l')
theorem take_ofW {B : List Nat} (hT : rtab md ops = T) (hB : waitsOk T.2 B = true) (h : takeW T B ds l.toList l'.toList i = true) : takeB md ops ds l l' i = true := by
  refine take_of hT ?_
  simp only [takeW, takeT, Bool.and_eq_true] at h ⊢
  obtain ⟨⟨⟨⟨⟨h1, h2⟩, h3⟩, h4⟩, h5⟩, h6⟩ := h
  refine ⟨⟨⟨⟨⟨h1, h2⟩, h3⟩, h4⟩, ?_⟩, h6⟩
  unfold lastW at h5
  unfold lastT
  rw [List.all_eq_true] at h5 ⊢
  intro d hd
  have h7 := h5 d hd
  rw [Bool.or_eq_true, Bool.and_eq_true, decide_eq_true_eq] at h7
  rcases h7 with h7 | ⟨h8, h9⟩
  · rw [h7, Bool.true_or]
  · rw [reach_bit hB _ d h8 h8 h9, Bool.or_true]
theorem with_tabW {P : Program} {Q : Exit → Act → World → Prop} {S : World → Prop} {n : Nat} {a : Act} {w : World} {B : List Nat} (hT : rtab md ops = T) (hB : waitsOk T.2 B = true) (h : Aside0 (rtab md ops = T) → Aside0 (waitsOk T.2 B = true) → wpAnyLast P md ops Q S ds n l a w) : wpAnyLast P md ops Q S ds n l a w := h ⟨hT⟩ ⟨hB⟩
end
def opsIn : Code → Nat → Option (Array Oper)
  | .region id ops _, k => if id == k then some ops else none
  | .seq a b, k => match opsIn a k with
    | some o => some o
    | none => opsIn b k
  | .cond _ a b, k => match opsIn a k with
    | some o => some o
    | none => opsIn b k
  | .block _ c, k => opsIn c k
  | .loop c, k => opsIn c k
  | .scope c, k => opsIn c k
  | .rangeFunc _ _ a b, k => match opsIn a k with
    | some o => some o
    | none => opsIn b k
  | _, _ => none
def opsOf (f : Func) (k : Nat) : Array Oper := ((f.body.bind fun c => opsIn c k)).getD #[]
end Go.Proofs.YthaoaaboempajabW.PrintLast
namespace Go.Proofs.YthaoaaboempajabW.PrintWords
open Go.RowKit
namespace Kd
def gap {α : Type} (f : Nat → Nat) (d : Kd α) (i : Nat) (c : List Value) : Kd (α × Nat) where
  sz := d.sz
  E := d.E
  K := fun w x cs => (x.2 = i → cs = c ∧ cs.length = d.sz ∧ ∀ u ∈ cs, u.oneCell' = true) ∧ (x.2 ≠ i → d.K w x.1 cs)
  M := fun w base ok x cs => (x.2 = i → cs = c ∧ cs.length = d.sz ∧ ∀ u ∈ cs, u.oneCell' = true) ∧ (x.2 ≠ i → d.M w base (fun k => ok k ∧ f k = x.2) x.1 cs)
  K_len := fun {w x cs} h => by
    by_cases hx : x.2 = i
    · exact (h.1 hx).2.1
    · exact d.K_len (h.2 hx)
  K_one := fun {w x cs} h => by
    by_cases hx : x.2 = i
    · exact (h.1 hx).2.2
    · exact d.K_one (h.2 hx)
  K_below := fun hb h => ⟨h.1, fun hx => d.K_below hb (h.2 hx)⟩
  K_of_M := fun h => ⟨h.1, fun hx => d.K_of_M (h.2 hx)⟩
  M_mono := fun hok h => ⟨h.1, fun hx => d.M_mono (fun k hk => ⟨hok k hk.1, hk.2⟩) (h.2 hx)⟩
  M_bound := fun h => ⟨h.1, fun hx => d.M_mono (fun _ hk => ⟨⟨hk.1.1, hk.2⟩, hk.1.2⟩) (d.M_bound (h.2 hx))⟩
  M_move := fun hm h => ⟨h.1, fun hx => d.M_move (fun k hk => hm k hk.1) (h.2 hx)⟩
  M_lower := fun hb h => ⟨h.1, fun hx => d.M_lower hb (h.2 hx)⟩
def H {α : Type} (d : Kd α) (e : Nat) (w : World) (base : Nat) (ok : Nat → Prop) (v : Value) (xs : List α) (i : Int) (oki : Nat → Prop) (c : List Value) : Prop :=
  (∀ k, oki k → ok k) ∧ ∃ f, (gap f d i.toNat c).R e w base (fun k => ok k ∧ ¬ oki k) v xs.zipIdx
end Kd
end Go.Proofs.YthaoaaboempajabW.PrintWords
namespace Go.Proofs.YthaoaaboempajabW.PrintWords
open Go.RowKit
namespace Kd
structure Heap {α : Type} (d : Kd α) : Prop where
  K : ∀ {w w1 : World} {x : α} {cs : List Value}, (∀ k, k < w.heap.size → w1.heap[k]? = w.heap[k]?) → d.K w x cs → d.K w1 x cs
theorem cell_heap {w w1 : World} (hb : ∀ k, k < w.heap.size → w1.heap[k]? = w.heap[k]?) {a : Addr} {v : Value} (h : w.cell? a = some v) : w1.cell? a = some v := by
  have := hb a.block (World.block_lt_of_cell? w a h)
  simpa [World.cell?, this] using h
theorem Heap.C {α : Type} {d : Kd α} (hd : Heap d) {w w1 : World} {A : Option Addr} {n : Nat} {xs : List α} (hb : ∀ k, k < w.heap.size → w1.heap[k]? = w.heap[k]?) (h : d.C w A n xs) : d.C w1 A n xs :=
  ⟨h.1, h.2.1, fun hn => by
    obtain ⟨ad, e, hc⟩ := h.2.2 hn
    refine ⟨ad, e, fun j p hj => ?_⟩
    obtain ⟨c, hs, hr, hcell⟩ := hc j p hj
    exact ⟨c, hs, hd.K hb hr, fun i u hu => cell_heap hb (hcell i u hu)⟩⟩
theorem heap_int (k : IntKind) : Heap (Kd.int k) := ⟨fun _ h => h⟩
end Kd
end Go.Proofs.YthaoaaboempajabW.PrintWords
namespace Go.Proofs.YthaoaaboempajabW.PrintWords
open Go.RowKit
def Kept (w W : World) (S : Nat → Prop) : Prop := w.heap.size ≤ W.heap.size ∧ ∀ i, i < w.heap.size → ¬ S i → W.heap[i]? = w.heap[i]?
section
variable {w W W2 : World} {S S2 S' : Nat → Prop}
theorem Kept.refl (w : World) (S : Nat → Prop) : Kept w w S := ⟨Nat.le_refl _, fun _ _ _ => rfl⟩
theorem Kept.of_below (h : Below w.heap.size w W) (S : Nat → Prop) : Kept w W S := ⟨h.size, fun i hi _ => h.block i hi⟩
theorem Kept.mono (h : Kept w W S) (hs : ∀ k, S k → S' k) : Kept w W S' := ⟨h.1, fun i hi hn => h.2 i hi (fun hk => hn (hs i hk))⟩
theorem Kept.then_ (h : Kept w W S) (k : Kept W W2 S2) (hs : ∀ k, S2 k → S k ∨ w.heap.size ≤ k) : Kept w W2 S :=
  ⟨Nat.le_trans h.1 k.1, fun i hi hn => (k.2 i (Nat.lt_of_lt_of_le hi h.1) (fun h2 => (hs i h2).elim hn (fun h3 => by omega))).trans (h.2 i hi hn)⟩
theorem Kept.of_grown {row : Option Nat} (hg : W.grownBy W2 row) (h : Kept w W S) (hr : ∀ k, row = some k → S k ∨ w.heap.size ≤ k) : Kept w W2 S :=
  h.then_ (S2 := fun k => row = some k) ⟨hg.size, fun i hi hn => hg.block i hi (fun he => hn he.symm)⟩ hr
theorem Kept.below (h : Kept w W S) (hb : Below W.heap.size W W2) : Kept w W2 S := h.then_ (Kept.of_below hb (fun _ => False)) (fun _ hk => hk.elim)
theorem Kept.drew (h : Kept w W S) : Kept w W.drew S := h
theorem Kept.drewN (h : Kept w W S) (m : Nat) : Kept w (W.drewN m) S := h
theorem Kept.setCell (h : Kept w W S) {p : Addr} (hp : S p.block ∨ w.heap.size ≤ p.block) (u : Value) : Kept w (W.setCell p u) S :=
  h.then_ (S2 := fun k => k = p.block) ⟨by simp [World.setCell], fun i _ hn => Below.heap_setCell W p u i hn⟩ (fun k hk => by rw [hk]; exact hp)
theorem blk_kept {g : Nat} {o : Obj} (hb : W.heap[g]? = some o) (hk : Kept W W2 S) (hne : ¬ S g) : W2.heap[g]? = some o := (hk.2 g (blk_lt hb) hne).trans hb
end
namespace Kd
section
variable {α : Type} {d : Kd α} {e base n c : Nat} {ok oki S S2 : Nat → Prop} {w w0 W W1 W2 : World} {v : Value} {A : Option Addr} {xs : List α} {i : Int} {cs : List Value}
theorem R_kept (h : d.R e W base ok v xs) (hk : Kept W W2 S) (hne : ∀ k, ok k → ¬ S k) : d.R e W2 base ok v xs := R_step h (fun k ho hlt => hk.2 k hlt (hne k ho))
theorem C_kept_came (hd : Heap d) (h : d.C w0 A n xs) (hb : Below w0.heap.size w0 W) (hS : ∀ k, S k → w0.heap.size ≤ k) : ∀ W', Kept W W' S → d.C W' A n xs := fun W' hk =>
  hd.C (fun k hlt => (hk.2 k (Nat.lt_of_lt_of_le hlt hb.size) (fun h2 => by have := hS k h2; omega)).trans (hb.block k hlt)) h
end
end Kd
end Go.Proofs.YthaoaaboempajabW.PrintWords
namespace Go.Proofs.YthaoaaboempajabW.PrintWords
theorem Reps.one {α : Type} {R : α → List Value → Prop} {ps : List α} {cs : List Value} {p : α} {v : Value} (hp : R p [v]) (h : Reps R 1 ps cs) : Reps R 1 (p :: ps) (v :: cs) := by
  refine ⟨by simp [h.1], fun j q hq => ?_⟩
  cases j with
  | zero =>
    simp only [List.getElem?_cons_zero, Option.some.injEq] at hq
    subst hq
    simpa using hp
  | succ j =>
    simp only [List.getElem?_cons_succ] at hq
    have h1 := h.2 j q hq
    simpa [Nat.mul_one] using h1
end Go.Proofs.YthaoaaboempajabW.PrintWords
namespace Go.Proofs.YthaoaaboempajabW.PrintMore
open Go.RowKit Go.Proofs.YthaoaaboempajabW.PrintWords
namespace Kd
open Go.Proofs.YthaoaaboempajabW.PrintWords.Kd
end Kd
namespace Kd
open Go.Proofs.YthaoaaboempajabW.PrintWords.Kd
end Kd
theorem max2_int (k k' : IntKind) (x y : Int) : Builtin.max2 (.int k x) (.int k' y) = pure (.int k (if x < y then y else x)) := by simp only [Builtin.max2, gt_iff_lt]
theorem min2_int (k k' : IntKind) (x y : Int) : Builtin.min2 (.int k x) (.int k' y) = pure (.int k (if y < x then y else x)) := by simp only [Builtin.min2]
theorem max_two (ats : Array TypeId) (ty : TypeId) (a b : Value) : Builtin.max_ ats ty #[a, b] = (Builtin.max2 a b >>= fun s => pure s) := by simp only [Builtin.max_, List.foldlM_cons, List.foldlM_nil]
theorem min_two (ats : Array TypeId) (ty : TypeId) (a b : Value) : Builtin.min_ ats ty #[a, b] = (Builtin.min2 a b >>= fun s => pure s) := by simp only [Builtin.min_, List.foldlM_cons, List.foldlM_nil]
theorem max_three (ats : Array TypeId) (ty : TypeId) (a b c : Value) : Builtin.max_ ats ty #[a, b, c] = (Builtin.max2 a b >>= fun s => Builtin.max2 s c >>= fun s => pure s) := by simp only [Builtin.max_, List.foldlM_cons, List.foldlM_nil]
theorem min_three (ats : Array TypeId) (ty : TypeId) (a b c : Value) : Builtin.min_ ats ty #[a, b, c] = (Builtin.min2 a b >>= fun s => Builtin.min2 s c >>= fun s => pure s) := by simp only [Builtin.min_, List.foldlM_cons, List.foldlM_nil]
theorem max_four (ats : Array TypeId) (ty : TypeId) (a b c d : Value) : Builtin.max_ ats ty #[a, b, c, d] = (Builtin.max2 a b >>= fun s => Builtin.max2 s c >>= fun s => Builtin.max2 s d >>= fun s => pure s) := by simp only [Builtin.max_, List.foldlM_cons, List.foldlM_nil]
theorem min_four (ats : Array TypeId) (ty : TypeId) (a b c d : Value) : Builtin.min_ ats ty #[a, b, c, d] = (Builtin.min2 a b >>= fun s => Builtin.min2 s c >>= fun s => Builtin.min2 s d >>= fun s => pure s) := by simp only [Builtin.min_, List.foldlM_cons, List.foldlM_nil]
end Go.Proofs.YthaoaaboempajabW.PrintMore
namespace Go.Proofs.YthaoaaboempajabW.PrintWords
open Go.RowKit
section
variable {P : Program} {ops : Array Oper} {rest : List Oper} {o : Oper} {a : Act} {Q : Exit → Act → World → Prop} {W : World}
theorem gate_callee {f : FuncId} {as_ : Array Operand} {ts : Array TypeId} (_ho : o.op = .call { callee := .value (.func f), args := as_, argTypes := ts }) (h : wpList P ops Q (o :: rest) a W) : wpList P ops Q (o :: rest) a W := h
theorem gate_builtin {b : Builtin} {xs : Array Operand} {ts : Array TypeId} (_ho : o.op = .call { callee := .builtin b, args := xs, argTypes := ts }) (h : wpList P ops Q (o :: rest) a W) : wpList P ops Q (o :: rest) a W := h
end
theorem drewN_self (w : World) (n : Nat) : w.drewN n = w.drewN n := rfl
namespace Kd
section
variable {α : Type} {d : Kd α} {e base b b' g N : Nat} {ok ok1 : Nat → Prop} {W W2 w1 : World} {u v : Value} {xs ys : List α} {S : Nat → Prop}
theorem R_keptB (h : d.R e W base ok v xs) (hk : Kept W W2 S) (hne : ∀ k, ok k → ¬ S k) : d.R e W2 base (fun k => ok k ∧ (¬ S k ∧ k < W.heap.size)) v xs :=
  R_kept (R_mono (R_bound h) (fun k hk => ⟨hk.1, hne k hk.1, hk.2.2.1⟩)) hk (fun _ hk => hk.2.1)
end
end Kd
end Go.Proofs.YthaoaaboempajabW.PrintWords
namespace Go.Proofs.YthaoaaboempajabW.PrintWords
open Go.RowKit
namespace Kd
end Kd
end Go.Proofs.YthaoaaboempajabW.PrintWords
namespace Go.Proofs.Ythaoaaboempajab.QDiskRuns
open Go.RowKit Go.Proofs.YthaoaaboempajabW.PrintWords Go.Proofs.YthaoaaboempajabW.PrintLast Go.Proofs.YthaoaaboempajabW.PrintMore
attribute [local go_sem] max2_int min2_int max_two min_two max_three min_three max_four min_four   -- for this text's walks alone
set_option linter.unusedVariables false
set_option linter.unusedSimpArgs false
def errW : Option Int → Value
  | none => .nilIface
  | some c => .iface 0 (.int .i64 c)
theorem errW_none : errW none = .nilIface := rfl
theorem errW_some (c : Int) : errW (some c) = .iface 0 (.int .i64 c) := rfl
theorem info5 : (Try.prog.info? 5).map (fun i => (i.zero, i.size, i.bytes)) = some (some (.int .u8 0), 1, 1) := by kernel_rfl
attribute [local go_sem] max2_int min2_int max_two min_two max_three min_three max_four min_four   -- for this text's walks alone
set_option linter.unusedVariables false
set_option linter.unusedSimpArgs false
def disk_right.f (a0 : Int) (a1 : Int) (a2 : Int) : Option (Bool) := if a0 ≥ 0 then (if a0 < 2 then (if a1 ≥ 0 then (if a2 ≥ 0 then (if a1 ≤ 67108864 then (some (decide (a2 ≤ (wrap64 (67108864 - a1))))) else (some false)) else (some false)) else (some false)) else (some false)) else (some false)
set_option maxHeartbeats 8000000 in
set_option maxRecDepth 100000 in
theorem disk_right.calls (a0 : Int) (a1 : Int) (a2 : Int) (r : Bool) (w : World) (h : disk_right.f a0 a1 a2 = some r) :
    Calls Try.prog 70 #[.int .i64 a0, .int .i64 a1, .int .i64 a2] w fun e w' => e = .returned (.bool r) ∧ Drawn0 w w' := by
  have H : (if a0 ≥ 0 then (if a0 < 2 then (if a1 ≥ 0 then (if a2 ≥ 0 then (if a1 ≤ 67108864 then (some (decide (a2 ≤ (wrap64 (67108864 - a1))))) else (some false)) else (some false)) else (some false)) else (some false)) else (some false)) = some r := h
  clear h
  by_cases c4 : a0 ≥ 0
  · rw [if_pos c4] at H
    have c4b0 : decide (0 ≤ a0) = true := decide_eq_true c4
    clear c4
    by_cases c5 : a0 < 2
    · rw [if_pos c5] at H
      have c5b0 : decide (a0 < 2) = true := decide_eq_true c5
      clear c5
      by_cases c6 : a1 ≥ 0
      · rw [if_pos c6] at H
        have c6b0 : decide (0 ≤ a1) = true := decide_eq_true c6
        clear c6
        by_cases c7 : a2 ≥ 0
        · rw [if_pos c7] at H
          have c7b0 : decide (0 ≤ a2) = true := decide_eq_true c7
          clear c7
          by_cases c8 : a1 ≤ 67108864
          · rw [if_pos c8] at H
            have c8b0 : decide (a1 ≤ 67108864) = true := decide_eq_true c8
            clear c8
            obtain rfl := Option.some.inj H
            go_enter Try.func70, Try.ntmps70
            go_wp2
            go_ret
            exact ⟨by first | rfl | (simp; done) | (simp [*]; done) | exact bq1 _ _ | exact bq2 _ _ | exact congrArg Value.bool (bq2 _ _) | exact congrArg Value.bool (bq1 _ _) | exact congrArg Value.bool (bq1' _ _) | exact bq1' _ _ | exact congrArg Value.bool (bq2' _ _) | exact bq2' _ _, by repeat (first | exact Drawn0.refl _ | apply Drawn0.step)⟩
          · rw [if_neg c8] at H
            have c8b0 : decide (a1 ≤ 67108864) = false := decide_eq_false c8
            clear c8
            obtain rfl := Option.some.inj H
            go_enter Try.func70, Try.ntmps70
            go_wp2
            go_ret
            exact ⟨by first | rfl | (simp; done) | (simp [*]; done) | exact bq1 _ _ | exact bq2 _ _ | exact congrArg Value.bool (bq2 _ _) | exact congrArg Value.bool (bq1 _ _) | exact congrArg Value.bool (bq1' _ _) | exact bq1' _ _ | exact congrArg Value.bool (bq2' _ _) | exact bq2' _ _, by repeat (first | exact Drawn0.refl _ | apply Drawn0.step)⟩
        · rw [if_neg c7] at H
          have c7b0 : decide (0 ≤ a2) = false := decide_eq_false c7
          clear c7
          obtain rfl := Option.some.inj H
          go_enter Try.func70, Try.ntmps70
          go_wp2
          go_ret
          exact ⟨by first | rfl | (simp; done) | (simp [*]; done) | exact bq1 _ _ | exact bq2 _ _ | exact congrArg Value.bool (bq2 _ _) | exact congrArg Value.bool (bq1 _ _) | exact congrArg Value.bool (bq1' _ _) | exact bq1' _ _ | exact congrArg Value.bool (bq2' _ _) | exact bq2' _ _, by repeat (first | exact Drawn0.refl _ | apply Drawn0.step)⟩
      · rw [if_neg c6] at H
        have c6b0 : decide (0 ≤ a1) = false := decide_eq_false c6
        clear c6
        obtain rfl := Option.some.inj H
        go_enter Try.func70, Try.ntmps70
        go_wp2
        go_ret
        exact ⟨by first | rfl | (simp; done) | (simp [*]; done) | exact bq1 _ _ | exact bq2 _ _ | exact congrArg Value.bool (bq2 _ _) | exact congrArg Value.bool (bq1 _ _) | exact congrArg Value.bool (bq1' _ _) | exact bq1' _ _ | exact congrArg Value.bool (bq2' _ _) | exact bq2' _ _, by repeat (first | exact Drawn0.refl _ | apply Drawn0.step)⟩
    · rw [if_neg c5] at H
      have c5b0 : decide (a0 < 2) = false := decide_eq_false c5
      clear c5
      obtain rfl := Option.some.inj H
      go_enter Try.func70, Try.ntmps70
      go_wp2
      go_ret
      exact ⟨by first | rfl | (simp; done) | (simp [*]; done) | exact bq1 _ _ | exact bq2 _ _ | exact congrArg Value.bool (bq2 _ _) | exact congrArg Value.bool (bq1 _ _) | exact congrArg Value.bool (bq1' _ _) | exact bq1' _ _ | exact congrArg Value.bool (bq2' _ _) | exact bq2' _ _, by repeat (first | exact Drawn0.refl _ | apply Drawn0.step)⟩
  · rw [if_neg c4] at H
    have c4b0 : decide (0 ≤ a0) = false := decide_eq_false c4
    clear c4
    obtain rfl := Option.some.inj H
    go_enter Try.func70, Try.ntmps70
    go_wp2
    go_ret
    exact ⟨by first | rfl | (simp; done) | (simp [*]; done) | exact bq1 _ _ | exact bq2 _ _ | exact congrArg Value.bool (bq2 _ _) | exact congrArg Value.bool (bq1 _ _) | exact congrArg Value.bool (bq1' _ _) | exact bq1' _ _ | exact congrArg Value.bool (bq2' _ _) | exact bq2' _ _, by repeat (first | exact Drawn0.refl _ | apply Drawn0.step)⟩
end Go.Proofs.Ythaoaaboempajab.QDiskRuns
namespace Go.Proofs.Ythaoaaboempajab.QLogRuns
open Go.RowKit Go.Proofs.YthaoaaboempajabW.PrintWords Go.Proofs.YthaoaaboempajabW.PrintLast Go.Proofs.YthaoaaboempajabW.PrintMore Go.Proofs.Ythaoaaboempajab.QDiskRuns
attribute [local go_sem] max2_int min2_int max_two min_two max_three min_three max_four min_four   -- for this text's walks alone
set_option linter.unusedVariables false
set_option linter.unusedSimpArgs false
def wal_number.f (a0 : ByteArray) : Option (Int) := if 0 < (a0.size : Int) then (if 1 < (a0.size : Int) then (if 2 < (a0.size : Int) then (if 3 < (a0.size : Int) then (some (Go.bits .or .i64 (Go.bits .or .i64 (Go.bits .or .i64 (wrap64 ((wrap64 (bt a0 0)) * 16777216)) (wrap64 ((wrap64 (bt a0 1)) * 65536))) (wrap64 ((wrap64 (bt a0 2)) * 256))) (wrap64 (bt a0 3)))) else (none)) else (none)) else (none)) else (none)
set_option maxHeartbeats 8000000 in
set_option maxRecDepth 100000 in
theorem wal_number.calls (a0 : ByteArray) (r : Int) (w : World) (h : wal_number.f a0 = some r) :
    Calls Try.prog 48 #[.string a0] w fun e w' => e = .returned (.int .i64 r) ∧ Drawn0 w w' := by
  have H : (if 0 < (a0.size : Int) then (if 1 < (a0.size : Int) then (if 2 < (a0.size : Int) then (if 3 < (a0.size : Int) then (some (Go.bits .or .i64 (Go.bits .or .i64 (Go.bits .or .i64 (wrap64 ((wrap64 (bt a0 0)) * 16777216)) (wrap64 ((wrap64 (bt a0 1)) * 65536))) (wrap64 ((wrap64 (bt a0 2)) * 256))) (wrap64 (bt a0 3)))) else (none)) else (none)) else (none)) else (none)) = some r := h
  clear h
  by_cases c2 : 0 < (a0.size : Int)
  · rw [if_pos c2] at H
    have c2b0 : decide (0 < (a0.size : Int)) = true := decide_eq_true c2
    have c2b1 : decide (0 < a0.size) = true := decide_eq_true (by omega)
    clear c2
    by_cases c4 : 1 < (a0.size : Int)
    · rw [if_pos c4] at H
      have c4b0 : decide (1 < (a0.size : Int)) = true := decide_eq_true c4
      have c4b1 : decide (1 < a0.size) = true := decide_eq_true (by omega)
      clear c4
      by_cases c6 : 2 < (a0.size : Int)
      · rw [if_pos c6] at H
        have c6b0 : decide (2 < (a0.size : Int)) = true := decide_eq_true c6
        have c6b1 : decide (2 < a0.size) = true := decide_eq_true (by omega)
        clear c6
        by_cases c8 : 3 < (a0.size : Int)
        · rw [if_pos c8] at H
          have c8b0 : decide (3 < (a0.size : Int)) = true := decide_eq_true c8
          have c8b1 : decide (3 < a0.size) = true := decide_eq_true (by omega)
          clear c8
          obtain rfl := Option.some.inj H
          have p3 : 0 ≤ (0 : Int) := (by omega)
          have q3 : 0 < a0.size := (by have : (0 : Int) < (a0.size : Int) := of_decide_eq_true (by first | (with_reducible assumption) | assumption); omega)
          have hx3 : ∀ h : 0 < a0.size, ((a0[0]'h).toNat : Int) = bt a0 0 := bt_at a0 0
          clear p3
          have qi3 : (0 < (a0.size : Int)) = True := eq_true (of_decide_eq_true (by first | (with_reducible assumption) | assumption))
          replace q3 := eq_true q3
          have p5 : 0 ≤ (1 : Int) := (by omega)
          have q5 : 1 < a0.size := (by have : (1 : Int) < (a0.size : Int) := of_decide_eq_true (by first | (with_reducible assumption) | assumption); omega)
          have hx5 : ∀ h : 1 < a0.size, ((a0[1]'h).toNat : Int) = bt a0 1 := bt_at a0 1
          clear p5
          have qi5 : (1 < (a0.size : Int)) = True := eq_true (of_decide_eq_true (by first | (with_reducible assumption) | assumption))
          replace q5 := eq_true q5
          have p7 : 0 ≤ (2 : Int) := (by omega)
          have q7 : 2 < a0.size := (by have : (2 : Int) < (a0.size : Int) := of_decide_eq_true (by first | (with_reducible assumption) | assumption); omega)
          have hx7 : ∀ h : 2 < a0.size, ((a0[2]'h).toNat : Int) = bt a0 2 := bt_at a0 2
          clear p7
          have qi7 : (2 < (a0.size : Int)) = True := eq_true (of_decide_eq_true (by first | (with_reducible assumption) | assumption))
          replace q7 := eq_true q7
          have p9 : 0 ≤ (3 : Int) := (by omega)
          have q9 : 3 < a0.size := (by have : (3 : Int) < (a0.size : Int) := of_decide_eq_true (by first | (with_reducible assumption) | assumption); omega)
          have hx9 : ∀ h : 3 < a0.size, ((a0[3]'h).toNat : Int) = bt a0 3 := bt_at a0 3
          clear p9
          have qi9 : (3 < (a0.size : Int)) = True := eq_true (of_decide_eq_true (by first | (with_reducible assumption) | assumption))
          replace q9 := eq_true q9
          go_enter Try.func48, Try.ntmps48
          go_wp2
          repeat (go_quiet (fail); try go_wp2)
          go_ret
          exact ⟨by first | rfl | (simp; done) | (simp [*]; done) | exact bq1 _ _ | exact bq2 _ _ | exact congrArg Value.bool (bq2 _ _) | exact congrArg Value.bool (bq1 _ _) | exact congrArg Value.bool (bq1' _ _) | exact bq1' _ _ | exact congrArg Value.bool (bq2' _ _) | exact bq2' _ _, by repeat (first | exact Drawn0.refl _ | apply Drawn0.step)⟩
        · rw [if_neg c8] at H
          exact absurd H (by simp)
      · rw [if_neg c6] at H
        exact absurd H (by simp)
    · rw [if_neg c4] at H
      exact absurd H (by simp)
  · rw [if_neg c2] at H
    exact absurd H (by simp)
def wal_four.f (a0 : Int) : Option (ByteArray) := some (strOfNums (([(a0 / 16777216) % 256, (a0 / 65536) % 256, (a0 / 256) % 256, (a0) % 256] : List Int)))
set_option maxHeartbeats 8000000 in
set_option maxRecDepth 100000 in
theorem wal_four.calls (a0 : Int) (r : ByteArray) (w : World) (h : wal_four.f a0 = some r) :
    Calls Try.prog 64 #[.int .i64 a0] w fun e w' => e = .returned (.string r) ∧ Below w.heap.size w w' := by
  have HB := Aside0.mk (Below.refl w.heap.size w)
  have H : (some (strOfNums (([(a0 / 16777216) % 256, (a0 / 65536) % 256, (a0 / 256) % 256, (a0) % 256] : List Int)))) = some r := h
  clear h
  obtain ⟨y112, hy112⟩ : ∃ y_ : List Int, y_ = (([(a0 / 16777216) % 256, (a0 / 65536) % 256, (a0 / 256) % 256, (a0) % 256] : List Int)) := ⟨_, rfl⟩
  replace H : (some (strOfNums y112)) = some r := by first | (rw [hy112]; with_reducible exact H) | (have H2_ := (Option.bind_some _ _).symm.trans H; rw [hy112]; with_reducible exact H2_) | (have H2_ := (Option.bind_some _ _).symm.trans H; with_reducible exact H2_) | with_reducible exact H | (rw [hy112]; exact H) | exact H
  have Ny112 := Aside0.mk hy112
  clear hy112
  obtain rfl := Option.some.inj H
  go_enter Try.func64, Try.ntmps64
  go_wp2_with (first | ((with_reducible refine gate_dst (N := 14) rfl ?_); refine Kd.R_lit (Kd.int .u8) _ 5 ?hg (N := 14) ?hd (xs := ([(a0 / 16777216) % 256, (a0 / 65536) % 256, (a0 / 256) % 256, (a0) % 256] : List Int)) (inner := [.int .u8 ((a0 / 16777216) % 256), .int .u8 ((a0 / 65536) % 256), .int .u8 ((a0 / 256) % 256), .int .u8 ((a0) % 256)]) (ok := fun _ => True) (okp := fun _ => True) ?hr ?hp (fun _ hk => hk) trivial (Below.refl _ _) (Nat.le_refl _) (by simp) ?_; (case hd => rfl); (case hg => rfl); (case hr => first | (go_simp; done) | (go_simp; rfl)); (case hp => exact (Reps.one (show Kd.M (Kd.int .u8) _ _ _ ((a0 / 16777216) % 256) [.int .u8 ((a0 / 16777216) % 256)] from rfl) (Reps.one (show Kd.M (Kd.int .u8) _ _ _ ((a0 / 65536) % 256) [.int .u8 ((a0 / 65536) % 256)] from rfl) (Reps.one (show Kd.M (Kd.int .u8) _ _ _ ((a0 / 256) % 256) [.int .u8 ((a0 / 256) % 256)] from rfl) (Reps.one (show Kd.M (Kd.int .u8) _ _ _ ((a0) % 256) [.int .u8 ((a0) % 256)] from rfl) (Reps.none _ _)))))); intro v113 w2 ho3 hb hg_ hnew_; clear hg_ hnew_; (first | rw [← Ny112.out] at ho3 | (simp only [Int.reduceToNat] at ho3; rw [← Ny112.out] at ho3)); have n0_ := Aside0.mk (Kd.R_lower ho3 (below_size (by repeat (first | (with_reducible first | exact HB.out | apply below_alloc | apply pw_below_drewN | apply below_drew1) | exact HB.out)))); have n1_ := Aside0.mk (below_step (by repeat (first | (with_reducible first | exact HB.out | apply below_alloc | apply pw_below_drewN | apply below_drew1) | exact HB.out)) hb); clear HB; have HO114 := n0_; have HB := n1_; clear n0_ n1_; clear hb ho3; have hcv4 := own_string (P := Try.prog) Try.underlying53 Try.underlying5 Try.underlying9 (Kd.own_of_R HO114.out)))
  go_ret
  exact ⟨by first | rfl | (simp [errW_none, errW_some] <;> rfl) | (simp [*, errW_none, errW_some] <;> rfl), by repeat (first | (with_reducible first | exact HB.out | apply below_alloc | apply pw_below_drewN | apply below_drew1) | exact HB.out)⟩
def wal_slotText.f (a0 : Int) (a1 : Int) (a2 : Int) : Option (ByteArray) := (wal_four.f a0).bind fun t115 => ((wal_four.f a1).bind fun t116 => (if t115.size + t116.size ≤ 9223372036854775807 then ((wal_four.f a2).bind fun t117 => (if (t115 ++ t116).size + t117.size ≤ 9223372036854775807 then (if ((t115 ++ t116) ++ t117).size + ((t115 ++ t116) ++ t117).size ≤ 9223372036854775807 then (some (((t115 ++ t116) ++ t117) ++ ((t115 ++ t116) ++ t117))) else (none)) else (none))) else (none)))
set_option maxHeartbeats 8000000 in
set_option maxRecDepth 100000 in
theorem wal_slotText.calls (a0 : Int) (a1 : Int) (a2 : Int) (r : ByteArray) (w : World) (h : wal_slotText.f a0 a1 a2 = some r) :
    Calls Try.prog 77 #[.int .i64 a0, .int .i64 a1, .int .i64 a2] w fun e w' => e = .returned (.string r) ∧ Below w.heap.size w w' := by
  have HB := Aside0.mk (Below.refl w.heap.size w)
  have H : ((wal_four.f a0).bind fun t115 => ((wal_four.f a1).bind fun t116 => (if t115.size + t116.size ≤ 9223372036854775807 then ((wal_four.f a2).bind fun t117 => (if (t115 ++ t116).size + t117.size ≤ 9223372036854775807 then (if ((t115 ++ t116) ++ t117).size + ((t115 ++ t116) ++ t117).size ≤ 9223372036854775807 then (some (((t115 ++ t116) ++ t117) ++ ((t115 ++ t116) ++ t117))) else (none)) else (none))) else (none)))) = some r := h
  clear h
  replace H := Option.bind_eq_some_iff.mp H
  obtain ⟨t115, A40, H⟩ := H
  replace H : ((wal_four.f a1).bind fun t116 => (if t115.size + t116.size ≤ 9223372036854775807 then ((wal_four.f a2).bind fun t117 => (if (t115 ++ t116).size + t117.size ≤ 9223372036854775807 then (if ((t115 ++ t116) ++ t117).size + ((t115 ++ t116) ++ t117).size ≤ 9223372036854775807 then (some (((t115 ++ t116) ++ t117) ++ ((t115 ++ t116) ++ t117))) else (none)) else (none))) else (none))) = some r := H
  have A4 := Aside0.mk A40
  clear A40
  replace H := Option.bind_eq_some_iff.mp H
  obtain ⟨t116, A50, H⟩ := H
  replace H : (if t115.size + t116.size ≤ 9223372036854775807 then ((wal_four.f a2).bind fun t117 => (if (t115 ++ t116).size + t117.size ≤ 9223372036854775807 then (if ((t115 ++ t116) ++ t117).size + ((t115 ++ t116) ++ t117).size ≤ 9223372036854775807 then (some (((t115 ++ t116) ++ t117) ++ ((t115 ++ t116) ++ t117))) else (none)) else (none))) else (none)) = some r := H
  have A5 := Aside0.mk A50
  clear A50
  by_cases c6 : t115.size + t116.size ≤ 9223372036854775807
  · rw [if_pos c6] at H
    have c6b0 := eq_true c6
    have c6b1 : decide (t115.size + t116.size ≤ 9223372036854775807) = true := decide_eq_true c6
    try have c6b2 : (9223372036854775807 < t115.size + t116.size) = False := eq_false (Nat.not_lt.2 c6)
    try (have c6b3 := c6b2; simp only [ByteArray.size_append] at c6b3)
    replace H := Option.bind_eq_some_iff.mp H
    obtain ⟨t117, A70, H⟩ := H
    replace H : (if (t115 ++ t116).size + t117.size ≤ 9223372036854775807 then (if ((t115 ++ t116) ++ t117).size + ((t115 ++ t116) ++ t117).size ≤ 9223372036854775807 then (some (((t115 ++ t116) ++ t117) ++ ((t115 ++ t116) ++ t117))) else (none)) else (none)) = some r := H
    have A7 := Aside0.mk A70
    clear A70
    by_cases c8 : (t115 ++ t116).size + t117.size ≤ 9223372036854775807
    · rw [if_pos c8] at H
      have c8b0 := eq_true c8
      have c8b1 : decide ((t115 ++ t116).size + t117.size ≤ 9223372036854775807) = true := decide_eq_true c8
      try have c8b2 : (9223372036854775807 < (t115 ++ t116).size + t117.size) = False := eq_false (Nat.not_lt.2 c8)
      try (have c8b3 := c8b2; simp only [ByteArray.size_append] at c8b3)
      by_cases c9 : ((t115 ++ t116) ++ t117).size + ((t115 ++ t116) ++ t117).size ≤ 9223372036854775807
      · rw [if_pos c9] at H
        have c9b0 := eq_true c9
        have c9b1 : decide (((t115 ++ t116) ++ t117).size + ((t115 ++ t116) ++ t117).size ≤ 9223372036854775807) = true := decide_eq_true c9
        try have c9b2 : (9223372036854775807 < ((t115 ++ t116) ++ t117).size + ((t115 ++ t116) ++ t117).size) = False := eq_false (Nat.not_lt.2 c9)
        try (have c9b3 := c9b2; simp only [ByteArray.size_append] at c9b3)
        obtain rfl := Option.some.inj H
        go_enter Try.func77, Try.ntmps77
        go_wp2_with (first | ((with_reducible refine gate_callee (f := 64) rfl ?_); refine goesL_ (some 9) rfl rfl Try.func64 (by kernel_rfl) rfl #[.int .i64 a0] rfl (by (try simp only [List.map_toArray, List.map_cons, List.map_nil]); first | done | rfl | (simp only [List.length_drop, List.length_take]; rfl) | (simp only [Int.ofNat_lt, Int.ofNat_le]; done) | (simp only [Int.ofNat_lt, Int.ofNat_le]; rfl) | (simp only [ByteArray.size_append, Int.natCast_add]; rfl)) ?_; (with_reducible refine (wal_four.calls a0 t115 _ A4.out).mono ?_); rintro e w10 ⟨rfl, hb⟩; refine ⟨_, rfl, ?_⟩; have n0_ := Aside0.mk (below_step (by repeat (first | (with_reducible first | exact HB.out | apply below_alloc | apply pw_below_drewN | apply below_drew1) | exact HB.out)) hb); clear HB; have HB := n0_; clear n0_; (try clear hb); (try clear hb2); (try clear hk); (try clear hi)) | ((with_reducible refine gate_callee (f := 64) rfl ?_); refine goesL_ (some 11) rfl rfl Try.func64 (by kernel_rfl) rfl #[.int .i64 a1] rfl (by (try simp only [List.map_toArray, List.map_cons, List.map_nil]); first | done | rfl | (simp only [List.length_drop, List.length_take]; rfl) | (simp only [Int.ofNat_lt, Int.ofNat_le]; done) | (simp only [Int.ofNat_lt, Int.ofNat_le]; rfl) | (simp only [ByteArray.size_append, Int.natCast_add]; rfl)) ?_; (with_reducible refine (wal_four.calls a1 t116 _ A5.out).mono ?_); rintro e w11 ⟨rfl, hb⟩; refine ⟨_, rfl, ?_⟩; have n0_ := Aside0.mk (below_step (by repeat (first | (with_reducible first | exact HB.out | apply below_alloc | apply pw_below_drewN | apply below_drew1) | exact HB.out)) hb); clear HB; have HB := n0_; clear n0_; (try clear hb); (try clear hb2); (try clear hk); (try clear hi)) | ((with_reducible refine gate_callee (f := 64) rfl ?_); refine goesL_ (some 14) rfl rfl Try.func64 (by kernel_rfl) rfl #[.int .i64 a2] rfl (by (try simp only [List.map_toArray, List.map_cons, List.map_nil]); first | done | rfl | (simp only [List.length_drop, List.length_take]; rfl) | (simp only [Int.ofNat_lt, Int.ofNat_le]; done) | (simp only [Int.ofNat_lt, Int.ofNat_le]; rfl) | (simp only [ByteArray.size_append, Int.natCast_add]; rfl)) ?_; (with_reducible refine (wal_four.calls a2 t117 _ A7.out).mono ?_); rintro e w12 ⟨rfl, hb⟩; refine ⟨_, rfl, ?_⟩; have n0_ := Aside0.mk (below_step (by repeat (first | (with_reducible first | exact HB.out | apply below_alloc | apply pw_below_drewN | apply below_drew1) | exact HB.out)) hb); clear HB; have HB := n0_; clear n0_; (try clear hb); (try clear hb2); (try clear hk); (try clear hi)))
        go_ret
        exact ⟨by first | rfl | (simp [errW_none, errW_some] <;> rfl) | (simp [*, errW_none, errW_some] <;> rfl), by repeat (first | (with_reducible first | exact HB.out | apply below_alloc | apply pw_below_drewN | apply below_drew1) | exact HB.out)⟩
      · rw [if_neg c9] at H
        exact absurd H (by simp)
    · rw [if_neg c8] at H
      exact absurd H (by simp)
  · rw [if_neg c6] at H
    exact absurd H (by simp)
def relstoreref_unbytes.l0 : Nat → ByteArray → Int → Int → Option (Int)
  | 0, _, _, _ => none
  | k + 1, x0, x3, x4 => if x4 < (x0.size : Int) then (if 0 ≤ x4 then (relstoreref_unbytes.l0 k x0 (IntKind.u64.wrap ((IntKind.u64.wrap (256 * x3)) + (IntKind.u64.wrap (bt x0 x4)))) (wrap64 (x4 + 1))) else (none)) else (some x3)
def relstoreref_unbytes.f (k : Nat) (a0 : ByteArray) : Option (Int) := relstoreref_unbytes.l0 k a0 0 0
end Go.Proofs.Ythaoaaboempajab.QLogRuns
namespace Go.Proofs.YthaoaaboempajabE
open Go.RowKit Go.Proofs.YthaoaaboempajabW.PrintWords
theorem bt_in {s : ByteArray} {X Y : List UInt8} {x : UInt8} (h : s.data.toList = X ++ x :: Y) : bt s (X.length : Int) = (x.toNat : Int) := by
  have hs : s.size = X.length + (Y.length + 1) := by
    have := congrArg List.length h
    simpa using this
  unfold bt
  have hlt : ((X.length : Int)).toNat < s.size := by simp; omega
  rw [dif_pos hlt]
  have : s[((X.length : Int)).toNat]'hlt = x := by
    show s.data[((X.length : Int)).toNat]'hlt = x
    have e : s.data[((X.length : Int)).toNat]'hlt = s.data.toList[X.length]'(by rw [h]; simp) := by simp
    rw [e]
    simp [h]
  rw [this]
theorem size_in {s : ByteArray} {X : List UInt8} (h : s.data.toList = X) : s.size = X.length := by
  have := congrArg List.length h
  simpa using this
theorem getD_in {α : Type} {l X Y : List α} {x z : α} (h : l = X ++ x :: Y) : l.getD ((X.length : Int).toNat) z = x := by
  rw [h, Int.toNat_natCast, List.getD_eq_getElem?_getD, List.getElem?_append_right (Nat.le_refl _)]
  simp
end Go.Proofs.YthaoaaboempajabE
namespace Go.Proofs.Ythaoaaboempajab.Disk
open Go.RowKit Go.Proofs.YthaoaaboempajabW.PrintWords Go.Proofs.YthaoaaboempajabW.PrintLast Go.Proofs.YthaoaaboempajabW.PrintMore
set_option linter.unusedVariables false
set_option linter.unusedSimpArgs false
def fill (l : List Int) (n : Nat) : List Int := l ++ List.replicate (n - l.length) 0
def putL (l : List Int) (at_ : Nat) (s : ByteArray) : List Int := (fill l (at_ + s.size)).take at_ ++ (bytesOf s ++ (fill l (at_ + s.size)).drop (at_ + s.size))
def lenOf : Value → Nat
  | .slice _ n _ => n
  | _ => 0
theorem byteCells_encs (t : ByteArray) : Lib.byteCells t.data.toList = encs (Value.int .u8) (bytesOf t) := by simp [Lib.byteCells, encs, bytesOf]
theorem row_copy {W : World} {base g c : Nat} {ok : Nat → Prop} {xs : List Int} {off : Nat} {t : ByteArray} (h : Kd.R (Kd.int .u8) 5 W base ok (.slice (some ⟨g, 0, none⟩) xs.length c) xs) (hfit : off + t.size ≤ xs.length) :
    ∃ cur : Array Value, W.heap[g]? = some (.cells cur 5 (0, 0)) ∧ off + t.size ≤ cur.size ∧ ok g ∧
      Kd.R (Kd.int .u8) 5 (W.setRow g (cur.toList.take off ++ Lib.byteCells t.data.toList ++ cur.toList.drop (off + t.size)).toArray) base ok (.slice (some ⟨g, 0, none⟩) xs.length c) (xs.take off ++ (bytesOf t ++ xs.drop (off + t.size))) := by
  obtain ⟨hl, hv⟩ := Kd.own_of_R h
  rcases hv with ⟨hv, _⟩ | ⟨g', cap, cur, hv, hb, hg, hc, hm, hz, ht⟩
  · cases hv
  · cases hv
    refine ⟨cur, hg, by omega, h.1 g rfl, ?_⟩
    have hbl : (Lib.byteCells t.data.toList).length = t.size := by rw [byteCells_encs]; simp [encs, bytesOf_length]
    have hnl : (xs.take off ++ (bytesOf t ++ xs.drop (off + t.size))).length = xs.length := by simp [bytesOf_length]; omega
    refine (show (Kd.int .u8).R 5 _ base ok (.slice (some ⟨g, 0, none⟩) xs.length c) _ from Kd.R_of_own (enc := Value.int .u8) (h1 := fun _ => rfl) ?_ (fun k hk => h.1 k hk))
    rw [hnl]
    refine ⟨by simp [encs, bytesOf_length]; omega, .inr ⟨g, c, _, rfl, hb, setRow_heap W g cur _ 5 (0, 0) hg, hc, hm, ?_, ?_⟩⟩
    · simp [hbl]; omega
    · rw [Nat.mul_one] at ht ⊢
      have h1 : encs (Value.int .u8) (xs.take off) = cur.toList.take off := by
        rw [show encs (Value.int .u8) (xs.take off) = (encs (Value.int .u8) xs).take off by simp [encs, List.map_take], ← ht, List.take_take, Nat.min_eq_left (by omega)]
      have h2 : encs (Value.int .u8) (xs.drop (off + t.size)) = (cur.toList.drop (off + t.size)).take (xs.length - (off + t.size)) := by
        rw [show encs (Value.int .u8) (xs.drop (off + t.size)) = (encs (Value.int .u8) xs).drop (off + t.size) by simp [encs, List.map_drop], ← ht, List.drop_take]
      have h3 : encs (Value.int .u8) (xs.take off ++ (bytesOf t ++ xs.drop (off + t.size))) = encs (Value.int .u8) (xs.take off) ++ (encs (Value.int .u8) (bytesOf t) ++ encs (Value.int .u8) (xs.drop (off + t.size))) := by simp [encs]
      rw [h3, h1, h2, ← byteCells_encs, List.append_assoc, List.take_append, List.take_append]
      have ho : (cur.toList.take off).length = off := by rw [List.length_take, Array.length_toList]; omega
      rw [ho, hbl, show List.take xs.length (cur.toList.take off) = cur.toList.take off from List.take_of_length_le (by rw [ho]; omega), show List.take (xs.length - off) (Lib.byteCells t.data.toList) = Lib.byteCells t.data.toList from List.take_of_length_le (by rw [hbl]; omega), Nat.sub_sub]
theorem copy_at {ops : Array Oper} {rest : List Oper} {o : Oper} {a : Act} {W : World} {Q : Exit → Act → World → Prop} (hgd : o.guard = none) (d s : Operand)
    (hop : o.op = .call { callee := .builtin .copy, args := #[d, s], argTypes := #[53, 9] }) {base : Nat} {ok : Nat → Prop} {A : Option Addr} {c : Nat} {xs : List Int} (off : Nat) (t : ByteArray)
    (R : Kd.R (Kd.int .u8) 5 W base ok (.slice A xs.length c) xs) {ad : Option Addr} (had : ad = if c = off then A else A.map (·.add (off * 1))) (hd : a.eval d = .slice ad (xs.length - off) (c - off)) (hs : a.eval s = .string t) (hfit : off + t.size ≤ xs.length)
    (h : ∀ w', Kd.R (Kd.int .u8) 5 w' base ok (.slice A xs.length c) (xs.take off ++ (bytesOf t ++ xs.drop (off + t.size))) → Below base W w' → Kept W w' ok → wpList Try.prog ops Q rest (a.put o.dst (goInt t.size)) w') :
    wpList Try.prog ops Q (o :: rest) a W := by
  subst had
  by_cases h0 : t.size = 0
  · have hb : bytesOf t = [] := List.eq_nil_of_length_eq_zero (by rw [bytesOf_length, h0])
    have hx : xs.take off ++ (bytesOf t ++ xs.drop (off + t.size)) = xs := by rw [hb, h0]; simp
    have := h W (by rw [hx]; exact R) (Below.refl _ _) (Kept.refl _ _)
    refine wpList_plain hgd fun K hK => ?_
    have hrun := Lib.run_copy_empty_string (P := Try.prog) W 53 9 o.type 5 (if c = off then A else A.map (·.add (off * 1))) (xs.length - off) (c - off) t Try.underlying53 (by kernel_rfl) h0
    unfold Oper.wp
    simp only [Nat.mul_one] at hd hrun
    simp [execOp, hop, resolve, invoke, builtin, hd, hs, hrun, Result.andThen]
    rw [h0] at this
    exact hK _ _ this
  · obtain ⟨g, cap, hv, hb, hg, _⟩ := Kd.R_form R (by omega)
    cases hv
    have hc : xs.length ≤ c := by
      obtain ⟨_, hv⟩ := Kd.own_of_R R
      rcases hv with ⟨hv, _⟩ | ⟨g', cap, cur, hv, _, _, hc, _⟩
      · cases hv
      · cases hv; exact hc
    obtain ⟨cur, hgc, hcs, hok, hR⟩ := row_copy R hfit
    have e : (Addr.mk g 0 none).add (off * 1) = ⟨g, off, none⟩ := by
      rw [Nat.mul_one]
      unfold Addr.add
      split
      · rename_i h0; subst h0; rfl
      · simp
    rw [if_neg (by omega), Option.map_some, e] at hd
    have hrun := Lib.run_copy_row_string (P := Try.prog) W 53 9 o.type 5 g off (xs.length - off) (c - off) t cur 5 Try.underlying53 (by kernel_rfl) hgc (by omega) hcs
    have := h _ hR (below_setRow (Below.refl base W) hb _) ⟨(below_setRow (Below.refl base W) hb _).size, fun i hi hn => setRow_other W g i _ (fun e => hn (e ▸ hok))⟩
    generalize W.setRow g (cur.toList.take off ++ Lib.byteCells t.data.toList ++ cur.toList.drop (off + t.size)).toArray = w2 at hrun this
    refine wpList_plain hgd fun K hK => ?_
    unfold Oper.wp
    simp [execOp, hop, resolve, invoke, builtin, hd, hs, hrun, Result.andThen]
    exact hK _ _ this
set_option maxHeartbeats 8000000 in
set_option maxRecDepth 100000 in
theorem put.calls (P0 : Nat → Prop) (u : Value) (l : List Int) (at_ : Nat) (s : ByteArray) (w0 w : World) (hB : Below w0.heap.size w0 w) (ho : Kd.R (Kd.int .u8) 5 w w0.heap.size P0 u l) (hn : at_ + s.size ≤ 140737488355000) (hl : l.length ≤ 140737488355000) :
    Calls Try.prog 69 #[u, .int .i64 (at_ : Int), .string s] w fun e w' => ∃ v : Value, e = .returned v ∧ Kd.R (Kd.int .u8) 5 w' w0.heap.size (fun k => P0 k ∨ w.heap.size ≤ k) v (putL l at_ s) ∧ Below w0.heap.size w0 w' ∧ Kept w w' P0 := by
  have HO := Aside0.mk (Kd.R_mono ho (ok' := fun k => P0 k ∨ w.heap.size ≤ k) (fun k hk => .inl hk))
  have HB := Aside0.mk hB
  have HK := Aside0.mk (Kept.refl w P0)
  have HN := Aside0.mk hn
  have HL := Aside0.mk hl
  obtain ⟨i5, hi5⟩ : ∃ i, Try.prog.info? 5 = some i := Option.isSome_iff_exists.1 (by kernel_rfl)
  clear ho hB hn hl
  go_enter Try.func69, Try.ntmps69
  go_wp2_with (fail)
  go_loopw [0] (fun v0 wr => ∃ (v : Value) (m : Nat), v0 = v ∧ Aside0 (m = 0 ∨ l.length + m ≤ at_ + s.size) ∧ Aside0 (Kd.R (Kd.int .u8) 5 wr w0.heap.size (fun k => P0 k ∨ w.heap.size ≤ k) v (l ++ List.replicate m 0)) ∧ Aside0 (Below w0.heap.size w0 wr) ∧ Aside0 (Kept w wr P0)) (fun v0 _ => at_ + s.size - lenOf v0)
  case atStart => exact ⟨_, 0, rfl, ⟨.inl rfl⟩, by rw [List.replicate_zero, List.append_nil]; exact HO, HB, HK⟩
  case round =>
    clear HO HB HK
    obtain ⟨v, m, rfl, HM, HO, HB, HK⟩ := hrel
    obtain ⟨A, c, rfl⟩ := Kd.R_slice HO.out
    have hn := HN.out
    have hl := HL.out
    have w1_ : IntKind.i64.wrap ((at_ : Int) + (s.size : Int)) = (at_ : Int) + (s.size : Int) := IntWalk.i64_in _ (by omega)
    have hlen : (l ++ List.replicate m (0 : Int)).length = l.length + m := by simp
    have HM' := HM.out
    by_cases hlt : (l ++ List.replicate m (0 : Int)).length < at_ + s.size
    · have t_ : decide (((l ++ List.replicate m (0 : Int)).length : Int) < (at_ : Int) + (s.size : Int)) = true := decide_eq_true (by omega)
      go_wp2_with (first
        | ((with_reducible refine gate_builtin (b := .append) (xs := #[.tmp 14, .tmp 15]) rfl ?_); at_builtin; refine Kd.R_append (Kd.int .u8) (w0 := w0) w0.heap.size rfl (.tmp 14) (.tmp 15) 53 5 (.int .u8 0) 1 rfl Try.underlying53 (by kernel_rfl) rfl (by decide) (by omega) (.slice A (l ++ List.replicate m 0).length c) (l ++ List.replicate m 0) 0 [.int .u8 0] (fun k => P0 k ∨ w.heap.size ≤ k) (fun _ => False) rfl rfl ?aP (fun _ hk => hk.elim) ?aF ?aO ?aB ?aS ?aL ?_; (case aP => exact rfl); (case aB => exact HB.out); (case aF => exact (fun k hk => .inr (Nat.le_trans HK.out.1 hk))); (case aO => exact HO.out); (case aS => exact below_size HB.out); (case aL => omega); intro v1 w1 ho hb hg hat; have HO1 := Aside0.mk ho; have HB1 := Aside0.mk hb; have HG1 := Aside0.mk hg; clear ho hb hg hat))
      go_roundw
      case rel =>
        refine ⟨_, m + 1, rfl, ⟨.inr (by omega)⟩, ⟨?_⟩, HB1, ⟨?_⟩⟩
        · have h := HO1.out
          rw [List.append_assoc, show List.replicate m (0 : Int) ++ [0] = List.replicate (m + 1) 0 by rw [List.replicate_succ']] at h
          exact h
        · exact Kept.then_ HK.out ⟨HG1.out.size, fun k hk hn => HG1.out.block k hk (fun e => by
            rcases HO.out.1 k (by rw [← e]) with h | h
            · exact hn (.inl h)
            · exact hn (.inr h))⟩ (fun k hk => hk)
      case measure =>
        obtain ⟨A1, c1, e1⟩ := Kd.R_slice HO1.out
        subst e1
        simp [lenOf]
        omega
    · have t_ : decide (((l ++ List.replicate m (0 : Int)).length : Int) < (at_ : Int) + (s.size : Int)) = false := decide_eq_false (by omega)
      have hfl : l ++ List.replicate m 0 = fill l (at_ + s.size) := by
        unfold fill
        rcases HM' with rfl | h
        · rw [hlen] at hlt
          rw [Nat.sub_eq_zero_of_le (by omega)]
        · rw [hlen] at hlt
          rw [show m = at_ + s.size - l.length by omega]
      clear hlen
      generalize l ++ List.replicate m (0 : Int) = xs at *
      have HF := Aside0.mk hfl
      clear hfl HM HM'
      have hxs : ¬ ((xs.length : Int) < (at_ : Int) + (s.size : Int)) := by omega
      have sl_ := cut_from (P := Try.prog) 53 5 .i64 Try.underlying53 hi5 1 (by have h := QDiskRuns.info5; rw [hi5] at h; simp at h; exact h.2.1) A xs.length c (at_ : Int) (by omega) (by omega)
      rw [Int.toNat_natCast] at sl_
      obtain ⟨ad, had⟩ : ∃ ad, ad = (if c = at_ then A else A.map (·.add (at_ * 1))) := ⟨_, rfl⟩
      rw [← had] at sl_
      have HAD := Aside0.mk had
      clear had
      go_upto_region 4 with (refine copy_at rfl (.tmp 19) (.tmp 20) rfl at_ s HO.out HAD.out rfl rfl (by omega) ?_; intro w2 ho hb hk; have HO2 := Aside0.mk ho; have HB2 := Aside0.mk hb; have HK2 := Aside0.mk hk; clear ho hb hk)
      go_wp2_with (fail)
      go_ret
      have hfl := HF.out
      subst hfl
      exact ⟨_, rfl, HO2.out, HB.out.trans HB2.out, Kept.then_ HK.out HK2.out (fun k hk => hk)⟩
def doneL (l : List Int) (at_ : Nat) (s : ByteArray) (cut : Bool) : List Int := if cut then (fill l at_).take at_ else putL l at_ s
set_option maxHeartbeats 8000000 in
set_option maxRecDepth 100000 in
theorem done.put (P0 : Nat → Prop) (u : Value) (l : List Int) (f : Int) (at_ : Nat) (s : ByteArray) (w0 w : World) (hB : Below w0.heap.size w0 w) (ho : Kd.R (Kd.int .u8) 5 w w0.heap.size P0 u l) (hn : at_ + s.size ≤ 140737488355000) (hl : l.length ≤ 140737488355000) :
    Calls Try.prog 41 #[.agg #[.int .i64 f, .int .i64 (at_ : Int), .string s, .bool false], u] w fun e w' => ∃ v : Value, e = .returned v ∧ Kd.R (Kd.int .u8) 5 w' w0.heap.size (fun k => P0 k ∨ w.heap.size ≤ k) v (putL l at_ s) ∧ Below w0.heap.size w0 w' ∧ Kept w w' P0 := by
  have HO := Aside0.mk ho
  have HB := Aside0.mk hB
  have HN := Aside0.mk hn
  have HL := Aside0.mk hl
  clear ho hB hn hl
  go_enter Try.func41, Try.ntmps41
  go_upto_region 1 with ((with_reducible refine gate_dst (N := 2) rfl ?_); refine box_event ?hg (N := 2) ?hd (cs := #[.int .i64 f, .int .i64 (at_ : Int), .string s, .bool false]) (t := 87) ?hr ?_; (case hd => rfl); (case hg => rfl); (case hr => first | (go_simp; done) | (go_simp; rfl)); intro gb hgb w1 hbox hb; have HX := Aside0.mk hbox; have HB0 := Aside0.mk hb; clear hgb hbox hb)
  have c1 := blk_cell HX.out 1
  have c2 := blk_cell HX.out 2
  have c3 := blk_cell HX.out 3
  simp only [List.getElem?_toArray, List.getElem?_cons_zero, List.getElem?_cons_succ] at c1 c2 c3
  have HO1 := Aside0.mk (Kd.R_below HO.out HB0.out)
  have HB1 := Aside0.mk (below_step HB.out HB0.out)
  go_upto_region 6 with (go_at_call 69; (refine (put.calls P0 u l at_ s w0 _ HB1.out HO1.out HN.out HL.out).mono ?_); rintro e2 w2 ⟨v2, rfl, ho2, hb2, hk2⟩; have HO2 := Aside0.mk ho2; have HB2 := Aside0.mk hb2; have HK2 := Aside0.mk hk2; clear ho2 hb2 hk2)
  go_ret
  exact ⟨_, rfl, Kd.R_mono HO2.out (fun k hk => hk.imp id (fun h => Nat.le_trans HB0.out.size h)), HB2.out, Kept.then_ (Kept.of_below HB0.out P0) HK2.out (fun k hk => .inl hk)⟩
set_option maxHeartbeats 8000000 in
set_option maxRecDepth 100000 in
theorem done.cut (P0 : Nat → Prop) (u : Value) (l : List Int) (f : Int) (at_ : Nat) (s : ByteArray) (w0 w : World) (hB : Below w0.heap.size w0 w) (ho : Kd.R (Kd.int .u8) 5 w w0.heap.size P0 u l) (hn : at_ ≤ 140737488355000) (hl : l.length ≤ 140737488355000) :
    Calls Try.prog 41 #[.agg #[.int .i64 f, .int .i64 (at_ : Int), .string s, .bool true], u] w fun e w' => ∃ v : Value, e = .returned v ∧ Kd.R (Kd.int .u8) 5 w' w0.heap.size (fun k => P0 k ∨ w.heap.size ≤ k) v ((fill l at_).take at_) ∧ Below w0.heap.size w0 w' ∧ Kept w w' P0 := by
  have HO := Aside0.mk ho
  have HB := Aside0.mk hB
  have HN := Aside0.mk hn
  have HL := Aside0.mk hl
  obtain ⟨i5, hi5⟩ : ∃ i, Try.prog.info? 5 = some i := Option.isSome_iff_exists.1 (by kernel_rfl)
  clear ho hB hn hl
  go_enter Try.func41, Try.ntmps41
  go_upto_region 1 with ((with_reducible refine gate_dst (N := 2) rfl ?_); refine box_event ?hg (N := 2) ?hd (cs := #[.int .i64 f, .int .i64 (at_ : Int), .string s, .bool true]) (t := 87) ?hr ?_; (case hd => rfl); (case hg => rfl); (case hr => first | (go_simp; done) | (go_simp; rfl)); intro gb hgb w1 hbox hb; have HX1 := Aside0.mk hbox; have HB0 := Aside0.mk hb; clear hgb hbox hb)
  have c3 := blk_cell HX1.out 3
  simp only [List.getElem?_toArray, List.getElem?_cons_zero, List.getElem?_cons_succ] at c3
  have HO1 := Aside0.mk (Kd.R_mono (Kd.R_below HO.out HB0.out) (ok' := fun k => P0 k ∨ w.heap.size ≤ k) (fun k hk => .inl hk))
  have HB1 := Aside0.mk (below_step HB.out HB0.out)
  have HK1 := Aside0.mk (Kept.of_below HB0.out P0)
  clear HO HB
  go_wp2_with (fail)
  clear c3
  go_loopw [1] (fun v0 wr => ∃ (v : Value) (m : Nat), v0 = v ∧ Aside0 (m = 0 ∨ l.length + m ≤ at_) ∧ Aside0 (Kd.R (Kd.int .u8) 5 wr w0.heap.size (fun k => P0 k ∨ w.heap.size ≤ k) v (l ++ List.replicate m 0)) ∧ Aside0 (Below w0.heap.size w0 wr) ∧ Aside0 (Kept w wr P0) ∧ Aside0 (wr.heap[gb]? = some (.cells #[.int .i64 f, .int .i64 (at_ : Int), .string s, .bool true] 87 (0, 0)))) (fun v0 _ => at_ - lenOf v0)
  case atStart => exact ⟨_, 0, rfl, ⟨.inl rfl⟩, by rw [List.replicate_zero, List.append_nil]; exact HO1, HB1, HK1, HX1⟩
  case round =>
    clear HO1 HB1 HK1 HX1 HB0
    obtain ⟨v, m, rfl, HM, HO, HB, HK, HX⟩ := hrel
    obtain ⟨A, c, rfl⟩ := Kd.R_slice HO.out
    have hn := HN.out
    have hl := HL.out
    have c1 := blk_cell HX.out 1
    simp only [List.getElem?_toArray, List.getElem?_cons_zero, List.getElem?_cons_succ] at c1
    have hlen : (l ++ List.replicate m (0 : Int)).length = l.length + m := by simp
    have HM' := HM.out
    by_cases hlt : (l ++ List.replicate m (0 : Int)).length < at_
    · have t_ : decide (((l ++ List.replicate m (0 : Int)).length : Int) < (at_ : Int)) = true := decide_eq_true (by omega)
      go_wp2_with (first
        | ((with_reducible refine gate_builtin (b := .append) (xs := #[.tmp 12, .tmp 13]) rfl ?_); at_builtin; refine Kd.R_append (Kd.int .u8) (w0 := w0) w0.heap.size rfl (.tmp 12) (.tmp 13) 53 5 (.int .u8 0) 1 rfl Try.underlying53 (by kernel_rfl) rfl (by decide) (by omega) (.slice A (l ++ List.replicate m 0).length c) (l ++ List.replicate m 0) 0 [.int .u8 0] (fun k => P0 k ∨ w.heap.size ≤ k) (fun _ => False) rfl rfl ?aP (fun _ hk => hk.elim) ?aF ?aO ?aB ?aS ?aL ?_; (case aP => exact rfl); (case aB => exact HB.out); (case aF => exact (fun k hk => .inr (Nat.le_trans HK.out.1 hk))); (case aO => exact HO.out); (case aS => exact below_size HB.out); (case aL => omega); intro v1 w1 ho hb hg hat; have HO1 := Aside0.mk ho; have HB1 := Aside0.mk hb; have HG1 := Aside0.mk hg; clear ho hb hg hat))
      go_roundw
      case rel =>
        refine ⟨_, m + 1, rfl, ⟨.inr (by omega)⟩, ⟨?_⟩, HB1, ⟨?_⟩, ⟨blk_grown HX.out HG1.out (Kd.R_ne HO.out HX.out (by decide))⟩⟩
        · have h := HO1.out
          rw [List.append_assoc, show List.replicate m (0 : Int) ++ [0] = List.replicate (m + 1) 0 by rw [List.replicate_succ']] at h
          exact h
        · exact Kept.then_ HK.out ⟨HG1.out.size, fun k hk hn => HG1.out.block k hk (fun e => by
            rcases HO.out.1 k (by rw [← e]) with h | h
            · exact hn (.inl h)
            · exact hn (.inr h))⟩ (fun k hk => hk)
      case measure =>
        obtain ⟨A1, c1, e1⟩ := Kd.R_slice HO1.out
        subst e1
        simp [lenOf]
        omega
    · have t_ : decide (((l ++ List.replicate m (0 : Int)).length : Int) < (at_ : Int)) = false := decide_eq_false (by omega)
      have hfl : l ++ List.replicate m 0 = fill l at_ := by
        unfold fill
        rcases HM' with rfl | h
        · rw [hlen] at hlt
          rw [Nat.sub_eq_zero_of_le (by omega)]
        · rw [hlen] at hlt
          rw [show m = at_ - l.length by omega]
      clear hlen
      generalize l ++ List.replicate m (0 : Int) = xs at *
      have HF := Aside0.mk hfl
      clear hfl HM HM'
      have hxs : ¬ ((xs.length : Int) < (at_ : Int)) := by omega
      have hc := (Kd.R_reads' HO.out).2.1
      have sl_ := cut_to (P := Try.prog) 53 5 .i64 Try.underlying53 hi5 A xs.length c (at_ : Int) (by omega) (by omega) hc
      rw [Int.toNat_natCast] at sl_
      go_wp2_with (fail)
      go_ret
      have hfl := HF.out
      subst hfl
      exact ⟨_, rfl, by
        have h := Kd.R_take HO.out (m := at_) (by omega)
        exact h, HB.out, HK.out⟩
def dcells (x0 x1 x2 x3 x4 : Value) (f : Int) (d : Bool) (c : Int) : Array Value := #[x0, x1, x2, x3, x4, .int .i64 f, .bool d, .int .i64 c]
def turn (f : Int) (d : Bool) (c : Int) : Int × Int × Bool × Int := if d = true ∨ f = 0 then (2, f, true, c) else (0, if f > 0 then f - 1 else f, d, c + 1)
theorem set_kept {w : World} {g j : Nat} {v : Value} : Kept w (w.setCell ⟨g, j, none⟩ v) (fun k => k = g) :=
  ⟨by simp, fun i hi hn => Below.heap_setCell w ⟨g, j, none⟩ v i hn⟩
theorem turn.calls (g : Nat) (x0 x1 x2 x3 x4 : Value) (f : Int) (d : Bool) (c : Int) (w0 w : World) (hB : Below w0.heap.size w0 w) (hg : w0.heap.size ≤ g)
    (hd : w.heap[g]? = some (.cells (dcells x0 x1 x2 x3 x4 f d c) 59 (0, 0))) (hf : -9223372036854775808 ≤ f ∧ f < 9223372036854775808) (hc : 0 ≤ c ∧ c < 9223372036854775807) :
    Calls Try.prog 72 #[.pointer (some ⟨g, 0, none⟩)] w fun e w' => e = .returned (.int .i64 (turn f d c).1) ∧ w'.heap[g]? = some (.cells (dcells x0 x1 x2 x3 x4 (turn f d c).2.1 (turn f d c).2.2.1 (turn f d c).2.2.2) 59 (0, 0)) ∧ Below w0.heap.size w0 w' ∧ Kept w w' (fun k => k = g) ∧ w'.heap.size = w.heap.size := by
  have HB := Aside0.mk hB
  have HG := Aside0.mk hg
  have HD := Aside0.mk hd
  have c5 : w.cell? ⟨g, 5, none⟩ = some (.int .i64 f) := (blk_cell hd 5).trans rfl
  have c6 : w.cell? ⟨g, 6, none⟩ = some (.bool d) := (blk_cell hd 6).trans rfl
  have c7 : w.cell? ⟨g, 7, none⟩ = some (.int .i64 c) := (blk_cell hd 7).trans rfl
  have z5 := blk_frozen hd 5
  have z6 := blk_frozen hd 6
  have z7 := blk_frozen hd 7
  clear hB hg hd
  have w1_ : IntKind.i64.wrap (c + 1) = c + 1 := IntWalk.i64_in _ (by omega)
  cases d with
  | true =>
    go_enter Try.func72, Try.ntmps72
    go_wp2_with (fail)
    go_ret
    exact ⟨by simp [turn], blk_put HD.out 6 _ rfl, HB.out.setCell (p := ⟨g, 6, none⟩) HG.out _, set_kept, by simp⟩
  | false =>
    by_cases h0 : f = 0
    · subst h0
      go_enter Try.func72, Try.ntmps72
      go_wp2_with (fail)
      go_ret
      exact ⟨by simp [turn], blk_put HD.out 6 _ rfl, HB.out.setCell (p := ⟨g, 6, none⟩) HG.out _, set_kept, by simp⟩
    · have e0 : (f == 0) = false := beq_eq_false_iff_ne.mpr h0
      by_cases h1 : f > 0
      · have d1 : decide (f > 0) = true := decide_eq_true h1
        have w2_ : IntKind.i64.wrap (f - 1) = f - 1 := IntWalk.i64_in _ (by omega)
        go_enter Try.func72, Try.ntmps72
        go_wp2_with (fail)
        go_ret
        refine ⟨by simp [turn, h0], ?_, (HB.out.setCell (p := ⟨g, 5, none⟩) HG.out _).setCell (p := ⟨g, 7, none⟩) HG.out _, Kept.then_ set_kept set_kept (fun k hk => .inl hk), by simp⟩
        have := blk_put (blk_put HD.out 5 (.int .i64 (f - 1)) rfl) 7 (.int .i64 (c + 1)) rfl
        simpa [turn, h0, h1, dcells] using this
      · have d1 : decide (f > 0) = false := decide_eq_false h1
        go_enter Try.func72, Try.ntmps72
        go_wp2_with (fail)
        go_ret
        refine ⟨by simp [turn, h0], ?_, HB.out.setCell (p := ⟨g, 7, none⟩) HG.out _, set_kept, by simp⟩
        have := blk_put HD.out 7 (.int .i64 (c + 1)) rfl
        simpa [turn, h0, show ¬ 0 < f from Int.not_lt.mpr h1, dcells] using this
theorem down.calls (g : Nat) (x0 x1 x2 x3 x4 : Value) (f : Int) (d : Bool) (c : Int) (w : World) (hd : w.heap[g]? = some (.cells (dcells x0 x1 x2 x3 x4 f d c) 59 (0, 0))) :
    Calls Try.prog 18 #[.pointer (some ⟨g, 0, none⟩)] w fun e w' => e = .returned (.bool d) ∧ w' = w := by
  have c6 : w.cell? ⟨g, 6, none⟩ = some (.bool d) := (blk_cell hd 6).trans rfl
  clear hd
  go_enter Try.func18, Try.ntmps18
  go_wp2_with (fail)
  go_ret
  exact ⟨rfl, rfl⟩
end Go.Proofs.Ythaoaaboempajab.Disk
namespace Go.Proofs.Ythaoaaboempajab.Disk
open Go.RowKit Go.Proofs.YthaoaaboempajabW.PrintWords Go.Proofs.YthaoaaboempajabW.PrintLast Go.Proofs.YthaoaaboempajabW.PrintMore
attribute [local go_sem] max2_int min2_int max_two min_two
set_option linter.unusedVariables false
set_option linter.unusedSimpArgs false
def failOf (n : Int) : Int := if n < 0 then -1 else n
theorem fail.calls (g : Nat) (x0 x1 x2 x3 x4 : Value) (f : Int) (d : Bool) (c n : Int) (w0 w : World) (hB : Below w0.heap.size w0 w) (hg : w0.heap.size ≤ g) (hd : w.heap[g]? = some (.cells (dcells x0 x1 x2 x3 x4 f d c) 59 (0, 0))) :
    Calls Try.prog 6 #[.pointer (some ⟨g, 0, none⟩), .int .i64 n] w fun e w' => e = .returned (.tuple #[]) ∧ w'.heap[g]? = some (.cells (dcells x0 x1 x2 x3 x4 (failOf n) d c) 59 (0, 0)) ∧ Below w0.heap.size w0 w' ∧ Kept w w' (fun k => k = g) ∧ w'.heap.size = w.heap.size := by
  have HB := Aside0.mk hB
  have HG := Aside0.mk hg
  have HD := Aside0.mk hd
  have c5 : w.cell? ⟨g, 5, none⟩ = some (.int .i64 f) := (blk_cell hd 5).trans rfl
  have z5 := blk_frozen hd 5
  clear hB hg hd
  have hm : max n (-1) = failOf n := by unfold failOf; split <;> omega
  go_enter Try.func6, Try.ntmps6
  go_wp2_with (fail)
  all_goals
    refine bodyPost_end (v := .tuple #[]) (by first | rfl | (simp [results, Try.f6]; done) | (simp [results, Try.f6]; rfl)) rfl ?_
    refine ⟨rfl, ?_, HB.out.setCell (p := ⟨g, 5, none⟩) HG.out _, set_kept, by simp⟩
  · have e : failOf n = -1 := by unfold failOf; rw [if_pos (by omega)]
    rw [e]
    exact blk_put HD.out 5 (.int .i64 (-1)) rfl
  · have e : failOf n = n := by unfold failOf; split <;> omega
    rw [e]
    exact blk_put HD.out 5 (.int .i64 n) rfl
end Go.Proofs.Ythaoaaboempajab.Disk
namespace Go.Proofs.Ythaoaaboempajab.Disk
open Go.RowKit Go.Proofs.YthaoaaboempajabW.PrintWords Go.Proofs.YthaoaaboempajabW.PrintLast Go.Proofs.YthaoaaboempajabW.PrintMore
set_option linter.unusedVariables false
set_option linter.unusedSimpArgs false
structure Chg where
  file : Int
  at_ : Nat
  text : ByteArray
  cut : Bool
def noChg : Chg := ⟨0, 0, ByteArray.empty, false⟩
def zerosB (n : Nat) : ByteArray := ⟨(List.replicate n (0 : UInt8)).toArray⟩
def fillB (s : ByteArray) (n : Nat) : ByteArray := if n ≤ s.size then s else s ++ zerosB (n - s.size)
def putB (s : ByteArray) (a : Nat) (t : ByteArray) : ByteArray := (fillB s (a + t.size)).extract 0 a ++ t ++ (fillB s (a + t.size)).extract (a + t.size) (fillB s (a + t.size)).size
def onB (c : Chg) (s : ByteArray) : ByteArray := if c.cut = true then (fillB s c.at_).extract 0 c.at_ else putB s c.at_ c.text
def seenB (f : Int) (ws : List Chg) (s : ByteArray) : ByteArray := ws.foldl (fun s c => if c.file = f then onB c s else s) s
theorem seenB_snoc (f : Int) (ws : List Chg) (c : Chg) (s : ByteArray) : seenB f (ws ++ [c]) s = if c.file = f then onB c (seenB f ws s) else seenB f ws s := by simp [seenB]
theorem extract_list (s : ByteArray) (a b : Nat) : (s.extract a b).data.toList = (s.data.toList.drop a).take (b - a) := by
  rw [ByteArray.data_extract, Array.toList_extract, List.extract_eq_take_drop]
theorem bytesOf_append (a b : ByteArray) : bytesOf (a ++ b) = bytesOf a ++ bytesOf b := by
  unfold bytesOf
  rw [ByteArray.data_append, Array.toList_append, List.map_append]
theorem bytesOf_extract (s : ByteArray) (a b : Nat) : bytesOf (s.extract a b) = ((bytesOf s).drop a).take (b - a) := by
  unfold bytesOf
  rw [extract_list, List.map_take, List.map_drop]
theorem bytesOf_zeros (n : Nat) : bytesOf (zerosB n) = List.replicate n 0 := by simp [bytesOf, zerosB]
theorem bytesOf_inj {a b : ByteArray} (h : bytesOf a = bytesOf b) : a = b := by
  have h2 : a.data.toList = b.data.toList := by
    refine List.map_inj_right (f := fun x : UInt8 => (x.toNat : Int)) ?_ |>.1 h
    intro x y e
    have e2 : x.toNat = y.toNat := Int.ofNat_inj.1 e
    exact UInt8.toNat_inj.1 e2
  have h3 : a.data = b.data := Array.toList_inj.1 h2
  cases a
  cases b
  simp_all
theorem bytesOf_fillB (s : ByteArray) (n : Nat) : bytesOf (fillB s n) = fill (bytesOf s) n := by
  unfold fillB fill
  rw [bytesOf_length]
  split
  · rw [Nat.sub_eq_zero_of_le (by omega)]; simp
  · rw [bytesOf_append, bytesOf_zeros]
theorem size_fillB (s : ByteArray) (n : Nat) : (fillB s n).size = max s.size n := by
  rw [← bytesOf_length, bytesOf_fillB]
  simp [fill, bytesOf_length]
  omega
theorem fill_length (l : List Int) (n : Nat) : (fill l n).length = max l.length n := by simp [fill]; omega
theorem bytesOf_putB (s : ByteArray) (a : Nat) (t : ByteArray) : bytesOf (putB s a t) = putL (bytesOf s) a t := by
  unfold putB putL
  rw [bytesOf_append, bytesOf_append, bytesOf_extract, bytesOf_extract, bytesOf_fillB, List.append_assoc]
  congr 2
  rw [List.take_of_length_le]
  rw [List.length_drop, fill_length, size_fillB, bytesOf_length]
  omega
theorem bytesOf_onB (c : Chg) (s : ByteArray) : bytesOf (onB c s) = doneL (bytesOf s) c.at_ c.text c.cut := by
  unfold onB doneL
  split
  · rw [bytesOf_extract, bytesOf_fillB]; simp
  · exact bytesOf_putB _ _ _
theorem putL_length (l : List Int) (a : Nat) (t : ByteArray) : (putL l a t).length = max l.length (a + t.size) := by
  unfold putL
  simp [fill_length, bytesOf_length]
  omega
theorem size_onB (c : Chg) (s : ByteArray) {n : Nat} (hs : s.size ≤ n) (hc : c.at_ + c.text.size ≤ n) : (onB c s).size ≤ n := by
  rw [← bytesOf_length, bytesOf_onB]
  unfold doneL
  split
  · rw [List.length_take, fill_length]; omega
  · rw [putL_length, bytesOf_length]; omega
theorem size_seenB (f : Int) {n : Nat} : ∀ (ws : List Chg) (s : ByteArray), s.size ≤ n → (∀ c ∈ ws, c.at_ + c.text.size ≤ n) → (seenB f ws s).size ≤ n
  | [], _, hs, _ => hs
  | c :: ws, s, hs, hc => by
    have h := hc c (by simp)
    have := size_seenB f ws (if c.file = f then onB c s else s) (by split; exact size_onB c s hs h; exact hs) (fun c' hc' => hc c' (by simp [hc']))
    simpa [seenB] using this
structure St where
  l0 : ByteArray
  l1 : ByteArray
  ws : List Chg
  f : Int
  d : Bool
  c : Int
def St.s0 (s : St) : ByteArray := seenB 0 s.ws s.l0
def St.s1 (s : St) : ByteArray := seenB 1 s.ws s.l1
def maxFile : Nat := 67108864
structure St.ok (s : St) (m : Nat) : Prop where
  l0 : s.l0.size ≤ maxFile
  l1 : s.l1.size ≤ maxFile
  ws : ∀ c ∈ s.ws, (c.file = 0 ∨ c.file = 1) ∧ c.at_ + c.text.size ≤ maxFile
  f : -1 ≤ s.f ∧ s.f < 9223372036854775808
  c : 0 ≤ s.c ∧ s.c ≤ m
  n : (s.ws.length : Int) ≤ s.c
theorem St.ok.s0 {s : St} {m : Nat} (h : s.ok m) : s.s0.size ≤ maxFile := size_seenB 0 s.ws s.l0 h.l0 (fun c hc => (h.ws c hc).2)
theorem St.ok.s1 {s : St} {m : Nat} (h : s.ok m) : s.s1.size ≤ maxFile := size_seenB 1 s.ws s.l1 h.l1 (fun c hc => (h.ws c hc).2)
def St.turned (s : St) : St := { s with f := (turn s.f s.d s.c).2.1, d := (turn s.f s.d s.c).2.2.1, c := (turn s.f s.d s.c).2.2.2 }
def St.changed (s : St) (c : Chg) : St := if (turn s.f s.d s.c).1 = 0 then { s.turned with ws := s.ws ++ [c] } else s.turned
def others (f : Int) (ws : List Chg) : List Chg := ws.filter (fun c => c.file != f)
def St.synced (s : St) (f : Int) : St :=
  if (turn s.f s.d s.c).1 = 0 then { s.turned with l0 := if f = 0 then s.s0 else s.l0, l1 := if f = 1 then s.s1 else s.l1, ws := others f s.ws } else s.turned
def St.failed (s : St) (n : Int) : St := { s with f := failOf n }
theorem turn_cases (f : Int) (d : Bool) (c : Int) : (turn f d c).1 = 0 ∧ (turn f d c).2.2.2 = c + 1 ∨ (turn f d c).1 = 2 ∧ (turn f d c).2.2.2 = c := by
  unfold turn
  split <;> simp
theorem turn_f (f : Int) (d : Bool) (c : Int) (h : -1 ≤ f ∧ f < 9223372036854775808) : -1 ≤ (turn f d c).2.1 ∧ (turn f d c).2.1 < 9223372036854775808 := by
  unfold turn
  split
  · exact h
  · dsimp only; split <;> omega
theorem St.ok.turned {s : St} {m : Nat} (h : s.ok m) : s.turned.ok (m + 1) := by
  have hc := h.c
  have hn := h.n
  refine ⟨h.l0, h.l1, h.ws, turn_f _ _ _ h.f, ?_, ?_⟩
  · unfold St.turned
    rcases turn_cases s.f s.d s.c with ⟨_, e⟩ | ⟨_, e⟩ <;> simp only [e] <;> omega
  · unfold St.turned
    rcases turn_cases s.f s.d s.c with ⟨_, e⟩ | ⟨_, e⟩ <;> simp only [e] <;> omega
theorem St.ok.changed {s : St} {m : Nat} {c : Chg} (h : s.ok m) (hf : c.file = 0 ∨ c.file = 1) (hs : c.at_ + c.text.size ≤ maxFile) : (s.changed c).ok (m + 1) := by
  unfold St.changed
  rcases turn_cases s.f s.d s.c with ⟨e0, e⟩ | ⟨e0, e⟩
  · rw [if_pos e0]
    have ht := h.turned
    refine ⟨h.l0, h.l1, ?_, ht.f, ht.c, ?_⟩
    · intro c' hc'
      rcases List.mem_append.1 hc' with hc' | hc'
      · exact h.ws c' hc'
      · rw [List.mem_singleton.1 hc']; exact ⟨hf, hs⟩
    · have := h.n
      show ((s.ws ++ [c]).length : Int) ≤ (turn s.f s.d s.c).2.2.2
      rw [e, List.length_append]
      simp
      omega
  · rw [if_neg (by omega)]
    exact h.turned
theorem St.ok.synced {s : St} {m : Nat} {f : Int} (h : s.ok m) : (s.synced f).ok (m + 1) := by
  unfold St.synced
  rcases turn_cases s.f s.d s.c with ⟨e0, e⟩ | ⟨e0, e⟩
  · rw [if_pos e0]
    have ht := h.turned
    refine ⟨?_, ?_, ?_, ht.f, ht.c, ?_⟩
    · dsimp only; split; exact h.s0; exact h.l0
    · dsimp only; split; exact h.s1; exact h.l1
    · intro c' hc'
      exact h.ws c' (List.mem_filter.1 hc').1
    · have := h.n
      have hl := List.length_filter_le (fun c : Chg => c.file != f) s.ws
      show ((others f s.ws).length : Int) ≤ (turn s.f s.d s.c).2.2.2
      unfold others
      rw [e]
      omega
  · rw [if_neg (by omega)]
    exact h.turned
theorem St.ok.failed {s : St} {m : Nat} {n : Int} (h : s.ok m) (hn : n < 9223372036854775808) : (s.failed n).ok m := by
  refine ⟨h.l0, h.l1, h.ws, ?_, h.c, h.n⟩
  show -1 ≤ failOf n ∧ failOf n < _
  unfold failOf
  split <;> omega
def halved (c : Chg) : Chg := if c.cut = true then c else { c with text := c.text.extract 0 (c.text.size / 2) }
def kept1 (h : Int) (c : Chg) (f : Int) (s : ByteArray) : ByteArray := if c.file = f ∧ (h = 1 ∨ h = 2) then onB (if h = 2 then halved c else c) s else s
def howOf (keep : List Int) (i : Nat) : Int := if keep.length = 0 then 0 else keep.getD (i % keep.length) 0
def crashB (f : Int) (keep : List Int) : Nat → List Chg → ByteArray → ByteArray
  | _, [], s => s
  | i, c :: ws, s => crashB f keep (i + 1) ws (kept1 (howOf keep i) c f s)
def St.crashed (s : St) (keep : List Int) : St := { l0 := crashB 0 keep 0 s.ws s.l0, l1 := crashB 1 keep 0 s.ws s.l1, ws := [], f := -1, d := false, c := s.c }
theorem halved_le (c : Chg) : (halved c).at_ = c.at_ ∧ (halved c).text.size ≤ c.text.size ∧ (halved c).file = c.file := by
  unfold halved
  split
  · exact ⟨rfl, Nat.le_refl _, rfl⟩
  · refine ⟨rfl, ?_, rfl⟩
    rw [← bytesOf_length, bytesOf_extract]
    simp [bytesOf_length]
    omega
theorem size_kept1 (h : Int) (c : Chg) (f : Int) (s : ByteArray) {n : Nat} (hs : s.size ≤ n) (hc : c.at_ + c.text.size ≤ n) : (kept1 h c f s).size ≤ n := by
  have := halved_le c
  unfold kept1
  split
  · split
    · exact size_onB _ _ hs (by omega)
    · exact size_onB _ _ hs hc
  · exact hs
theorem size_crashB (f : Int) (keep : List Int) {n : Nat} : ∀ (ws : List Chg) (i : Nat) (s : ByteArray), s.size ≤ n → (∀ c ∈ ws, c.at_ + c.text.size ≤ n) → (crashB f keep i ws s).size ≤ n
  | [], _, _, hs, _ => hs
  | c :: ws, i, s, hs, hc => size_crashB f keep ws (i + 1) _ (size_kept1 _ c f s hs (hc c (by simp))) (fun c' hc' => hc c' (by simp [hc']))
theorem St.ok.crashed {s : St} {m : Nat} {keep : List Int} (h : s.ok m) : (s.crashed keep).ok m := by
  refine ⟨size_crashB 0 keep s.ws 0 s.l0 h.l0 (fun c hc => (h.ws c hc).2), size_crashB 1 keep s.ws 0 s.l1 h.l1 (fun c hc => (h.ws c hc).2), ?_, ?_, h.c, ?_⟩
  · intro c hc; cases hc
  · exact ⟨Int.le_refl _, show (-1 : Int) < 9223372036854775808 by decide⟩
  · exact h.c.1
theorem crashB_snoc (f : Int) (keep : List Int) : ∀ (ws : List Chg) (i : Nat) (c : Chg) (s : ByteArray), crashB f keep i (ws ++ [c]) s = kept1 (howOf keep (i + ws.length)) c f (crashB f keep i ws s)
  | [], i, c, s => rfl
  | d :: ws, i, c, s => by
    have := crashB_snoc f keep ws (i + 1) c (kept1 (howOf keep i) d f s)
    rw [show i + (d :: ws).length = i + 1 + ws.length by simp; omega]
    exact this
theorem seenB_others_self (f : Int) : ∀ (ws : List Chg) (s : ByteArray), seenB f (others f ws) s = s
  | [], _ => rfl
  | c :: ws, s => by
    have ih := seenB_others_self f ws s
    unfold others at ih ⊢
    rw [List.filter_cons]
    by_cases h : c.file = f
    · rw [if_neg (by simp [h])]; exact ih
    · rw [if_pos (by simp [h])]
      unfold seenB at ih ⊢
      rw [List.foldl_cons, if_neg h]
      exact ih
theorem seenB_others_ne {f g : Int} (hne : g ≠ f) : ∀ (ws : List Chg) (s : ByteArray), seenB g (others f ws) s = seenB g ws s
  | [], _ => rfl
  | c :: ws, s => by
    unfold others
    rw [List.filter_cons]
    by_cases h : c.file = f
    · rw [if_neg (by simp [h])]
      have ih := seenB_others_ne hne ws s
      unfold others seenB at ih
      unfold seenB
      rw [ih, List.foldl_cons, if_neg (by omega)]
    · rw [if_pos (by simp [h])]
      have ih := seenB_others_ne hne ws (if c.file = g then onB c s else s)
      unfold others seenB at ih
      unfold seenB
      rw [List.foldl_cons, List.foldl_cons]
      exact ih
def kC : Kd Chg := Kd.iso (Kd.pair (Kd.int .i64) (Kd.pair (Kd.int .i64) (Kd.pair Kd.string Kd.bool))) (fun x => (x.file, ((x.at_ : Nat) : Int), x.text, x.cut))
theorem kC_open {w : World} {x : Chg} {cs : List Value} (h : kC.K w x cs) : cs = [.int .i64 x.file, .int .i64 (x.at_ : Int), .string x.text, .bool x.cut] := by
  obtain ⟨c0, c1, rfl, h0, c2, c3, rfl, h1, c4, c5, rfl, h2, h3⟩ := h
  have e0 : c0 = [.int .i64 x.file] := h0
  have e1 : c2 = [.int .i64 (x.at_ : Int)] := h1
  have e2 : c4 = [.string x.text] := h2
  have e3 : c5 = [.bool x.cut] := h3
  subst e0 e1 e2 e3
  rfl
theorem kC_M {w : World} {base : Nat} {ok : Nat → Prop} (x : Chg) : kC.M w base ok x [.int .i64 x.file, .int .i64 (x.at_ : Int), .string x.text, .bool x.cut] :=
  ⟨[_], _, rfl, rfl, [_], _, rfl, rfl, [_], [_], rfl, rfl, rfl⟩
def chgV (x : Chg) : Value := .agg #[.int .i64 x.file, .int .i64 (x.at_ : Int), .string x.text, .bool x.cut]
def relab (N : Nat) (lab : Nat → Nat) (m : Nat) : Nat → Nat := fun k => if k < N then lab k else m
section
variable {α : Type} {d : Kd α} {e base i j g : Nat} {O S : Nat → Prop} {lab : Nat → Nat} {w w' : World} {x v : Value} {l : List α}
theorem lab_keep (h : d.R e w base (fun k => O k ∧ lab k = j) x l) (hk : Kept w w' (fun k => O k ∧ lab k = i)) (hne : j ≠ i) (m : Nat) : d.R e w' base (fun k => (O k ∨ w.heap.size ≤ k) ∧ relab w.heap.size lab m k = j) x l :=
  Kd.R_mono (Kd.R_keptB h hk (fun k hk hS => hne (hk.2.symm.trans hS.2))) (fun k hk => ⟨.inl hk.1.1, by unfold relab; rw [if_pos hk.2.2]; exact hk.1.2⟩)
theorem lab_new {N : Nat} (h : d.R e w' base (fun k => (O k ∧ lab k = i) ∨ N ≤ k) x l) : d.R e w' base (fun k => (O k ∨ N ≤ k) ∧ relab N lab i k = i) x l :=
  Kd.R_mono h (fun k hk => by
    unfold relab
    rcases hk with hk | hk
    · refine ⟨.inl hk.1, ?_⟩
      split
      · exact hk.2
      · rfl
    · exact ⟨.inr hk, by rw [if_neg (by omega)]⟩)
theorem lab_far (h : d.R e w base (fun k => O k ∧ lab k = j) x l) (hg : lab g = 5) (hne : j ≠ 5) (c : Nat) (u : Value) : d.R e (w.setCell ⟨g, c, none⟩ u) base (fun k => O k ∧ lab k = j) x l :=
  Kd.R_far h (fun k hk he => by
    have e2 : k = g := he
    subst e2
    exact hne (hk.2.symm.trans hg)) u
theorem lab_only (h : d.R e w base (fun k => O k ∧ lab k = j) x l) (hk : Kept w w' (fun k => k = g)) (hg : lab g = 5) (hne : j ≠ 5) : d.R e w' base (fun k => O k ∧ lab k = j) x l :=
  Kd.R_kept h hk (fun k h1 he => by
    subst he
    exact hne (h1.2.symm.trans hg))
theorem lab_apart (h : d.R e w base (fun k => O k ∧ lab k = j) x l) (hk : Kept w w' S) (hS : ∀ k, O k → ¬ S k) : d.R e w' base (fun k => O k ∧ lab k = j) x l :=
  Kd.R_kept h hk (fun k h1 he => hS k h1.1 he)
theorem lab_narrow (h : d.R e w base (fun k => O k ∧ lab k = j) x l) : d.R e w base (fun k => (O k ∧ k < w.heap.size) ∧ lab k = j) x l :=
  Kd.R_mono (Kd.R_bound h) (fun k hk => ⟨⟨hk.1.1, hk.2.2.1⟩, hk.1.2⟩)
end
structure Rws (w : World) (base : Nat) (O : Nat → Prop) (lab : Nat → Nat) (x0 x1 x2 x3 x4 : Value) (a0 b0 a1 b1 : List Int) (ws : List Chg) : Prop where
  r0 : (Kd.int .u8).R 5 w base (fun k => O k ∧ lab k = 0) x0 a0
  r1 : (Kd.int .u8).R 5 w base (fun k => O k ∧ lab k = 1) x1 b0
  r2 : (Kd.int .u8).R 5 w base (fun k => O k ∧ lab k = 2) x2 a1
  r3 : (Kd.int .u8).R 5 w base (fun k => O k ∧ lab k = 3) x3 b1
  r4 : kC.R 87 w base (fun k => O k ∧ lab k = 4) x4 ws
section
variable {w w' : World} {base g : Nat} {O S : Nat → Prop} {lab : Nat → Nat} {x0 x1 x2 x3 x4 v : Value} {a0 b0 a1 b1 l : List Int} {ws l' : List Chg}
theorem Rws.up0 (h : Rws w base O lab x0 x1 x2 x3 x4 a0 b0 a1 b1 ws) (hk : Kept w w' (fun k => O k ∧ lab k = 0)) (hn : (Kd.int .u8).R 5 w' base (fun k => (O k ∧ lab k = 0) ∨ w.heap.size ≤ k) v l) : Rws w' base (fun k => O k ∨ w.heap.size ≤ k) (relab w.heap.size lab 0) v x1 x2 x3 x4 l b0 a1 b1 ws :=
  ⟨lab_new hn, lab_keep h.r1 hk (by decide) 0, lab_keep h.r2 hk (by decide) 0, lab_keep h.r3 hk (by decide) 0, lab_keep h.r4 hk (by decide) 0⟩
theorem Rws.up1 (h : Rws w base O lab x0 x1 x2 x3 x4 a0 b0 a1 b1 ws) (hk : Kept w w' (fun k => O k ∧ lab k = 1)) (hn : (Kd.int .u8).R 5 w' base (fun k => (O k ∧ lab k = 1) ∨ w.heap.size ≤ k) v l) : Rws w' base (fun k => O k ∨ w.heap.size ≤ k) (relab w.heap.size lab 1) x0 v x2 x3 x4 a0 l a1 b1 ws :=
  ⟨lab_keep h.r0 hk (by decide) 1, lab_new hn, lab_keep h.r2 hk (by decide) 1, lab_keep h.r3 hk (by decide) 1, lab_keep h.r4 hk (by decide) 1⟩
theorem Rws.up2 (h : Rws w base O lab x0 x1 x2 x3 x4 a0 b0 a1 b1 ws) (hk : Kept w w' (fun k => O k ∧ lab k = 2)) (hn : (Kd.int .u8).R 5 w' base (fun k => (O k ∧ lab k = 2) ∨ w.heap.size ≤ k) v l) : Rws w' base (fun k => O k ∨ w.heap.size ≤ k) (relab w.heap.size lab 2) x0 x1 v x3 x4 a0 b0 l b1 ws :=
  ⟨lab_keep h.r0 hk (by decide) 2, lab_keep h.r1 hk (by decide) 2, lab_new hn, lab_keep h.r3 hk (by decide) 2, lab_keep h.r4 hk (by decide) 2⟩
theorem Rws.up3 (h : Rws w base O lab x0 x1 x2 x3 x4 a0 b0 a1 b1 ws) (hk : Kept w w' (fun k => O k ∧ lab k = 3)) (hn : (Kd.int .u8).R 5 w' base (fun k => (O k ∧ lab k = 3) ∨ w.heap.size ≤ k) v l) : Rws w' base (fun k => O k ∨ w.heap.size ≤ k) (relab w.heap.size lab 3) x0 x1 x2 v x4 a0 b0 a1 l ws :=
  ⟨lab_keep h.r0 hk (by decide) 3, lab_keep h.r1 hk (by decide) 3, lab_keep h.r2 hk (by decide) 3, lab_new hn, lab_keep h.r4 hk (by decide) 3⟩
theorem Rws.up4 (h : Rws w base O lab x0 x1 x2 x3 x4 a0 b0 a1 b1 ws) (hk : Kept w w' (fun k => O k ∧ lab k = 4)) (hn : kC.R 87 w' base (fun k => (O k ∧ lab k = 4) ∨ w.heap.size ≤ k) v l') : Rws w' base (fun k => O k ∨ w.heap.size ≤ k) (relab w.heap.size lab 4) x0 x1 x2 x3 v a0 b0 a1 b1 l' :=
  ⟨lab_keep h.r0 hk (by decide) 4, lab_keep h.r1 hk (by decide) 4, lab_keep h.r2 hk (by decide) 4, lab_keep h.r3 hk (by decide) 4, lab_new hn⟩
theorem Rws.set (h : Rws w base O lab x0 x1 x2 x3 x4 a0 b0 a1 b1 ws) (hg : lab g = 5) (c : Nat) (u : Value) : Rws (w.setCell ⟨g, c, none⟩ u) base O lab x0 x1 x2 x3 x4 a0 b0 a1 b1 ws :=
  ⟨lab_far h.r0 hg (by decide) c u, lab_far h.r1 hg (by decide) c u, lab_far h.r2 hg (by decide) c u, lab_far h.r3 hg (by decide) c u, lab_far h.r4 hg (by decide) c u⟩
theorem Rws.only (h : Rws w base O lab x0 x1 x2 x3 x4 a0 b0 a1 b1 ws) (hk : Kept w w' (fun k => k = g)) (hg : lab g = 5) : Rws w' base O lab x0 x1 x2 x3 x4 a0 b0 a1 b1 ws :=
  ⟨lab_only h.r0 hk hg (by decide), lab_only h.r1 hk hg (by decide), lab_only h.r2 hk hg (by decide), lab_only h.r3 hk hg (by decide), lab_only h.r4 hk hg (by decide)⟩
theorem Rws.apart (h : Rws w base O lab x0 x1 x2 x3 x4 a0 b0 a1 b1 ws) (hk : Kept w w' S) (hS : ∀ k, O k → ¬ S k) : Rws w' base O lab x0 x1 x2 x3 x4 a0 b0 a1 b1 ws :=
  ⟨lab_apart h.r0 hk hS, lab_apart h.r1 hk hS, lab_apart h.r2 hk hS, lab_apart h.r3 hk hS, lab_apart h.r4 hk hS⟩
theorem Rws.below (h : Rws w base O lab x0 x1 x2 x3 x4 a0 b0 a1 b1 ws) (hb : Below w.heap.size w w') : Rws w' base O lab x0 x1 x2 x3 x4 a0 b0 a1 b1 ws :=
  ⟨Kd.R_below h.r0 hb, Kd.R_below h.r1 hb, Kd.R_below h.r2 hb, Kd.R_below h.r3 hb, Kd.R_below h.r4 hb⟩
theorem Rws.mono {O' : Nat → Prop} (h : Rws w base O lab x0 x1 x2 x3 x4 a0 b0 a1 b1 ws) (hO : ∀ k, O k → O' k) : Rws w base O' lab x0 x1 x2 x3 x4 a0 b0 a1 b1 ws :=
  ⟨Kd.R_mono h.r0 (fun k hk => ⟨hO k hk.1, hk.2⟩), Kd.R_mono h.r1 (fun k hk => ⟨hO k hk.1, hk.2⟩), Kd.R_mono h.r2 (fun k hk => ⟨hO k hk.1, hk.2⟩), Kd.R_mono h.r3 (fun k hk => ⟨hO k hk.1, hk.2⟩), Kd.R_mono h.r4 (fun k hk => ⟨hO k hk.1, hk.2⟩)⟩
theorem Rws.narrow (h : Rws w base O lab x0 x1 x2 x3 x4 a0 b0 a1 b1 ws) : Rws w base (fun k => O k ∧ k < w.heap.size) lab x0 x1 x2 x3 x4 a0 b0 a1 b1 ws :=
  ⟨lab_narrow h.r0, lab_narrow h.r1, lab_narrow h.r2, lab_narrow h.r3, lab_narrow h.r4⟩
end
def DX (w : World) (base g : Nat) (O : Nat → Prop) (a0 b0 a1 b1 : ByteArray) (ws : List Chg) (f : Int) (d : Bool) (c : Int) : Prop :=
  ∃ lab x0 x1 x2 x3 x4, w.heap[g]? = some (.cells (dcells x0 x1 x2 x3 x4 f d c) 59 (0, 0)) ∧ base ≤ g ∧ O g ∧ lab g = 5 ∧ Rws w base O lab x0 x1 x2 x3 x4 (bytesOf a0) (bytesOf b0) (bytesOf a1) (bytesOf b1) ws
def DD (w : World) (base g : Nat) (O : Nat → Prop) (s : St) : Prop := DX w base g O s.l0 s.s0 s.l1 s.s1 s.ws s.f s.d s.c
section
variable {w w' : World} {base g : Nat} {O S : Nat → Prop} {a0 b0 a1 b1 : ByteArray} {ws : List Chg} {f c : Int} {d : Bool}
theorem DX.apart (h : DX w base g O a0 b0 a1 b1 ws f d c) (hk : Kept w w' S) (hS : ∀ k, O k → ¬ S k) : DX w' base g O a0 b0 a1 b1 ws f d c := by
  obtain ⟨lab, x0, x1, x2, x3, x4, hb, hg, hO, hl, hr⟩ := h
  exact ⟨lab, x0, x1, x2, x3, x4, blk_kept hb hk (hS g hO), hg, hO, hl, hr.apart hk hS⟩
theorem DX.mono {O' : Nat → Prop} (h : DX w base g O a0 b0 a1 b1 ws f d c) (hS : ∀ k, O k → O' k) : DX w base g O' a0 b0 a1 b1 ws f d c := by
  obtain ⟨lab, x0, x1, x2, x3, x4, hb, hg, hO, hl, hr⟩ := h
  exact ⟨lab, x0, x1, x2, x3, x4, hb, hg, hS g hO, hl, hr.mono hS⟩
end
theorem info172 : (Try.prog.info? 87).map (fun i => (i.zero, i.size, i.bytes)) = some (some (.agg #[.int .i64 0, .int .i64 0, .string ⟨#[]⟩, .bool false]), 4, 40) := by kernel_rfl
theorem done.calls (P0 : Nat → Prop) (u : Value) (l : List Int) (ch : Chg) (w0 w : World) (hB : Below w0.heap.size w0 w) (ho : Kd.R (Kd.int .u8) 5 w w0.heap.size P0 u l) (hn : ch.at_ + ch.text.size ≤ 140737488355000) (hl : l.length ≤ 140737488355000) :
    Calls Try.prog 41 #[chgV ch, u] w fun e w' => ∃ v : Value, e = .returned v ∧ Kd.R (Kd.int .u8) 5 w' w0.heap.size (fun k => P0 k ∨ w.heap.size ≤ k) v (doneL l ch.at_ ch.text ch.cut) ∧ Below w0.heap.size w0 w' ∧ Kept w w' P0 := by
  obtain ⟨f, a, t, c⟩ := ch
  cases c
  · exact done.put P0 u l f a t w0 w hB ho hn hl
  · exact done.cut P0 u l f a t w0 w hB ho (by dsimp only at hn; omega) hl
theorem DX.of {w : World} {base g : Nat} {O : Nat → Prop} {a0 b0 a1 b1 : ByteArray} {ws : List Chg} {f c : Int} {d : Bool} {lab : Nat → Nat} {x0 x1 x2 x3 x4 : Value} {m0 n0 m1 n1 : List Int}
    (hb : w.heap[g]? = some (.cells (dcells x0 x1 x2 x3 x4 f d c) 59 (0, 0))) (hg : base ≤ g) (hO : O g) (hl : lab g = 5) (hr : Rws w base O lab x0 x1 x2 x3 x4 m0 n0 m1 n1 ws) (e0 : bytesOf a0 = m0) (e1 : bytesOf b0 = n0) (e2 : bytesOf a1 = m1) (e3 : bytesOf b1 = n1) : DX w base g O a0 b0 a1 b1 ws f d c := by
  subst e0 e1 e2 e3
  exact ⟨lab, x0, x1, x2, x3, x4, hb, hg, hO, hl, hr⟩
theorem s0_snoc (l0 l1 : ByteArray) (ws : List Chg) (ch : Chg) (f : Int) (d : Bool) (c : Int) : (St.mk l0 l1 (ws ++ [ch]) f d c).s0 = if ch.file = 0 then onB ch (seenB 0 ws l0) else seenB 0 ws l0 := seenB_snoc _ _ _ _
theorem s1_snoc (l0 l1 : ByteArray) (ws : List Chg) (ch : Chg) (f : Int) (d : Bool) (c : Int) : (St.mk l0 l1 (ws ++ [ch]) f d c).s1 = if ch.file = 1 then onB ch (seenB 1 ws l1) else seenB 1 ws l1 := seenB_snoc _ _ _ _
theorem beq_false {a b : Int} (h : a ≠ b) : (a == b) = false := beq_eq_false_iff_ne.mpr h
set_option maxHeartbeats 8000000 in
set_option maxRecDepth 100000 in
theorem change.calls0 (g : Nat) (O : Nat → Prop) (s : St) (at_ : Nat) (t : ByteArray) (cut : Bool) (w0 w : World) (hB : Below w0.heap.size w0 w) (hD : DD w w0.heap.size g O s)
    (hf : -9223372036854775808 ≤ s.f ∧ s.f < 9223372036854775808) (hc : 0 ≤ s.c ∧ s.c < 9223372036854775807) (hn : at_ + t.size ≤ 140737488355000) (hl : s.s0.size ≤ 140737488355000) (hw : s.ws.length ≤ 1000000000000) :
    Calls Try.prog 71 #[.pointer (some ⟨g, 0, none⟩), chgV ⟨0, at_, t, cut⟩] w fun e w' => e = .returned (.int .i64 (turn s.f s.d s.c).1) ∧
      DD w' w0.heap.size g (fun k => O k ∨ w.heap.size ≤ k) (s.changed ⟨0, at_, t, cut⟩) ∧ Below w0.heap.size w0 w' ∧ Kept w w' O := by
  obtain ⟨lab, x0, x1, x2, x3, x4, hb, hg, hO, hlb, hr⟩ := hD
  have HB := Aside0.mk hB
  have HG := Aside0.mk hg
  have HO := Aside0.mk hO
  have HLB := Aside0.mk hlb
  have HR := Aside0.mk hr
  have HX := Aside0.mk hb
  have HF := Aside0.mk hf
  have HC := Aside0.mk hc
  have HN := Aside0.mk hn
  have HL := Aside0.mk hl
  have HW := Aside0.mk hw
  clear hB hb hg hO hlb hr hf hc hn hl hw
  obtain ⟨A4, c4, e4⟩ := Kd.R_slice HR.out.r4
  subst e4
  obtain ⟨A1, c1, e1⟩ := Kd.R_slice HR.out.r1
  subst e1
  go_enter Try.func71, Try.ntmps71
  go_upto_region 1 with ((with_reducible refine gate_dst (N := 3) rfl ?_); refine box_event ?hg (N := 3) ?hd (cs := #[.int .i64 0, .int .i64 (at_ : Int), .string t, .bool cut]) (t := 87) ?hr ?_; (case hd => rfl); (case hg => rfl); (case hr => first | (go_simp; done) | (go_simp; rfl)); intro gb hgb w1 hbox hb; have HX1 := Aside0.mk hbox; have HB0 := Aside0.mk hb; have HGB := Aside0.mk hgb; clear hgb hbox hb)
  have HX0 := Aside0.mk (blk_below HX.out HB0.out)
  have HR0 := Aside0.mk (HR.out.below HB0.out)
  have HB1 := Aside0.mk (below_step HB.out HB0.out)
  have HNE := Aside0.mk (show gb ≠ g from blk_ne HX1.out HX0.out (by decide))
  have HLT4 := Aside0.mk (Kd.R_lt HR.out.r4)
  clear HX HR HB
  go_upto_region 2 with (go_at_call 72; (refine (turn.calls g _ _ _ _ _ s.f s.d s.c w0 _ HB1.out HG.out HX0.out HF.out HC.out).mono ?_); rintro e2 w2 ⟨rfl, hx2, hb2, hk2, hs2⟩; have HX2 := Aside0.mk hx2; have HB2 := Aside0.mk hb2; have HK2 := Aside0.mk hk2; have HS2 := Aside0.mk hs2; clear hx2 hb2 hk2 hs2)
  have HX3 := Aside0.mk (blk_kept HX1.out HK2.out HNE.out)
  have HR2 := Aside0.mk (HR0.out.only HK2.out HLB.out)
  have HKw := Aside0.mk (Kept.then_ (Kept.of_below HB0.out O) HK2.out (fun k hk => .inl (by rw [hk]; exact HO.out)))
  have HSZ := Aside0.mk (show w.heap.size ≤ w2.heap.size by rw [HS2.out]; exact HB0.out.size)
  clear HX1 HB0 HX0 HR0 HB1 HK2 HS2
  rcases turn_cases s.f s.d s.c with ⟨e0, -⟩ | ⟨e0, -⟩
  · have HE := Aside0.mk e0
    rw [e0]
    clear e0
    go_upto_region 4 with (fail)
    have c4_ : w2.cell? ⟨g, 4, none⟩ = some (.slice A4 s.ws.length c4) := (blk_cell HX2.out 4).trans rfl
    have c4b_ : ∀ o, (w2.alloc o).cell? ⟨g, 4, none⟩ = some (.slice A4 s.ws.length c4) := fun o => (blk_cell (blk_alloc HX2.out o) 4).trans rfl
    have q0 : w2.cell? ⟨gb, 0, none⟩ = some (.int .i64 0) := (blk_cell HX3.out 0).trans rfl
    have q1 : w2.cell? ⟨gb, 1, none⟩ = some (.int .i64 (at_ : Int)) := (blk_cell HX3.out 1).trans rfl
    have q2 : w2.cell? ⟨gb, 2, none⟩ = some (.string t) := (blk_cell HX3.out 2).trans rfl
    have q3 : w2.cell? ⟨gb, 3, none⟩ = some (.bool cut) := (blk_cell HX3.out 3).trans rfl
    have HW' := HW.out
    go_cut [] from 12 to 21 (fun wx => Aside0 (∃ lb y4, wx.heap[g]? = some (.cells (dcells x0 (.slice A1 (bytesOf s.s0).length c1) x2 x3 y4 (turn s.f s.d s.c).2.1 (turn s.f s.d s.c).2.2.1 (turn s.f s.d s.c).2.2.2) 59 (0, 0)) ∧ lb g = 5 ∧ Rws wx w0.heap.size (fun k => O k ∨ w2.heap.size ≤ k) lb x0 (.slice A1 (bytesOf s.s0).length c1) x2 x3 y4 (bytesOf s.l0) (bytesOf s.s0) (bytesOf s.l1) (bytesOf s.s1) (s.ws ++ [⟨0, at_, t, cut⟩])) ∧ Aside0 (wx.heap[gb]? = some (.cells #[.int .i64 0, .int .i64 (at_ : Int), .string t, .bool cut] 87 (0, 0))) ∧ Aside0 (Below w0.heap.size w0 wx) ∧ Aside0 (Kept w wx O) ∧ Aside0 (w2.heap.size ≤ wx.heap.size))
    case first =>
      go_region_law (refine Kd.R_append_step (W := w2.drew) kC w0.heap.size rfl (.tmp 16) (.tmp 18) 57 87 (.agg #[.int .i64 0, .int .i64 0, .string ⟨#[]⟩, .bool false]) 40 rfl Try.underlying57 info172 rfl (by decide) (by omega) (.slice A4 s.ws.length c4) s.ws ⟨0, at_, t, cut⟩ _ (fun k => (O k ∧ lab k = 4) ∨ w2.heap.size ≤ k) (fun _ => False) rfl rfl (kC_M _) (fun _ hk => hk.elim) (fun k hk => .inr hk) (Kd.R_mono (Kd.R_drew HR2.out.r4) (fun k hk => .inl hk)) (below_drew1 HB2.out) (below_size (below_drew1 HB2.out)) (by omega) ?_; intro v1 w3 ho hb hg hat; obtain ⟨A5, c5, e5⟩ := Kd.R_slice ho; rw [List.length_append, List.length_singleton] at e5; subst e5; have HO3 := Aside0.mk ho; have HB3 := Aside0.mk hb; have HG3 := Aside0.mk hg; have HX4 := Aside0.mk (blk_grown (blk_drew HX2.out) hg (Kd.R_ne HR2.out.r4 HX2.out (by decide))); have HX5 := Aside0.mk (blk_grown (blk_drew HX3.out) hg (fun he => by have h1 := HLT4.out _ he.symm; rw [HGB.out] at h1; exact Nat.lt_irrefl _ h1)); have z5 := blk_frozen HX4.out 4; have c5_ : w3.cell? ⟨g, 4, none⟩ = some (.slice A4 s.ws.length c4) := (blk_cell HX4.out 4).trans rfl; clear ho hb hg hat)
      all_goals
        go_wp2_with (fail)
        go_meet
        have HK3 := Aside0.mk (show Kept w2 w3 (fun k => O k ∧ lab k = 4) from Kept.of_grown HG3.out (Kept.drew (Kept.refl w2 _)) (fun k hk => .inl (HR2.out.r4.1 k hk)))
        have HLB3 := Aside0.mk (show relab w2.heap.size lab 4 g = 5 by unfold relab; rw [if_pos (blk_lt HX2.out)]; exact HLB.out)
        exact ⟨⟨_, _, blk_put HX4.out 4 _ rfl, HLB3.out, (HR2.out.up4 HK3.out HO3.out).set HLB3.out 4 _⟩, ⟨blk_far HX5.out (p := ⟨g, 4, none⟩) HNE.out _⟩, ⟨HB3.out.setCell (p := ⟨g, 4, none⟩) HG.out _⟩, ⟨(HKw.out.then_ HK3.out (fun k hk => .inl hk.1)).setCell (p := ⟨g, 4, none⟩) (.inl HO.out) _⟩, ⟨by simp; exact HK3.out.1⟩⟩
    case rest =>
      obtain ⟨HC4, HX7, HB4, HK4, HS4⟩ := hcut
      clear c4_ c4b_ q0 q1 q2 q3 HX2 HX3 HR2 HB2 HKw HLT4
      obtain ⟨lb, y4, hx, hlb, hr⟩ := HC4.out
      have HX6 := Aside0.mk hx
      have HLB6 := Aside0.mk hlb
      have HR6 := Aside0.mk hr
      clear HC4 hx hlb hr
      have q0 : wc.cell? ⟨gb, 0, none⟩ = some (.int .i64 0) := (blk_cell HX7.out 0).trans rfl
      have q1 : wc.cell? ⟨gb, 1, none⟩ = some (.int .i64 (at_ : Int)) := (blk_cell HX7.out 1).trans rfl
      have q2 : wc.cell? ⟨gb, 2, none⟩ = some (.string t) := (blk_cell HX7.out 2).trans rfl
      have q3 : wc.cell? ⟨gb, 3, none⟩ = some (.bool cut) := (blk_cell HX7.out 3).trans rfl
      have q4 : wc.cell? ⟨g, 1, none⟩ = some (.slice A1 (bytesOf s.s0).length c1) := (blk_cell HX6.out 1).trans rfl
      go_upto_region 5 with (fail)
      go_quiet (fail)
      go_upto_region 6 with (fail)
      clear q0 q1 q2 q3 q4
      have HX8 := Aside0.mk (blk_drewN HX6.out nq)
      have HX9 := Aside0.mk (blk_drewN HX7.out nq)
      have HR8 := Aside0.mk (HR6.out.below (pw_below_drewN (Below.refl _ wc) nq))
      have HB8 := Aside0.mk (pw_below_drewN HB4.out nq)
      have HK8 := Aside0.mk (Kept.drewN HK4.out nq)
      have HS8 := Aside0.mk (show w2.heap.size ≤ (wc.drewN nq).heap.size from HS4.out)
      clear HX6 HX7 HR6 HB4 HK4 HS4
      generalize wc.drewN nq = w5 at HX8 HX9 HR8 HB8 HK8 HS8 ⊢
      have q0 : w5.cell? ⟨gb, 0, none⟩ = some (.int .i64 0) := (blk_cell HX9.out 0).trans rfl
      have q1 : w5.cell? ⟨gb, 1, none⟩ = some (.int .i64 (at_ : Int)) := (blk_cell HX9.out 1).trans rfl
      have q2 : w5.cell? ⟨gb, 2, none⟩ = some (.string t) := (blk_cell HX9.out 2).trans rfl
      have q3 : w5.cell? ⟨gb, 3, none⟩ = some (.bool cut) := (blk_cell HX9.out 3).trans rfl
      have q4 : w5.cell? ⟨g, 1, none⟩ = some (.slice A1 (bytesOf s.s0).length c1) := (blk_cell HX8.out 1).trans rfl
      go_region_law (first
        | (refine goes_ Try.func41 (by kernel_rfl) rfl #[chgV ⟨0, at_, t, cut⟩, .slice A1 (bytesOf s.s0).length c1] (by rfl) rfl rfl (by (try simp only [List.map_toArray, List.map_cons, List.map_nil]); first | done | rfl) ?_; refine (done.calls _ _ _ ⟨0, at_, t, cut⟩ w0 _ (below_drew1 HB8.out) (Kd.R_drew HR8.out.r1) HN.out (by rw [bytesOf_length]; exact HL.out)).mono ?_; rintro e w6 ⟨v6, rfl, ho, hb, hk⟩; obtain ⟨A6, c6, e6⟩ := Kd.R_slice ho; subst e6; refine ⟨_, rfl, ?_⟩; have HO9 := Aside0.mk ho; have HB9 := Aside0.mk hb; have HK9 := Aside0.mk hk; have HXA := Aside0.mk (blk_kept (blk_drew HX8.out) hk (fun he => absurd (HLB6.out.symm.trans he.2) (by decide))); have z6 := blk_frozen HXA.out 1; have c6_ : w6.cell? ⟨g, 1, none⟩ = some (.slice A1 (bytesOf s.s0).length c1) := (blk_cell HXA.out 1).trans rfl; clear ho hb hk))
      all_goals
        go_wp2_with (fail)
        go_ret
        have HL9 := Aside0.mk (show relab w5.drew.heap.size lb 1 g = 5 by unfold relab; rw [if_pos (blk_lt (blk_drew HX8.out))]; exact HLB6.out)
        refine ⟨by rw [HE.out]; rfl, ?_, HB9.out.setCell (p := ⟨g, 1, none⟩) HG.out _, ((Kept.drew HK8.out).then_ HK9.out (fun k hk => ?_)).setCell (p := ⟨g, 1, none⟩) (.inl HO.out) _⟩
        · unfold St.changed
          rw [if_pos HE.out]
          refine DX.mono (O := fun k => (O k ∨ w2.heap.size ≤ k) ∨ w5.drew.heap.size ≤ k) (DX.of (lab := relab w5.drew.heap.size lb 1) (blk_put HXA.out 1 _ rfl) HG.out (.inl (.inl HO.out)) HL9.out (((HR8.out.below (below_drew (Below.refl _ w5))).up1 HK9.out HO9.out).set HL9.out 1 _) rfl (by rw [s0_snoc, if_pos rfl]; exact bytesOf_onB _ _) rfl (by rw [s1_snoc, if_neg (show ¬ ((0 : Int) = 1) by decide)]; rfl)) ?_
          rintro k ((hk | hk) | hk)
          · exact .inl hk
          · exact .inr (Nat.le_trans HSZ.out hk)
          · exact .inr (Nat.le_trans HSZ.out (Nat.le_trans HS8.out hk))
        · rcases hk.1 with h | h
          · exact .inl h
          · exact .inr (Nat.le_trans HSZ.out h)
  · have HE := Aside0.mk e0
    rw [e0]
    clear e0
    go_upto_region 3 with (fail)
    go_wp2_with (fail)
    go_ret
    refine ⟨by rw [HE.out]; rfl, DX.mono ?_ (fun k hk => .inl hk), HB2.out, HKw.out⟩
    unfold St.changed
    rw [if_neg (by rw [HE.out]; decide)]
    exact ⟨lab, _, _, _, _, _, HX2.out, HG.out, HO.out, HLB.out, HR2.out⟩
set_option maxHeartbeats 8000000 in
set_option maxRecDepth 100000 in
theorem change.calls1 (g : Nat) (O : Nat → Prop) (s : St) (at_ : Nat) (t : ByteArray) (cut : Bool) (w0 w : World) (hB : Below w0.heap.size w0 w) (hD : DD w w0.heap.size g O s)
    (hf : -9223372036854775808 ≤ s.f ∧ s.f < 9223372036854775808) (hc : 0 ≤ s.c ∧ s.c < 9223372036854775807) (hn : at_ + t.size ≤ 140737488355000) (hl : s.s1.size ≤ 140737488355000) (hw : s.ws.length ≤ 1000000000000) :
    Calls Try.prog 71 #[.pointer (some ⟨g, 0, none⟩), chgV ⟨1, at_, t, cut⟩] w fun e w' => e = .returned (.int .i64 (turn s.f s.d s.c).1) ∧
      DD w' w0.heap.size g (fun k => O k ∨ w.heap.size ≤ k) (s.changed ⟨1, at_, t, cut⟩) ∧ Below w0.heap.size w0 w' ∧ Kept w w' O := by
  obtain ⟨lab, x0, x1, x2, x3, x4, hb, hg, hO, hlb, hr⟩ := hD
  have HB := Aside0.mk hB
  have HG := Aside0.mk hg
  have HO := Aside0.mk hO
  have HLB := Aside0.mk hlb
  have HR := Aside0.mk hr
  have HX := Aside0.mk hb
  have HF := Aside0.mk hf
  have HC := Aside0.mk hc
  have HN := Aside0.mk hn
  have HL := Aside0.mk hl
  have HW := Aside0.mk hw
  clear hB hb hg hO hlb hr hf hc hn hl hw
  obtain ⟨A4, c4, e4⟩ := Kd.R_slice HR.out.r4
  subst e4
  obtain ⟨A1, c1, e1⟩ := Kd.R_slice HR.out.r3
  subst e1
  go_enter Try.func71, Try.ntmps71
  go_upto_region 1 with ((with_reducible refine gate_dst (N := 3) rfl ?_); refine box_event ?hg (N := 3) ?hd (cs := #[.int .i64 1, .int .i64 (at_ : Int), .string t, .bool cut]) (t := 87) ?hr ?_; (case hd => rfl); (case hg => rfl); (case hr => first | (go_simp; done) | (go_simp; rfl)); intro gb hgb w1 hbox hb; have HX1 := Aside0.mk hbox; have HB0 := Aside0.mk hb; have HGB := Aside0.mk hgb; clear hgb hbox hb)
  have HX0 := Aside0.mk (blk_below HX.out HB0.out)
  have HR0 := Aside0.mk (HR.out.below HB0.out)
  have HB1 := Aside0.mk (below_step HB.out HB0.out)
  have HNE := Aside0.mk (show gb ≠ g from blk_ne HX1.out HX0.out (by decide))
  have HLT4 := Aside0.mk (Kd.R_lt HR.out.r4)
  clear HX HR HB
  go_upto_region 2 with (go_at_call 72; (refine (turn.calls g _ _ _ _ _ s.f s.d s.c w0 _ HB1.out HG.out HX0.out HF.out HC.out).mono ?_); rintro e2 w2 ⟨rfl, hx2, hb2, hk2, hs2⟩; have HX2 := Aside0.mk hx2; have HB2 := Aside0.mk hb2; have HK2 := Aside0.mk hk2; have HS2 := Aside0.mk hs2; clear hx2 hb2 hk2 hs2)
  have HX3 := Aside0.mk (blk_kept HX1.out HK2.out HNE.out)
  have HR2 := Aside0.mk (HR0.out.only HK2.out HLB.out)
  have HKw := Aside0.mk (Kept.then_ (Kept.of_below HB0.out O) HK2.out (fun k hk => .inl (by rw [hk]; exact HO.out)))
  have HSZ := Aside0.mk (show w.heap.size ≤ w2.heap.size by rw [HS2.out]; exact HB0.out.size)
  clear HX1 HB0 HX0 HR0 HB1 HK2 HS2
  rcases turn_cases s.f s.d s.c with ⟨e0, -⟩ | ⟨e0, -⟩
  · have HE := Aside0.mk e0
    rw [e0]
    clear e0
    go_upto_region 4 with (fail)
    have c4_ : w2.cell? ⟨g, 4, none⟩ = some (.slice A4 s.ws.length c4) := (blk_cell HX2.out 4).trans rfl
    have c4b_ : ∀ o, (w2.alloc o).cell? ⟨g, 4, none⟩ = some (.slice A4 s.ws.length c4) := fun o => (blk_cell (blk_alloc HX2.out o) 4).trans rfl
    have q0 : w2.cell? ⟨gb, 0, none⟩ = some (.int .i64 1) := (blk_cell HX3.out 0).trans rfl
    have q1 : w2.cell? ⟨gb, 1, none⟩ = some (.int .i64 (at_ : Int)) := (blk_cell HX3.out 1).trans rfl
    have q2 : w2.cell? ⟨gb, 2, none⟩ = some (.string t) := (blk_cell HX3.out 2).trans rfl
    have q3 : w2.cell? ⟨gb, 3, none⟩ = some (.bool cut) := (blk_cell HX3.out 3).trans rfl
    have HW' := HW.out
    go_cut [] from 12 to 21 (fun wx => Aside0 (∃ lb y4, wx.heap[g]? = some (.cells (dcells x0 x1 x2 (.slice A1 (bytesOf s.s1).length c1) y4 (turn s.f s.d s.c).2.1 (turn s.f s.d s.c).2.2.1 (turn s.f s.d s.c).2.2.2) 59 (0, 0)) ∧ lb g = 5 ∧ Rws wx w0.heap.size (fun k => O k ∨ w2.heap.size ≤ k) lb x0 x1 x2 (.slice A1 (bytesOf s.s1).length c1) y4 (bytesOf s.l0) (bytesOf s.s0) (bytesOf s.l1) (bytesOf s.s1) (s.ws ++ [⟨1, at_, t, cut⟩])) ∧ Aside0 (wx.heap[gb]? = some (.cells #[.int .i64 1, .int .i64 (at_ : Int), .string t, .bool cut] 87 (0, 0))) ∧ Aside0 (Below w0.heap.size w0 wx) ∧ Aside0 (Kept w wx O) ∧ Aside0 (w2.heap.size ≤ wx.heap.size))
    case first =>
      go_region_law (refine Kd.R_append_step (W := w2.drew) kC w0.heap.size rfl (.tmp 16) (.tmp 18) 57 87 (.agg #[.int .i64 0, .int .i64 0, .string ⟨#[]⟩, .bool false]) 40 rfl Try.underlying57 info172 rfl (by decide) (by omega) (.slice A4 s.ws.length c4) s.ws ⟨1, at_, t, cut⟩ _ (fun k => (O k ∧ lab k = 4) ∨ w2.heap.size ≤ k) (fun _ => False) rfl rfl (kC_M _) (fun _ hk => hk.elim) (fun k hk => .inr hk) (Kd.R_mono (Kd.R_drew HR2.out.r4) (fun k hk => .inl hk)) (below_drew1 HB2.out) (below_size (below_drew1 HB2.out)) (by omega) ?_; intro v1 w3 ho hb hg hat; obtain ⟨A5, c5, e5⟩ := Kd.R_slice ho; rw [List.length_append, List.length_singleton] at e5; subst e5; have HO3 := Aside0.mk ho; have HB3 := Aside0.mk hb; have HG3 := Aside0.mk hg; have HX4 := Aside0.mk (blk_grown (blk_drew HX2.out) hg (Kd.R_ne HR2.out.r4 HX2.out (by decide))); have HX5 := Aside0.mk (blk_grown (blk_drew HX3.out) hg (fun he => by have h1 := HLT4.out _ he.symm; rw [HGB.out] at h1; exact Nat.lt_irrefl _ h1)); have z5 := blk_frozen HX4.out 4; have c5_ : w3.cell? ⟨g, 4, none⟩ = some (.slice A4 s.ws.length c4) := (blk_cell HX4.out 4).trans rfl; clear ho hb hg hat)
      all_goals
        go_wp2_with (fail)
        go_meet
        have HK3 := Aside0.mk (show Kept w2 w3 (fun k => O k ∧ lab k = 4) from Kept.of_grown HG3.out (Kept.drew (Kept.refl w2 _)) (fun k hk => .inl (HR2.out.r4.1 k hk)))
        have HLB3 := Aside0.mk (show relab w2.heap.size lab 4 g = 5 by unfold relab; rw [if_pos (blk_lt HX2.out)]; exact HLB.out)
        exact ⟨⟨_, _, blk_put HX4.out 4 _ rfl, HLB3.out, (HR2.out.up4 HK3.out HO3.out).set HLB3.out 4 _⟩, ⟨blk_far HX5.out (p := ⟨g, 4, none⟩) HNE.out _⟩, ⟨HB3.out.setCell (p := ⟨g, 4, none⟩) HG.out _⟩, ⟨(HKw.out.then_ HK3.out (fun k hk => .inl hk.1)).setCell (p := ⟨g, 4, none⟩) (.inl HO.out) _⟩, ⟨by simp; exact HK3.out.1⟩⟩
    case rest =>
      obtain ⟨HC4, HX7, HB4, HK4, HS4⟩ := hcut
      clear c4_ c4b_ q0 q1 q2 q3 HX2 HX3 HR2 HB2 HKw HLT4
      obtain ⟨lb, y4, hx, hlb, hr⟩ := HC4.out
      have HX6 := Aside0.mk hx
      have HLB6 := Aside0.mk hlb
      have HR6 := Aside0.mk hr
      clear HC4 hx hlb hr
      have q0 : wc.cell? ⟨gb, 0, none⟩ = some (.int .i64 1) := (blk_cell HX7.out 0).trans rfl
      have q1 : wc.cell? ⟨gb, 1, none⟩ = some (.int .i64 (at_ : Int)) := (blk_cell HX7.out 1).trans rfl
      have q2 : wc.cell? ⟨gb, 2, none⟩ = some (.string t) := (blk_cell HX7.out 2).trans rfl
      have q3 : wc.cell? ⟨gb, 3, none⟩ = some (.bool cut) := (blk_cell HX7.out 3).trans rfl
      have q4 : wc.cell? ⟨g, 3, none⟩ = some (.slice A1 (bytesOf s.s1).length c1) := (blk_cell HX6.out 3).trans rfl
      go_upto_region 5 with (fail)
      go_quiet (fail)
      go_upto_region 6 with (fail)
      clear q0 q1 q2 q3 q4
      have HX8 := Aside0.mk (blk_drewN HX6.out nq)
      have HX9 := Aside0.mk (blk_drewN HX7.out nq)
      have HR8 := Aside0.mk (HR6.out.below (pw_below_drewN (Below.refl _ wc) nq))
      have HB8 := Aside0.mk (pw_below_drewN HB4.out nq)
      have HK8 := Aside0.mk (Kept.drewN HK4.out nq)
      have HS8 := Aside0.mk (show w2.heap.size ≤ (wc.drewN nq).heap.size from HS4.out)
      clear HX6 HX7 HR6 HB4 HK4 HS4
      generalize wc.drewN nq = w5 at HX8 HX9 HR8 HB8 HK8 HS8 ⊢
      have q0 : w5.cell? ⟨gb, 0, none⟩ = some (.int .i64 1) := (blk_cell HX9.out 0).trans rfl
      have q1 : w5.cell? ⟨gb, 1, none⟩ = some (.int .i64 (at_ : Int)) := (blk_cell HX9.out 1).trans rfl
      have q2 : w5.cell? ⟨gb, 2, none⟩ = some (.string t) := (blk_cell HX9.out 2).trans rfl
      have q3 : w5.cell? ⟨gb, 3, none⟩ = some (.bool cut) := (blk_cell HX9.out 3).trans rfl
      have q4 : w5.cell? ⟨g, 3, none⟩ = some (.slice A1 (bytesOf s.s1).length c1) := (blk_cell HX8.out 3).trans rfl
      go_region_law (first
        | (refine goes_ Try.func41 (by kernel_rfl) rfl #[chgV ⟨1, at_, t, cut⟩, .slice A1 (bytesOf s.s1).length c1] (by rfl) rfl rfl (by (try simp only [List.map_toArray, List.map_cons, List.map_nil]); first | done | rfl) ?_; refine (done.calls _ _ _ ⟨1, at_, t, cut⟩ w0 _ (below_drew1 HB8.out) (Kd.R_drew HR8.out.r3) HN.out (by rw [bytesOf_length]; exact HL.out)).mono ?_; rintro e w6 ⟨v6, rfl, ho, hb, hk⟩; obtain ⟨A6, c6, e6⟩ := Kd.R_slice ho; subst e6; refine ⟨_, rfl, ?_⟩; have HO9 := Aside0.mk ho; have HB9 := Aside0.mk hb; have HK9 := Aside0.mk hk; have HXA := Aside0.mk (blk_kept (blk_drew HX8.out) hk (fun he => absurd (HLB6.out.symm.trans he.2) (by decide))); have z6 := blk_frozen HXA.out 3; have c6_ : w6.cell? ⟨g, 3, none⟩ = some (.slice A1 (bytesOf s.s1).length c1) := (blk_cell HXA.out 3).trans rfl; clear ho hb hk))
      all_goals
        go_wp2_with (fail)
        go_ret
        have HL9 := Aside0.mk (show relab w5.drew.heap.size lb 3 g = 5 by unfold relab; rw [if_pos (blk_lt (blk_drew HX8.out))]; exact HLB6.out)
        refine ⟨by rw [HE.out]; rfl, ?_, HB9.out.setCell (p := ⟨g, 3, none⟩) HG.out _, ((Kept.drew HK8.out).then_ HK9.out (fun k hk => ?_)).setCell (p := ⟨g, 3, none⟩) (.inl HO.out) _⟩
        · unfold St.changed
          rw [if_pos HE.out]
          refine DX.mono (O := fun k => (O k ∨ w2.heap.size ≤ k) ∨ w5.drew.heap.size ≤ k) (DX.of (lab := relab w5.drew.heap.size lb 3) (blk_put HXA.out 3 _ rfl) HG.out (.inl (.inl HO.out)) HL9.out (((HR8.out.below (below_drew (Below.refl _ w5))).up3 HK9.out HO9.out).set HL9.out 3 _) rfl (by rw [s0_snoc, if_neg (show ¬ ((1 : Int) = 0) by decide)]; rfl) rfl (by rw [s1_snoc, if_pos rfl]; exact bytesOf_onB _ _)) ?_
          rintro k ((hk | hk) | hk)
          · exact .inl hk
          · exact .inr (Nat.le_trans HSZ.out hk)
          · exact .inr (Nat.le_trans HSZ.out (Nat.le_trans HS8.out hk))
        · rcases hk.1 with h | h
          · exact .inl h
          · exact .inr (Nat.le_trans HSZ.out h)
  · have HE := Aside0.mk e0
    rw [e0]
    clear e0
    go_upto_region 3 with (fail)
    go_wp2_with (fail)
    go_ret
    refine ⟨by rw [HE.out]; rfl, DX.mono ?_ (fun k hk => .inl hk), HB2.out, HKw.out⟩
    unfold St.changed
    rw [if_neg (by rw [HE.out]; decide)]
    exact ⟨lab, _, _, _, _, _, HX2.out, HG.out, HO.out, HLB.out, HR2.out⟩
end Go.Proofs.Ythaoaaboempajab.Disk
