/- The disk's bytes: a text put into a row of bytes, walked. Conditions: the row is a call's own; the size is below 2^47. -/
import Derived.Test.YthaoaaboempajaaQDiskRunsx
namespace Go.Proofs.Ythaoaaboempajaa.Disk
open Go.RowKit Go.Proofs.YthaoaaboempajaaW.PrintWords Go.Proofs.YthaoaaboempajaaW.PrintLast Go.Proofs.YthaoaaboempajaaW.PrintMore Go.Proofs.YthaoaaboempajaaX
set_option linter.unusedVariables false
set_option linter.unusedSimpArgs false
/-- Zeros behind, up to n bytes. -/
def fill (l : List Int) (n : Nat) : List Int := l ++ List.replicate (n - l.length) 0
def putL (l : List Int) (at_ : Nat) (s : ByteArray) : List Int := (fill l (at_ + s.size)).take at_ ++ (bytesOf s ++ (fill l (at_ + s.size)).drop (at_ + s.size))
def lenOf : Value → Nat
  | .slice _ n _ => n
  | _ => 0
theorem byteCells_encs (t : ByteArray) : Lib.byteCells t.data.toList = encs (Value.int .u8) (bytesOf t) := by simp [Lib.byteCells, encs, bytesOf]
/-- A text is copied over a part of a row of bytes. -/
theorem row_copy {W : World} {base g c : Nat} {ok : Nat → Prop} {xs : List Int} {off : Nat} {t : ByteArray} (h : Kd.R (Kd.int .u8) 5 W base ok (.slice (some ⟨g, 0, none⟩) xs.length c) xs) (hfit : off + t.size ≤ xs.length) :
    ∃ cur : Array Value, W.heap[g]? = some (.cells cur 5 (0, 0)) ∧ off + t.size ≤ cur.size ∧ ok g ∧
      Kd.R (Kd.int .u8) 5 (W.setRow g (cur.toList.take off ++ Lib.byteCells t.data.toList ++ cur.toList.drop (off + t.size)).toArray) base ok (.slice (some ⟨g, 0, none⟩) xs.length c) (xs.take off ++ (bytesOf t ++ xs.drop (off + t.size))) := by
  obtain ⟨hl, hv⟩ := Kd.own_of_R h
  rcases hv with ⟨hv, _⟩ | ⟨g', cap, cur, hv, hb, hg, hc, hm, hz, ht⟩
  · cases hv
  · cases hv
    refine ⟨cur, hg, by omega, h.1 g rfl, ?_⟩
    have hbl : (Lib.byteCells t.data.toList).length = t.size := by rw [byteCells_encs]; simp [encs, bytesOf_length]
    have hnl : (xs.take off ++ (bytesOf t ++ xs.drop (off + t.size))).length = xs.length := by simp [bytesOf_length]; omega
    refine (show (Kd.int .u8).R 5 _ base ok (.slice (some ⟨g, 0, none⟩) xs.length c) _ from Kd.R_of_own (enc := Value.int .u8) (h1 := fun _ => rfl) ?_ (fun k hk => h.1 k hk))
    rw [hnl]
    refine ⟨by simp [encs, bytesOf_length]; omega, .inr ⟨g, c, _, rfl, hb, setRow_heap W g cur _ 5 (0, 0) hg, hc, hm, ?_, ?_⟩⟩
    · simp [hbl]; omega
    · rw [Nat.mul_one] at ht ⊢
      have h1 : encs (Value.int .u8) (xs.take off) = cur.toList.take off := by
        rw [show encs (Value.int .u8) (xs.take off) = (encs (Value.int .u8) xs).take off by simp [encs, List.map_take], ← ht, List.take_take, Nat.min_eq_left (by omega)]
      have h2 : encs (Value.int .u8) (xs.drop (off + t.size)) = (cur.toList.drop (off + t.size)).take (xs.length - (off + t.size)) := by
        rw [show encs (Value.int .u8) (xs.drop (off + t.size)) = (encs (Value.int .u8) xs).drop (off + t.size) by simp [encs, List.map_drop], ← ht, List.drop_take]
      have h3 : encs (Value.int .u8) (xs.take off ++ (bytesOf t ++ xs.drop (off + t.size))) = encs (Value.int .u8) (xs.take off) ++ (encs (Value.int .u8) (bytesOf t) ++ encs (Value.int .u8) (xs.drop (off + t.size))) := by simp [encs]
      rw [h3, h1, h2, ← byteCells_encs, List.append_assoc, List.take_append, List.take_append]
      have ho : (cur.toList.take off).length = off := by rw [List.length_take, Array.length_toList]; omega
      rw [ho, hbl, show List.take xs.length (cur.toList.take off) = cur.toList.take off from List.take_of_length_le (by rw [ho]; omega), show List.take (xs.length - off) (Lib.byteCells t.data.toList) = Lib.byteCells t.data.toList from List.take_of_length_le (by rw [hbl]; omega), Nat.sub_sub]
/-- 'copy(b[off:], s)', b a row of bytes of the call's own, s a string. -/
theorem copy_at {ops : Array Oper} {rest : List Oper} {o : Oper} {a : Act} {W : World} {Q : Exit → Act → World → Prop} (hgd : o.guard = none) (d s : Operand)
    (hop : o.op = .call { callee := .builtin .copy, args := #[d, s], argTypes := #[55, 9] }) {base : Nat} {ok : Nat → Prop} {A : Option Addr} {c : Nat} {xs : List Int} (off : Nat) (t : ByteArray)
    (R : Kd.R (Kd.int .u8) 5 W base ok (.slice A xs.length c) xs) {ad : Option Addr} (had : ad = if c = off then A else A.map (·.add (off * 1))) (hd : a.eval d = .slice ad (xs.length - off) (c - off)) (hs : a.eval s = .string t) (hfit : off + t.size ≤ xs.length)
    (h : ∀ w', Kd.R (Kd.int .u8) 5 w' base ok (.slice A xs.length c) (xs.take off ++ (bytesOf t ++ xs.drop (off + t.size))) → Below base W w' → Kept W w' ok → wpList Try.prog ops Q rest (a.put o.dst (goInt t.size)) w') :
    wpList Try.prog ops Q (o :: rest) a W := by
  subst had
  by_cases h0 : t.size = 0
  · have hb : bytesOf t = [] := List.eq_nil_of_length_eq_zero (by rw [bytesOf_length, h0])
    have hx : xs.take off ++ (bytesOf t ++ xs.drop (off + t.size)) = xs := by rw [hb, h0]; simp
    have := h W (by rw [hx]; exact R) (Below.refl _ _) (Kept.refl _ _)
    refine wpList_plain hgd fun K hK => ?_
    have hrun := Lib.run_copy_empty_string (P := Try.prog) W 55 9 o.type 5 (if c = off then A else A.map (·.add (off * 1))) (xs.length - off) (c - off) t Try.underlying55 (by kernel_rfl) h0
    unfold Oper.wp
    simp only [Nat.mul_one] at hd hrun
    simp [execOp, hop, resolve, invoke, builtin, hd, hs, hrun, Result.andThen]
    rw [h0] at this
    exact hK _ _ this
  · obtain ⟨g, cap, hv, hb, hg, _⟩ := Kd.R_form R (by omega)
    cases hv
    have hc : xs.length ≤ c := by
      obtain ⟨_, hv⟩ := Kd.own_of_R R
      rcases hv with ⟨hv, _⟩ | ⟨g', cap, cur, hv, _, _, hc, _⟩
      · cases hv
      · cases hv; exact hc
    obtain ⟨cur, hgc, hcs, hok, hR⟩ := row_copy R hfit
    have e : (Addr.mk g 0 none).add (off * 1) = ⟨g, off, none⟩ := by
      rw [Nat.mul_one]
      unfold Addr.add
      split
      · rename_i h0; subst h0; rfl
      · simp
    rw [if_neg (by omega), Option.map_some, e] at hd
    have hrun := Lib.run_copy_row_string (P := Try.prog) W 55 9 o.type 5 g off (xs.length - off) (c - off) t cur 5 Try.underlying55 (by kernel_rfl) hgc (by omega) hcs
    have := h _ hR (below_setRow (Below.refl base W) hb _) ⟨(below_setRow (Below.refl base W) hb _).size, fun i hi hn => setRow_other W g i _ (fun e => hn (e ▸ hok))⟩
    generalize W.setRow g (cur.toList.take off ++ Lib.byteCells t.data.toList ++ cur.toList.drop (off + t.size)).toArray = w2 at hrun this
    refine wpList_plain hgd fun K hK => ?_
    unfold Oper.wp
    simp [execOp, hop, resolve, invoke, builtin, hd, hs, hrun, Result.andThen]
    exact hK _ _ this
set_option maxHeartbeats 8000000 in
set_option maxRecDepth 100000 in
theorem put.calls (P0 : Nat → Prop) (u : Value) (l : List Int) (at_ : Nat) (s : ByteArray) (w0 w : World) (hB : Below w0.heap.size w0 w) (ho : Kd.R (Kd.int .u8) 5 w w0.heap.size P0 u l) (hn : at_ + s.size ≤ 140737488355000) (hl : l.length ≤ 140737488355000) :
    Calls Try.prog 178 #[u, .int .i64 (at_ : Int), .string s] w fun e w' => ∃ v : Value, e = .returned v ∧ Kd.R (Kd.int .u8) 5 w' w0.heap.size (fun k => P0 k ∨ w.heap.size ≤ k) v (putL l at_ s) ∧ Below w0.heap.size w0 w' ∧ Kept w w' P0 := by
  have HO := Aside0.mk (Kd.R_mono ho (ok' := fun k => P0 k ∨ w.heap.size ≤ k) (fun k hk => .inl hk))
  have HB := Aside0.mk hB
  have HK := Aside0.mk (Kept.refl w P0)
  have HN := Aside0.mk hn
  have HL := Aside0.mk hl
  obtain ⟨i5, hi5⟩ : ∃ i, Try.prog.info? 5 = some i := Option.isSome_iff_exists.1 (by kernel_rfl)
  clear ho hB hn hl
  go_enter Try.func178, Try.ntmps178
  go_wp2_with (fail)
  go_loopw [0] (fun v0 wr => ∃ (v : Value) (m : Nat), v0 = v ∧ Aside0 (m = 0 ∨ l.length + m ≤ at_ + s.size) ∧ Aside0 (Kd.R (Kd.int .u8) 5 wr w0.heap.size (fun k => P0 k ∨ w.heap.size ≤ k) v (l ++ List.replicate m 0)) ∧ Aside0 (Below w0.heap.size w0 wr) ∧ Aside0 (Kept w wr P0)) (fun v0 _ => at_ + s.size - lenOf v0)
  case atStart => exact ⟨_, 0, rfl, ⟨.inl rfl⟩, by rw [List.replicate_zero, List.append_nil]; exact HO, HB, HK⟩
  case round =>
    clear HO HB HK
    obtain ⟨v, m, rfl, HM, HO, HB, HK⟩ := hrel
    obtain ⟨A, c, rfl⟩ := Kd.R_slice HO.out
    have hn := HN.out
    have hl := HL.out
    have w1_ : IntKind.i64.wrap ((at_ : Int) + (s.size : Int)) = (at_ : Int) + (s.size : Int) := IntWalk.i64_in _ (by omega)
    have hlen : (l ++ List.replicate m (0 : Int)).length = l.length + m := by simp
    have HM' := HM.out
    by_cases hlt : (l ++ List.replicate m (0 : Int)).length < at_ + s.size
    · have t_ : decide (((l ++ List.replicate m (0 : Int)).length : Int) < (at_ : Int) + (s.size : Int)) = true := decide_eq_true (by omega)
      go_wp2_with (first
        | ((with_reducible refine gate_builtin (b := .append) (xs := #[.tmp 14, .tmp 15]) rfl ?_); at_builtin; refine Kd.R_append (Kd.int .u8) (w0 := w0) w0.heap.size rfl (.tmp 14) (.tmp 15) 55 5 (.int .u8 0) 1 rfl Try.underlying55 (by kernel_rfl) rfl (by decide) (by omega) (.slice A (l ++ List.replicate m 0).length c) (l ++ List.replicate m 0) 0 [.int .u8 0] (fun k => P0 k ∨ w.heap.size ≤ k) (fun _ => False) rfl rfl ?aP (fun _ hk => hk.elim) ?aF ?aO ?aB ?aS ?aL ?_; (case aP => exact rfl); (case aB => exact HB.out); (case aF => exact (fun k hk => .inr (Nat.le_trans HK.out.1 hk))); (case aO => exact HO.out); (case aS => exact below_size HB.out); (case aL => omega); intro v1 w1 ho hb hg hat; have HO1 := Aside0.mk ho; have HB1 := Aside0.mk hb; have HG1 := Aside0.mk hg; clear ho hb hg hat))
      go_roundw
      case rel =>
        refine ⟨_, m + 1, rfl, ⟨.inr (by omega)⟩, ⟨?_⟩, HB1, ⟨?_⟩⟩
        · have h := HO1.out
          rw [List.append_assoc, show List.replicate m (0 : Int) ++ [0] = List.replicate (m + 1) 0 by rw [List.replicate_succ']] at h
          exact h
        · exact Kept.then_ HK.out ⟨HG1.out.size, fun k hk hn => HG1.out.block k hk (fun e => by
            rcases HO.out.1 k (by rw [← e]) with h | h
            · exact hn (.inl h)
            · exact hn (.inr h))⟩ (fun k hk => hk)
      case measure =>
        obtain ⟨A1, c1, e1⟩ := Kd.R_slice HO1.out
        subst e1
        simp [lenOf]
        omega
    · have t_ : decide (((l ++ List.replicate m (0 : Int)).length : Int) < (at_ : Int) + (s.size : Int)) = false := decide_eq_false (by omega)
      have hfl : l ++ List.replicate m 0 = fill l (at_ + s.size) := by
        unfold fill
        rcases HM' with rfl | h
        · rw [hlen] at hlt
          rw [Nat.sub_eq_zero_of_le (by omega)]
        · rw [hlen] at hlt
          rw [show m = at_ + s.size - l.length by omega]
      clear hlen
      generalize l ++ List.replicate m (0 : Int) = xs at *
      have HF := Aside0.mk hfl
      clear hfl HM HM'
      have hxs : ¬ ((xs.length : Int) < (at_ : Int) + (s.size : Int)) := by omega
      have sl_ := cut_from (P := Try.prog) 55 5 .i64 Try.underlying55 hi5 1 (by have h := QDiskRuns.info5; rw [hi5] at h; simp at h; exact h.2.1) A xs.length c (at_ : Int) (by omega) (by omega)
      rw [Int.toNat_natCast] at sl_
      obtain ⟨ad, had⟩ : ∃ ad, ad = (if c = at_ then A else A.map (·.add (at_ * 1))) := ⟨_, rfl⟩
      rw [← had] at sl_
      have HAD := Aside0.mk had
      clear had
      go_upto_region 4 with (refine copy_at rfl (.tmp 19) (.tmp 20) rfl at_ s HO.out HAD.out rfl rfl (by omega) ?_; intro w2 ho hb hk; have HO2 := Aside0.mk ho; have HB2 := Aside0.mk hb; have HK2 := Aside0.mk hk; clear ho hb hk)
      go_wp2_with (fail)
      go_ret
      have hfl := HF.out
      subst hfl
      exact ⟨_, rfl, HO2.out, HB.out.trans HB2.out, Kept.then_ HK.out HK2.out (fun k hk => hk)⟩
end Go.Proofs.Ythaoaaboempajaa.Disk
