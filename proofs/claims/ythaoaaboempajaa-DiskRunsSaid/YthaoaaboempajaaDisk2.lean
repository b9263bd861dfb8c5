/- The disk's bytes: a change (a text put in, or a cut) made on a row of bytes, walked. Conditions: the row is a call's own; the sizes are below 2^47. -/
import Derived.Test.YthaoaaboempajaaDisk1
namespace Go.Proofs.Ythaoaaboempajaa.Disk
open Go.RowKit Go.Proofs.YthaoaaboempajaaW.PrintWords Go.Proofs.YthaoaaboempajaaW.PrintLast Go.Proofs.YthaoaaboempajaaW.PrintMore Go.Proofs.YthaoaaboempajaaX
set_option linter.unusedVariables false
set_option linter.unusedSimpArgs false
def doneL (l : List Int) (at_ : Nat) (s : ByteArray) (cut : Bool) : List Int := if cut then (fill l at_).take at_ else putL l at_ s
set_option maxHeartbeats 8000000 in
set_option maxRecDepth 100000 in
theorem done.put (P0 : Nat → Prop) (u : Value) (l : List Int) (f : Int) (at_ : Nat) (s : ByteArray) (w0 w : World) (hB : Below w0.heap.size w0 w) (ho : Kd.R (Kd.int .u8) 5 w w0.heap.size P0 u l) (hn : at_ + s.size ≤ 140737488355000) (hl : l.length ≤ 140737488355000) :
    Calls Try.prog 150 #[.agg #[.int .i64 f, .int .i64 (at_ : Int), .string s, .bool false], u] w fun e w' => ∃ v : Value, e = .returned v ∧ Kd.R (Kd.int .u8) 5 w' w0.heap.size (fun k => P0 k ∨ w.heap.size ≤ k) v (putL l at_ s) ∧ Below w0.heap.size w0 w' ∧ Kept w w' P0 := by
  have HO := Aside0.mk ho
  have HB := Aside0.mk hB
  have HN := Aside0.mk hn
  have HL := Aside0.mk hl
  clear ho hB hn hl
  go_enter Try.func150, Try.ntmps150
  go_upto_region 1 with ((with_reducible refine gate_dst (N := 2) rfl ?_); refine box_event ?hg (N := 2) ?hd (cs := #[.int .i64 f, .int .i64 (at_ : Int), .string s, .bool false]) (t := 172) ?hr ?_; (case hd => rfl); (case hg => rfl); (case hr => first | (go_simp; done) | (go_simp; rfl)); intro gb hgb w1 hbox hb; have HX := Aside0.mk hbox; have HB0 := Aside0.mk hb; clear hgb hbox hb)
  have c1 := blk_cell HX.out 1
  have c2 := blk_cell HX.out 2
  have c3 := blk_cell HX.out 3
  simp only [List.getElem?_toArray, List.getElem?_cons_zero, List.getElem?_cons_succ] at c1 c2 c3
  have HO1 := Aside0.mk (Kd.R_below HO.out HB0.out)
  have HB1 := Aside0.mk (below_step HB.out HB0.out)
  go_upto_region 6 with (go_at_call 178; (refine (put.calls P0 u l at_ s w0 _ HB1.out HO1.out HN.out HL.out).mono ?_); rintro e2 w2 ⟨v2, rfl, ho2, hb2, hk2⟩; have HO2 := Aside0.mk ho2; have HB2 := Aside0.mk hb2; have HK2 := Aside0.mk hk2; clear ho2 hb2 hk2)
  go_ret
  exact ⟨_, rfl, Kd.R_mono HO2.out (fun k hk => hk.imp id (fun h => Nat.le_trans HB0.out.size h)), HB2.out, Kept.then_ (Kept.of_below HB0.out P0) HK2.out (fun k hk => .inl hk)⟩
set_option maxHeartbeats 8000000 in
set_option maxRecDepth 100000 in
theorem done.cut (P0 : Nat → Prop) (u : Value) (l : List Int) (f : Int) (at_ : Nat) (s : ByteArray) (w0 w : World) (hB : Below w0.heap.size w0 w) (ho : Kd.R (Kd.int .u8) 5 w w0.heap.size P0 u l) (hn : at_ ≤ 140737488355000) (hl : l.length ≤ 140737488355000) :
    Calls Try.prog 150 #[.agg #[.int .i64 f, .int .i64 (at_ : Int), .string s, .bool true], u] w fun e w' => ∃ v : Value, e = .returned v ∧ Kd.R (Kd.int .u8) 5 w' w0.heap.size (fun k => P0 k ∨ w.heap.size ≤ k) v ((fill l at_).take at_) ∧ Below w0.heap.size w0 w' ∧ Kept w w' P0 := by
  have HO := Aside0.mk ho
  have HB := Aside0.mk hB
  have HN := Aside0.mk hn
  have HL := Aside0.mk hl
  obtain ⟨i5, hi5⟩ : ∃ i, Try.prog.info? 5 = some i := Option.isSome_iff_exists.1 (by kernel_rfl)
  clear ho hB hn hl
  go_enter Try.func150, Try.ntmps150
  go_upto_region 1 with ((with_reducible refine gate_dst (N := 2) rfl ?_); refine box_event ?hg (N := 2) ?hd (cs := #[.int .i64 f, .int .i64 (at_ : Int), .string s, .bool true]) (t := 172) ?hr ?_; (case hd => rfl); (case hg => rfl); (case hr => first | (go_simp; done) | (go_simp; rfl)); intro gb hgb w1 hbox hb; have HX1 := Aside0.mk hbox; have HB0 := Aside0.mk hb; clear hgb hbox hb)
  have c3 := blk_cell HX1.out 3
  simp only [List.getElem?_toArray, List.getElem?_cons_zero, List.getElem?_cons_succ] at c3
  have HO1 := Aside0.mk (Kd.R_mono (Kd.R_below HO.out HB0.out) (ok' := fun k => P0 k ∨ w.heap.size ≤ k) (fun k hk => .inl hk))
  have HB1 := Aside0.mk (below_step HB.out HB0.out)
  have HK1 := Aside0.mk (Kept.of_below HB0.out P0)
  clear HO HB
  go_wp2_with (fail)
  clear c3
  go_loopw [1] (fun v0 wr => ∃ (v : Value) (m : Nat), v0 = v ∧ Aside0 (m = 0 ∨ l.length + m ≤ at_) ∧ Aside0 (Kd.R (Kd.int .u8) 5 wr w0.heap.size (fun k => P0 k ∨ w.heap.size ≤ k) v (l ++ List.replicate m 0)) ∧ Aside0 (Below w0.heap.size w0 wr) ∧ Aside0 (Kept w wr P0) ∧ Aside0 (wr.heap[gb]? = some (.cells #[.int .i64 f, .int .i64 (at_ : Int), .string s, .bool true] 172 (0, 0)))) (fun v0 _ => at_ - lenOf v0)
  case atStart => exact ⟨_, 0, rfl, ⟨.inl rfl⟩, by rw [List.replicate_zero, List.append_nil]; exact HO1, HB1, HK1, HX1⟩
  case round =>
    clear HO1 HB1 HK1 HX1 HB0
    obtain ⟨v, m, rfl, HM, HO, HB, HK, HX⟩ := hrel
    obtain ⟨A, c, rfl⟩ := Kd.R_slice HO.out
    have hn := HN.out
    have hl := HL.out
    have c1 := blk_cell HX.out 1
    simp only [List.getElem?_toArray, List.getElem?_cons_zero, List.getElem?_cons_succ] at c1
    have hlen : (l ++ List.replicate m (0 : Int)).length = l.length + m := by simp
    have HM' := HM.out
    by_cases hlt : (l ++ List.replicate m (0 : Int)).length < at_
    · have t_ : decide (((l ++ List.replicate m (0 : Int)).length : Int) < (at_ : Int)) = true := decide_eq_true (by omega)
      go_wp2_with (first
        | ((with_reducible refine gate_builtin (b := .append) (xs := #[.tmp 12, .tmp 13]) rfl ?_); at_builtin; refine Kd.R_append (Kd.int .u8) (w0 := w0) w0.heap.size rfl (.tmp 12) (.tmp 13) 55 5 (.int .u8 0) 1 rfl Try.underlying55 (by kernel_rfl) rfl (by decide) (by omega) (.slice A (l ++ List.replicate m 0).length c) (l ++ List.replicate m 0) 0 [.int .u8 0] (fun k => P0 k ∨ w.heap.size ≤ k) (fun _ => False) rfl rfl ?aP (fun _ hk => hk.elim) ?aF ?aO ?aB ?aS ?aL ?_; (case aP => exact rfl); (case aB => exact HB.out); (case aF => exact (fun k hk => .inr (Nat.le_trans HK.out.1 hk))); (case aO => exact HO.out); (case aS => exact below_size HB.out); (case aL => omega); intro v1 w1 ho hb hg hat; have HO1 := Aside0.mk ho; have HB1 := Aside0.mk hb; have HG1 := Aside0.mk hg; clear ho hb hg hat))
      go_roundw
      case rel =>
        refine ⟨_, m + 1, rfl, ⟨.inr (by omega)⟩, ⟨?_⟩, HB1, ⟨?_⟩, ⟨blk_grown HX.out HG1.out (Kd.R_ne HO.out HX.out (by decide))⟩⟩
        · have h := HO1.out
          rw [List.append_assoc, show List.replicate m (0 : Int) ++ [0] = List.replicate (m + 1) 0 by rw [List.replicate_succ']] at h
          exact h
        · exact Kept.then_ HK.out ⟨HG1.out.size, fun k hk hn => HG1.out.block k hk (fun e => by
            rcases HO.out.1 k (by rw [← e]) with h | h
            · exact hn (.inl h)
            · exact hn (.inr h))⟩ (fun k hk => hk)
      case measure =>
        obtain ⟨A1, c1, e1⟩ := Kd.R_slice HO1.out
        subst e1
        simp [lenOf]
        omega
    · have t_ : decide (((l ++ List.replicate m (0 : Int)).length : Int) < (at_ : Int)) = false := decide_eq_false (by omega)
      have hfl : l ++ List.replicate m 0 = fill l at_ := by
        unfold fill
        rcases HM' with rfl | h
        · rw [hlen] at hlt
          rw [Nat.sub_eq_zero_of_le (by omega)]
        · rw [hlen] at hlt
          rw [show m = at_ - l.length by omega]
      clear hlen
      generalize l ++ List.replicate m (0 : Int) = xs at *
      have HF := Aside0.mk hfl
      clear hfl HM HM'
      have hxs : ¬ ((xs.length : Int) < (at_ : Int)) := by omega
      have hc := (Kd.R_reads' HO.out).2.1
      have sl_ := cut_to (P := Try.prog) 55 5 .i64 Try.underlying55 hi5 A xs.length c (at_ : Int) (by omega) (by omega) hc
      rw [Int.toNat_natCast] at sl_
      go_wp2_with (fail)
      go_ret
      have hfl := HF.out
      subst hfl
      exact ⟨_, rfl, by
        have h := Kd.R_take HO.out (m := at_) (by omega)
        exact h, HB.out, HK.out⟩
end Go.Proofs.Ythaoaaboempajaa.Disk
