/- The disk's change, walked. Conditions: the disk is a block with rows of its own; the sizes are small. -/
import Derived.Test.YthaoaaboempajaaDisk7
namespace Go.Proofs.Ythaoaaboempajaa.Disk
open Go.RowKit Go.Proofs.YthaoaaboempajaaW.PrintWords Go.Proofs.YthaoaaboempajaaW.PrintLast Go.Proofs.YthaoaaboempajaaW.PrintMore Go.Proofs.YthaoaaboempajaaX
set_option linter.unusedVariables false
set_option linter.unusedSimpArgs false
theorem info172 : (Try.prog.info? 172).map (fun i => (i.zero, i.size, i.bytes)) = some (some (.agg #[.int .i64 0, .int .i64 0, .string ⟨#[]⟩, .bool false]), 4, 40) := by kernel_rfl
theorem done.calls (P0 : Nat → Prop) (u : Value) (l : List Int) (ch : Chg) (w0 w : World) (hB : Below w0.heap.size w0 w) (ho : Kd.R (Kd.int .u8) 5 w w0.heap.size P0 u l) (hn : ch.at_ + ch.text.size ≤ 140737488355000) (hl : l.length ≤ 140737488355000) :
    Calls Try.prog 150 #[chgV ch, u] w fun e w' => ∃ v : Value, e = .returned v ∧ Kd.R (Kd.int .u8) 5 w' w0.heap.size (fun k => P0 k ∨ w.heap.size ≤ k) v (doneL l ch.at_ ch.text ch.cut) ∧ Below w0.heap.size w0 w' ∧ Kept w w' P0 := by
  obtain ⟨f, a, t, c⟩ := ch
  cases c
  · exact done.put P0 u l f a t w0 w hB ho hn hl
  · exact done.cut P0 u l f a t w0 w hB ho (by dsimp only at hn; omega) hl
theorem DX.of {w : World} {base g : Nat} {O : Nat → Prop} {a0 b0 a1 b1 : ByteArray} {ws : List Chg} {f c : Int} {d : Bool} {lab : Nat → Nat} {x0 x1 x2 x3 x4 : Value} {m0 n0 m1 n1 : List Int}
    (hb : w.heap[g]? = some (.cells (dcells x0 x1 x2 x3 x4 f d c) 146 (0, 0))) (hg : base ≤ g) (hO : O g) (hl : lab g = 5) (hr : Rws w base O lab x0 x1 x2 x3 x4 m0 n0 m1 n1 ws) (e0 : bytesOf a0 = m0) (e1 : bytesOf b0 = n0) (e2 : bytesOf a1 = m1) (e3 : bytesOf b1 = n1) : DX w base g O a0 b0 a1 b1 ws f d c := by
  subst e0 e1 e2 e3
  exact ⟨lab, x0, x1, x2, x3, x4, hb, hg, hO, hl, hr⟩
theorem s0_snoc (l0 l1 : ByteArray) (ws : List Chg) (ch : Chg) (f : Int) (d : Bool) (c : Int) : (St.mk l0 l1 (ws ++ [ch]) f d c).s0 = if ch.file = 0 then onB ch (seenB 0 ws l0) else seenB 0 ws l0 := seenB_snoc _ _ _ _
theorem s1_snoc (l0 l1 : ByteArray) (ws : List Chg) (ch : Chg) (f : Int) (d : Bool) (c : Int) : (St.mk l0 l1 (ws ++ [ch]) f d c).s1 = if ch.file = 1 then onB ch (seenB 1 ws l1) else seenB 1 ws l1 := seenB_snoc _ _ _ _
theorem beq_false {a b : Int} (h : a ≠ b) : (a == b) = false := beq_eq_false_iff_ne.mpr h
set_option maxHeartbeats 8000000 in
set_option maxRecDepth 100000 in
theorem change.calls0 (g : Nat) (O : Nat → Prop) (s : St) (at_ : Nat) (t : ByteArray) (cut : Bool) (w0 w : World) (hB : Below w0.heap.size w0 w) (hD : DD w w0.heap.size g O s)
    (hf : -9223372036854775808 ≤ s.f ∧ s.f < 9223372036854775808) (hc : 0 ≤ s.c ∧ s.c < 9223372036854775807) (hn : at_ + t.size ≤ 140737488355000) (hl : s.s0.size ≤ 140737488355000) (hw : s.ws.length ≤ 1000000000000) :
    Calls Try.prog 166 #[.pointer (some ⟨g, 0, none⟩), chgV ⟨0, at_, t, cut⟩] w fun e w' => e = .returned (.int .i64 (turn s.f s.d s.c).1) ∧
      DD w' w0.heap.size g (fun k => O k ∨ w.heap.size ≤ k) (s.changed ⟨0, at_, t, cut⟩) ∧ Below w0.heap.size w0 w' ∧ Kept w w' O := by
  obtain ⟨lab, x0, x1, x2, x3, x4, hb, hg, hO, hlb, hr⟩ := hD
  have HB := Aside0.mk hB
  have HG := Aside0.mk hg
  have HO := Aside0.mk hO
  have HLB := Aside0.mk hlb
  have HR := Aside0.mk hr
  have HX := Aside0.mk hb
  have HF := Aside0.mk hf
  have HC := Aside0.mk hc
  have HN := Aside0.mk hn
  have HL := Aside0.mk hl
  have HW := Aside0.mk hw
  clear hB hb hg hO hlb hr hf hc hn hl hw
  obtain ⟨A4, c4, e4⟩ := Kd.R_slice HR.out.r4
  subst e4
  obtain ⟨A1, c1, e1⟩ := Kd.R_slice HR.out.r1
  subst e1
  go_enter Try.func166, Try.ntmps166
  go_upto_region 1 with ((with_reducible refine gate_dst (N := 3) rfl ?_); refine box_event ?hg (N := 3) ?hd (cs := #[.int .i64 0, .int .i64 (at_ : Int), .string t, .bool cut]) (t := 172) ?hr ?_; (case hd => rfl); (case hg => rfl); (case hr => first | (go_simp; done) | (go_simp; rfl)); intro gb hgb w1 hbox hb; have HX1 := Aside0.mk hbox; have HB0 := Aside0.mk hb; have HGB := Aside0.mk hgb; clear hgb hbox hb)
  have HX0 := Aside0.mk (blk_below HX.out HB0.out)
  have HR0 := Aside0.mk (HR.out.below HB0.out)
  have HB1 := Aside0.mk (below_step HB.out HB0.out)
  have HNE := Aside0.mk (show gb ≠ g from blk_ne HX1.out HX0.out (by decide))
  have HLT4 := Aside0.mk (Kd.R_lt HR.out.r4)
  clear HX HR HB
  go_upto_region 2 with (go_at_call 168; (refine (turn.calls g _ _ _ _ _ s.f s.d s.c w0 _ HB1.out HG.out HX0.out HF.out HC.out).mono ?_); rintro e2 w2 ⟨rfl, hx2, hb2, hk2, hs2⟩; have HX2 := Aside0.mk hx2; have HB2 := Aside0.mk hb2; have HK2 := Aside0.mk hk2; have HS2 := Aside0.mk hs2; clear hx2 hb2 hk2 hs2)
  have HX3 := Aside0.mk (blk_kept HX1.out HK2.out HNE.out)
  have HR2 := Aside0.mk (HR0.out.only HK2.out HLB.out)
  have HKw := Aside0.mk (Kept.then_ (Kept.of_below HB0.out O) HK2.out (fun k hk => .inl (by rw [hk]; exact HO.out)))
  have HSZ := Aside0.mk (show w.heap.size ≤ w2.heap.size by rw [HS2.out]; exact HB0.out.size)
  clear HX1 HB0 HX0 HR0 HB1 HK2 HS2
  rcases turn_cases s.f s.d s.c with ⟨e0, -⟩ | ⟨e0, -⟩
  · have HE := Aside0.mk e0
    rw [e0]
    clear e0
    go_upto_region 4 with (fail)
    have c4_ : w2.cell? ⟨g, 4, none⟩ = some (.slice A4 s.ws.length c4) := (blk_cell HX2.out 4).trans rfl
    have c4b_ : ∀ o, (w2.alloc o).cell? ⟨g, 4, none⟩ = some (.slice A4 s.ws.length c4) := fun o => (blk_cell (blk_alloc HX2.out o) 4).trans rfl
    have q0 : w2.cell? ⟨gb, 0, none⟩ = some (.int .i64 0) := (blk_cell HX3.out 0).trans rfl
    have q1 : w2.cell? ⟨gb, 1, none⟩ = some (.int .i64 (at_ : Int)) := (blk_cell HX3.out 1).trans rfl
    have q2 : w2.cell? ⟨gb, 2, none⟩ = some (.string t) := (blk_cell HX3.out 2).trans rfl
    have q3 : w2.cell? ⟨gb, 3, none⟩ = some (.bool cut) := (blk_cell HX3.out 3).trans rfl
    have HW' := HW.out
    go_cut [] from 12 to 21 (fun wx => Aside0 (∃ lb y4, wx.heap[g]? = some (.cells (dcells x0 (.slice A1 (bytesOf s.s0).length c1) x2 x3 y4 (turn s.f s.d s.c).2.1 (turn s.f s.d s.c).2.2.1 (turn s.f s.d s.c).2.2.2) 146 (0, 0)) ∧ lb g = 5 ∧ Rws wx w0.heap.size (fun k => O k ∨ w2.heap.size ≤ k) lb x0 (.slice A1 (bytesOf s.s0).length c1) x2 x3 y4 (bytesOf s.l0) (bytesOf s.s0) (bytesOf s.l1) (bytesOf s.s1) (s.ws ++ [⟨0, at_, t, cut⟩])) ∧ Aside0 (wx.heap[gb]? = some (.cells #[.int .i64 0, .int .i64 (at_ : Int), .string t, .bool cut] 172 (0, 0))) ∧ Aside0 (Below w0.heap.size w0 wx) ∧ Aside0 (Kept w wx O) ∧ Aside0 (w2.heap.size ≤ wx.heap.size))
    case first =>
      go_region_law (refine Kd.R_append_step (W := w2.drew) kC w0.heap.size rfl (.tmp 16) (.tmp 18) 144 172 (.agg #[.int .i64 0, .int .i64 0, .string ⟨#[]⟩, .bool false]) 40 rfl Try.underlying144 info172 rfl (by decide) (by omega) (.slice A4 s.ws.length c4) s.ws ⟨0, at_, t, cut⟩ _ (fun k => (O k ∧ lab k = 4) ∨ w2.heap.size ≤ k) (fun _ => False) rfl rfl (kC_M _) (fun _ hk => hk.elim) (fun k hk => .inr hk) (Kd.R_mono (Kd.R_drew HR2.out.r4) (fun k hk => .inl hk)) (below_drew1 HB2.out) (below_size (below_drew1 HB2.out)) (by omega) ?_; intro v1 w3 ho hb hg hat; obtain ⟨A5, c5, e5⟩ := Kd.R_slice ho; rw [List.length_append, List.length_singleton] at e5; subst e5; have HO3 := Aside0.mk ho; have HB3 := Aside0.mk hb; have HG3 := Aside0.mk hg; have HX4 := Aside0.mk (blk_grown (blk_drew HX2.out) hg (Kd.R_ne HR2.out.r4 HX2.out (by decide))); have HX5 := Aside0.mk (blk_grown (blk_drew HX3.out) hg (fun he => by have h1 := HLT4.out _ he.symm; rw [HGB.out] at h1; exact Nat.lt_irrefl _ h1)); have z5 := blk_frozen HX4.out 4; have c5_ : w3.cell? ⟨g, 4, none⟩ = some (.slice A4 s.ws.length c4) := (blk_cell HX4.out 4).trans rfl; clear ho hb hg hat)
      all_goals
        go_wp2_with (fail)
        go_meet
        have HK3 := Aside0.mk (show Kept w2 w3 (fun k => O k ∧ lab k = 4) from Kept.of_grown HG3.out (Kept.drew (Kept.refl w2 _)) (fun k hk => .inl (HR2.out.r4.1 k hk)))
        have HLB3 := Aside0.mk (show relab w2.heap.size lab 4 g = 5 by unfold relab; rw [if_pos (blk_lt HX2.out)]; exact HLB.out)
        exact ⟨⟨_, _, blk_put HX4.out 4 _ rfl, HLB3.out, (HR2.out.up4 HK3.out HO3.out).set HLB3.out 4 _⟩, ⟨blk_far HX5.out (p := ⟨g, 4, none⟩) HNE.out _⟩, ⟨HB3.out.setCell (p := ⟨g, 4, none⟩) HG.out _⟩, ⟨(HKw.out.then_ HK3.out (fun k hk => .inl hk.1)).setCell (p := ⟨g, 4, none⟩) (.inl HO.out) _⟩, ⟨by simp; exact HK3.out.1⟩⟩
    case rest =>
      obtain ⟨HC4, HX7, HB4, HK4, HS4⟩ := hcut
      clear c4_ c4b_ q0 q1 q2 q3 HX2 HX3 HR2 HB2 HKw HLT4
      obtain ⟨lb, y4, hx, hlb, hr⟩ := HC4.out
      have HX6 := Aside0.mk hx
      have HLB6 := Aside0.mk hlb
      have HR6 := Aside0.mk hr
      clear HC4 hx hlb hr
      have q0 : wc.cell? ⟨gb, 0, none⟩ = some (.int .i64 0) := (blk_cell HX7.out 0).trans rfl
      have q1 : wc.cell? ⟨gb, 1, none⟩ = some (.int .i64 (at_ : Int)) := (blk_cell HX7.out 1).trans rfl
      have q2 : wc.cell? ⟨gb, 2, none⟩ = some (.string t) := (blk_cell HX7.out 2).trans rfl
      have q3 : wc.cell? ⟨gb, 3, none⟩ = some (.bool cut) := (blk_cell HX7.out 3).trans rfl
      have q4 : wc.cell? ⟨g, 1, none⟩ = some (.slice A1 (bytesOf s.s0).length c1) := (blk_cell HX6.out 1).trans rfl
      go_upto_region 5 with (fail)
      go_quiet (fail)
      go_upto_region 6 with (fail)
      clear q0 q1 q2 q3 q4
      have HX8 := Aside0.mk (blk_drewN HX6.out nq)
      have HX9 := Aside0.mk (blk_drewN HX7.out nq)
      have HR8 := Aside0.mk (HR6.out.below (pw_below_drewN (Below.refl _ wc) nq))
      have HB8 := Aside0.mk (pw_below_drewN HB4.out nq)
      have HK8 := Aside0.mk (Kept.drewN HK4.out nq)
      have HS8 := Aside0.mk (show w2.heap.size ≤ (wc.drewN nq).heap.size from HS4.out)
      clear HX6 HX7 HR6 HB4 HK4 HS4
      generalize wc.drewN nq = w5 at HX8 HX9 HR8 HB8 HK8 HS8 ⊢
      have q0 : w5.cell? ⟨gb, 0, none⟩ = some (.int .i64 0) := (blk_cell HX9.out 0).trans rfl
      have q1 : w5.cell? ⟨gb, 1, none⟩ = some (.int .i64 (at_ : Int)) := (blk_cell HX9.out 1).trans rfl
      have q2 : w5.cell? ⟨gb, 2, none⟩ = some (.string t) := (blk_cell HX9.out 2).trans rfl
      have q3 : w5.cell? ⟨gb, 3, none⟩ = some (.bool cut) := (blk_cell HX9.out 3).trans rfl
      have q4 : w5.cell? ⟨g, 1, none⟩ = some (.slice A1 (bytesOf s.s0).length c1) := (blk_cell HX8.out 1).trans rfl
      go_region_law (first
        | (refine goes_ Try.func150 (by kernel_rfl) rfl #[chgV ⟨0, at_, t, cut⟩, .slice A1 (bytesOf s.s0).length c1] (by rfl) rfl rfl (by (try simp only [List.map_toArray, List.map_cons, List.map_nil]); first | done | rfl) ?_; refine (done.calls _ _ _ ⟨0, at_, t, cut⟩ w0 _ (below_drew1 HB8.out) (Kd.R_drew HR8.out.r1) HN.out (by rw [bytesOf_length]; exact HL.out)).mono ?_; rintro e w6 ⟨v6, rfl, ho, hb, hk⟩; obtain ⟨A6, c6, e6⟩ := Kd.R_slice ho; subst e6; refine ⟨_, rfl, ?_⟩; have HO9 := Aside0.mk ho; have HB9 := Aside0.mk hb; have HK9 := Aside0.mk hk; have HXA := Aside0.mk (blk_kept (blk_drew HX8.out) hk (fun he => absurd (HLB6.out.symm.trans he.2) (by decide))); have z6 := blk_frozen HXA.out 1; have c6_ : w6.cell? ⟨g, 1, none⟩ = some (.slice A1 (bytesOf s.s0).length c1) := (blk_cell HXA.out 1).trans rfl; clear ho hb hk))
      all_goals
        go_wp2_with (fail)
        go_ret
        have HL9 := Aside0.mk (show relab w5.drew.heap.size lb 1 g = 5 by unfold relab; rw [if_pos (blk_lt (blk_drew HX8.out))]; exact HLB6.out)
        refine ⟨by rw [HE.out]; rfl, ?_, HB9.out.setCell (p := ⟨g, 1, none⟩) HG.out _, ((Kept.drew HK8.out).then_ HK9.out (fun k hk => ?_)).setCell (p := ⟨g, 1, none⟩) (.inl HO.out) _⟩
        · unfold St.changed
          rw [if_pos HE.out]
          refine DX.mono (O := fun k => (O k ∨ w2.heap.size ≤ k) ∨ w5.drew.heap.size ≤ k) (DX.of (lab := relab w5.drew.heap.size lb 1) (blk_put HXA.out 1 _ rfl) HG.out (.inl (.inl HO.out)) HL9.out (((HR8.out.below (below_drew (Below.refl _ w5))).up1 HK9.out HO9.out).set HL9.out 1 _) rfl (by rw [s0_snoc, if_pos rfl]; exact bytesOf_onB _ _) rfl (by rw [s1_snoc, if_neg (show ¬ ((0 : Int) = 1) by decide)]; rfl)) ?_
          rintro k ((hk | hk) | hk)
          · exact .inl hk
          · exact .inr (Nat.le_trans HSZ.out hk)
          · exact .inr (Nat.le_trans HSZ.out (Nat.le_trans HS8.out hk))
        · rcases hk.1 with h | h
          · exact .inl h
          · exact .inr (Nat.le_trans HSZ.out h)
  · have HE := Aside0.mk e0
    rw [e0]
    clear e0
    go_upto_region 3 with (fail)
    go_wp2_with (fail)
    go_ret
    refine ⟨by rw [HE.out]; rfl, DX.mono ?_ (fun k hk => .inl hk), HB2.out, HKw.out⟩
    unfold St.changed
    rw [if_neg (by rw [HE.out]; decide)]
    exact ⟨lab, _, _, _, _, _, HX2.out, HG.out, HO.out, HLB.out, HR2.out⟩
set_option maxHeartbeats 8000000 in
set_option maxRecDepth 100000 in
theorem change.calls1 (g : Nat) (O : Nat → Prop) (s : St) (at_ : Nat) (t : ByteArray) (cut : Bool) (w0 w : World) (hB : Below w0.heap.size w0 w) (hD : DD w w0.heap.size g O s)
    (hf : -9223372036854775808 ≤ s.f ∧ s.f < 9223372036854775808) (hc : 0 ≤ s.c ∧ s.c < 9223372036854775807) (hn : at_ + t.size ≤ 140737488355000) (hl : s.s1.size ≤ 140737488355000) (hw : s.ws.length ≤ 1000000000000) :
    Calls Try.prog 166 #[.pointer (some ⟨g, 0, none⟩), chgV ⟨1, at_, t, cut⟩] w fun e w' => e = .returned (.int .i64 (turn s.f s.d s.c).1) ∧
      DD w' w0.heap.size g (fun k => O k ∨ w.heap.size ≤ k) (s.changed ⟨1, at_, t, cut⟩) ∧ Below w0.heap.size w0 w' ∧ Kept w w' O := by
  obtain ⟨lab, x0, x1, x2, x3, x4, hb, hg, hO, hlb, hr⟩ := hD
  have HB := Aside0.mk hB
  have HG := Aside0.mk hg
  have HO := Aside0.mk hO
  have HLB := Aside0.mk hlb
  have HR := Aside0.mk hr
  have HX := Aside0.mk hb
  have HF := Aside0.mk hf
  have HC := Aside0.mk hc
  have HN := Aside0.mk hn
  have HL := Aside0.mk hl
  have HW := Aside0.mk hw
  clear hB hb hg hO hlb hr hf hc hn hl hw
  obtain ⟨A4, c4, e4⟩ := Kd.R_slice HR.out.r4
  subst e4
  obtain ⟨A1, c1, e1⟩ := Kd.R_slice HR.out.r3
  subst e1
  go_enter Try.func166, Try.ntmps166
  go_upto_region 1 with ((with_reducible refine gate_dst (N := 3) rfl ?_); refine box_event ?hg (N := 3) ?hd (cs := #[.int .i64 1, .int .i64 (at_ : Int), .string t, .bool cut]) (t := 172) ?hr ?_; (case hd => rfl); (case hg => rfl); (case hr => first | (go_simp; done) | (go_simp; rfl)); intro gb hgb w1 hbox hb; have HX1 := Aside0.mk hbox; have HB0 := Aside0.mk hb; have HGB := Aside0.mk hgb; clear hgb hbox hb)
  have HX0 := Aside0.mk (blk_below HX.out HB0.out)
  have HR0 := Aside0.mk (HR.out.below HB0.out)
  have HB1 := Aside0.mk (below_step HB.out HB0.out)
  have HNE := Aside0.mk (show gb ≠ g from blk_ne HX1.out HX0.out (by decide))
  have HLT4 := Aside0.mk (Kd.R_lt HR.out.r4)
  clear HX HR HB
  go_upto_region 2 with (go_at_call 168; (refine (turn.calls g _ _ _ _ _ s.f s.d s.c w0 _ HB1.out HG.out HX0.out HF.out HC.out).mono ?_); rintro e2 w2 ⟨rfl, hx2, hb2, hk2, hs2⟩; have HX2 := Aside0.mk hx2; have HB2 := Aside0.mk hb2; have HK2 := Aside0.mk hk2; have HS2 := Aside0.mk hs2; clear hx2 hb2 hk2 hs2)
  have HX3 := Aside0.mk (blk_kept HX1.out HK2.out HNE.out)
  have HR2 := Aside0.mk (HR0.out.only HK2.out HLB.out)
  have HKw := Aside0.mk (Kept.then_ (Kept.of_below HB0.out O) HK2.out (fun k hk => .inl (by rw [hk]; exact HO.out)))
  have HSZ := Aside0.mk (show w.heap.size ≤ w2.heap.size by rw [HS2.out]; exact HB0.out.size)
  clear HX1 HB0 HX0 HR0 HB1 HK2 HS2
  rcases turn_cases s.f s.d s.c with ⟨e0, -⟩ | ⟨e0, -⟩
  · have HE := Aside0.mk e0
    rw [e0]
    clear e0
    go_upto_region 4 with (fail)
    have c4_ : w2.cell? ⟨g, 4, none⟩ = some (.slice A4 s.ws.length c4) := (blk_cell HX2.out 4).trans rfl
    have c4b_ : ∀ o, (w2.alloc o).cell? ⟨g, 4, none⟩ = some (.slice A4 s.ws.length c4) := fun o => (blk_cell (blk_alloc HX2.out o) 4).trans rfl
    have q0 : w2.cell? ⟨gb, 0, none⟩ = some (.int .i64 1) := (blk_cell HX3.out 0).trans rfl
    have q1 : w2.cell? ⟨gb, 1, none⟩ = some (.int .i64 (at_ : Int)) := (blk_cell HX3.out 1).trans rfl
    have q2 : w2.cell? ⟨gb, 2, none⟩ = some (.string t) := (blk_cell HX3.out 2).trans rfl
    have q3 : w2.cell? ⟨gb, 3, none⟩ = some (.bool cut) := (blk_cell HX3.out 3).trans rfl
    have HW' := HW.out
    go_cut [] from 12 to 21 (fun wx => Aside0 (∃ lb y4, wx.heap[g]? = some (.cells (dcells x0 x1 x2 (.slice A1 (bytesOf s.s1).length c1) y4 (turn s.f s.d s.c).2.1 (turn s.f s.d s.c).2.2.1 (turn s.f s.d s.c).2.2.2) 146 (0, 0)) ∧ lb g = 5 ∧ Rws wx w0.heap.size (fun k => O k ∨ w2.heap.size ≤ k) lb x0 x1 x2 (.slice A1 (bytesOf s.s1).length c1) y4 (bytesOf s.l0) (bytesOf s.s0) (bytesOf s.l1) (bytesOf s.s1) (s.ws ++ [⟨1, at_, t, cut⟩])) ∧ Aside0 (wx.heap[gb]? = some (.cells #[.int .i64 1, .int .i64 (at_ : Int), .string t, .bool cut] 172 (0, 0))) ∧ Aside0 (Below w0.heap.size w0 wx) ∧ Aside0 (Kept w wx O) ∧ Aside0 (w2.heap.size ≤ wx.heap.size))
    case first =>
      go_region_law (refine Kd.R_append_step (W := w2.drew) kC w0.heap.size rfl (.tmp 16) (.tmp 18) 144 172 (.agg #[.int .i64 0, .int .i64 0, .string ⟨#[]⟩, .bool false]) 40 rfl Try.underlying144 info172 rfl (by decide) (by omega) (.slice A4 s.ws.length c4) s.ws ⟨1, at_, t, cut⟩ _ (fun k => (O k ∧ lab k = 4) ∨ w2.heap.size ≤ k) (fun _ => False) rfl rfl (kC_M _) (fun _ hk => hk.elim) (fun k hk => .inr hk) (Kd.R_mono (Kd.R_drew HR2.out.r4) (fun k hk => .inl hk)) (below_drew1 HB2.out) (below_size (below_drew1 HB2.out)) (by omega) ?_; intro v1 w3 ho hb hg hat; obtain ⟨A5, c5, e5⟩ := Kd.R_slice ho; rw [List.length_append, List.length_singleton] at e5; subst e5; have HO3 := Aside0.mk ho; have HB3 := Aside0.mk hb; have HG3 := Aside0.mk hg; have HX4 := Aside0.mk (blk_grown (blk_drew HX2.out) hg (Kd.R_ne HR2.out.r4 HX2.out (by decide))); have HX5 := Aside0.mk (blk_grown (blk_drew HX3.out) hg (fun he => by have h1 := HLT4.out _ he.symm; rw [HGB.out] at h1; exact Nat.lt_irrefl _ h1)); have z5 := blk_frozen HX4.out 4; have c5_ : w3.cell? ⟨g, 4, none⟩ = some (.slice A4 s.ws.length c4) := (blk_cell HX4.out 4).trans rfl; clear ho hb hg hat)
      all_goals
        go_wp2_with (fail)
        go_meet
        have HK3 := Aside0.mk (show Kept w2 w3 (fun k => O k ∧ lab k = 4) from Kept.of_grown HG3.out (Kept.drew (Kept.refl w2 _)) (fun k hk => .inl (HR2.out.r4.1 k hk)))
        have HLB3 := Aside0.mk (show relab w2.heap.size lab 4 g = 5 by unfold relab; rw [if_pos (blk_lt HX2.out)]; exact HLB.out)
        exact ⟨⟨_, _, blk_put HX4.out 4 _ rfl, HLB3.out, (HR2.out.up4 HK3.out HO3.out).set HLB3.out 4 _⟩, ⟨blk_far HX5.out (p := ⟨g, 4, none⟩) HNE.out _⟩, ⟨HB3.out.setCell (p := ⟨g, 4, none⟩) HG.out _⟩, ⟨(HKw.out.then_ HK3.out (fun k hk => .inl hk.1)).setCell (p := ⟨g, 4, none⟩) (.inl HO.out) _⟩, ⟨by simp; exact HK3.out.1⟩⟩
    case rest =>
      obtain ⟨HC4, HX7, HB4, HK4, HS4⟩ := hcut
      clear c4_ c4b_ q0 q1 q2 q3 HX2 HX3 HR2 HB2 HKw HLT4
      obtain ⟨lb, y4, hx, hlb, hr⟩ := HC4.out
      have HX6 := Aside0.mk hx
      have HLB6 := Aside0.mk hlb
      have HR6 := Aside0.mk hr
      clear HC4 hx hlb hr
      have q0 : wc.cell? ⟨gb, 0, none⟩ = some (.int .i64 1) := (blk_cell HX7.out 0).trans rfl
      have q1 : wc.cell? ⟨gb, 1, none⟩ = some (.int .i64 (at_ : Int)) := (blk_cell HX7.out 1).trans rfl
      have q2 : wc.cell? ⟨gb, 2, none⟩ = some (.string t) := (blk_cell HX7.out 2).trans rfl
      have q3 : wc.cell? ⟨gb, 3, none⟩ = some (.bool cut) := (blk_cell HX7.out 3).trans rfl
      have q4 : wc.cell? ⟨g, 3, none⟩ = some (.slice A1 (bytesOf s.s1).length c1) := (blk_cell HX6.out 3).trans rfl
      go_upto_region 5 with (fail)
      go_quiet (fail)
      go_upto_region 6 with (fail)
      clear q0 q1 q2 q3 q4
      have HX8 := Aside0.mk (blk_drewN HX6.out nq)
      have HX9 := Aside0.mk (blk_drewN HX7.out nq)
      have HR8 := Aside0.mk (HR6.out.below (pw_below_drewN (Below.refl _ wc) nq))
      have HB8 := Aside0.mk (pw_below_drewN HB4.out nq)
      have HK8 := Aside0.mk (Kept.drewN HK4.out nq)
      have HS8 := Aside0.mk (show w2.heap.size ≤ (wc.drewN nq).heap.size from HS4.out)
      clear HX6 HX7 HR6 HB4 HK4 HS4
      generalize wc.drewN nq = w5 at HX8 HX9 HR8 HB8 HK8 HS8 ⊢
      have q0 : w5.cell? ⟨gb, 0, none⟩ = some (.int .i64 1) := (blk_cell HX9.out 0).trans rfl
      have q1 : w5.cell? ⟨gb, 1, none⟩ = some (.int .i64 (at_ : Int)) := (blk_cell HX9.out 1).trans rfl
      have q2 : w5.cell? ⟨gb, 2, none⟩ = some (.string t) := (blk_cell HX9.out 2).trans rfl
      have q3 : w5.cell? ⟨gb, 3, none⟩ = some (.bool cut) := (blk_cell HX9.out 3).trans rfl
      have q4 : w5.cell? ⟨g, 3, none⟩ = some (.slice A1 (bytesOf s.s1).length c1) := (blk_cell HX8.out 3).trans rfl
      go_region_law (first
        | (refine goes_ Try.func150 (by kernel_rfl) rfl #[chgV ⟨1, at_, t, cut⟩, .slice A1 (bytesOf s.s1).length c1] (by rfl) rfl rfl (by (try simp only [List.map_toArray, List.map_cons, List.map_nil]); first | done | rfl) ?_; refine (done.calls _ _ _ ⟨1, at_, t, cut⟩ w0 _ (below_drew1 HB8.out) (Kd.R_drew HR8.out.r3) HN.out (by rw [bytesOf_length]; exact HL.out)).mono ?_; rintro e w6 ⟨v6, rfl, ho, hb, hk⟩; obtain ⟨A6, c6, e6⟩ := Kd.R_slice ho; subst e6; refine ⟨_, rfl, ?_⟩; have HO9 := Aside0.mk ho; have HB9 := Aside0.mk hb; have HK9 := Aside0.mk hk; have HXA := Aside0.mk (blk_kept (blk_drew HX8.out) hk (fun he => absurd (HLB6.out.symm.trans he.2) (by decide))); have z6 := blk_frozen HXA.out 3; have c6_ : w6.cell? ⟨g, 3, none⟩ = some (.slice A1 (bytesOf s.s1).length c1) := (blk_cell HXA.out 3).trans rfl; clear ho hb hk))
      all_goals
        go_wp2_with (fail)
        go_ret
        have HL9 := Aside0.mk (show relab w5.drew.heap.size lb 3 g = 5 by unfold relab; rw [if_pos (blk_lt (blk_drew HX8.out))]; exact HLB6.out)
        refine ⟨by rw [HE.out]; rfl, ?_, HB9.out.setCell (p := ⟨g, 3, none⟩) HG.out _, ((Kept.drew HK8.out).then_ HK9.out (fun k hk => ?_)).setCell (p := ⟨g, 3, none⟩) (.inl HO.out) _⟩
        · unfold St.changed
          rw [if_pos HE.out]
          refine DX.mono (O := fun k => (O k ∨ w2.heap.size ≤ k) ∨ w5.drew.heap.size ≤ k) (DX.of (lab := relab w5.drew.heap.size lb 3) (blk_put HXA.out 3 _ rfl) HG.out (.inl (.inl HO.out)) HL9.out (((HR8.out.below (below_drew (Below.refl _ w5))).up3 HK9.out HO9.out).set HL9.out 3 _) rfl (by rw [s0_snoc, if_neg (show ¬ ((1 : Int) = 0) by decide)]; rfl) rfl (by rw [s1_snoc, if_pos rfl]; exact bytesOf_onB _ _)) ?_
          rintro k ((hk | hk) | hk)
          · exact .inl hk
          · exact .inr (Nat.le_trans HSZ.out hk)
          · exact .inr (Nat.le_trans HSZ.out (Nat.le_trans HS8.out hk))
        · rcases hk.1 with h | h
          · exact .inl h
          · exact .inr (Nat.le_trans HSZ.out h)
  · have HE := Aside0.mk e0
    rw [e0]
    clear e0
    go_upto_region 3 with (fail)
    go_wp2_with (fail)
    go_ret
    refine ⟨by rw [HE.out]; rfl, DX.mono ?_ (fun k hk => .inl hk), HB2.out, HKw.out⟩
    unfold St.changed
    rw [if_neg (by rw [HE.out]; decide)]
    exact ⟨lab, _, _, _, _, _, HX2.out, HG.out, HO.out, HLB.out, HR2.out⟩
end Go.Proofs.Ythaoaaboempajaa.Disk
