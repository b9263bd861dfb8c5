/- The document's disk: NewDisk, act, Write, Cut, Seen, Size, Read, walked. Conditions: the disk is a block with a row of its own; its state is in order. -/
import Derived.Test.YthaoaaboempajaaDisk11
namespace Go.Proofs.Ythaoaaboempajaa.Disk
open Go.RowKit Go.Proofs.YthaoaaboempajaaW.PrintWords Go.Proofs.YthaoaaboempajaaW.PrintLast Go.Proofs.YthaoaaboempajaaW.PrintMore Go.Proofs.YthaoaaboempajaaX Go.Proofs.Ythaoaaboempajaa.QDiskRuns
set_option linter.unusedVariables false
set_option linter.unusedSimpArgs false
theorem info181 : (Try.prog.info? 181).map (fun i => (i.zero, i.size, i.bytes)) = some (some (.agg #[.int .i64 0, .int .i64 0, .string ⟨#[]⟩, .bool false]), 4, 40) := by kernel_rfl
theorem zeros_is (n : Nat) : strOfNums (List.replicate n 0) = zerosB n := by rw [← bytesOf_zeros, nums_bytes]
theorem filled_is (s : ByteArray) (n : Nat) (hs : s.size ≤ 67108864) (hn : n ≤ 134217728) : relstoreref_filled.f s (n : Int) = some (fillB s n) := by
  unfold relstoreref_filled.f fillB
  by_cases h : n ≤ s.size
  · rw [if_pos (by omega), if_pos h]
  · have e : wrap64 ((n : Int) - (s.size : Int)) = ((n - s.size : Nat) : Int) := by unfold wrap64; omega
    rw [if_neg (by omega), if_neg h, e, Int.toNat_natCast, if_pos (by omega), if_pos (by omega), Option.bind_some, zeros_is, size_zeros, if_pos (by omega)]
theorem act_on_is (c : Chg) (s : ByteArray) (hs : s.size ≤ 67108864) (hc : c.at_ + c.text.size ≤ 67108864) : relstoreref_act_on.f c.file (c.at_ : Int) c.text c.cut s = some (onB c s) := by
  unfold relstoreref_act_on.f onB
  by_cases h : c.cut = true
  · rw [if_pos h, if_pos h, filled_is s c.at_ hs (by omega), Option.bind_some, size_fillB, if_pos (by omega), if_pos (by omega), Int.toNat_natCast]
  · have e : wrap64 ((c.at_ : Int) + (c.text.size : Int)) = ((c.at_ + c.text.size : Nat) : Int) := by unfold wrap64; omega
    have z1 : ((fillB s (c.at_ + c.text.size)).extract 0 c.at_).size = c.at_ := by
      rw [← bytesOf_length, bytesOf_extract, List.length_take, List.length_drop, bytesOf_length, size_fillB]; omega
    have z2 : ((fillB s (c.at_ + c.text.size)).extract (c.at_ + c.text.size) (fillB s (c.at_ + c.text.size)).size).size ≤ 67108864 := by
      rw [← bytesOf_length, bytesOf_extract, List.length_take, List.length_drop, bytesOf_length, size_fillB]; omega
    rw [if_neg h, if_neg h, e, filled_is s _ hs (by omega), Option.bind_some, Int.toNat_natCast, Int.toNat_natCast, if_pos (by omega), if_pos (by rw [size_fillB]; omega), if_pos (by rw [z1]; omega), if_pos (by omega), if_pos (by rw [size_fillB]; omega), ByteArray.size_append, z1, if_pos (by omega)]
    rfl
theorem newDisk.calls (w0 w : World) (hB : Below w0.heap.size w0 w) :
    Calls Try.prog 59 #[] w fun e w' => ∃ g, e = .returned (.pointer (some ⟨g, 0, none⟩)) ∧ w.heap.size ≤ g ∧ RD w' w0.heap.size g (fun k => w.heap.size ≤ k) St.new ∧ Below w.heap.size w w' := by
  have HB := Aside0.mk hB
  clear hB
  go_enter Try.func59, Try.ntmps59
  go_wp2_with ((with_reducible refine gate_dst (N := 2) rfl ?_); refine box_event ?hg (N := 2) ?hd (cs := rcells (.string ⟨#[]⟩) (.string ⟨#[]⟩) (.slice none 0 0) (-1) false 0) (t := 150) ?hr ?_; (case hd => rfl); (case hg => rfl); (case hr => first | (go_simp; done) | (go_simp; rfl)); intro gb hgb w1 hbox hb; have HX1 := Aside0.mk hbox; have HB0 := Aside0.mk hb; have HGB := Aside0.mk hgb; clear hgb hbox hb)
  go_ret
  refine ⟨gb, rfl, Nat.le_of_eq HGB.out.symm, ?_, HB0.out⟩
  exact ⟨.slice none 0 0, HX1.out, by rw [HGB.out]; exact HB.out.size, Nat.le_of_eq HGB.out.symm, Kd.R_nil _ _ _ _ _⟩
theorem drawn_keepR {w w' : World} {base g : Nat} {O : Nat → Prop} {s : St} (h : Drawn0 w w') (hD : RD w base g O s) : RD w' base g O s := RD.apart hD (S := fun _ => False) (Kept.of_below h.below _) (fun _ _ h => h)
set_option maxHeartbeats 8000000 in
set_option maxRecDepth 100000 in
theorem act.calls (g : Nat) (O : Nat → Prop) (s : St) (f : Int) (at_ : Nat) (t : ByteArray) (cut : Bool) (w0 w : World) (hB : Below w0.heap.size w0 w) (hD : RD w w0.heap.size g O s)
    (hf : -9223372036854775808 ≤ s.f ∧ s.f < 9223372036854775808) (hc : 0 ≤ s.c ∧ s.c < 9223372036854775807) (hw : s.ws.length ≤ 1000000000000) :
    Calls Try.prog 167 #[.pointer (some ⟨g, 0, none⟩), chgV ⟨f, at_, t, cut⟩] w fun e w' => e = .returned (.int .i64 (turn s.f s.d s.c).1) ∧
      RD w' w0.heap.size g (fun k => O k ∨ w.heap.size ≤ k) (s.changed ⟨f, at_, t, cut⟩) ∧ Below w0.heap.size w0 w' ∧ Kept w w' O := by
  obtain ⟨x2, hb, hg, hO, hr⟩ := hD
  have HB := Aside0.mk hB
  have HG := Aside0.mk hg
  have HO := Aside0.mk hO
  have HR := Aside0.mk hr
  have HX := Aside0.mk hb
  have HF := Aside0.mk hf
  have HC := Aside0.mk hc
  have HW := Aside0.mk hw
  clear hB hb hg hO hr hf hc hw
  obtain ⟨A4, c4, e4⟩ := Kd.R_slice HR.out
  subst e4
  go_enter Try.func167, Try.ntmps167
  go_upto_region 1 with ((with_reducible refine gate_dst (N := 3) rfl ?_); refine box_event ?hg (N := 3) ?hd (cs := #[.int .i64 f, .int .i64 (at_ : Int), .string t, .bool cut]) (t := 181) ?hr ?_; (case hd => rfl); (case hg => rfl); (case hr => first | (go_simp; done) | (go_simp; rfl)); intro gb hgb w1 hbox hb; have HX1 := Aside0.mk hbox; have HB0 := Aside0.mk hb; have HGB := Aside0.mk hgb; clear hgb hbox hb)
  have HX0 := Aside0.mk (blk_below HX.out HB0.out)
  have HR0 := Aside0.mk (Kd.R_below HR.out HB0.out)
  have HB1 := Aside0.mk (below_step HB.out HB0.out)
  have HNE := Aside0.mk (show gb ≠ g from blk_ne HX1.out HX0.out (by decide))
  have HLT4 := Aside0.mk (Kd.R_lt HR.out)
  clear HX HR HB
  go_upto_region 2 with (go_at_call 169; (refine (rturn.calls g _ _ _ s.f s.d s.c w0 _ HB1.out HG.out HX0.out HF.out HC.out).mono ?_); rintro e2 w2 ⟨rfl, hx2, hb2, hk2, hs2⟩; have HX2 := Aside0.mk hx2; have HB2 := Aside0.mk hb2; have HK2 := Aside0.mk hk2; have HS2 := Aside0.mk hs2; clear hx2 hb2 hk2 hs2)
  have HX3 := Aside0.mk (blk_kept HX1.out HK2.out HNE.out)
  have HR2 := Aside0.mk (Kd.R_kept HR0.out HK2.out (fun k h1 he => h1.2 he))
  have HKw := Aside0.mk (Kept.then_ (Kept.of_below HB0.out O) HK2.out (fun k hk => .inl (by rw [hk]; exact HO.out)))
  have HSZ := Aside0.mk (show w.heap.size ≤ w2.heap.size by rw [HS2.out]; exact HB0.out.size)
  clear HX1 HB0 HX0 HR0 HB1 HK2 HS2
  rcases turn_cases s.f s.d s.c with ⟨e0, -⟩ | ⟨e0, -⟩
  · have HE := Aside0.mk e0
    rw [e0]
    clear e0
    go_upto_region 3 with (fail)
    have c4_ : w2.cell? ⟨g, 2, none⟩ = some (.slice A4 s.ws.length c4) := (blk_cell HX2.out 2).trans rfl
    have c4b_ : ∀ o, (w2.alloc o).cell? ⟨g, 2, none⟩ = some (.slice A4 s.ws.length c4) := fun o => (blk_cell (blk_alloc HX2.out o) 2).trans rfl
    have q0 : w2.cell? ⟨gb, 0, none⟩ = some (.int .i64 f) := (blk_cell HX3.out 0).trans rfl
    have q1 : w2.cell? ⟨gb, 1, none⟩ = some (.int .i64 (at_ : Int)) := (blk_cell HX3.out 1).trans rfl
    have q2 : w2.cell? ⟨gb, 2, none⟩ = some (.string t) := (blk_cell HX3.out 2).trans rfl
    have q3 : w2.cell? ⟨gb, 3, none⟩ = some (.bool cut) := (blk_cell HX3.out 3).trans rfl
    have HW' := HW.out
    go_region_law (refine Kd.R_append_step (W := w2.drew) kC w0.heap.size rfl (.tmp 14) (.tmp 16) 148 181 (.agg #[.int .i64 0, .int .i64 0, .string ⟨#[]⟩, .bool false]) 40 rfl Try.underlying148 info181 rfl (by decide) (by omega) (.slice A4 s.ws.length c4) s.ws ⟨f, at_, t, cut⟩ _ (fun k => (O k ∧ k ≠ g) ∨ w2.heap.size ≤ k) (fun _ => False) rfl rfl (kC_M _) (fun _ hk => hk.elim) (fun k hk => .inr hk) (Kd.R_mono (Kd.R_drew HR2.out) (fun k hk => .inl hk)) (below_drew1 HB2.out) (below_size (below_drew1 HB2.out)) (by omega) ?_; intro v1 w3 ho hb hg hat; obtain ⟨A5, c5, e5⟩ := Kd.R_slice ho; rw [List.length_append, List.length_singleton] at e5; subst e5; have HO3 := Aside0.mk ho; have HB3 := Aside0.mk hb; have HG3 := Aside0.mk hg; have HX4 := Aside0.mk (blk_grown (blk_drew HX2.out) hg (Kd.R_ne HR2.out HX2.out (by decide))); have z5 := blk_frozen HX4.out 2; have c5_ : w3.cell? ⟨g, 2, none⟩ = some (.slice A4 s.ws.length c4) := (blk_cell HX4.out 2).trans rfl; clear ho hb hg hat)
    all_goals
      go_wp2_with (fail)
      go_ret
      have HK3 := Aside0.mk (show Kept w2 w3 (fun k => O k ∧ k ≠ g) from Kept.of_grown HG3.out (Kept.drew (Kept.refl w2 _)) (fun k hk => .inl (HR2.out.1 k hk)))
      refine ⟨by rw [HE.out]; rfl, ?_, HB3.out.setCell (p := ⟨g, 2, none⟩) HG.out _, (HKw.out.then_ HK3.out (fun k hk => .inl hk.1)).setCell (p := ⟨g, 2, none⟩) (.inl HO.out) _⟩
      unfold St.changed
      rw [if_pos HE.out]
      refine ⟨_, blk_put HX4.out 2 _ rfl, HG.out, .inl HO.out, Kd.R_far (Kd.R_mono HO3.out (ok' := fun k => (O k ∨ w.heap.size ≤ k) ∧ k ≠ g) (fun k hk => hk.elim (fun h => ⟨.inl h.1, h.2⟩) (fun h => ⟨.inr (Nat.le_trans HSZ.out h), fun he => ?_⟩))) (fun k hk => hk.2) _⟩
      have hl := blk_lt HX2.out
      rw [he] at h
      exact absurd hl (Nat.not_lt.mpr h)
  · have HE := Aside0.mk e0
    rw [e0]
    clear e0
    go_wp2_with (fail)
    go_ret
    refine ⟨by rw [HE.out]; rfl, RD.mono ?_ (fun k hk => .inl hk), HB2.out, HKw.out⟩
    unfold St.changed
    rw [if_neg (by rw [HE.out]; decide)]
    exact ⟨_, HX2.out, HG.out, HO.out, HR2.out⟩
set_option maxHeartbeats 4000000 in
theorem rwrite.calls (g : Nat) (O : Nat → Prop) (s : St) (f a : Int) (t : ByteArray) (m : Nat) (w0 w : World) (hB : Below w0.heap.size w0 w) (hD : RD w w0.heap.size g O s) (hok : s.ok m) (hm : m ≤ 1000000000) :
    Calls Try.prog 126 #[.pointer (some ⟨g, 0, none⟩), .int .i64 f, .int .i64 a, .string t] w fun e w' => e = .returned (.int .i64 (s.write f a t).1) ∧
      RD w' w0.heap.size g (fun k => O k ∨ w.heap.size ≤ k) (s.write f a t).2 ∧ Below w0.heap.size w0 w' ∧ Kept w w' O := by
  have HB := Aside0.mk hB
  have HD := Aside0.mk hD
  have HOK := Aside0.mk hok
  have HM := Aside0.mk hm
  clear hB hD hok hm
  by_cases hr : rightB f a t.size = true
  · obtain ⟨hf, ha, hn, han⟩ := right_file hr
    obtain ⟨a, rfl⟩ : ∃ b : Nat, a = (b : Int) := ⟨a.toNat, by omega⟩
    have HRT := Aside0.mk hr
    have HF := Aside0.mk hf
    have HAN := Aside0.mk han
    have hw : s.write f a t = ((turn s.f s.d s.c).1, s.changed ⟨f, a, t, false⟩) := by unfold St.write; rw [if_pos hr, Int.toNat_natCast]
    rw [hw]
    clear hr hf ha hn han hw
    go_enter Try.func126, Try.ntmps126
    go_upto_region 3 with (go_at_call 165; (refine (relstoreref_fits.calls f a t.size true _ (by rw [fits_is, HRT.out])).mono ?_); rintro e2 w2 ⟨rfl, hd2⟩; have HW2 := Aside0.mk hd2; clear hd2)
    have HD2 := Aside0.mk (drawn_keepR HW2.out HD.out)
    have HB2 := Aside0.mk (below_step HB.out HW2.out.below)
    have hok := HOK.out
    have h1 := HM.out
    have h2 := HAN.out
    have hcs := hok.c
    have hns := hok.n
    have hfs := hok.f
    have h3 := hok.s0
    have h4 := hok.s1
    have G1 := Aside0.mk (show -9223372036854775808 ≤ s.f ∧ s.f < 9223372036854775808 by omega)
    have G2 := Aside0.mk (show 0 ≤ s.c ∧ s.c < 9223372036854775807 by omega)
    have G3 := Aside0.mk (show a + t.size ≤ 140737488355000 by omega)
    have G4 := Aside0.mk (show s.s0.size ≤ 140737488355000 by unfold maxFile at h3; omega)
    have G5 := Aside0.mk (show s.s1.size ≤ 140737488355000 by unfold maxFile at h4; omega)
    have G6 := Aside0.mk (show s.ws.length ≤ 1000000000000 by omega)
    clear hok h1 h2 hcs hns hfs h3 h4
    have HS := Aside0.mk (show w.heap.size ≤ w2.heap.size from HW2.out.below.size)
    go_wp2_with (go_at_call 167; (refine (act.calls g O s f a t false w0 _ HB2.out HD2.out G1.out G2.out G6.out).mono ?_); rintro e3 w3 ⟨rfl, hd3, hb3, hk3⟩; have HD3 := Aside0.mk hd3; have HB3 := Aside0.mk hb3; have HK3 := Aside0.mk hk3; clear hd3 hb3 hk3)
    go_ret
    exact ⟨rfl, RD.mono HD3.out (fun k hk => hk.imp id (Nat.le_trans HS.out)), HB3.out, (Kept.of_below HW2.out.below O).then_ HK3.out (fun k hk => .inl hk)⟩
  · have hr' : rightB f a t.size = false := by simpa using hr
    have HRT := Aside0.mk hr'
    have hw : s.write f a t = (1, s) := by unfold St.write; rw [if_neg hr]
    rw [hw]
    clear hr hr' hw
    go_enter Try.func126, Try.ntmps126
    go_wp2_with (go_at_call 165; (refine (relstoreref_fits.calls f a t.size false _ (by rw [fits_is, HRT.out])).mono ?_); rintro e2 w2 ⟨rfl, hd2⟩; have HW2 := Aside0.mk hd2; clear hd2)
    go_ret
    exact ⟨rfl, RD.mono (drawn_keepR HW2.out HD.out) (fun k hk => .inl hk), below_step HB.out HW2.out.below, Kept.of_below HW2.out.below O⟩
set_option maxHeartbeats 4000000 in
theorem rcut.calls (g : Nat) (O : Nat → Prop) (s : St) (f a : Int) (m : Nat) (w0 w : World) (hB : Below w0.heap.size w0 w) (hD : RD w w0.heap.size g O s) (hok : s.ok m) (hm : m ≤ 1000000000) :
    Calls Try.prog 128 #[.pointer (some ⟨g, 0, none⟩), .int .i64 f, .int .i64 a] w fun e w' => e = .returned (.int .i64 (s.cutTo f a).1) ∧
      RD w' w0.heap.size g (fun k => O k ∨ w.heap.size ≤ k) (s.cutTo f a).2 ∧ Below w0.heap.size w0 w' ∧ Kept w w' O := by
  have HB := Aside0.mk hB
  have HD := Aside0.mk hD
  have HOK := Aside0.mk hok
  have HM := Aside0.mk hm
  clear hB hD hok hm
  by_cases hr : rightB f a 0 = true
  · obtain ⟨hf, ha, hn, han⟩ := right_file hr
    obtain ⟨a, rfl⟩ : ∃ b : Nat, a = (b : Int) := ⟨a.toNat, by omega⟩
    have HRT := Aside0.mk hr
    have HF := Aside0.mk hf
    have HAN := Aside0.mk han
    have hw : s.cutTo f a = ((turn s.f s.d s.c).1, s.changed ⟨f, a, ByteArray.empty, true⟩) := by unfold St.cutTo; rw [if_pos hr, Int.toNat_natCast]
    rw [hw]
    clear hr hf ha hn han hw
    go_enter Try.func128, Try.ntmps128
    go_upto_region 3 with (go_at_call 165; (refine (relstoreref_fits.calls f a 0 true _ (by rw [fits_is, HRT.out])).mono ?_); rintro e2 w2 ⟨rfl, hd2⟩; have HW2 := Aside0.mk hd2; clear hd2)
    have HD2 := Aside0.mk (drawn_keepR HW2.out HD.out)
    have HB2 := Aside0.mk (below_step HB.out HW2.out.below)
    have hok := HOK.out
    have h1 := HM.out
    have h2 := HAN.out
    have hcs := hok.c
    have hns := hok.n
    have hfs := hok.f
    have h3 := hok.s0
    have h4 := hok.s1
    have G1 := Aside0.mk (show -9223372036854775808 ≤ s.f ∧ s.f < 9223372036854775808 by omega)
    have G2 := Aside0.mk (show 0 ≤ s.c ∧ s.c < 9223372036854775807 by omega)
    have G3 := Aside0.mk (show a + ByteArray.empty.size ≤ 140737488355000 by rw [show ByteArray.empty.size = 0 from rfl]; omega)
    have G4 := Aside0.mk (show s.s0.size ≤ 140737488355000 by unfold maxFile at h3; omega)
    have G5 := Aside0.mk (show s.s1.size ≤ 140737488355000 by unfold maxFile at h4; omega)
    have G6 := Aside0.mk (show s.ws.length ≤ 1000000000000 by omega)
    clear hok h1 h2 hcs hns hfs h3 h4
    have HS := Aside0.mk (show w.heap.size ≤ w2.heap.size from HW2.out.below.size)
    go_wp2_with (go_at_call 167; (refine (act.calls g O s f a ByteArray.empty true w0 _ HB2.out HD2.out G1.out G2.out G6.out).mono ?_); rintro e3 w3 ⟨rfl, hd3, hb3, hk3⟩; have HD3 := Aside0.mk hd3; have HB3 := Aside0.mk hb3; have HK3 := Aside0.mk hk3; clear hd3 hb3 hk3)
    go_ret
    exact ⟨rfl, RD.mono HD3.out (fun k hk => hk.imp id (Nat.le_trans HS.out)), HB3.out, (Kept.of_below HW2.out.below O).then_ HK3.out (fun k hk => .inl hk)⟩
  · have hr' : rightB f a 0 = false := by simpa using hr
    have HRT := Aside0.mk hr'
    have hw : s.cutTo f a = (1, s) := by unfold St.cutTo; rw [if_neg hr]
    rw [hw]
    clear hr hr' hw
    go_enter Try.func128, Try.ntmps128
    go_wp2_with (go_at_call 165; (refine (relstoreref_fits.calls f a 0 false _ (by rw [fits_is, HRT.out])).mono ?_); rintro e2 w2 ⟨rfl, hd2⟩; have HW2 := Aside0.mk hd2; clear hd2)
    go_ret
    exact ⟨rfl, RD.mono (drawn_keepR HW2.out HD.out) (fun k hk => .inl hk), below_step HB.out HW2.out.below, Kept.of_below HW2.out.below O⟩
set_option maxHeartbeats 8000000 in
set_option maxRecDepth 100000 in
theorem seen.calls0 (g : Nat) (O : Nat → Prop) (s : St) (m base : Nat) (w : World) (hD : RD w base g O s) (hok : s.ok m) (hm : m ≤ 2000000000) :
    Calls Try.prog 136 #[.pointer (some ⟨g, 0, none⟩), .int .i64 0] w fun e w' => e = .returned (.string s.s0) ∧ Below w.heap.size w w' := by
  obtain ⟨x2, hb, hg, hO, hr⟩ := hD
  have hcs := hok.c
  have hns := hok.n
  have HW := Aside0.mk (show s.ws.length ≤ 2000000000 by omega)
  have HWS := Aside0.mk hok.ws
  have HL := Aside0.mk hok.l0
  have HR := Aside0.mk hr
  have HX := Aside0.mk hb
  clear hb hg hO hr hok hm hcs hns
  obtain ⟨A4, c4, e4⟩ := Kd.R_slice HR.out
  subst e4
  go_enter Try.func136, Try.ntmps136
  have q0 : w.cell? ⟨g, 0, none⟩ = some (.string s.l0) := (blk_cell HX.out 0).trans rfl
  have q2 : w.cell? ⟨g, 2, none⟩ = some (.slice A4 s.ws.length c4) := (blk_cell HX.out 2).trans rfl
  go_wp2_with (fail)
  clear q0 q2
  have HCW := Aside0.mk (Kd.R_reads' HR.out).2.2
  go_loopw [5, 19] (fun v5 v19 wr => ∃ (j : Nat), j ≤ s.ws.length ∧ v5 = .string (seenB 0 (s.ws.take j) s.l0) ∧ v19 = .int .i64 (j : Int) ∧ Aside0 (Below w.heap.size w wr)) (fun _ v19 _ => s.ws.length - (intOf v19).toNat)
  case atStart => exact ⟨0, Nat.zero_le _, rfl, rfl, ⟨Below.refl _ _⟩⟩
  case round =>
    obtain ⟨j, hj, rfl, rfl, HBr⟩ := hrel
    have hm := HW.out
    by_cases hlt : j < s.ws.length
    · have t_ : decide ((j : Int) < (s.ws.length : Int)) = true := decide_eq_true (by omega)
      obtain ⟨ad, hA, f0, f1, f2, f3⟩ := at_C HCW.out j hlt
      subst hA
      replace f0 := (HBr.out.cell (World.block_lt_of_cell? w _ f0)).trans f0
      replace f1 := (HBr.out.cell (World.block_lt_of_cell? w _ f1)).trans f1
      replace f2 := (HBr.out.cell (World.block_lt_of_cell? w _ f2)).trans f2
      replace f3 := (HBr.out.cell (World.block_lt_of_cell? w _ f3)).trans f3
      have HTN := Aside0.mk (show seenB 0 (s.ws.take (j + 1)) s.l0 = if (chgAt s.ws j).file = 0 then onB (chgAt s.ws j) (seenB 0 (s.ws.take j) s.l0) else seenB 0 (s.ws.take j) s.l0 by rw [take_succ_chg hlt]; exact seenB_snoc _ _ _ _)
      have HCH := Aside0.mk (HWS.out (chgAt s.ws j) (by unfold chgAt; rw [List.getD_eq_getElem?_getD, List.getElem?_eq_getElem hlt, Option.getD_some]; exact List.getElem_mem hlt)).2
      have HSS := Aside0.mk (size_seenB 0 (s.ws.take j) s.l0 HL.out (fun c hc => (HWS.out c (List.mem_of_mem_take hc)).2))
      generalize chgAt s.ws j = ch at f0 f1 f2 f3 HTN HCH
      generalize seenB 0 (s.ws.take j) s.l0 = sj at HTN HSS ⊢
      go_upto_region 5 with ((with_reducible refine gate_dst (N := 7) rfl ?_); refine box_event ?hg (N := 7) ?hd (cs := #[.int .i64 0, .int .i64 0, .string ⟨#[]⟩, .bool false]) (t := 181) ?hr ?_; (case hd => rfl); (case hg => rfl); (case hr => first | (go_simp; done) | (go_simp; rfl)); intro gb hgb w7 hbox hb; have HXb := Aside0.mk hbox; have HBb := Aside0.mk hb; have HGb := Aside0.mk hgb; have b0 : w7.cell? ⟨gb, 0, none⟩ = some (.int .i64 0) := (blk_cell hbox 0).trans rfl; have b1 : w7.cell? ⟨gb, 1, none⟩ = some (.int .i64 0) := (blk_cell hbox 1).trans rfl; have b2 : w7.cell? ⟨gb, 2, none⟩ = some (.string ⟨#[]⟩) := (blk_cell hbox 2).trans rfl; have b3 : w7.cell? ⟨gb, 3, none⟩ = some (.bool false) := (blk_cell hbox 3).trans rfl; have y0 := blk_frozen hbox 0; have y1 := blk_frozen hbox 1; have y2 := blk_frozen hbox 2; have y3 := blk_frozen hbox 3; clear hgb hbox hb)
      have hput : (((w7.setCell ⟨gb, 0, none⟩ (.int .i64 ch.file)).setCell ⟨gb, 1, none⟩ (.int .i64 (ch.at_ : Int))).setCell ⟨gb, 2, none⟩ (.string ch.text)).setCell ⟨gb, 3, none⟩ (.bool ch.cut) = put4 w7 gb (.int .i64 ch.file) (.int .i64 (ch.at_ : Int)) (.string ch.text) (.bool ch.cut) := rfl
      rw [hput]
      clear hput
      have HX8 := Aside0.mk (put4_blk (a := .int .i64 ch.file) (b := .int .i64 (ch.at_ : Int)) (c := .string ch.text) (d := .bool ch.cut) HXb.out)
      have HB8 := Aside0.mk (HBb.out.setCell (p := ⟨gb, 0, none⟩) (by rw [HGb.out]; exact Nat.le_refl _) (.int .i64 ch.file) |>.setCell (p := ⟨gb, 1, none⟩) (by rw [HGb.out]; exact Nat.le_refl _) (.int .i64 (ch.at_ : Int)) |>.setCell (p := ⟨gb, 2, none⟩) (by rw [HGb.out]; exact Nat.le_refl _) (.string ch.text) |>.setCell (p := ⟨gb, 3, none⟩) (by rw [HGb.out]; exact Nat.le_refl _) (.bool ch.cut))
      change Aside0 (Below wr.heap.size wr (put4 w7 gb (.int .i64 ch.file) (.int .i64 (ch.at_ : Int)) (.string ch.text) (.bool ch.cut))) at HB8
      clear b0 b1 b2 b3 y0 y1 y2 y3 f0 f1 f2 f3 HXb HBb
      generalize put4 w7 gb (.int .i64 ch.file) (.int .i64 (ch.at_ : Int)) (.string ch.text) (.bool ch.cut) = w8 at HX8 HB8 ⊢
      have q0 : w8.cell? ⟨gb, 0, none⟩ = some (.int .i64 ch.file) := (blk_cell HX8.out 0).trans rfl
      have q1 : w8.cell? ⟨gb, 1, none⟩ = some (.int .i64 (ch.at_ : Int)) := (blk_cell HX8.out 1).trans rfl
      have q2 : w8.cell? ⟨gb, 2, none⟩ = some (.string ch.text) := (blk_cell HX8.out 2).trans rfl
      have q3 : w8.cell? ⟨gb, 3, none⟩ = some (.bool ch.cut) := (blk_cell HX8.out 3).trans rfl
      by_cases he : ch.file = 0
      · have HNE := Aside0.mk he
        rw [he] at q0
        have HON := Aside0.mk (show relstoreref_act_on.f 0 (ch.at_ : Int) ch.text ch.cut sj = some (onB ch sj) by have h := act_on_is ch sj HSS.out HCH.out; rw [he] at h; exact h)
        clear he
        go_wp2_with (go_at_call 154; (refine ((relstoreref_act_on.calls 0 (ch.at_ : Int) ch.text ch.cut sj (onB ch sj) _ HON.out)).mono ?_); rintro e9 w9 ⟨rfl, hb⟩; have HB9 := Aside0.mk hb; clear hb)
        go_roundw
        case rel => exact ⟨j + 1, by omega, by rw [HTN.out, if_pos HNE.out], by go_num, ⟨below_step (below_step HBr.out HB8.out) HB9.out⟩⟩
        case measure => simp [intOf]; omega
      · have HNE := Aside0.mk he
        have e_ : (ch.file == 0) = false := beq_false he
        clear he
        go_wp2_with (fail)
        go_roundw
        case rel => exact ⟨j + 1, by omega, by rw [HTN.out, if_neg HNE.out], by go_num, ⟨below_step HBr.out HB8.out⟩⟩
        case measure => simp [intOf]; omega
    · obtain rfl : j = s.ws.length := by omega
      rw [List.take_length]
      clear hlt hj
      go_wp2_with (fail)
      go_ret
      exact ⟨rfl, HBr.out⟩
set_option maxHeartbeats 8000000 in
set_option maxRecDepth 100000 in
theorem seen.calls1 (g : Nat) (O : Nat → Prop) (s : St) (m base : Nat) (w : World) (hD : RD w base g O s) (hok : s.ok m) (hm : m ≤ 2000000000) :
    Calls Try.prog 136 #[.pointer (some ⟨g, 0, none⟩), .int .i64 1] w fun e w' => e = .returned (.string s.s1) ∧ Below w.heap.size w w' := by
  obtain ⟨x2, hb, hg, hO, hr⟩ := hD
  have hcs := hok.c
  have hns := hok.n
  have HW := Aside0.mk (show s.ws.length ≤ 2000000000 by omega)
  have HWS := Aside0.mk hok.ws
  have HL := Aside0.mk hok.l1
  have HR := Aside0.mk hr
  have HX := Aside0.mk hb
  clear hb hg hO hr hok hm hcs hns
  obtain ⟨A4, c4, e4⟩ := Kd.R_slice HR.out
  subst e4
  go_enter Try.func136, Try.ntmps136
  have q0 : w.cell? ⟨g, 1, none⟩ = some (.string s.l1) := (blk_cell HX.out 1).trans rfl
  have q2 : w.cell? ⟨g, 2, none⟩ = some (.slice A4 s.ws.length c4) := (blk_cell HX.out 2).trans rfl
  go_wp2_with (fail)
  clear q0 q2
  have HCW := Aside0.mk (Kd.R_reads' HR.out).2.2
  go_loopw [5, 19] (fun v5 v19 wr => ∃ (j : Nat), j ≤ s.ws.length ∧ v5 = .string (seenB 1 (s.ws.take j) s.l1) ∧ v19 = .int .i64 (j : Int) ∧ Aside0 (Below w.heap.size w wr)) (fun _ v19 _ => s.ws.length - (intOf v19).toNat)
  case atStart => exact ⟨0, Nat.zero_le _, rfl, rfl, ⟨Below.refl _ _⟩⟩
  case round =>
    obtain ⟨j, hj, rfl, rfl, HBr⟩ := hrel
    have hm := HW.out
    by_cases hlt : j < s.ws.length
    · have t_ : decide ((j : Int) < (s.ws.length : Int)) = true := decide_eq_true (by omega)
      obtain ⟨ad, hA, f0, f1, f2, f3⟩ := at_C HCW.out j hlt
      subst hA
      replace f0 := (HBr.out.cell (World.block_lt_of_cell? w _ f0)).trans f0
      replace f1 := (HBr.out.cell (World.block_lt_of_cell? w _ f1)).trans f1
      replace f2 := (HBr.out.cell (World.block_lt_of_cell? w _ f2)).trans f2
      replace f3 := (HBr.out.cell (World.block_lt_of_cell? w _ f3)).trans f3
      have HTN := Aside0.mk (show seenB 1 (s.ws.take (j + 1)) s.l1 = if (chgAt s.ws j).file = 1 then onB (chgAt s.ws j) (seenB 1 (s.ws.take j) s.l1) else seenB 1 (s.ws.take j) s.l1 by rw [take_succ_chg hlt]; exact seenB_snoc _ _ _ _)
      have HCH := Aside0.mk (HWS.out (chgAt s.ws j) (by unfold chgAt; rw [List.getD_eq_getElem?_getD, List.getElem?_eq_getElem hlt, Option.getD_some]; exact List.getElem_mem hlt)).2
      have HSS := Aside0.mk (size_seenB 1 (s.ws.take j) s.l1 HL.out (fun c hc => (HWS.out c (List.mem_of_mem_take hc)).2))
      generalize chgAt s.ws j = ch at f0 f1 f2 f3 HTN HCH
      generalize seenB 1 (s.ws.take j) s.l1 = sj at HTN HSS ⊢
      go_upto_region 5 with ((with_reducible refine gate_dst (N := 7) rfl ?_); refine box_event ?hg (N := 7) ?hd (cs := #[.int .i64 0, .int .i64 0, .string ⟨#[]⟩, .bool false]) (t := 181) ?hr ?_; (case hd => rfl); (case hg => rfl); (case hr => first | (go_simp; done) | (go_simp; rfl)); intro gb hgb w7 hbox hb; have HXb := Aside0.mk hbox; have HBb := Aside0.mk hb; have HGb := Aside0.mk hgb; have b0 : w7.cell? ⟨gb, 0, none⟩ = some (.int .i64 0) := (blk_cell hbox 0).trans rfl; have b1 : w7.cell? ⟨gb, 1, none⟩ = some (.int .i64 0) := (blk_cell hbox 1).trans rfl; have b2 : w7.cell? ⟨gb, 2, none⟩ = some (.string ⟨#[]⟩) := (blk_cell hbox 2).trans rfl; have b3 : w7.cell? ⟨gb, 3, none⟩ = some (.bool false) := (blk_cell hbox 3).trans rfl; have y0 := blk_frozen hbox 0; have y1 := blk_frozen hbox 1; have y2 := blk_frozen hbox 2; have y3 := blk_frozen hbox 3; clear hgb hbox hb)
      have hput : (((w7.setCell ⟨gb, 0, none⟩ (.int .i64 ch.file)).setCell ⟨gb, 1, none⟩ (.int .i64 (ch.at_ : Int))).setCell ⟨gb, 2, none⟩ (.string ch.text)).setCell ⟨gb, 3, none⟩ (.bool ch.cut) = put4 w7 gb (.int .i64 ch.file) (.int .i64 (ch.at_ : Int)) (.string ch.text) (.bool ch.cut) := rfl
      rw [hput]
      clear hput
      have HX8 := Aside0.mk (put4_blk (a := .int .i64 ch.file) (b := .int .i64 (ch.at_ : Int)) (c := .string ch.text) (d := .bool ch.cut) HXb.out)
      have HB8 := Aside0.mk (HBb.out.setCell (p := ⟨gb, 0, none⟩) (by rw [HGb.out]; exact Nat.le_refl _) (.int .i64 ch.file) |>.setCell (p := ⟨gb, 1, none⟩) (by rw [HGb.out]; exact Nat.le_refl _) (.int .i64 (ch.at_ : Int)) |>.setCell (p := ⟨gb, 2, none⟩) (by rw [HGb.out]; exact Nat.le_refl _) (.string ch.text) |>.setCell (p := ⟨gb, 3, none⟩) (by rw [HGb.out]; exact Nat.le_refl _) (.bool ch.cut))
      change Aside0 (Below wr.heap.size wr (put4 w7 gb (.int .i64 ch.file) (.int .i64 (ch.at_ : Int)) (.string ch.text) (.bool ch.cut))) at HB8
      clear b0 b1 b2 b3 y0 y1 y2 y3 f0 f1 f2 f3 HXb HBb
      generalize put4 w7 gb (.int .i64 ch.file) (.int .i64 (ch.at_ : Int)) (.string ch.text) (.bool ch.cut) = w8 at HX8 HB8 ⊢
      have q0 : w8.cell? ⟨gb, 0, none⟩ = some (.int .i64 ch.file) := (blk_cell HX8.out 0).trans rfl
      have q1 : w8.cell? ⟨gb, 1, none⟩ = some (.int .i64 (ch.at_ : Int)) := (blk_cell HX8.out 1).trans rfl
      have q2 : w8.cell? ⟨gb, 2, none⟩ = some (.string ch.text) := (blk_cell HX8.out 2).trans rfl
      have q3 : w8.cell? ⟨gb, 3, none⟩ = some (.bool ch.cut) := (blk_cell HX8.out 3).trans rfl
      by_cases he : ch.file = 1
      · have HNE := Aside0.mk he
        rw [he] at q0
        have HON := Aside0.mk (show relstoreref_act_on.f 1 (ch.at_ : Int) ch.text ch.cut sj = some (onB ch sj) by have h := act_on_is ch sj HSS.out HCH.out; rw [he] at h; exact h)
        clear he
        go_wp2_with (go_at_call 154; (refine ((relstoreref_act_on.calls 1 (ch.at_ : Int) ch.text ch.cut sj (onB ch sj) _ HON.out)).mono ?_); rintro e9 w9 ⟨rfl, hb⟩; have HB9 := Aside0.mk hb; clear hb)
        go_roundw
        case rel => exact ⟨j + 1, by omega, by rw [HTN.out, if_pos HNE.out], by go_num, ⟨below_step (below_step HBr.out HB8.out) HB9.out⟩⟩
        case measure => simp [intOf]; omega
      · have HNE := Aside0.mk he
        have e_ : (ch.file == 1) = false := beq_false he
        clear he
        go_wp2_with (fail)
        go_roundw
        case rel => exact ⟨j + 1, by omega, by rw [HTN.out, if_neg HNE.out], by go_num, ⟨below_step HBr.out HB8.out⟩⟩
        case measure => simp [intOf]; omega
    · obtain rfl : j = s.ws.length := by omega
      rw [List.take_length]
      clear hlt hj
      go_wp2_with (fail)
      go_ret
      exact ⟨rfl, HBr.out⟩
end Go.Proofs.Ythaoaaboempajaa.Disk
