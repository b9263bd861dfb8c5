/- The disk's methods New, Write, Cut, Size, Read, walked. Conditions: the disk is a block with rows of its own; its state is in order. -/
import Derived.Test.YthaoaaboempajaaDisk8
namespace Go.Proofs.Ythaoaaboempajaa.Disk
open Go.RowKit Go.Proofs.YthaoaaboempajaaW.PrintWords Go.Proofs.YthaoaaboempajaaW.PrintLast Go.Proofs.YthaoaaboempajaaW.PrintMore Go.Proofs.YthaoaaboempajaaX Go.Proofs.Ythaoaaboempajaa.QDiskRuns
set_option linter.unusedVariables false
set_option linter.unusedSimpArgs false
def rightB (f a n : Int) : Bool := decide (0 ≤ f ∧ f < 2 ∧ 0 ≤ a ∧ 0 ≤ n ∧ a ≤ 67108864 ∧ n ≤ 67108864 - a)
theorem right_is (f a n : Int) : disk_right.f f a n = some (rightB f a n) := by
  unfold disk_right.f rightB
  by_cases h1 : f ≥ 0
  · rw [if_pos h1]
    by_cases h2 : f < 2
    · rw [if_pos h2]
      by_cases h3 : a ≥ 0
      · rw [if_pos h3]
        by_cases h4 : n ≥ 0
        · rw [if_pos h4]
          by_cases h5 : a ≤ 67108864
          · rw [if_pos h5, show wrap64 (67108864 - a) = 67108864 - a by unfold wrap64; omega]
            simp [h1, h2, h3, h4, h5]
          · rw [if_neg h5]; simp [h5]
        · rw [if_neg h4]; simp; omega
      · rw [if_neg h3]; simp; omega
    · rw [if_neg h2]; simp; omega
  · rw [if_neg h1]; simp; omega
theorem fits_is (f a n : Int) : relstoreref_fits.f f a n = some (rightB f a n) := by
  unfold relstoreref_fits.f relstoreref_in.f rightB
  by_cases h1 : f ≥ 0
  · rw [if_pos h1, Option.bind_some]
    by_cases h2 : f ≤ 1
    · rw [if_pos (by simpa using h2)]
      by_cases h3 : a ≥ 0
      · rw [if_pos h3, Option.bind_some]
        by_cases h5 : a ≤ 67108864
        · rw [if_pos (by simpa using h5)]
          by_cases h4 : n ≥ 0
          · rw [if_pos h4, show wrap64 (67108864 - a) = 67108864 - a by unfold wrap64; omega, Option.bind_some]
            congr 1
            rw [decide_eq_decide]
            omega
          · rw [if_neg h4, Option.bind_some]; congr 1; symm; rw [decide_eq_false_iff_not]; omega
        · rw [if_neg (by simpa using h5)]; congr 1; symm; rw [decide_eq_false_iff_not]; omega
      · rw [if_neg h3, Option.bind_some, if_neg (by decide)]; congr 1; symm; rw [decide_eq_false_iff_not]; omega
    · rw [if_neg (by simpa using h2)]; congr 1; symm; rw [decide_eq_false_iff_not]; omega
  · rw [if_neg h1, Option.bind_some, if_neg (by decide)]; congr 1; symm; rw [decide_eq_false_iff_not]; omega
theorem right_file {f a n : Int} (h : rightB f a n = true) : (f = 0 ∨ f = 1) ∧ 0 ≤ a ∧ 0 ≤ n ∧ a + n ≤ 67108864 := by
  unfold rightB at h
  have := of_decide_eq_true h
  omega
def seenOf (s : St) (f : Int) : ByteArray := if f = 0 then s.s0 else s.s1
theorem seenOf0 (s : St) : seenOf s 0 = s.s0 := if_pos rfl
theorem seenOf1 (s : St) : seenOf s 1 = s.s1 := if_neg (by decide)
theorem seenOf_size {s : St} {m : Nat} (h : s.ok m) (f : Int) : (seenOf s f).size ≤ maxFile := by unfold seenOf; split; exact h.s0; exact h.s1
def St.write (s : St) (f a : Int) (t : ByteArray) : Int × St := if rightB f a t.size = true then ((turn s.f s.d s.c).1, s.changed ⟨f, a.toNat, t, false⟩) else (1, s)
def St.cutTo (s : St) (f a : Int) : Int × St := if rightB f a 0 = true then ((turn s.f s.d s.c).1, s.changed ⟨f, a.toNat, ByteArray.empty, true⟩) else (1, s)
def St.size (s : St) (f : Int) : Int × Int := if rightB f 0 0 = true then (if s.d = true then (0, 2) else ((seenOf s f).size, 0)) else (0, 1)
def St.read (s : St) (f a n : Int) : ByteArray × Int := if rightB f a n = true then (if s.d = true then (ByteArray.empty, 2) else (if a + n > (seenOf s f).size then (ByteArray.empty, 3) else ((seenOf s f).extract a.toNat (a + n).toNat, 0))) else (ByteArray.empty, 1)
def St.new : St := ⟨ByteArray.empty, ByteArray.empty, [], -1, false, 0⟩
theorem St.new_ok : St.new.ok 0 := ⟨Nat.zero_le _, Nat.zero_le _, (fun _ h => by cases h), ⟨by decide, by decide⟩, ⟨by decide, by decide⟩, by decide⟩
theorem drawn_keep {w w' : World} {base g : Nat} {O : Nat → Prop} {s : St} (h : Drawn0 w w') (hD : DD w base g O s) : DD w' base g O s := DX.apart hD (S := fun _ => False) (Kept.of_below h.below _) (fun _ _ h => h)
theorem new.calls (w0 w : World) (hB : Below w0.heap.size w0 w) :
    Calls Try.prog 58 #[] w fun e w' => ∃ g, e = .returned (.pointer (some ⟨g, 0, none⟩)) ∧ w.heap.size ≤ g ∧ DD w' w0.heap.size g (fun k => w.heap.size ≤ k) St.new ∧ Below w.heap.size w w' := by
  have HB := Aside0.mk hB
  clear hB
  go_enter Try.func58, Try.ntmps58
  go_wp2_with ((with_reducible refine gate_dst (N := 2) rfl ?_); refine box_event ?hg (N := 2) ?hd (cs := dcells (.slice none 0 0) (.slice none 0 0) (.slice none 0 0) (.slice none 0 0) (.slice none 0 0) (-1) false 0) (t := 146) ?hr ?_; (case hd => rfl); (case hg => rfl); (case hr => first | (go_simp; done) | (go_simp; rfl)); intro gb hgb w1 hbox hb; have HX1 := Aside0.mk hbox; have HB0 := Aside0.mk hb; have HGB := Aside0.mk hgb; clear hgb hbox hb)
  go_ret
  refine ⟨gb, rfl, Nat.le_of_eq HGB.out.symm, ?_, HB0.out⟩
  refine ⟨fun k => 5, _, _, _, _, _, HX1.out, ?_, Nat.le_of_eq HGB.out.symm, rfl, ?_⟩
  · rw [HGB.out]; exact HB.out.size
  · exact ⟨Kd.R_nil _ _ _ _ _, Kd.R_nil _ _ _ _ _, Kd.R_nil _ _ _ _ _, Kd.R_nil _ _ _ _ _, Kd.R_nil _ _ _ _ _⟩
set_option maxHeartbeats 4000000 in
theorem write.calls (g : Nat) (O : Nat → Prop) (s : St) (f a : Int) (t : ByteArray) (m : Nat) (w0 w : World) (hB : Below w0.heap.size w0 w) (hD : DD w w0.heap.size g O s) (hok : s.ok m) (hm : m ≤ 1000000000) :
    Calls Try.prog 125 #[.pointer (some ⟨g, 0, none⟩), .int .i64 f, .int .i64 a, .string t] w fun e w' => e = .returned (.int .i64 (s.write f a t).1) ∧
      DD w' w0.heap.size g (fun k => O k ∨ w.heap.size ≤ k) (s.write f a t).2 ∧ Below w0.heap.size w0 w' ∧ Kept w w' O := by
  have HB := Aside0.mk hB
  have HD := Aside0.mk hD
  have HOK := Aside0.mk hok
  have HM := Aside0.mk hm
  clear hB hD hok hm
  by_cases hr : rightB f a t.size = true
  · obtain ⟨hf, ha, hn, han⟩ := right_file hr
    obtain ⟨a, rfl⟩ : ∃ b : Nat, a = (b : Int) := ⟨a.toNat, by omega⟩
    have HRT := Aside0.mk hr
    have HF := Aside0.mk hf
    have HAN := Aside0.mk han
    have hw : s.write f a t = ((turn s.f s.d s.c).1, s.changed ⟨f, a, t, false⟩) := by unfold St.write; rw [if_pos hr, Int.toNat_natCast]
    rw [hw]
    clear hr hf ha hn han hw
    go_enter Try.func125, Try.ntmps125
    go_upto_region 3 with (go_at_call 164; (refine (disk_right.calls f a t.size true _ (by rw [right_is, HRT.out])).mono ?_); rintro e2 w2 ⟨rfl, hd2⟩; have HW2 := Aside0.mk hd2; clear hd2)
    have HD2 := Aside0.mk (drawn_keep HW2.out HD.out)
    have HB2 := Aside0.mk (below_step HB.out HW2.out.below)
    have hok := HOK.out
    have h1 := HM.out
    have h2 := HAN.out
    have hcs := hok.c
    have hns := hok.n
    have hfs := hok.f
    have h3 := hok.s0
    have h4 := hok.s1
    have G1 := Aside0.mk (show -9223372036854775808 ≤ s.f ∧ s.f < 9223372036854775808 by omega)
    have G2 := Aside0.mk (show 0 ≤ s.c ∧ s.c < 9223372036854775807 by omega)
    have G3 := Aside0.mk (show a + t.size ≤ 140737488355000 by omega)
    have G4 := Aside0.mk (show s.s0.size ≤ 140737488355000 by unfold maxFile at h3; omega)
    have G5 := Aside0.mk (show s.s1.size ≤ 140737488355000 by unfold maxFile at h4; omega)
    have G6 := Aside0.mk (show s.ws.length ≤ 1000000000000 by omega)
    clear hok h1 h2 hcs hns hfs h3 h4
    have HS := Aside0.mk (show w.heap.size ≤ w2.heap.size from HW2.out.below.size)
    rcases HF.out with rfl | rfl
    · go_wp2_with (go_at_call 166; (refine (change.calls0 g O s a t false w0 _ HB2.out HD2.out G1.out G2.out G3.out G4.out G6.out).mono ?_); rintro e3 w3 ⟨rfl, hd3, hb3, hk3⟩; have HD3 := Aside0.mk hd3; have HB3 := Aside0.mk hb3; have HK3 := Aside0.mk hk3; clear hd3 hb3 hk3)
      go_ret
      exact ⟨rfl, DX.mono HD3.out (fun k hk => hk.imp id (Nat.le_trans HS.out)), HB3.out, (Kept.of_below HW2.out.below O).then_ HK3.out (fun k hk => .inl hk)⟩
    · go_wp2_with (go_at_call 166; (refine (change.calls1 g O s a t false w0 _ HB2.out HD2.out G1.out G2.out G3.out G5.out G6.out).mono ?_); rintro e3 w3 ⟨rfl, hd3, hb3, hk3⟩; have HD3 := Aside0.mk hd3; have HB3 := Aside0.mk hb3; have HK3 := Aside0.mk hk3; clear hd3 hb3 hk3)
      go_ret
      exact ⟨rfl, DX.mono HD3.out (fun k hk => hk.imp id (Nat.le_trans HS.out)), HB3.out, (Kept.of_below HW2.out.below O).then_ HK3.out (fun k hk => .inl hk)⟩
  · have hr' : rightB f a t.size = false := by simpa using hr
    have HRT := Aside0.mk hr'
    have hw : s.write f a t = (1, s) := by unfold St.write; rw [if_neg hr]
    rw [hw]
    clear hr hr' hw
    go_enter Try.func125, Try.ntmps125
    go_wp2_with (go_at_call 164; (refine (disk_right.calls f a t.size false _ (by rw [right_is, HRT.out])).mono ?_); rintro e2 w2 ⟨rfl, hd2⟩; have HW2 := Aside0.mk hd2; clear hd2)
    go_ret
    exact ⟨rfl, DX.mono (drawn_keep HW2.out HD.out) (fun k hk => .inl hk), below_step HB.out HW2.out.below, Kept.of_below HW2.out.below O⟩
set_option maxHeartbeats 4000000 in
theorem cut.calls (g : Nat) (O : Nat → Prop) (s : St) (f a : Int) (m : Nat) (w0 w : World) (hB : Below w0.heap.size w0 w) (hD : DD w w0.heap.size g O s) (hok : s.ok m) (hm : m ≤ 1000000000) :
    Calls Try.prog 127 #[.pointer (some ⟨g, 0, none⟩), .int .i64 f, .int .i64 a] w fun e w' => e = .returned (.int .i64 (s.cutTo f a).1) ∧
      DD w' w0.heap.size g (fun k => O k ∨ w.heap.size ≤ k) (s.cutTo f a).2 ∧ Below w0.heap.size w0 w' ∧ Kept w w' O := by
  have HB := Aside0.mk hB
  have HD := Aside0.mk hD
  have HOK := Aside0.mk hok
  have HM := Aside0.mk hm
  clear hB hD hok hm
  by_cases hr : rightB f a 0 = true
  · obtain ⟨hf, ha, hn, han⟩ := right_file hr
    obtain ⟨a, rfl⟩ : ∃ b : Nat, a = (b : Int) := ⟨a.toNat, by omega⟩
    have HRT := Aside0.mk hr
    have HF := Aside0.mk hf
    have HAN := Aside0.mk han
    have hw : s.cutTo f a = ((turn s.f s.d s.c).1, s.changed ⟨f, a, ByteArray.empty, true⟩) := by unfold St.cutTo; rw [if_pos hr, Int.toNat_natCast]
    rw [hw]
    clear hr hf ha hn han hw
    go_enter Try.func127, Try.ntmps127
    go_upto_region 3 with (go_at_call 164; (refine (disk_right.calls f a 0 true _ (by rw [right_is, HRT.out])).mono ?_); rintro e2 w2 ⟨rfl, hd2⟩; have HW2 := Aside0.mk hd2; clear hd2)
    have HD2 := Aside0.mk (drawn_keep HW2.out HD.out)
    have HB2 := Aside0.mk (below_step HB.out HW2.out.below)
    have hok := HOK.out
    have h1 := HM.out
    have h2 := HAN.out
    have hcs := hok.c
    have hns := hok.n
    have hfs := hok.f
    have h3 := hok.s0
    have h4 := hok.s1
    have G1 := Aside0.mk (show -9223372036854775808 ≤ s.f ∧ s.f < 9223372036854775808 by omega)
    have G2 := Aside0.mk (show 0 ≤ s.c ∧ s.c < 9223372036854775807 by omega)
    have G3 := Aside0.mk (show a + ByteArray.empty.size ≤ 140737488355000 by rw [show ByteArray.empty.size = 0 from rfl]; omega)
    have G4 := Aside0.mk (show s.s0.size ≤ 140737488355000 by unfold maxFile at h3; omega)
    have G5 := Aside0.mk (show s.s1.size ≤ 140737488355000 by unfold maxFile at h4; omega)
    have G6 := Aside0.mk (show s.ws.length ≤ 1000000000000 by omega)
    clear hok h1 h2 hcs hns hfs h3 h4
    have HS := Aside0.mk (show w.heap.size ≤ w2.heap.size from HW2.out.below.size)
    rcases HF.out with rfl | rfl
    · go_wp2_with (go_at_call 166; (refine (change.calls0 g O s a ByteArray.empty true w0 _ HB2.out HD2.out G1.out G2.out G3.out G4.out G6.out).mono ?_); rintro e3 w3 ⟨rfl, hd3, hb3, hk3⟩; have HD3 := Aside0.mk hd3; have HB3 := Aside0.mk hb3; have HK3 := Aside0.mk hk3; clear hd3 hb3 hk3)
      go_ret
      exact ⟨rfl, DX.mono HD3.out (fun k hk => hk.imp id (Nat.le_trans HS.out)), HB3.out, (Kept.of_below HW2.out.below O).then_ HK3.out (fun k hk => .inl hk)⟩
    · go_wp2_with (go_at_call 166; (refine (change.calls1 g O s a ByteArray.empty true w0 _ HB2.out HD2.out G1.out G2.out G3.out G5.out G6.out).mono ?_); rintro e3 w3 ⟨rfl, hd3, hb3, hk3⟩; have HD3 := Aside0.mk hd3; have HB3 := Aside0.mk hb3; have HK3 := Aside0.mk hk3; clear hd3 hb3 hk3)
      go_ret
      exact ⟨rfl, DX.mono HD3.out (fun k hk => hk.imp id (Nat.le_trans HS.out)), HB3.out, (Kept.of_below HW2.out.below O).then_ HK3.out (fun k hk => .inl hk)⟩
  · have hr' : rightB f a 0 = false := by simpa using hr
    have HRT := Aside0.mk hr'
    have hw : s.cutTo f a = (1, s) := by unfold St.cutTo; rw [if_neg hr]
    rw [hw]
    clear hr hr' hw
    go_enter Try.func127, Try.ntmps127
    go_wp2_with (go_at_call 164; (refine (disk_right.calls f a 0 false _ (by rw [right_is, HRT.out])).mono ?_); rintro e2 w2 ⟨rfl, hd2⟩; have HW2 := Aside0.mk hd2; clear hd2)
    go_ret
    exact ⟨rfl, DX.mono (drawn_keep HW2.out HD.out) (fun k hk => .inl hk), below_step HB.out HW2.out.below, Kept.of_below HW2.out.below O⟩
theorem size.calls (g : Nat) (O : Nat → Prop) (s : St) (f : Int) (w0 w : World) (hD : DD w w0.heap.size g O s) :
    Calls Try.prog 129 #[.pointer (some ⟨g, 0, none⟩), .int .i64 f] w fun e w' => e = .returned (.tuple #[.int .i64 (s.size f).1, .int .i64 (s.size f).2]) ∧ Drawn0 w w' := by
  obtain ⟨lab, x0, x1, x2, x3, x4, hb, hg, hO, hlb, hr⟩ := hD
  obtain ⟨A1, c1, e1⟩ := Kd.R_slice hr.r1
  subst e1
  obtain ⟨A3, c3, e3⟩ := Kd.R_slice hr.r3
  subst e3
  rw [bytesOf_length, bytesOf_length] at hb
  have HX := Aside0.mk hb
  clear hb hg hO hlb hr
  by_cases hr : rightB f 0 0 = true
  · obtain ⟨hf, -, -, -⟩ := right_file hr
    have HRT := Aside0.mk hr
    have HF := Aside0.mk hf
    have hs : s.size f = if s.d = true then (0, 2) else (((seenOf s f).size : Int), 0) := by unfold St.size; rw [if_pos hr]
    have HS := Aside0.mk hs
    clear hr hf hs
    go_enter Try.func129, Try.ntmps129
    go_upto_region 3 with (go_at_call 164; (refine (disk_right.calls f 0 0 true _ (by rw [right_is, HRT.out])).mono ?_); rintro e2 w2 ⟨rfl, hd2⟩; obtain ⟨n2, rfl⟩ := hd2.out; have HW2 := Aside0.mk hd2; clear hd2)
    have c6 : w.cell? ⟨g, 6, none⟩ = some (.bool s.d) := (blk_cell HX.out 6).trans rfl
    have c1 : w.cell? ⟨g, 1, none⟩ = some (.slice A1 s.s0.size c1) := (blk_cell HX.out 1).trans rfl
    have c3 : w.cell? ⟨g, 3, none⟩ = some (.slice A3 s.s1.size c3) := (blk_cell HX.out 3).trans rfl
    cases hd : s.d with
    | true =>
      rw [hd] at c6
      have HSD := Aside0.mk hd
      clear hd
      go_wp2_with (fail)
      go_ret2
      exact ⟨by rw [HS.out, if_pos HSD.out]; rfl, HW2.out⟩
    | false =>
      rw [hd] at c6
      have HSD := Aside0.mk (show ¬ s.d = true by rw [hd]; decide)
      clear hd
      rcases HF.out with rfl | rfl
      · go_wp2_with (fail)
        go_ret2
        exact ⟨by rw [HS.out, if_neg HSD.out, seenOf0]; rfl, HW2.out⟩
      · go_wp2_with (fail)
        go_ret2
        exact ⟨by rw [HS.out, if_neg HSD.out, seenOf1]; rfl, HW2.out⟩
  · have hr' : rightB f 0 0 = false := by simpa using hr
    have HRT := Aside0.mk hr'
    have hs : s.size f = (0, 1) := by unfold St.size; rw [if_neg hr]
    have HS := Aside0.mk hs
    clear hr hr' hs
    go_enter Try.func129, Try.ntmps129
    go_wp2_with (go_at_call 164; (refine (disk_right.calls f 0 0 false _ (by rw [right_is, HRT.out])).mono ?_); rintro e2 w2 ⟨rfl, hd2⟩; have HW2 := Aside0.mk hd2; clear hd2)
    go_ret2
    exact ⟨by rw [HS.out]; rfl, HW2.out⟩
theorem nums_bytes (s : ByteArray) : strOfNums (bytesOf s) = s := by
  have h : (strOfNums (bytesOf s)).data.toList = s.data.toList := by
    show ((bytesOf s).map fun n => UInt8.ofNat n.toNat) = s.data.toList
    rw [bytesOf, List.map_map]
    conv => rhs; rw [← List.map_id s.data.toList]
    apply List.map_congr_left
    intro x _
    show UInt8.ofNat ((x.toNat : Int)).toNat = x
    rw [Int.toNat_natCast]
    exact UInt8.ofNat_toNat
  have h3 : (strOfNums (bytesOf s)).data = s.data := Array.toList_inj.1 h
  cases s
  simp_all [strOfNums]
set_option maxHeartbeats 4000000 in
theorem read.calls (g : Nat) (O : Nat → Prop) (s : St) (f a n : Int) (w0 w : World) (hD : DD w w0.heap.size g O s) :
    Calls Try.prog 123 #[.pointer (some ⟨g, 0, none⟩), .int .i64 f, .int .i64 a, .int .i64 n] w fun e w' => e = .returned (.tuple #[.string (s.read f a n).1, .int .i64 (s.read f a n).2]) ∧ Drawn0 w w' := by
  obtain ⟨lab, x0, x1, x2, x3, x4, hb, hg, hO, hlb, hr⟩ := hD
  obtain ⟨A1, c1, e1⟩ := Kd.R_slice hr.r1
  subst e1
  obtain ⟨A3, c3, e3⟩ := Kd.R_slice hr.r3
  subst e3
  have HC1 := Aside0.mk (Kd.R_reads' hr.r1)
  have HC3 := Aside0.mk (Kd.R_reads' hr.r3)
  have HX := Aside0.mk hb
  clear hb hg hO hlb hr
  obtain ⟨i5, hi5⟩ : ∃ i, Try.prog.info? 5 = some i := Option.isSome_iff_exists.1 (by kernel_rfl)
  have HI5 := Aside0.mk (show i5.size = 1 by have h := QDiskRuns.info5; rw [hi5] at h; simp at h; exact h.2.1)
  by_cases hr : rightB f a n = true
  · obtain ⟨hf, ha, hn, han⟩ := right_file hr
    have HRT := Aside0.mk hr
    have HF := Aside0.mk hf
    have hs : s.read f a n = if s.d = true then (ByteArray.empty, 2) else (if a + n > (seenOf s f).size then (ByteArray.empty, 3) else ((seenOf s f).extract a.toNat (a + n).toNat, 0)) := by unfold St.read; rw [if_pos hr]
    have HS := Aside0.mk hs
    have HAN := Aside0.mk (And.intro ha (And.intro hn han))
    clear hr hf hs ha hn han
    go_enter Try.func123, Try.ntmps123
    go_upto_region 3 with (go_at_call 164; (refine (disk_right.calls f a n true _ (by rw [right_is, HRT.out])).mono ?_); rintro e2 w2 ⟨rfl, hd2⟩; obtain ⟨n2, rfl⟩ := hd2.out; have HW2 := Aside0.mk hd2; clear hd2)
    have c6 : w.cell? ⟨g, 6, none⟩ = some (.bool s.d) := (blk_cell HX.out 6).trans rfl
    cases hd : s.d with
    | true =>
      rw [hd] at c6
      have HSD := Aside0.mk hd
      clear hd
      go_wp2_with (fail)
      go_ret2
      exact ⟨by rw [HS.out, if_pos HSD.out]; rfl, HW2.out⟩
    | false =>
      rw [hd] at c6
      have HSD := Aside0.mk (show ¬ s.d = true by rw [hd]; decide)
      clear hd
      obtain ⟨ha, hn, han⟩ := HAN.out
      have w_ : IntKind.i64.wrap (a + n) = a + n := IntWalk.i64_in _ (by omega)
      rcases HF.out with rfl | rfl
      · have c1_ : w.cell? ⟨g, 1, none⟩ = some (.slice A1 (bytesOf s.s0).length c1) := (blk_cell HX.out 1).trans rfl
        by_cases hgt : a + n > s.s0.size
        · have HGT := Aside0.mk hgt
          have d_ : decide (a + n > ((bytesOf s.s0).length : Int)) = true := decide_eq_true (by rw [bytesOf_length]; exact hgt)
          clear hgt
          go_wp2_with (fail)
          go_ret2
          exact ⟨by rw [HS.out, if_neg HSD.out, seenOf0, if_pos (show a + n > (s.s0.size : Int) by have := HGT.out; omega)]; rfl, HW2.out⟩
        · have HGT := Aside0.mk hgt
          have d_ : decide (a + n > ((bytesOf s.s0).length : Int)) = false := decide_eq_false (by rw [bytesOf_length]; exact hgt)
          have hl := HC1.out.2.1
          have hz : s.s0.size = (bytesOf s.s0).length := (bytesOf_length _).symm
          have sl_ := cut_mid (P := Try.prog) 55 5 .i64 .i64 Try.underlying55 hi5 1 HI5.out A1 (bytesOf s.s0).length c1 a (a + n) (by omega) (by omega) (by omega) hl
          have hC : (Kd.int .u8).C w (if c1 = a.toNat then A1 else A1.map (·.add (a.toNat * 1))) _ _ := Kd.C_mid (k := Kd.int .u8) (lo := a.toNat) (hi := (a + n).toNat) HC1.out.2.2 (by omega) (by omega) hl
          have hlen : (((bytesOf s.s0).take (a + n).toNat).drop a.toNat).length = (a + n).toNat - a.toNat := by rw [List.length_drop, List.length_take]; omega
          rw [hlen] at hC
          have cv_ := Kd.C_string (P := Try.prog) (src := 55) (dst := 9) (e := 5) (c := c1 - a.toNat) Try.underlying55 Try.underlying5 Try.underlying9 (Kd.C_below hC (pw_below_drewN (Below.refl _ w) n2))
          have hst : strOfNums (((bytesOf s.s0).take (a + n).toNat).drop a.toNat) = s.s0.extract a.toNat (a + n).toNat := by
            rw [← nums_bytes (s.s0.extract a.toNat (a + n).toNat), bytesOf_extract, List.drop_take]
          rw [hst] at cv_
          generalize (if c1 = a.toNat then A1 else A1.map (·.add (a.toNat * 1))) = ad at sl_ cv_ hC
          clear hgt hz hC hlen hst hl
          go_wp2_with (fail)
          go_ret2
          exact ⟨by rw [HS.out, if_neg HSD.out, seenOf0, if_neg (show ¬ (a + n > (s.s0.size : Int)) by have := HGT.out; omega)]; rfl, HW2.out⟩
      · have c3_ : w.cell? ⟨g, 3, none⟩ = some (.slice A3 (bytesOf s.s1).length c3) := (blk_cell HX.out 3).trans rfl
        by_cases hgt : a + n > s.s1.size
        · have HGT := Aside0.mk hgt
          have d_ : decide (a + n > ((bytesOf s.s1).length : Int)) = true := decide_eq_true (by rw [bytesOf_length]; exact hgt)
          clear hgt
          go_wp2_with (fail)
          go_ret2
          exact ⟨by rw [HS.out, if_neg HSD.out, seenOf1, if_pos (show a + n > (s.s1.size : Int) by have := HGT.out; omega)]; rfl, HW2.out⟩
        · have HGT := Aside0.mk hgt
          have d_ : decide (a + n > ((bytesOf s.s1).length : Int)) = false := decide_eq_false (by rw [bytesOf_length]; exact hgt)
          have hl := HC3.out.2.1
          have hz : s.s1.size = (bytesOf s.s1).length := (bytesOf_length _).symm
          have sl_ := cut_mid (P := Try.prog) 55 5 .i64 .i64 Try.underlying55 hi5 1 HI5.out A3 (bytesOf s.s1).length c3 a (a + n) (by omega) (by omega) (by omega) hl
          have hC : (Kd.int .u8).C w (if c3 = a.toNat then A3 else A3.map (·.add (a.toNat * 1))) _ _ := Kd.C_mid (k := Kd.int .u8) (lo := a.toNat) (hi := (a + n).toNat) HC3.out.2.2 (by omega) (by omega) hl
          have hlen : (((bytesOf s.s1).take (a + n).toNat).drop a.toNat).length = (a + n).toNat - a.toNat := by rw [List.length_drop, List.length_take]; omega
          rw [hlen] at hC
          have cv_ := Kd.C_string (P := Try.prog) (src := 55) (dst := 9) (e := 5) (c := c3 - a.toNat) Try.underlying55 Try.underlying5 Try.underlying9 (Kd.C_below hC (pw_below_drewN (Below.refl _ w) n2))
          have hst : strOfNums (((bytesOf s.s1).take (a + n).toNat).drop a.toNat) = s.s1.extract a.toNat (a + n).toNat := by
            rw [← nums_bytes (s.s1.extract a.toNat (a + n).toNat), bytesOf_extract, List.drop_take]
          rw [hst] at cv_
          generalize (if c3 = a.toNat then A3 else A3.map (·.add (a.toNat * 1))) = ad at sl_ cv_ hC
          clear hgt hz hC hlen hst hl
          go_wp2_with (fail)
          go_ret2
          exact ⟨by rw [HS.out, if_neg HSD.out, seenOf1, if_neg (show ¬ (a + n > (s.s1.size : Int)) by have := HGT.out; omega)]; rfl, HW2.out⟩
  · have hr' : rightB f a n = false := by simpa using hr
    have HRT := Aside0.mk hr'
    have hs : s.read f a n = (ByteArray.empty, 1) := by unfold St.read; rw [if_neg hr]
    have HS := Aside0.mk hs
    clear hr hr' hs
    go_enter Try.func123, Try.ntmps123
    go_wp2_with (go_at_call 164; (refine (disk_right.calls f a n false _ (by rw [right_is, HRT.out])).mono ?_); rintro e2 w2 ⟨rfl, hd2⟩; have HW2 := Aside0.mk hd2; clear hd2)
    go_ret2
    exact ⟨by rw [HS.out]; rfl, HW2.out⟩
end Go.Proofs.Ythaoaaboempajaa.Disk
