/- Lines of the texts that the claim PoolKept rests on, bundled: part 2; no conditions but those that each row names. -/
import Derived.Test.YthaoaaboempajabMPoolKept1
import Derived.Maps.OwnSet
import Derived.Maps.RangeWalk
import Derived.Maps.Ext
import Derived.LoopN
namespace Go.Proofs.Ythaoaaboempajab.Disk
open Go.RowKit Go.Proofs.YthaoaaboempajabW.PrintWords Go.Proofs.YthaoaaboempajabW.PrintLast Go.Proofs.YthaoaaboempajabW.PrintMore Go.Proofs.Ythaoaaboempajab.QDiskRuns
set_option linter.unusedVariables false
set_option linter.unusedSimpArgs false
def rightB (f a n : Int) : Bool := decide (0 ≤ f ∧ f < 2 ∧ 0 ≤ a ∧ 0 ≤ n ∧ a ≤ 67108864 ∧ n ≤ 67108864 - a)
theorem right_is (f a n : Int) : disk_right.f f a n = some (rightB f a n) := by
  unfold disk_right.f rightB
  by_cases h1 : f ≥ 0
  · rw [if_pos h1]
    by_cases h2 : f < 2
    · rw [if_pos h2]
      by_cases h3 : a ≥ 0
      · rw [if_pos h3]
        by_cases h4 : n ≥ 0
        · rw [if_pos h4]
          by_cases h5 : a ≤ 67108864
          · rw [if_pos h5, show wrap64 (67108864 - a) = 67108864 - a by unfold wrap64; omega]
            simp [h1, h2, h3, h4, h5]
          · rw [if_neg h5]; simp [h5]
        · rw [if_neg h4]; simp; omega
      · rw [if_neg h3]; simp; omega
    · rw [if_neg h2]; simp; omega
  · rw [if_neg h1]; simp; omega
theorem right_file {f a n : Int} (h : rightB f a n = true) : (f = 0 ∨ f = 1) ∧ 0 ≤ a ∧ 0 ≤ n ∧ a + n ≤ 67108864 := by
  unfold rightB at h
  have := of_decide_eq_true h
  omega
def seenOf (s : St) (f : Int) : ByteArray := if f = 0 then s.s0 else s.s1
theorem seenOf0 (s : St) : seenOf s 0 = s.s0 := if_pos rfl
theorem seenOf1 (s : St) : seenOf s 1 = s.s1 := if_neg (by decide)
theorem seenOf_size {s : St} {m : Nat} (h : s.ok m) (f : Int) : (seenOf s f).size ≤ maxFile := by unfold seenOf; split; exact h.s0; exact h.s1
def St.write (s : St) (f a : Int) (t : ByteArray) : Int × St := if rightB f a t.size = true then ((turn s.f s.d s.c).1, s.changed ⟨f, a.toNat, t, false⟩) else (1, s)
def St.cutTo (s : St) (f a : Int) : Int × St := if rightB f a 0 = true then ((turn s.f s.d s.c).1, s.changed ⟨f, a.toNat, ByteArray.empty, true⟩) else (1, s)
def St.size (s : St) (f : Int) : Int × Int := if rightB f 0 0 = true then (if s.d = true then (0, 2) else ((seenOf s f).size, 0)) else (0, 1)
def St.read (s : St) (f a n : Int) : ByteArray × Int := if rightB f a n = true then (if s.d = true then (ByteArray.empty, 2) else (if a + n > (seenOf s f).size then (ByteArray.empty, 3) else ((seenOf s f).extract a.toNat (a + n).toNat, 0))) else (ByteArray.empty, 1)
def St.new : St := ⟨ByteArray.empty, ByteArray.empty, [], -1, false, 0⟩
theorem St.new_ok : St.new.ok 0 := ⟨Nat.zero_le _, Nat.zero_le _, (fun _ h => by cases h), ⟨by decide, by decide⟩, ⟨by decide, by decide⟩, by decide⟩
theorem drawn_keep {w w' : World} {base g : Nat} {O : Nat → Prop} {s : St} (h : Drawn0 w w') (hD : DD w base g O s) : DD w' base g O s := DX.apart hD (S := fun _ => False) (Kept.of_below h.below _) (fun _ _ h => h)
theorem new.calls (w0 w : World) (hB : Below w0.heap.size w0 w) :
    Calls Try.prog 4 #[] w fun e w' => ∃ g, e = .returned (.pointer (some ⟨g, 0, none⟩)) ∧ w.heap.size ≤ g ∧ DD w' w0.heap.size g (fun k => w.heap.size ≤ k) St.new ∧ Below w.heap.size w w' := by
  have HB := Aside0.mk hB
  clear hB
  go_enter Try.func4, Try.ntmps4
  go_wp2_with ((with_reducible refine gate_dst (N := 2) rfl ?_); refine box_event ?hg (N := 2) ?hd (cs := dcells (.slice none 0 0) (.slice none 0 0) (.slice none 0 0) (.slice none 0 0) (.slice none 0 0) (-1) false 0) (t := 59) ?hr ?_; (case hd => rfl); (case hg => rfl); (case hr => first | (go_simp; done) | (go_simp; rfl)); intro gb hgb w1 hbox hb; have HX1 := Aside0.mk hbox; have HB0 := Aside0.mk hb; have HGB := Aside0.mk hgb; clear hgb hbox hb)
  go_ret
  refine ⟨gb, rfl, Nat.le_of_eq HGB.out.symm, ?_, HB0.out⟩
  refine ⟨fun k => 5, _, _, _, _, _, HX1.out, ?_, Nat.le_of_eq HGB.out.symm, rfl, ?_⟩
  · rw [HGB.out]; exact HB.out.size
  · exact ⟨Kd.R_nil _ _ _ _ _, Kd.R_nil _ _ _ _ _, Kd.R_nil _ _ _ _ _, Kd.R_nil _ _ _ _ _, Kd.R_nil _ _ _ _ _⟩
set_option maxHeartbeats 4000000 in
theorem write.calls (g : Nat) (O : Nat → Prop) (s : St) (f a : Int) (t : ByteArray) (m : Nat) (w0 w : World) (hB : Below w0.heap.size w0 w) (hD : DD w w0.heap.size g O s) (hok : s.ok m) (hm : m ≤ 1000000000) :
    Calls Try.prog 44 #[.pointer (some ⟨g, 0, none⟩), .int .i64 f, .int .i64 a, .string t] w fun e w' => e = .returned (.int .i64 (s.write f a t).1) ∧
      DD w' w0.heap.size g (fun k => O k ∨ w.heap.size ≤ k) (s.write f a t).2 ∧ Below w0.heap.size w0 w' ∧ Kept w w' O := by
  have HB := Aside0.mk hB
  have HD := Aside0.mk hD
  have HOK := Aside0.mk hok
  have HM := Aside0.mk hm
  clear hB hD hok hm
  by_cases hr : rightB f a t.size = true
  · obtain ⟨hf, ha, hn, han⟩ := right_file hr
    obtain ⟨a, rfl⟩ : ∃ b : Nat, a = (b : Int) := ⟨a.toNat, by omega⟩
    have HRT := Aside0.mk hr
    have HF := Aside0.mk hf
    have HAN := Aside0.mk han
    have hw : s.write f a t = ((turn s.f s.d s.c).1, s.changed ⟨f, a, t, false⟩) := by unfold St.write; rw [if_pos hr, Int.toNat_natCast]
    rw [hw]
    clear hr hf ha hn han hw
    go_enter Try.func44, Try.ntmps44
    go_upto_region 3 with (go_at_call 70; (refine (disk_right.calls f a t.size true _ (by rw [right_is, HRT.out])).mono ?_); rintro e2 w2 ⟨rfl, hd2⟩; have HW2 := Aside0.mk hd2; clear hd2)
    have HD2 := Aside0.mk (drawn_keep HW2.out HD.out)
    have HB2 := Aside0.mk (below_step HB.out HW2.out.below)
    have hok := HOK.out
    have h1 := HM.out
    have h2 := HAN.out
    have hcs := hok.c
    have hns := hok.n
    have hfs := hok.f
    have h3 := hok.s0
    have h4 := hok.s1
    have G1 := Aside0.mk (show -9223372036854775808 ≤ s.f ∧ s.f < 9223372036854775808 by omega)
    have G2 := Aside0.mk (show 0 ≤ s.c ∧ s.c < 9223372036854775807 by omega)
    have G3 := Aside0.mk (show a + t.size ≤ 140737488355000 by omega)
    have G4 := Aside0.mk (show s.s0.size ≤ 140737488355000 by unfold maxFile at h3; omega)
    have G5 := Aside0.mk (show s.s1.size ≤ 140737488355000 by unfold maxFile at h4; omega)
    have G6 := Aside0.mk (show s.ws.length ≤ 1000000000000 by omega)
    clear hok h1 h2 hcs hns hfs h3 h4
    have HS := Aside0.mk (show w.heap.size ≤ w2.heap.size from HW2.out.below.size)
    rcases HF.out with rfl | rfl
    · go_wp2_with (go_at_call 71; (refine (change.calls0 g O s a t false w0 _ HB2.out HD2.out G1.out G2.out G3.out G4.out G6.out).mono ?_); rintro e3 w3 ⟨rfl, hd3, hb3, hk3⟩; have HD3 := Aside0.mk hd3; have HB3 := Aside0.mk hb3; have HK3 := Aside0.mk hk3; clear hd3 hb3 hk3)
      go_ret
      exact ⟨rfl, DX.mono HD3.out (fun k hk => hk.imp id (Nat.le_trans HS.out)), HB3.out, (Kept.of_below HW2.out.below O).then_ HK3.out (fun k hk => .inl hk)⟩
    · go_wp2_with (go_at_call 71; (refine (change.calls1 g O s a t false w0 _ HB2.out HD2.out G1.out G2.out G3.out G5.out G6.out).mono ?_); rintro e3 w3 ⟨rfl, hd3, hb3, hk3⟩; have HD3 := Aside0.mk hd3; have HB3 := Aside0.mk hb3; have HK3 := Aside0.mk hk3; clear hd3 hb3 hk3)
      go_ret
      exact ⟨rfl, DX.mono HD3.out (fun k hk => hk.imp id (Nat.le_trans HS.out)), HB3.out, (Kept.of_below HW2.out.below O).then_ HK3.out (fun k hk => .inl hk)⟩
  · have hr' : rightB f a t.size = false := by simpa using hr
    have HRT := Aside0.mk hr'
    have hw : s.write f a t = (1, s) := by unfold St.write; rw [if_neg hr]
    rw [hw]
    clear hr hr' hw
    go_enter Try.func44, Try.ntmps44
    go_wp2_with (go_at_call 70; (refine (disk_right.calls f a t.size false _ (by rw [right_is, HRT.out])).mono ?_); rintro e2 w2 ⟨rfl, hd2⟩; have HW2 := Aside0.mk hd2; clear hd2)
    go_ret
    exact ⟨rfl, DX.mono (drawn_keep HW2.out HD.out) (fun k hk => .inl hk), below_step HB.out HW2.out.below, Kept.of_below HW2.out.below O⟩
set_option maxHeartbeats 4000000 in
theorem cut.calls (g : Nat) (O : Nat → Prop) (s : St) (f a : Int) (m : Nat) (w0 w : World) (hB : Below w0.heap.size w0 w) (hD : DD w w0.heap.size g O s) (hok : s.ok m) (hm : m ≤ 1000000000) :
    Calls Try.prog 66 #[.pointer (some ⟨g, 0, none⟩), .int .i64 f, .int .i64 a] w fun e w' => e = .returned (.int .i64 (s.cutTo f a).1) ∧
      DD w' w0.heap.size g (fun k => O k ∨ w.heap.size ≤ k) (s.cutTo f a).2 ∧ Below w0.heap.size w0 w' ∧ Kept w w' O := by
  have HB := Aside0.mk hB
  have HD := Aside0.mk hD
  have HOK := Aside0.mk hok
  have HM := Aside0.mk hm
  clear hB hD hok hm
  by_cases hr : rightB f a 0 = true
  · obtain ⟨hf, ha, hn, han⟩ := right_file hr
    obtain ⟨a, rfl⟩ : ∃ b : Nat, a = (b : Int) := ⟨a.toNat, by omega⟩
    have HRT := Aside0.mk hr
    have HF := Aside0.mk hf
    have HAN := Aside0.mk han
    have hw : s.cutTo f a = ((turn s.f s.d s.c).1, s.changed ⟨f, a, ByteArray.empty, true⟩) := by unfold St.cutTo; rw [if_pos hr, Int.toNat_natCast]
    rw [hw]
    clear hr hf ha hn han hw
    go_enter Try.func66, Try.ntmps66
    go_upto_region 3 with (go_at_call 70; (refine (disk_right.calls f a 0 true _ (by rw [right_is, HRT.out])).mono ?_); rintro e2 w2 ⟨rfl, hd2⟩; have HW2 := Aside0.mk hd2; clear hd2)
    have HD2 := Aside0.mk (drawn_keep HW2.out HD.out)
    have HB2 := Aside0.mk (below_step HB.out HW2.out.below)
    have hok := HOK.out
    have h1 := HM.out
    have h2 := HAN.out
    have hcs := hok.c
    have hns := hok.n
    have hfs := hok.f
    have h3 := hok.s0
    have h4 := hok.s1
    have G1 := Aside0.mk (show -9223372036854775808 ≤ s.f ∧ s.f < 9223372036854775808 by omega)
    have G2 := Aside0.mk (show 0 ≤ s.c ∧ s.c < 9223372036854775807 by omega)
    have G3 := Aside0.mk (show a + ByteArray.empty.size ≤ 140737488355000 by rw [show ByteArray.empty.size = 0 from rfl]; omega)
    have G4 := Aside0.mk (show s.s0.size ≤ 140737488355000 by unfold maxFile at h3; omega)
    have G5 := Aside0.mk (show s.s1.size ≤ 140737488355000 by unfold maxFile at h4; omega)
    have G6 := Aside0.mk (show s.ws.length ≤ 1000000000000 by omega)
    clear hok h1 h2 hcs hns hfs h3 h4
    have HS := Aside0.mk (show w.heap.size ≤ w2.heap.size from HW2.out.below.size)
    rcases HF.out with rfl | rfl
    · go_wp2_with (go_at_call 71; (refine (change.calls0 g O s a ByteArray.empty true w0 _ HB2.out HD2.out G1.out G2.out G3.out G4.out G6.out).mono ?_); rintro e3 w3 ⟨rfl, hd3, hb3, hk3⟩; have HD3 := Aside0.mk hd3; have HB3 := Aside0.mk hb3; have HK3 := Aside0.mk hk3; clear hd3 hb3 hk3)
      go_ret
      exact ⟨rfl, DX.mono HD3.out (fun k hk => hk.imp id (Nat.le_trans HS.out)), HB3.out, (Kept.of_below HW2.out.below O).then_ HK3.out (fun k hk => .inl hk)⟩
    · go_wp2_with (go_at_call 71; (refine (change.calls1 g O s a ByteArray.empty true w0 _ HB2.out HD2.out G1.out G2.out G3.out G5.out G6.out).mono ?_); rintro e3 w3 ⟨rfl, hd3, hb3, hk3⟩; have HD3 := Aside0.mk hd3; have HB3 := Aside0.mk hb3; have HK3 := Aside0.mk hk3; clear hd3 hb3 hk3)
      go_ret
      exact ⟨rfl, DX.mono HD3.out (fun k hk => hk.imp id (Nat.le_trans HS.out)), HB3.out, (Kept.of_below HW2.out.below O).then_ HK3.out (fun k hk => .inl hk)⟩
  · have hr' : rightB f a 0 = false := by simpa using hr
    have HRT := Aside0.mk hr'
    have hw : s.cutTo f a = (1, s) := by unfold St.cutTo; rw [if_neg hr]
    rw [hw]
    clear hr hr' hw
    go_enter Try.func66, Try.ntmps66
    go_wp2_with (go_at_call 70; (refine (disk_right.calls f a 0 false _ (by rw [right_is, HRT.out])).mono ?_); rintro e2 w2 ⟨rfl, hd2⟩; have HW2 := Aside0.mk hd2; clear hd2)
    go_ret
    exact ⟨rfl, DX.mono (drawn_keep HW2.out HD.out) (fun k hk => .inl hk), below_step HB.out HW2.out.below, Kept.of_below HW2.out.below O⟩
theorem size.calls (g : Nat) (O : Nat → Prop) (s : St) (f : Int) (w0 w : World) (hD : DD w w0.heap.size g O s) :
    Calls Try.prog 42 #[.pointer (some ⟨g, 0, none⟩), .int .i64 f] w fun e w' => e = .returned (.tuple #[.int .i64 (s.size f).1, .int .i64 (s.size f).2]) ∧ Drawn0 w w' := by
  obtain ⟨lab, x0, x1, x2, x3, x4, hb, hg, hO, hlb, hr⟩ := hD
  obtain ⟨A1, c1, e1⟩ := Kd.R_slice hr.r1
  subst e1
  obtain ⟨A3, c3, e3⟩ := Kd.R_slice hr.r3
  subst e3
  rw [bytesOf_length, bytesOf_length] at hb
  have HX := Aside0.mk hb
  clear hb hg hO hlb hr
  by_cases hr : rightB f 0 0 = true
  · obtain ⟨hf, -, -, -⟩ := right_file hr
    have HRT := Aside0.mk hr
    have HF := Aside0.mk hf
    have hs : s.size f = if s.d = true then (0, 2) else (((seenOf s f).size : Int), 0) := by unfold St.size; rw [if_pos hr]
    have HS := Aside0.mk hs
    clear hr hf hs
    go_enter Try.func42, Try.ntmps42
    go_upto_region 3 with (go_at_call 70; (refine (disk_right.calls f 0 0 true _ (by rw [right_is, HRT.out])).mono ?_); rintro e2 w2 ⟨rfl, hd2⟩; obtain ⟨n2, rfl⟩ := hd2.out; have HW2 := Aside0.mk hd2; clear hd2)
    have c6 : w.cell? ⟨g, 6, none⟩ = some (.bool s.d) := (blk_cell HX.out 6).trans rfl
    have c1 : w.cell? ⟨g, 1, none⟩ = some (.slice A1 s.s0.size c1) := (blk_cell HX.out 1).trans rfl
    have c3 : w.cell? ⟨g, 3, none⟩ = some (.slice A3 s.s1.size c3) := (blk_cell HX.out 3).trans rfl
    cases hd : s.d with
    | true =>
      rw [hd] at c6
      have HSD := Aside0.mk hd
      clear hd
      go_wp2_with (fail)
      go_ret2
      exact ⟨by rw [HS.out, if_pos HSD.out]; rfl, HW2.out⟩
    | false =>
      rw [hd] at c6
      have HSD := Aside0.mk (show ¬ s.d = true by rw [hd]; decide)
      clear hd
      rcases HF.out with rfl | rfl
      · go_wp2_with (fail)
        go_ret2
        exact ⟨by rw [HS.out, if_neg HSD.out, seenOf0]; rfl, HW2.out⟩
      · go_wp2_with (fail)
        go_ret2
        exact ⟨by rw [HS.out, if_neg HSD.out, seenOf1]; rfl, HW2.out⟩
  · have hr' : rightB f 0 0 = false := by simpa using hr
    have HRT := Aside0.mk hr'
    have hs : s.size f = (0, 1) := by unfold St.size; rw [if_neg hr]
    have HS := Aside0.mk hs
    clear hr hr' hs
    go_enter Try.func42, Try.ntmps42
    go_wp2_with (go_at_call 70; (refine (disk_right.calls f 0 0 false _ (by rw [right_is, HRT.out])).mono ?_); rintro e2 w2 ⟨rfl, hd2⟩; have HW2 := Aside0.mk hd2; clear hd2)
    go_ret2
    exact ⟨by rw [HS.out]; rfl, HW2.out⟩
theorem nums_bytes (s : ByteArray) : strOfNums (bytesOf s) = s := by
  have h : (strOfNums (bytesOf s)).data.toList = s.data.toList := by
    show ((bytesOf s).map fun n => UInt8.ofNat n.toNat) = s.data.toList
    rw [bytesOf, List.map_map]
    conv => rhs; rw [← List.map_id s.data.toList]
    apply List.map_congr_left
    intro x _
    show UInt8.ofNat ((x.toNat : Int)).toNat = x
    rw [Int.toNat_natCast]
    exact UInt8.ofNat_toNat
  have h3 : (strOfNums (bytesOf s)).data = s.data := Array.toList_inj.1 h
  cases s
  simp_all [strOfNums]
set_option maxHeartbeats 4000000 in
theorem read.calls (g : Nat) (O : Nat → Prop) (s : St) (f a n : Int) (w0 w : World) (hD : DD w w0.heap.size g O s) :
    Calls Try.prog 43 #[.pointer (some ⟨g, 0, none⟩), .int .i64 f, .int .i64 a, .int .i64 n] w fun e w' => e = .returned (.tuple #[.string (s.read f a n).1, .int .i64 (s.read f a n).2]) ∧ Drawn0 w w' := by
  obtain ⟨lab, x0, x1, x2, x3, x4, hb, hg, hO, hlb, hr⟩ := hD
  obtain ⟨A1, c1, e1⟩ := Kd.R_slice hr.r1
  subst e1
  obtain ⟨A3, c3, e3⟩ := Kd.R_slice hr.r3
  subst e3
  have HC1 := Aside0.mk (Kd.R_reads' hr.r1)
  have HC3 := Aside0.mk (Kd.R_reads' hr.r3)
  have HX := Aside0.mk hb
  clear hb hg hO hlb hr
  obtain ⟨i5, hi5⟩ : ∃ i, Try.prog.info? 5 = some i := Option.isSome_iff_exists.1 (by kernel_rfl)
  have HI5 := Aside0.mk (show i5.size = 1 by have h := QDiskRuns.info5; rw [hi5] at h; simp at h; exact h.2.1)
  by_cases hr : rightB f a n = true
  · obtain ⟨hf, ha, hn, han⟩ := right_file hr
    have HRT := Aside0.mk hr
    have HF := Aside0.mk hf
    have hs : s.read f a n = if s.d = true then (ByteArray.empty, 2) else (if a + n > (seenOf s f).size then (ByteArray.empty, 3) else ((seenOf s f).extract a.toNat (a + n).toNat, 0)) := by unfold St.read; rw [if_pos hr]
    have HS := Aside0.mk hs
    have HAN := Aside0.mk (And.intro ha (And.intro hn han))
    clear hr hf hs ha hn han
    go_enter Try.func43, Try.ntmps43
    go_upto_region 3 with (go_at_call 70; (refine (disk_right.calls f a n true _ (by rw [right_is, HRT.out])).mono ?_); rintro e2 w2 ⟨rfl, hd2⟩; obtain ⟨n2, rfl⟩ := hd2.out; have HW2 := Aside0.mk hd2; clear hd2)
    have c6 : w.cell? ⟨g, 6, none⟩ = some (.bool s.d) := (blk_cell HX.out 6).trans rfl
    cases hd : s.d with
    | true =>
      rw [hd] at c6
      have HSD := Aside0.mk hd
      clear hd
      go_wp2_with (fail)
      go_ret2
      exact ⟨by rw [HS.out, if_pos HSD.out]; rfl, HW2.out⟩
    | false =>
      rw [hd] at c6
      have HSD := Aside0.mk (show ¬ s.d = true by rw [hd]; decide)
      clear hd
      obtain ⟨ha, hn, han⟩ := HAN.out
      have w_ : IntKind.i64.wrap (a + n) = a + n := IntWalk.i64_in _ (by omega)
      rcases HF.out with rfl | rfl
      · have c1_ : w.cell? ⟨g, 1, none⟩ = some (.slice A1 (bytesOf s.s0).length c1) := (blk_cell HX.out 1).trans rfl
        by_cases hgt : a + n > s.s0.size
        · have HGT := Aside0.mk hgt
          have d_ : decide (a + n > ((bytesOf s.s0).length : Int)) = true := decide_eq_true (by rw [bytesOf_length]; exact hgt)
          clear hgt
          go_wp2_with (fail)
          go_ret2
          exact ⟨by rw [HS.out, if_neg HSD.out, seenOf0, if_pos (show a + n > (s.s0.size : Int) by have := HGT.out; omega)]; rfl, HW2.out⟩
        · have HGT := Aside0.mk hgt
          have d_ : decide (a + n > ((bytesOf s.s0).length : Int)) = false := decide_eq_false (by rw [bytesOf_length]; exact hgt)
          have hl := HC1.out.2.1
          have hz : s.s0.size = (bytesOf s.s0).length := (bytesOf_length _).symm
          have sl_ := cut_mid (P := Try.prog) 53 5 .i64 .i64 Try.underlying53 hi5 1 HI5.out A1 (bytesOf s.s0).length c1 a (a + n) (by omega) (by omega) (by omega) hl
          have hC : (Kd.int .u8).C w (if c1 = a.toNat then A1 else A1.map (·.add (a.toNat * 1))) _ _ := Kd.C_mid (k := Kd.int .u8) (lo := a.toNat) (hi := (a + n).toNat) HC1.out.2.2 (by omega) (by omega) hl
          have hlen : (((bytesOf s.s0).take (a + n).toNat).drop a.toNat).length = (a + n).toNat - a.toNat := by rw [List.length_drop, List.length_take]; omega
          rw [hlen] at hC
          have cv_ := Kd.C_string (P := Try.prog) (src := 53) (dst := 9) (e := 5) (c := c1 - a.toNat) Try.underlying53 Try.underlying5 Try.underlying9 (Kd.C_below hC (pw_below_drewN (Below.refl _ w) n2))
          have hst : strOfNums (((bytesOf s.s0).take (a + n).toNat).drop a.toNat) = s.s0.extract a.toNat (a + n).toNat := by
            rw [← nums_bytes (s.s0.extract a.toNat (a + n).toNat), bytesOf_extract, List.drop_take]
          rw [hst] at cv_
          generalize (if c1 = a.toNat then A1 else A1.map (·.add (a.toNat * 1))) = ad at sl_ cv_ hC
          clear hgt hz hC hlen hst hl
          go_wp2_with (fail)
          go_ret2
          exact ⟨by rw [HS.out, if_neg HSD.out, seenOf0, if_neg (show ¬ (a + n > (s.s0.size : Int)) by have := HGT.out; omega)]; rfl, HW2.out⟩
      · have c3_ : w.cell? ⟨g, 3, none⟩ = some (.slice A3 (bytesOf s.s1).length c3) := (blk_cell HX.out 3).trans rfl
        by_cases hgt : a + n > s.s1.size
        · have HGT := Aside0.mk hgt
          have d_ : decide (a + n > ((bytesOf s.s1).length : Int)) = true := decide_eq_true (by rw [bytesOf_length]; exact hgt)
          clear hgt
          go_wp2_with (fail)
          go_ret2
          exact ⟨by rw [HS.out, if_neg HSD.out, seenOf1, if_pos (show a + n > (s.s1.size : Int) by have := HGT.out; omega)]; rfl, HW2.out⟩
        · have HGT := Aside0.mk hgt
          have d_ : decide (a + n > ((bytesOf s.s1).length : Int)) = false := decide_eq_false (by rw [bytesOf_length]; exact hgt)
          have hl := HC3.out.2.1
          have hz : s.s1.size = (bytesOf s.s1).length := (bytesOf_length _).symm
          have sl_ := cut_mid (P := Try.prog) 53 5 .i64 .i64 Try.underlying53 hi5 1 HI5.out A3 (bytesOf s.s1).length c3 a (a + n) (by omega) (by omega) (by omega) hl
          have hC : (Kd.int .u8).C w (if c3 = a.toNat then A3 else A3.map (·.add (a.toNat * 1))) _ _ := Kd.C_mid (k := Kd.int .u8) (lo := a.toNat) (hi := (a + n).toNat) HC3.out.2.2 (by omega) (by omega) hl
          have hlen : (((bytesOf s.s1).take (a + n).toNat).drop a.toNat).length = (a + n).toNat - a.toNat := by rw [List.length_drop, List.length_take]; omega
          rw [hlen] at hC
          have cv_ := Kd.C_string (P := Try.prog) (src := 53) (dst := 9) (e := 5) (c := c3 - a.toNat) Try.underlying53 Try.underlying5 Try.underlying9 (Kd.C_below hC (pw_below_drewN (Below.refl _ w) n2))
          have hst : strOfNums (((bytesOf s.s1).take (a + n).toNat).drop a.toNat) = s.s1.extract a.toNat (a + n).toNat := by
            rw [← nums_bytes (s.s1.extract a.toNat (a + n).toNat), bytesOf_extract, List.drop_take]
          rw [hst] at cv_
          generalize (if c3 = a.toNat then A3 else A3.map (·.add (a.toNat * 1))) = ad at sl_ cv_ hC
          clear hgt hz hC hlen hst hl
          go_wp2_with (fail)
          go_ret2
          exact ⟨by rw [HS.out, if_neg HSD.out, seenOf1, if_neg (show ¬ (a + n > (s.s1.size : Int)) by have := HGT.out; omega)]; rfl, HW2.out⟩
  · have hr' : rightB f a n = false := by simpa using hr
    have HRT := Aside0.mk hr'
    have hs : s.read f a n = (ByteArray.empty, 1) := by unfold St.read; rw [if_neg hr]
    have HS := Aside0.mk hs
    clear hr hr' hs
    go_enter Try.func43, Try.ntmps43
    go_wp2_with (go_at_call 70; (refine (disk_right.calls f a n false _ (by rw [right_is, HRT.out])).mono ?_); rintro e2 w2 ⟨rfl, hd2⟩; have HW2 := Aside0.mk hd2; clear hd2)
    go_ret2
    exact ⟨by rw [HS.out]; rfl, HW2.out⟩
end Go.Proofs.Ythaoaaboempajab.Disk
namespace Go.Proofs.Ythaoaaboempajab.Log
open Go.RowKit Go.Proofs.Ythaoaaboempajab.QLogRuns Go.Proofs.Ythaoaaboempajab.QDiskRuns Go.Proofs.Ythaoaaboempajab.Disk Go.Proofs.YthaoaaboempajabW.PrintWords Go.Proofs.YthaoaaboempajabW.PrintLast Go.Proofs.YthaoaaboempajabE
set_option linter.unusedVariables false
set_option linter.unusedSimpArgs false
theorem wsucc (i j : Nat) (h : i + 1 = j) (hj : j ≤ 4611686018427387904) : wrap64 ((i : Int) + 1) = (j : Int) := by unfold wrap64; omega
def u8 (L : List UInt8) (i : Nat) : Nat := (L.getD i 0).toNat
def u32 (L : List UInt8) (i : Nat) : Nat := ((u8 L i * 256 + u8 L (i + 1)) * 256 + u8 L (i + 2)) * 256 + u8 L (i + 3)
theorem u8_lt (L : List UInt8) (i : Nat) : u8 L i < 256 := by unfold u8; exact UInt8.toNat_lt _
theorem u32_lt (L : List UInt8) (i : Nat) : u32 L i < 4294967296 := by
  have := u8_lt L i
  have := u8_lt L (i + 1)
  have := u8_lt L (i + 2)
  have := u8_lt L (i + 3)
  unfold u32
  omega
theorem bt_u8 (s : ByteArray) (i : Nat) (h : i < s.size) : bt s (i : Int) = (u8 s.data.toList i : Nat) := by
  have hl : i < s.data.toList.length := by rw [data_length]; exact h
  have e := bt_in (s := s) (X := s.data.toList.take i) (x := s.data.toList[i]) (Y := s.data.toList.drop (i + 1)) (by rw [← List.drop_eq_getElem_cons hl, List.take_append_drop])
  rw [List.length_take, Nat.min_eq_left (by omega)] at e
  rw [e]
  simp [u8, List.getD_eq_getElem?_getD, List.getElem?_eq_getElem hl]
theorem or24 (a b : Nat) (ha : a < 256) (hb : b < 16777216) : Go.bits .or .i64 ((a * 16777216 : Nat) : Int) (b : Int) = ((a * 16777216 + b : Nat) : Int) := by
  have := bits_join .i64 63 (by decide) (fun n h0 h1 => IntWalk.i64_in _ (by omega)) 24 ((a * 16777216 : Nat) : Int) (b : Int) (by omega) (by omega) (by omega) (by omega) (by omega) (by omega)
  rw [this]
  omega
theorem or16 (a b : Nat) (ha : a < 65536) (hb : b < 65536) : Go.bits .or .i64 ((a * 65536 : Nat) : Int) (b : Int) = ((a * 65536 + b : Nat) : Int) := by
  have := bits_join .i64 63 (by decide) (fun n h0 h1 => IntWalk.i64_in _ (by omega)) 16 ((a * 65536 : Nat) : Int) (b : Int) (by omega) (by omega) (by omega) (by omega) (by omega) (by omega)
  rw [this]
  omega
theorem or8 (a b : Nat) (ha : a < 16777216) (hb : b < 256) : Go.bits .or .i64 ((a * 256 : Nat) : Int) (b : Int) = ((a * 256 + b : Nat) : Int) := by
  have := bits_join .i64 63 (by decide) (fun n h0 h1 => IntWalk.i64_in _ (by omega)) 8 ((a * 256 : Nat) : Int) (b : Int) (by omega) (by omega) (by omega) (by omega) (by omega) (by omega)
  rw [this]
  omega
theorem join4 (a b c d : Nat) (h0 : a < 256) (h1 : b < 256) (h2 : c < 256) (h3 : d < 256) : Go.bits .or .i64 (Go.bits .or .i64 (Go.bits .or .i64 (wrap64 ((wrap64 (a : Int)) * 16777216)) (wrap64 ((wrap64 (b : Int)) * 65536))) (wrap64 ((wrap64 (c : Int)) * 256))) (wrap64 (d : Int)) = ((((a * 256 + b) * 256 + c) * 256 + d : Nat) : Int) := by
  have e0 : wrap64 (wrap64 (a : Int) * 16777216) = ((a * 16777216 : Nat) : Int) := by unfold wrap64; omega
  have e1 : wrap64 (wrap64 (b : Int) * 65536) = ((b * 65536 : Nat) : Int) := by unfold wrap64; omega
  have e2 : wrap64 (wrap64 (c : Int) * 256) = ((c * 256 : Nat) : Int) := by unfold wrap64; omega
  have e3 : wrap64 (d : Int) = (d : Int) := by unfold wrap64; omega
  rw [e0, e1, e2, e3, or24 a (b * 65536) h0 (by omega)]
  rw [show a * 16777216 + b * 65536 = (a * 256 + b) * 65536 by omega, or16 (a * 256 + b) (c * 256) (by omega) (by omega)]
  rw [show (a * 256 + b) * 65536 + c * 256 = ((a * 256 + b) * 256 + c) * 256 by omega, or8 _ d (by omega) h3]
theorem number_is (s : ByteArray) (h : 4 ≤ s.size) : wal_number.f s = some ((u32 s.data.toList 0 : Nat) : Int) := by
  have b0 := bt_u8 s 0 (by omega)
  have b1 := bt_u8 s 1 (by omega)
  have b2 := bt_u8 s 2 (by omega)
  have b3 := bt_u8 s 3 (by omega)
  have e := join4 _ _ _ _ (u8_lt s.data.toList 0) (u8_lt s.data.toList 1) (u8_lt s.data.toList 2) (u8_lt s.data.toList 3)
  rw [← b0, ← b1, ← b2, ← b3] at e
  unfold wal_number.f
  rw [if_pos (by omega), if_pos (by omega), if_pos (by omega), if_pos (by omega)]
  exact congrArg some e
def four (n : Nat) : List Int := [((n : Int) / 16777216) % 256, ((n : Int) / 65536) % 256, ((n : Int) / 256) % 256, (n : Int) % 256]
def fourB (n : Nat) : ByteArray := strOfNums (four n)
theorem four_is (n : Nat) : wal_four.f (n : Int) = some (fourB n) := rfl
theorem nums_size (xs : List Int) : (strOfNums xs).size = xs.length := by simp [strOfNums, ByteArray.size]
theorem size_four (n : Nat) : (fourB n).size = 4 := nums_size _
theorem data_nums (xs : List Int) : (strOfNums xs).data.toList = xs.map (fun n => UInt8.ofNat n.toNat) := rfl
theorem u8_mod (x : Nat) : (UInt8.ofNat ((x : Int) % 256).toNat).toNat = x % 256 := by
  rw [UInt8.toNat_ofNat', show ((x : Int) % 256).toNat = x % 256 by omega]
  exact Nat.mod_mod _ _
theorem u32_four (n : Nat) (h : n < 4294967296) (R : List UInt8) : u32 ((fourB n).data.toList ++ R) 0 = n := by
  have e1 : ((n : Int) / 16777216) = ((n / 16777216 : Nat) : Int) := by omega
  have e2 : ((n : Int) / 65536) = ((n / 65536 : Nat) : Int) := by omega
  have e3 : ((n : Int) / 256) = ((n / 256 : Nat) : Int) := by omega
  unfold fourB four
  rw [data_nums, e1, e2, e3]
  show ((_ * 256 + _) * 256 + _) * 256 + _ = n
  show (((UInt8.ofNat _).toNat * 256 + (UInt8.ofNat _).toNat) * 256 + (UInt8.ofNat _).toNat) * 256 + (UInt8.ofNat _).toNat = n
  rw [u8_mod, u8_mod, u8_mod, u8_mod]
  omega
theorem four_u32 (a b c d : UInt8) : (fourB (u32 [a, b, c, d] 0)).data.toList = [a, b, c, d] := by
  have ha := a.toNat_lt
  have hb := b.toNat_lt
  have hc := c.toNat_lt
  have hd := d.toNat_lt
  have e : u32 [a, b, c, d] 0 = ((a.toNat * 256 + b.toNat) * 256 + c.toNat) * 256 + d.toNat := rfl
  unfold fourB four
  rw [data_nums, e]
  have x1 : (((((a.toNat * 256 + b.toNat) * 256 + c.toNat) * 256 + d.toNat : Nat) : Int) / 16777216 % 256).toNat = a.toNat := by omega
  have x2 : (((((a.toNat * 256 + b.toNat) * 256 + c.toNat) * 256 + d.toNat : Nat) : Int) / 65536 % 256).toNat = b.toNat := by omega
  have x3 : (((((a.toNat * 256 + b.toNat) * 256 + c.toNat) * 256 + d.toNat : Nat) : Int) / 256 % 256).toNat = c.toNat := by omega
  have x4 : (((((a.toNat * 256 + b.toNat) * 256 + c.toNat) * 256 + d.toNat : Nat) : Int) % 256).toNat = d.toNat := by omega
  simp only [List.map_cons, List.map_nil]
  rw [x1, x2, x3, x4]
  simp
def twelve (n f p : Nat) : ByteArray := fourB n ++ fourB f ++ fourB p
def slotB (n f p : Nat) : ByteArray := twelve n f p ++ twelve n f p
theorem size_twelve (n f p : Nat) : (twelve n f p).size = 12 := by unfold twelve; rw [ByteArray.size_append, ByteArray.size_append, size_four, size_four, size_four]
theorem size_slot (n f p : Nat) : (slotB n f p).size = 24 := by unfold slotB; rw [ByteArray.size_append, size_twelve]
theorem slotText_is (n f p : Nat) : wal_slotText.f (n : Int) (f : Int) (p : Int) = some (slotB n f p) := by
  unfold wal_slotText.f
  rw [four_is, four_is, four_is]
  simp only [Option.bind_some]
  rw [if_pos (by rw [size_four, size_four]; decide), if_pos (by rw [ByteArray.size_append, size_four, size_four, size_four]; decide), if_pos (by rw [ByteArray.size_append, ByteArray.size_append, size_four, size_four, size_four]; decide)]
  rfl
theorem r_un : ∀ (R Q : List UInt8) (t : ByteArray) (n : Nat), t.data.toList = Q ++ R → n < 256 ^ Q.length → Q.length + R.length ≤ 4 → ∀ k, R.length < k → relstoreref_unbytes.l0 k t (n : Int) (Q.length : Int) = some ((R.foldl (fun n b => n * 256 + b.toNat) n : Nat) : Int)
  | [], Q, t, n, h, hn, hl => fun k hk => by
    obtain ⟨k, rfl⟩ : ∃ m, k = m + 1 := ⟨k - 1, by omega⟩
    have hq := size_in h
    rw [List.append_nil] at hq
    simp only [relstoreref_unbytes.l0]
    rw [if_neg (by omega)]
    rfl
  | b :: R, Q, t, n, h, hn, hl => fun k hk => by
    obtain ⟨k, rfl⟩ : ∃ m, k = m + 1 := ⟨k - 1, by omega⟩
    have hq := size_in h
    rw [List.length_append] at hq
    simp only [List.length_cons] at hl hq hk
    have hb := b.toNat_lt
    have hp : 256 ^ (Q ++ [b]).length = 256 ^ Q.length * 256 := by rw [List.length_append]; rfl
    have hm : 256 ^ Q.length ≤ 256 ^ 3 := Nat.pow_le_pow_right (by decide) (by omega)
    have hm3 : (256 : Nat) ^ 3 = 16777216 := rfl
    have ih := r_un R (Q ++ [b]) t (n * 256 + b.toNat) (by simpa using h) (by rw [hp]; omega) (by simp only [List.length_append, List.length_cons, List.length_nil]; omega) k (by omega)
    simp only [relstoreref_unbytes.l0]
    rw [if_pos (by omega), if_pos (by omega), bt_in h, IntWalk.u64_in (256 * (n : Int)) (by omega), IntWalk.u64_in (b.toNat : Int) (by omega), show (256 * (n : Int) + (b.toNat : Int)) = ((n * 256 + b.toNat : Nat) : Int) by omega, IntWalk.u64_in _ (by omega)]
    rw [wsucc Q.length (Q ++ [b]).length (by simp) (by simp; omega)]
    rw [ih]
    rfl
theorem unbytes_is (t : ByteArray) (h : t.size = 4) (k : Nat) (hk : 5 ≤ k) : relstoreref_unbytes.f k t = some ((u32 t.data.toList 0 : Nat) : Int) := by
  have hl : t.data.toList.length = 4 := by rw [data_length, h]
  obtain ⟨a, b, c, d, e⟩ : ∃ a b c d, t.data.toList = [a, b, c, d] := by
    match t.data.toList, hl with
    | [a, b, c, d], _ => exact ⟨a, b, c, d, rfl⟩
  have := r_un [a, b, c, d] [] t 0 e (by decide) (by simp) k (by simp; omega)
  refine Eq.trans this ?_
  rw [e]
  simp [u32, u8]
end Go.Proofs.Ythaoaaboempajab.Log
namespace Go.Proofs.Ythaoaaboempajab.Log
open Go.RowKit Go.Proofs.Ythaoaaboempajab.QLogRuns Go.Proofs.Ythaoaaboempajab.QDiskRuns Go.Proofs.Ythaoaaboempajab.Disk Go.Proofs.YthaoaaboempajabW.PrintWords Go.Proofs.YthaoaaboempajabW.PrintLast Go.Proofs.YthaoaaboempajabW.PrintMore
set_option linter.unusedVariables false
set_option linter.unusedSimpArgs false
def tn (t : ByteArray) (i : Nat) : Nat := u32 t.data.toList i
def slotOk (s t : ByteArray) : Prop := t.extract 0 12 = t.extract 12 24 ∧ 1 ≤ tn t 0 ∧ tn t 0 ≤ 3 ∧ (tn t 4 = 0 ∨ 64 + 1028 * tn t 4 ≤ s.size)
instance (s t : ByteArray) : Decidable (slotOk s t) := by unfold slotOk; infer_instance
def slotT (s : ByteArray) (k : Nat) : ByteArray := s.extract (16 + 24 * k) (40 + 24 * k)
def slotOfB (s : ByteArray) (k : Nat) : Option (Nat × Nat × Nat) := if s.size < 40 + 24 * k then none else if slotOk s (slotT s k) then some (tn (slotT s k) 0, tn (slotT s k) 4, tn (slotT s k) 8) else none
theorem size_extract (s : ByteArray) (a b : Nat) (h : b ≤ s.size) : (s.extract a b).size = b - a := by rw [ByteArray.size_extract]; omega
theorem tn_drop (t : ByteArray) (a b : Nat) (h : a + 4 ≤ b) (hb : b ≤ t.size) : u32 (t.extract a b).data.toList 0 = tn t a := by
  have hl : (t.extract a b).data.toList = (t.data.toList.drop a).take (b - a) := extract_list t a b
  have g : ∀ i, i < 4 → u8 (t.extract a b).data.toList (0 + i) = u8 t.data.toList (a + i) := by
    intro i hi
    unfold u8
    rw [hl, List.getD_eq_getElem?_getD, List.getD_eq_getElem?_getD, List.getElem?_take, if_pos (by omega), List.getElem?_drop, Nat.zero_add]
  unfold tn u32
  rw [show u8 (t.extract a b).data.toList 0 = u8 t.data.toList a from g 0 (by decide), show u8 (t.extract a b).data.toList (0 + 1) = u8 t.data.toList (a + 1) from g 1 (by decide), show u8 (t.extract a b).data.toList (0 + 2) = u8 t.data.toList (a + 2) from g 2 (by decide), show u8 (t.extract a b).data.toList (0 + 3) = u8 t.data.toList (a + 3) from g 3 (by decide)]
theorem list12 {L : List UInt8} (h : L.length = 12) : L = (fourB (u32 L 0)).data.toList ++ ((fourB (u32 L 4)).data.toList ++ (fourB (u32 L 8)).data.toList) := by
  match L, h with
  | [a, b, c, d, e, f, g, h, i, j, k, l], _ =>
    have e0 := four_u32 a b c d
    have e4 := four_u32 e f g h
    have e8 := four_u32 i j k l
    rw [show u32 [a, b, c, d, e, f, g, h, i, j, k, l] 0 = u32 [a, b, c, d] 0 from rfl, show u32 [a, b, c, d, e, f, g, h, i, j, k, l] 4 = u32 [e, f, g, h] 0 from rfl, show u32 [a, b, c, d, e, f, g, h, i, j, k, l] 8 = u32 [i, j, k, l] 0 from rfl, e0, e4, e8]
    rfl
theorem bytes_ext {a b : ByteArray} (h : a.data.toList = b.data.toList) : a = b := bytesOf_inj (by unfold bytesOf; rw [h])
theorem first12 (t : ByteArray) (h : t.size = 24) : t.extract 0 12 = twelve (tn t 0) (tn t 4) (tn t 8) := by
  apply bytes_ext
  have hl : (t.extract 0 12).data.toList.length = 12 := by rw [data_length, size_extract _ _ _ (by omega)]
  have e := list12 hl
  have g : ∀ a, a + 4 ≤ 12 → u32 (t.extract 0 12).data.toList a = tn t a := by
    intro a ha
    have h2 : (t.extract 0 12).data.toList = t.data.toList.take 12 := by rw [extract_list, List.drop_zero]
    have g2 : ∀ i, i < 4 → u8 (t.data.toList.take 12) (a + i) = u8 t.data.toList (a + i) := by
      intro i hi
      unfold u8
      rw [List.getD_eq_getElem?_getD, List.getD_eq_getElem?_getD, List.getElem?_take, if_pos (by omega)]
    rw [h2]
    unfold tn u32
    rw [show u8 (t.data.toList.take 12) a = u8 t.data.toList a from g2 0 (by decide), g2 1 (by decide), g2 2 (by decide), g2 3 (by decide)]
  rw [g 0 (by decide), g 4 (by decide), g 8 (by decide)] at e
  rw [e]
  unfold twelve
  rw [ByteArray.data_append, Array.toList_append, ByteArray.data_append, Array.toList_append, List.append_assoc]
theorem halves (t : ByteArray) (h : t.size = 24) : t = t.extract 0 12 ++ t.extract 12 24 := by
  apply bytes_ext
  rw [ByteArray.data_append, Array.toList_append, extract_list, extract_list, List.drop_zero, List.take_of_length_le (l := List.drop 12 _) (by rw [List.length_drop, data_length]; omega)]
  exact (List.take_append_drop 12 _).symm
theorem slot_text (t : ByteArray) (h : t.size = 24) : t = slotB (tn t 0) (tn t 4) (tn t 8) ↔ t.extract 0 12 = t.extract 12 24 := by
  constructor
  · intro e
    have e1 := first12 t h
    have e2 : t.extract 12 24 = twelve (tn t 0) (tn t 4) (tn t 8) := by
      apply bytes_ext
      have hh : t.data.toList = (twelve (tn t 0) (tn t 4) (tn t 8)).data.toList ++ (twelve (tn t 0) (tn t 4) (tn t 8)).data.toList := by
        conv => lhs; rw [e]
        unfold slotB
        rw [ByteArray.data_append, Array.toList_append]
      have hz : (twelve (tn t 0) (tn t 4) (tn t 8)).data.toList.length = 12 := by rw [data_length, size_twelve]
      rw [extract_list, hh]
      generalize (twelve (tn t 0) (tn t 4) (tn t 8)).data.toList = L at hz ⊢
      rw [List.drop_append, hz, Nat.sub_self, List.drop_zero, List.drop_of_length_le (by omega), List.nil_append, List.take_of_length_le (by omega)]
    rw [e1, e2]
  · intro e
    have e1 := first12 t h
    calc t = t.extract 0 12 ++ t.extract 12 24 := halves t h
      _ = slotB (tn t 0) (tn t 4) (tn t 8) := by rw [← e, e1]; rfl
set_option maxHeartbeats 4000000 in
set_option maxRecDepth 100000 in
theorem slotAt.calls0 (s : ByteArray) (w : World) (hs : s.size ≤ 67108864) :
    Calls Try.prog 73 #[.string s, .int .i64 0] w fun e w' => ∃ (n f p : Nat) (ok : Bool), e = .returned (.tuple #[.int .i64 (n : Int), .int .i64 (f : Int), .int .i64 (p : Int), .bool ok]) ∧ slotOfB s 0 = (if ok = true then some (n, f, p) else none) ∧ Below w.heap.size w w' := by
  by_cases hl : s.size < 40
  · have HS := Aside0.mk (show slotOfB s 0 = none by unfold slotOfB; rw [if_pos (by omega)])
    have l_ : (s.size : Int) < 40 := by omega
    have l2_ : decide ((s.size : Int) < 40) = true := decide_eq_true l_
    clear hl hs
    go_enter Try.func73, Try.ntmps73
    go_wp2_with (fail)
    refine bodyPost_ret (results_list (rs := [.tmp 4, .tmp 5, .tmp 6, .tmp 7]) rfl (by simp) (.tmp (.tmp (.tmp (.tmp .nil))))) rfl ?_
    exact ⟨0, 0, 0, false, rfl, by rw [HS.out]; rfl, Below.refl _ _⟩
  · have l_ : ¬ (s.size : Int) < 40 := by omega
    have l2_ : decide ((s.size : Int) < 40) = false := decide_eq_false l_
    have l3_ : (40 : Int) ≤ (s.size : Int) := by omega
    have HL := Aside0.mk hl
    have HZ := Aside0.mk hs
    have HT := Aside0.mk (show (s.extract 16 40).size = 24 from size_extract _ _ _ (by omega))
    clear hl hs
    obtain ⟨t, ht⟩ : ∃ t, t = s.extract 16 40 := ⟨_, rfl⟩
    have HTT := Aside0.mk ht
    rw [← ht] at HT
    have t24 := HT.out
    obtain ⟨n, hn⟩ : ∃ n : Int, n = ((tn t 0 : Nat) : Int) := ⟨_, rfl⟩
    obtain ⟨f, hf⟩ : ∃ f : Int, f = ((tn t 4 : Nat) : Int) := ⟨_, rfl⟩
    obtain ⟨p, hp⟩ : ∃ p : Int, p = ((tn t 8 : Nat) : Int) := ⟨_, rfl⟩
    obtain ⟨sl, hsl⟩ : ∃ sl, sl = slotB (tn t 0) (tn t 4) (tn t 8) := ⟨_, rfl⟩
    have N0 := Aside0.mk (show wal_number.f t = some n by rw [hn]; exact number_is t (by omega))
    have N4 := Aside0.mk (show wal_number.f (t.extract 4 24) = some f by rw [hf, number_is _ (by rw [size_extract _ _ _ (by omega)]; omega), tn_drop t 4 24 (by omega) (by omega)])
    have N8 := Aside0.mk (show wal_number.f (t.extract 8 24) = some p by rw [hp, number_is _ (by rw [size_extract _ _ _ (by omega)]; omega), tn_drop t 8 24 (by omega) (by omega)])
    have HST := Aside0.mk (show wal_slotText.f n f p = some sl by rw [hn, hf, hp, hsl]; exact slotText_is _ _ _)
    have HSL := Aside0.mk (show t.toList = sl.toList ↔ t.extract 0 12 = t.extract 12 24 by rw [← slot_text t t24, ← hsl, Lib.toList_data, Lib.toList_data]; exact ⟨bytes_ext, fun h => by rw [h]⟩)
    have HOK := Aside0.mk (show slotOfB s 0 = if slotOk s t then some (tn t 0, tn t 4, tn t 8) else none by unfold slotOfB slotT; rw [if_neg (by have := HL.out; omega), HTT.out])
    have HN := Aside0.mk hn
    have HF := Aside0.mk hf
    have HP := Aside0.mk hp
    have hf4 := u32_lt t.data.toList 4
    have hf4' : (tn t 4 : Int) < 4294967296 := by unfold tn; omega
    have w1_ : IntKind.i64.wrap (f * 1028) = f * 1028 := IntWalk.i64_in _ (by omega)
    have w2_ : IntKind.i64.wrap (64 + f * 1028) = 64 + f * 1028 := IntWalk.i64_in _ (by omega)
    have hs4 := HTT.out.symm
    clear hn hf hp hsl hf4 hf4' ht
    go_enter Try.func73, Try.ntmps73
    go_upto_region 5 with (fail)
    try simp only [hs4]
    clear hs4
    go_quiet (first
      | (go_at_call 48; (with_reducible refine (wal_number.calls t n _ N0.out).mono ?_); rintro e w' ⟨rfl, ⟨nd, rfl⟩⟩; exact ⟨rfl, _, World.drewN_drewN _ _ _⟩)
      | (go_at_call 48; (with_reducible refine (wal_number.calls (t.extract 4 24) f _ N4.out).mono ?_); rintro e w' ⟨rfl, ⟨nd, rfl⟩⟩; exact ⟨rfl, _, World.drewN_drewN _ _ _⟩)
      | (go_at_call 48; (with_reducible refine (wal_number.calls (t.extract 8 24) p _ N8.out).mono ?_); rintro e w' ⟨rfl, ⟨nd, rfl⟩⟩; exact ⟨rfl, _, World.drewN_drewN _ _ _⟩))
    go_upto_region 6 with (fail)
    by_cases hA : t.toList = sl.toList
    · have qA := beq_iff_eq.mpr hA
      have HA := Aside0.mk (HSL.out.1 hA)
      clear hA
      by_cases hB : 1 ≤ n
      · have qB : decide (1 ≤ n) = true := decide_eq_true hB
        have HB := Aside0.mk hB
        clear hB
        by_cases hC : n ≤ 3
        · have qC : decide (n ≤ 3) = true := decide_eq_true hC
          have HC := Aside0.mk hC
          clear hC
          by_cases hD : f = 0
          · have qD : (f == 0) = true := by simp [hD]
            have HD := Aside0.mk hD
            clear hD
            go_wp2_with (go_at_call 77; (with_reducible refine (wal_slotText.calls n f p sl _ HST.out).mono ?_); rintro e3 w3 ⟨rfl, hd⟩; have HB3 := Aside0.mk hd; clear hd)
            refine bodyPost_ret (results_list (rs := [.tmp 4, .tmp 5, .tmp 6, .tmp 7]) rfl (by simp) (.tmp (.tmp (.tmp (.tmp .nil))))) rfl ?_
            exact ⟨tn t 0, tn t 4, tn t 8, true, by rw [← HN.out, ← HF.out, ← HP.out]; rfl, by rw [HOK.out]; rw [if_pos (show slotOk s t from ⟨HA.out, by have := HB.out; have := HN.out; omega, by have := HC.out; have := HN.out; omega, .inl (by have := HD.out; have := HF.out; omega)⟩), if_pos rfl], below_step (pw_below_drewN (Below.refl _ w) nq) HB3.out⟩
          · have qD : (f == 0) = false := beq_false hD
            have HD := Aside0.mk hD
            clear hD
            by_cases hE : 64 + f * 1028 ≤ (s.size : Int)
            · have qE : decide (64 + f * 1028 ≤ (s.size : Int)) = true := decide_eq_true hE
              have HE := Aside0.mk hE
              clear hE
              go_wp2_with (go_at_call 77; (with_reducible refine (wal_slotText.calls n f p sl _ HST.out).mono ?_); rintro e3 w3 ⟨rfl, hd⟩; have HB3 := Aside0.mk hd; clear hd)
              refine bodyPost_ret (results_list (rs := [.tmp 4, .tmp 5, .tmp 6, .tmp 7]) rfl (by simp) (.tmp (.tmp (.tmp (.tmp .nil))))) rfl ?_
              exact ⟨tn t 0, tn t 4, tn t 8, true, by rw [← HN.out, ← HF.out, ← HP.out]; rfl, by rw [HOK.out]; rw [if_pos (show slotOk s t from ⟨HA.out, by have := HB.out; have := HN.out; omega, by have := HC.out; have := HN.out; omega, .inr (by have := HE.out; have := HF.out; omega)⟩), if_pos rfl], below_step (pw_below_drewN (Below.refl _ w) nq) HB3.out⟩
            · have qE : decide (64 + f * 1028 ≤ (s.size : Int)) = false := decide_eq_false hE
              have HE := Aside0.mk hE
              clear hE
              go_wp2_with (go_at_call 77; (with_reducible refine (wal_slotText.calls n f p sl _ HST.out).mono ?_); rintro e3 w3 ⟨rfl, hd⟩; have HB3 := Aside0.mk hd; clear hd)
              refine bodyPost_ret (results_list (rs := [.tmp 4, .tmp 5, .tmp 6, .tmp 7]) rfl (by simp) (.tmp (.tmp (.tmp (.tmp .nil))))) rfl ?_
              exact ⟨tn t 0, tn t 4, tn t 8, false, by rw [← HN.out, ← HF.out, ← HP.out]; rfl, by rw [HOK.out]; rw [if_neg (show ¬ slotOk s t from fun h => h.2.2.2.elim (fun h => HD.out (by have := HF.out; omega)) (fun h => by have h1 := HE.out; have := HF.out; omega)), if_neg (by decide)], below_step (pw_below_drewN (Below.refl _ w) nq) HB3.out⟩
        · have qC : decide (n ≤ 3) = false := decide_eq_false hC
          have HC := Aside0.mk hC
          clear hC
          go_wp2_with (go_at_call 77; (with_reducible refine (wal_slotText.calls n f p sl _ HST.out).mono ?_); rintro e3 w3 ⟨rfl, hd⟩; have HB3 := Aside0.mk hd; clear hd)
          refine bodyPost_ret (results_list (rs := [.tmp 4, .tmp 5, .tmp 6, .tmp 7]) rfl (by simp) (.tmp (.tmp (.tmp (.tmp .nil))))) rfl ?_
          exact ⟨tn t 0, tn t 4, tn t 8, false, by rw [← HN.out, ← HF.out, ← HP.out]; rfl, by rw [HOK.out]; rw [if_neg (show ¬ slotOk s t from fun h => by have h1 := HC.out; have := h.2.2.1; have := HN.out; omega), if_neg (by decide)], below_step (pw_below_drewN (Below.refl _ w) nq) HB3.out⟩
      · have qB : decide (1 ≤ n) = false := decide_eq_false hB
        have HB := Aside0.mk hB
        clear hB
        go_wp2_with (go_at_call 77; (with_reducible refine (wal_slotText.calls n f p sl _ HST.out).mono ?_); rintro e3 w3 ⟨rfl, hd⟩; have HB3 := Aside0.mk hd; clear hd)
        refine bodyPost_ret (results_list (rs := [.tmp 4, .tmp 5, .tmp 6, .tmp 7]) rfl (by simp) (.tmp (.tmp (.tmp (.tmp .nil))))) rfl ?_
        exact ⟨tn t 0, tn t 4, tn t 8, false, by rw [← HN.out, ← HF.out, ← HP.out]; rfl, by rw [HOK.out]; rw [if_neg (show ¬ slotOk s t from fun h => by have h1 := HB.out; have := h.2.1; have := HN.out; omega), if_neg (by decide)], below_step (pw_below_drewN (Below.refl _ w) nq) HB3.out⟩
    · have qA : (t.toList == sl.toList) = false := beq_eq_false_iff_ne.mpr hA
      have HA := Aside0.mk hA
      clear hA
      go_wp2_with (go_at_call 77; (with_reducible refine (wal_slotText.calls n f p sl _ HST.out).mono ?_); rintro e3 w3 ⟨rfl, hd⟩; have HB3 := Aside0.mk hd; clear hd)
      refine bodyPost_ret (results_list (rs := [.tmp 4, .tmp 5, .tmp 6, .tmp 7]) rfl (by simp) (.tmp (.tmp (.tmp (.tmp .nil))))) rfl ?_
      exact ⟨tn t 0, tn t 4, tn t 8, false, by rw [← HN.out, ← HF.out, ← HP.out]; rfl, by rw [HOK.out]; rw [if_neg (show ¬ slotOk s t from fun h => HA.out (HSL.out.2 h.1)), if_neg (by decide)], below_step (pw_below_drewN (Below.refl _ w) nq) HB3.out⟩
set_option maxHeartbeats 4000000 in
set_option maxRecDepth 100000 in
theorem slotAt.calls1 (s : ByteArray) (w : World) (hs : s.size ≤ 67108864) :
    Calls Try.prog 73 #[.string s, .int .i64 1] w fun e w' => ∃ (n f p : Nat) (ok : Bool), e = .returned (.tuple #[.int .i64 (n : Int), .int .i64 (f : Int), .int .i64 (p : Int), .bool ok]) ∧ slotOfB s 1 = (if ok = true then some (n, f, p) else none) ∧ Below w.heap.size w w' := by
  by_cases hl : s.size < 64
  · have HS := Aside0.mk (show slotOfB s 1 = none by unfold slotOfB; rw [if_pos (by omega)])
    have l_ : (s.size : Int) < 64 := by omega
    have l2_ : decide ((s.size : Int) < 64) = true := decide_eq_true l_
    clear hl hs
    go_enter Try.func73, Try.ntmps73
    go_wp2_with (fail)
    refine bodyPost_ret (results_list (rs := [.tmp 4, .tmp 5, .tmp 6, .tmp 7]) rfl (by simp) (.tmp (.tmp (.tmp (.tmp .nil))))) rfl ?_
    exact ⟨0, 0, 0, false, rfl, by rw [HS.out]; rfl, Below.refl _ _⟩
  · have l_ : ¬ (s.size : Int) < 64 := by omega
    have l2_ : decide ((s.size : Int) < 64) = false := decide_eq_false l_
    have l3_ : (64 : Int) ≤ (s.size : Int) := by omega
    have HL := Aside0.mk hl
    have HZ := Aside0.mk hs
    have HT := Aside0.mk (show (s.extract 40 64).size = 24 from size_extract _ _ _ (by omega))
    clear hl hs
    obtain ⟨t, ht⟩ : ∃ t, t = s.extract 40 64 := ⟨_, rfl⟩
    have HTT := Aside0.mk ht
    rw [← ht] at HT
    have t24 := HT.out
    obtain ⟨n, hn⟩ : ∃ n : Int, n = ((tn t 0 : Nat) : Int) := ⟨_, rfl⟩
    obtain ⟨f, hf⟩ : ∃ f : Int, f = ((tn t 4 : Nat) : Int) := ⟨_, rfl⟩
    obtain ⟨p, hp⟩ : ∃ p : Int, p = ((tn t 8 : Nat) : Int) := ⟨_, rfl⟩
    obtain ⟨sl, hsl⟩ : ∃ sl, sl = slotB (tn t 0) (tn t 4) (tn t 8) := ⟨_, rfl⟩
    have N0 := Aside0.mk (show wal_number.f t = some n by rw [hn]; exact number_is t (by omega))
    have N4 := Aside0.mk (show wal_number.f (t.extract 4 24) = some f by rw [hf, number_is _ (by rw [size_extract _ _ _ (by omega)]; omega), tn_drop t 4 24 (by omega) (by omega)])
    have N8 := Aside0.mk (show wal_number.f (t.extract 8 24) = some p by rw [hp, number_is _ (by rw [size_extract _ _ _ (by omega)]; omega), tn_drop t 8 24 (by omega) (by omega)])
    have HST := Aside0.mk (show wal_slotText.f n f p = some sl by rw [hn, hf, hp, hsl]; exact slotText_is _ _ _)
    have HSL := Aside0.mk (show t.toList = sl.toList ↔ t.extract 0 12 = t.extract 12 24 by rw [← slot_text t t24, ← hsl, Lib.toList_data, Lib.toList_data]; exact ⟨bytes_ext, fun h => by rw [h]⟩)
    have HOK := Aside0.mk (show slotOfB s 1 = if slotOk s t then some (tn t 0, tn t 4, tn t 8) else none by unfold slotOfB slotT; rw [if_neg (by have := HL.out; omega), HTT.out])
    have HN := Aside0.mk hn
    have HF := Aside0.mk hf
    have HP := Aside0.mk hp
    have hf4 := u32_lt t.data.toList 4
    have hf4' : (tn t 4 : Int) < 4294967296 := by unfold tn; omega
    have w1_ : IntKind.i64.wrap (f * 1028) = f * 1028 := IntWalk.i64_in _ (by omega)
    have w2_ : IntKind.i64.wrap (64 + f * 1028) = 64 + f * 1028 := IntWalk.i64_in _ (by omega)
    have hs4 := HTT.out.symm
    clear hn hf hp hsl hf4 hf4' ht
    go_enter Try.func73, Try.ntmps73
    go_upto_region 5 with (fail)
    try simp only [hs4]
    clear hs4
    go_quiet (first
      | (go_at_call 48; (with_reducible refine (wal_number.calls t n _ N0.out).mono ?_); rintro e w' ⟨rfl, ⟨nd, rfl⟩⟩; exact ⟨rfl, _, World.drewN_drewN _ _ _⟩)
      | (go_at_call 48; (with_reducible refine (wal_number.calls (t.extract 4 24) f _ N4.out).mono ?_); rintro e w' ⟨rfl, ⟨nd, rfl⟩⟩; exact ⟨rfl, _, World.drewN_drewN _ _ _⟩)
      | (go_at_call 48; (with_reducible refine (wal_number.calls (t.extract 8 24) p _ N8.out).mono ?_); rintro e w' ⟨rfl, ⟨nd, rfl⟩⟩; exact ⟨rfl, _, World.drewN_drewN _ _ _⟩))
    go_upto_region 6 with (fail)
    by_cases hA : t.toList = sl.toList
    · have qA := beq_iff_eq.mpr hA
      have HA := Aside0.mk (HSL.out.1 hA)
      clear hA
      by_cases hB : 1 ≤ n
      · have qB : decide (1 ≤ n) = true := decide_eq_true hB
        have HB := Aside0.mk hB
        clear hB
        by_cases hC : n ≤ 3
        · have qC : decide (n ≤ 3) = true := decide_eq_true hC
          have HC := Aside0.mk hC
          clear hC
          by_cases hD : f = 0
          · have qD : (f == 0) = true := by simp [hD]
            have HD := Aside0.mk hD
            clear hD
            go_wp2_with (go_at_call 77; (with_reducible refine (wal_slotText.calls n f p sl _ HST.out).mono ?_); rintro e3 w3 ⟨rfl, hd⟩; have HB3 := Aside0.mk hd; clear hd)
            refine bodyPost_ret (results_list (rs := [.tmp 4, .tmp 5, .tmp 6, .tmp 7]) rfl (by simp) (.tmp (.tmp (.tmp (.tmp .nil))))) rfl ?_
            exact ⟨tn t 0, tn t 4, tn t 8, true, by rw [← HN.out, ← HF.out, ← HP.out]; rfl, by rw [HOK.out]; rw [if_pos (show slotOk s t from ⟨HA.out, by have := HB.out; have := HN.out; omega, by have := HC.out; have := HN.out; omega, .inl (by have := HD.out; have := HF.out; omega)⟩), if_pos rfl], below_step (pw_below_drewN (Below.refl _ w) nq) HB3.out⟩
          · have qD : (f == 0) = false := beq_false hD
            have HD := Aside0.mk hD
            clear hD
            by_cases hE : 64 + f * 1028 ≤ (s.size : Int)
            · have qE : decide (64 + f * 1028 ≤ (s.size : Int)) = true := decide_eq_true hE
              have HE := Aside0.mk hE
              clear hE
              go_wp2_with (go_at_call 77; (with_reducible refine (wal_slotText.calls n f p sl _ HST.out).mono ?_); rintro e3 w3 ⟨rfl, hd⟩; have HB3 := Aside0.mk hd; clear hd)
              refine bodyPost_ret (results_list (rs := [.tmp 4, .tmp 5, .tmp 6, .tmp 7]) rfl (by simp) (.tmp (.tmp (.tmp (.tmp .nil))))) rfl ?_
              exact ⟨tn t 0, tn t 4, tn t 8, true, by rw [← HN.out, ← HF.out, ← HP.out]; rfl, by rw [HOK.out]; rw [if_pos (show slotOk s t from ⟨HA.out, by have := HB.out; have := HN.out; omega, by have := HC.out; have := HN.out; omega, .inr (by have := HE.out; have := HF.out; omega)⟩), if_pos rfl], below_step (pw_below_drewN (Below.refl _ w) nq) HB3.out⟩
            · have qE : decide (64 + f * 1028 ≤ (s.size : Int)) = false := decide_eq_false hE
              have HE := Aside0.mk hE
              clear hE
              go_wp2_with (go_at_call 77; (with_reducible refine (wal_slotText.calls n f p sl _ HST.out).mono ?_); rintro e3 w3 ⟨rfl, hd⟩; have HB3 := Aside0.mk hd; clear hd)
              refine bodyPost_ret (results_list (rs := [.tmp 4, .tmp 5, .tmp 6, .tmp 7]) rfl (by simp) (.tmp (.tmp (.tmp (.tmp .nil))))) rfl ?_
              exact ⟨tn t 0, tn t 4, tn t 8, false, by rw [← HN.out, ← HF.out, ← HP.out]; rfl, by rw [HOK.out]; rw [if_neg (show ¬ slotOk s t from fun h => h.2.2.2.elim (fun h => HD.out (by have := HF.out; omega)) (fun h => by have h1 := HE.out; have := HF.out; omega)), if_neg (by decide)], below_step (pw_below_drewN (Below.refl _ w) nq) HB3.out⟩
        · have qC : decide (n ≤ 3) = false := decide_eq_false hC
          have HC := Aside0.mk hC
          clear hC
          go_wp2_with (go_at_call 77; (with_reducible refine (wal_slotText.calls n f p sl _ HST.out).mono ?_); rintro e3 w3 ⟨rfl, hd⟩; have HB3 := Aside0.mk hd; clear hd)
          refine bodyPost_ret (results_list (rs := [.tmp 4, .tmp 5, .tmp 6, .tmp 7]) rfl (by simp) (.tmp (.tmp (.tmp (.tmp .nil))))) rfl ?_
          exact ⟨tn t 0, tn t 4, tn t 8, false, by rw [← HN.out, ← HF.out, ← HP.out]; rfl, by rw [HOK.out]; rw [if_neg (show ¬ slotOk s t from fun h => by have h1 := HC.out; have := h.2.2.1; have := HN.out; omega), if_neg (by decide)], below_step (pw_below_drewN (Below.refl _ w) nq) HB3.out⟩
      · have qB : decide (1 ≤ n) = false := decide_eq_false hB
        have HB := Aside0.mk hB
        clear hB
        go_wp2_with (go_at_call 77; (with_reducible refine (wal_slotText.calls n f p sl _ HST.out).mono ?_); rintro e3 w3 ⟨rfl, hd⟩; have HB3 := Aside0.mk hd; clear hd)
        refine bodyPost_ret (results_list (rs := [.tmp 4, .tmp 5, .tmp 6, .tmp 7]) rfl (by simp) (.tmp (.tmp (.tmp (.tmp .nil))))) rfl ?_
        exact ⟨tn t 0, tn t 4, tn t 8, false, by rw [← HN.out, ← HF.out, ← HP.out]; rfl, by rw [HOK.out]; rw [if_neg (show ¬ slotOk s t from fun h => by have h1 := HB.out; have := h.2.1; have := HN.out; omega), if_neg (by decide)], below_step (pw_below_drewN (Below.refl _ w) nq) HB3.out⟩
    · have qA : (t.toList == sl.toList) = false := beq_eq_false_iff_ne.mpr hA
      have HA := Aside0.mk hA
      clear hA
      go_wp2_with (go_at_call 77; (with_reducible refine (wal_slotText.calls n f p sl _ HST.out).mono ?_); rintro e3 w3 ⟨rfl, hd⟩; have HB3 := Aside0.mk hd; clear hd)
      refine bodyPost_ret (results_list (rs := [.tmp 4, .tmp 5, .tmp 6, .tmp 7]) rfl (by simp) (.tmp (.tmp (.tmp (.tmp .nil))))) rfl ?_
      exact ⟨tn t 0, tn t 4, tn t 8, false, by rw [← HN.out, ← HF.out, ← HP.out]; rfl, by rw [HOK.out]; rw [if_neg (show ¬ slotOk s t from fun h => HA.out (HSL.out.2 h.1)), if_neg (by decide)], below_step (pw_below_drewN (Below.refl _ w) nq) HB3.out⟩
def slot3 (s : ByteArray) (k : Nat) : Nat × Nat × Nat := match slotOfB s k with
  | some x => x
  | none => (0, 0, 0)
theorem slot3_some {s : ByteArray} {k : Nat} {x : Nat × Nat × Nat} (h : slotOfB s k = some x) : slot3 s k = x := by unfold slot3; rw [h]
theorem slot3_none {s : ByteArray} {k : Nat} (h : slotOfB s k = none) : slot3 s k = (0, 0, 0) := by unfold slot3; rw [h]
theorem un_drop (t : ByteArray) (a : Nat) (hb : a + 4 ≤ t.size) : relstoreref_unbytes.f 5 (t.extract a (a + 4)) = some ((tn t a : Nat) : Int) := by
  rw [unbytes_is _ (by rw [size_extract _ _ _ hb]; omega) 5 (by decide), tn_drop t a (a + 4) (by omega) hb]
end Go.Proofs.Ythaoaaboempajab.Log
namespace Go.Proofs.Ythaoaaboempajab.Log
open Go.RowKit Go.Maps Go.Proofs.Ythaoaaboempajab.QLogRuns Go.Proofs.Ythaoaaboempajab.QDiskRuns Go.Proofs.Ythaoaaboempajab.Disk Go.Proofs.YthaoaaboempajabW.PrintWords Go.Proofs.YthaoaaboempajabW.PrintLast Go.Proofs.YthaoaaboempajabW.PrintMore
set_option linter.unusedVariables false
set_option linter.unusedSimpArgs false
theorem law3 : Keyed Try.prog 3 := int_keyed Try.underlying3
theorem zero3 (w : World) : (zeroValue 3).run Try.prog w = .ok (.int .i64 0) w := by kernel_rfl
def MapF (w : World) (b n : Nat) (f : Int → Int) : Prop := ∃ D : DataW Unit, w.ownsMap Try.prog 3 (plainElem Try.prog 3) b n D ∧ ∀ x, (Lit.int .i64 x).wf = true → D.atKey (.int .i64 x) (.lit (.int .i64 0)) = .lit (.int .i64 (f x))
theorem MapF.kept {w w' : World} {b n : Nat} {f : Int → Int} (h : MapF w b n f) (hb : w'.heap[b]? = w.heap[b]?) : MapF w' b n f := by
  obtain ⟨D, ⟨es, clock, h1, h2, h3, h4⟩, hf⟩ := h
  exact ⟨D, ⟨es, clock, hb.trans h1, h2, h3, h4⟩, hf⟩
theorem MapF.lt {w : World} {b n : Nat} {f : Int → Int} (h : MapF w b n f) : b < w.heap.size := h.elim fun _ h => h.1.lt
theorem MapF.look {w : World} {b n : Nat} {f : Int → Int} (h : MapF w b n f) {x : Int} (hx : (Lit.int .i64 x).wf = true) : (Instr.lookup 67 (.map (some b)) (.int .i64 x) false).run Try.prog w = .ok (.int .i64 (f x)) w := by
  obtain ⟨D, h1, hf⟩ := h
  obtain ⟨c, hrun, hat, _⟩ := h1.lookup_int law3 Try.underlying67 Try.underlying3 (zero3 w) (keyOf_int_mk Try.underlying3 hx)
  have e := (Lit.int.inj (DataW.lit.inj (hat.symm.trans (hf x hx)))).2
  exact e ▸ hrun
theorem wf_int {x : Int} (h : -9223372036854775808 ≤ x ∧ x < 9223372036854775808) : (Lit.int .i64 x).wf = true := WalkArith.wf_i64 (by omega)
theorem MapF.put {w : World} {b n : Nat} {f : Int → Int} (h : MapF w b n f) (hn : n < maxLen) {x y : Int} (hx : (Lit.int .i64 x).wf = true) (hy : (Lit.int .i64 y).wf = true) :
    ∃ w', (Instr.mapUpdate 67 (.map (some b)) (.int .i64 x) (.int .i64 y)).run Try.prog w = .ok () w' ∧ MapF w' b (n + 1) (fun z => if z = x then y else f z) ∧ w.grownBy w' (some b) := by
  obtain ⟨D, h1, hf⟩ := h
  obtain ⟨w', hrun, h2, hg⟩ := h1.update law3 Try.underlying67 hn (keyOf_int_mk Try.underlying3 hx) (plainElem_int Try.underlying3 hy)
  refine ⟨w', hrun, ⟨_, h2, fun z hz => ?_⟩, hg⟩
  show _ = DataW.lit (Lit.int .i64 (if z = x then y else f z))
  by_cases e : z = x
  · subst e
    rw [if_pos rfl]
    exact atKey_put_same h1.isMap (by simp [WideAt.IsKeyLit]) _ _
  · rw [if_neg e, ← hf z hz]
    exact atKey_put_other (fun he => e (Lit.int.inj he).2) _ _
def pcells (fr pg : Int) (b : Nat) : Array Value := #[.int .i64 fr, .int .i64 pg, .map (some b)]
set_option maxHeartbeats 4000000 in
set_option maxRecDepth 100000 in
theorem copied.calls (b n : Nat) (f : Int → Int) (fr pg : Int) (w : World) (h : MapF w b n f) (hn : n ≤ 1000000000) :
    Calls Try.prog 49 #[.agg (pcells fr pg b)] w fun e w' => ∃ b', e = .returned (.agg (pcells fr pg b')) ∧ w.heap.size ≤ b' ∧ MapF w' b' n f ∧ Below w.heap.size w w' := by
  obtain ⟨D0, hown, hf⟩ := h
  have HO := Aside0.mk hown
  have HF := Aside0.mk hf
  have HN := Aside0.mk hn
  have hmm : ∀ (k : Int) (w : World), (Instr.makeMap 67 (some (.int .i64 k))).run Try.prog w = .ok (.map (some w.heap.size)) (w.alloc (.map #[] 0)) := by
    intro k w
    simp [Instr.makeMap, underlying, Try.underlying67]
    rfl
  clear hown hf hn
  go_enter Try.func49, Try.ntmps49
  go_upto_region 1 with (first
    | ((with_reducible refine gate_dst (N := 1) rfl ?_); refine box_event ?hg (N := 1) ?hd (cs := pcells fr pg b) (t := 94) ?hr ?_; (case hd => rfl); (case hg => rfl); (case hr => first | (go_simp; done) | (go_simp; rfl)); intro g1 hg1 w1 hbox hb; have HX1 := Aside0.mk hbox; have HB1 := Aside0.mk hb; have HG1 := Aside0.mk hg1; clear hg1 hbox hb)
    | ((with_reducible refine gate_dst (N := 2) rfl ?_); refine box_event ?hg (N := 2) ?hd (cs := #[.int .i64 0, .int .i64 0, .map none]) (t := 94) ?hr ?_; (case hd => rfl); (case hg => rfl); (case hr => first | (go_simp; done) | (go_simp; rfl)); intro g2 hg2 w2 hbox hb; have HX2 := Aside0.mk hbox; have HB2 := Aside0.mk hb; have HG2 := Aside0.mk hg2; clear hg2 hbox hb))
  try go_frame
  have HB3 := Aside0.mk (below_step HB1.out HB2.out)
  have HO2 := Aside0.mk (HO.out.kept (grown_of_below HB3.out none) (by simp))
  have hl_ := HO2.out.len Try.underlying67
  have HX3 := Aside0.mk (blk_below HX1.out HB2.out)
  have HNE := Aside0.mk (show g1 ≠ g2 by rw [HG2.out]; exact Nat.ne_of_lt (blk_lt HX1.out))
  have p2 : w2.cell? ⟨g1, 2, none⟩ = some (.map (some b)) := (blk_cell HX3.out 2).trans rfl
  have p2b : ∀ o, (w2.alloc o).cell? ⟨g1, 2, none⟩ = some (.map (some b)) := fun o => (blk_cell (blk_alloc HX3.out o) 2).trans rfl
  have hbl := HO2.out.lt
  have e1 : (w2.alloc (.map #[] 0)).heap.size = w2.heap.size + 1 := by simp
  go_wp2_with (first
    | (at_range; refine wpList_range_own _ rfl _ 67 rfl 3 3 law3 Try.underlying67 _ b n _ rfl (HO2.out.alloc _) ?_; intro w0 hrg0 hg0 hs0)
    | go_in)
  try go_frame
  rw [e1] at hrg0 hs0 ⊢
  have HRG := Aside0.mk hrg0
  have HOUT := Aside0.mk (show w0.ownsMap Try.prog 3 (plainElem Try.prog 3) w2.heap.size (Maps.size D0 - Maps.size D0) (.map [] : DataW Unit) from ((World.ownsMap_made _ _ _ _).kept hg0 (by simp)).mono (Nat.zero_le _))
  have HBL := Aside0.mk (show Below w2.heap.size w2 w0 from ((Below.refl _ _).alloc (Nat.le_refl _) _).grown hg0 (by simp) (fun j hj => by cases hj))
  clear hl_ p2 p2b hrg0 hg0 hs0 e1
  go_loopw [4] (fun _ wr => ∃ (left : Lit → Bool) (cnt : Nat) (Dout : DataW Unit), Aside0 (wr.ranges Try.prog 3 (plainElem Try.prog 3) b (w2.heap.size + 1) n D0 left cnt) ∧ cnt ≤ Maps.size D0 ∧ Aside0 (wr.ownsMap Try.prog 3 (plainElem Try.prog 3) w2.heap.size (Maps.size D0 - cnt) Dout) ∧ Aside0 (Agree Dout D0 left) ∧ Aside0 (Below w2.heap.size w2 wr)) (fun _ wr => wr.rangeLeft b (w2.heap.size + 1))
  case atStart => exact ⟨_, _, .map [], HRG, Nat.le_refl _, HOUT, ⟨agree_start D0⟩, HBL⟩
  case round =>
    clear HRG HOUT HBL
    obtain ⟨left, cnt, Dout, HRG, hcs, HOUT, HA, HBL⟩ := hrel
    have hsz_ := HO2.out.size_le
    have hn_ := HN.out
    go_wp2_with (first
      | (at_next; refine wpList_next_ranges_ii _ rfl _ rfl 3 3 .i64 .i64 law3 Try.underlying3 Try.underlying3 b (w2.heap.size + 1) n _ _ _ rfl HRG.out ?_ ?_)
      | go_in)
    · intro hc0 hl0
      have p2 : ∃ v, wr.cell? ⟨g1, 2, none⟩ = some v := ⟨_, (blk_cell (blk_below HX3.out HBL.out) 2).trans rfl⟩
      obtain ⟨v2, p2⟩ := p2
      have z2 := blk_frozen (blk_below HX3.out HBL.out) 2
      go_upto_region 7 with (fail)
      have HY1 := Aside0.mk (show (wr.setCell ⟨g1, 2, none⟩ (.map (some w2.heap.size))).heap[g1]? = some (.cells (pcells fr pg w2.heap.size) 94 (0, 0)) from blk_put (blk_below HX3.out HBL.out) 2 _ rfl)
      have HY2 := Aside0.mk (blk_far (blk_below HX2.out HBL.out) (p := ⟨g1, 2, none⟩) (Ne.symm HNE.out) (.map (some w2.heap.size)))
      have HBW := Aside0.mk ((below_then HB3.out HB3.out.size HBL.out).setCell (p := ⟨g1, 2, none⟩) (Nat.le_of_eq HG1.out.symm) (.map (some w2.heap.size)))
      have HM := Aside0.mk (show (wr.setCell ⟨g1, 2, none⟩ (.map (some w2.heap.size))).heap[w2.heap.size]? = wr.heap[w2.heap.size]? from Below.heap_setCell wr ⟨g1, 2, none⟩ _ _ (Nat.ne_of_gt (blk_lt HX3.out)))
      clear p2 z2
      generalize wr.setCell ⟨g1, 2, none⟩ (.map (some w2.heap.size)) = w4 at HY1 HY2 HBW HM ⊢
      have a0 : w4.cell? ⟨g1, 0, none⟩ = some (.int .i64 fr) := (blk_cell HY1.out 0).trans rfl
      have a1 : w4.cell? ⟨g1, 1, none⟩ = some (.int .i64 pg) := (blk_cell HY1.out 1).trans rfl
      have a2 : w4.cell? ⟨g1, 2, none⟩ = some (.map (some w2.heap.size)) := (blk_cell HY1.out 2).trans rfl
      have b0 : w4.cell? ⟨g2, 0, none⟩ = some (.int .i64 0) := (blk_cell HY2.out 0).trans rfl
      have b1 : w4.cell? ⟨g2, 1, none⟩ = some (.int .i64 0) := (blk_cell HY2.out 1).trans rfl
      have b2 : w4.cell? ⟨g2, 2, none⟩ = some (.map none) := (blk_cell HY2.out 2).trans rfl
      have z0 := blk_frozen HY2.out 0
      have z1 := blk_frozen HY2.out 1
      have z2 := blk_frozen HY2.out 2
      go_wp2_with (fail)
      have HY3 := blk_put (blk_put (blk_put HY2.out 0 (.int .i64 fr) rfl) 1 (.int .i64 pg) rfl) 2 (.map (some w2.heap.size)) rfl
      have HG2' := Aside0.mk (show w.heap.size ≤ g2 by rw [HG2.out]; exact HB1.out.size)
      refine bodyPost_ret (results_cell_row (g := g2) (t := 94) (cs := pcells fr pg w2.heap.size) (fr := (0, 0)) (d := _) rfl _ _ rfl HY3 Try.underlying94 rfl (by kernel_rfl)) rfl ?_
      subst hc0
      have e := agree_end HA.out hl0 (HOUT.out.canon law3) (HO2.out.canon law3)
      subst e
      refine ⟨w2.heap.size, rfl, HB3.out.size, ?_, ((HBW.out.setCell (p := ⟨g2, 0, none⟩) HG2'.out _).setCell (p := ⟨g2, 1, none⟩) HG2'.out _).setCell (p := ⟨g2, 2, none⟩) HG2'.out _⟩
      have hne2 : w2.heap.size ≠ g2 := Nat.ne_of_gt (blk_lt HX2.out)
      refine MapF.kept (w := wr) ⟨Dout, HOUT.out.mono (by omega), HF.out⟩ ?_
      rw [Below.heap_setCell _ ⟨g2, 2, none⟩ _ _ hne2, Below.heap_setCell _ ⟨g2, 1, none⟩ _ _ hne2, Below.heap_setCell _ ⟨g2, 0, none⟩ _ _ hne2]
      exact HM.out
    · intro x c w1 cnt1 hwx hwc hlx hat hrg1 hlt hg1 hs1 hen
      have hout1 := HOUT.out.kept hg1 (by simp)
      go_wp2_with (first
        | (at_mapUpdate; refine wpList_mapUpdate_own _ rfl _ _ _ 67 rfl 3 3 law3 Try.underlying67 _ w2.heap.size _ _ rfl hout1 (by unfold maxLen; omega) _ _ _ rfl rfl (keyOf_int_mk Try.underlying3 hwx) _ [] (plainElem_int Try.underlying3 hwc) ?_; intro w2_ hout2 hg2; go_frame)
        | go_in)
      have hrg2 := hrg1.kept hg2 (fun e => by have := Option.some.inj e; omega) (fun e => by have := Option.some.inj e; omega)
      go_roundw
      case rel =>
        have hnx := HBL.out
        exact ⟨_, cnt1, _, ⟨hrg2⟩, by omega, ⟨hout2.mono (by omega)⟩, ⟨agree_step HA.out HOUT.out.isMap (by simp [WideAt.IsKeyLit]) hat⟩,
          ⟨(hnx.grown hg1 hnx.size (fun j hj => by cases hj; exact Nat.le_succ _)).grown hg2 (by have := hnx.size; have := hg1.size; omega) (fun j hj => by cases hj; exact Nat.le_refl _)⟩⟩
      case measure => rw [hrg2.left_eq, HRG.out.left_eq]; exact hlt
end Go.Proofs.Ythaoaaboempajab.Log
namespace Go.Proofs.Ythaoaaboempajab.Disk
open Go.RowKit Go.Proofs.YthaoaaboempajabW.PrintWords Go.Proofs.YthaoaaboempajabW.PrintLast Go.Proofs.YthaoaaboempajabW.PrintMore Go.Proofs.Ythaoaaboempajab.QDiskRuns
set_option linter.unusedVariables false
set_option linter.unusedSimpArgs false
def chgAt (ws : List Chg) (i : Nat) : Chg := ws.getD i noChg
theorem at_C {w : World} {A : Option Addr} {n : Nat} {ws : List Chg} (h : kC.C w A n ws) (i : Nat) (h1 : i < n) : ∃ ad, A = some ad ∧ w.cell? (ad.add (i * 4)) = some (.int .i64 (chgAt ws i).file) ∧
    w.cell? ⟨(ad.add (i * 4)).block, (ad.add (i * 4)).off + 1, none⟩ = some (.int .i64 ((chgAt ws i).at_ : Int)) ∧ w.cell? ⟨(ad.add (i * 4)).block, (ad.add (i * 4)).off + 2, none⟩ = some (.string (chgAt ws i).text) ∧ w.cell? ⟨(ad.add (i * 4)).block, (ad.add (i * 4)).off + 3, none⟩ = some (.bool (chgAt ws i).cut) := by
  obtain ⟨ad, c, e, _, hK, hc0⟩ := Kd.C_get h noChg (i : Int) (by omega) (by omega)
  rw [Int.toNat_natCast] at hK hc0
  have hc : ∀ j u, c[j]? = some u → w.cell? (ad.add (i * 4 + j)) = some u := hc0
  obtain rfl := kC_open hK
  exact ⟨ad, e, hc 0 _ rfl, by rw [← add_field _ _ 1 (by omega)]; exact hc 1 _ rfl, by rw [← add_field _ _ 2 (by omega)]; exact hc 2 _ rfl, by rw [← add_field _ _ 3 (by omega)]; exact hc 3 _ rfl⟩
theorem take_succ_chg {ws : List Chg} {j : Nat} (h : j < ws.length) : ws.take (j + 1) = ws.take j ++ [chgAt ws j] := by
  rw [List.take_succ_eq_append_getElem h]
  congr 2
  unfold chgAt
  rw [List.getD_eq_getElem?_getD, List.getElem?_eq_getElem h, Option.getD_some]
theorem others_snoc (f : Int) (l : List Chg) (c : Chg) : others f (l ++ [c]) = if (c.file != f) = true then others f l ++ [c] else others f l := by
  unfold others
  rw [List.filter_append, List.filter_cons, List.filter_nil]
  split <;> simp
def put4 (W : World) (g : Nat) (a b c d : Value) : World := (((W.setCell ⟨g, 0, none⟩ a).setCell ⟨g, 1, none⟩ b).setCell ⟨g, 2, none⟩ c).setCell ⟨g, 3, none⟩ d
theorem put4_blk {W : World} {g t : Nat} {x y z u a b c d : Value} (h : W.heap[g]? = some (.cells #[x, y, z, u] t (0, 0))) : (put4 W g a b c d).heap[g]? = some (.cells #[a, b, c, d] t (0, 0)) :=
  blk_put (blk_put (blk_put (blk_put h 0 a rfl) 1 b rfl) 2 c rfl) 3 d rfl
set_option maxHeartbeats 8000000 in
set_option maxRecDepth 100000 in
theorem sync.calls0 (g : Nat) (O : Nat → Prop) (s : St) (m : Nat) (w0 w : World) (hB : Below w0.heap.size w0 w) (hD : DD w w0.heap.size g O s) (hok : s.ok m) (hm : m ≤ 1000000000) :
    Calls Try.prog 45 #[.pointer (some ⟨g, 0, none⟩), .int .i64 0] w fun e w' => e = .returned (.int .i64 (turn s.f s.d s.c).1) ∧
      DD w' w0.heap.size g (fun k => O k ∨ w.heap.size ≤ k) (s.synced 0) ∧ Below w0.heap.size w0 w' ∧ Kept w w' O := by
  obtain ⟨lab, x0, x1, x2, x3, x4, hb, hg, hO, hlb, hr⟩ := hD
  have hcs := hok.c
  have hns := hok.n
  have hfs := hok.f
  have h3 := hok.s0
  have HF := Aside0.mk (show -9223372036854775808 ≤ s.f ∧ s.f < 9223372036854775808 by omega)
  have HC := Aside0.mk (show 0 ≤ s.c ∧ s.c < 9223372036854775807 by omega)
  have HL := Aside0.mk (show s.s0.size ≤ 140737488355000 by unfold maxFile at h3; omega)
  have HW := Aside0.mk (show s.ws.length ≤ 1000000000 by omega)
  have HB := Aside0.mk hB
  have HG := Aside0.mk hg
  have HO := Aside0.mk hO
  have HLB := Aside0.mk hlb
  have HR := Aside0.mk hr
  have HX := Aside0.mk hb
  clear hB hb hg hO hlb hr hok hm hcs hns hfs h3
  obtain ⟨A4, c4, e4⟩ := Kd.R_slice HR.out.r4
  subst e4
  obtain ⟨A1, c1, e1⟩ := Kd.R_slice HR.out.r1
  subst e1
  go_enter Try.func45, Try.ntmps45
  go_upto_region 3 with (go_at_call 70; (refine (disk_right.calls 0 0 0 true _ (by rw [right_is, show rightB 0 0 0 = true by decide])).mono ?_); rintro e1 w1 ⟨rfl, hd1⟩; have HW1 := Aside0.mk hd1; clear hd1)
  have HX0 := Aside0.mk (blk_below HX.out HW1.out.below)
  have HR0 := Aside0.mk (HR.out.below HW1.out.below)
  have HB1 := Aside0.mk (below_step HB.out HW1.out.below)
  have HK1 := Aside0.mk (Kept.of_below HW1.out.below O)
  clear HX HR HB HW1
  go_upto_region 4 with (go_at_call 72; (refine (turn.calls g _ _ _ _ _ s.f s.d s.c w0 _ HB1.out HG.out HX0.out HF.out HC.out).mono ?_); rintro e2 w2 ⟨rfl, hx2, hb2, hk2, hs2⟩; have HX2 := Aside0.mk hx2; have HB2 := Aside0.mk hb2; have HK2 := Aside0.mk hk2; have HS2 := Aside0.mk hs2; clear hx2 hb2 hk2 hs2)
  have HR2 := Aside0.mk (HR0.out.only HK2.out HLB.out)
  have HSZ := Aside0.mk (show w.heap.size ≤ w2.heap.size by rw [HS2.out]; exact HK1.out.1)
  have HKw := Aside0.mk (Kept.then_ HK1.out HK2.out (fun k hk => .inl (by rw [hk]; exact HO.out)))
  clear HX0 HR0 HB1 HK1 HK2 HS2
  rcases turn_cases s.f s.d s.c with ⟨e0, -⟩ | ⟨e0, -⟩
  · have HE := Aside0.mk e0
    rw [e0]
    clear e0
    go_upto_region 6 with (fail)
    have q1 : w2.cell? ⟨g, 1, none⟩ = some (.slice A1 (bytesOf s.s0).length c1) := (blk_cell HX2.out 1).trans rfl
    have HL' : (bytesOf s.s0).length ≤ 140737488355000 := by rw [bytesOf_length]; exact HL.out
    have HRC := Aside0.mk (Kd.C_below (Kd.R_reads' HR2.out.r1).2.2 (below_drew (Below.refl _ w2)))
    go_region_law (refine Kd.R_append_rows_step (Kd.int .u8) (Rr := (Kd.int .u8).K w2.drew) (W := w2.drew) (w0 := w0) w0.heap.size rfl _ _ 53 5 (.int .u8 0) 1 rfl Try.underlying53 info5 rfl (by decide) (by omega) (.slice none 0 0) [] (bytesOf s.s0) A1 (bytesOf s.s0).length c1 (fun k => w2.heap.size ≤ k) (fun _ => False) rfl rfl (Kd.R_nil _ _ _ _ _) HRC.out (fun _ _ h => h) (fun _ hk => hk.elim) (fun k hk => hk) (below_drew1 HB2.out) (below_size (below_drew1 HB2.out)) (by simp; omega) ?_; intro v1 w3 ho hb hgr hat; obtain ⟨A5, c5, e5⟩ := Kd.R_slice ho; rw [List.nil_append] at e5 ho; subst e5; have HO3 := Aside0.mk ho; have HB3 := Aside0.mk hb; have HK3 := Aside0.mk (show Kept w2 w3 (fun k => O k ∧ lab k = 0) from Kept.of_grown hgr (Kept.drew (Kept.refl w2 _)) (fun k hk => by cases hk)); have HX3 := Aside0.mk (blk_grown (blk_drew HX2.out) hgr (by intro h; cases h)); have z3 := blk_frozen HX3.out 0; have c3_ : ∃ v, w3.cell? ⟨g, 0, none⟩ = some v := ⟨_, (blk_cell HX3.out 0).trans rfl⟩; obtain ⟨v3_, c3_⟩ := c3_; clear ho hb hgr hat)
    clear q1 HL' HRC z3 c3_
    have HLB3 := Aside0.mk (show relab w2.heap.size lab 0 g = 5 by unfold relab; rw [if_pos (blk_lt HX2.out)]; exact HLB.out)
    have HR4 := Aside0.mk ((HR2.out.up0 HK3.out (Kd.R_mono HO3.out (fun k hk => .inr hk))).set HLB3.out 0 (.slice A5 (bytesOf s.s0).length c5))
    have HX4 := Aside0.mk (show (w3.setCell ⟨g, 0, none⟩ (.slice A5 (bytesOf s.s0).length c5)).heap[g]? = some (.cells (dcells (.slice A5 (bytesOf s.s0).length c5) (.slice A1 (bytesOf s.s0).length c1) x2 x3 (.slice A4 s.ws.length c4) (turn s.f s.d s.c).2.1 (turn s.f s.d s.c).2.2.1 (turn s.f s.d s.c).2.2.2) 59 (0, 0)) from blk_put HX3.out 0 _ rfl)
    have HB4 := Aside0.mk (HB3.out.setCell (p := ⟨g, 0, none⟩) HG.out (.slice A5 (bytesOf s.s0).length c5))
    have HK4 := Aside0.mk ((HKw.out.then_ HK3.out (fun k hk => .inl hk.1)).setCell (p := ⟨g, 0, none⟩) (.inl HO.out) (.slice A5 (bytesOf s.s0).length c5))
    have HS4 := Aside0.mk (show w2.heap.size ≤ (w3.setCell ⟨g, 0, none⟩ (.slice A5 (bytesOf s.s0).length c5)).heap.size by simp; exact HK3.out.1)
    clear HX2 HR2 HB2 HK3 HX3 HO3 HB3
    generalize w3.setCell ⟨g, 0, none⟩ (.slice A5 (bytesOf s.s0).length c5) = w4 at HR4 HX4 HB4 HK4 HS4 ⊢
    have q4 : w4.cell? ⟨g, 4, none⟩ = some (.slice A4 s.ws.length c4) := (blk_cell HX4.out 4).trans rfl
    have HCW := Aside0.mk (Kd.R_reads' HR4.out.r4).2.2
    go_wp2_with (fail)
    clear q4
    go_loopw [6, 36] (fun v6 v36 wr => ∃ (j : Nat), j ≤ s.ws.length ∧ v36 = .int .i64 (j : Int) ∧ Aside0 (kC.R 87 wr w4.heap.size (fun _ => True) v6 (others 0 (s.ws.take j))) ∧ Aside0 (Below w4.heap.size w4 wr)) (fun _ v36 _ => s.ws.length - (intOf v36).toNat)
    case atStart => exact ⟨0, Nat.zero_le _, rfl, ⟨Kd.R_nil _ _ _ _ _⟩, ⟨Below.refl _ _⟩⟩
    case round =>
      obtain ⟨j, hj, rfl, HOr, HBr⟩ := hrel
      obtain ⟨A6, c6, e6⟩ := Kd.R_slice HOr.out
      subst e6
      have hm := HW.out
      by_cases hlt : j < s.ws.length
      · have t_ : decide ((j : Int) < (s.ws.length : Int)) = true := decide_eq_true (by omega)
        obtain ⟨ad, hA, f0, f1, f2, f3⟩ := at_C HCW.out j hlt
        subst hA
        replace f0 := (HBr.out.cell (World.block_lt_of_cell? w4 _ f0)).trans f0
        replace f1 := (HBr.out.cell (World.block_lt_of_cell? w4 _ f1)).trans f1
        replace f2 := (HBr.out.cell (World.block_lt_of_cell? w4 _ f2)).trans f2
        replace f3 := (HBr.out.cell (World.block_lt_of_cell? w4 _ f3)).trans f3
        have HT := Aside0.mk (take_succ_chg hlt)
        have HLN := Aside0.mk (show (others 0 (s.ws.take j)).length ≤ 1000000000 by have := List.length_filter_le (fun c : Chg => c.file != 0) (s.ws.take j); rw [List.length_take] at this; unfold others; omega)
        have HTN := Aside0.mk (show others 0 (s.ws.take (j + 1)) = if ((chgAt s.ws j).file != 0) = true then others 0 (s.ws.take j) ++ [chgAt s.ws j] else others 0 (s.ws.take j) by rw [take_succ_chg hlt]; exact others_snoc _ _ _)
        clear HT
        generalize chgAt s.ws j = ch at f0 f1 f2 f3 HTN
        generalize others 0 (s.ws.take j) = ls at HOr HLN HTN
        go_upto_region 11 with ((with_reducible refine gate_dst (N := 8) rfl ?_); refine box_event ?hg (N := 8) ?hd (cs := #[.int .i64 0, .int .i64 0, .string ⟨#[]⟩, .bool false]) (t := 87) ?hr ?_; (case hd => rfl); (case hg => rfl); (case hr => first | (go_simp; done) | (go_simp; rfl)); intro gb hgb w7 hbox hb; have HXb := Aside0.mk hbox; have HBb := Aside0.mk hb; have HGb := Aside0.mk hgb; have b0 : w7.cell? ⟨gb, 0, none⟩ = some (.int .i64 0) := (blk_cell hbox 0).trans rfl; have b1 : w7.cell? ⟨gb, 1, none⟩ = some (.int .i64 0) := (blk_cell hbox 1).trans rfl; have b2 : w7.cell? ⟨gb, 2, none⟩ = some (.string ⟨#[]⟩) := (blk_cell hbox 2).trans rfl; have b3 : w7.cell? ⟨gb, 3, none⟩ = some (.bool false) := (blk_cell hbox 3).trans rfl; have y0 := blk_frozen hbox 0; have y1 := blk_frozen hbox 1; have y2 := blk_frozen hbox 2; have y3 := blk_frozen hbox 3; clear hgb hbox hb)
        have hput : (((w7.setCell ⟨gb, 0, none⟩ (.int .i64 ch.file)).setCell ⟨gb, 1, none⟩ (.int .i64 (ch.at_ : Int))).setCell ⟨gb, 2, none⟩ (.string ch.text)).setCell ⟨gb, 3, none⟩ (.bool ch.cut) = put4 w7 gb (.int .i64 ch.file) (.int .i64 (ch.at_ : Int)) (.string ch.text) (.bool ch.cut) := rfl
        rw [hput]
        clear hput
        have HX8 := Aside0.mk (put4_blk (a := .int .i64 ch.file) (b := .int .i64 (ch.at_ : Int)) (c := .string ch.text) (d := .bool ch.cut) HXb.out)
        have HB8 := Aside0.mk (HBb.out.setCell (p := ⟨gb, 0, none⟩) (by rw [HGb.out]; exact Nat.le_refl _) (.int .i64 ch.file) |>.setCell (p := ⟨gb, 1, none⟩) (by rw [HGb.out]; exact Nat.le_refl _) (.int .i64 (ch.at_ : Int)) |>.setCell (p := ⟨gb, 2, none⟩) (by rw [HGb.out]; exact Nat.le_refl _) (.string ch.text) |>.setCell (p := ⟨gb, 3, none⟩) (by rw [HGb.out]; exact Nat.le_refl _) (.bool ch.cut))
        change Aside0 (Below wr.heap.size wr (put4 w7 gb (.int .i64 ch.file) (.int .i64 (ch.at_ : Int)) (.string ch.text) (.bool ch.cut))) at HB8
        clear b0 b1 b2 b3 y0 y1 y2 y3 f0 f1 f2 f3 HXb HBb
        generalize put4 w7 gb (.int .i64 ch.file) (.int .i64 (ch.at_ : Int)) (.string ch.text) (.bool ch.cut) = w8 at HX8 HB8 ⊢
        have q0 : w8.cell? ⟨gb, 0, none⟩ = some (.int .i64 ch.file) := (blk_cell HX8.out 0).trans rfl
        have q1 : w8.cell? ⟨gb, 1, none⟩ = some (.int .i64 (ch.at_ : Int)) := (blk_cell HX8.out 1).trans rfl
        have q2 : w8.cell? ⟨gb, 2, none⟩ = some (.string ch.text) := (blk_cell HX8.out 2).trans rfl
        have q3 : w8.cell? ⟨gb, 3, none⟩ = some (.bool ch.cut) := (blk_cell HX8.out 3).trans rfl
        by_cases hne : (ch.file != 0) = true
        · have HNE := Aside0.mk hne
          have hls := HLN.out
          go_wp2_with (first
            | ((with_reducible refine gate_builtin (b := .append) (xs := #[.tmp 44, .tmp 46]) rfl ?_); at_builtin; refine Kd.R_append kC (w0 := w4) w4.heap.size rfl (.tmp 44) (.tmp 46) 57 87 (.agg #[.int .i64 0, .int .i64 0, .string ⟨#[]⟩, .bool false]) 40 rfl Try.underlying57 info172 rfl (by decide) (by omega) (.slice A6 ls.length c6) ls ch _ (fun _ => True) (fun _ => False) rfl rfl ?aP (fun _ hk => hk.elim) ?aF ?aO ?aB ?aS ?aL ?_; (case aP => exact kC_M ch); (case aB => exact below_step HBr.out HB8.out); (case aF => exact (fun _ _ => trivial)); (case aO => exact Kd.R_below HOr.out HB8.out); (case aS => exact below_size (below_step HBr.out HB8.out)); (case aL => omega); intro v1 w9 ho hb hg hat; have HO9 := Aside0.mk ho; have HB9 := Aside0.mk hb; clear ho hb hg hat))
          go_roundw
          case rel => exact ⟨j + 1, by omega, by go_num, ⟨by rw [HTN.out, if_pos HNE.out]; exact HO9.out⟩, HB9⟩
          case measure => simp [intOf]; omega
        · have hne' : (ch.file != 0) = false := by simpa using hne
          have HNE := Aside0.mk hne
          clear hne
          go_wp2_with (fail)
          go_roundw
          case rel => exact ⟨j + 1, by omega, by go_num, ⟨by rw [HTN.out, if_neg HNE.out]; exact Kd.R_below HOr.out HB8.out⟩, ⟨below_step HBr.out HB8.out⟩⟩
          case measure => simp [intOf]; omega
      · obtain rfl : j = s.ws.length := by omega
        rw [List.take_length] at HOr ⊢
        clear hlt hj
        have q4 : wr.cell? ⟨g, 4, none⟩ = some (.slice A4 s.ws.length c4) := (blk_cell (blk_below HX4.out HBr.out) 4).trans rfl
        have z4 := blk_frozen (blk_below HX4.out HBr.out) 4
        go_wp2_with (fail)
        go_ret
        have HLX := Aside0.mk (show relab w4.heap.size (relab w2.heap.size lab 0) 4 g = 5 by unfold relab; rw [if_pos (blk_lt HX4.out)]; exact HLB3.out)
        have HN4 := Aside0.mk (Kd.R_lower (Kd.R_mono (Kd.R_bound HOr.out) (ok' := fun k => ((O k ∨ w2.heap.size ≤ k) ∧ relab w2.heap.size lab 0 k = 4) ∨ w4.heap.size ≤ k) (fun k hk => .inr hk.2.1)) (below_size HB4.out))
        refine ⟨by rw [HE.out]; rfl, ?_, (below_then HB4.out (below_size HB4.out) HBr.out).setCell (p := ⟨g, 4, none⟩) HG.out _, (HK4.out.below HBr.out).setCell (p := ⟨g, 4, none⟩) (.inl HO.out) _⟩
        unfold St.synced
        rw [if_pos HE.out]
        refine DX.mono (O := fun k => (O k ∨ w2.heap.size ≤ k) ∨ w4.heap.size ≤ k) (DX.of (lab := relab w4.heap.size (relab w2.heap.size lab 0) 4) (blk_put (blk_below HX4.out HBr.out) 4 _ rfl) HG.out (.inl (.inl HO.out)) HLX.out ((HR4.out.up4 (Kept.of_below HBr.out _) HN4.out).set HLX.out 4 _) rfl (congrArg bytesOf (seenB_others_self 0 s.ws s.s0)) rfl (congrArg bytesOf (seenB_others_ne (by decide) s.ws s.l1))) ?_
        rintro k ((hk | hk) | hk)
        · exact .inl hk
        · exact .inr (Nat.le_trans HSZ.out hk)
        · exact .inr (Nat.le_trans HSZ.out (Nat.le_trans HS4.out hk))
  · have HE := Aside0.mk e0
    rw [e0]
    clear e0
    go_upto_region 5 with (fail)
    go_wp2_with (fail)
    go_ret
    refine ⟨by rw [HE.out]; rfl, DX.mono ?_ (fun k hk => .inl hk), HB2.out, HKw.out⟩
    unfold St.synced
    rw [if_neg (by rw [HE.out]; decide)]
    exact ⟨lab, _, _, _, _, _, HX2.out, HG.out, HO.out, HLB.out, HR2.out⟩
set_option maxHeartbeats 8000000 in
set_option maxRecDepth 100000 in
theorem sync.calls1 (g : Nat) (O : Nat → Prop) (s : St) (m : Nat) (w0 w : World) (hB : Below w0.heap.size w0 w) (hD : DD w w0.heap.size g O s) (hok : s.ok m) (hm : m ≤ 1000000000) :
    Calls Try.prog 45 #[.pointer (some ⟨g, 0, none⟩), .int .i64 1] w fun e w' => e = .returned (.int .i64 (turn s.f s.d s.c).1) ∧
      DD w' w0.heap.size g (fun k => O k ∨ w.heap.size ≤ k) (s.synced 1) ∧ Below w0.heap.size w0 w' ∧ Kept w w' O := by
  obtain ⟨lab, x0, x1, x2, x3, x4, hb, hg, hO, hlb, hr⟩ := hD
  have hcs := hok.c
  have hns := hok.n
  have hfs := hok.f
  have h3 := hok.s1
  have HF := Aside0.mk (show -9223372036854775808 ≤ s.f ∧ s.f < 9223372036854775808 by omega)
  have HC := Aside0.mk (show 0 ≤ s.c ∧ s.c < 9223372036854775807 by omega)
  have HL := Aside0.mk (show s.s1.size ≤ 140737488355000 by unfold maxFile at h3; omega)
  have HW := Aside0.mk (show s.ws.length ≤ 1000000000 by omega)
  have HB := Aside0.mk hB
  have HG := Aside0.mk hg
  have HO := Aside0.mk hO
  have HLB := Aside0.mk hlb
  have HR := Aside0.mk hr
  have HX := Aside0.mk hb
  clear hB hb hg hO hlb hr hok hm hcs hns hfs h3
  obtain ⟨A4, c4, e4⟩ := Kd.R_slice HR.out.r4
  subst e4
  obtain ⟨A1, c1, e1⟩ := Kd.R_slice HR.out.r3
  subst e1
  go_enter Try.func45, Try.ntmps45
  go_upto_region 3 with (go_at_call 70; (refine (disk_right.calls 1 0 0 true _ (by rw [right_is, show rightB 1 0 0 = true by decide])).mono ?_); rintro e1 w1 ⟨rfl, hd1⟩; have HW1 := Aside0.mk hd1; clear hd1)
  have HX0 := Aside0.mk (blk_below HX.out HW1.out.below)
  have HR0 := Aside0.mk (HR.out.below HW1.out.below)
  have HB1 := Aside0.mk (below_step HB.out HW1.out.below)
  have HK1 := Aside0.mk (Kept.of_below HW1.out.below O)
  clear HX HR HB HW1
  go_upto_region 4 with (go_at_call 72; (refine (turn.calls g _ _ _ _ _ s.f s.d s.c w0 _ HB1.out HG.out HX0.out HF.out HC.out).mono ?_); rintro e2 w2 ⟨rfl, hx2, hb2, hk2, hs2⟩; have HX2 := Aside0.mk hx2; have HB2 := Aside0.mk hb2; have HK2 := Aside0.mk hk2; have HS2 := Aside0.mk hs2; clear hx2 hb2 hk2 hs2)
  have HR2 := Aside0.mk (HR0.out.only HK2.out HLB.out)
  have HSZ := Aside0.mk (show w.heap.size ≤ w2.heap.size by rw [HS2.out]; exact HK1.out.1)
  have HKw := Aside0.mk (Kept.then_ HK1.out HK2.out (fun k hk => .inl (by rw [hk]; exact HO.out)))
  clear HX0 HR0 HB1 HK1 HK2 HS2
  rcases turn_cases s.f s.d s.c with ⟨e0, -⟩ | ⟨e0, -⟩
  · have HE := Aside0.mk e0
    rw [e0]
    clear e0
    go_upto_region 6 with (fail)
    have q1 : w2.cell? ⟨g, 3, none⟩ = some (.slice A1 (bytesOf s.s1).length c1) := (blk_cell HX2.out 3).trans rfl
    have HL' : (bytesOf s.s1).length ≤ 140737488355000 := by rw [bytesOf_length]; exact HL.out
    have HRC := Aside0.mk (Kd.C_below (Kd.R_reads' HR2.out.r3).2.2 (below_drew (Below.refl _ w2)))
    go_region_law (refine Kd.R_append_rows_step (Kd.int .u8) (Rr := (Kd.int .u8).K w2.drew) (W := w2.drew) (w0 := w0) w0.heap.size rfl _ _ 53 5 (.int .u8 0) 1 rfl Try.underlying53 info5 rfl (by decide) (by omega) (.slice none 0 0) [] (bytesOf s.s1) A1 (bytesOf s.s1).length c1 (fun k => w2.heap.size ≤ k) (fun _ => False) rfl rfl (Kd.R_nil _ _ _ _ _) HRC.out (fun _ _ h => h) (fun _ hk => hk.elim) (fun k hk => hk) (below_drew1 HB2.out) (below_size (below_drew1 HB2.out)) (by simp; omega) ?_; intro v1 w3 ho hb hgr hat; obtain ⟨A5, c5, e5⟩ := Kd.R_slice ho; rw [List.nil_append] at e5 ho; subst e5; have HO3 := Aside0.mk ho; have HB3 := Aside0.mk hb; have HK3 := Aside0.mk (show Kept w2 w3 (fun k => O k ∧ lab k = 2) from Kept.of_grown hgr (Kept.drew (Kept.refl w2 _)) (fun k hk => by cases hk)); have HX3 := Aside0.mk (blk_grown (blk_drew HX2.out) hgr (by intro h; cases h)); have z3 := blk_frozen HX3.out 2; have c3_ : ∃ v, w3.cell? ⟨g, 2, none⟩ = some v := ⟨_, (blk_cell HX3.out 2).trans rfl⟩; obtain ⟨v3_, c3_⟩ := c3_; clear ho hb hgr hat)
    clear q1 HL' HRC z3 c3_
    have HLB3 := Aside0.mk (show relab w2.heap.size lab 2 g = 5 by unfold relab; rw [if_pos (blk_lt HX2.out)]; exact HLB.out)
    have HR4 := Aside0.mk ((HR2.out.up2 HK3.out (Kd.R_mono HO3.out (fun k hk => .inr hk))).set HLB3.out 2 (.slice A5 (bytesOf s.s1).length c5))
    have HX4 := Aside0.mk (show (w3.setCell ⟨g, 2, none⟩ (.slice A5 (bytesOf s.s1).length c5)).heap[g]? = some (.cells (dcells x0 x1 (.slice A5 (bytesOf s.s1).length c5) (.slice A1 (bytesOf s.s1).length c1) (.slice A4 s.ws.length c4) (turn s.f s.d s.c).2.1 (turn s.f s.d s.c).2.2.1 (turn s.f s.d s.c).2.2.2) 59 (0, 0)) from blk_put HX3.out 2 _ rfl)
    have HB4 := Aside0.mk (HB3.out.setCell (p := ⟨g, 2, none⟩) HG.out (.slice A5 (bytesOf s.s1).length c5))
    have HK4 := Aside0.mk ((HKw.out.then_ HK3.out (fun k hk => .inl hk.1)).setCell (p := ⟨g, 2, none⟩) (.inl HO.out) (.slice A5 (bytesOf s.s1).length c5))
    have HS4 := Aside0.mk (show w2.heap.size ≤ (w3.setCell ⟨g, 2, none⟩ (.slice A5 (bytesOf s.s1).length c5)).heap.size by simp; exact HK3.out.1)
    clear HX2 HR2 HB2 HK3 HX3 HO3 HB3
    generalize w3.setCell ⟨g, 2, none⟩ (.slice A5 (bytesOf s.s1).length c5) = w4 at HR4 HX4 HB4 HK4 HS4 ⊢
    have q4 : w4.cell? ⟨g, 4, none⟩ = some (.slice A4 s.ws.length c4) := (blk_cell HX4.out 4).trans rfl
    have HCW := Aside0.mk (Kd.R_reads' HR4.out.r4).2.2
    go_wp2_with (fail)
    clear q4
    go_loopw [6, 36] (fun v6 v36 wr => ∃ (j : Nat), j ≤ s.ws.length ∧ v36 = .int .i64 (j : Int) ∧ Aside0 (kC.R 87 wr w4.heap.size (fun _ => True) v6 (others 1 (s.ws.take j))) ∧ Aside0 (Below w4.heap.size w4 wr)) (fun _ v36 _ => s.ws.length - (intOf v36).toNat)
    case atStart => exact ⟨0, Nat.zero_le _, rfl, ⟨Kd.R_nil _ _ _ _ _⟩, ⟨Below.refl _ _⟩⟩
    case round =>
      obtain ⟨j, hj, rfl, HOr, HBr⟩ := hrel
      obtain ⟨A6, c6, e6⟩ := Kd.R_slice HOr.out
      subst e6
      have hm := HW.out
      by_cases hlt : j < s.ws.length
      · have t_ : decide ((j : Int) < (s.ws.length : Int)) = true := decide_eq_true (by omega)
        obtain ⟨ad, hA, f0, f1, f2, f3⟩ := at_C HCW.out j hlt
        subst hA
        replace f0 := (HBr.out.cell (World.block_lt_of_cell? w4 _ f0)).trans f0
        replace f1 := (HBr.out.cell (World.block_lt_of_cell? w4 _ f1)).trans f1
        replace f2 := (HBr.out.cell (World.block_lt_of_cell? w4 _ f2)).trans f2
        replace f3 := (HBr.out.cell (World.block_lt_of_cell? w4 _ f3)).trans f3
        have HT := Aside0.mk (take_succ_chg hlt)
        have HLN := Aside0.mk (show (others 1 (s.ws.take j)).length ≤ 1000000000 by have := List.length_filter_le (fun c : Chg => c.file != 1) (s.ws.take j); rw [List.length_take] at this; unfold others; omega)
        have HTN := Aside0.mk (show others 1 (s.ws.take (j + 1)) = if ((chgAt s.ws j).file != 1) = true then others 1 (s.ws.take j) ++ [chgAt s.ws j] else others 1 (s.ws.take j) by rw [take_succ_chg hlt]; exact others_snoc _ _ _)
        clear HT
        generalize chgAt s.ws j = ch at f0 f1 f2 f3 HTN
        generalize others 1 (s.ws.take j) = ls at HOr HLN HTN
        go_upto_region 11 with ((with_reducible refine gate_dst (N := 8) rfl ?_); refine box_event ?hg (N := 8) ?hd (cs := #[.int .i64 0, .int .i64 0, .string ⟨#[]⟩, .bool false]) (t := 87) ?hr ?_; (case hd => rfl); (case hg => rfl); (case hr => first | (go_simp; done) | (go_simp; rfl)); intro gb hgb w7 hbox hb; have HXb := Aside0.mk hbox; have HBb := Aside0.mk hb; have HGb := Aside0.mk hgb; have b0 : w7.cell? ⟨gb, 0, none⟩ = some (.int .i64 0) := (blk_cell hbox 0).trans rfl; have b1 : w7.cell? ⟨gb, 1, none⟩ = some (.int .i64 0) := (blk_cell hbox 1).trans rfl; have b2 : w7.cell? ⟨gb, 2, none⟩ = some (.string ⟨#[]⟩) := (blk_cell hbox 2).trans rfl; have b3 : w7.cell? ⟨gb, 3, none⟩ = some (.bool false) := (blk_cell hbox 3).trans rfl; have y0 := blk_frozen hbox 0; have y1 := blk_frozen hbox 1; have y2 := blk_frozen hbox 2; have y3 := blk_frozen hbox 3; clear hgb hbox hb)
        have hput : (((w7.setCell ⟨gb, 0, none⟩ (.int .i64 ch.file)).setCell ⟨gb, 1, none⟩ (.int .i64 (ch.at_ : Int))).setCell ⟨gb, 2, none⟩ (.string ch.text)).setCell ⟨gb, 3, none⟩ (.bool ch.cut) = put4 w7 gb (.int .i64 ch.file) (.int .i64 (ch.at_ : Int)) (.string ch.text) (.bool ch.cut) := rfl
        rw [hput]
        clear hput
        have HX8 := Aside0.mk (put4_blk (a := .int .i64 ch.file) (b := .int .i64 (ch.at_ : Int)) (c := .string ch.text) (d := .bool ch.cut) HXb.out)
        have HB8 := Aside0.mk (HBb.out.setCell (p := ⟨gb, 0, none⟩) (by rw [HGb.out]; exact Nat.le_refl _) (.int .i64 ch.file) |>.setCell (p := ⟨gb, 1, none⟩) (by rw [HGb.out]; exact Nat.le_refl _) (.int .i64 (ch.at_ : Int)) |>.setCell (p := ⟨gb, 2, none⟩) (by rw [HGb.out]; exact Nat.le_refl _) (.string ch.text) |>.setCell (p := ⟨gb, 3, none⟩) (by rw [HGb.out]; exact Nat.le_refl _) (.bool ch.cut))
        change Aside0 (Below wr.heap.size wr (put4 w7 gb (.int .i64 ch.file) (.int .i64 (ch.at_ : Int)) (.string ch.text) (.bool ch.cut))) at HB8
        clear b0 b1 b2 b3 y0 y1 y2 y3 f0 f1 f2 f3 HXb HBb
        generalize put4 w7 gb (.int .i64 ch.file) (.int .i64 (ch.at_ : Int)) (.string ch.text) (.bool ch.cut) = w8 at HX8 HB8 ⊢
        have q0 : w8.cell? ⟨gb, 0, none⟩ = some (.int .i64 ch.file) := (blk_cell HX8.out 0).trans rfl
        have q1 : w8.cell? ⟨gb, 1, none⟩ = some (.int .i64 (ch.at_ : Int)) := (blk_cell HX8.out 1).trans rfl
        have q2 : w8.cell? ⟨gb, 2, none⟩ = some (.string ch.text) := (blk_cell HX8.out 2).trans rfl
        have q3 : w8.cell? ⟨gb, 3, none⟩ = some (.bool ch.cut) := (blk_cell HX8.out 3).trans rfl
        by_cases hne : (ch.file != 1) = true
        · have HNE := Aside0.mk hne
          have hls := HLN.out
          go_wp2_with (first
            | ((with_reducible refine gate_builtin (b := .append) (xs := #[.tmp 44, .tmp 46]) rfl ?_); at_builtin; refine Kd.R_append kC (w0 := w4) w4.heap.size rfl (.tmp 44) (.tmp 46) 57 87 (.agg #[.int .i64 0, .int .i64 0, .string ⟨#[]⟩, .bool false]) 40 rfl Try.underlying57 info172 rfl (by decide) (by omega) (.slice A6 ls.length c6) ls ch _ (fun _ => True) (fun _ => False) rfl rfl ?aP (fun _ hk => hk.elim) ?aF ?aO ?aB ?aS ?aL ?_; (case aP => exact kC_M ch); (case aB => exact below_step HBr.out HB8.out); (case aF => exact (fun _ _ => trivial)); (case aO => exact Kd.R_below HOr.out HB8.out); (case aS => exact below_size (below_step HBr.out HB8.out)); (case aL => omega); intro v1 w9 ho hb hg hat; have HO9 := Aside0.mk ho; have HB9 := Aside0.mk hb; clear ho hb hg hat))
          go_roundw
          case rel => exact ⟨j + 1, by omega, by go_num, ⟨by rw [HTN.out, if_pos HNE.out]; exact HO9.out⟩, HB9⟩
          case measure => simp [intOf]; omega
        · have hne' : (ch.file != 1) = false := by simpa using hne
          have HNE := Aside0.mk hne
          clear hne
          go_wp2_with (fail)
          go_roundw
          case rel => exact ⟨j + 1, by omega, by go_num, ⟨by rw [HTN.out, if_neg HNE.out]; exact Kd.R_below HOr.out HB8.out⟩, ⟨below_step HBr.out HB8.out⟩⟩
          case measure => simp [intOf]; omega
      · obtain rfl : j = s.ws.length := by omega
        rw [List.take_length] at HOr ⊢
        clear hlt hj
        have q4 : wr.cell? ⟨g, 4, none⟩ = some (.slice A4 s.ws.length c4) := (blk_cell (blk_below HX4.out HBr.out) 4).trans rfl
        have z4 := blk_frozen (blk_below HX4.out HBr.out) 4
        go_wp2_with (fail)
        go_ret
        have HLX := Aside0.mk (show relab w4.heap.size (relab w2.heap.size lab 2) 4 g = 5 by unfold relab; rw [if_pos (blk_lt HX4.out)]; exact HLB3.out)
        have HN4 := Aside0.mk (Kd.R_lower (Kd.R_mono (Kd.R_bound HOr.out) (ok' := fun k => ((O k ∨ w2.heap.size ≤ k) ∧ relab w2.heap.size lab 2 k = 4) ∨ w4.heap.size ≤ k) (fun k hk => .inr hk.2.1)) (below_size HB4.out))
        refine ⟨by rw [HE.out]; rfl, ?_, (below_then HB4.out (below_size HB4.out) HBr.out).setCell (p := ⟨g, 4, none⟩) HG.out _, (HK4.out.below HBr.out).setCell (p := ⟨g, 4, none⟩) (.inl HO.out) _⟩
        unfold St.synced
        rw [if_pos HE.out]
        refine DX.mono (O := fun k => (O k ∨ w2.heap.size ≤ k) ∨ w4.heap.size ≤ k) (DX.of (lab := relab w4.heap.size (relab w2.heap.size lab 2) 4) (blk_put (blk_below HX4.out HBr.out) 4 _ rfl) HG.out (.inl (.inl HO.out)) HLX.out ((HR4.out.up4 (Kept.of_below HBr.out _) HN4.out).set HLX.out 4 _) rfl (congrArg bytesOf (seenB_others_ne (by decide) s.ws s.l0)) rfl (congrArg bytesOf (seenB_others_self 1 s.ws s.s1))) ?_
        rintro k ((hk | hk) | hk)
        · exact .inl hk
        · exact .inr (Nat.le_trans HSZ.out hk)
        · exact .inr (Nat.le_trans HSZ.out (Nat.le_trans HS4.out hk))
  · have HE := Aside0.mk e0
    rw [e0]
    clear e0
    go_upto_region 5 with (fail)
    go_wp2_with (fail)
    go_ret
    refine ⟨by rw [HE.out]; rfl, DX.mono ?_ (fun k hk => .inl hk), HB2.out, HKw.out⟩
    unfold St.synced
    rw [if_neg (by rw [HE.out]; decide)]
    exact ⟨lab, _, _, _, _, _, HX2.out, HG.out, HO.out, HLB.out, HR2.out⟩
theorem at_I {w : World} {A : Option Addr} {n : Nat} {xs : List Int} (h : (Kd.int .i64).C w A n xs) (i : Nat) (h1 : i < n) : ∃ ad, A = some ad ∧ w.cell? (ad.add i) = some (.int .i64 (xs.getD i 0)) := by
  obtain ⟨ad, c, e, _, hK, hc0⟩ := Kd.C_get h 0 (i : Int) (by omega) (by omega)
  rw [Int.toNat_natCast] at hK hc0
  obtain rfl : c = [.int .i64 (xs.getD i 0)] := hK
  exact ⟨ad, e, by have := hc0 0 _ rfl; rwa [show (Kd.int .i64).sz = 1 from rfl, Nat.mul_one, Nat.add_zero] at this⟩
theorem how_keep {keep : List Int} {j : Nat} (h : 0 < keep.length) : howOf keep j = keep.getD (j % keep.length) 0 := by unfold howOf; rw [if_neg (by omega)]
theorem how_none {keep : List Int} {j : Nat} (h : keep.length = 0) : howOf keep j = 0 := by unfold howOf; rw [if_pos h]
theorem crashB_step (f : Int) (keep : List Int) {ws : List Chg} {j : Nat} (h : j < ws.length) (l : ByteArray) : crashB f keep 0 (ws.take (j + 1)) l = kept1 (howOf keep j) (chgAt ws j) f (crashB f keep 0 (ws.take j) l) := by
  rw [take_succ_chg h, crashB_snoc]
  congr 2
  rw [List.length_take]
  omega
def keptAs (h : Int) (c : Chg) : Chg := if h = 2 then halved c else c
theorem kept1_ne {h : Int} {c : Chg} {f : Int} {s : ByteArray} (hne : c.file ≠ f) : kept1 h c f s = s := if_neg (fun h => hne h.1)
theorem kept1_no {h : Int} {c : Chg} {f : Int} {s : ByteArray} (hne : ¬ (h = 1 ∨ h = 2)) : kept1 h c f s = s := if_neg (fun h => hne h.2)
theorem kept1_eq {h : Int} {c : Chg} {f : Int} {s : ByteArray} (he : c.file = f) (hy : h = 1 ∨ h = 2) : kept1 h c f s = onB (keptAs h c) s := if_pos ⟨he, hy⟩
theorem keptAs_le (h : Int) (c : Chg) : (keptAs h c).at_ = c.at_ ∧ (keptAs h c).text.size ≤ c.text.size ∧ (keptAs h c).file = c.file := by
  unfold keptAs
  split
  · exact halved_le c
  · exact ⟨rfl, Nat.le_refl _, rfl⟩
def chgCells (c : Chg) : Array Value := #[.int .i64 c.file, .int .i64 (c.at_ : Int), .string c.text, .bool c.cut]
set_option maxHeartbeats 8000000 in
set_option maxRecDepth 100000 in
theorem crash.calls (g : Nat) (O : Nat → Prop) (s : St) (m : Nat) (Ak : Option Addr) (ck : Nat) (keep : List Int) (w0 w : World) (hB : Below w0.heap.size w0 w) (hD : DD w w0.heap.size g O s) (hok : s.ok m) (hm : m ≤ 1000000000)
    (hk : ∀ W', Kept w W' O → (Kd.int .i64).C W' Ak keep.length keep) (hkl : keep.length ≤ 9223372036854775807) :
    Calls Try.prog 19 #[.pointer (some ⟨g, 0, none⟩), .slice Ak keep.length ck] w fun e w' => e = .returned (.tuple #[]) ∧
      DD w' w0.heap.size g (fun k => O k ∨ w.heap.size ≤ k) (s.crashed keep) ∧ Below w0.heap.size w0 w' ∧ Kept w w' O := by
  obtain ⟨lab, x0, x1, x2, x3, x4, hb, hg, hO, hlb, hr⟩ := hD
  have hcs := hok.c
  have hns := hok.n
  have HW := Aside0.mk (show s.ws.length ≤ 1000000000 by omega)
  have HWS := Aside0.mk hok.ws
  have HL0 := Aside0.mk hok.l0
  have HL1 := Aside0.mk hok.l1
  have HB := Aside0.mk hB
  have HG := Aside0.mk hg
  have HO := Aside0.mk hO
  have HLB := Aside0.mk hlb
  have HR := Aside0.mk hr
  have HX := Aside0.mk hb
  have HKP := Aside0.mk hk
  have HKL := Aside0.mk hkl
  clear hB hb hg hO hlb hr hok hm hcs hns hk hkl
  obtain ⟨A4, c4, e4⟩ := Kd.R_slice HR.out.r4
  subst e4
  go_enter Try.func19, Try.ntmps19
  have q4 : w.cell? ⟨g, 4, none⟩ = some (.slice A4 s.ws.length c4) := (blk_cell HX.out 4).trans rfl
  go_wp2_with (fail)
  clear q4
  go_loopw [15] (fun v15 wr => ∃ (j : Nat), j ≤ s.ws.length ∧ v15 = .int .i64 (j : Int) ∧ Aside0 (∃ lb y0 y2, wr.heap[g]? = some (.cells (dcells y0 x1 y2 x3 (.slice A4 s.ws.length c4) s.f s.d s.c) 59 (0, 0)) ∧ lb g = 5 ∧ Rws wr w0.heap.size (fun k => O k ∨ w.heap.size ≤ k) lb y0 x1 y2 x3 (.slice A4 s.ws.length c4) (bytesOf (crashB 0 keep 0 (s.ws.take j) s.l0)) (bytesOf s.s0) (bytesOf (crashB 1 keep 0 (s.ws.take j) s.l1)) (bytesOf s.s1) s.ws) ∧ Aside0 (Below w0.heap.size w0 wr) ∧ Aside0 (Kept w wr O)) (fun v15 _ => s.ws.length - (intOf v15).toNat)
  case atStart => exact ⟨0, Nat.zero_le _, rfl, ⟨lab, x0, x2, HX.out, HLB.out, HR.out.mono (fun k hk => .inl hk)⟩, HB, ⟨Kept.refl _ _⟩⟩
  case round =>
    clear HB HLB HR HX
    obtain ⟨j, hj, rfl, HDr, HBr, HKr⟩ := hrel
    obtain ⟨lb, y0, y2, hx, hlb, hr⟩ := HDr.out
    have HXr := Aside0.mk hx
    have HLr := Aside0.mk hlb
    have HRr := Aside0.mk hr
    clear HDr hx hlb hr
    obtain ⟨A0, c0, e0⟩ := Kd.R_slice HRr.out.r0
    subst e0
    obtain ⟨A2, c2, e2⟩ := Kd.R_slice HRr.out.r2
    subst e2
    have hm := HW.out
    by_cases hlt : j < s.ws.length
    · have t_ : decide ((j : Int) < (s.ws.length : Int)) = true := decide_eq_true (by omega)
      obtain ⟨ad, hA, f0, f1, f2, f3⟩ := at_C (Kd.R_reads' HRr.out.r4).2.2 j hlt
      subst hA
      have HC0 := Aside0.mk (crashB_step 0 keep hlt s.l0)
      have HC1 := Aside0.mk (crashB_step 1 keep hlt s.l1)
      have HCH := Aside0.mk (HWS.out (chgAt s.ws j) (by unfold chgAt; rw [List.getD_eq_getElem?_getD, List.getElem?_eq_getElem hlt, Option.getD_some]; exact List.getElem_mem hlt))
      have HS0 := Aside0.mk (size_crashB 0 keep (s.ws.take j) 0 s.l0 HL0.out (fun c hc => (HWS.out c (List.mem_of_mem_take hc)).2))
      have HS1 := Aside0.mk (size_crashB 1 keep (s.ws.take j) 0 s.l1 HL1.out (fun c hc => (HWS.out c (List.mem_of_mem_take hc)).2))
      generalize chgAt s.ws j = ch at f0 f1 f2 f3 HC0 HC1 HCH
      generalize crashB 0 keep 0 (s.ws.take j) s.l0 = m0 at HRr HXr HC0 HS0
      generalize crashB 1 keep 0 (s.ws.take j) s.l1 = m1 at HRr HXr HC1 HS1
      go_upto_region 3 with ((with_reducible refine gate_dst (N := 5) rfl ?_); refine box_event ?hg (N := 5) ?hd (cs := #[.int .i64 0, .int .i64 0, .string ⟨#[]⟩, .bool false]) (t := 87) ?hr ?_; (case hd => rfl); (case hg => rfl); (case hr => first | (go_simp; done) | (go_simp; rfl)); intro gb hgb w7 hbox hb; have HXb := Aside0.mk hbox; have HBb := Aside0.mk hb; have HGb := Aside0.mk hgb; have b0 : w7.cell? ⟨gb, 0, none⟩ = some (.int .i64 0) := (blk_cell hbox 0).trans rfl; have b1 : w7.cell? ⟨gb, 1, none⟩ = some (.int .i64 0) := (blk_cell hbox 1).trans rfl; have b2 : w7.cell? ⟨gb, 2, none⟩ = some (.string ⟨#[]⟩) := (blk_cell hbox 2).trans rfl; have b3 : w7.cell? ⟨gb, 3, none⟩ = some (.bool false) := (blk_cell hbox 3).trans rfl; have y0 := blk_frozen hbox 0; have y1 := blk_frozen hbox 1; have y2 := blk_frozen hbox 2; have y3 := blk_frozen hbox 3; clear hgb hbox hb)
      have hput : (((w7.setCell ⟨gb, 0, none⟩ (.int .i64 ch.file)).setCell ⟨gb, 1, none⟩ (.int .i64 (ch.at_ : Int))).setCell ⟨gb, 2, none⟩ (.string ch.text)).setCell ⟨gb, 3, none⟩ (.bool ch.cut) = put4 w7 gb (.int .i64 ch.file) (.int .i64 (ch.at_ : Int)) (.string ch.text) (.bool ch.cut) := rfl
      rw [hput]
      clear hput
      have HX8 := Aside0.mk (put4_blk (a := .int .i64 ch.file) (b := .int .i64 (ch.at_ : Int)) (c := .string ch.text) (d := .bool ch.cut) HXb.out)
      have HB8 := Aside0.mk (HBb.out.setCell (p := ⟨gb, 0, none⟩) (by rw [HGb.out]; exact Nat.le_refl _) (.int .i64 ch.file) |>.setCell (p := ⟨gb, 1, none⟩) (by rw [HGb.out]; exact Nat.le_refl _) (.int .i64 (ch.at_ : Int)) |>.setCell (p := ⟨gb, 2, none⟩) (by rw [HGb.out]; exact Nat.le_refl _) (.string ch.text) |>.setCell (p := ⟨gb, 3, none⟩) (by rw [HGb.out]; exact Nat.le_refl _) (.bool ch.cut))
      change Aside0 (Below wr.heap.size wr (put4 w7 gb (.int .i64 ch.file) (.int .i64 (ch.at_ : Int)) (.string ch.text) (.bool ch.cut))) at HB8
      clear b0 b1 b2 b3 y0 y1 y2 y3 f0 f1 f2 f3 HXb HBb
      generalize put4 w7 gb (.int .i64 ch.file) (.int .i64 (ch.at_ : Int)) (.string ch.text) (.bool ch.cut) = w8 at HX8 HB8 ⊢
      have q0 : w8.cell? ⟨gb, 0, none⟩ = some (.int .i64 ch.file) := (blk_cell HX8.out 0).trans rfl
      have q1 : w8.cell? ⟨gb, 1, none⟩ = some (.int .i64 (ch.at_ : Int)) := (blk_cell HX8.out 1).trans rfl
      have q2 : w8.cell? ⟨gb, 2, none⟩ = some (.string ch.text) := (blk_cell HX8.out 2).trans rfl
      have q3 : w8.cell? ⟨gb, 3, none⟩ = some (.bool ch.cut) := (blk_cell HX8.out 3).trans rfl
      have HKb := Aside0.mk (HKr.out.below HB8.out)
      have HKC := Aside0.mk (HKP.out _ HKb.out)
      have HHW := Aside0.mk (show ∃ h, h = howOf keep j from ⟨_, rfl⟩)
      clear q0 q1 q2 q3
      go_upto_if 22 with (fail)
      go_cut [6] from 22 to 29 (fun v6 wx => v6 = .int .i64 (howOf keep j) ∧ w8 = wx)
      case first =>
        by_cases hk0 : keep.length = 0
        · have e_ : howOf keep j = 0 := how_none hk0
          have HEE := Aside0.mk e_
          have g_ : decide ((keep.length : Int) > 0) = false := decide_eq_false (by omega)
          have g2_ : ¬ 0 < keep.length := by omega
          have g3_ : decide (0 < keep.length) = false := decide_eq_false g2_
          have g4_ : ¬ (0 : Int) < (keep.length : Int) := by omega
          clear hk0 e_
          go_wp2_with (fail)
          go_meet
          case rel => exact ⟨by rw [HEE.out], rfl⟩
        · have e_ : howOf keep j = keep.getD (j % keep.length) 0 := how_keep (by omega)
          have HEE := Aside0.mk e_
          have g_ : decide ((keep.length : Int) > 0) = true := decide_eq_true (by omega)
          have g2_ : 0 < keep.length := by omega
          have g3_ : decide (0 < keep.length) = true := decide_eq_true g2_
          have hlt2 : j % keep.length < keep.length := Nat.mod_lt _ (by omega)
          obtain ⟨adk, hAk, fk⟩ := at_I HKC.out (j % keep.length) hlt2
          subst hAk
          have m_ : Int.tmod (j : Int) (keep.length : Int) = ((j % keep.length : Nat) : Int) := (Int.ofNat_tmod j keep.length).symm
          have hkl := HKL.out
          have m0_ : ¬ ((keep.length : Int) = 0) := by omega
          have m1_ : ((keep.length : Int) == 0) = false := by simpa using m0_
          have m2_ : IntKind.i64.wrap ((j % keep.length : Nat) : Int) = ((j % keep.length : Nat) : Int) := IntWalk.i64_in _ (by omega)
          generalize j % keep.length = jk at *
          generalize keep.getD jk 0 = kv at fk HEE
          clear hk0 e_
          go_wp2_with (fail)
          go_meet
          case rel => exact ⟨by rw [HEE.out], rfl⟩
      case rest =>
        obtain ⟨rfl, hw⟩ := hcut
        subst hw
        clear HHW HKC
        have HRn := Aside0.mk (HRr.out.narrow.below HB8.out)
        have HXn := Aside0.mk (blk_below HXr.out HB8.out)
        have HNEg := Aside0.mk (show gb ≠ g by rw [HGb.out]; exact Nat.ne_of_gt (blk_lt HXr.out))
        have HGw := Aside0.mk (show w0.heap.size ≤ gb by rw [HGb.out]; exact HBr.out.size)
        have HGk := Aside0.mk (show w.heap.size ≤ gb by rw [HGb.out]; exact HKr.out.1)
        have HBn := Aside0.mk (below_step HBr.out HB8.out)
        have HNB := Aside0.mk (show ∀ k, ((O k ∨ w.heap.size ≤ k) ∧ k < wr.heap.size) → k ≠ gb from fun k hk he => by have h1 := hk.2; rw [he, HGb.out] at h1; exact Nat.lt_irrefl _ h1)
        clear HB8 HRr HXr HBr HKr
        generalize howOf keep j = h at HC0 HC1 ⊢
        have q3 : w8.cell? ⟨gb, 3, none⟩ = some (.bool ch.cut) := (blk_cell HX8.out 3).trans rfl
        go_upto_region 6 with (fail)
        go_cut [36] from 30 to 36 (fun v36 wx => v36 = .bool (decide (h = 2 ∧ ch.cut = false)) ∧ w8 = wx)
        case first =>
          by_cases h2 : h = 2
          · subst h2
            by_cases hcc : ch.cut = false
            · rw [hcc] at q3
              have HCC := Aside0.mk hcc
              clear hcc
              go_wp2_with (fail)
              go_meet
              case rel => exact ⟨by have hq := HCC.out; simp [hq], rfl⟩
            · have hcc' : ch.cut = true := by simpa using hcc
              rw [hcc'] at q3
              have HCC := Aside0.mk hcc
              clear hcc'
              clear hcc
              go_wp2_with (fail)
              go_meet
              case rel => exact ⟨by rw [decide_eq_false (fun hh => HCC.out hh.2)], rfl⟩
          · have e2 : (h == 2) = false := beq_false h2
            have HN2 := Aside0.mk h2
            clear h2
            go_wp2_with (fail)
            go_meet
            case rel => exact ⟨by rw [decide_eq_false (fun hh => HN2.out hh.1)], rfl⟩
        case rest =>
        obtain ⟨rfl, hw⟩ := hcut
        subst hw
        clear q3
        go_upto_if 36 with (fail)
        go_cut [] from 36 to 44 (fun wx => Aside0 (wx.heap[gb]? = some (.cells (chgCells (keptAs h ch)) 87 (0, 0))) ∧ Aside0 (Kept w8 wx (fun k => k = gb)) ∧ Aside0 (Below w0.heap.size w0 wx) ∧ Aside0 (Kept w wx O))
        case first =>
          have q2 : w8.cell? ⟨gb, 2, none⟩ = some (.string ch.text) := (blk_cell HX8.out 2).trans rfl
          have z2 := blk_frozen HX8.out 2
          by_cases h2 : h = 2 ∧ ch.cut = false
          · have HH2 := Aside0.mk h2
            have g_ : decide (h = 2 ∧ ch.cut = false) = true := decide_eq_true h2
            rw [g_]
            clear g_ h2
            have s_ : ch.text.size ≤ 67108864 := by have := HCH.out.2; unfold maxFile at this; omega
            have d_ : Int.tdiv (ch.text.size : Int) 2 = ((ch.text.size / 2 : Nat) : Int) := rfl
            have w_ : IntKind.i64.wrap ((ch.text.size / 2 : Nat) : Int) = ((ch.text.size / 2 : Nat) : Int) := IntWalk.i64_in _ (by omega)
            have l_ : ch.text.size / 2 ≤ ch.text.size := by omega
            go_wp2_with (fail)
            go_meet
            case rel => exact ⟨⟨by
              have hp := blk_put HX8.out 2 (.string (ch.text.extract 0 (ch.text.size / 2))) rfl
              have hk2 : keptAs h ch = { ch with text := ch.text.extract 0 (ch.text.size / 2) } := by
                unfold keptAs halved
                rw [if_pos HH2.out.1, if_neg (by rw [HH2.out.2]; decide)]
              rw [hk2]
              exact hp⟩, ⟨set_kept⟩, ⟨HBn.out.setCell (p := ⟨gb, 2, none⟩) HGw.out _⟩, ⟨HKb.out.setCell (p := ⟨gb, 2, none⟩) (.inr HGk.out) _⟩⟩
          · have HH2 := Aside0.mk h2
            have g_ : decide (h = 2 ∧ ch.cut = false) = false := decide_eq_false h2
            rw [g_]
            clear g_ h2
            go_wp2_with (fail)
            go_meet
            case rel => exact ⟨⟨by
              have hk2 : keptAs h ch = ch := by
                unfold keptAs halved
                split
                · rename_i h3
                  rw [if_pos]
                  cases hc : ch.cut
                  · exact absurd ⟨h3, hc⟩ HH2.out
                  · rfl
                · rfl
              rw [hk2]
              exact HX8.out⟩, ⟨Kept.refl _ _⟩, HBn, HKb⟩
        case rest =>
        obtain ⟨HXb, HK9, HB9, HKw9⟩ := hcut
        have HR9 := Aside0.mk (show Rws wc w0.heap.size (fun k => (O k ∨ w.heap.size ≤ k) ∧ k < wr.heap.size) lb _ x1 _ x3 _ (bytesOf m0) _ (bytesOf m1) _ s.ws from HRn.out.apart HK9.out HNB.out)
        have HX9 := Aside0.mk (blk_kept HXn.out HK9.out (fun he => HNEg.out he.symm))
        have HS9 := Aside0.mk (show w.heap.size ≤ wc.heap.size from HKw9.out.1)
        clear HX8 HK9 HRn HXn HBn HKb
        go_upto_region 8 with (fail)
        go_cut [50] from 45 to 50 (fun v50 wx => v50 = .bool (decide (h = 1 ∨ h = 2)) ∧ wc = wx)
        case first =>
          by_cases h1 : h = 1
          · subst h1
            go_wp2_with (fail)
            go_meet
            case rel => exact ⟨by simp, rfl⟩
          · by_cases h2 : h = 2
            · subst h2
              go_wp2_with (fail)
              go_meet
              case rel => exact ⟨by simp, rfl⟩
            · have e1 : (h == 1) = false := beq_false h1
              have e2 : (h == 2) = false := beq_false h2
              have HN := Aside0.mk (show ¬ (h = 1 ∨ h = 2) from fun hh => hh.elim h1 h2)
              clear h1 h2
              go_wp2_with (fail)
              go_meet
              case rel => exact ⟨by rw [decide_eq_false HN.out], rfl⟩
        case rest =>
        obtain ⟨rfl, hw⟩ := hcut
        subst hw
        go_upto_if 50 with (fail)
        by_cases hy : h = 1 ∨ h = 2
        · rw [decide_eq_true hy]
          have HY := Aside0.mk hy
          clear hy
          have HLE := Aside0.mk (keptAs_le h ch)
          obtain ⟨c2_, hc2⟩ : ∃ c2_, c2_ = keptAs h ch := ⟨_, rfl⟩
          rw [← hc2] at HXb HLE
          have HC2 := Aside0.mk hc2
          clear hc2
          obtain ⟨f2, a2, t2, u2⟩ := c2_
          have HAT := Aside0.mk (show a2 + t2.size ≤ 67108864 by have h1 := HLE.out; have h2 := HCH.out.2; unfold maxFile at h2; dsimp only at h1; omega)
          have HFF := Aside0.mk (show f2 = ch.file from HLE.out.2.2)
          have HSm0 := Aside0.mk (show m0.size ≤ 67108864 from HS0.out)
          have HSm1 := Aside0.mk (show m1.size ≤ 67108864 from HS1.out)
          clear HLE
          rcases HCH.out.1 with hf | hf
          · have HCF := Aside0.mk hf
            obtain rfl : f2 = 0 := HFF.out.trans hf
            clear hf
            have q0 : wc.cell? ⟨gb, 0, none⟩ = some (.int .i64 0) := (blk_cell HXb.out 0).trans rfl
            have q1 : wc.cell? ⟨gb, 1, none⟩ = some (.int .i64 (a2 : Int)) := (blk_cell HXb.out 1).trans rfl
            have q2 : wc.cell? ⟨gb, 2, none⟩ = some (.string t2) := (blk_cell HXb.out 2).trans rfl
            have q3 : wc.cell? ⟨gb, 3, none⟩ = some (.bool u2) := (blk_cell HXb.out 3).trans rfl
            go_upto_region 9 with (fail)
            go_quiet (fail)
            go_upto_region 10 with (fail)
            clear q0 q1 q2 q3
            have HXc := Aside0.mk (blk_drewN HXb.out nq)
            have HX5 := Aside0.mk (blk_drewN HX9.out nq)
            have HR5 := Aside0.mk (HR9.out.below (pw_below_drewN (Below.refl _ wc) nq))
            have HB5 := Aside0.mk (pw_below_drewN HB9.out nq)
            have HK5 := Aside0.mk (Kept.drewN HKw9.out nq)
            have HS5 := Aside0.mk (show w.heap.size ≤ (wc.drewN nq).heap.size from HS9.out)
            clear HXb HX9 HR9 HB9 HKw9 HS9
            generalize wc.drewN nq = w5 at HXc HX5 HR5 HB5 HK5 HS5 ⊢
            have q0 : w5.cell? ⟨gb, 0, none⟩ = some (.int .i64 0) := (blk_cell HXc.out 0).trans rfl
            have q1 : w5.cell? ⟨gb, 1, none⟩ = some (.int .i64 (a2 : Int)) := (blk_cell HXc.out 1).trans rfl
            have q2 : w5.cell? ⟨gb, 2, none⟩ = some (.string t2) := (blk_cell HXc.out 2).trans rfl
            have q3 : w5.cell? ⟨gb, 3, none⟩ = some (.bool u2) := (blk_cell HXc.out 3).trans rfl
            have q4 : w5.cell? ⟨g, 0, none⟩ = some (.slice A0 (bytesOf m0).length c0) := (blk_cell HX5.out 0).trans rfl
            go_region_law (first
              | (refine goes_ Try.func41 (by kernel_rfl) rfl #[chgV ⟨0, a2, t2, u2⟩, .slice A0 (bytesOf m0).length c0] (by rfl) rfl rfl (by (try simp only [List.map_toArray, List.map_cons, List.map_nil]); first | done | rfl) ?_; refine (done.calls _ _ _ ⟨0, a2, t2, u2⟩ w0 _ (below_drew1 HB5.out) (Kd.R_drew HR5.out.r0) (Nat.le_trans HAT.out (by decide)) (by rw [bytesOf_length]; exact Nat.le_trans HSm0.out (by decide))).mono ?_; rintro e w6 ⟨v6, rfl, ho, hb, hk⟩; obtain ⟨A6, c6, e6⟩ := Kd.R_slice ho; subst e6; refine ⟨_, rfl, ?_⟩; have HO9 := Aside0.mk ho; have HB6 := Aside0.mk hb; have HK6 := Aside0.mk hk; have HXA := Aside0.mk (blk_kept (blk_drew HX5.out) hk (fun he => absurd (HLr.out.symm.trans he.2) (by decide))); have z6 := blk_frozen HXA.out 0; have c6_ : w6.cell? ⟨g, 0, none⟩ = some (.slice A0 (bytesOf m0).length c0) := (blk_cell HXA.out 0).trans rfl; clear ho hb hk))
            all_goals
              clear q0 q1 q2 q3 q4
              go_wp2_with (fail)
              have HL9 := Aside0.mk (show relab w5.drew.heap.size lb 0 g = 5 by unfold relab; rw [if_pos (blk_lt (blk_drew HX5.out))]; exact HLr.out)
              have HRF := Aside0.mk ((((HR5.out.below (below_drew (Below.refl _ w5))).up0 HK6.out HO9.out).set HL9.out 0 (.slice A6 (doneL (bytesOf m0) a2 t2 u2).length c6)).mono (O' := fun k => O k ∨ w.heap.size ≤ k) (fun k hk => hk.elim (fun h1 => h1.1) (fun h1 => .inr (Nat.le_trans HS5.out h1))))
              have HXF := Aside0.mk (blk_put HXA.out 0 (.slice A6 (doneL (bytesOf m0) a2 t2 u2).length c6) rfl)
              have HBF := Aside0.mk (HB6.out.setCell (p := ⟨g, 0, none⟩) HG.out (.slice A6 (doneL (bytesOf m0) a2 t2 u2).length c6))
              have HKF := Aside0.mk (((Kept.drew HK5.out).then_ HK6.out (fun k hk => hk.1.1)).setCell (p := ⟨g, 0, none⟩) (.inl HO.out) (.slice A6 (doneL (bytesOf m0) a2 t2 u2).length c6))
              go_roundw
              case rel =>
                refine ⟨j + 1, by omega, by go_num, ⟨?_⟩, HBF, HKF⟩
                rw [HC0.out, HC1.out, kept1_eq HCF.out HY.out, kept1_ne (f := 1) (by rw [HCF.out]; decide), ← HC2.out, bytesOf_onB]
                exact ⟨_, _, _, HXF.out, HL9.out, HRF.out⟩
              case measure => simp [intOf]; omega
          · have HCF := Aside0.mk hf
            obtain rfl : f2 = 1 := HFF.out.trans hf
            clear hf
            have q0 : wc.cell? ⟨gb, 0, none⟩ = some (.int .i64 1) := (blk_cell HXb.out 0).trans rfl
            have q1 : wc.cell? ⟨gb, 1, none⟩ = some (.int .i64 (a2 : Int)) := (blk_cell HXb.out 1).trans rfl
            have q2 : wc.cell? ⟨gb, 2, none⟩ = some (.string t2) := (blk_cell HXb.out 2).trans rfl
            have q3 : wc.cell? ⟨gb, 3, none⟩ = some (.bool u2) := (blk_cell HXb.out 3).trans rfl
            go_upto_region 9 with (fail)
            go_quiet (fail)
            go_upto_region 10 with (fail)
            clear q0 q1 q2 q3
            have HXc := Aside0.mk (blk_drewN HXb.out nq)
            have HX5 := Aside0.mk (blk_drewN HX9.out nq)
            have HR5 := Aside0.mk (HR9.out.below (pw_below_drewN (Below.refl _ wc) nq))
            have HB5 := Aside0.mk (pw_below_drewN HB9.out nq)
            have HK5 := Aside0.mk (Kept.drewN HKw9.out nq)
            have HS5 := Aside0.mk (show w.heap.size ≤ (wc.drewN nq).heap.size from HS9.out)
            clear HXb HX9 HR9 HB9 HKw9 HS9
            generalize wc.drewN nq = w5 at HXc HX5 HR5 HB5 HK5 HS5 ⊢
            have q0 : w5.cell? ⟨gb, 0, none⟩ = some (.int .i64 1) := (blk_cell HXc.out 0).trans rfl
            have q1 : w5.cell? ⟨gb, 1, none⟩ = some (.int .i64 (a2 : Int)) := (blk_cell HXc.out 1).trans rfl
            have q2 : w5.cell? ⟨gb, 2, none⟩ = some (.string t2) := (blk_cell HXc.out 2).trans rfl
            have q3 : w5.cell? ⟨gb, 3, none⟩ = some (.bool u2) := (blk_cell HXc.out 3).trans rfl
            have q4 : w5.cell? ⟨g, 2, none⟩ = some (.slice A2 (bytesOf m1).length c2) := (blk_cell HX5.out 2).trans rfl
            go_region_law (first
              | (refine goes_ Try.func41 (by kernel_rfl) rfl #[chgV ⟨1, a2, t2, u2⟩, .slice A2 (bytesOf m1).length c2] (by rfl) rfl rfl (by (try simp only [List.map_toArray, List.map_cons, List.map_nil]); first | done | rfl) ?_; refine (done.calls _ _ _ ⟨1, a2, t2, u2⟩ w0 _ (below_drew1 HB5.out) (Kd.R_drew HR5.out.r2) (Nat.le_trans HAT.out (by decide)) (by rw [bytesOf_length]; exact Nat.le_trans HSm1.out (by decide))).mono ?_; rintro e w6 ⟨v6, rfl, ho, hb, hk⟩; obtain ⟨A6, c6, e6⟩ := Kd.R_slice ho; subst e6; refine ⟨_, rfl, ?_⟩; have HO9 := Aside0.mk ho; have HB6 := Aside0.mk hb; have HK6 := Aside0.mk hk; have HXA := Aside0.mk (blk_kept (blk_drew HX5.out) hk (fun he => absurd (HLr.out.symm.trans he.2) (by decide))); have z6 := blk_frozen HXA.out 2; have c6_ : w6.cell? ⟨g, 2, none⟩ = some (.slice A2 (bytesOf m1).length c2) := (blk_cell HXA.out 2).trans rfl; clear ho hb hk))
            all_goals
              clear q0 q1 q2 q3 q4
              go_wp2_with (fail)
              have HL9 := Aside0.mk (show relab w5.drew.heap.size lb 2 g = 5 by unfold relab; rw [if_pos (blk_lt (blk_drew HX5.out))]; exact HLr.out)
              have HRF := Aside0.mk ((((HR5.out.below (below_drew (Below.refl _ w5))).up2 HK6.out HO9.out).set HL9.out 2 (.slice A6 (doneL (bytesOf m1) a2 t2 u2).length c6)).mono (O' := fun k => O k ∨ w.heap.size ≤ k) (fun k hk => hk.elim (fun h1 => h1.1) (fun h1 => .inr (Nat.le_trans HS5.out h1))))
              have HXF := Aside0.mk (blk_put HXA.out 2 (.slice A6 (doneL (bytesOf m1) a2 t2 u2).length c6) rfl)
              have HBF := Aside0.mk (HB6.out.setCell (p := ⟨g, 2, none⟩) HG.out (.slice A6 (doneL (bytesOf m1) a2 t2 u2).length c6))
              have HKF := Aside0.mk (((Kept.drew HK5.out).then_ HK6.out (fun k hk => hk.1.1)).setCell (p := ⟨g, 2, none⟩) (.inl HO.out) (.slice A6 (doneL (bytesOf m1) a2 t2 u2).length c6))
              go_roundw
              case rel =>
                refine ⟨j + 1, by omega, by go_num, ⟨?_⟩, HBF, HKF⟩
                rw [HC0.out, HC1.out, kept1_ne (f := 0) (by rw [HCF.out]; decide), kept1_eq HCF.out HY.out, ← HC2.out, bytesOf_onB]
                exact ⟨_, _, _, HXF.out, HL9.out, HRF.out⟩
              case measure => simp [intOf]; omega
        · rw [decide_eq_false hy]
          have HY := Aside0.mk hy
          clear hy
          go_wp2_with (fail)
          go_roundw
          case rel => exact ⟨j + 1, by omega, by go_num, ⟨by rw [HC0.out, HC1.out, kept1_no HY.out, kept1_no HY.out]; exact ⟨_, _, _, HX9.out, HLr.out, HR9.out.mono (fun k hk => hk.1)⟩⟩, HB9, HKw9⟩
          case measure => simp [intOf]; omega
    · obtain rfl : j = s.ws.length := by omega
      rw [List.take_length] at HRr
      rw [List.take_length] at HXr
      clear hlt hj
      have HS0 := Aside0.mk (size_crashB 0 keep s.ws 0 s.l0 HL0.out (fun c hc => (HWS.out c hc).2))
      have HS1 := Aside0.mk (size_crashB 1 keep s.ws 0 s.l1 HL1.out (fun c hc => (HWS.out c hc).2))
      have HM0 := Aside0.mk (show ∃ m0, m0 = crashB 0 keep 0 s.ws s.l0 from ⟨_, rfl⟩)
      have HM1 := Aside0.mk (show ∃ m1, m1 = crashB 1 keep 0 s.ws s.l1 from ⟨_, rfl⟩)
      obtain ⟨m0, hm0⟩ := HM0.out
      obtain ⟨m1, hm1⟩ := HM1.out
      rw [← hm0] at HRr HXr HS0
      rw [← hm1] at HRr HXr HS1
      replace HM0 := Aside0.mk hm0
      replace HM1 := Aside0.mk hm1
      clear hm0 hm1
      go_wp2_with (fail)
      have HBS := Aside0.mk (show w.heap.size ≤ wr.heap.size from HKr.out.1)
      go_loopw [67] (fun v67 ws2 => ∃ (i : Nat), i ≤ 2 ∧ v67 = .int .i64 (i : Int) ∧ Aside0 (∃ lb z1 z3, ws2.heap[g]? = some (.cells (dcells (.slice A0 (bytesOf m0).length c0) z1 (.slice A2 (bytesOf m1).length c2) z3 (.slice A4 s.ws.length c4) s.f s.d s.c) 59 (0, 0)) ∧ lb g = 5 ∧ Rws ws2 w0.heap.size (fun k => O k ∨ w.heap.size ≤ k) lb (.slice A0 (bytesOf m0).length c0) z1 (.slice A2 (bytesOf m1).length c2) z3 (.slice A4 s.ws.length c4) (bytesOf m0) (bytesOf (if 1 ≤ i then m0 else s.s0)) (bytesOf m1) (bytesOf (if 2 ≤ i then m1 else s.s1)) s.ws) ∧ Aside0 (Below w0.heap.size w0 ws2) ∧ Aside0 (Kept w ws2 O)) (fun v67 _ => 2 - (intOf v67).toNat)
      case atStart => exact ⟨0, Nat.zero_le _, rfl, ⟨lb, x1, x3, HXr.out, HLr.out, HRr.out⟩, HBr, HKr⟩
      case round =>
        clear HBr HKr HXr HLr HRr HBS
        obtain ⟨i, hi, rfl, HD2, HB2, HK2⟩ := hrel
        obtain ⟨lb2, z1, z3, hx, hlb, hr⟩ := HD2.out
        have HX2 := Aside0.mk hx
        have HL2 := Aside0.mk hlb
        have HR2 := Aside0.mk hr
        have HS2 := Aside0.mk (show w.heap.size ≤ wr.heap.size from HK2.out.1)
        clear HD2 hx hlb hr
        rcases (show i = 0 ∨ i = 1 ∨ i = 2 by omega) with rfl | rfl | rfl
        · have q0 : wr.cell? ⟨g, 0, none⟩ = some (.slice A0 (bytesOf m0).length c0) := (blk_cell HX2.out 0).trans rfl
          have hl_ : (bytesOf m0).length ≤ 140737488355000 := by rw [bytesOf_length]; exact Nat.le_trans HS0.out (by decide)
          have HRC := Aside0.mk (Kd.R_reads' HR2.out.r0).2.2
          go_wp2_with (first
            | ((with_reducible refine gate_builtin (b := .append) (xs := #[.const (.slice none 0 0), .tmp 79]) rfl ?_); at_builtin; refine Kd.R_append_rows (Kd.int .u8) (Rr := (Kd.int .u8).K wr) (W := wr) (w0 := w0) w0.heap.size rfl _ _ 53 5 (.int .u8 0) 1 rfl Try.underlying53 info5 rfl (by decide) (by omega) (.slice none 0 0) [] (bytesOf m0) A0 (bytesOf m0).length c0 (fun k => wr.heap.size ≤ k) (fun _ => False) rfl rfl (Kd.R_nil _ _ _ _ _) HRC.out (fun _ _ h => h) (fun _ hk => hk.elim) (fun k hk => hk) HB2.out (below_size HB2.out) (by simp; omega) ?_; intro v1 w3 ho hb hgr hat; obtain ⟨A5, c5, e5⟩ := Kd.R_slice ho; rw [List.nil_append] at e5 ho; subst e5; have HO3 := Aside0.mk ho; have HB3 := Aside0.mk hb; have HK3 := Aside0.mk (show Kept wr w3 (fun k => (O k ∨ w.heap.size ≤ k) ∧ lb2 k = 1) from Kept.of_grown hgr (Kept.refl wr _) (fun k hk => by cases hk)); have HX3 := Aside0.mk (blk_grown HX2.out hgr (by intro h; cases h)); have y3 := blk_frozen HX3.out 1; have d3_ : ∃ v, w3.cell? ⟨g, 1, none⟩ = some v := ⟨_, (blk_cell HX3.out 1).trans rfl⟩; obtain ⟨v3_, d3_⟩ := d3_; clear ho hb hgr hat))
          have HL9 := Aside0.mk (show relab wr.heap.size lb2 1 g = 5 by unfold relab; rw [if_pos (blk_lt HX2.out)]; exact HL2.out)
          have HRF := Aside0.mk (((HR2.out.up1 HK3.out (Kd.R_mono HO3.out (fun k hk => .inr hk))).set HL9.out 1 (.slice A5 (bytesOf m0).length c5)).mono (O' := fun k => O k ∨ w.heap.size ≤ k) (fun k hk => hk.elim id (fun h1 => .inr (Nat.le_trans HS2.out h1))))
          have HXF := Aside0.mk (blk_put HX3.out 1 (.slice A5 (bytesOf m0).length c5) rfl)
          have HBF := Aside0.mk (HB3.out.setCell (p := ⟨g, 1, none⟩) HG.out (.slice A5 (bytesOf m0).length c5))
          have HKF := Aside0.mk ((HK2.out.then_ HK3.out (fun k hk => hk.1)).setCell (p := ⟨g, 1, none⟩) (.inl HO.out) (.slice A5 (bytesOf m0).length c5))
          go_roundw
          case rel => exact ⟨0 + 1, by omega, by go_num, ⟨_, _, _, HXF.out, HL9.out, HRF.out⟩, HBF, HKF⟩
          case measure => simp [intOf]
        · have q0 : wr.cell? ⟨g, 2, none⟩ = some (.slice A2 (bytesOf m1).length c2) := (blk_cell HX2.out 2).trans rfl
          have hl_ : (bytesOf m1).length ≤ 140737488355000 := by rw [bytesOf_length]; exact Nat.le_trans HS1.out (by decide)
          have HRC := Aside0.mk (Kd.R_reads' HR2.out.r2).2.2
          go_wp2_with (first
            | ((with_reducible refine gate_builtin (b := .append) (xs := #[.const (.slice none 0 0), .tmp 79]) rfl ?_); at_builtin; refine Kd.R_append_rows (Kd.int .u8) (Rr := (Kd.int .u8).K wr) (W := wr) (w0 := w0) w0.heap.size rfl _ _ 53 5 (.int .u8 0) 1 rfl Try.underlying53 info5 rfl (by decide) (by omega) (.slice none 0 0) [] (bytesOf m1) A2 (bytesOf m1).length c2 (fun k => wr.heap.size ≤ k) (fun _ => False) rfl rfl (Kd.R_nil _ _ _ _ _) HRC.out (fun _ _ h => h) (fun _ hk => hk.elim) (fun k hk => hk) HB2.out (below_size HB2.out) (by simp; omega) ?_; intro v1 w3 ho hb hgr hat; obtain ⟨A5, c5, e5⟩ := Kd.R_slice ho; rw [List.nil_append] at e5 ho; subst e5; have HO3 := Aside0.mk ho; have HB3 := Aside0.mk hb; have HK3 := Aside0.mk (show Kept wr w3 (fun k => (O k ∨ w.heap.size ≤ k) ∧ lb2 k = 3) from Kept.of_grown hgr (Kept.refl wr _) (fun k hk => by cases hk)); have HX3 := Aside0.mk (blk_grown HX2.out hgr (by intro h; cases h)); have y3 := blk_frozen HX3.out 3; have d3_ : ∃ v, w3.cell? ⟨g, 3, none⟩ = some v := ⟨_, (blk_cell HX3.out 3).trans rfl⟩; obtain ⟨v3_, d3_⟩ := d3_; clear ho hb hgr hat))
          have HL9 := Aside0.mk (show relab wr.heap.size lb2 3 g = 5 by unfold relab; rw [if_pos (blk_lt HX2.out)]; exact HL2.out)
          have HRF := Aside0.mk (((HR2.out.up3 HK3.out (Kd.R_mono HO3.out (fun k hk => .inr hk))).set HL9.out 3 (.slice A5 (bytesOf m1).length c5)).mono (O' := fun k => O k ∨ w.heap.size ≤ k) (fun k hk => hk.elim id (fun h1 => .inr (Nat.le_trans HS2.out h1))))
          have HXF := Aside0.mk (blk_put HX3.out 3 (.slice A5 (bytesOf m1).length c5) rfl)
          have HBF := Aside0.mk (HB3.out.setCell (p := ⟨g, 3, none⟩) HG.out (.slice A5 (bytesOf m1).length c5))
          have HKF := Aside0.mk ((HK2.out.then_ HK3.out (fun k hk => hk.1)).setCell (p := ⟨g, 3, none⟩) (.inl HO.out) (.slice A5 (bytesOf m1).length c5))
          go_roundw
          case rel => exact ⟨1 + 1, by omega, by go_num, ⟨_, _, _, HXF.out, HL9.out, HRF.out⟩, HBF, HKF⟩
          case measure => simp [intOf]
        · rw [if_pos (by decide), if_pos (by decide)] at HR2
          have p4 : ∃ v, wr.cell? ⟨g, 4, none⟩ = some v := ⟨_, (blk_cell HX2.out 4).trans rfl⟩
          have p5 : ∃ v, wr.cell? ⟨g, 5, none⟩ = some v := ⟨_, (blk_cell HX2.out 5).trans rfl⟩
          have p6 : ∃ v, wr.cell? ⟨g, 6, none⟩ = some v := ⟨_, (blk_cell HX2.out 6).trans rfl⟩
          obtain ⟨v4, p4⟩ := p4
          obtain ⟨v5, p5⟩ := p5
          obtain ⟨v6, p6⟩ := p6
          have z4 := blk_frozen HX2.out 4
          have z5 := blk_frozen HX2.out 5
          have z6 := blk_frozen HX2.out 6
          go_wp2_with (fail)
          refine bodyPost_end (v := .tuple #[]) (by first | rfl | (simp [results, Try.f19]; done) | (simp [results, Try.f19]; rfl)) rfl ?_
          refine ⟨rfl, ?_, ((HB2.out.setCell (p := ⟨g, 4, none⟩) HG.out _).setCell (p := ⟨g, 5, none⟩) HG.out _).setCell (p := ⟨g, 6, none⟩) HG.out _, ((HK2.out.setCell (p := ⟨g, 4, none⟩) (.inl HO.out) _).setCell (p := ⟨g, 5, none⟩) (.inl HO.out) _).setCell (p := ⟨g, 6, none⟩) (.inl HO.out) _⟩
          have hR := HR2.out
          have hR' : Rws wr w0.heap.size (fun k => O k ∨ w.heap.size ≤ k) lb2 (.slice A0 (bytesOf m0).length c0) z1 (.slice A2 (bytesOf m1).length c2) z3 (.slice none 0 0) (bytesOf m0) (bytesOf m0) (bytesOf m1) (bytesOf m1) [] := ⟨hR.r0, hR.r1, hR.r2, hR.r3, Kd.R_nil _ _ _ _ _⟩
          exact DX.of (lab := lb2) (blk_put (blk_put (blk_put HX2.out 4 (.slice none 0 0) rfl) 5 (.int .i64 (-1)) rfl) 6 (.bool false) rfl) HG.out (.inl HO.out) HL2.out (((hR'.set HL2.out 4 _).set HL2.out 5 _).set HL2.out 6 _) (by rw [HM0.out]; rfl) (by rw [HM0.out]; rfl) (by rw [HM1.out]; rfl) (by rw [HM1.out]; rfl)
def St.sync (s : St) (f : Int) : Int × St := if rightB f 0 0 = true then ((turn s.f s.d s.c).1, s.synced f) else (1, s)
theorem sync.calls (g : Nat) (O : Nat → Prop) (s : St) (f : Int) (m : Nat) (w0 w : World) (hB : Below w0.heap.size w0 w) (hD : DD w w0.heap.size g O s) (hok : s.ok m) (hm : m ≤ 1000000000) :
    Calls Try.prog 45 #[.pointer (some ⟨g, 0, none⟩), .int .i64 f] w fun e w' => e = .returned (.int .i64 (s.sync f).1) ∧
      DD w' w0.heap.size g (fun k => O k ∨ w.heap.size ≤ k) (s.sync f).2 ∧ Below w0.heap.size w0 w' ∧ Kept w w' O := by
  by_cases hr : rightB f 0 0 = true
  · have hs : s.sync f = ((turn s.f s.d s.c).1, s.synced f) := by unfold St.sync; rw [if_pos hr]
    rw [hs]
    rcases (right_file hr).1 with rfl | rfl
    · exact sync.calls0 g O s m w0 w hB hD hok hm
    · exact sync.calls1 g O s m w0 w hB hD hok hm
  · have hr' : rightB f 0 0 = false := by simpa using hr
    have hs : s.sync f = (1, s) := by unfold St.sync; rw [if_neg hr]
    rw [hs]
    have HRT := Aside0.mk hr'
    have HB := Aside0.mk hB
    have HD := Aside0.mk hD
    clear hr hr' hs hB hD hok hm
    go_enter Try.func45, Try.ntmps45
    go_wp2_with (go_at_call 70; (refine (disk_right.calls f 0 0 false _ (by rw [right_is, HRT.out])).mono ?_); rintro e2 w2 ⟨rfl, hd2⟩; have HW2 := Aside0.mk hd2; clear hd2)
    go_ret
    exact ⟨rfl, DX.mono (drawn_keep HW2.out HD.out) (fun k hk => .inl hk), below_step HB.out HW2.out.below, Kept.of_below HW2.out.below O⟩
theorem St.ok.mono {s : St} {m n : Nat} (h : s.ok m) (hn : m ≤ n) : s.ok n := ⟨h.l0, h.l1, h.ws, h.f, ⟨h.c.1, by have := h.c.2; omega⟩, h.n⟩
theorem St.ok.write {s : St} {m : Nat} (h : s.ok m) (f a : Int) (t : ByteArray) : (s.write f a t).2.ok (m + 1) := by
  unfold St.write
  split
  · rename_i hr
    obtain ⟨hf, ha, hn, han⟩ := right_file hr
    exact h.changed hf (by unfold maxFile; dsimp only; omega)
  · exact h.mono (Nat.le_succ m)
theorem St.ok.cutTo {s : St} {m : Nat} (h : s.ok m) (f a : Int) : (s.cutTo f a).2.ok (m + 1) := by
  unfold St.cutTo
  split
  · rename_i hr
    obtain ⟨hf, ha, hn, han⟩ := right_file hr
    exact h.changed hf (by unfold maxFile; rw [show ByteArray.empty.size = 0 from rfl]; dsimp only; omega)
  · exact h.mono (Nat.le_succ m)
theorem St.ok.sync {s : St} {m : Nat} (h : s.ok m) (f : Int) : (s.sync f).2.ok (m + 1) := by
  unfold St.sync
  split
  · exact h.synced
  · exact h.mono (Nat.le_succ m)
section
variable {w0 w w' : World} {gd gr : Nat} {X : Nat → Prop} {s1 s2 s1' s2' : St} {m : Nat}
theorem DX.narrow2 {base g : Nat} {O : Nat → Prop} {a0 b0 a1 b1 : ByteArray} {ws : List Chg} {f c : Int} {d : Bool} (h : DX w base g O a0 b0 a1 b1 ws f d c) : DX w base g (fun k => O k ∧ base ≤ k ∧ k < w.heap.size) a0 b0 a1 b1 ws f d c := by
  obtain ⟨lab, x0, x1, x2, x3, x4, hb, hg, hO, hl, hr⟩ := h
  refine ⟨lab, x0, x1, x2, x3, x4, hb, hg, ⟨hO, hg, blk_lt hb⟩, hl, ⟨?_, ?_, ?_, ?_, ?_⟩⟩
  · exact Kd.R_mono (Kd.R_bound hr.r0) (fun k h => ⟨⟨h.1.1, h.2.1, h.2.2.1⟩, h.1.2⟩)
  · exact Kd.R_mono (Kd.R_bound hr.r1) (fun k h => ⟨⟨h.1.1, h.2.1, h.2.2.1⟩, h.1.2⟩)
  · exact Kd.R_mono (Kd.R_bound hr.r2) (fun k h => ⟨⟨h.1.1, h.2.1, h.2.2.1⟩, h.1.2⟩)
  · exact Kd.R_mono (Kd.R_bound hr.r3) (fun k h => ⟨⟨h.1.1, h.2.1, h.2.2.1⟩, h.1.2⟩)
  · exact Kd.R_mono (Kd.R_bound hr.r4) (fun k h => ⟨⟨h.1.1, h.2.1, h.2.2.1⟩, h.1.2⟩)
end
end Go.Proofs.Ythaoaaboempajab.Disk
namespace Go.Proofs.Ythaoaaboempajab.Log
open Go.RowKit Go.Maps Go.Proofs.Ythaoaaboempajab.QLogRuns Go.Proofs.Ythaoaaboempajab.QDiskRuns Go.Proofs.Ythaoaaboempajab.Disk Go.Proofs.YthaoaaboempajabW.PrintWords Go.Proofs.YthaoaaboempajabW.PrintLast Go.Proofs.YthaoaaboempajabW.PrintMore
set_option linter.unusedVariables false
set_option linter.unusedSimpArgs false
structure Fr (base : Nat) (P : World → (Nat → Prop) → Prop) : Prop where
  apart : ∀ {w w' : World} {O S : Nat → Prop}, P w O → Kept w w' S → (∀ k, O k → ¬ S k) → P w' O
  mono : ∀ {w : World} {O O' : Nat → Prop}, P w O → (∀ k, O k → O' k) → P w O'
  narrow : ∀ {w : World} {O : Nat → Prop}, P w O → P w (fun k => O k ∧ base ≤ k ∧ k < w.heap.size)
theorem frD (base g : Nat) (s : St) : Fr base (fun w O => DD w base g O s) := ⟨fun h hk hs => DX.apart h hk hs, fun h hs => DX.mono h hs, fun h => DX.narrow2 h⟩
def Sep (base : Nat) (P Q : World → (Nat → Prop) → Prop) (w : World) (O : Nat → Prop) : Prop :=
  ∃ O1 O2, P w O1 ∧ Q w O2 ∧ (∀ k, O1 k → O k) ∧ (∀ k, O2 k → O k) ∧ (∀ k, O1 k → O2 k → False) ∧ (∀ k, O1 k → base ≤ k ∧ k < w.heap.size) ∧ (∀ k, O2 k → base ≤ k ∧ k < w.heap.size)
section
variable {base : Nat} {P P' Q Q' : World → (Nat → Prop) → Prop} {w w' : World} {O S : Nat → Prop}
theorem frSep (hP : Fr base P) (hQ : Fr base Q) : Fr base (Sep base P Q) := by
  refine ⟨?_, ?_, ?_⟩
  · rintro w w' O S ⟨O1, O2, h1, h2, h3, h4, h5, h6, h7⟩ hk hs
    exact ⟨O1, O2, hP.apart h1 hk (fun k h => hs k (h3 k h)), hQ.apart h2 hk (fun k h => hs k (h4 k h)), h3, h4, h5, fun k h => ⟨(h6 k h).1, Nat.lt_of_lt_of_le (h6 k h).2 hk.1⟩, fun k h => ⟨(h7 k h).1, Nat.lt_of_lt_of_le (h7 k h).2 hk.1⟩⟩
  · rintro w O O' ⟨O1, O2, h1, h2, h3, h4, h5, h6, h7⟩ hs
    exact ⟨O1, O2, h1, h2, fun k h => hs k (h3 k h), fun k h => hs k (h4 k h), h5, h6, h7⟩
  · rintro w O ⟨O1, O2, h1, h2, h3, h4, h5, h6, h7⟩
    exact ⟨O1, O2, h1, h2, fun k h => ⟨h3 k h, h6 k h⟩, fun k h => ⟨h4 k h, h7 k h⟩, h5, h6, h7⟩
theorem Sep.swap (h : Sep base P Q w O) : Sep base Q P w O := by
  obtain ⟨O1, O2, h1, h2, h3, h4, h5, h6, h7⟩ := h
  exact ⟨O2, O1, h2, h1, h4, h3, fun k a b => h5 k b a, h7, h6⟩
theorem Sep.onL (h : Sep base P Q w O) (hP' : Fr base P') (hQ : Fr base Q) : ∃ O1, P w O1 ∧ (∀ k, O1 k → O k) ∧ (∀ k, O1 k → base ≤ k ∧ k < w.heap.size) ∧
    ∀ w', P' w' (fun k => O1 k ∨ w.heap.size ≤ k) → Kept w w' O1 → Sep base P' Q w' (fun k => O k ∨ w.heap.size ≤ k) ∧ Kept w w' O := by
  obtain ⟨O1, O2, h1, h2, h3, h4, h5, h6, h7⟩ := h
  refine ⟨O1, h1, h3, h6, fun w' hp hk => ⟨⟨_, O2, hP'.narrow hp, hQ.apart h2 hk (fun k a b => h5 k b a), fun k a => a.1.imp (h3 k) id, fun k a => .inl (h4 k a), fun k a b => ?_, fun k a => a.2, fun k a => ⟨(h7 k a).1, Nat.lt_of_lt_of_le (h7 k a).2 hk.1⟩⟩, hk.mono h3⟩⟩
  rcases a.1 with a | a
  · exact h5 k a b
  · exact absurd (h7 k b).2 (Nat.not_lt.mpr a)
end
def idxFrom : Nat → List (Nat × ByteArray) → Int → Nat → Nat
  | _, [], _, acc => acc
  | i, c :: r, x, acc => idxFrom (i + 1) r x (if (c.1 : Int) = x then i + 1 else acc)
def idx (fr : List (Nat × ByteArray)) (x : Int) : Int := (idxFrom 0 fr x 0 : Nat)
theorem idxFrom_snoc : ∀ (fr : List (Nat × ByteArray)) (i : Nat) (c : Nat × ByteArray) (x : Int) (acc : Nat), idxFrom i (fr ++ [c]) x acc = if (c.1 : Int) = x then i + fr.length + 1 else idxFrom i fr x acc
  | [], i, c, x, acc => by simp [idxFrom]
  | d :: fr, i, c, x, acc => by
    have := idxFrom_snoc fr (i + 1) c x (if (d.1 : Int) = x then i + 1 else acc)
    simp only [List.cons_append, idxFrom, List.length_cons]
    rw [this]
    split
    · omega
    · rfl
theorem idx_nil (x : Int) : idx [] x = 0 := rfl
theorem idx_snoc (fr : List (Nat × ByteArray)) (c : Nat × ByteArray) (x : Int) : idx (fr ++ [c]) x = if (c.1 : Int) = x then ((fr.length + 1 : Nat) : Int) else idx fr x := by
  unfold idx
  rw [idxFrom_snoc]
  split
  · rw [Nat.zero_add]
  · rfl
theorem idx_le (fr : List (Nat × ByteArray)) (x : Int) : 0 ≤ idx fr x ∧ idx fr x ≤ fr.length := by
  refine ⟨by unfold idx; omega, ?_⟩
  have h : ∀ (fr : List (Nat × ByteArray)) (i acc : Nat), acc ≤ i → idxFrom i fr x acc ≤ i + fr.length := by
    intro fr
    induction fr with
    | nil => intro i acc h; simpa [idxFrom] using h
    | cons c r ih =>
      intro i acc h
      have := ih (i + 1) (if (c.1 : Int) = x then i + 1 else acc) (by split <;> omega)
      simp only [idxFrom, List.length_cons]
      omega
  have := h fr 0 0 (Nat.le_refl _)
  unfold idx
  omega
structure Lg where
  fr : List (Nat × ByteArray)
  kept : Nat
  pages : Nat
  slot : Nat
  number : Nat
structure Lg.ok (g : Lg) : Prop where
  n : g.fr.length ≤ 65280
  kept : g.kept ≤ g.fr.length
  pages : g.pages ≤ 4294967295
  slot : g.slot = 0 ∨ g.slot = 1
  number : 1 ≤ g.number ∧ g.number ≤ 3
  fr : ∀ c ∈ g.fr, c.1 < 4294967296 ∧ c.2.size = 1024
def lcells (gd : Nat) (n pg : Int) (bn : Nat) (k pk : Int) (bk : Nat) (sl nu : Int) : Array Value :=
  #[.pointer (some ⟨gd, 0, none⟩), .int .i64 n, .int .i64 pg, .map (some bn), .int .i64 k, .int .i64 pk, .map (some bk), .int .i64 sl, .int .i64 nu]
def LX (base gl gd : Nat) (g : Lg) (w : World) (O : Nat → Prop) : Prop :=
  ∃ bn bk, w.heap[gl]? = some (.cells (lcells gd g.fr.length g.pages bn g.kept g.pages bk g.slot g.number) 96 (0, 0)) ∧ MapF w bn g.fr.length (idx g.fr) ∧ MapF w bk g.kept (idx (g.fr.take g.kept)) ∧ bn ≠ bk ∧ O gl ∧ O bn ∧ O bk ∧ base ≤ gl ∧ base ≤ bn ∧ base ≤ bk
theorem frL (base gl gd : Nat) (g : Lg) : Fr base (LX base gl gd g) := by
  refine ⟨?_, ?_, ?_⟩
  · rintro w w' O S ⟨bn, bk, h1, h2, h3, h4, h5, h6, h7, h8⟩ hk hs
    exact ⟨bn, bk, blk_kept h1 hk (hs gl h5), h2.kept (hk.2 bn h2.lt (hs bn h6)), h3.kept (hk.2 bk h3.lt (hs bk h7)), h4, h5, h6, h7, h8⟩
  · rintro w O O' ⟨bn, bk, h1, h2, h3, h4, h5, h6, h7, h8⟩ hs
    exact ⟨bn, bk, h1, h2, h3, h4, hs _ h5, hs _ h6, hs _ h7, h8⟩
  · rintro w O ⟨bn, bk, h1, h2, h3, h4, h5, h6, h7, h8⟩
    exact ⟨bn, bk, h1, h2, h3, h4, ⟨h5, h8.1, blk_lt h1⟩, ⟨h6, h8.2.1, h2.lt⟩, ⟨h7, h8.2.2, h3.lt⟩, h8⟩
def PL (w : World) (base gd gl : Nat) (O : Nat → Prop) (s : St) (g : Lg) : Prop := Sep base (fun w O => DD w base gd O s) (LX base gl gd g) w O
theorem frPL (base gd gl : Nat) (s : St) (g : Lg) : Fr base (fun w O => PL w base gd gl O s g) := frSep (frD base gd s) (frL base gl gd g)
def Lg.append (s : St) (g : Lg) (n : Int) (t : ByteArray) : Int × St × Lg :=
  if n < 0 ∨ n ≥ 2147483648 ∨ t.size ≠ 1024 then (1, s, g)
  else if 64 + 1028 * g.fr.length + 1028 > 67108864 then (8, s, g)
  else if (s.write 1 ((64 + 1028 * g.fr.length : Nat) : Int) (fourB n.toNat ++ t)).1 = 0 then (0, (s.write 1 ((64 + 1028 * g.fr.length : Nat) : Int) (fourB n.toNat ++ t)).2, { g with fr := g.fr ++ [(n.toNat, t)] })
  else ((s.write 1 ((64 + 1028 * g.fr.length : Nat) : Int) (fourB n.toNat ++ t)).1, (s.write 1 ((64 + 1028 * g.fr.length : Nat) : Int) (fourB n.toNat ++ t)).2, g)
def Lg.tell (s : St) (g : Lg) (frames pages : Nat) : Int × St × Lg :=
  let a := s.write 1 ((16 + 24 * (1 - g.slot) : Nat) : Int) (slotB (g.number % 3 + 1) frames pages)
  if a.1 ≠ 0 then (a.1, a.2, g) else
  let b := a.2.sync 1
  if b.1 ≠ 0 then (b.1, b.2, g) else (0, b.2, { g with slot := 1 - g.slot, number := g.number % 3 + 1 })
theorem MapF.ne {w : World} {b n g ty : Nat} {f : Int → Int} {cs : Array Value} (h : MapF w b n f) (hg : w.heap[g]? = some (.cells cs ty (0, 0))) : b ≠ g := by
  obtain ⟨D, ⟨es, clock, h1, _⟩, _⟩ := h
  intro e
  rw [e, hg] at h1
  cases h1
set_option maxHeartbeats 8000000 in
set_option maxRecDepth 100000 in
theorem append.calls (gd gl : Nat) (O : Nat → Prop) (s : St) (g : Lg) (m : Nat) (n : Int) (t : ByteArray) (w0 w : World) (hB : Below w0.heap.size w0 w) (hD : PL w w0.heap.size gd gl O s g) (hok : s.ok m) (hm : m ≤ 900000000) (hg : g.ok)
    (hn : -9223372036854775808 ≤ n ∧ n < 9223372036854775808) :
    Calls Try.prog 36 #[.pointer (some ⟨gl, 0, none⟩), .int .i64 n, .string t] w fun e w' => e = .returned (.int .i64 (Lg.append s g n t).1) ∧
      PL w' w0.heap.size gd gl (fun k => O k ∨ w.heap.size ≤ k) (Lg.append s g n t).2.1 (Lg.append s g n t).2.2 ∧ Below w0.heap.size w0 w' ∧ Kept w w' O := by
  have HB := Aside0.mk hB
  have HD := Aside0.mk hD
  have HOK := Aside0.mk hok
  have HM := Aside0.mk hm
  have HG := Aside0.mk hg
  by_cases hbad : n < 0 ∨ n ≥ 2147483648 ∨ t.size ≠ 1024
  · have HS := Aside0.mk (show Lg.append s g n t = (1, s, g) by unfold Lg.append; rw [if_pos hbad])
    have fin : ∀ w' : World, w' = w → (Ending.returned (Value.int .i64 1) = .returned (.int .i64 (Lg.append s g n t).1) ∧ PL w' w0.heap.size gd gl (fun k => O k ∨ w.heap.size ≤ k) (Lg.append s g n t).2.1 (Lg.append s g n t).2.2 ∧ Below w0.heap.size w0 w' ∧ Kept w w' O) := by
      rintro w' rfl
      rw [HS.out]
      exact ⟨rfl, (frPL _ _ _ _ _).mono HD.out (fun k hk => .inl hk), HB.out, Kept.refl _ _⟩
    have FIN := Aside0.mk fin
    clear fin hB hD hok hm hg
    by_cases h1 : n < 0
    · have q1 : decide (n < 0) = true := decide_eq_true h1
      clear h1 hbad hn
      go_enter Try.func36, Try.ntmps36
      go_wp2_with (fail)
      go_ret
      exact FIN.out _ rfl
    · have q1 : decide (n < 0) = false := decide_eq_false h1
      by_cases h2 : n ≥ 2147483648
      · have q2 : decide (n ≥ 2147483648) = true := decide_eq_true h2
        have q2' : decide (2147483648 ≤ n) = true := decide_eq_true h2
        clear h1 h2 hbad hn
        go_enter Try.func36, Try.ntmps36
        go_wp2_with (fail)
        go_ret
        exact FIN.out _ rfl
      · have q2 : decide (n ≥ 2147483648) = false := decide_eq_false h2
        have q2' : decide (2147483648 ≤ n) = false := decide_eq_false h2
        have h3 : t.size ≠ 1024 := by omega
        have q3 : ((t.size : Int) == 1024) = false := beq_false (by omega)
        have q3' : ((t.size : Int) != 1024) = true := by simp [bne, q3]
        clear h1 h2 h3 hbad hn
        go_enter Try.func36, Try.ntmps36
        go_wp2_with (fail)
        go_ret
        exact FIN.out _ rfl
  · obtain ⟨k, rfl⟩ : ∃ k : Nat, n = (k : Int) := ⟨n.toNat, by omega⟩
    have hk : k < 2147483648 := by omega
    have ht : t.size = 1024 := by omega
    have q1 : decide ((k : Int) < 0) = false := decide_eq_false (by omega)
    have q2 : decide ((k : Int) ≥ 2147483648) = false := decide_eq_false (by omega)
    have q2' : decide ((2147483648 : Int) ≤ (k : Int)) = false := decide_eq_false (by omega)
    have HK := Aside0.mk hk
    have HT := Aside0.mk ht
    have q3 : ((t.size : Int) == 1024) = true := by rw [ht]; rfl
    have q3' : ((t.size : Int) != 1024) = false := by simp [bne, q3]
    have hlen := hg.n
    have w1_ : IntKind.i64.wrap ((g.fr.length : Int) * 1028) = (g.fr.length : Int) * 1028 := IntWalk.i64_in _ (by omega)
    have w2_ : IntKind.i64.wrap (64 + (g.fr.length : Int) * 1028) = 64 + (g.fr.length : Int) * 1028 := IntWalk.i64_in _ (by omega)
    have w3_ : IntKind.i64.wrap (64 + (g.fr.length : Int) * 1028 + 1028) = 64 + (g.fr.length : Int) * 1028 + 1028 := IntWalk.i64_in _ (by omega)
    have w4_ : IntKind.i64.wrap ((g.fr.length : Int) + 1) = (g.fr.length : Int) + 1 := IntWalk.i64_in _ (by omega)
    obtain ⟨O1, O2, hd, ⟨bn, bk, hx, hmn, hmk, hne, hgl, hbn, hbk, hb1, hb2, hb3⟩, -⟩ := id hD
    have HX := Aside0.mk hx
    have p0 : w.cell? ⟨gl, 0, none⟩ = some (.pointer (some ⟨gd, 0, none⟩)) := (blk_cell hx 0).trans rfl
    have p1 : w.cell? ⟨gl, 1, none⟩ = some (.int .i64 (g.fr.length : Int)) := (blk_cell hx 1).trans rfl
    clear hd hx hmn hmk hne hgl hbn hbk hb1 hb2 hb3
    by_cases hlarge : 64 + 1028 * g.fr.length + 1028 > 67108864
    · have HS := Aside0.mk (show Lg.append s g (k : Int) t = (8, s, g) by unfold Lg.append; rw [if_neg hbad, if_pos hlarge])
      have d_ : decide (64 + (g.fr.length : Int) * 1028 + 1028 > 67108864) = true := decide_eq_true (by omega)
      have d2_ : decide (67108864 < 64 + (g.fr.length : Int) * 1028 + 1028) = true := decide_eq_true (by omega)
      clear hB hD hok hm hg hbad hk ht hlen hlarge hn
      go_enter Try.func36, Try.ntmps36
      go_wp2_with (fail)
      go_ret
      refine ⟨by rw [HS.out]; rfl, ?_⟩
      rw [HS.out]
      exact ⟨(frPL _ _ _ _ _).mono HD.out (fun k hk => .inl hk), HB.out, Kept.refl _ _⟩
    · have d_ : decide (64 + (g.fr.length : Int) * 1028 + 1028 > 67108864) = false := decide_eq_false (by omega)
      have d2_ : decide (67108864 < 64 + (g.fr.length : Int) * 1028 + 1028) = false := decide_eq_false (by omega)
      have HLG := Aside0.mk hlarge
      have e4 : (fourB k).size + t.size = 1028 := by rw [size_four, ht]
      have HFR := Aside0.mk (four_is k)
      have hs : Lg.append s g (k : Int) t = if (s.write 1 ((64 + 1028 * g.fr.length : Nat) : Int) (fourB k ++ t)).1 = 0 then (0, (s.write 1 ((64 + 1028 * g.fr.length : Nat) : Int) (fourB k ++ t)).2, { g with fr := g.fr ++ [(k, t)] }) else ((s.write 1 ((64 + 1028 * g.fr.length : Nat) : Int) (fourB k ++ t)).1, (s.write 1 ((64 + 1028 * g.fr.length : Nat) : Int) (fourB k ++ t)).2, g) := by
        unfold Lg.append
        rw [if_neg hbad, if_neg hlarge, Int.toNat_natCast]
      have HAT := Aside0.mk (show ((64 + 1028 * g.fr.length : Nat) : Int) = 64 + (g.fr.length : Int) * 1028 by omega)
      rw [HAT.out] at hs
      obtain ⟨fk, hfk⟩ : ∃ fk, fk = fourB k := ⟨_, rfl⟩
      rw [← hfk] at hs HFR e4
      have sz1 : ¬ (9223372036854775807 < fk.size + t.size) := by omega
      have sz2 : (9223372036854775807 < fk.size + t.size) = False := eq_false sz1
      have HWR := Aside0.mk (show ∃ r, r = s.write 1 (64 + (g.fr.length : Int) * 1028) (fk ++ t) from ⟨_, rfl⟩)
      obtain ⟨⟨c, s2⟩, hr⟩ := HWR.out
      rw [← hr] at hs
      have HR := Aside0.mk hr
      have HS := Aside0.mk hs
      have HOK2 := Aside0.mk (show s2.ok (m + 1) by have h := hok.write 1 (64 + (g.fr.length : Int) * 1028) (fk ++ t); rw [← hr] at h; exact h)
      clear hB hD hok hm hg hbad hk ht hlen hlarge hn e4 hfk hr hs HWR sz1
      go_enter Try.func36, Try.ntmps36
      go_upto_region 6 with (fail)
      go_cut [8] from 30 to 39 (fun v8 wx => v8 = .int .i64 c ∧ Aside0 (PL wx w0.heap.size gd gl (fun k => O k ∨ w.heap.size ≤ k) s2 g) ∧ Aside0 (Kept w wx O) ∧ Aside0 (Below w0.heap.size w0 wx))
      case first =>
        go_region_law (first
          | (refine goes_ Try.func64 (by kernel_rfl) rfl #[.int .i64 (k : Int)] (by rfl) rfl rfl (by (try simp only [List.map_toArray, List.map_cons, List.map_nil]); first | done | rfl) ?_; (with_reducible refine (wal_four.calls (k : Int) fk _ HFR.out).mono ?_); rintro e w3 ⟨rfl, hb⟩; refine ⟨_, rfl, ?_⟩; have HB3 := Aside0.mk (below_step (below_drew (Below.refl _ w)) hb); have HD3 := Aside0.mk ((frPL _ _ _ _ _).apart HD.out (S := fun _ => False) (Kept.of_below HB3.out _) (fun _ _ h => h)); have HBB := Aside0.mk (below_step HB.out HB3.out); have p3 : w3.cell? ⟨gl, 0, none⟩ = some (.pointer (some ⟨gd, 0, none⟩)) := (blk_cell (blk_below HX.out HB3.out) 0).trans rfl; clear hb)
          | (refine goes_ Try.func44 (by kernel_rfl) rfl #[.pointer (some ⟨gd, 0, none⟩), .int .i64 1, .int .i64 (64 + (g.fr.length : Int) * 1028), .string (fk ++ t)] (by rfl) rfl rfl (by (try simp only [List.map_toArray, List.map_cons, List.map_nil]); first | done | rfl) ?_; obtain ⟨O1, h1, h2, h3, back⟩ := Sep.onL HD3.out (frD _ _ s2) (frL _ _ _ _); have hw := write.calls gd O1 s 1 (64 + (g.fr.length : Int) * 1028) (fk ++ t) m w0 _ HBB.out h1 HOK.out (Nat.le_trans HM.out (by decide)); rw [← HR.out] at hw; refine hw.mono ?_; rintro e w4 ⟨rfl, hd, hb, hk⟩; refine ⟨_, rfl, ?_⟩; have HD4 := Aside0.mk (back _ hd hk).1; have HK4 := Aside0.mk ((Kept.of_below HB3.out O).then_ (back _ hd hk).2 (fun k hk => .inl hk)); have HB4 := Aside0.mk hb; have HS4 := Aside0.mk HB3.out.size; clear hd hb hk hw back h1 h2 h3))
        all_goals
          try go_frame
          go_wp2_with (fail)
          go_meet
          case rel => exact ⟨rfl, ⟨(frPL _ _ _ _ _).mono HD4.out (fun k hk => hk.imp id (Nat.le_trans HS4.out))⟩, HK4, HB4⟩
      case rest =>
        obtain ⟨rfl, HD4, HK4, HB4⟩ := hcut
        clear p0 p1 HX HD HB HR HOK
        obtain ⟨O1, O2, hd, ⟨bn, bk, hx, hmn, hmk, hne, hgl, hbn, hbk, hb1, hb2, hb3⟩, ho1, ho2, hdis, hbd1, hbd2⟩ := id HD4.out
        by_cases hc0 : c = 0
        · subst hc0
          have HS0 := Aside0.mk (show Lg.append s g (k : Int) t = (0, s2, { g with fr := g.fr ++ [(k, t)] }) from HS.out.trans (if_pos rfl))
          have HX := Aside0.mk hx
          have HNG := Aside0.mk (hmn.ne hx)
          have HKG := Aside0.mk (hmk.ne hx)
          have HMN := Aside0.mk hmn
          have HMK := Aside0.mk hmk
          have HNE := Aside0.mk hne
          have HSEP := Aside0.mk (And.intro hd (And.intro hgl (And.intro hbn (And.intro hbk (And.intro hb1 (And.intro hb2 (And.intro hb3 (And.intro ho1 (And.intro ho2 (And.intro hdis (And.intro hbd1 hbd2)))))))))))
          have p1 : wc.cell? ⟨gl, 1, none⟩ = some (.int .i64 (g.fr.length : Int)) := (blk_cell hx 1).trans rfl
          have z1 := blk_frozen hx 1
          clear hd hx hmn hmk hne hgl hbn hbk hb1 hb2 hb3 ho1 ho2 hdis hbd1 hbd2
          go_upto_region 10 with (fail)
          have HX5 := Aside0.mk (show (wc.setCell ⟨gl, 1, none⟩ (.int .i64 ((g.fr.length : Int) + 1))).heap[gl]? = some (.cells (lcells gd ((g.fr.length : Int) + 1) g.pages bn g.kept g.pages bk g.slot g.number) 96 (0, 0)) from blk_put HX.out 1 _ rfl)
          have HMN5 := Aside0.mk (HMN.out.kept (w' := wc.setCell ⟨gl, 1, none⟩ (.int .i64 ((g.fr.length : Int) + 1))) (Below.heap_setCell wc ⟨gl, 1, none⟩ _ _ HNG.out))
          have HMK5 := Aside0.mk (HMK.out.kept (w' := wc.setCell ⟨gl, 1, none⟩ (.int .i64 ((g.fr.length : Int) + 1))) (Below.heap_setCell wc ⟨gl, 1, none⟩ _ _ HKG.out))
          have HK5 := Aside0.mk (show Kept wc (wc.setCell ⟨gl, 1, none⟩ (.int .i64 ((g.fr.length : Int) + 1))) (fun j => j = gl ∨ j = bn) from set_kept.mono (fun j hj => .inl hj))
          have HB5 := Aside0.mk (HB4.out.setCell (p := ⟨gl, 1, none⟩) HSEP.out.2.2.2.2.1 (.int .i64 ((g.fr.length : Int) + 1)))
          clear p1 z1 HMN HMK HX
          generalize wc.setCell ⟨gl, 1, none⟩ (.int .i64 ((g.fr.length : Int) + 1)) = w5 at HX5 HMN5 HMK5 HK5 HB5 ⊢
          have p3 : w5.cell? ⟨gl, 3, none⟩ = some (.map (some bn)) := (blk_cell HX5.out 3).trans rfl
          have p1 : w5.cell? ⟨gl, 1, none⟩ = some (.int .i64 ((g.fr.length : Int) + 1)) := (blk_cell HX5.out 1).trans rfl
          have hlen := HG.out.n
          obtain ⟨w6, hrun, hm6, hg6⟩ := MapF.put (w := w5.drew) (HMN5.out.kept rfl) (by unfold maxLen; omega) (x := (k : Int)) (y := (g.fr.length : Int) + 1) (wf_int (by have := HK.out; omega)) (wf_int (by omega))
          have HM6 := Aside0.mk hm6
          have HG6 := Aside0.mk hg6
          clear hm6 hg6 hlen
          go_region
          all_goals
            try go_frame
            go_wp2_with (fail)
            go_ret
            obtain ⟨hd, hgl, hbn, hbk, hb1, hb2, hb3, ho1, ho2, hdis, hbd1, hbd2⟩ := HSEP.out
            have hk6 : Kept wc w6 (fun j => j = gl ∨ j = bn) := HK5.out.then_ (Kept.of_grown HG6.out (Kept.drew (Kept.refl w5 (fun j => j = gl ∨ j = bn))) (fun j hj => .inl (.inr (Option.some.inj hj).symm))) (fun j hj => .inl hj)
            have hs6 := hk6.1
            refine ⟨by rw [HS0.out]; rfl, ?_, HB5.out.drew.grown HG6.out (below_size HB5.out.drew) (fun j hj => by cases hj; exact hb2), HK4.out.then_ hk6 (fun j hj => hj.elim (fun e => by rw [e]; exact ho2 _ hgl) (fun e => by rw [e]; exact ho2 _ hbn))⟩
            rw [HS0.out]
            refine ⟨O1, O2, (frD _ _ _).apart hd hk6 (fun j hj he => he.elim (fun e => hdis j hj (by rw [e]; exact hgl)) (fun e => hdis j hj (by rw [e]; exact hbn))), ?_, ho1, ho2, hdis, fun j hj => ⟨(hbd1 j hj).1, Nat.lt_of_lt_of_le (hbd1 j hj).2 hs6⟩, fun j hj => ⟨(hbd2 j hj).1, Nat.lt_of_lt_of_le (hbd2 j hj).2 hs6⟩⟩
            refine ⟨bn, bk, ?_, ?_, ?_, HNE.out, hgl, hbn, hbk, hb1, hb2, hb3⟩
            · have hb := blk_grown (blk_drew HX5.out) HG6.out (fun e => HNG.out (Option.some.inj e).symm)
              rw [show ((g.fr ++ [(k, t)]).length : Int) = (g.fr.length : Int) + 1 by simp]
              exact hb
            · have h := HM6.out
              rw [show (g.fr ++ [(k, t)]).length = g.fr.length + 1 by simp]
              rw [show idx (g.fr ++ [(k, t)]) = fun z => if z = (k : Int) then (g.fr.length : Int) + 1 else idx g.fr z from funext fun z => by
                rw [idx_snoc]
                by_cases e : z = (k : Int)
                · rw [if_pos e.symm, if_pos e]; omega
                · rw [if_neg (fun h => e h.symm), if_neg e]]
              exact h
            · rw [show (g.fr ++ [(k, t)]).take g.kept = g.fr.take g.kept from List.take_append_of_le_length HG.out.kept]
              exact HMK5.out.kept (HG6.out.block bk HMK5.out.lt (fun e => HNE.out (Option.some.inj e).symm))
        · have q_ : (c != 0) = true := by simp [bne, beq_false hc0]
          have HC0 := Aside0.mk hc0
          clear hc0 hd hx hmn hmk hne hgl hbn hbk hb1 hb2 hb3 ho1 ho2 hdis hbd1 hbd2
          go_wp2_with (fail)
          go_ret
          refine ⟨by rw [HS.out, if_neg HC0.out]; rfl, ?_⟩
          rw [HS.out, if_neg HC0.out]
          exact ⟨HD4.out, HB4.out, HK4.out⟩
set_option maxHeartbeats 8000000 in
set_option maxRecDepth 100000 in
theorem done_176_177 (gs : Nat) (a1 a2 : Array Value) (c1 c2 : Int) (P1 P2 : World → Prop) (w : World)
    (hs : w.heap[gs]? = some (.cells #[.func (.func 79) #[] a1, .func (.func 80) #[] a2] 46 (0, 0)))
    (h1 : Calls Try.prog 79 a1 w fun e w' => e = .returned (.int .i64 c1) ∧ P1 w' ∧ w'.heap[gs]? = w.heap[gs]?)
    (h2 : c1 = 0 → ∀ w1 : World, P1 w1 → w1.heap[gs]? = w.heap[gs]? → Calls Try.prog 80 a2 w1 fun e w' => e = .returned (.int .i64 c2) ∧ P2 w' ∧ w'.heap[gs]? = w1.heap[gs]?)
    : Calls Try.prog 50 #[.slice (some ⟨gs, 0, none⟩) 2 2] w fun e w' => e = .returned (.int .i64 (if c1 ≠ 0 then c1 else c2)) ∧ (if c1 ≠ 0 then P1 w' else P2 w') := by
  have H1 := Aside0.mk h1
  have H2 := Aside0.mk h2
  have HS := Aside0.mk hs
  have k0 : w.cell? ⟨gs, 0, none⟩ = some (.func (.func 79) #[] a1) := (blk_cell hs 0).trans rfl
  have k1 : w.cell? ⟨gs, 1, none⟩ = some (.func (.func 80) #[] a2) := (blk_cell hs 1).trans rfl
  clear hs h1 h2
  by_cases e1 : c1 = 0
  · subst e1
    have G2 := Aside0.mk (H2.out rfl); clear H2
    by_cases e2 : c2 = 0
    · subst e2
      go_enter Try.func50, Try.ntmps50
      go_wp2_with (fail)
      refine wp_loop_rounds 3 ?_
      rw [rounds_succ]
      have X1 := Aside0.mk (H1.out)
      go_wp2_with (go_at_call 79; (with_reducible refine X1.out.mono ?_); rintro e w1 ⟨rfl, p_, k_⟩; have K1 := Aside0.mk k_; have PP1 := Aside0.mk p_; clear p_ k_)
      clear k0
      rw [rounds_succ]
      have X2 := Aside0.mk (G2.out _ PP1.out (K1.out))
      have k1 : w1.cell? ⟨gs, 1, none⟩ = some (.func (.func 80) #[] a2) := (blk_cell ((K1.out).trans HS.out) 1).trans rfl
      go_wp2_with (go_at_call 80; (with_reducible refine X2.out.mono ?_); rintro e w2 ⟨rfl, p_, k_⟩; have K2 := Aside0.mk k_; have PP2 := Aside0.mk p_; clear p_ k_)
      clear k1
      rw [rounds_succ]
      go_wp2_with (fail)
      go_ret
      exact ⟨by simp, by simpa using PP2.out⟩
    · have q2 : (c2 != 0) = true := by simp [bne, beq_false e2]
      have E2 := Aside0.mk e2
      go_enter Try.func50, Try.ntmps50
      go_wp2_with (fail)
      refine wp_loop_rounds 3 ?_
      rw [rounds_succ]
      have X1 := Aside0.mk (H1.out)
      go_wp2_with (go_at_call 79; (with_reducible refine X1.out.mono ?_); rintro e w1 ⟨rfl, p_, k_⟩; have K1 := Aside0.mk k_; have PP1 := Aside0.mk p_; clear p_ k_)
      clear k0
      rw [rounds_succ]
      have X2 := Aside0.mk (G2.out _ PP1.out (K1.out))
      have k1 : w1.cell? ⟨gs, 1, none⟩ = some (.func (.func 80) #[] a2) := (blk_cell ((K1.out).trans HS.out) 1).trans rfl
      go_wp2_with (go_at_call 80; (with_reducible refine X2.out.mono ?_); rintro e w2 ⟨rfl, p_, k_⟩; have K2 := Aside0.mk k_; have PP2 := Aside0.mk p_; clear p_ k_)
      clear k1
      go_ret
      exact ⟨by simp, by simpa using PP2.out⟩
  · have q1 : (c1 != 0) = true := by simp [bne, beq_false e1]
    have E1 := Aside0.mk e1
    go_enter Try.func50, Try.ntmps50
    go_wp2_with (fail)
    refine wp_loop_rounds 3 ?_
    rw [rounds_succ]
    have X1 := Aside0.mk (H1.out)
    go_wp2_with (go_at_call 79; (with_reducible refine X1.out.mono ?_); rintro e w1 ⟨rfl, p_, k_⟩; have K1 := Aside0.mk k_; have PP1 := Aside0.mk p_; clear p_ k_)
    clear k0
    go_ret
    exact ⟨by simp [E1.out], by simpa [E1.out] using PP1.out⟩
set_option maxHeartbeats 8000000 in
set_option maxRecDepth 100000 in
theorem done_143_144_145 (gs : Nat) (a1 a2 a3 : Array Value) (c1 c2 c3 : Int) (P1 P2 P3 : World → Prop) (w : World)
    (hs : w.heap[gs]? = some (.cells #[.func (.func 51) #[] a1, .func (.func 52) #[] a2, .func (.func 53) #[] a3] 46 (0, 0)))
    (h1 : Calls Try.prog 51 a1 w fun e w' => e = .returned (.int .i64 c1) ∧ P1 w' ∧ w'.heap[gs]? = w.heap[gs]?)
    (h2 : c1 = 0 → ∀ w1 : World, P1 w1 → w1.heap[gs]? = w.heap[gs]? → Calls Try.prog 52 a2 w1 fun e w' => e = .returned (.int .i64 c2) ∧ P2 w' ∧ w'.heap[gs]? = w1.heap[gs]?)
    (h3 : c1 = 0 → c2 = 0 → ∀ w1 : World, P2 w1 → w1.heap[gs]? = w.heap[gs]? → Calls Try.prog 53 a3 w1 fun e w' => e = .returned (.int .i64 c3) ∧ P3 w' ∧ w'.heap[gs]? = w1.heap[gs]?)
    : Calls Try.prog 50 #[.slice (some ⟨gs, 0, none⟩) 3 3] w fun e w' => e = .returned (.int .i64 (if c1 ≠ 0 then c1 else if c2 ≠ 0 then c2 else c3)) ∧ (if c1 ≠ 0 then P1 w' else if c2 ≠ 0 then P2 w' else P3 w') := by
  have H1 := Aside0.mk h1
  have H2 := Aside0.mk h2
  have H3 := Aside0.mk h3
  have HS := Aside0.mk hs
  have k0 : w.cell? ⟨gs, 0, none⟩ = some (.func (.func 51) #[] a1) := (blk_cell hs 0).trans rfl
  have k1 : w.cell? ⟨gs, 1, none⟩ = some (.func (.func 52) #[] a2) := (blk_cell hs 1).trans rfl
  have k2 : w.cell? ⟨gs, 2, none⟩ = some (.func (.func 53) #[] a3) := (blk_cell hs 2).trans rfl
  clear hs h1 h2 h3
  by_cases e1 : c1 = 0
  · subst e1
    have G2 := Aside0.mk (H2.out rfl); clear H2
    by_cases e2 : c2 = 0
    · subst e2
      have G3 := Aside0.mk (H3.out rfl rfl); clear H3
      by_cases e3 : c3 = 0
      · subst e3
        go_enter Try.func50, Try.ntmps50
        go_wp2_with (fail)
        refine wp_loop_rounds 4 ?_
        rw [rounds_succ]
        have X1 := Aside0.mk (H1.out)
        go_wp2_with (go_at_call 51; (with_reducible refine X1.out.mono ?_); rintro e w1 ⟨rfl, p_, k_⟩; have K1 := Aside0.mk k_; have PP1 := Aside0.mk p_; clear p_ k_)
        clear k0
        rw [rounds_succ]
        have X2 := Aside0.mk (G2.out _ PP1.out (K1.out))
        have k1 : w1.cell? ⟨gs, 1, none⟩ = some (.func (.func 52) #[] a2) := (blk_cell ((K1.out).trans HS.out) 1).trans rfl
        go_wp2_with (go_at_call 52; (with_reducible refine X2.out.mono ?_); rintro e w2 ⟨rfl, p_, k_⟩; have K2 := Aside0.mk k_; have PP2 := Aside0.mk p_; clear p_ k_)
        clear k1
        rw [rounds_succ]
        have X3 := Aside0.mk (G3.out _ PP2.out (K2.out.trans (K1.out)))
        have k2 : w2.cell? ⟨gs, 2, none⟩ = some (.func (.func 53) #[] a3) := (blk_cell ((K2.out.trans (K1.out)).trans HS.out) 2).trans rfl
        go_wp2_with (go_at_call 53; (with_reducible refine X3.out.mono ?_); rintro e w3 ⟨rfl, p_, k_⟩; have K3 := Aside0.mk k_; have PP3 := Aside0.mk p_; clear p_ k_)
        clear k2
        rw [rounds_succ]
        go_wp2_with (fail)
        go_ret
        exact ⟨by simp, by simpa using PP3.out⟩
      · have q3 : (c3 != 0) = true := by simp [bne, beq_false e3]
        have E3 := Aside0.mk e3
        go_enter Try.func50, Try.ntmps50
        go_wp2_with (fail)
        refine wp_loop_rounds 4 ?_
        rw [rounds_succ]
        have X1 := Aside0.mk (H1.out)
        go_wp2_with (go_at_call 51; (with_reducible refine X1.out.mono ?_); rintro e w1 ⟨rfl, p_, k_⟩; have K1 := Aside0.mk k_; have PP1 := Aside0.mk p_; clear p_ k_)
        clear k0
        rw [rounds_succ]
        have X2 := Aside0.mk (G2.out _ PP1.out (K1.out))
        have k1 : w1.cell? ⟨gs, 1, none⟩ = some (.func (.func 52) #[] a2) := (blk_cell ((K1.out).trans HS.out) 1).trans rfl
        go_wp2_with (go_at_call 52; (with_reducible refine X2.out.mono ?_); rintro e w2 ⟨rfl, p_, k_⟩; have K2 := Aside0.mk k_; have PP2 := Aside0.mk p_; clear p_ k_)
        clear k1
        rw [rounds_succ]
        have X3 := Aside0.mk (G3.out _ PP2.out (K2.out.trans (K1.out)))
        have k2 : w2.cell? ⟨gs, 2, none⟩ = some (.func (.func 53) #[] a3) := (blk_cell ((K2.out.trans (K1.out)).trans HS.out) 2).trans rfl
        go_wp2_with (go_at_call 53; (with_reducible refine X3.out.mono ?_); rintro e w3 ⟨rfl, p_, k_⟩; have K3 := Aside0.mk k_; have PP3 := Aside0.mk p_; clear p_ k_)
        clear k2
        go_ret
        exact ⟨by simp, by simpa using PP3.out⟩
    · have q2 : (c2 != 0) = true := by simp [bne, beq_false e2]
      have E2 := Aside0.mk e2
      go_enter Try.func50, Try.ntmps50
      go_wp2_with (fail)
      refine wp_loop_rounds 4 ?_
      rw [rounds_succ]
      have X1 := Aside0.mk (H1.out)
      go_wp2_with (go_at_call 51; (with_reducible refine X1.out.mono ?_); rintro e w1 ⟨rfl, p_, k_⟩; have K1 := Aside0.mk k_; have PP1 := Aside0.mk p_; clear p_ k_)
      clear k0
      rw [rounds_succ]
      have X2 := Aside0.mk (G2.out _ PP1.out (K1.out))
      have k1 : w1.cell? ⟨gs, 1, none⟩ = some (.func (.func 52) #[] a2) := (blk_cell ((K1.out).trans HS.out) 1).trans rfl
      go_wp2_with (go_at_call 52; (with_reducible refine X2.out.mono ?_); rintro e w2 ⟨rfl, p_, k_⟩; have K2 := Aside0.mk k_; have PP2 := Aside0.mk p_; clear p_ k_)
      clear k1
      go_ret
      exact ⟨by simp [E2.out], by simpa [E2.out] using PP2.out⟩
  · have q1 : (c1 != 0) = true := by simp [bne, beq_false e1]
    have E1 := Aside0.mk e1
    go_enter Try.func50, Try.ntmps50
    go_wp2_with (fail)
    refine wp_loop_rounds 4 ?_
    rw [rounds_succ]
    have X1 := Aside0.mk (H1.out)
    go_wp2_with (go_at_call 51; (with_reducible refine X1.out.mono ?_); rintro e w1 ⟨rfl, p_, k_⟩; have K1 := Aside0.mk k_; have PP1 := Aside0.mk p_; clear p_ k_)
    clear k0
    go_ret
    exact ⟨by simp [E1.out], by simpa [E1.out] using PP1.out⟩
set_option maxHeartbeats 8000000 in
set_option maxRecDepth 100000 in
theorem done_147_148_149 (gs : Nat) (a1 a2 a3 : Array Value) (c1 c2 c3 : Int) (P1 P2 P3 : World → Prop) (w : World)
    (hs : w.heap[gs]? = some (.cells #[.func (.func 65) #[] a1, .func (.func 67) #[] a2, .func (.func 68) #[] a3] 46 (0, 0)))
    (h1 : Calls Try.prog 65 a1 w fun e w' => e = .returned (.int .i64 c1) ∧ P1 w' ∧ w'.heap[gs]? = w.heap[gs]?)
    (h2 : c1 = 0 → ∀ w1 : World, P1 w1 → w1.heap[gs]? = w.heap[gs]? → Calls Try.prog 67 a2 w1 fun e w' => e = .returned (.int .i64 c2) ∧ P2 w' ∧ w'.heap[gs]? = w1.heap[gs]?)
    (h3 : c1 = 0 → c2 = 0 → ∀ w1 : World, P2 w1 → w1.heap[gs]? = w.heap[gs]? → Calls Try.prog 68 a3 w1 fun e w' => e = .returned (.int .i64 c3) ∧ P3 w' ∧ w'.heap[gs]? = w1.heap[gs]?)
    : Calls Try.prog 50 #[.slice (some ⟨gs, 0, none⟩) 3 3] w fun e w' => e = .returned (.int .i64 (if c1 ≠ 0 then c1 else if c2 ≠ 0 then c2 else c3)) ∧ (if c1 ≠ 0 then P1 w' else if c2 ≠ 0 then P2 w' else P3 w') := by
  have H1 := Aside0.mk h1
  have H2 := Aside0.mk h2
  have H3 := Aside0.mk h3
  have HS := Aside0.mk hs
  have k0 : w.cell? ⟨gs, 0, none⟩ = some (.func (.func 65) #[] a1) := (blk_cell hs 0).trans rfl
  have k1 : w.cell? ⟨gs, 1, none⟩ = some (.func (.func 67) #[] a2) := (blk_cell hs 1).trans rfl
  have k2 : w.cell? ⟨gs, 2, none⟩ = some (.func (.func 68) #[] a3) := (blk_cell hs 2).trans rfl
  clear hs h1 h2 h3
  by_cases e1 : c1 = 0
  · subst e1
    have G2 := Aside0.mk (H2.out rfl); clear H2
    by_cases e2 : c2 = 0
    · subst e2
      have G3 := Aside0.mk (H3.out rfl rfl); clear H3
      by_cases e3 : c3 = 0
      · subst e3
        go_enter Try.func50, Try.ntmps50
        go_wp2_with (fail)
        refine wp_loop_rounds 4 ?_
        rw [rounds_succ]
        have X1 := Aside0.mk (H1.out)
        go_wp2_with (go_at_call 65; (with_reducible refine X1.out.mono ?_); rintro e w1 ⟨rfl, p_, k_⟩; have K1 := Aside0.mk k_; have PP1 := Aside0.mk p_; clear p_ k_)
        clear k0
        rw [rounds_succ]
        have X2 := Aside0.mk (G2.out _ PP1.out (K1.out))
        have k1 : w1.cell? ⟨gs, 1, none⟩ = some (.func (.func 67) #[] a2) := (blk_cell ((K1.out).trans HS.out) 1).trans rfl
        go_wp2_with (go_at_call 67; (with_reducible refine X2.out.mono ?_); rintro e w2 ⟨rfl, p_, k_⟩; have K2 := Aside0.mk k_; have PP2 := Aside0.mk p_; clear p_ k_)
        clear k1
        rw [rounds_succ]
        have X3 := Aside0.mk (G3.out _ PP2.out (K2.out.trans (K1.out)))
        have k2 : w2.cell? ⟨gs, 2, none⟩ = some (.func (.func 68) #[] a3) := (blk_cell ((K2.out.trans (K1.out)).trans HS.out) 2).trans rfl
        go_wp2_with (go_at_call 68; (with_reducible refine X3.out.mono ?_); rintro e w3 ⟨rfl, p_, k_⟩; have K3 := Aside0.mk k_; have PP3 := Aside0.mk p_; clear p_ k_)
        clear k2
        rw [rounds_succ]
        go_wp2_with (fail)
        go_ret
        exact ⟨by simp, by simpa using PP3.out⟩
      · have q3 : (c3 != 0) = true := by simp [bne, beq_false e3]
        have E3 := Aside0.mk e3
        go_enter Try.func50, Try.ntmps50
        go_wp2_with (fail)
        refine wp_loop_rounds 4 ?_
        rw [rounds_succ]
        have X1 := Aside0.mk (H1.out)
        go_wp2_with (go_at_call 65; (with_reducible refine X1.out.mono ?_); rintro e w1 ⟨rfl, p_, k_⟩; have K1 := Aside0.mk k_; have PP1 := Aside0.mk p_; clear p_ k_)
        clear k0
        rw [rounds_succ]
        have X2 := Aside0.mk (G2.out _ PP1.out (K1.out))
        have k1 : w1.cell? ⟨gs, 1, none⟩ = some (.func (.func 67) #[] a2) := (blk_cell ((K1.out).trans HS.out) 1).trans rfl
        go_wp2_with (go_at_call 67; (with_reducible refine X2.out.mono ?_); rintro e w2 ⟨rfl, p_, k_⟩; have K2 := Aside0.mk k_; have PP2 := Aside0.mk p_; clear p_ k_)
        clear k1
        rw [rounds_succ]
        have X3 := Aside0.mk (G3.out _ PP2.out (K2.out.trans (K1.out)))
        have k2 : w2.cell? ⟨gs, 2, none⟩ = some (.func (.func 68) #[] a3) := (blk_cell ((K2.out.trans (K1.out)).trans HS.out) 2).trans rfl
        go_wp2_with (go_at_call 68; (with_reducible refine X3.out.mono ?_); rintro e w3 ⟨rfl, p_, k_⟩; have K3 := Aside0.mk k_; have PP3 := Aside0.mk p_; clear p_ k_)
        clear k2
        go_ret
        exact ⟨by simp, by simpa using PP3.out⟩
    · have q2 : (c2 != 0) = true := by simp [bne, beq_false e2]
      have E2 := Aside0.mk e2
      go_enter Try.func50, Try.ntmps50
      go_wp2_with (fail)
      refine wp_loop_rounds 4 ?_
      rw [rounds_succ]
      have X1 := Aside0.mk (H1.out)
      go_wp2_with (go_at_call 65; (with_reducible refine X1.out.mono ?_); rintro e w1 ⟨rfl, p_, k_⟩; have K1 := Aside0.mk k_; have PP1 := Aside0.mk p_; clear p_ k_)
      clear k0
      rw [rounds_succ]
      have X2 := Aside0.mk (G2.out _ PP1.out (K1.out))
      have k1 : w1.cell? ⟨gs, 1, none⟩ = some (.func (.func 67) #[] a2) := (blk_cell ((K1.out).trans HS.out) 1).trans rfl
      go_wp2_with (go_at_call 67; (with_reducible refine X2.out.mono ?_); rintro e w2 ⟨rfl, p_, k_⟩; have K2 := Aside0.mk k_; have PP2 := Aside0.mk p_; clear p_ k_)
      clear k1
      go_ret
      exact ⟨by simp [E2.out], by simpa [E2.out] using PP2.out⟩
  · have q1 : (c1 != 0) = true := by simp [bne, beq_false e1]
    have E1 := Aside0.mk e1
    go_enter Try.func50, Try.ntmps50
    go_wp2_with (fail)
    refine wp_loop_rounds 4 ?_
    rw [rounds_succ]
    have X1 := Aside0.mk (H1.out)
    go_wp2_with (go_at_call 65; (with_reducible refine X1.out.mono ?_); rintro e w1 ⟨rfl, p_, k_⟩; have K1 := Aside0.mk k_; have PP1 := Aside0.mk p_; clear p_ k_)
    clear k0
    go_ret
    exact ⟨by simp [E1.out], by simpa [E1.out] using PP1.out⟩
set_option maxHeartbeats 8000000 in
set_option maxRecDepth 100000 in
theorem done_171_172_173_175 (gs : Nat) (a1 a2 a3 a4 : Array Value) (c1 c2 c3 c4 : Int) (P1 P2 P3 P4 : World → Prop) (w : World)
    (hs : w.heap[gs]? = some (.cells #[.func (.func 74) #[] a1, .func (.func 75) #[] a2, .func (.func 76) #[] a3, .func (.func 78) #[] a4] 46 (0, 0)))
    (h1 : Calls Try.prog 74 a1 w fun e w' => e = .returned (.int .i64 c1) ∧ P1 w' ∧ w'.heap[gs]? = w.heap[gs]?)
    (h2 : c1 = 0 → ∀ w1 : World, P1 w1 → w1.heap[gs]? = w.heap[gs]? → Calls Try.prog 75 a2 w1 fun e w' => e = .returned (.int .i64 c2) ∧ P2 w' ∧ w'.heap[gs]? = w1.heap[gs]?)
    (h3 : c1 = 0 → c2 = 0 → ∀ w1 : World, P2 w1 → w1.heap[gs]? = w.heap[gs]? → Calls Try.prog 76 a3 w1 fun e w' => e = .returned (.int .i64 c3) ∧ P3 w' ∧ w'.heap[gs]? = w1.heap[gs]?)
    (h4 : c1 = 0 → c2 = 0 → c3 = 0 → ∀ w1 : World, P3 w1 → w1.heap[gs]? = w.heap[gs]? → Calls Try.prog 78 a4 w1 fun e w' => e = .returned (.int .i64 c4) ∧ P4 w' ∧ w'.heap[gs]? = w1.heap[gs]?)
    : Calls Try.prog 50 #[.slice (some ⟨gs, 0, none⟩) 4 4] w fun e w' => e = .returned (.int .i64 (if c1 ≠ 0 then c1 else if c2 ≠ 0 then c2 else if c3 ≠ 0 then c3 else c4)) ∧ (if c1 ≠ 0 then P1 w' else if c2 ≠ 0 then P2 w' else if c3 ≠ 0 then P3 w' else P4 w') := by
  have H1 := Aside0.mk h1
  have H2 := Aside0.mk h2
  have H3 := Aside0.mk h3
  have H4 := Aside0.mk h4
  have HS := Aside0.mk hs
  have k0 : w.cell? ⟨gs, 0, none⟩ = some (.func (.func 74) #[] a1) := (blk_cell hs 0).trans rfl
  have k1 : w.cell? ⟨gs, 1, none⟩ = some (.func (.func 75) #[] a2) := (blk_cell hs 1).trans rfl
  have k2 : w.cell? ⟨gs, 2, none⟩ = some (.func (.func 76) #[] a3) := (blk_cell hs 2).trans rfl
  have k3 : w.cell? ⟨gs, 3, none⟩ = some (.func (.func 78) #[] a4) := (blk_cell hs 3).trans rfl
  clear hs h1 h2 h3 h4
  by_cases e1 : c1 = 0
  · subst e1
    have G2 := Aside0.mk (H2.out rfl); clear H2
    by_cases e2 : c2 = 0
    · subst e2
      have G3 := Aside0.mk (H3.out rfl rfl); clear H3
      by_cases e3 : c3 = 0
      · subst e3
        have G4 := Aside0.mk (H4.out rfl rfl rfl); clear H4
        by_cases e4 : c4 = 0
        · subst e4
          go_enter Try.func50, Try.ntmps50
          go_wp2_with (fail)
          refine wp_loop_rounds 5 ?_
          rw [rounds_succ]
          have X1 := Aside0.mk (H1.out)
          go_wp2_with (go_at_call 74; (with_reducible refine X1.out.mono ?_); rintro e w1 ⟨rfl, p_, k_⟩; have K1 := Aside0.mk k_; have PP1 := Aside0.mk p_; clear p_ k_)
          clear k0
          rw [rounds_succ]
          have X2 := Aside0.mk (G2.out _ PP1.out (K1.out))
          have k1 : w1.cell? ⟨gs, 1, none⟩ = some (.func (.func 75) #[] a2) := (blk_cell ((K1.out).trans HS.out) 1).trans rfl
          go_wp2_with (go_at_call 75; (with_reducible refine X2.out.mono ?_); rintro e w2 ⟨rfl, p_, k_⟩; have K2 := Aside0.mk k_; have PP2 := Aside0.mk p_; clear p_ k_)
          clear k1
          rw [rounds_succ]
          have X3 := Aside0.mk (G3.out _ PP2.out (K2.out.trans (K1.out)))
          have k2 : w2.cell? ⟨gs, 2, none⟩ = some (.func (.func 76) #[] a3) := (blk_cell ((K2.out.trans (K1.out)).trans HS.out) 2).trans rfl
          go_wp2_with (go_at_call 76; (with_reducible refine X3.out.mono ?_); rintro e w3 ⟨rfl, p_, k_⟩; have K3 := Aside0.mk k_; have PP3 := Aside0.mk p_; clear p_ k_)
          clear k2
          rw [rounds_succ]
          have X4 := Aside0.mk (G4.out _ PP3.out (K3.out.trans (K2.out.trans (K1.out))))
          have k3 : w3.cell? ⟨gs, 3, none⟩ = some (.func (.func 78) #[] a4) := (blk_cell ((K3.out.trans (K2.out.trans (K1.out))).trans HS.out) 3).trans rfl
          go_wp2_with (go_at_call 78; (with_reducible refine X4.out.mono ?_); rintro e w4 ⟨rfl, p_, k_⟩; have K4 := Aside0.mk k_; have PP4 := Aside0.mk p_; clear p_ k_)
          clear k3
          rw [rounds_succ]
          go_wp2_with (fail)
          go_ret
          exact ⟨by simp, by simpa using PP4.out⟩
        · have q4 : (c4 != 0) = true := by simp [bne, beq_false e4]
          have E4 := Aside0.mk e4
          go_enter Try.func50, Try.ntmps50
          go_wp2_with (fail)
          refine wp_loop_rounds 5 ?_
          rw [rounds_succ]
          have X1 := Aside0.mk (H1.out)
          go_wp2_with (go_at_call 74; (with_reducible refine X1.out.mono ?_); rintro e w1 ⟨rfl, p_, k_⟩; have K1 := Aside0.mk k_; have PP1 := Aside0.mk p_; clear p_ k_)
          clear k0
          rw [rounds_succ]
          have X2 := Aside0.mk (G2.out _ PP1.out (K1.out))
          have k1 : w1.cell? ⟨gs, 1, none⟩ = some (.func (.func 75) #[] a2) := (blk_cell ((K1.out).trans HS.out) 1).trans rfl
          go_wp2_with (go_at_call 75; (with_reducible refine X2.out.mono ?_); rintro e w2 ⟨rfl, p_, k_⟩; have K2 := Aside0.mk k_; have PP2 := Aside0.mk p_; clear p_ k_)
          clear k1
          rw [rounds_succ]
          have X3 := Aside0.mk (G3.out _ PP2.out (K2.out.trans (K1.out)))
          have k2 : w2.cell? ⟨gs, 2, none⟩ = some (.func (.func 76) #[] a3) := (blk_cell ((K2.out.trans (K1.out)).trans HS.out) 2).trans rfl
          go_wp2_with (go_at_call 76; (with_reducible refine X3.out.mono ?_); rintro e w3 ⟨rfl, p_, k_⟩; have K3 := Aside0.mk k_; have PP3 := Aside0.mk p_; clear p_ k_)
          clear k2
          rw [rounds_succ]
          have X4 := Aside0.mk (G4.out _ PP3.out (K3.out.trans (K2.out.trans (K1.out))))
          have k3 : w3.cell? ⟨gs, 3, none⟩ = some (.func (.func 78) #[] a4) := (blk_cell ((K3.out.trans (K2.out.trans (K1.out))).trans HS.out) 3).trans rfl
          go_wp2_with (go_at_call 78; (with_reducible refine X4.out.mono ?_); rintro e w4 ⟨rfl, p_, k_⟩; have K4 := Aside0.mk k_; have PP4 := Aside0.mk p_; clear p_ k_)
          clear k3
          go_ret
          exact ⟨by simp, by simpa using PP4.out⟩
      · have q3 : (c3 != 0) = true := by simp [bne, beq_false e3]
        have E3 := Aside0.mk e3
        go_enter Try.func50, Try.ntmps50
        go_wp2_with (fail)
        refine wp_loop_rounds 5 ?_
        rw [rounds_succ]
        have X1 := Aside0.mk (H1.out)
        go_wp2_with (go_at_call 74; (with_reducible refine X1.out.mono ?_); rintro e w1 ⟨rfl, p_, k_⟩; have K1 := Aside0.mk k_; have PP1 := Aside0.mk p_; clear p_ k_)
        clear k0
        rw [rounds_succ]
        have X2 := Aside0.mk (G2.out _ PP1.out (K1.out))
        have k1 : w1.cell? ⟨gs, 1, none⟩ = some (.func (.func 75) #[] a2) := (blk_cell ((K1.out).trans HS.out) 1).trans rfl
        go_wp2_with (go_at_call 75; (with_reducible refine X2.out.mono ?_); rintro e w2 ⟨rfl, p_, k_⟩; have K2 := Aside0.mk k_; have PP2 := Aside0.mk p_; clear p_ k_)
        clear k1
        rw [rounds_succ]
        have X3 := Aside0.mk (G3.out _ PP2.out (K2.out.trans (K1.out)))
        have k2 : w2.cell? ⟨gs, 2, none⟩ = some (.func (.func 76) #[] a3) := (blk_cell ((K2.out.trans (K1.out)).trans HS.out) 2).trans rfl
        go_wp2_with (go_at_call 76; (with_reducible refine X3.out.mono ?_); rintro e w3 ⟨rfl, p_, k_⟩; have K3 := Aside0.mk k_; have PP3 := Aside0.mk p_; clear p_ k_)
        clear k2
        go_ret
        exact ⟨by simp [E3.out], by simpa [E3.out] using PP3.out⟩
    · have q2 : (c2 != 0) = true := by simp [bne, beq_false e2]
      have E2 := Aside0.mk e2
      go_enter Try.func50, Try.ntmps50
      go_wp2_with (fail)
      refine wp_loop_rounds 5 ?_
      rw [rounds_succ]
      have X1 := Aside0.mk (H1.out)
      go_wp2_with (go_at_call 74; (with_reducible refine X1.out.mono ?_); rintro e w1 ⟨rfl, p_, k_⟩; have K1 := Aside0.mk k_; have PP1 := Aside0.mk p_; clear p_ k_)
      clear k0
      rw [rounds_succ]
      have X2 := Aside0.mk (G2.out _ PP1.out (K1.out))
      have k1 : w1.cell? ⟨gs, 1, none⟩ = some (.func (.func 75) #[] a2) := (blk_cell ((K1.out).trans HS.out) 1).trans rfl
      go_wp2_with (go_at_call 75; (with_reducible refine X2.out.mono ?_); rintro e w2 ⟨rfl, p_, k_⟩; have K2 := Aside0.mk k_; have PP2 := Aside0.mk p_; clear p_ k_)
      clear k1
      go_ret
      exact ⟨by simp [E2.out], by simpa [E2.out] using PP2.out⟩
  · have q1 : (c1 != 0) = true := by simp [bne, beq_false e1]
    have E1 := Aside0.mk e1
    go_enter Try.func50, Try.ntmps50
    go_wp2_with (fail)
    refine wp_loop_rounds 5 ?_
    rw [rounds_succ]
    have X1 := Aside0.mk (H1.out)
    go_wp2_with (go_at_call 74; (with_reducible refine X1.out.mono ?_); rintro e w1 ⟨rfl, p_, k_⟩; have K1 := Aside0.mk k_; have PP1 := Aside0.mk p_; clear p_ k_)
    clear k0
    go_ret
    exact ⟨by simp [E1.out], by simpa [E1.out] using PP1.out⟩
structure Lk (base gd gl : Nat) (L : World → (Nat → Prop) → Prop) : Prop where
  fr : Fr base L
  disk : ∀ w O, L w O → w.cell? ⟨gl, 0, none⟩ = some (.pointer (some ⟨gd, 0, none⟩))
theorem lkLX (base gd gl : Nat) (g : Lg) : Lk base gd gl (LX base gl gd g) :=
  ⟨frL _ _ _ _, fun w O h => by obtain ⟨bn, bk, hx, -⟩ := h; exact (blk_cell hx 0).trans rfl⟩
structure WB (w0 w : World) (bx : List (Nat × Obj)) (gd : Nat) (L : World → (Nat → Prop) → Prop) (O : Nat → Prop) (s : St) : Prop where
  hB : Below w0.heap.size w0 w
  hD : Sep w0.heap.size (fun w O => DD w w0.heap.size gd O s) L w O
  bx : ∀ x ∈ bx, w.heap[x.1]? = some x.2 ∧ ¬ O x.1
section
variable {w0 w w' : World} {bx : List (Nat × Obj)} {gd gl : Nat} {L L' : World → (Nat → Prop) → Prop} {O : Nat → Prop} {s s' : St}
theorem WB.below (h : WB w0 w bx gd L O s) (hl : Lk w0.heap.size gd gl L) (hb : Below w.heap.size w w') : WB w0 w' bx gd L O s :=
  ⟨below_step h.hB hb, (frSep (frD _ _ _) hl.fr).apart h.hD (S := fun _ => False) (Kept.of_below hb _) (fun _ _ h => h), fun x hx => ⟨(Kept.of_below hb (fun _ => False)).2 x.1 (by have := (h.bx x hx).1; exact (Array.getElem?_eq_some_iff.mp this).1) (fun h => h) |>.trans (h.bx x hx).1, (h.bx x hx).2⟩⟩
theorem WB.drew (h : WB w0 w bx gd L O s) (hl : Lk w0.heap.size gd gl L) : WB w0 w.drew bx gd L O s := h.below hl (below_drew (Below.refl _ w))
theorem WB.disk (h : WB w0 w bx gd L O s) (hl : Lk w0.heap.size gd gl L) : w.cell? ⟨gl, 0, none⟩ = some (.pointer (some ⟨gd, 0, none⟩)) := by
  obtain ⟨O1, O2, -, h2, -⟩ := h.hD
  exact hl.disk _ _ h2
theorem WB.box (h : WB w0 w bx gd L O s) (b : Nat) (cs : Array Value) (t : TypeId) (hx : (b, Obj.cells cs t (0, 0)) ∈ bx) (i : Nat) : w.cell? ⟨b, i, none⟩ = cs[i]? := by
  have := (h.bx _ hx).1
  exact blk_cell this i
theorem WB.lt (h : WB w0 w bx gd L O s) {x : Nat × Obj} (hx : x ∈ bx) : x.1 < w.heap.size := (Array.getElem?_eq_some_iff.mp (h.bx x hx).1).1
theorem WB.to (h : WB w0 w bx gd L O s) (hd : Sep w0.heap.size (fun w O => DD w w0.heap.size gd O s') L' w' (fun k => O k ∨ w.heap.size ≤ k)) (hb : Below w0.heap.size w0 w') (hk : Kept w w' O) : WB w0 w' bx gd L' (fun k => O k ∨ w.heap.size ≤ k) s' :=
  ⟨hb, hd, fun x hx => ⟨(hk.2 x.1 (h.lt hx) (h.bx x hx).2).trans (h.bx x hx).1, fun ho => ho.elim (h.bx x hx).2 (Nat.not_le.mpr (h.lt hx))⟩⟩
theorem WB.mono {O' : Nat → Prop} (h : WB w0 w bx gd L O s) (hl : Lk w0.heap.size gd gl L) (hO : ∀ k, O k → O' k) (hn : ∀ x ∈ bx, ¬ O' x.1) : WB w0 w bx gd L O' s :=
  ⟨h.hB, (frSep (frD _ _ _) hl.fr).mono h.hD hO, fun x hx => ⟨(h.bx x hx).1, hn x hx⟩⟩
theorem WB.onD {f : FuncId} {args : Array Value} {V : Value} (h : WB w0 w bx gd L O s) (hl : Lk w0.heap.size gd gl L)
    (hc : ∀ O1, DD w w0.heap.size gd O1 s → Calls Try.prog f args w fun e w' => e = .returned V ∧ DD w' w0.heap.size gd (fun k => O1 k ∨ w.heap.size ≤ k) s' ∧ Below w0.heap.size w0 w' ∧ Kept w w' O1) :
    Calls Try.prog f args w fun e w' => e = .returned V ∧ WB w0 w' bx gd L (fun k => O k ∨ w.heap.size ≤ k) s' ∧ Kept w w' O := by
  obtain ⟨O1, h1, h2, h3, back⟩ := Sep.onL h.hD (frD _ _ s') hl.fr
  refine (hc O1 h1).mono ?_
  rintro e w' ⟨rfl, hd, hb, hk⟩
  exact ⟨rfl, h.to (back _ hd hk).1 hb (back _ hd hk).2, (back _ hd hk).2⟩
theorem WB.onL {f : FuncId} {args : Array Value} {V : Value} (h : WB w0 w bx gd L O s)
    (hc : Calls Try.prog f args w fun e w' => e = .returned V ∧ Sep w0.heap.size (fun w O => DD w w0.heap.size gd O s') L' w' (fun k => O k ∨ w.heap.size ≤ k) ∧ Below w0.heap.size w0 w' ∧ Kept w w' O) :
    Calls Try.prog f args w fun e w' => e = .returned V ∧ WB w0 w' bx gd L' (fun k => O k ∨ w.heap.size ≤ k) s' ∧ Kept w w' O := by
  refine hc.mono ?_
  rintro e w' ⟨rfl, hd, hb, hk⟩
  exact ⟨rfl, h.to hd hb hk, hk⟩
end
def Ran (w0 w : World) (bx : List (Nat × Obj)) (gd : Nat) (L : World → (Nat → Prop) → Prop) (O : Nat → Prop) (s : St) (w' : World) : Prop := WB w0 w' bx gd L (fun k => O k ∨ w.heap.size ≤ k) s ∧ Kept w w' O
theorem Ran.next {w0 w w1 w2 : World} {bx : List (Nat × Obj)} {gd gl : Nat} {L L1 L' : World → (Nat → Prop) → Prop} {O : Nat → Prop} {s0 s s' : St} (h0 : WB w0 w bx gd L O s0) (h : Ran w0 w bx gd L1 O s w1) (hl : Lk w0.heap.size gd gl L')
    (h2 : Ran w0 w1 bx gd L' (fun k => O k ∨ w.heap.size ≤ k) s' w2) : Ran w0 w bx gd L' O s' w2 :=
  ⟨h2.1.mono hl (fun k hk => hk.elim id (fun a => .inr (Nat.le_trans h.2.1 a))) (fun x hx ho => ho.elim (h0.bx x hx).2 (Nat.not_le.mpr (h0.lt hx))), h.2.then_ h2.2 (fun k hk => hk)⟩
theorem Ran.keeps {w0 w w1 : World} {bx : List (Nat × Obj)} {gd : Nat} {L L1 : World → (Nat → Prop) → Prop} {O : Nat → Prop} {s0 s : St} (h0 : WB w0 w bx gd L O s0) (h : Ran w0 w bx gd L1 O s w1) {x : Nat × Obj} (hx : x ∈ bx) : w1.heap[x.1]? = w.heap[x.1]? := (h.1.bx x hx).1.trans (h0.bx x hx).1.symm
abbrev pv (g : Nat) : Value := .pointer (some ⟨g, 0, none⟩)
abbrev bx1 (v : Value) (t : TypeId) : Obj := .cells #[v] t (0, 0)
set_option maxHeartbeats 4000000 in
theorem sync177.calls (bl gd gl : Nat) (bx : List (Nat × Obj)) (L : World → (Nat → Prop) → Prop) (O : Nat → Prop) (s : St) (m : Nat) (w0 w : World) (h : WB w0 w bx gd L O s) (hl : Lk w0.heap.size gd gl L) (hok : s.ok m) (hm : m ≤ 900000000) (hb : (bl, bx1 (pv gl) 60) ∈ bx) :
    Calls Try.prog 80 #[pv bl] w fun e w' => e = .returned (.int .i64 (s.sync 1).1) ∧ Ran w0 w bx gd L O (s.sync 1).2 w' := by
  have HC := Aside0.mk (h.onD hl (fun O1 h1 => sync.calls gd O1 s 1 m w0 w h.hB h1 hok (Nat.le_trans hm (by decide))))
  have p0 : w.cell? ⟨bl, 0, none⟩ = some (pv gl) := (h.box _ _ _ hb 0).trans rfl
  have p1 := h.disk hl
  clear hb h hl hok hm
  go_enter Try.func80, Try.ntmps80
  go_wp2_with (go_at_call 45; (with_reducible refine HC.out.mono ?_); rintro e w2 ⟨rfl, h2⟩; have H2 := Aside0.mk h2; clear h2)
  go_ret
  exact ⟨rfl, H2.out⟩
set_option maxHeartbeats 4000000 in
theorem sync144.calls (bl gd gl : Nat) (bx : List (Nat × Obj)) (L : World → (Nat → Prop) → Prop) (O : Nat → Prop) (s : St) (m : Nat) (w0 w : World) (h : WB w0 w bx gd L O s) (hl : Lk w0.heap.size gd gl L) (hok : s.ok m) (hm : m ≤ 900000000) (hb : (bl, bx1 (pv gl) 60) ∈ bx) :
    Calls Try.prog 52 #[pv bl] w fun e w' => e = .returned (.int .i64 (s.sync 1).1) ∧ Ran w0 w bx gd L O (s.sync 1).2 w' := by
  have HC := Aside0.mk (h.onD hl (fun O1 h1 => sync.calls gd O1 s 1 m w0 w h.hB h1 hok (Nat.le_trans hm (by decide))))
  have p0 : w.cell? ⟨bl, 0, none⟩ = some (pv gl) := (h.box _ _ _ hb 0).trans rfl
  have p1 := h.disk hl
  clear hb h hl hok hm
  go_enter Try.func52, Try.ntmps52
  go_wp2_with (go_at_call 45; (with_reducible refine HC.out.mono ?_); rintro e w2 ⟨rfl, h2⟩; have H2 := Aside0.mk h2; clear h2)
  go_ret
  exact ⟨rfl, H2.out⟩
set_option maxHeartbeats 4000000 in
theorem sync172.calls (bl gd gl : Nat) (bx : List (Nat × Obj)) (L : World → (Nat → Prop) → Prop) (O : Nat → Prop) (s : St) (m : Nat) (w0 w : World) (h : WB w0 w bx gd L O s) (hl : Lk w0.heap.size gd gl L) (hok : s.ok m) (hm : m ≤ 900000000) (hb : (bl, bx1 (pv gl) 60) ∈ bx) :
    Calls Try.prog 75 #[pv bl] w fun e w' => e = .returned (.int .i64 (s.sync 1).1) ∧ Ran w0 w bx gd L O (s.sync 1).2 w' := by
  have HC := Aside0.mk (h.onD hl (fun O1 h1 => sync.calls gd O1 s 1 m w0 w h.hB h1 hok (Nat.le_trans hm (by decide))))
  have p0 : w.cell? ⟨bl, 0, none⟩ = some (pv gl) := (h.box _ _ _ hb 0).trans rfl
  have p1 := h.disk hl
  clear hb h hl hok hm
  go_enter Try.func75, Try.ntmps75
  go_wp2_with (go_at_call 45; (with_reducible refine HC.out.mono ?_); rintro e w2 ⟨rfl, h2⟩; have H2 := Aside0.mk h2; clear h2)
  go_ret
  exact ⟨rfl, H2.out⟩
set_option maxHeartbeats 4000000 in
theorem sync175.calls (bl gd gl : Nat) (bx : List (Nat × Obj)) (L : World → (Nat → Prop) → Prop) (O : Nat → Prop) (s : St) (m : Nat) (w0 w : World) (h : WB w0 w bx gd L O s) (hl : Lk w0.heap.size gd gl L) (hok : s.ok m) (hm : m ≤ 900000000) (hb : (bl, bx1 (pv gl) 60) ∈ bx) :
    Calls Try.prog 78 #[pv bl] w fun e w' => e = .returned (.int .i64 (s.sync 1).1) ∧ Ran w0 w bx gd L O (s.sync 1).2 w' := by
  have HC := Aside0.mk (h.onD hl (fun O1 h1 => sync.calls gd O1 s 1 m w0 w h.hB h1 hok (Nat.le_trans hm (by decide))))
  have p0 : w.cell? ⟨bl, 0, none⟩ = some (pv gl) := (h.box _ _ _ hb 0).trans rfl
  have p1 := h.disk hl
  clear hb h hl hok hm
  go_enter Try.func78, Try.ntmps78
  go_wp2_with (go_at_call 45; (with_reducible refine HC.out.mono ?_); rintro e w2 ⟨rfl, h2⟩; have H2 := Aside0.mk h2; clear h2)
  go_ret
  exact ⟨rfl, H2.out⟩
set_option maxHeartbeats 4000000 in
theorem sync148.calls (bl gd gl : Nat) (bx : List (Nat × Obj)) (L : World → (Nat → Prop) → Prop) (O : Nat → Prop) (s : St) (m : Nat) (w0 w : World) (h : WB w0 w bx gd L O s) (hl : Lk w0.heap.size gd gl L) (hok : s.ok m) (hm : m ≤ 900000000) (hb : (bl, bx1 (pv gl) 60) ∈ bx) :
    Calls Try.prog 67 #[pv bl] w fun e w' => e = .returned (.int .i64 (s.sync 0).1) ∧ Ran w0 w bx gd L O (s.sync 0).2 w' := by
  have HC := Aside0.mk (h.onD hl (fun O1 h1 => sync.calls gd O1 s 0 m w0 w h.hB h1 hok (Nat.le_trans hm (by decide))))
  have p0 : w.cell? ⟨bl, 0, none⟩ = some (pv gl) := (h.box _ _ _ hb 0).trans rfl
  have p1 := h.disk hl
  clear hb h hl hok hm
  go_enter Try.func67, Try.ntmps67
  go_wp2_with (go_at_call 45; (with_reducible refine HC.out.mono ?_); rintro e w2 ⟨rfl, h2⟩; have H2 := Aside0.mk h2; clear h2)
  go_ret
  exact ⟨rfl, H2.out⟩
set_option maxHeartbeats 4000000 in
theorem cut171.calls (bl gd gl : Nat) (bx : List (Nat × Obj)) (L : World → (Nat → Prop) → Prop) (O : Nat → Prop) (s : St) (m : Nat) (w0 w : World) (h : WB w0 w bx gd L O s) (hl : Lk w0.heap.size gd gl L) (hok : s.ok m) (hm : m ≤ 900000000) (hb : (bl, bx1 (pv gl) 60) ∈ bx) :
    Calls Try.prog 74 #[pv bl] w fun e w' => e = .returned (.int .i64 (s.cutTo 1 0).1) ∧ Ran w0 w bx gd L O (s.cutTo 1 0).2 w' := by
  have HC := Aside0.mk (h.onD hl (fun O1 h1 => cut.calls gd O1 s 1 0 m w0 w h.hB h1 hok (Nat.le_trans hm (by decide))))
  have p0 : w.cell? ⟨bl, 0, none⟩ = some (pv gl) := (h.box _ _ _ hb 0).trans rfl
  have p1 := h.disk hl
  clear hb h hl hok hm
  go_enter Try.func74, Try.ntmps74
  go_wp2_with (go_at_call 66; (with_reducible refine HC.out.mono ?_); rintro e w2 ⟨rfl, h2⟩; have H2 := Aside0.mk h2; clear h2)
  go_ret
  exact ⟨rfl, H2.out⟩
set_option maxHeartbeats 4000000 in
theorem write176.calls (bl bs bn bf bp gd gl : Nat) (slot n fr pg : Int) (tx : ByteArray) (bx : List (Nat × Obj)) (L : World → (Nat → Prop) → Prop) (O : Nat → Prop) (s : St) (m : Nat) (w0 w : World) (h : WB w0 w bx gd L O s) (hl : Lk w0.heap.size gd gl L) (hok : s.ok m) (hm : m ≤ 900000000)
    (hb : (bl, bx1 (pv gl) 60) ∈ bx) (hbs : (bs, bx1 (.int .i64 slot) 3) ∈ bx) (hbn : (bn, bx1 (.int .i64 n) 3) ∈ bx) (hbf : (bf, bx1 (.int .i64 fr) 3) ∈ bx) (hbp : (bp, bx1 (.int .i64 pg) 3) ∈ bx)
    (hsl : slot = 0 ∨ slot = 1) (htx : wal_slotText.f n fr pg = some tx) :
    Calls Try.prog 79 #[pv bl, pv bs, pv bn, pv bf, pv bp] w fun e w' => e = .returned (.int .i64 (s.write 1 (16 + slot * 24) tx).1) ∧ Ran w0 w bx gd L O (s.write 1 (16 + slot * 24) tx).2 w' := by
  have held : ∀ {w1 : World} {O1 : Nat → Prop} {s1 : St}, WB w0 w1 bx gd L O1 s1 → w1.cell? ⟨bl, 0, none⟩ = some (pv gl) ∧ w1.cell? ⟨gl, 0, none⟩ = some (pv gd) ∧ w1.cell? ⟨bs, 0, none⟩ = some (.int .i64 slot) ∧ w1.cell? ⟨bn, 0, none⟩ = some (.int .i64 n) ∧ w1.cell? ⟨bf, 0, none⟩ = some (.int .i64 fr) ∧ w1.cell? ⟨bp, 0, none⟩ = some (.int .i64 pg) :=
    fun h1 => ⟨(h1.box _ _ _ hb 0).trans rfl, h1.disk hl, (h1.box _ _ _ hbs 0).trans rfl, (h1.box _ _ _ hbn 0).trans rfl, (h1.box _ _ _ hbf 0).trans rfl, (h1.box _ _ _ hbp 0).trans rfl⟩
  have HELD := Aside0.mk @held
  clear held
  have T0 := Aside0.mk h
  have HL := Aside0.mk hl
  have HOK := Aside0.mk hok
  have HM := Aside0.mk (Nat.le_trans hm (by decide : (900000000:Nat) ≤ 1000000000))
  have HT := Aside0.mk htx
  have w1_ : IntKind.i64.wrap (slot * 24) = slot * 24 := IntWalk.i64_in _ (by omega)
  have w2_ : IntKind.i64.wrap (16 + slot * 24) = 16 + slot * 24 := IntWalk.i64_in _ (by omega)
  clear h hl hok hm hsl htx hb hbs hbn hbf hbp
  go_enter Try.func79, Try.ntmps79
  go_upto_region 1 with (fail)
  go_region_held3 (fun w' => w'.cell? ⟨bl, 0, none⟩ = some (pv gl) ∧ w'.cell? ⟨gl, 0, none⟩ = some (pv gd) ∧ w'.cell? ⟨bs, 0, none⟩ = some (.int .i64 slot) ∧ w'.cell? ⟨bn, 0, none⟩ = some (.int .i64 n) ∧ w'.cell? ⟨bf, 0, none⟩ = some (.int .i64 fr) ∧ w'.cell? ⟨bp, 0, none⟩ = some (.int .i64 pg)) (first | exact HELD.out T2.out.1 | exact HELD.out T1.out | exact HELD.out (T0.out.drew HL.out))
    (first
    | (have T1_ := Aside0.mk T1.out; go_at_call 44; (with_reducible refine (T1.out.onD HL.out (fun O1 h1 => write.calls gd O1 s 1 (16 + slot * 24) tx _ w0 _ T1.out.hB h1 HOK.out HM.out)).mono ?_); rintro e w4 ⟨rfl, hd⟩; have T2 := Aside0.mk hd; clear hd)
    | (have T1 := Aside0.mk (T0.out.drew HL.out); go_at_call 77; (with_reducible refine (wal_slotText.calls n fr pg tx _ HT.out).mono ?_); rintro e3 w3 ⟨rfl, hb3⟩; replace T1 := Aside0.mk ((T0.out.drew HL.out).below HL.out hb3); have HB3 := Aside0.mk (below_step (below_drew (Below.refl _ w)) hb3); clear hb3))
  go_wp2_with (fail)
  go_ret
  have hs3 := HB3.out.size
  have hd := T2.out
  exact ⟨rfl, hd.1.mono HL.out (fun k hk => hk.imp id (Nat.le_trans hs3)) (fun x hx ho => ho.elim (T0.out.bx x hx).2 (Nat.not_le.mpr (T0.out.lt hx))), (Kept.of_below HB3.out O).then_ hd.2 (fun k hk => .inl hk)⟩
theorem PL.cells {w : World} {base gd gl : Nat} {O : Nat → Prop} {s : St} {g : Lg} (h : PL w base gd gl O s g) : ∃ bn bk, w.heap[gl]? = some (.cells (lcells gd g.fr.length g.pages bn g.kept g.pages bk g.slot g.number) 96 (0, 0)) ∧ MapF w bn g.fr.length (idx g.fr) ∧ MapF w bk g.kept (idx (g.fr.take g.kept)) ∧ bn ≠ gl ∧ bk ≠ gl ∧ bn ≠ bk ∧ O gl ∧ O bn ∧ O bk ∧ base ≤ gl ∧ base ≤ bn ∧ base ≤ bk := by
  obtain ⟨O1, O2, hd, ⟨bn, bk, hx, hmn, hmk, hne, hgl, hbn, hbk, hb1, hb2, hb3⟩, ho1, ho2, -⟩ := h
  exact ⟨bn, bk, hx, hmn, hmk, hmn.ne hx, hmk.ne hx, hne, ho2 _ hgl, ho2 _ hbn, ho2 _ hbk, hb1, hb2, hb3⟩
theorem PL.upd {w w' : World} {base gd gl : Nat} {O : Nat → Prop} {s : St} {g g' : Lg} (h : PL w base gd gl O s g) (hk : Kept w w' (fun j => j = gl)) (hfr : g'.fr = g.fr) (hkt : g'.kept = g.kept)
    (hx : ∀ bn bk, w.heap[gl]? = some (.cells (lcells gd g.fr.length g.pages bn g.kept g.pages bk g.slot g.number) 96 (0, 0)) → w'.heap[gl]? = some (.cells (lcells gd g.fr.length g'.pages bn g.kept g'.pages bk g'.slot g'.number) 96 (0, 0))) : PL w' base gd gl O s g' := by
  obtain ⟨O1, O2, hd, ⟨bn, bk, hb, hmn, hmk, hne, hgl, hbn, hbk, hb1, hb2, hb3⟩, ho1, ho2, hdis, hbd1, hbd2⟩ := h
  refine ⟨O1, O2, (frD _ _ _).apart hd hk (fun j hj he => hdis j hj (by rw [he]; exact hgl)), ⟨bn, bk, ?_, ?_, ?_, hne, hgl, hbn, hbk, hb1, hb2, hb3⟩, ho1, ho2, hdis, fun j hj => ⟨(hbd1 j hj).1, Nat.lt_of_lt_of_le (hbd1 j hj).2 hk.1⟩, fun j hj => ⟨(hbd2 j hj).1, Nat.lt_of_lt_of_le (hbd2 j hj).2 hk.1⟩⟩
  · rw [hfr, hkt]; exact hx _ _ hb
  · rw [hfr]; exact hmn.kept (hk.2 bn hmn.lt (hmn.ne hb))
  · rw [hfr, hkt]; exact hmk.kept (hk.2 bk hmk.lt (hmk.ne hb))
theorem Lg.tell_is (s : St) (g : Lg) (fr pg : Nat) (at_ : Int) (hat : at_ = ((16 + 24 * (1 - g.slot) : Nat) : Int)) (r1 r2 : Int × St) (h1 : r1 = s.write 1 at_ (slotB (g.number % 3 + 1) fr pg)) (h2 : r2 = r1.2.sync 1) (cF : Int) (hc : cF = if r1.1 ≠ 0 then r1.1 else r2.1) (sF : St) (hs : sF = if r1.1 ≠ 0 then r1.2 else r2.2) :
    Lg.tell s g fr pg = (cF, sF, if cF = 0 then { g with slot := 1 - g.slot, number := g.number % 3 + 1 } else g) := by
  subst hat
  unfold Lg.tell
  simp only
  rw [← h1, ← h2, hc, hs]
  by_cases e1 : r1.1 = 0 <;> by_cases e2 : r2.1 = 0 <;> simp [e1, e2]
set_option maxHeartbeats 8000000 in
set_option maxRecDepth 100000 in
theorem tell.calls (gd gl : Nat) (O : Nat → Prop) (s : St) (g : Lg) (m : Nat) (fr pg : Nat) (w0 w : World) (hB : Below w0.heap.size w0 w) (hD : PL w w0.heap.size gd gl O s g) (hok : s.ok m) (hm : m ≤ 800000000) (hg : g.ok) (hfr : fr ≤ 65536) (hpg : pg ≤ 4294967295) :
    Calls Try.prog 54 #[pv gl, .int .i64 fr, .int .i64 pg] w fun e w' => e = .returned (.int .i64 (Lg.tell s g fr pg).1) ∧
      PL w' w0.heap.size gd gl (fun k => O k ∨ w.heap.size ≤ k) (Lg.tell s g fr pg).2.1 (Lg.tell s g fr pg).2.2 ∧ Below w0.heap.size w0 w' ∧ Kept w w' O := by
  have HB := Aside0.mk hB
  have HD := Aside0.mk hD
  have HOK := Aside0.mk hok
  have HM := Aside0.mk hm
  have HG := Aside0.mk hg
  obtain ⟨bn, bk, hx, -, -, -, -, -, hgl0, -, -, hbase0, -⟩ := PL.cells hD
  have HGL := Aside0.mk hgl0
  have HBASE := Aside0.mk hbase0
  clear hgl0 hbase0
  have HX := Aside0.mk hx
  have hn1 := hg.number
  have hn2 := hg.slot
  obtain ⟨sl, hsl⟩ : ∃ sl : Int, sl = g.slot := ⟨_, rfl⟩
  obtain ⟨nu, hnu⟩ : ∃ nu : Int, nu = g.number := ⟨_, rfl⟩
  rw [← hsl, ← hnu] at hx
  clear hB hD hok hm hg
  go_enter Try.func54, Try.ntmps54
  go_upto_region 1 with (first
    | ((with_reducible refine gate_dst (N := 3) rfl ?_); refine box_event ?hg (N := 3) ?hd (cs := #[pv gl]) (t := 60) ?hr ?_; (case hd => rfl); (case hg => rfl); (case hr => first | (go_simp; done) | (go_simp; rfl)); intro g1 hg1 w1 hbox hb; have HX1 := Aside0.mk hbox; have HB1 := Aside0.mk hb; have HG1 := Aside0.mk hg1; clear hg1 hbox hb)
    | ((with_reducible refine gate_dst (N := 4) rfl ?_); refine box_event ?hg (N := 4) ?hd (cs := #[.int .i64 fr]) (t := 3) ?hr ?_; (case hd => rfl); (case hg => rfl); (case hr => first | (go_simp; done) | (go_simp; rfl)); intro g2 hg2 w2 hbox hb; have HX2 := Aside0.mk hbox; have HB2 := Aside0.mk hb; have HG2 := Aside0.mk hg2; clear hg2 hbox hb)
    | ((with_reducible refine gate_dst (N := 5) rfl ?_); refine box_event ?hg (N := 5) ?hd (cs := #[.int .i64 pg]) (t := 3) ?hr ?_; (case hd => rfl); (case hg => rfl); (case hr => first | (go_simp; done) | (go_simp; rfl)); intro g3 hg3 w3 hbox hb; have HX3 := Aside0.mk hbox; have HB3 := Aside0.mk hb; have HG3 := Aside0.mk hg3; clear hg3 hbox hb))
  try go_frame
  have HBW := Aside0.mk (below_step (below_step (below_step (Below.refl _ w) HB1.out) HB2.out) HB3.out)
  have HX1 := Aside0.mk (blk_below (blk_below HX1.out HB2.out) HB3.out)
  have HX2 := Aside0.mk (blk_below HX2.out HB3.out)
  have HXL := Aside0.mk (blk_below hx HBW.out)
  have p0 : w3.cell? ⟨g1, 0, none⟩ = some (pv gl) := (blk_cell HX1.out 0).trans rfl
  have p0b : ∀ o, (w3.alloc o).cell? ⟨g1, 0, none⟩ = some (pv gl) := fun o => (blk_cell (blk_alloc HX1.out o) 0).trans rfl
  have p0c : ∀ o o', ((w3.alloc o).alloc o').cell? ⟨g1, 0, none⟩ = some (pv gl) := fun o o' => (blk_cell (blk_alloc (blk_alloc HX1.out o) o') 0).trans rfl
  have p1 : w3.cell? ⟨gl, 7, none⟩ = some (.int .i64 sl) := (blk_cell HXL.out 7).trans rfl
  have p1b : ∀ o, (w3.alloc o).cell? ⟨gl, 7, none⟩ = some (.int .i64 sl) := fun o => (blk_cell (blk_alloc HXL.out o) 7).trans rfl
  have p1c : ∀ o o', ((w3.alloc o).alloc o').cell? ⟨gl, 7, none⟩ = some (.int .i64 sl) := fun o o' => (blk_cell (blk_alloc (blk_alloc HXL.out o) o') 7).trans rfl
  have p2 : w3.cell? ⟨gl, 8, none⟩ = some (.int .i64 nu) := (blk_cell HXL.out 8).trans rfl
  have p2b : ∀ o, (w3.alloc o).cell? ⟨gl, 8, none⟩ = some (.int .i64 nu) := fun o => (blk_cell (blk_alloc HXL.out o) 8).trans rfl
  have p2c : ∀ o o', ((w3.alloc o).alloc o').cell? ⟨gl, 8, none⟩ = some (.int .i64 nu) := fun o o' => (blk_cell (blk_alloc (blk_alloc HXL.out o) o') 8).trans rfl
  have d_ : nu.tmod 3 = nu % 3 := Int.tmod_eq_emod_of_nonneg (by omega)
  have v1 : IntKind.i64.wrap (1 - sl) = 1 - sl := IntWalk.i64_in _ (by omega)
  have v2 : IntKind.i64.wrap (nu % 3 + 1) = nu % 3 + 1 := IntWalk.i64_in _ (by omega)
  have v3 : IntKind.i64.wrap (nu % 3) = nu % 3 := IntWalk.i64_in _ (by omega)
  clear hx
  have HSL := Aside0.mk hsl
  have HNU := Aside0.mk hnu
  clear hsl hnu
  go_cut [7, 8] from 10 to 20 (fun v7 v8 wx => ∃ gA gB, v7 = pv gA ∧ v8 = pv gB ∧ Aside0 (Below w3.heap.size w3 wx ∧ wx.heap[gA]? = some (bx1 (.int .i64 (1 - sl)) 3) ∧ wx.heap[gB]? = some (bx1 (.int .i64 (nu % 3 + 1)) 3) ∧ w3.heap.size ≤ gA ∧ w3.heap.size ≤ gB))
  case first =>
    go_region
    all_goals go_wp2_with (fail)
    · go_meet
      case rel =>
        refine ⟨_, _, rfl, rfl, ⟨((((Below.refl _ _).alloc (Nat.le_refl _) _).alloc (Nat.le_trans (Nat.le_succ _) (by simp)) _).drew), blk_drew (blk_alloc (blk_new _ _) _), blk_drew ?_, Nat.le_refl _, Nat.le_succ _⟩⟩
        have h := blk_new (w3.alloc (bx1 (.int .i64 (1 - sl)) 3)) (bx1 (.int .i64 (nu % 3 + 1)) 3)
        rw [show (w3.alloc (bx1 (.int .i64 (1 - sl)) 3)).heap.size = w3.heap.size + 1 by simp] at h
        exact h
    · go_meet
      case rel =>
        refine ⟨_, _, rfl, rfl, ⟨((((Below.refl _ _).alloc (Nat.le_refl _) _).alloc (Nat.le_trans (Nat.le_succ _) (by simp)) _).drew), blk_drew ?_, blk_drew (blk_alloc (blk_new _ _) _), Nat.le_succ _, Nat.le_refl _⟩⟩
        have h := blk_new (w3.alloc (bx1 (.int .i64 (nu % 3 + 1)) 3)) (bx1 (.int .i64 (1 - sl)) 3)
        rw [show (w3.alloc (bx1 (.int .i64 (nu % 3 + 1)) 3)).heap.size = w3.heap.size + 1 by simp] at h
        exact h
  case rest =>
    obtain ⟨gA, gB, rfl, rfl, HC⟩ := hcut
    clear p0 p0b p0c p1 p1b p1c p2 p2b p2c HX
    have HBC := Aside0.mk (below_step HBW.out HC.out.1)
    obtain ⟨O', hO'⟩ : ∃ O' : Nat → Prop, O' = fun k => O k ∧ w0.heap.size ≤ k ∧ k < w.heap.size := ⟨_, rfl⟩
    have HO := Aside0.mk hO'
    obtain ⟨arr, harr⟩ : ∃ arr : Obj, arr = .cells #[.func (.func 79) #[] #[pv g1, pv gA, pv gB, pv g2, pv g3], .func (.func 80) #[] #[pv g1]] 46 (0, 0) := ⟨_, rfl⟩
    have HARR := Aside0.mk harr
    obtain ⟨bx, hbx⟩ : ∃ bx : List (Nat × Obj), bx = [(g1, bx1 (pv gl) 60), (gA, bx1 (.int .i64 (1 - sl)) 3), (gB, bx1 (.int .i64 (nu % 3 + 1)) 3), (g2, bx1 (.int .i64 fr) 3), (g3, bx1 (.int .i64 pg) 3), (wc.heap.size, arr)] := ⟨_, rfl⟩
    have HBX := Aside0.mk hbx
    have hwb : WB w0 (wc.alloc arr) bx gd (LX w0.heap.size gl gd g) O' s := by
      have hba := below_step HBC.out ((Below.refl wc.heap.size wc).alloc (Nat.le_refl _) arr)
      refine ⟨below_step HB.out hba, ?_, ?_⟩
      · rw [HO.out]
        exact (frPL _ _ _ _ _).apart ((frPL _ _ _ _ _).narrow HD.out) (S := fun _ => False) (Kept.of_below hba _) (fun _ _ h => h)
      · have z1 : w.heap.size ≤ g1 := Nat.le_of_eq HG1.out.symm
        have z2 : w.heap.size ≤ g2 := by rw [HG2.out]; exact HB1.out.size
        have z3 : w.heap.size ≤ g3 := by rw [HG3.out]; exact Nat.le_trans HB1.out.size HB2.out.size
        have z4 := HBW.out.size
        have z5 := HBC.out.size
        have no : ∀ k, w.heap.size ≤ k → ¬ O' k := fun k hk ho => by rw [HO.out] at ho; omega
        rw [HBX.out]
        intro x hx
        simp only [List.mem_cons, List.not_mem_nil, or_false] at hx
        rcases hx with rfl | rfl | rfl | rfl | rfl | rfl
        · exact ⟨blk_alloc (blk_below HX1.out HC.out.1) _, no _ z1⟩
        · exact ⟨blk_alloc HC.out.2.1 _, no _ (Nat.le_trans z4 HC.out.2.2.2.1)⟩
        · exact ⟨blk_alloc HC.out.2.2.1 _, no _ (Nat.le_trans z4 HC.out.2.2.2.2)⟩
        · exact ⟨blk_alloc (blk_below HX2.out HC.out.1) _, no _ z2⟩
        · exact ⟨blk_alloc (blk_below HX3.out HC.out.1) _, no _ z3⟩
        · exact ⟨blk_new _ _, no _ z5⟩
    have hmf : ∀ (fn : Fn) (first cap : Array Value) (w : World), (Instr.makeFunc fn first cap).run Try.prog w = .ok (.func fn first cap) w := fun _ _ _ _ => rfl
    have hl := lkLX w0.heap.size gd gl g
    have HL := Aside0.mk hl
    have hat : 16 + (1 - sl) * 24 = ((16 + 24 * (1 - g.slot) : Nat) : Int) := by have := HSL.out; omega
    have htx : wal_slotText.f (nu % 3 + 1) fr pg = some (slotB (g.number % 3 + 1) fr pg) := by
      rw [show nu % 3 + 1 = ((g.number % 3 + 1 : Nat) : Int) by have := HNU.out; omega]
      exact slotText_is _ _ _
    obtain ⟨r1, hr1⟩ : ∃ r, r = s.write 1 (16 + (1 - sl) * 24) (slotB (g.number % 3 + 1) fr pg) := ⟨_, rfl⟩
    obtain ⟨r2, hr2⟩ : ∃ r, r = r1.2.sync 1 := ⟨_, rfl⟩
    obtain ⟨cF, hcF⟩ : ∃ c, c = if r1.1 ≠ 0 then r1.1 else r2.1 := ⟨_, rfl⟩
    obtain ⟨sF, hsF⟩ : ∃ c, c = if r1.1 ≠ 0 then r1.2 else r2.2 := ⟨_, rfl⟩
    have HT := Aside0.mk (Lg.tell_is s g fr pg _ hat r1 r2 hr1 hr2 cF hcF sF hsF)
    have hcall : Calls Try.prog 50 #[.slice (some ⟨wc.heap.size, 0, none⟩) 2 2] (wc.alloc arr) fun e w' => e = .returned (.int .i64 cF) ∧ Ran w0 (wc.alloc arr) bx gd (LX w0.heap.size gl gd g) O' sF w' := by
      have m1 : (wc.heap.size, arr) ∈ bx := by rw [HBX.out]; simp
      have hs := (hwb.bx _ m1).1
      have ok1 : r1.2.ok (m + 1) := by rw [hr1]; exact HOK.out.write _ _ _
      rw [HARR.out] at hs
      refine (done_176_177 wc.heap.size _ _ r1.1 r2.1 (Ran w0 (wc.alloc arr) bx gd (LX w0.heap.size gl gd g) O' r1.2) (Ran w0 (wc.alloc arr) bx gd (LX w0.heap.size gl gd g) O' r2.2) (wc.alloc arr) (by rw [HARR.out]; exact hs) ?_ ?_).mono ?_
      · refine (write176.calls g1 gA gB g2 g3 gd gl (1 - sl) (nu % 3 + 1) fr pg _ bx _ O' s m w0 (wc.alloc arr) hwb hl HOK.out (Nat.le_trans HM.out (by decide)) (by rw [HBX.out]; simp) (by rw [HBX.out]; simp) (by rw [HBX.out]; simp) (by rw [HBX.out]; simp) (by rw [HBX.out]; simp) (by have := HSL.out; omega) htx).mono ?_
        rintro e w' ⟨rfl, hr⟩
        rw [← hr1] at hr ⊢
        exact ⟨rfl, hr, Ran.keeps hwb hr m1⟩
      · intro _ w1' hp1 _
        refine (sync177.calls g1 gd gl bx _ _ r1.2 (m + 1) w0 w1' hp1.1 hl ok1 (by have := HM.out; omega) (by rw [HBX.out]; simp)).mono ?_
        rintro e w' ⟨rfl, hr⟩
        rw [← hr2] at hr ⊢
        exact ⟨rfl, Ran.next hwb hp1 hl hr, Ran.keeps hp1.1 hr m1⟩
      · rintro e w' ⟨rfl, hr⟩
        rw [hcF, hsF]
        refine ⟨rfl, ?_⟩
        by_cases e1 : r1.1 = 0
        · rw [if_neg (fun h => h e1)] at hr ⊢
          exact hr
        · rw [if_pos e1] at hr ⊢
          exact hr
    have HWB := Aside0.mk hwb
    have HCALL := Aside0.mk hcall
    rw [HARR.out] at HCALL
    clear harr hbx hO' hcall hwb hr1 hr2 hcF hsF hat htx hl hmf
    have hmf : ∀ (fn : Fn) (first cap : Array Value) (w : World), (Instr.makeFunc fn first cap).run Try.prog w = .ok (.func fn first cap) w := fun _ _ _ _ => rfl
    go_upto_region 3 with (go_at_call 50; (with_reducible refine HCALL.out.mono ?_); rintro e w5 ⟨rfl, hr⟩; rw [← HARR.out] at hr; have HR := Aside0.mk hr; clear hr)
    have hend : PL w5 w0.heap.size gd gl (fun k => O k ∨ w.heap.size ≤ k) sF g ∧ Below w0.heap.size w0 w5 ∧ Kept w w5 O := by
      have hz := (HBC.out.size)
      have hba := below_step HBC.out ((Below.refl wc.heap.size wc).alloc (Nat.le_refl _) arr)
      refine ⟨(frPL _ _ _ _ _).mono HR.out.1.hD (fun k hk => ?_), HR.out.1.hB, ((Kept.of_below hba O).then_ HR.out.2 (fun k hk => by rw [HO.out] at hk; exact .inl hk.1))⟩
      rcases hk with hk | hk
      · rw [HO.out] at hk; exact .inl hk.1
      · exact .inr (Nat.le_trans hba.size hk)
    have HEND := Aside0.mk hend
    clear hend
    by_cases hc : cF = 0
    · obtain ⟨bn5, bk5, hx5, -⟩ := PL.cells HEND.out.1
      have m1 : (g1, bx1 (pv gl) 60) ∈ bx := by rw [HBX.out]; simp
      have m2 : (gA, bx1 (.int .i64 (1 - sl)) 3) ∈ bx := by rw [HBX.out]; simp
      have m3 : (gB, bx1 (.int .i64 (nu % 3 + 1)) 3) ∈ bx := by rw [HBX.out]; simp
      have b1 := (HR.out.1.bx _ m1).1
      have b2 := (HR.out.1.bx _ m2).1
      have b3 := (HR.out.1.bx _ m3).1
      have n1 : g1 ≠ gl := fun e => by rw [e] at b1; rw [b1] at hx5; cases hx5
      have n2 : gA ≠ gl := fun e => by rw [e] at b2; rw [b2] at hx5; cases hx5
      have n3 : gB ≠ gl := fun e => by rw [e] at b3; rw [b3] at hx5; cases hx5
      have HX5 := Aside0.mk hx5
      have p0 : w5.cell? ⟨g1, 0, none⟩ = some (pv gl) := (blk_cell b1 0).trans rfl
      have p0b : ∀ v, (w5.setCell ⟨gl, 7, none⟩ v).cell? ⟨g1, 0, none⟩ = some (pv gl) := fun v => (blk_cell (blk_far b1 (p := ⟨gl, 7, none⟩) n1 v) 0).trans rfl
      have p1 : w5.cell? ⟨gA, 0, none⟩ = some (.int .i64 (1 - sl)) := (blk_cell b2 0).trans rfl
      have p2 : w5.cell? ⟨gB, 0, none⟩ = some (.int .i64 (nu % 3 + 1)) := (blk_cell b3 0).trans rfl
      have p2b : ∀ v, (w5.setCell ⟨gl, 7, none⟩ v).cell? ⟨gB, 0, none⟩ = some (.int .i64 (nu % 3 + 1)) := fun v => (blk_cell (blk_far b3 (p := ⟨gl, 7, none⟩) n3 v) 0).trans rfl
      have p3 : ∃ v, w5.cell? ⟨gl, 7, none⟩ = some v := ⟨_, (blk_cell hx5 7).trans rfl⟩
      have p4 : ∃ v, w5.cell? ⟨gl, 8, none⟩ = some v := ⟨_, (blk_cell hx5 8).trans rfl⟩
      have p4b : ∀ u, ∃ v, (w5.setCell ⟨gl, 7, none⟩ u).cell? ⟨gl, 8, none⟩ = some v := fun u => ⟨_, (blk_cell (blk_set hx5 7 u) 8).trans rfl⟩
      obtain ⟨x3, p3⟩ := p3
      obtain ⟨x4, p4⟩ := p4
      have z3 := blk_frozen hx5 7
      have z4 := blk_frozen hx5 8
      have z4b : ∀ u, (w5.setCell ⟨gl, 7, none⟩ u).frozen? ⟨gl, 8, none⟩ = false := fun u => blk_frozen (blk_set hx5 7 u) 8
      have HT0 := Aside0.mk (show Lg.tell s g fr pg = (0, sF, { g with slot := 1 - g.slot, number := g.number % 3 + 1 }) by rw [HT.out, if_pos hc, hc])
      clear hx5 b1 b2 b3 n1 n2 n3 m1 m2 m3
      subst hc
      go_upto_region 4 with (fail)
      go_region
      all_goals go_wp2_with (fail)
      go_ret
      rw [HT0.out]
      have hk7 : Kept w5 ((w5.setCell ⟨gl, 7, none⟩ (.int .i64 (1 - sl))).setCell ⟨gl, 8, none⟩ (.int .i64 (nu % 3 + 1))).drew (fun j => j = gl) :=
        (((set_kept (w := w5) (g := gl) (j := 7) (v := .int .i64 (1 - sl))).then_ (set_kept (g := gl) (j := 8) (v := .int .i64 (nu % 3 + 1))) (fun j hj => .inl hj)).then_ (Kept.drew (Kept.refl _ (fun j => j = gl))) (fun j hj => .inl hj))
      refine ⟨rfl, (frPL _ _ _ _ _).mono (PL.upd HEND.out.1 hk7 rfl rfl ?_) (fun k hk => hk), ?_, ?_⟩
      · intro bn' bk' hb'
        have h := blk_drew (blk_put (blk_put hb' 7 (.int .i64 (1 - sl)) rfl) 8 (.int .i64 (nu % 3 + 1)) rfl)
        rw [show (((1 - g.slot : Nat)) : Int) = 1 - sl by have := HSL.out; omega, show ((g.number % 3 + 1 : Nat) : Int) = nu % 3 + 1 by have := HNU.out; omega]
        exact h
      · exact ((HEND.out.2.1.setCell (p := ⟨gl, 7, none⟩) HBASE.out _).setCell (p := ⟨gl, 8, none⟩) HBASE.out _).drew
      · exact HEND.out.2.2.then_ hk7 (fun j hj => .inl (by rw [hj]; exact HGL.out))
    · have q_ : (cF == 0) = false := beq_false hc
      have HC0 := Aside0.mk hc
      go_wp2_with (fail)
      go_ret
      rw [HT.out, if_neg HC0.out]
      exact ⟨rfl, HEND.out⟩
def Lg.back (g : Lg) : Lg := { g with fr := g.fr.take g.kept }
theorem Lg.ok.back {g : Lg} (h : g.ok) : g.back.ok :=
  ⟨by have := h.n; have := h.kept; unfold Lg.back; simp; omega, by have := h.kept; unfold Lg.back; simp; omega, h.pages, h.slot, h.number, fun c hc => h.fr c (List.mem_of_mem_take hc)⟩
theorem PL.redo {w w' : World} {base gd gl : Nat} {O : Nat → Prop} {s : St} {g g' : Lg} (h : PL w base gd gl O s g) (hk : Kept w w' (fun j => j = gl)) {n p k p' sl nu : Int} {bn bk bn' bk' : Nat}
    (hx : w.heap[gl]? = some (.cells (lcells gd n p bn k p' bk sl nu) 96 (0, 0)))
    (hx' : w'.heap[gl]? = some (.cells (lcells gd g'.fr.length g'.pages bn' g'.kept g'.pages bk' g'.slot g'.number) 96 (0, 0)))
    (hn : MapF w' bn' g'.fr.length (idx g'.fr)) (hkm : MapF w' bk' g'.kept (idx (g'.fr.take g'.kept))) (hne : bn' ≠ bk')
    (hn' : bn' = bn ∨ bn' = bk ∨ w.heap.size ≤ bn') (hk' : bk' = bn ∨ bk' = bk ∨ w.heap.size ≤ bk') : PL w' base gd gl (fun j => O j ∨ w.heap.size ≤ j) s g' := by
  obtain ⟨O1, O2, hd, ⟨bn0, bk0, hb, hmn, hmk, hne0, hgl, hbn, hbk, hb1, hb2, hb3⟩, ho1, ho2, hdis, hbd1, hbd2⟩ := h
  rw [hx] at hb
  have e0 := Option.some.inj hb
  have e1 : lcells gd n p bn k p' bk sl nu = lcells gd g.fr.length g.pages bn0 g.kept g.pages bk0 g.slot g.number := by injection e0
  have e2 : bn = bn0 := by
    have := congrArg (fun c : Array Value => c[3]?) e1
    simp [lcells] at this
    exact this
  have e3 : bk = bk0 := by
    have := congrArg (fun c : Array Value => c[6]?) e1
    simp [lcells] at this
    exact this
  subst e2
  subst e3
  have hwl := hk.1
  have hbase : base ≤ w.heap.size := Nat.le_trans hb1 (Nat.le_of_lt (blk_lt hx))
  have new : ∀ b, b = bn ∨ b = bk ∨ w.heap.size ≤ b → (O2 b ∨ w.heap.size ≤ b) ∧ base ≤ b := by
    rintro b (rfl | rfl | hb)
    · exact ⟨.inl hbn, hb2⟩
    · exact ⟨.inl hbk, hb3⟩
    · exact ⟨.inr hb, Nat.le_trans hbase hb⟩
  refine ⟨O1, fun j => (O2 j ∨ w.heap.size ≤ j) ∧ j < w'.heap.size, (frD _ _ _).apart hd hk (fun j hj he => hdis j hj (by rw [he]; exact hgl)), ⟨bn', bk', hx', hn, hkm, hne, ⟨.inl hgl, blk_lt hx'⟩, ⟨(new _ hn').1, hn.lt⟩, ⟨(new _ hk').1, hkm.lt⟩, hb1, (new _ hn').2, (new _ hk').2⟩, fun j hj => .inl (ho1 j hj), fun j hj => hj.1.imp (ho2 j) id, fun j h1 h2 => h2.1.elim (hdis j h1) (Nat.not_le.mpr (hbd1 j h1).2), fun j hj => ⟨(hbd1 j hj).1, Nat.lt_of_lt_of_le (hbd1 j hj).2 hwl⟩, fun j hj => ⟨hj.1.elim (fun h => (hbd2 j h).1) (fun h => Nat.le_trans hbase h), hj.2⟩⟩
theorem set3_kept (w : World) (gl a b c : Nat) (u v x : Value) : Kept w (((w.setCell ⟨gl, a, none⟩ u).setCell ⟨gl, b, none⟩ v).setCell ⟨gl, c, none⟩ x) (fun j => j = gl) :=
  ((set_kept (w := w) (g := gl) (j := a) (v := u)).then_ (set_kept (g := gl) (j := b) (v := v)) (fun j hj => .inl hj)).then_ (set_kept (g := gl) (j := c) (v := x)) (fun j hj => .inl hj)
set_option maxHeartbeats 8000000 in
set_option maxRecDepth 100000 in
theorem back.calls (gd gl : Nat) (O : Nat → Prop) (s : St) (g : Lg) (w0 w : World) (hB : Below w0.heap.size w0 w) (hD : PL w w0.heap.size gd gl O s g) (hg : g.ok) :
    Calls Try.prog 39 #[pv gl] w fun e w' => e = .returned (.tuple #[]) ∧
      PL w' w0.heap.size gd gl (fun k => O k ∨ w.heap.size ≤ k) s g.back ∧ Below w0.heap.size w0 w' ∧ Kept w w' O := by
  have HB := Aside0.mk hB
  have HD := Aside0.mk hD
  have HG := Aside0.mk hg
  obtain ⟨bn, bk, hx, hmn, hmk, -⟩ := PL.cells hD
  have HX := Aside0.mk hx
  have p4 : w.cell? ⟨gl, 4, none⟩ = some (.int .i64 g.kept) := (blk_cell hx 4).trans rfl
  have p5 : w.cell? ⟨gl, 5, none⟩ = some (.int .i64 g.pages) := (blk_cell hx 5).trans rfl
  have p6 : w.cell? ⟨gl, 6, none⟩ = some (.map (some bk)) := (blk_cell hx 6).trans rfl
  have hc := copied.calls bk g.kept (idx (g.fr.take g.kept)) g.kept g.pages w hmk (by have := hg.n; have := hg.kept; omega)
  unfold pcells at hc
  have HC := Aside0.mk hc
  clear hB hD hg hx hmn hmk hc
  go_enter Try.func39, Try.ntmps39
  go_wp2_with (go_at_call 49; (with_reducible refine HC.out.mono ?_); rintro e w1 ⟨b', rfl, hb1, hm1, hw1⟩; have HM1 := Aside0.mk hm1; have HW1 := Aside0.mk hw1; have HB1 := Aside0.mk hb1; have HX1 := Aside0.mk (blk_below HX.out hw1); have z1 := blk_frozen HX1.out 1; have z2 := blk_frozen HX1.out 2; have z3 := blk_frozen HX1.out 3; have y1 : ∃ v, w1.cell? ⟨gl, 1, none⟩ = some v := ⟨_, (blk_cell HX1.out 1).trans rfl⟩; have y2 : ∃ v, w1.cell? ⟨gl, 2, none⟩ = some v := ⟨_, (blk_cell HX1.out 2).trans rfl⟩; have y3 : ∃ v, w1.cell? ⟨gl, 3, none⟩ = some v := ⟨_, (blk_cell HX1.out 3).trans rfl⟩; obtain ⟨x1, y1⟩ := y1; obtain ⟨x2, y2⟩ := y2; obtain ⟨x3, y3⟩ := y3; clear hm1 hw1 hb1)
  go_end0
  have hk1 := set3_kept w1 gl 1 2 3 (.int .i64 g.kept) (.int .i64 g.pages) (.map (some b'))
  have hk : Kept w (((w1.setCell ⟨gl, 1, none⟩ (.int .i64 g.kept)).setCell ⟨gl, 2, none⟩ (.int .i64 g.pages)).setCell ⟨gl, 3, none⟩ (.map (some b'))) (fun j => j = gl) := (Kept.of_below HW1.out _).then_ hk1 (fun j hj => .inl hj)
  obtain ⟨bn0, bk0, hx0, hmn0, hmk0, hn0, hk0, hne0, hgl, hbn, hbk, hb1, hb2, hb3⟩ := PL.cells HD.out
  have e0 := HX.out.symm.trans hx0
  have e3 : bk0 = bk := by
    injection e0 with e0
    injection e0 with e0
    have := congrArg (fun c : Array Value => c[6]?) e0
    simp [lcells] at this
    exact this.symm
  subst e3
  have hlt := hmk0.lt
  have l1 : (g.fr.take g.kept).length = g.kept := by have := HG.out.kept; simp; omega
  refine ⟨rfl, PL.redo HD.out hk HX.out (bn' := b') (bk' := bk0) ?_ ?_ ?_ (by have := HB1.out; omega) (.inr (.inr HB1.out)) (.inr (.inl rfl)), ?_, ?_⟩
  · have h := blk_put (blk_put (blk_put HX1.out 1 (.int .i64 g.kept) rfl) 2 (.int .i64 g.pages) rfl) 3 (.map (some b')) rfl
    unfold Lg.back
    simp only [l1]
    exact h
  · unfold Lg.back
    simp only [l1]
    exact HM1.out.kept (hk1.2 b' HM1.out.lt (HM1.out.ne HX1.out))
  · unfold Lg.back
    simp only [List.take_take, Nat.min_self]
    exact hmk0.kept (hk.2 bk0 hlt hk0)
  · exact (((below_step HB.out HW1.out).setCell (p := ⟨gl, 1, none⟩) hb1 _).setCell (p := ⟨gl, 2, none⟩) hb1 _).setCell (p := ⟨gl, 3, none⟩) hb1 _
  · exact hk.mono (fun j hj => by rw [hj]; exact hgl)
end Go.Proofs.Ythaoaaboempajab.Log
