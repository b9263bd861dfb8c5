/- Lines of the texts that the claim LogKept rests on, bundled: part 6; no conditions but those that each row names. -/
import Derived.Test.YthaoaaboempajaaMLogKept5
import Derived.Laws.IdiomStrings
import Derived.BigQuiet
namespace Go.Proofs.Ythaoaaboempajaa.Log
open Go.RowKit Go.Maps Go.Proofs.Ythaoaaboempajaa.QLogRuns Go.Proofs.Ythaoaaboempajaa.QDiskRuns Go.Proofs.Ythaoaaboempajaa.Disk Go.Proofs.YthaoaaboempajaaW.PrintWords Go.Proofs.YthaoaaboempajaaW.PrintLast Go.Proofs.YthaoaaboempajaaW.PrintMore Go.Proofs.YthaoaaboempajaaX
set_option linter.unusedVariables false
set_option linter.unusedSimpArgs false
theorem putB_new (t : ByteArray) : putB ByteArray.empty 0 t = t := by
  apply bytes_at
  · rw [size_putB]
    show max 0 (0 + t.size) = _
    omega
  · intro i hi
    rw [size_putB] at hi
    have hi2 : i < t.size := by
      have : max 0 (0 + t.size) = t.size := by omega
      exact this ▸ hi
    rw [bAt_put, if_pos ⟨Nat.zero_le _, by omega⟩, Nat.sub_zero]
def nx1 (a : ByteArray) : St := ⟨ByteArray.empty, ByteArray.empty, [⟨0, 0, a, false⟩], -1, false, 1⟩
def nx2 (a : ByteArray) : St := ⟨a, ByteArray.empty, [], -1, false, 2⟩
def nx3 (a b : ByteArray) : St := ⟨a, ByteArray.empty, [⟨1, 0, b, false⟩], -1, false, 3⟩
def nx4 (a b : ByteArray) : St := ⟨a, b, [], -1, false, 4⟩
theorem right_all {f : Int} (hf : f = 0 ∨ f = 1) {t : ByteArray} (ht : t.size ≤ maxFile) : rightB f 0 t.size = true := by
  unfold maxFile at ht
  rcases hf with rfl | rfl
  · exact decide_eq_true ⟨by decide, by decide, by decide, by omega, by decide, by omega⟩
  · exact decide_eq_true ⟨by decide, by decide, by decide, by omega, by decide, by omega⟩
theorem new_write0 {a : ByteArray} (ha : a.size ≤ maxFile) : St.new.write 0 0 a = (0, nx1 a) := by
  unfold St.write
  rw [if_pos (right_all (.inl rfl) ha)]
  rfl
theorem nx1_sync (a : ByteArray) : (nx1 a).sync 0 = (0, nx2 a) := by
  have e : (nx1 a).s0 = a := putB_new a
  unfold St.sync
  rw [if_pos (by decide)]
  show ((0 : Int), (⟨(nx1 a).s0, ByteArray.empty, [], -1, false, 2⟩ : St)) = _
  rw [e]
  rfl
theorem nx2_write {a b : ByteArray} (hb : b.size ≤ maxFile) : (nx2 a).write 1 0 b = (0, nx3 a b) := by
  unfold St.write
  rw [if_pos (right_all (.inr rfl) hb)]
  rfl
theorem nx3_sync (a b : ByteArray) : (nx3 a b).sync 1 = (0, nx4 a b) := by
  have e : (nx3 a b).s1 = b := putB_new b
  unfold St.sync
  rw [if_pos (by decide)]
  show ((0 : Int), (⟨a, (nx3 a b).s1, [], -1, false, 4⟩ : St)) = _
  rw [e]
  rfl
theorem nx1_ok {a : ByteArray} (ha : a.size ≤ maxFile) : (nx1 a).ok 1 := ⟨Nat.zero_le _, Nat.zero_le _, fun c hc => by rw [List.mem_singleton.1 hc]; exact ⟨.inl rfl, show 0 + a.size ≤ maxFile by omega⟩, ⟨show (-1 : Int) ≤ -1 by decide, show (-1 : Int) < 9223372036854775808 by decide⟩, ⟨show (0 : Int) ≤ 1 by decide, show (1 : Int) ≤ 1 by decide⟩, show ((1 : Nat) : Int) ≤ 1 by decide⟩
theorem nx2_ok {a : ByteArray} (ha : a.size ≤ maxFile) : (nx2 a).ok 2 := ⟨ha, Nat.zero_le _, fun c hc => (by cases hc), ⟨show (-1 : Int) ≤ -1 by decide, show (-1 : Int) < 9223372036854775808 by decide⟩, ⟨show (0 : Int) ≤ 2 by decide, show (2 : Int) ≤ 2 by decide⟩, show ((0 : Nat) : Int) ≤ 2 by decide⟩
theorem nx3_ok {a b : ByteArray} (ha : a.size ≤ maxFile) (hb : b.size ≤ maxFile) : (nx3 a b).ok 3 := ⟨ha, Nat.zero_le _, fun c hc => by rw [List.mem_singleton.1 hc]; exact ⟨.inr rfl, show 0 + b.size ≤ maxFile by omega⟩, ⟨show (-1 : Int) ≤ -1 by decide, show (-1 : Int) < 9223372036854775808 by decide⟩, ⟨show (0 : Int) ≤ 3 by decide, show (3 : Int) ≤ 3 by decide⟩, show ((1 : Nat) : Int) ≤ 3 by decide⟩
theorem nx4_ok {a b : ByteArray} (ha : a.size ≤ maxFile) (hb : b.size ≤ maxFile) : (nx4 a b).ok 4 := ⟨ha, hb, fun c hc => (by cases hc), ⟨show (-1 : Int) ≤ -1 by decide, show (-1 : Int) < 9223372036854775808 by decide⟩, ⟨show (0 : Int) ≤ 4 by decide, show (4 : Int) ≤ 4 by decide⟩, show ((0 : Nat) : Int) ≤ 4 by decide⟩
theorem read_all {s : St} {m : Nat} (h : s.ok m) (hd : s.d = false) (f : Int) (hf : f = 0 ∨ f = 1) : s.size f = (((seenOf s f).size : Int), 0) ∧ s.read f 0 ((seenOf s f).size : Int) = (seenOf s f, 0) := by
  have hs := seenOf_size h f
  constructor
  · unfold St.size
    rw [if_pos (by rcases hf with rfl | rfl <;> decide), if_neg (by rw [hd]; decide)]
  · unfold St.read
    rw [if_pos (right_all hf hs), if_neg (by rw [hd]; decide), if_neg (by omega)]
    congr 1
    apply bytes_ext
    rw [extract_list]
    show (List.drop 0 _).take _ = _
    rw [List.drop_zero, List.take_of_length_le (by rw [data_length]; omega)]
theorem KT.sync {w0 w : World} {gd gn : Nat} {s x : St} {bx : List (Nat × Obj)} {m : Nat} (h : KT w0 w gd gn s x bx) (hok : x.ok m) (hm : m ≤ 500000000) (f : Int) : Calls Try.prog 131 #[pv gn, .int .i64 f] w fun e w' => e = .returned (.int .i64 (x.sync f).1) ∧ KT w0 w' gd gn s (x.sync f).2 bx := by
  refine (Bd.onQ (X := Unit) (V := fun _ => .int .i64 (x.sync f).1) (QQ := fun _ => pD w0.heap.size gn (x.sync f).2) h (fpD _ _ _) (fun _ => fpD _ _ _) (fun O1 h1 _ => (sync.calls gn O1 x f m w0 w h.hB h1 hok (by omega)).mono (fun e w' hw => ⟨(), hw⟩))).mono ?_
  rintro e w' ⟨-, rfl, hb⟩
  exact ⟨rfl, hb⟩
def mv (a b : ByteArray) : Nat → St
  | 0 => St.new
  | 1 => nx2 a
  | _ => nx4 a b
set_option maxHeartbeats 4000000 in
set_option maxRecDepth 100000 in
theorem KD.moved {w0 w : World} {gd : Nat} {s : St} {bx : List (Nat × Obj)} {m : Nat} (h : KD w0 w gd s bx) (hok : s.ok m) (hd : s.d = false) :
    Calls Try.prog 74 #[pv gd] w fun e w' => ∃ gn, e = .returned (pv gn) ∧ KD w0 w' gn (nx4 s.s0 s.s1) bx := by
  obtain ⟨z0, r0⟩ := read_all hok hd 0 (.inl rfl)
  obtain ⟨z1, r1⟩ := read_all hok hd 1 (.inr rfl)
  rw [seenOf0] at z0 r0
  rw [seenOf1] at z1 r1
  have h0 := hok.s0
  have h1 := hok.s1
  have HS0 := Aside0.mk h0
  have HS1 := Aside0.mk h1
  have HZ0 := Aside0.mk z0
  have HZ1 := Aside0.mk z1
  have HR0 := Aside0.mk r0
  have HR1 := Aside0.mk r1
  have HH := Aside0.mk h
  have E1 := Aside0.mk (new_write0 h0)
  have E2 := Aside0.mk (nx1_sync s.s0)
  have E3 := Aside0.mk (nx2_write (a := s.s0) h1)
  have E4 := Aside0.mk (nx3_sync s.s0 s.s1)
  generalize s.s0 = a at *
  generalize s.s1 = b at *
  clear h hok hd z0 r0 z1 r1 h0 h1
  go_enter Try.func74, Try.ntmps74
  go_wp2_with (go_at_call 58; (refine (KD.new_ HH.out).mono ?_); rintro e w1 ⟨gn, rfl, h1⟩; have T1 := Aside0.mk h1; clear h1)
  go_loopw [4] (fun v4 wr => ∃ (j : Nat), j ≤ 2 ∧ v4 = .int .i64 (j : Int) ∧ Aside0 (KT w0 wr gd gn s (mv a b j) bx)) (fun v4 _ => 2 - (intOf v4).toNat)
  case atStart => exact ⟨0, by decide, rfl, T1⟩
  case round =>
    clear T1
    obtain ⟨j, hj, rfl, T⟩ := hrel
    rcases (show j = 0 ∨ j = 1 ∨ j = 2 by omega) with rfl | rfl | rfl
    · have t_ : decide ((0 : Int) < 2) = true := by decide
      have T1 : Aside0 (KT w0 wr gd gn s St.new bx) := T
      clear T
      go_wp2_with (first
        | (go_at_call 129; (with_reducible refine (KT.size T1.out 0).mono ?_); rw [HZ0.out]; rintro e w2 ⟨rfl, h⟩; have T2 := Aside0.mk h; clear h)
        | (go_at_call 123; (with_reducible refine (KT.read T2.out 0 0 (a.size : Int)).mono ?_); rw [HR0.out]; rintro e w3 ⟨rfl, h⟩; have T3 := Aside0.mk h; clear h)
        | (go_at_call 125; (with_reducible refine (KT.write T3.out St.new_ok (by decide) 0 0 a).mono ?_); rw [E1.out]; rintro e w4 ⟨rfl, h⟩; have T4 := Aside0.mk h; clear h)
        | (go_at_call 131; (with_reducible refine (KT.sync T4.out (nx1_ok HS0.out) (by decide) 0).mono ?_); rw [E2.out]; rintro e w5 ⟨rfl, h⟩; have T5 := Aside0.mk h; clear h))
      go_roundw
      case rel => exact ⟨1, by decide, rfl, T5⟩
      case measure => simp [intOf]
    · have t_ : decide ((1 : Int) < 2) = true := by decide
      have T1 : Aside0 (KT w0 wr gd gn s (nx2 a) bx) := T
      clear T
      go_wp2_with (first
        | (go_at_call 129; (with_reducible refine (KT.size T1.out 1).mono ?_); rw [HZ1.out]; rintro e w2 ⟨rfl, h⟩; have T2 := Aside0.mk h; clear h)
        | (go_at_call 123; (with_reducible refine (KT.read T2.out 1 0 (b.size : Int)).mono ?_); rw [HR1.out]; rintro e w3 ⟨rfl, h⟩; have T3 := Aside0.mk h; clear h)
        | (go_at_call 125; (with_reducible refine (KT.write T3.out (nx2_ok HS0.out) (by decide) 1 0 b).mono ?_); rw [E3.out]; rintro e w4 ⟨rfl, h⟩; have T4 := Aside0.mk h; clear h)
        | (go_at_call 131; (with_reducible refine (KT.sync T4.out (nx3_ok HS0.out HS1.out) (by decide) 1).mono ?_); rw [E4.out]; rintro e w5 ⟨rfl, h⟩; have T5 := Aside0.mk h; clear h))
      go_roundw
      case rel => exact ⟨2, by decide, rfl, T5⟩
      case measure => simp [intOf]
    · have t_ : decide ((2 : Int) < 2) = false := by decide
      go_wp2_with (fail)
      go_ret
      exact ⟨gn, rfl, Bd.right T.out⟩
end Go.Proofs.Ythaoaaboempajaa.Log
namespace Go.Proofs.Ythaoaaboempajaa.QLogKept
open Go.RowKit Go.Proofs.YthaoaaboempajaaW.PrintWords Go.Proofs.YthaoaaboempajaaW.PrintLast Go.Proofs.YthaoaaboempajaaW.PrintMore Go.Proofs.YthaoaaboempajaaX Go.Proofs.Ythaoaaboempajaa.QDiskRuns Go.Proofs.Ythaoaaboempajaa.Disk
attribute [local go_sem] max2_int min2_int max_two min_two max_three min_three max_four min_four   -- for this text's walks alone
set_option linter.unusedVariables false
set_option linter.unusedSimpArgs false
structure S90 where
  f0 : Int
  f1 : Int
  f2 : Int
  f3 : Int
  f4 : ByteArray
  f5 : ByteArray
def z90 : S90 := ⟨(0 : Int), (0 : Int), (0 : Int), (0 : Int), (⟨#[]⟩ : ByteArray), (⟨#[]⟩ : ByteArray)⟩
def k90 : Kd S90 := Kd.iso (Kd.pair (Kd.int .i64) (Kd.pair (Kd.int .i64) (Kd.pair (Kd.int .i64) (Kd.pair (Kd.int .i64) (Kd.pair Kd.string Kd.string))))) (fun x : S90 => (x.f0, x.f1, x.f2, x.f3, x.f4, x.f5))
theorem k90_open {w : World} {x : S90} {cs : List Value} (h : k90.K w x cs) : cs = [.int .i64 x.f0, .int .i64 x.f1, .int .i64 x.f2, .int .i64 x.f3, .string x.f4, .string x.f5] := by
  obtain ⟨_, _, rfl, rfl, ⟨_, _, rfl, rfl, ⟨_, _, rfl, rfl, ⟨_, _, rfl, rfl, ⟨_, _, rfl, rfl, rfl⟩⟩⟩⟩⟩ := h
  exact rfl
def rd_T90 (xs : List S90) (i : Int) : S90 := xs.getD i.toNat z90
theorem at_T90 {w : World} {A : Option Addr} {n : Nat} {xs : List S90} (h : Kd.C k90 w A n xs) (i : Int) (h0 : 0 ≤ i) (h1 : i < n) : ∃ ad , A = some ad ∧ w.cell? (ad.add (i.toNat * 6)) = some (.int .i64 (rd_T90 xs i).f0) ∧ w.cell? ⟨(ad.add (i.toNat * 6)).block, (ad.add (i.toNat * 6)).off + 1, none⟩ = some (.int .i64 (rd_T90 xs i).f1) ∧ w.cell? ⟨(ad.add (i.toNat * 6)).block, (ad.add (i.toNat * 6)).off + 2, none⟩ = some (.int .i64 (rd_T90 xs i).f2) ∧ w.cell? ⟨(ad.add (i.toNat * 6)).block, (ad.add (i.toNat * 6)).off + 3, none⟩ = some (.int .i64 (rd_T90 xs i).f3) ∧ w.cell? ⟨(ad.add (i.toNat * 6)).block, (ad.add (i.toNat * 6)).off + 4, none⟩ = some (.string (rd_T90 xs i).f4) ∧ w.cell? ⟨(ad.add (i.toNat * 6)).block, (ad.add (i.toNat * 6)).off + 5, none⟩ = some (.string (rd_T90 xs i).f5) := by
  obtain ⟨ad, c, e, _, hK, hc0⟩ := Kd.C_get h z90 i h0 h1
  have hc : ∀ j u, c[j]? = some u → w.cell? (ad.add (i.toNat * 6 + j)) = some u := hc0
  obtain rfl := k90_open hK
  exact ⟨ad, e, hc 0 _ rfl, by rw [← add_field _ _ 1 (by omega)]; exact hc 1 _ rfl, by rw [← add_field _ _ 2 (by omega)]; exact hc 2 _ rfl, by rw [← add_field _ _ 3 (by omega)]; exact hc 3 _ rfl, by rw [← add_field _ _ 4 (by omega)]; exact hc 4 _ rfl, by rw [← add_field _ _ 5 (by omega)]; exact hc 5 _ rfl⟩
def relstorekeep_pick.f (a0 : Int) (a1 : Int) : Option (Int) := if a0 < 0 then (if a1 = 0 then (none) else (some (Int.tmod (wrap64 (-(wrap64 (a0 + 1)))) a1))) else (if a1 = 0 then (none) else (some (Int.tmod a0 a1)))
set_option maxHeartbeats 8000000 in
set_option maxRecDepth 100000 in
theorem relstorekeep_pick.calls (a0 : Int) (a1 : Int) (r : Int) (w : World) (h : relstorekeep_pick.f a0 a1 = some r) :
    Calls Try.prog 39 #[.int .i64 a0, .int .i64 a1] w fun e w' => e = .returned (.int .i64 r) ∧ Drawn0 w w' := by
  have H : (if a0 < 0 then (if a1 = 0 then (none) else (some (Int.tmod (wrap64 (-(wrap64 (a0 + 1)))) a1))) else (if a1 = 0 then (none) else (some (Int.tmod a0 a1)))) = some r := h
  clear h
  by_cases c3 : a0 < 0
  · rw [if_pos c3] at H
    have c3b0 : decide (a0 < 0) = true := decide_eq_true c3
    clear c3
    by_cases c4 : a1 = 0
    · rw [if_pos c4] at H
      exact absurd H (by simp)
    · rw [if_neg c4] at H
      have c4b0 : (a1 == 0) = false := beq_eq_false_iff_ne.mpr c4
      have c4b1 : (a1 != 0) = true := bne_iff_ne.mpr c4
      obtain rfl := Option.some.inj H
      go_enter Try.func39, Try.ntmps39
      go_wp2
      go_ret
      exact ⟨by first | rfl | (simp; done) | (simp [*]; done) | exact bq1 _ _ | exact bq2 _ _ | exact congrArg Value.bool (bq2 _ _) | exact congrArg Value.bool (bq1 _ _) | exact congrArg Value.bool (bq1' _ _) | exact bq1' _ _ | exact congrArg Value.bool (bq2' _ _) | exact bq2' _ _, by repeat (first | exact Drawn0.refl _ | apply Drawn0.step)⟩
  · rw [if_neg c3] at H
    have c3b0 : decide (a0 < 0) = false := decide_eq_false c3
    clear c3
    by_cases c5 : a1 = 0
    · rw [if_pos c5] at H
      exact absurd H (by simp)
    · rw [if_neg c5] at H
      have c5b0 : (a1 == 0) = false := beq_eq_false_iff_ne.mpr c5
      have c5b1 : (a1 != 0) = true := bne_iff_ne.mpr c5
      obtain rfl := Option.some.inj H
      go_enter Try.func39, Try.ntmps39
      go_wp2
      go_ret
      exact ⟨by first | rfl | (simp; done) | (simp [*]; done) | exact bq1 _ _ | exact bq2 _ _ | exact congrArg Value.bool (bq2 _ _) | exact congrArg Value.bool (bq1 _ _) | exact congrArg Value.bool (bq1' _ _) | exact bq1' _ _ | exact congrArg Value.bool (bq2' _ _) | exact bq2' _ _, by repeat (first | exact Drawn0.refl _ | apply Drawn0.step)⟩
def relstorekeep_sheet.l0 : Nat → Int → List Int → Int → Int → Option (ByteArray)
  | 0, _, _, _, _ => none
  | k + 1, x0, x3, x7, x8 => if x8 < x7 then (if 0 ≤ x8 then (if x8 < (x3.length : Int) then (relstorekeep_sheet.l0 k x0 (x3.set (x8 : Int).toNat ((wrap64 (x0 * (wrap64 ((wrap64 (Int.tdiv x8 100)) + 1)))) % 256)) x7 (wrap64 (x8 + 1))) else (none)) else (none)) else (some (strOfNums x3))
def relstorekeep_sheet.f (k : Nat) (a0 : Int) : Option (ByteArray) := if 1024 ≤ 281474976710656 then ((some (List.replicate 1024 0 : List Int)).bind fun y114 => (relstorekeep_sheet.l0 k a0 y114 (y114.length : Int) 0)) else (none)
theorem relstorekeep_sheet.mono_l : ∀ k, (∀ y0 y1 y2 y3, LeO (relstorekeep_sheet.l0 k y0 y1 y2 y3) (relstorekeep_sheet.l0 (k + 1) y0 y1 y2 y3))
  | 0 => fun _ _ _ _ r h => by simp [relstorekeep_sheet.l0] at h
  | k + 1 => by
    have ih0 := relstorekeep_sheet.mono_l k
    · intro y0 y1 y2 y3
      unfold relstorekeep_sheet.l0
      repeat' first
      | (with_reducible exact ih0 _ _ _ _)
      | (with_reducible exact LeO.refl _)
      | (with_reducible exact LeO.none _)
      | (with_reducible refine LeO.ite ?_ ?_)
      | (with_reducible refine LeO.bind ?_ (fun _ => ?_))
      | exact ih0 _ _ _ _
      | exact LeO.none _
      | refine LeO.ite ?_ ?_
      | refine LeO.bind ?_ (fun _ => ?_)
theorem relstorekeep_sheet.mono : ∀ a0 k, LeO (relstorekeep_sheet.f k a0) (relstorekeep_sheet.f (k + 1) a0) := by
  intro a0 k
  have ih0 := relstorekeep_sheet.mono_l k
  unfold relstorekeep_sheet.f
  repeat' first
      | (with_reducible exact ih0 _ _ _ _)
      | (with_reducible exact LeO.refl _)
      | (with_reducible exact LeO.none _)
      | (with_reducible refine LeO.ite ?_ ?_)
      | (with_reducible refine LeO.bind ?_ (fun _ => ?_))
      | exact ih0 _ _ _ _
      | exact LeO.none _
      | refine LeO.ite ?_ ?_
      | refine LeO.bind ?_ (fun _ => ?_)
set_option maxHeartbeats 8000000 in
set_option maxRecDepth 100000 in
theorem relstorekeep_sheet.calls (k : Nat) (a0 : Int) (r : ByteArray) (w : World) (h : relstorekeep_sheet.f k a0 = some r) :
    Calls Try.prog 66 #[.int .i64 a0] w fun e w' => e = .returned (.string r) ∧ Below w.heap.size w w' := by
  have HB := Aside0.mk (Below.refl w.heap.size w)
  have H : (if 1024 ≤ 281474976710656 then ((some (List.replicate 1024 0 : List Int)).bind fun y114 => (relstorekeep_sheet.l0 k a0 y114 (y114.length : Int) 0)) else (none)) = some r := h
  clear h
  by_cases c2 : 1024 ≤ 281474976710656
  · rw [if_pos c2] at H
    have c2b0 := eq_true c2
    have c2b1 : decide (1024 ≤ 281474976710656) = true := decide_eq_true c2
    clear c2
    obtain ⟨y114, hy114⟩ : ∃ y_ : List Int, y_ = (List.replicate 1024 0) := ⟨_, rfl⟩
    replace H : (relstorekeep_sheet.l0 k a0 y114 (y114.length : Int) 0) = some r := by first | (rw [hy114]; with_reducible exact H) | (have H2_ := (Option.bind_some _ _).symm.trans H; rw [hy114]; with_reducible exact H2_) | (have H2_ := (Option.bind_some _ _).symm.trans H; with_reducible exact H2_) | with_reducible exact H | (rw [hy114]; exact H) | exact H
    have Ny114 := Aside0.mk hy114
    clear hy114
    have H' := Aside0.mk H
    clear H
    go_enter Try.func66, Try.ntmps66
    go_wp2_with (first | ((with_reducible refine gate_dst (N := 5) rfl ?_); refine Kd.R_make (Kd.int .u8) _ 5 rfl (N := 5) rfl 55 _ _ rfl 1024 rfl rfl Try.underlying55 (.int .u8 0) 1 info5 rfl (by decide) (by omega) 0 (ok := fun _ => True) (okp := fun _ => True) rfl (fun _ hk => hk) trivial (by omega) (by omega) (Below.refl _ _) (Nat.le_refl _) ?_; intro v115 w3 ho4 hb hg_ hnew_; clear hg_ hnew_; (first | rw [← Ny114.out] at ho4 | (simp only [Int.reduceToNat] at ho4; rw [← Ny114.out] at ho4)); have n0_ := Aside0.mk (Kd.R_lower ho4 (below_size (by repeat (first | (with_reducible first | exact HB.out | apply below_alloc | apply pw_below_drewN | apply below_drew1) | exact HB.out)))); have n1_ := Aside0.mk (below_step (by repeat (first | (with_reducible first | exact HB.out | apply below_alloc | apply pw_below_drewN | apply below_drew1) | exact HB.out)) hb); clear HB; have HO116 := n0_; have HB := n1_; clear n0_ n1_; clear hb ho4; obtain ⟨Ao5, co5, eo5⟩ := Kd.R_slice HO116.out; subst eo5))
    go_loopg [8] k (fun kq v8 w' => ∃ (x3_1 : List Int) (x8_1 : Int), v8 = .int .i64 x8_1 ∧ Aside0 (relstorekeep_sheet.l0 kq a0 x3_1 (y114.length : Int) x8_1 = some r) ∧ Aside0 (kq ≤ k) ∧ Aside0 (Kd.R (Kd.int .u8) 5 w' w.heap.size (fun _ => True) (.slice Ao5 y114.length co5) x3_1) ∧ Aside0 (Below w.heap.size w w'))
    case atStart => exact ⟨(y114), (0), (by first | rfl | (simp; done) | (simp [*]; done) | exact bq1 _ _ | exact bq2 _ _ | exact congrArg Value.bool (bq2 _ _) | exact congrArg Value.bool (bq1 _ _) | exact congrArg Value.bool (bq1' _ _) | exact bq1' _ _ | exact congrArg Value.bool (bq2' _ _) | exact bq2' _ _), H', ⟨Nat.le_refl _⟩, ⟨by (with_reducible repeat (first | apply Kd.R_alloc | apply Kd.R_drewN | apply Kd.R_drew)); exact HO116.out⟩, ⟨by repeat (first | (with_reducible first | exact HB.out | apply below_alloc | apply pw_below_drewN | apply below_drew1) | exact HB.out)⟩⟩
    case round =>
      clear H'
      try clear q1
      try clear c2
      try clear c2b0
      try clear c2b1
      try clear p2
      try clear q2
      obtain ⟨x3_1, x8_1, rfl, HA, HK1, HO_3, HB⟩ := hrel
      have hl3_1 := (Kd.R_reads' HO_3.out).1
      rw [hl3_1] at HO_3
      (try simp only [hl3_1])
      cases gk with
      | zero => exact absurd HA.out (by simp [relstorekeep_sheet.l0])
      | succ k1 =>
        have H := HA.out
        clear HA
        simp only [relstorekeep_sheet.l0] at H
        by_cases c6 : x8_1 < (y114.length : Int)
        · rw [if_pos c6] at H
          have c6b0 : decide (x8_1 < (y114.length : Int)) = true := decide_eq_true c6
          try (have c6b0_hl3_1 := c6b0; simp only [hl3_1] at c6b0_hl3_1)
          clear c6
          by_cases c7 : 0 ≤ x8_1
          · rw [if_pos c7] at H
            have c7b0 : decide (0 ≤ x8_1) = true := decide_eq_true c7
            clear c7
            by_cases c8 : x8_1 < (x3_1.length : Int)
            · rw [if_pos c8] at H
              have c8b0 : decide (x8_1 < (x3_1.length : Int)) = true := decide_eq_true c8
              try (have c8b0_hl3_1 := c8b0; simp only [hl3_1] at c8b0_hl3_1)
              clear c8
              obtain ⟨y117, hy117⟩ : ∃ y_ : List Int, y_ = (x3_1.set (x8_1 : Int).toNat ((wrap64 (a0 * (wrap64 ((wrap64 (Int.tdiv x8_1 100)) + 1)))) % 256)) := ⟨_, rfl⟩
              replace H : (relstorekeep_sheet.l0 k1 a0 y117 (y114.length : Int) (wrap64 (x8_1 + 1))) = some r := by first | (rw [hy117]; with_reducible exact H) | (have H2_ := (Option.bind_some _ _).symm.trans H; rw [hy117]; with_reducible exact H2_) | (have H2_ := (Option.bind_some _ _).symm.trans H; with_reducible exact H2_) | with_reducible exact H | (rw [hy117]; exact H) | exact H
              have Ny117 := Aside0.mk hy117
              clear hy117
              have H' := Aside0.mk H
              clear H
              have p9 : 0 ≤ (x8_1 : Int) := of_decide_eq_true (by first | (with_reducible assumption) | assumption)
              have q9 : (x8_1 : Int) < ((x3_1.length : Int) : Int) := of_decide_eq_true (by first | (with_reducible assumption) | assumption)
              obtain ⟨go9, co9, eo9, gb9, gl9, cl9, HG9⟩ := Kd.R_form HO_3.out (by omega)
              (first | cases eo9 | (injection eo9 with ea_ en_ ec_; (first | subst ea_ | (injection ea_ with ea_; subst ea_)); subst ec_; clear en_))
              have GB9 := Aside0.mk gb9
              have GG9 := Aside0.mk HG9
              clear gb9 gl9 HG9
              obtain ⟨hx9_0, hf9_0⟩ := Kd.R_celln 0 HO_3.out (x8_1 : Int) p9 q9
              replace p9 := eq_true p9
              replace q9 := eq_true q9
              have HP10 := Kd.R_putg HO_3.out (x8_1 : Int) ((wrap64 (a0 * (wrap64 ((wrap64 (Int.tdiv x8_1 100)) + 1)))) % 256)
              go_wp2_with (first | ((with_reducible refine gate_store (t := 5) (p := 19) rfl ?_); refine store_event (t := 5) (p := 19) (v := ?vo_w11) (w1 := (wr.setCell ⟨go9, (x8_1 : Int).toNat, none⟩ (.int .u8 ((wrap64 (a0 * (wrap64 ((wrap64 (Int.tdiv x8_1 100)) + 1)))) % 256)))) ?hg ?ho ?hn ?hr ?_; (case ho => rfl); (case hg => rfl); (case hn => rfl); (case hr => first | (go_simp; done) | (go_simp; rfl)); intro w11 hw; have hg : wr.grownBy w11 (some go9) := (by rw [hw]; exact HP10.2); have hp_ : Kd.R (Kd.int .u8) 5 w11 w.heap.size (fun _ => True) (.slice (some ⟨go9, 0, none⟩) x3_1.length co5) y117 := (by rw [hw, Ny117.out]; exact HP10.1); clear HP10; have n0_ := Aside0.mk (hp_); have n1_ := Aside0.mk ((by rw [hw]; exact below_set (HB.out) GB9.out : Below w.heap.size w w11)); clear HO_3; clear HB; have HO_3 := n0_; have HB := n1_; clear n0_ n1_; clear hg hw hp_))
              (try simp only [← hl3_1])
              go_roundg k1
              case measure => have := HK1.out; omega
              case rel => exact ⟨(y117), (wrap64 (x8_1 + 1)), (by first | rfl | (simp; done) | (simp [*]; done) | exact bq1 _ _ | exact bq2 _ _ | exact congrArg Value.bool (bq2 _ _) | exact congrArg Value.bool (bq1 _ _) | exact congrArg Value.bool (bq1' _ _) | exact bq1' _ _ | exact congrArg Value.bool (bq2' _ _) | exact bq2' _ _), H', ⟨by have := HK1.out; omega⟩, ⟨by (try simp only [hl3_1]); (with_reducible repeat (first | apply Kd.R_alloc | apply Kd.R_drewN | apply Kd.R_drew)); exact HO_3.out⟩, ⟨by repeat (first | (with_reducible first | exact HB.out | apply below_alloc | apply pw_below_drewN | apply below_drew1) | exact HB.out)⟩⟩
            · rw [if_neg c8] at H
              exact absurd H (by simp)
          · rw [if_neg c7] at H
            exact absurd H (by simp)
        · rw [if_neg c6] at H
          have c6b0 : decide (x8_1 < (y114.length : Int)) = false := decide_eq_false c6
          try (have c6b0_hl3_1 := c6b0; simp only [hl3_1] at c6b0_hl3_1)
          clear c6
          obtain rfl := Option.some.inj H
          have hcv12 := own_string (P := Try.prog) Try.underlying55 Try.underlying5 Try.underlying9 (Kd.own_of_R HO_3.out)
          go_wp2
          go_ret
          exact ⟨by first | rfl | (simp [errW_none, errW_some] <;> rfl) | (simp [*, errW_none, errW_some] <;> rfl), by repeat (first | (with_reducible first | exact HB.out | apply below_alloc | apply pw_below_drewN | apply below_drew1) | exact HB.out)⟩
  · rw [if_neg c2] at H
    exact absurd H (by simp)
theorem short.calls (A : Option Addr) (n c : Nat) (w : World) (hn : n ≤ 4611686018427387904) (hc : n ≤ c) :
    Calls Try.prog 65 #[.slice A n c] w fun e w' => e = .returned (.slice A (min n 250) c) ∧ w' = w := by
  obtain ⟨i90, hi90⟩ : ∃ i, Try.prog.info? 90 = some i := Option.isSome_iff_exists.1 (by kernel_rfl)
  by_cases h : 250 < n
  · have l_ : (250 : Int) < (n : Int) := by omega
    have sl_ := cut_to (P := Try.prog) 82 90 .i64 Try.underlying82 hi90 A n c 250 (by omega) (by omega) hc
    have HM := Aside0.mk (show min n 250 = 250 by omega)
    clear hi90
    go_enter Try.func65, Try.ntmps65
    go_wp2_with (fail)
    all_goals
      go_ret
      exact ⟨by rw [HM.out]; rfl, rfl⟩
  · have l_ : ¬ (250 : Int) < (n : Int) := by omega
    have sl_ := cut_to (P := Try.prog) 82 90 .i64 Try.underlying82 hi90 A n c (n : Int) (by omega) (by omega) hc
    rw [Int.toNat_natCast] at sl_
    have HM := Aside0.mk (show min n 250 = n by omega)
    clear hi90
    go_enter Try.func65, Try.ntmps65
    go_wp2_with (fail)
    all_goals
      go_ret
      exact ⟨by rw [HM.out]; rfl, rfl⟩
theorem pick_ex (a n : Int) (ha : -9223372036854775808 ≤ a ∧ a < 9223372036854775808) (hn : 0 < n) : ∃ r, relstorekeep_pick.f a n = some r ∧ 0 ≤ r ∧ r < n := by
  unfold relstorekeep_pick.f
  by_cases h : a < 0
  · rw [if_pos h, if_neg (by omega)]
    have e1 : wrap64 (a + 1) = a + 1 := by unfold wrap64; omega
    have e2 : wrap64 (-(a + 1)) = -(a + 1) := by unfold wrap64; omega
    rw [e1, e2]
    exact ⟨_, rfl, Int.tmod_nonneg _ (by omega), Int.tmod_lt_of_pos _ hn⟩
  · rw [if_neg h, if_neg (by omega)]
    exact ⟨_, rfl, Int.tmod_nonneg _ (by omega), Int.tmod_lt_of_pos _ hn⟩
theorem picked (a n : Int) (w : World) (ha : -9223372036854775808 ≤ a ∧ a < 9223372036854775808) (hn : 0 < n) :
    Calls Try.prog 39 #[.int .i64 a, .int .i64 n] w fun e w' => ∃ r : Int, e = .returned (.int .i64 r) ∧ (0 ≤ r ∧ r < n) ∧ Drawn0 w w' := by
  obtain ⟨r, h, hr⟩ := pick_ex a n ha hn
  refine (relstorekeep_pick.calls a n r w h).mono ?_
  rintro e w' ⟨rfl, hd⟩
  exact ⟨r, rfl, hr, hd⟩
theorem sheet_l0 (a : Int) : ∀ (d j : Nat) (xs : List Int), j + d = 1024 → xs.length = 1024 → ∀ k, d < k → ∃ r, relstorekeep_sheet.l0 k a xs 1024 (j : Int) = some r ∧ r.size = 1024
  | 0, j, xs, h, hx, k, hk => by
    obtain ⟨k, rfl⟩ : ∃ n, k = n + 1 := ⟨k - 1, by omega⟩
    unfold relstorekeep_sheet.l0
    rw [if_neg (by omega)]
    exact ⟨_, rfl, by simp [strOfNums, ByteArray.size, hx]⟩
  | d + 1, j, xs, h, hx, k, hk => by
    obtain ⟨k, rfl⟩ : ∃ n, k = n + 1 := ⟨k - 1, by omega⟩
    unfold relstorekeep_sheet.l0
    rw [if_pos (by omega), if_pos (by omega), if_pos (by omega), show wrap64 ((j : Int) + 1) = ((j + 1 : Nat) : Int) by unfold wrap64; omega]
    exact sheet_l0 a d (j + 1) _ (by omega) (by rw [List.length_set, hx]) k (by omega)
theorem sheet_ex (a : Int) : ∃ r, relstorekeep_sheet.f 1025 a = some r ∧ r.size = 1024 := by
  unfold relstorekeep_sheet.f
  rw [if_pos (by decide), Option.bind_some, List.length_replicate]
  exact sheet_l0 a 1024 0 _ rfl (by rw [List.length_replicate]) 1025 (by decide)
theorem sheeted (a : Int) (w : World) : Calls Try.prog 66 #[.int .i64 a] w fun e w' => ∃ t : ByteArray, e = .returned (.string t) ∧ t.size = 1024 ∧ Below w.heap.size w w' := by
  obtain ⟨r, h, hs⟩ := sheet_ex a
  refine (relstorekeep_sheet.calls 1025 a r w h).mono ?_
  rintro e w' ⟨rfl, hd⟩
  exact ⟨r, rfl, hs, hd⟩
end Go.Proofs.Ythaoaaboempajaa.QLogKept
namespace Go.Proofs.Ythaoaaboempajaa.Log
open Go.RowKit Go.Maps Go.Proofs.Ythaoaaboempajaa.QLogRuns Go.Proofs.Ythaoaaboempajaa.QDiskRuns Go.Proofs.Ythaoaaboempajaa.Disk Go.Proofs.YthaoaaboempajaaW.PrintWords Go.Proofs.YthaoaaboempajaaW.PrintLast Go.Proofs.YthaoaaboempajaaW.PrintMore Go.Proofs.YthaoaaboempajaaX
set_option linter.unusedVariables false
set_option linter.unusedSimpArgs false
def hasAt (s : St) (g : Lg) (f : Int → Option ByteArray) (n : Int) : Prop :=
  match f n with
  | some t => (Lg.read s g n).2 = 0 ∧ (Lg.read s g n).1 = t
  | none => (Lg.read s g n).2 = 0 → (Lg.read s g n).1 = zerosB 1024
open Classical in
noncomputable def hasB (s : St) (g : Lg) (f : Int → Option ByteArray) : Bool := decide (∀ n : Nat, n < 6 → hasAt s g f n)
open Classical in
theorem hasB_true {s : St} {g : Lg} {f : Int → Option ByteArray} (h : ∀ n : Nat, n < 6 → hasAt s g f n) : hasB s g f = true := by unfold hasB; exact decide_eq_true h
open Classical in
theorem hasB_false {s : St} {g : Lg} {f : Int → Option ByteArray} {n : Nat} (hn : n < 6) (h : ¬ hasAt s g f n) : hasB s g f = false := by unfold hasB; exact decide_eq_false (fun h2 => h (h2 n hn))
theorem snoc6 {p : Nat → Prop} {j : Nat} (h : ∀ n : Nat, n < j → p n) (hj : p j) : ∀ n : Nat, n < j + 1 → p n := by
  intro n hn
  by_cases e : n = j
  · exact e ▸ hj
  · exact h n (by omega)
theorem toList_bytes {a b : ByteArray} (h : a.toList = b.toList) : a = b := by
  rw [ByteArray.toList_eq, ByteArray.toList_eq] at h
  exact bytes_ext h
theorem zero_page (w : World) : ∃ w', (Instr.makeSlice 55 (.int .i64 1024) (.int .i64 1024)).run Try.prog w = .ok (.slice (some ⟨w.heap.size, 0, none⟩) 1024 1024) w' ∧
    (convert 55 9 (.slice (some ⟨w.heap.size, 0, none⟩) 1024 1024)).run Try.prog w' = .ok (.string (zerosB 1024)) w' ∧ Below w.heap.size w w' := by
  obtain ⟨i, hi, hz⟩ := Option.map_eq_some_iff.1 info5
  have z1 : i.zero = some (.int .u8 0) := congrArg Prod.fst hz
  have z2 : i.size = 1 := congrArg (fun x => x.2.1) hz
  have z3 : i.bytes = 1 := congrArg (fun x => x.2.2) hz
  have h1 := run_makeSlice (P := Try.prog) w 55 5 i (.int .u8 0) Try.underlying55 hi z1 .i64 .i64 1024 1024 (by omega) (by omega) (by rw [z2]; omega) (by rw [z3]; omega) (by omega)
  rw [z2, show Value.cells (.int .u8 0) = #[.int .u8 0] from rfl] at h1
  refine ⟨_, h1, ?_, (Below.refl _ w).alloc (Nat.le_refl _) _⟩
  have h2 := run_convert_bytes_back (P := Try.prog) (w.alloc (.cells (madeCells #[.int .u8 0] 1024) 5)) 55 9 5 ⟨w.heap.size, 0, none⟩ 1024 (List.replicate 1024 0) Try.underlying55 Try.underlying5 Try.underlying9 (fun j hj => by
    have hj2 : j < 1024 := by rw [List.length_replicate] at hj; exact hj
    have e1 : (⟨w.heap.size, 0, none⟩ : Addr).add j = ⟨w.heap.size, j, none⟩ := by
      unfold Addr.add
      by_cases e : j = 0
      · rw [if_pos e, e]
      · rw [if_neg e, Nat.zero_add]
    have hb : (w.alloc (.cells (madeCells #[.int .u8 0] 1024) 5)).heap[w.heap.size]? = some (.cells (madeCells #[.int .u8 0] 1024) 5 (0, 0)) := Array.getElem?_push_size
    rw [e1, blk_cell hb j, List.getElem_replicate, ← Array.getElem?_toList, toList_madeCells_one, List.getElem?_replicate, if_pos hj2]
    rfl)
  rw [List.length_replicate] at h2
  exact h2
set_option maxHeartbeats 4000000 in
set_option maxRecDepth 100000 in
theorem has.calls (gd gl : Nat) (bx : List (Nat × Obj)) (s : St) (g : Lg) (m b k : Nat) (o : Obj) (f : Int → Option ByteArray) (w0 w : World) (hD : KS w0 w gd gl s g bx) (hx : (b, o) ∈ bx) (hM : MapO b o k f) (hok : s.ok m) (hg : g.ok) :
    Calls Try.prog 75 #[pv gl, .map (some b)] w fun e w' => e = .returned (.bool (hasB s g f)) ∧ Below w.heap.size w w' := by
  have HD := Aside0.mk hD
  have HX := Aside0.mk hx
  have HM := Aside0.mk hM
  have HG := Aside0.mk hg
  have HOK := Aside0.mk hok
  clear hD hM hok hg hx
  go_enter Try.func75, Try.ntmps75
  go_wp2_with (fail)
  go_loopw [5] (fun v5 wr => ∃ (j : Nat), j ≤ 6 ∧ v5 = .int .i64 (j : Int) ∧ Aside0 (Below w.heap.size w wr) ∧ Aside0 (∀ n : Nat, n < j → hasAt s g f n)) (fun v5 _ => 6 - (intOf v5).toNat)
  case atStart => exact ⟨0, Nat.zero_le _, rfl, ⟨Below.refl _ _⟩, ⟨fun n hn => absurd hn (Nat.not_lt_zero n)⟩⟩
  case round =>
    obtain ⟨j, hj, rfl, HBr, HP⟩ := hrel
    by_cases hlt : j < 6
    · have t_ : decide ((j : Int) < 6) = true := decide_eq_true (by omega)
      have T := Aside0.mk (KS.below HD.out HBr.out)
      have hw := (show -9223372036854775808 ≤ (j : Int) ∧ (j : Int) < 9223372036854775808 by omega)
      have HW := Aside0.mk hw
      have HLT := Aside0.mk hlt
      obtain ⟨t, hl, ht⟩ := (HM.out _ (Bd.have T.out HX.out)).look (wf_int hw)
      have HA := Aside0.mk (show hasAt s g f (j : Int) ↔ (match f (j : Int) with
        | some t => (Lg.read s g j).2 = 0 ∧ (Lg.read s g j).1 = t
        | none => (Lg.read s g j).2 = 0 → (Lg.read s g j).1 = zerosB 1024) from Iff.rfl)
      have HC := Aside0.mk (KS.read T.out HOK.out HG.out j hw)
      generalize Lg.read s g (j : Int) = rd at HA HC
      obtain ⟨rt, re⟩ := rd
      clear hw hlt
      cases hf : f (j : Int) with
      | some u =>
        obtain rfl := ht u hf
        rw [hf] at hl HA
        have hl2 : (Instr.lookup 87 (.map (some b)) (.int .i64 (j : Int)) true).run Try.prog wr = .ok (.tuple #[.string t, .bool true]) wr := hl
        clear hl ht hf
        by_cases he : re = 0
        · subst he
          by_cases hq : rt = t
          · subst hq
            have q_ : (rt.toList == rt.toList) = true := beq_self_eq_true _
            have HY := Aside0.mk (HA.out.2 ⟨rfl, rfl⟩)
            clear HA
            go_wp2_with (go_at_call 77; (with_reducible refine HC.out.mono ?_); rintro e w2 ⟨rfl, hb⟩; have HB2 := Aside0.mk (below_step HBr.out hb); clear hb)
            go_roundw
            case rel => exact ⟨j + 1, HLT.out, by go_num, HB2, ⟨snoc6 HP.out HY.out⟩⟩
            case measure => simp [intOf]; have := HLT.out; omega
          · have q_ : (rt.toList == (t).toList) = false := beq_eq_false_iff_ne.2 (fun e => hq (toList_bytes e))
            have HN := Aside0.mk (hasB_false HLT.out (fun h => absurd ((HA.out.1 h).2) hq))
            clear HA
            go_wp2_with (go_at_call 77; (with_reducible refine HC.out.mono ?_); rintro e w2 ⟨rfl, hb⟩; have HB2 := Aside0.mk (below_step HBr.out hb); clear hb)
            go_ret
            exact ⟨by rw [HN.out]; rfl, HB2.out⟩
        · have e1_ : (re != 0) = true := by simp [he]
          have e2_ : (re == 0) = false := by simp [he]
          have HN := Aside0.mk (hasB_false HLT.out (fun h => absurd ((HA.out.1 h).1) he))
          clear HA
          go_wp2_with (go_at_call 77; (with_reducible refine HC.out.mono ?_); rintro e w2 ⟨rfl, hb⟩; have HB2 := Aside0.mk (below_step HBr.out hb); clear hb)
          go_ret
          exact ⟨by rw [HN.out]; rfl, HB2.out⟩
      | none =>
        rw [hf] at hl HA
        have hl2 : (Instr.lookup 87 (.map (some b)) (.int .i64 (j : Int)) true).run Try.prog wr = .ok (.tuple #[.string t, .bool false]) wr := hl
        clear hl ht hf
        by_cases he : re = 0
        · subst he
          by_cases hq : rt = zerosB 1024
          · have q_ : (rt.toList == (zerosB 1024).toList) = true := by rw [hq]; exact beq_self_eq_true _
            have HY := Aside0.mk (HA.out.2 (fun _ => hq))
            clear HA
            go_wp2_with (go_at_call 77; (with_reducible refine HC.out.mono ?_); rintro e w2 ⟨rfl, hb⟩; have HB2 := Aside0.mk (below_step HBr.out hb); clear hb; obtain ⟨w3, hmk, hcv, hb3⟩ := zero_page w2; have HB3 := Aside0.mk (below_step HB2.out hb3); clear hb3)
            go_roundw
            case rel => exact ⟨j + 1, HLT.out, by go_num, HB3, ⟨snoc6 HP.out HY.out⟩⟩
            case measure => simp [intOf]; have := HLT.out; omega
          · have q_ : (rt.toList == (zerosB 1024).toList) = false := beq_eq_false_iff_ne.2 (fun e => hq (toList_bytes e))
            have HN := Aside0.mk (hasB_false HLT.out (fun h => absurd (have h2 := HA.out.1 h; h2 rfl) hq))
            clear HA
            go_wp2_with (go_at_call 77; (with_reducible refine HC.out.mono ?_); rintro e w2 ⟨rfl, hb⟩; have HB2 := Aside0.mk (below_step HBr.out hb); clear hb; obtain ⟨w3, hmk, hcv, hb3⟩ := zero_page w2; have HB3 := Aside0.mk (below_step HB2.out hb3); clear hb3)
            go_ret
            exact ⟨by rw [HN.out]; rfl, HB3.out⟩
        · have e1_ : (re != 0) = true := by simp [he]
          have e2_ : (re == 0) = false := by simp [he]
          have HY := Aside0.mk (HA.out.2 (fun h => absurd h he))
          clear HA
          go_wp2_with (go_at_call 77; (with_reducible refine HC.out.mono ?_); rintro e w2 ⟨rfl, hb⟩; have HB2 := Aside0.mk (below_step HBr.out hb); clear hb)
          go_roundw
          case rel => exact ⟨j + 1, HLT.out, by go_num, HB2, ⟨snoc6 HP.out HY.out⟩⟩
          case measure => simp [intOf]; have := HLT.out; omega
    · have t_ : decide ((j : Int) < 6) = false := decide_eq_false (by omega)
      go_wp2_with (fail)
      go_ret
      rw [hasB_true (fun n hn => HP.out n (by omega))]
      exact ⟨rfl, HBr.out⟩
end Go.Proofs.Ythaoaaboempajaa.Log
namespace Go.Proofs.Ythaoaaboempajaa.Log
open Go.RowKit Go.Maps Go.Proofs.Ythaoaaboempajaa.QLogRuns Go.Proofs.Ythaoaaboempajaa.QDiskRuns Go.Proofs.Ythaoaaboempajaa.Disk Go.Proofs.YthaoaaboempajaaW.PrintWords Go.Proofs.YthaoaaboempajaaW.PrintLast Go.Proofs.YthaoaaboempajaaW.PrintMore Go.Proofs.YthaoaaboempajaaX
set_option linter.unusedVariables false
set_option linter.unusedSimpArgs false
def findBlockK (n : Nat) : Code → Option Code
  | .loop c => findBlockK n c
  | .seq a b => match findBlockK n a with
    | some c => some c
    | none => findBlockK n b
  | .block i c => if i = n then some (.block i c) else findBlockK n c
  | .scope c => findBlockK n c
  | .cond _ a b => match findBlockK n a with
    | some c => some c
    | none => findBlockK n b
  | _ => none
def behindLoopK (n : Nat) : Code → Option Code
  | .seq a b => match a with
    | .seq _ (.block i _) => if i = n then some b else behindLoopK n b
    | _ => behindLoopK n b
  | _ => none
noncomputable def sw13 : Code := (Try.f13.body.bind (findBlockK 2)).getD .skip
noncomputable def rest13 : Code := (Try.f13.body.bind (behindLoopK 0)).getD .skip
def Same (f : Int → Option ByteArray) (M : PM) : Prop := ∀ n : Nat, n < 6 → f (n : Int) = M n
theorem Fin.d {s : St} {M : PM} (h : Fin s M) : s.d = false := by
  obtain ⟨g, fr, hw, hd, -⟩ := h
  exact hd
theorem tail_fin {s : St} {M : PM} {m : Nat} (h : Fin s M) (hok : s.ok m) (r : Int) (hr : r < 9223372036854775808) (keep : List Int) :
    ∃ g1 g2, openP (s.failed r) = (0, (openP (s.failed r)).2.1, some g1) ∧ (openP (s.failed r)).2.1 = s.failed r ∧ openP (nx4 ((s.failed r).crashed keep).s0 ((s.failed r).crashed keep).s1) = (0, (openP (nx4 ((s.failed r).crashed keep).s0 ((s.failed r).crashed keep).s1)).2.1, some g2) ∧ (openP (nx4 ((s.failed r).crashed keep).s0 ((s.failed r).crashed keep).s1)).2.1 = nx4 ((s.failed r).crashed keep).s0 ((s.failed r).crashed keep).s1 ∧ g2.ok ∧
      ∀ f, Same f M → hasB (nx4 ((s.failed r).crashed keep).s0 ((s.failed r).crashed keep).s1) g2 f = true := by
  have h2 := (h.failed r)
  have hok2 := hok.failed (n := r) hr
  obtain ⟨g1, e1, -⟩ := h2.opens
  have h3 := h2.crashed keep
  have hok3 := hok2.crashed (keep := keep)
  have h4 : Fin (nx4 ((s.failed r).crashed keep).s0 ((s.failed r).crashed keep).s1) M := h3.moved rfl rfl rfl rfl
  have hok4 := nx4_ok hok3.s0 hok3.s1
  have hff : (nx4 ((s.failed r).crashed keep).s0 ((s.failed r).crashed keep).s1).f = -1 := rfl
  generalize nx4 ((s.failed r).crashed keep).s0 ((s.failed r).crashed keep).s1 = x at *
  obtain ⟨g2, e2, hp⟩ := h4.opens
  obtain ⟨g3, e3, hgood, -⟩ := opened hok4 hff h4.d
  rw [e2] at e3 hgood
  obtain rfl : g2 = g3 := Option.some.inj (congrArg (fun z => z.2.2) e3)
  refine ⟨g1, g2, by rw [e1], by rw [e1], by rw [e2], by rw [e2], hgood.ok, fun f hf => hasB_true (fun n hn => ?_)⟩
  have hpg := has_page hok4 hgood h4.d hp n hn
  unfold hasAt
  rw [hf n hn]
  cases hM : M n with
  | some t => rw [hpg.1 t hM]; exact ⟨rfl, rfl⟩
  | none => exact hpg.2 hM
set_option maxHeartbeats 16000000 in
set_option maxRecDepth 100000 in
theorem tail13 {c0 c1 c4 c5 c6 c7 c8 c10 c14 c15 c16 c17 c18 c19 c20 c21 c22 c23 c24 c25 c26 c27 c28 c29 c30 c31 c32 c33 c34 c35 c36 c37 c38 c39 c40 c41 c42 c43 c44 c45 c46 c47 c48 c49 c50 c51 c52 c53 c54 c55 c56 c57 c58 c59 c60 c61 c62 c63 c64 c65 c66 c67 c68 c69 c70 c71 c72 c73 c74 c75 c76 c77 c78 c79 c80 c81 c82 c83 c84 c85 c86 c87 c88 c89 c90 c91 c92 c93 c94 c95 c96 c97 c98 c99 c100 c101 c102 c103 c104 c105 c106 c107 c108 c109 c110 c111 c112 c113 c114 c115 c116 c117 c118 c119 c120 c121 c122 c123 c124 c125 c126 c127 c128 c129 c130 c131 c132 c133 c134 c135 c136 c137 c138 c139 c140 c141 c142 c143 c144 c145 : Value} {w w8 : World} {gd bk bm nk nm : Nat} {ok om : Obj} {fk fm : Int → Option ByteArray} {M : PM} {s : St} {m : Nat} {e again : Int} {A3 : Option Addr} {c3_ : Nat} {keep : List Int}
    (T8 : Aside0 (KD w w8 gd s [(bk, ok), (bm, om)])) (HOK : Aside0 (s.ok m)) (HM : Aside0 (m ≤ 100000000)) (HE : e = 0 ∨ (e ≠ 0 ∧ s.d = true)) (HF : Aside0 (Fin (s.crashed keep) M)) (HH : Aside0 (∀ x g, (∀ f, Same f M → hasB x g f = true) → hasB x g fk = true ∨ hasB x g fm = true))
    (HK1 : Aside0 (MapO bk ok nk fk)) (HK2 : Aside0 (MapO bm om nm fm)) (HKL : Aside0 (keep.length ≤ 17592186043904)) (G3 : Aside0 ((Kd.int .i64).C w A3 keep.length keep)) (HAG : Aside0 (-9223372036854775808 ≤ again ∧ again < 9223372036854775808)) :
    Code.wp Try.prog rest13 (bodyPost Try.prog Try.f13 (fun e w' => e = .returned (.bool true) ∧ Below w.heap.size w w')) ⟨#[c0, c1, .int .i64 again, .slice A3 keep.length c3_, c4, c5, c6, c7, c8, pv gd, c10, .int .i64 e, .map (some bk), .map (some bm), c14, c15, c16, c17, c18, c19, c20, c21, c22, c23, c24, c25, c26, c27, c28, c29, c30, c31, c32, c33, c34, c35, c36, c37, c38, c39, c40, c41, c42, c43, c44, c45, c46, c47, c48, c49, c50, c51, c52, c53, c54, c55, c56, c57, c58, c59, c60, c61, c62, c63, c64, c65, c66, c67, c68, c69, c70, c71, c72, c73, c74, c75, c76, c77, c78, c79, c80, c81, c82, c83, c84, c85, c86, c87, c88, c89, c90, c91, c92, c93, c94, c95, c96, c97, c98, c99, c100, c101, c102, c103, c104, c105, c106, c107, c108, c109, c110, c111, c112, c113, c114, c115, c116, c117, c118, c119, c120, c121, c122, c123, c124, c125, c126, c127, c128, c129, c130, c131, c132, c133, c134, c135, c136, c137, c138, c139, c140, c141, c142, c143, c144, c145], []⟩ w8 := by
  conv => arg 2; whnf
  rcases HE with rfl | ⟨he, hd⟩
  · have HDN := Aside0.mk (trivial : True)
    go_upto_region 50 with (first
      | (go_at_call 72; (with_reducible refine (KD.down T8.out).mono ?_); rw [HDN.out]; rintro e w9 ⟨rfl, rfl⟩)
      | (go_at_call 73; (with_reducible refine (KD.crash T8.out HOK.out (by have := HM.out; omega) A3 c3_ keep G3.out (by have := HKL.out; omega)).mono ?_); rintro e w12 ⟨rfl, h⟩; have T12 := Aside0.mk h; clear h; clear T8)
      | (go_at_call 39; (with_reducible refine (QLogKept.picked again 8 _ HAG.out (by decide)).mono ?_); rintro e w13 ⟨r, rfl, hr, hd⟩; have T13 := Aside0.mk (KD.below T12.out hd.below); have HR := Aside0.mk (show r < 9223372036854775808 by omega); clear hr hd)
      | (go_at_call 64; (with_reducible refine (KD.fail T13.out r).mono ?_); rintro e w14 ⟨rfl, h⟩; have T14 := Aside0.mk h; clear h; obtain ⟨g1, g2, ho1, ho1', ho2, ho2', hg2, hb2⟩ := tail_fin HF.out (HOK.out.crashed (keep := keep)) r HR.out keep; have HO1 := Aside0.mk ho1; have HO1' := Aside0.mk ho1'; have HO2 := Aside0.mk ho2; have HO2' := Aside0.mk ho2'; have HG2 := Aside0.mk hg2; have HB2 := Aside0.mk (HH.out _ _ hb2); have HOK2 := Aside0.mk ((HOK.out.crashed (keep := keep)).failed HR.out); have HOK3 := Aside0.mk (HOK2.out.crashed (keep := keep)); have HOK4 := Aside0.mk (nx4_ok HOK3.out.s0 HOK3.out.s1); clear ho1 ho1' ho2 ho2' hg2 hb2; generalize hs2 : (s.crashed keep).failed r = s2 at T14 HO1 HO1' HO2 HO2' HB2 HOK2 HOK3 HOK4; clear hs2)
      | (have T20_ := Aside0.mk T20.out; go_at_call 63; (with_reducible refine (KD.open_ T20.out HOK4.out (by decide) HO2.out).mono ?_); rintro e w21 ⟨gm, rfl, h⟩; rw [HO2'.out] at h; have T21 := Aside0.mk h; clear h)
      | (go_at_call 63; (with_reducible refine (KD.open_ T14.out HOK2.out (by have := HM.out; omega) HO1.out).mono ?_); rintro e w15 ⟨gl, rfl, h⟩; rw [HO1'.out] at h; have T15 := Aside0.mk (KS.disk h); clear h)
      | (go_at_call 73; (with_reducible refine (KD.crash T15.out HOK2.out (by have := HM.out; omega) A3 c3_ keep G3.out (by have := HKL.out; omega)).mono ?_); rintro e w16 ⟨rfl, h⟩; have T16 := Aside0.mk h; clear h)
      | (go_at_call 74; (with_reducible refine (KD.moved T16.out HOK3.out rfl).mono ?_); rintro e w20 ⟨gn, rfl, h⟩; have T20 := Aside0.mk h; clear h))
    by_cases hk : hasB (nx4 (s2.crashed keep).s0 (s2.crashed keep).s1) g2 fk = true
    · have HKB := Aside0.mk hk
      clear hk
      go_wp2_with (go_at_call 75; (with_reducible refine (has.calls gn gm [(bk, ok), (bm, om)] (nx4 (s2.crashed keep).s0 (s2.crashed keep).s1) g2 4 bk nk ok fk w _ T21.out List.mem_cons_self HK1.out HOK4.out HG2.out).mono ?_); rw [HKB.out]; rintro e w22 ⟨rfl, hb⟩; have T22 := Aside0.mk hb; clear hb)
      go_ret
      exact ⟨rfl, below_step T21.out.hB T22.out⟩
    · have HKB := Aside0.mk (show hasB (nx4 (s2.crashed keep).s0 (s2.crashed keep).s1) g2 fk = false by simpa using hk)
      have HMB := Aside0.mk (HB2.out.resolve_left hk)
      clear hk
      go_wp2_with (first
        | (have T22_ := T22.out; clear T22_; (go_at_call 75; (with_reducible refine (has.calls gn gm [(bk, ok), (bm, om)] (nx4 (s2.crashed keep).s0 (s2.crashed keep).s1) g2 4 bm nm om fm w _ (KS.below T21.out T22.out) (List.mem_cons_of_mem _ List.mem_cons_self) HK2.out HOK4.out HG2.out).mono ?_); rw [HMB.out]; rintro e w23 ⟨rfl, hb⟩; have T23 := Aside0.mk hb; clear hb))
        | (go_at_call 75; (with_reducible refine (has.calls gn gm [(bk, ok), (bm, om)] (nx4 (s2.crashed keep).s0 (s2.crashed keep).s1) g2 4 bk nk ok fk w _ T21.out List.mem_cons_self HK1.out HOK4.out HG2.out).mono ?_); rw [HKB.out]; rintro e w22 ⟨rfl, hb⟩; have T22 := Aside0.mk hb; clear hb))
      go_ret
      exact ⟨rfl, below_step T21.out.hB (below_step T22.out T23.out)⟩
  · have e1_ : (e != 0) = true := bne_iff_ne.2 he
    have HDN := Aside0.mk hd
    clear he hd
    go_upto_region 50 with (first
      | (go_at_call 72; (with_reducible refine (KD.down T8.out).mono ?_); rw [HDN.out]; rintro e w9 ⟨rfl, rfl⟩)
      | (go_at_call 73; (with_reducible refine (KD.crash T8.out HOK.out (by have := HM.out; omega) A3 c3_ keep G3.out (by have := HKL.out; omega)).mono ?_); rintro e w12 ⟨rfl, h⟩; have T12 := Aside0.mk h; clear h; clear T8)
      | (go_at_call 39; (with_reducible refine (QLogKept.picked again 8 _ HAG.out (by decide)).mono ?_); rintro e w13 ⟨r, rfl, hr, hd⟩; have T13 := Aside0.mk (KD.below T12.out hd.below); have HR := Aside0.mk (show r < 9223372036854775808 by omega); clear hr hd)
      | (go_at_call 64; (with_reducible refine (KD.fail T13.out r).mono ?_); rintro e w14 ⟨rfl, h⟩; have T14 := Aside0.mk h; clear h; obtain ⟨g1, g2, ho1, ho1', ho2, ho2', hg2, hb2⟩ := tail_fin HF.out (HOK.out.crashed (keep := keep)) r HR.out keep; have HO1 := Aside0.mk ho1; have HO1' := Aside0.mk ho1'; have HO2 := Aside0.mk ho2; have HO2' := Aside0.mk ho2'; have HG2 := Aside0.mk hg2; have HB2 := Aside0.mk (HH.out _ _ hb2); have HOK2 := Aside0.mk ((HOK.out.crashed (keep := keep)).failed HR.out); have HOK3 := Aside0.mk (HOK2.out.crashed (keep := keep)); have HOK4 := Aside0.mk (nx4_ok HOK3.out.s0 HOK3.out.s1); clear ho1 ho1' ho2 ho2' hg2 hb2; generalize hs2 : (s.crashed keep).failed r = s2 at T14 HO1 HO1' HO2 HO2' HB2 HOK2 HOK3 HOK4; clear hs2)
      | (have T20_ := Aside0.mk T20.out; go_at_call 63; (with_reducible refine (KD.open_ T20.out HOK4.out (by decide) HO2.out).mono ?_); rintro e w21 ⟨gm, rfl, h⟩; rw [HO2'.out] at h; have T21 := Aside0.mk h; clear h)
      | (go_at_call 63; (with_reducible refine (KD.open_ T14.out HOK2.out (by have := HM.out; omega) HO1.out).mono ?_); rintro e w15 ⟨gl, rfl, h⟩; rw [HO1'.out] at h; have T15 := Aside0.mk (KS.disk h); clear h)
      | (go_at_call 73; (with_reducible refine (KD.crash T15.out HOK2.out (by have := HM.out; omega) A3 c3_ keep G3.out (by have := HKL.out; omega)).mono ?_); rintro e w16 ⟨rfl, h⟩; have T16 := Aside0.mk h; clear h)
      | (go_at_call 74; (with_reducible refine (KD.moved T16.out HOK3.out rfl).mono ?_); rintro e w20 ⟨gn, rfl, h⟩; have T20 := Aside0.mk h; clear h))
    by_cases hk : hasB (nx4 (s2.crashed keep).s0 (s2.crashed keep).s1) g2 fk = true
    · have HKB := Aside0.mk hk
      clear hk
      go_wp2_with (go_at_call 75; (with_reducible refine (has.calls gn gm [(bk, ok), (bm, om)] (nx4 (s2.crashed keep).s0 (s2.crashed keep).s1) g2 4 bk nk ok fk w _ T21.out List.mem_cons_self HK1.out HOK4.out HG2.out).mono ?_); rw [HKB.out]; rintro e w22 ⟨rfl, hb⟩; have T22 := Aside0.mk hb; clear hb)
      go_ret
      exact ⟨rfl, below_step T21.out.hB T22.out⟩
    · have HKB := Aside0.mk (show hasB (nx4 (s2.crashed keep).s0 (s2.crashed keep).s1) g2 fk = false by simpa using hk)
      have HMB := Aside0.mk (HB2.out.resolve_left hk)
      clear hk
      go_wp2_with (first
        | (have T22_ := T22.out; clear T22_; (go_at_call 75; (with_reducible refine (has.calls gn gm [(bk, ok), (bm, om)] (nx4 (s2.crashed keep).s0 (s2.crashed keep).s1) g2 4 bm nm om fm w _ (KS.below T21.out T22.out) (List.mem_cons_of_mem _ List.mem_cons_self) HK2.out HOK4.out HG2.out).mono ?_); rw [HMB.out]; rintro e w23 ⟨rfl, hb⟩; have T23 := Aside0.mk hb; clear hb))
        | (go_at_call 75; (with_reducible refine (has.calls gn gm [(bk, ok), (bm, om)] (nx4 (s2.crashed keep).s0 (s2.crashed keep).s1) g2 4 bk nk ok fk w _ T21.out List.mem_cons_self HK1.out HOK4.out HG2.out).mono ?_); rw [HKB.out]; rintro e w22 ⟨rfl, hb⟩; have T22 := Aside0.mk hb; clear hb))
      go_ret
      exact ⟨rfl, below_step T21.out.hB (below_step T22.out T23.out)⟩
end Go.Proofs.Ythaoaaboempajaa.Log
namespace Go.Proofs.Ythaoaaboempajaa.Log
open Go.RowKit Go.Maps Go.Proofs.Ythaoaaboempajaa.QLogRuns Go.Proofs.Ythaoaaboempajaa.QDiskRuns Go.Proofs.Ythaoaaboempajaa.Disk Go.Proofs.YthaoaaboempajaaW.PrintWords Go.Proofs.YthaoaaboempajaaW.PrintLast Go.Proofs.YthaoaaboempajaaW.PrintMore Go.Proofs.YthaoaaboempajaaX
set_option linter.unusedVariables false
set_option linter.unusedSimpArgs false
def LK (w wx : World) (gd gl bk bm bn N : Nat) (s : St) (g : Lg) (KM MM NM : PM) : Prop :=
  ∃ (ok om on : Obj) (fk fm fn : Int → Option ByteArray), KS w wx gd gl s g [(bk, ok), (bm, om), (bn, on)] ∧ (MapO bk ok N fk ∧ Same fk KM) ∧ (MapO bm om N fm ∧ Same fm MM) ∧ MapO bn on N fn ∧ Same fn NM
section
variable {w wx wy : World} {gd gl bk bm bn N m : Nat} {s : St} {g : Lg} {KM MM NM : PM}
theorem LK.below (h : LK w wx gd gl bk bm bn N s g KM MM NM) (hb : Below wx.heap.size wx wy) : LK w wy gd gl bk bm bn N s g KM MM NM := by
  obtain ⟨ok, om, on, fk, fm, fn, hs, r⟩ := h
  exact ⟨ok, om, on, fk, fm, fn, KS.below hs hb, r⟩
theorem LK.more (h : LK w wx gd gl bk bm bn N s g KM MM NM) : LK w wx gd gl bk bm bn (N + 1) s g KM MM NM := by
  obtain ⟨ok, om, on, fk, fm, fn, hs, ⟨a, b⟩, ⟨c, d⟩, e, f⟩ := h
  exact ⟨ok, om, on, fk, fm, fn, hs, ⟨a.mono (Nat.le_succ _), b⟩, ⟨c.mono (Nat.le_succ _), d⟩, e.mono (Nat.le_succ _), f⟩
theorem LK.perhaps (h : LK w wx gd gl bk bm bn N s g KM MM NM) : LK w wx gd gl bk bn bn N s g KM NM NM := by
  obtain ⟨ok, om, on, fk, fm, fn, hs, a, b, c⟩ := h
  exact ⟨ok, on, on, fk, fn, fn, Bd.mono hs (fun x hx => by simp only [List.mem_cons, List.not_mem_nil, or_false] at hx ⊢; rcases hx with e | e | e <;> simp [e]), a, c, c⟩
theorem LK.surely (h : LK w wx gd gl bk bm bn N s g KM MM NM) : LK w wx gd gl bk bk bn N s g KM KM NM := by
  obtain ⟨ok, om, on, fk, fm, fn, hs, a, b, c⟩ := h
  exact ⟨ok, ok, on, fk, fk, fn, Bd.mono hs (fun x hx => by simp only [List.mem_cons, List.not_mem_nil, or_false] at hx ⊢; rcases hx with e | e | e <;> simp [e]), a, a, c⟩
theorem LK.keep (h : LK w wx gd gl bk bm bn N s g KM MM NM) : LK w wx gd gl bn bm bn N s g NM MM NM := by
  obtain ⟨ok, om, on, fk, fm, fn, hs, a, b, c⟩ := h
  exact ⟨on, om, on, fn, fm, fn, Bd.mono hs (fun x hx => by simp only [List.mem_cons, List.not_mem_nil, or_false] at hx ⊢; rcases hx with e | e | e <;> simp [e]), c, b, c⟩
theorem LK.anew (h : LK w wx gd gl bk bm bn N s g KM MM NM) : LK w wx gd gl bk bm bk N s g KM MM KM := by
  obtain ⟨ok, om, on, fk, fm, fn, hs, a, b, c⟩ := h
  exact ⟨ok, om, ok, fk, fm, fk, Bd.mono hs (fun x hx => by simp only [List.mem_cons, List.not_mem_nil, or_false] at hx ⊢; rcases hx with e | e | e <;> simp [e]), a, b, a⟩
theorem LK.append (h : LK w wx gd gl bk bm bn N s g KM MM NM) (hok : s.ok m) (hm : m ≤ 500000000) (hg : g.ok) (n : Int) (t : ByteArray) (hn : -9223372036854775808 ≤ n ∧ n < 9223372036854775808) :
    Calls Try.prog 67 #[pv gl, .int .i64 n, .string t] wx fun e w' => e = .returned (.int .i64 (Lg.append s g n t).1) ∧ LK w w' gd gl bk bm bn N (Lg.append s g n t).2.1 (Lg.append s g n t).2.2 KM MM NM := by
  obtain ⟨ok, om, on, fk, fm, fn, hs, r⟩ := h
  refine (KS.append hs hok hm hg n t hn).mono ?_
  rintro e w' ⟨rfl, hb⟩
  exact ⟨rfl, ok, om, on, fk, fm, fn, hb, r⟩
theorem LK.commit (h : LK w wx gd gl bk bm bn N s g KM MM NM) (hok : s.ok m) (hm : m ≤ 500000000) (hg : g.ok) (n : Int) (t : ByteArray) (p : Int) (hn : -9223372036854775808 ≤ n ∧ n < 9223372036854775808) :
    Calls Try.prog 69 #[pv gl, .int .i64 n, .string t, .int .i64 p] wx fun e w' => e = .returned (.int .i64 (Lg.commit s g n t p).c) ∧ LK w w' gd gl bk bm bn N (Lg.commit s g n t p).s (Lg.commit s g n t p).g KM MM NM := by
  obtain ⟨ok, om, on, fk, fm, fn, hs, r⟩ := h
  refine (KS.commit hs hok hm hg n t p hn).mono ?_
  rintro e w' ⟨rfl, hb⟩
  exact ⟨rfl, ok, om, on, fk, fm, fn, hb, r⟩
theorem LK.back (h : LK w wx gd gl bk bm bn N s g KM MM NM) (hg : g.ok) : Calls Try.prog 70 #[pv gl] wx fun e w' => e = .returned (.tuple #[]) ∧ LK w w' gd gl bk bm bn N s g.back KM MM NM := by
  obtain ⟨ok, om, on, fk, fm, fn, hs, r⟩ := h
  refine (KS.back hs hg).mono ?_
  rintro e w' ⟨rfl, hb⟩
  exact ⟨rfl, ok, om, on, fk, fm, fn, hb, r⟩
theorem LK.checkpoint (h : LK w wx gd gl bk bm bn N s g KM MM NM) (hok : s.ok m) (hm : m ≤ 500000000) (hg : g.ok) :
    Calls Try.prog 71 #[pv gl] wx fun e w' => e = .returned (.int .i64 (Lg.checkpoint s g).c) ∧ LK w w' gd gl bk bm bn N (Lg.checkpoint s g).s (Lg.checkpoint s g).g KM MM NM := by
  obtain ⟨ok, om, on, fk, fm, fn, hs, r⟩ := h
  refine (KS.checkpoint hs hok hm hg).mono ?_
  rintro e w' ⟨rfl, hb⟩
  exact ⟨rfl, ok, om, on, fk, fm, fn, hb, r⟩
theorem LK.with_ (h : LK w wx gd gl bk bm bn N s g KM MM NM) (hN : N ≤ 1000000) (n : Nat) (hn : n < 6) (t : ByteArray) (ht : t.size = 1024) :
    Calls Try.prog 68 #[.map (some bn), .int .i64 (n : Int), .string t] wx fun e w' => ∃ b', e = .returned (.map (some b')) ∧ LK w w' gd gl bk bm b' (N + 1) s g KM MM (withM NM n t) := by
  obtain ⟨ok, om, on, fk, fm, fn, hs, ⟨a, b⟩, ⟨c, d⟩, e, f⟩ := h
  refine (KS.with_ hs (b := bn) (o := on) (by simp) e (by omega) (n : Int) (by omega) t (by rw [ht]; decide)).mono ?_
  rintro e1 w' ⟨b', o', rfl, hb, hm⟩
  refine ⟨b', rfl, ok, om, o', fk, fm, _, Bd.mono hb (fun x hx => by simp only [List.mem_cons, List.not_mem_nil, or_false] at hx ⊢; rcases hx with e | e | e <;> simp [e]), ⟨a.mono (Nat.le_succ _), b⟩, ⟨c.mono (Nat.le_succ _), d⟩, hm, fun i hi => ?_⟩
  unfold withM
  by_cases e2 : i = n
  · rw [if_pos (by rw [e2]), if_pos e2]
  · rw [if_neg (by omega), if_neg e2]
    exact f i hi
end
set_option maxHeartbeats 16000000 in
set_option maxRecDepth 100000 in
theorem kstepA {c0 c1 c2 c3 c4 c5 c6 c7 c8 c15 c16 c19 c20 c21 c22 c23 c24 c25 c26 c27 c28 c29 c30 c31 c32 c33 c34 c35 c36 c37 c38 c39 c40 c41 c42 c43 c44 c45 c46 c47 c48 c49 c50 c51 c52 c53 c54 c55 c56 c57 c59 c60 c61 c62 c63 c64 c65 c66 c67 c68 c69 c70 c71 c72 c73 c74 c75 c76 c77 c78 c79 c80 c81 c82 c83 c84 c85 c86 c87 c88 c89 c90 c91 c92 c93 c94 c95 c96 c97 c98 c99 c100 c101 c102 c103 c104 c105 c106 c107 c108 c109 c110 c111 c112 c113 c114 c115 c116 c117 c118 c119 c120 c121 c122 c123 c124 c125 c126 c127 c128 c129 c130 c131 c132 c133 c134 c135 c136 c137 c138 c139 c140 c141 c142 c143 c144 c145 : Value} {w w8 : World} {gd gl bk bn nn N L : Nat} {t : ByteArray} {KM NM : PM} {s : St} {g : Lg} {m : Nat} {k : Int} {K : Act → World → Prop} {Q : Exit → Act → World → Prop}
    (T8 : Aside0 (LK w w8 gd gl bk bk bn N s g KM KM NM)) (HOK : Aside0 (s.ok m)) (HM : Aside0 (m ≤ 100000000)) (HC : Aside0 (Clean s g KM NM)) (HL : Aside0 (g.fr.length ≤ L ∧ L < 60000 ∧ N ≤ 1000000)) (HN : Aside0 (nn < 6)) (HT : Aside0 (t.size = 1024))
    (HK : Aside0 (∀ (v11 v12 v13 v14 v59 v60 v61 v62 v63 v64 v65 v66 v67 v68 v69 v70 v71 v72 v73 v74 v75 v76 v77 v78 v79 v80 v81 v82 v83 v84 v85 v86 v87 v88 v89 v90 v91 v92 v93 v94 v95 v96 v97 : Value) (wx : World), (∃ (e' : Int) (bk' bm' bn' : Nat) (s' : St) (g' : Lg) (KM' MM' NM' : PM), v11 = .int .i64 e' ∧ v12 = .map (some bk') ∧ v13 = .map (some bm') ∧ v14 = .map (some bn') ∧ Aside0 (LK w wx gd gl bk' bm' bn' (N + 1) s' g' KM' MM' NM') ∧ Aside0 (s'.ok (m + 65310)) ∧ ((e' = 0 ∧ Aside0 (Clean s' g' KM' NM') ∧ g'.fr.length ≤ L + 1) ∨ (e' ≠ 0 ∧ Aside0 (s'.d = true) ∧ Aside0 (∀ keep, Fin (s'.crashed keep) KM' ∨ Fin (s'.crashed keep) MM')))) → K ⟨#[c0, c1, c2, c3, c4, c5, c6, c7, c8, pv gd, pv gl, v11, v12, v13, v14, c15, c16, .int .i64 (nn : Int), .string t, c19, c20, c21, c22, c23, c24, c25, c26, c27, c28, c29, c30, c31, c32, c33, c34, c35, c36, c37, c38, c39, c40, c41, c42, c43, c44, c45, c46, c47, c48, c49, c50, c51, c52, c53, c54, c55, c56, c57, .int .i64 k, v59, v60, v61, v62, v63, v64, v65, v66, v67, v68, v69, v70, v71, v72, v73, v74, v75, v76, v77, v78, v79, v80, v81, v82, v83, v84, v85, v86, v87, v88, v89, v90, v91, v92, v93, v94, v95, v96, v97, c98, c99, c100, c101, c102, c103, c104, c105, c106, c107, c108, c109, c110, c111, c112, c113, c114, c115, c116, c117, c118, c119, c120, c121, c122, c123, c124, c125, c126, c127, c128, c129, c130, c131, c132, c133, c134, c135, c136, c137, c138, c139, c140, c141, c142, c143, c144, c145], []⟩ wx)) (hk : k = 0 ∨ k = 1 ∨ k = 2) :
    Code.wp Try.prog sw13 (Exit.then K Q) ⟨#[c0, c1, c2, c3, c4, c5, c6, c7, c8, pv gd, pv gl, .int .i64 0, .map (some bk), .map (some bk), .map (some bn), c15, c16, .int .i64 (nn : Int), .string t, c19, c20, c21, c22, c23, c24, c25, c26, c27, c28, c29, c30, c31, c32, c33, c34, c35, c36, c37, c38, c39, c40, c41, c42, c43, c44, c45, c46, c47, c48, c49, c50, c51, c52, c53, c54, c55, c56, c57, .int .i64 k, c59, c60, c61, c62, c63, c64, c65, c66, c67, c68, c69, c70, c71, c72, c73, c74, c75, c76, c77, c78, c79, c80, c81, c82, c83, c84, c85, c86, c87, c88, c89, c90, c91, c92, c93, c94, c95, c96, c97, c98, c99, c100, c101, c102, c103, c104, c105, c106, c107, c108, c109, c110, c111, c112, c113, c114, c115, c116, c117, c118, c119, c120, c121, c122, c123, c124, c125, c126, c127, c128, c129, c130, c131, c132, c133, c134, c135, c136, c137, c138, c139, c140, c141, c142, c143, c144, c145], []⟩ w8 := by
  conv => arg 2; whnf
  have HA := Aside0.mk (HC.out.append nn HN.out t HT.out (by have := HL.out; omega))
  have HOK1 := Aside0.mk (St.ok.appended HOK.out g nn t)
  rcases hk with rfl | rfl | rfl
  all_goals
    go_wp2_with (first
      | (have T9_ := T9.out; clear T9_; go_at_call 68; (with_reducible refine (LK.with_ T9.out HL.out.2.2 nn HN.out t HT.out).mono ?_); rintro e w10 ⟨b', rfl, h⟩; have T10 := Aside0.mk h; clear h)
      | (go_at_call 67; (with_reducible refine (LK.append T8.out HOK.out (by have := HM.out; omega) HC.out.good.ok nn t (by have := HN.out; omega)).mono ?_); rintro e w9 ⟨rfl, h⟩; have T9 := Aside0.mk h; clear h))
    refine HK.out _ _ _ _ _ _ _ _ _ _ _ _ _ _ _ _ _ _ _ _ _ _ _ _ _ _ _ _ _ _ _ _ _ _ _ _ _ _ _ _ _ _ _ _ ?_
    refine ⟨_, bk, bk, b', _, _, KM, KM, withM NM nn t, rfl, rfl, rfl, rfl, T10, ⟨HOK1.out.mono (by omega)⟩, ?_⟩
    rcases HA.out with ⟨h0, h1, h2⟩ | ⟨h0, h1, h2⟩
    · exact .inl ⟨h0, ⟨h1⟩, by rw [h2]; have := HL.out; omega⟩
    · exact .inr ⟨h0, ⟨h1⟩, ⟨fun keep => .inl (h2.crash keep)⟩⟩
end Go.Proofs.Ythaoaaboempajaa.Log
namespace Go.Proofs.Ythaoaaboempajaa.Log
open Go.RowKit Go.Maps Go.Proofs.Ythaoaaboempajaa.QLogRuns Go.Proofs.Ythaoaaboempajaa.QDiskRuns Go.Proofs.Ythaoaaboempajaa.Disk Go.Proofs.YthaoaaboempajaaW.PrintWords Go.Proofs.YthaoaaboempajaaW.PrintLast Go.Proofs.YthaoaaboempajaaW.PrintMore Go.Proofs.YthaoaaboempajaaX
set_option linter.unusedVariables false
set_option linter.unusedSimpArgs false
set_option maxHeartbeats 16000000 in
set_option maxRecDepth 100000 in
theorem kstepC {c0 c1 c2 c3 c4 c5 c6 c7 c8 c15 c16 c19 c20 c21 c22 c23 c24 c25 c26 c27 c28 c29 c30 c31 c32 c33 c34 c35 c36 c37 c38 c39 c40 c41 c42 c43 c44 c45 c46 c47 c48 c49 c50 c51 c52 c53 c54 c55 c56 c57 c59 c60 c61 c62 c63 c64 c65 c66 c67 c68 c69 c70 c71 c72 c73 c74 c75 c76 c77 c78 c79 c80 c81 c82 c83 c84 c85 c86 c87 c88 c89 c90 c91 c92 c93 c94 c95 c96 c97 c98 c99 c100 c101 c102 c103 c104 c105 c106 c107 c108 c109 c110 c111 c112 c113 c114 c115 c116 c117 c118 c119 c120 c121 c122 c123 c124 c125 c126 c127 c128 c129 c130 c131 c132 c133 c134 c135 c136 c137 c138 c139 c140 c141 c142 c143 c144 c145 : Value} {w w8 : World} {gd gl bk bn nn N L : Nat} {t : ByteArray} {KM NM : PM} {s : St} {g : Lg} {m : Nat} {k : Int} {K : Act → World → Prop} {Q : Exit → Act → World → Prop}
    (T8 : Aside0 (LK w w8 gd gl bk bk bn N s g KM KM NM)) (HOK : Aside0 (s.ok m)) (HM : Aside0 (m ≤ 100000000)) (HC : Aside0 (Clean s g KM NM)) (HL : Aside0 (g.fr.length ≤ L ∧ L < 60000 ∧ N ≤ 1000000)) (HN : Aside0 (nn < 6)) (HT : Aside0 (t.size = 1024))
    (HK : Aside0 (∀ (v11 v12 v13 v14 v59 v60 v61 v62 v63 v64 v65 v66 v67 v68 v69 v70 v71 v72 v73 v74 v75 v76 v77 v78 v79 v80 v81 v82 v83 v84 v85 v86 v87 v88 v89 v90 v91 v92 v93 v94 v95 v96 v97 : Value) (wx : World), (∃ (e' : Int) (bk' bm' bn' : Nat) (s' : St) (g' : Lg) (KM' MM' NM' : PM), v11 = .int .i64 e' ∧ v12 = .map (some bk') ∧ v13 = .map (some bm') ∧ v14 = .map (some bn') ∧ Aside0 (LK w wx gd gl bk' bm' bn' (N + 1) s' g' KM' MM' NM') ∧ Aside0 (s'.ok (m + 65310)) ∧ ((e' = 0 ∧ Aside0 (Clean s' g' KM' NM') ∧ g'.fr.length ≤ L + 1) ∨ (e' ≠ 0 ∧ Aside0 (s'.d = true) ∧ Aside0 (∀ keep, Fin (s'.crashed keep) KM' ∨ Fin (s'.crashed keep) MM')))) → K ⟨#[c0, c1, c2, c3, c4, c5, c6, c7, c8, pv gd, pv gl, v11, v12, v13, v14, c15, c16, .int .i64 (nn : Int), .string t, c19, c20, c21, c22, c23, c24, c25, c26, c27, c28, c29, c30, c31, c32, c33, c34, c35, c36, c37, c38, c39, c40, c41, c42, c43, c44, c45, c46, c47, c48, c49, c50, c51, c52, c53, c54, c55, c56, c57, .int .i64 k, v59, v60, v61, v62, v63, v64, v65, v66, v67, v68, v69, v70, v71, v72, v73, v74, v75, v76, v77, v78, v79, v80, v81, v82, v83, v84, v85, v86, v87, v88, v89, v90, v91, v92, v93, v94, v95, v96, v97, c98, c99, c100, c101, c102, c103, c104, c105, c106, c107, c108, c109, c110, c111, c112, c113, c114, c115, c116, c117, c118, c119, c120, c121, c122, c123, c124, c125, c126, c127, c128, c129, c130, c131, c132, c133, c134, c135, c136, c137, c138, c139, c140, c141, c142, c143, c144, c145], []⟩ wx)) (hk : k = 3 ∨ k = 4 ∨ k = 5) :
    Code.wp Try.prog sw13 (Exit.then K Q) ⟨#[c0, c1, c2, c3, c4, c5, c6, c7, c8, pv gd, pv gl, .int .i64 0, .map (some bk), .map (some bk), .map (some bn), c15, c16, .int .i64 (nn : Int), .string t, c19, c20, c21, c22, c23, c24, c25, c26, c27, c28, c29, c30, c31, c32, c33, c34, c35, c36, c37, c38, c39, c40, c41, c42, c43, c44, c45, c46, c47, c48, c49, c50, c51, c52, c53, c54, c55, c56, c57, .int .i64 k, c59, c60, c61, c62, c63, c64, c65, c66, c67, c68, c69, c70, c71, c72, c73, c74, c75, c76, c77, c78, c79, c80, c81, c82, c83, c84, c85, c86, c87, c88, c89, c90, c91, c92, c93, c94, c95, c96, c97, c98, c99, c100, c101, c102, c103, c104, c105, c106, c107, c108, c109, c110, c111, c112, c113, c114, c115, c116, c117, c118, c119, c120, c121, c122, c123, c124, c125, c126, c127, c128, c129, c130, c131, c132, c133, c134, c135, c136, c137, c138, c139, c140, c141, c142, c143, c144, c145], []⟩ w8 := by
  conv => arg 2; whnf
  have HA := HC.out.commit nn HN.out t HT.out (by have := HL.out; omega)
  have HOK1 := Aside0.mk (Lg.commit_ok HOK.out g nn t 6)
  obtain ⟨c, hc⟩ : ∃ c, c = (Lg.commit s g (nn : Int) t 6).c := ⟨_, rfl⟩
  have HCC := Aside0.mk hc
  rw [← hc] at HA
  clear hc
  rcases HA with ⟨rfl, ha⟩ | ⟨h0, ha⟩
  · have HA := Aside0.mk ha
    clear ha
    rcases hk with rfl | rfl | rfl
    all_goals
      go_wp2_with (first
        | (have T9_ := T9.out; clear T9_; go_at_call 69; (with_reducible refine (LK.commit T9.out HOK.out (by have := HM.out; omega) HC.out.good.ok nn t 6 (by have := HN.out; omega)).mono ?_); rw [← HCC.out]; rintro e w10 ⟨rfl, h⟩; have T10 := Aside0.mk h; clear h)
        | (go_at_call 68; (with_reducible refine (LK.with_ T8.out HL.out.2.2 nn HN.out t HT.out).mono ?_); rintro e w9 ⟨b', rfl, h⟩; have T9 := Aside0.mk (LK.perhaps h); clear h))
      refine HK.out _ _ _ _ _ _ _ _ _ _ _ _ _ _ _ _ _ _ _ _ _ _ _ _ _ _ _ _ _ _ _ _ _ _ _ _ _ _ _ _ _ _ _ _ ?_
      refine ⟨_, b', b', b', _, _, withM NM nn t, withM NM nn t, withM NM nn t, rfl, rfl, rfl, rfl, ⟨LK.keep T10.out⟩, ⟨HOK1.out.mono (by omega)⟩, ?_⟩
      exact .inl ⟨rfl, ⟨HA.out.1⟩, by rw [HA.out.2]; have := HL.out; omega⟩
  · have HA := Aside0.mk ha
    have H0 := Aside0.mk h0
    have e1_ : (c == 0) = false := beq_eq_false_iff_ne.2 h0
    clear ha h0
    rcases hk with rfl | rfl | rfl
    all_goals
      go_wp2_with (first
        | (have T9_ := T9.out; clear T9_; go_at_call 69; (with_reducible refine (LK.commit T9.out HOK.out (by have := HM.out; omega) HC.out.good.ok nn t 6 (by have := HN.out; omega)).mono ?_); rw [← HCC.out]; rintro e w10 ⟨rfl, h⟩; have T10 := Aside0.mk h; clear h)
        | (go_at_call 68; (with_reducible refine (LK.with_ T8.out HL.out.2.2 nn HN.out t HT.out).mono ?_); rintro e w9 ⟨b', rfl, h⟩; have T9 := Aside0.mk (LK.perhaps h); clear h))
      refine HK.out _ _ _ _ _ _ _ _ _ _ _ _ _ _ _ _ _ _ _ _ _ _ _ _ _ _ _ _ _ _ _ _ _ _ _ _ _ _ _ _ _ _ _ _ ?_
      refine ⟨_, bk, b', b', _, _, KM, withM NM nn t, withM NM nn t, rfl, rfl, rfl, rfl, T10, ⟨HOK1.out.mono (by omega)⟩, ?_⟩
      exact .inr ⟨H0.out, ⟨HA.out.1⟩, ⟨HA.out.2⟩⟩
end Go.Proofs.Ythaoaaboempajaa.Log
namespace Go.Proofs.Ythaoaaboempajaa.Log
open Go.RowKit Go.Maps Go.Proofs.Ythaoaaboempajaa.QLogRuns Go.Proofs.Ythaoaaboempajaa.QDiskRuns Go.Proofs.Ythaoaaboempajaa.Disk Go.Proofs.YthaoaaboempajaaW.PrintWords Go.Proofs.YthaoaaboempajaaW.PrintLast Go.Proofs.YthaoaaboempajaaW.PrintMore Go.Proofs.YthaoaaboempajaaX
set_option linter.unusedVariables false
set_option linter.unusedSimpArgs false
set_option maxHeartbeats 16000000 in
set_option maxRecDepth 100000 in
theorem kstepB {c0 c1 c2 c3 c4 c5 c6 c7 c8 c15 c16 c19 c20 c21 c22 c23 c24 c25 c26 c27 c28 c29 c30 c31 c32 c33 c34 c35 c36 c37 c38 c39 c40 c41 c42 c43 c44 c45 c46 c47 c48 c49 c50 c51 c52 c53 c54 c55 c56 c57 c59 c60 c61 c62 c63 c64 c65 c66 c67 c68 c69 c70 c71 c72 c73 c74 c75 c76 c77 c78 c79 c80 c81 c82 c83 c84 c85 c86 c87 c88 c89 c90 c91 c92 c93 c94 c95 c96 c97 c98 c99 c100 c101 c102 c103 c104 c105 c106 c107 c108 c109 c110 c111 c112 c113 c114 c115 c116 c117 c118 c119 c120 c121 c122 c123 c124 c125 c126 c127 c128 c129 c130 c131 c132 c133 c134 c135 c136 c137 c138 c139 c140 c141 c142 c143 c144 c145 : Value} {w w8 : World} {gd gl bk bn nn N L : Nat} {t : ByteArray} {KM NM : PM} {s : St} {g : Lg} {m : Nat} {k : Int} {K : Act → World → Prop} {Q : Exit → Act → World → Prop}
    (T8 : Aside0 (LK w w8 gd gl bk bk bn N s g KM KM NM)) (HOK : Aside0 (s.ok m)) (HM : Aside0 (m ≤ 100000000)) (HC : Aside0 (Clean s g KM NM)) (HL : Aside0 (g.fr.length ≤ L ∧ L < 60000 ∧ N ≤ 1000000)) (HN : Aside0 (nn < 6)) (HT : Aside0 (t.size = 1024))
    (HK : Aside0 (∀ (v11 v12 v13 v14 v59 v60 v61 v62 v63 v64 v65 v66 v67 v68 v69 v70 v71 v72 v73 v74 v75 v76 v77 v78 v79 v80 v81 v82 v83 v84 v85 v86 v87 v88 v89 v90 v91 v92 v93 v94 v95 v96 v97 : Value) (wx : World), (∃ (e' : Int) (bk' bm' bn' : Nat) (s' : St) (g' : Lg) (KM' MM' NM' : PM), v11 = .int .i64 e' ∧ v12 = .map (some bk') ∧ v13 = .map (some bm') ∧ v14 = .map (some bn') ∧ Aside0 (LK w wx gd gl bk' bm' bn' (N + 1) s' g' KM' MM' NM') ∧ Aside0 (s'.ok (m + 65310)) ∧ ((e' = 0 ∧ Aside0 (Clean s' g' KM' NM') ∧ g'.fr.length ≤ L + 1) ∨ (e' ≠ 0 ∧ Aside0 (s'.d = true) ∧ Aside0 (∀ keep, Fin (s'.crashed keep) KM' ∨ Fin (s'.crashed keep) MM')))) → K ⟨#[c0, c1, c2, c3, c4, c5, c6, c7, c8, pv gd, pv gl, v11, v12, v13, v14, c15, c16, .int .i64 (nn : Int), .string t, c19, c20, c21, c22, c23, c24, c25, c26, c27, c28, c29, c30, c31, c32, c33, c34, c35, c36, c37, c38, c39, c40, c41, c42, c43, c44, c45, c46, c47, c48, c49, c50, c51, c52, c53, c54, c55, c56, c57, .int .i64 k, v59, v60, v61, v62, v63, v64, v65, v66, v67, v68, v69, v70, v71, v72, v73, v74, v75, v76, v77, v78, v79, v80, v81, v82, v83, v84, v85, v86, v87, v88, v89, v90, v91, v92, v93, v94, v95, v96, v97, c98, c99, c100, c101, c102, c103, c104, c105, c106, c107, c108, c109, c110, c111, c112, c113, c114, c115, c116, c117, c118, c119, c120, c121, c122, c123, c124, c125, c126, c127, c128, c129, c130, c131, c132, c133, c134, c135, c136, c137, c138, c139, c140, c141, c142, c143, c144, c145], []⟩ wx)) (hk : k = 6) :
    Code.wp Try.prog sw13 (Exit.then K Q) ⟨#[c0, c1, c2, c3, c4, c5, c6, c7, c8, pv gd, pv gl, .int .i64 0, .map (some bk), .map (some bk), .map (some bn), c15, c16, .int .i64 (nn : Int), .string t, c19, c20, c21, c22, c23, c24, c25, c26, c27, c28, c29, c30, c31, c32, c33, c34, c35, c36, c37, c38, c39, c40, c41, c42, c43, c44, c45, c46, c47, c48, c49, c50, c51, c52, c53, c54, c55, c56, c57, .int .i64 k, c59, c60, c61, c62, c63, c64, c65, c66, c67, c68, c69, c70, c71, c72, c73, c74, c75, c76, c77, c78, c79, c80, c81, c82, c83, c84, c85, c86, c87, c88, c89, c90, c91, c92, c93, c94, c95, c96, c97, c98, c99, c100, c101, c102, c103, c104, c105, c106, c107, c108, c109, c110, c111, c112, c113, c114, c115, c116, c117, c118, c119, c120, c121, c122, c123, c124, c125, c126, c127, c128, c129, c130, c131, c132, c133, c134, c135, c136, c137, c138, c139, c140, c141, c142, c143, c144, c145], []⟩ w8 := by
  conv => arg 2; whnf
  subst hk
  go_wp2_with (go_at_call 70; (with_reducible refine (LK.back T8.out HC.out.good.ok).mono ?_); rintro e w9 ⟨rfl, h⟩; have T9 := Aside0.mk h; clear h)
  refine HK.out _ _ _ _ _ _ _ _ _ _ _ _ _ _ _ _ _ _ _ _ _ _ _ _ _ _ _ _ _ _ _ _ _ _ _ _ _ _ _ _ _ _ _ _ ?_
  refine ⟨0, bk, bk, bk, s, g.back, KM, KM, KM, rfl, rfl, rfl, rfl, ⟨LK.more (LK.anew T9.out)⟩, ⟨HOK.out.mono (by omega)⟩, ?_⟩
  exact .inl ⟨rfl, ⟨HC.out.back⟩, by have := HL.out; have h2 : g.back.fr.length ≤ g.fr.length := (List.length_take_le' _ _); omega⟩
set_option maxHeartbeats 16000000 in
set_option maxRecDepth 100000 in
theorem kstepP {c0 c1 c2 c3 c4 c5 c6 c7 c8 c15 c16 c19 c20 c21 c22 c23 c24 c25 c26 c27 c28 c29 c30 c31 c32 c33 c34 c35 c36 c37 c38 c39 c40 c41 c42 c43 c44 c45 c46 c47 c48 c49 c50 c51 c52 c53 c54 c55 c56 c57 c59 c60 c61 c62 c63 c64 c65 c66 c67 c68 c69 c70 c71 c72 c73 c74 c75 c76 c77 c78 c79 c80 c81 c82 c83 c84 c85 c86 c87 c88 c89 c90 c91 c92 c93 c94 c95 c96 c97 c98 c99 c100 c101 c102 c103 c104 c105 c106 c107 c108 c109 c110 c111 c112 c113 c114 c115 c116 c117 c118 c119 c120 c121 c122 c123 c124 c125 c126 c127 c128 c129 c130 c131 c132 c133 c134 c135 c136 c137 c138 c139 c140 c141 c142 c143 c144 c145 : Value} {w w8 : World} {gd gl bk bn nn N L : Nat} {t : ByteArray} {KM NM : PM} {s : St} {g : Lg} {m : Nat} {k : Int} {K : Act → World → Prop} {Q : Exit → Act → World → Prop}
    (T8 : Aside0 (LK w w8 gd gl bk bk bn N s g KM KM NM)) (HOK : Aside0 (s.ok m)) (HM : Aside0 (m ≤ 100000000)) (HC : Aside0 (Clean s g KM NM)) (HL : Aside0 (g.fr.length ≤ L ∧ L < 60000 ∧ N ≤ 1000000)) (HN : Aside0 (nn < 6)) (HT : Aside0 (t.size = 1024))
    (HK : Aside0 (∀ (v11 v12 v13 v14 v59 v60 v61 v62 v63 v64 v65 v66 v67 v68 v69 v70 v71 v72 v73 v74 v75 v76 v77 v78 v79 v80 v81 v82 v83 v84 v85 v86 v87 v88 v89 v90 v91 v92 v93 v94 v95 v96 v97 : Value) (wx : World), (∃ (e' : Int) (bk' bm' bn' : Nat) (s' : St) (g' : Lg) (KM' MM' NM' : PM), v11 = .int .i64 e' ∧ v12 = .map (some bk') ∧ v13 = .map (some bm') ∧ v14 = .map (some bn') ∧ Aside0 (LK w wx gd gl bk' bm' bn' (N + 1) s' g' KM' MM' NM') ∧ Aside0 (s'.ok (m + 65310)) ∧ ((e' = 0 ∧ Aside0 (Clean s' g' KM' NM') ∧ g'.fr.length ≤ L + 1) ∨ (e' ≠ 0 ∧ Aside0 (s'.d = true) ∧ Aside0 (∀ keep, Fin (s'.crashed keep) KM' ∨ Fin (s'.crashed keep) MM')))) → K ⟨#[c0, c1, c2, c3, c4, c5, c6, c7, c8, pv gd, pv gl, v11, v12, v13, v14, c15, c16, .int .i64 (nn : Int), .string t, c19, c20, c21, c22, c23, c24, c25, c26, c27, c28, c29, c30, c31, c32, c33, c34, c35, c36, c37, c38, c39, c40, c41, c42, c43, c44, c45, c46, c47, c48, c49, c50, c51, c52, c53, c54, c55, c56, c57, .int .i64 k, v59, v60, v61, v62, v63, v64, v65, v66, v67, v68, v69, v70, v71, v72, v73, v74, v75, v76, v77, v78, v79, v80, v81, v82, v83, v84, v85, v86, v87, v88, v89, v90, v91, v92, v93, v94, v95, v96, v97, c98, c99, c100, c101, c102, c103, c104, c105, c106, c107, c108, c109, c110, c111, c112, c113, c114, c115, c116, c117, c118, c119, c120, c121, c122, c123, c124, c125, c126, c127, c128, c129, c130, c131, c132, c133, c134, c135, c136, c137, c138, c139, c140, c141, c142, c143, c144, c145], []⟩ wx)) (hk : k = 7) :
    Code.wp Try.prog sw13 (Exit.then K Q) ⟨#[c0, c1, c2, c3, c4, c5, c6, c7, c8, pv gd, pv gl, .int .i64 0, .map (some bk), .map (some bk), .map (some bn), c15, c16, .int .i64 (nn : Int), .string t, c19, c20, c21, c22, c23, c24, c25, c26, c27, c28, c29, c30, c31, c32, c33, c34, c35, c36, c37, c38, c39, c40, c41, c42, c43, c44, c45, c46, c47, c48, c49, c50, c51, c52, c53, c54, c55, c56, c57, .int .i64 k, c59, c60, c61, c62, c63, c64, c65, c66, c67, c68, c69, c70, c71, c72, c73, c74, c75, c76, c77, c78, c79, c80, c81, c82, c83, c84, c85, c86, c87, c88, c89, c90, c91, c92, c93, c94, c95, c96, c97, c98, c99, c100, c101, c102, c103, c104, c105, c106, c107, c108, c109, c110, c111, c112, c113, c114, c115, c116, c117, c118, c119, c120, c121, c122, c123, c124, c125, c126, c127, c128, c129, c130, c131, c132, c133, c134, c135, c136, c137, c138, c139, c140, c141, c142, c143, c144, c145], []⟩ w8 := by
  conv => arg 2; whnf
  subst hk
  have HA := HC.out.checkpoint HOK.out
  have HOK1 := Aside0.mk (HC.out.good.checkpoint HOK.out HC.out.d).2
  obtain ⟨c, hc⟩ : ∃ c, c = (Lg.checkpoint s g).c := ⟨_, rfl⟩
  have HCC := Aside0.mk hc
  rw [← hc] at HA
  clear hc
  rcases HA with ⟨h0, ha⟩ | ⟨h0, ha⟩
  · have HA := Aside0.mk ha
    clear ha
    rcases h0 with rfl | rfl
    all_goals
      go_wp2_with (go_at_call 71; (with_reducible refine (LK.checkpoint T8.out HOK.out (by have := HM.out; omega) HC.out.good.ok).mono ?_); rw [← HCC.out]; rintro e w9 ⟨rfl, h⟩; have T9 := Aside0.mk h; clear h)
      refine HK.out _ _ _ _ _ _ _ _ _ _ _ _ _ _ _ _ _ _ _ _ _ _ _ _ _ _ _ _ _ _ _ _ _ _ _ _ _ _ _ _ _ _ _ _ ?_
      refine ⟨0, bk, bk, bn, _, _, KM, KM, NM, rfl, rfl, rfl, rfl, ⟨LK.more T9.out⟩, ⟨HOK1.out.mono (by omega)⟩, ?_⟩
      exact .inl ⟨rfl, ⟨HA.out.1⟩, by have := HA.out.2; have := HL.out; omega⟩
  · have HA := Aside0.mk ha
    have H0 := Aside0.mk h0
    have e1_ : (c == 11) = false := beq_eq_false_iff_ne.2 h0.2
    clear ha h0
    go_wp2_with (go_at_call 71; (with_reducible refine (LK.checkpoint T8.out HOK.out (by have := HM.out; omega) HC.out.good.ok).mono ?_); rw [← HCC.out]; rintro e w9 ⟨rfl, h⟩; have T9 := Aside0.mk h; clear h)
    refine HK.out _ _ _ _ _ _ _ _ _ _ _ _ _ _ _ _ _ _ _ _ _ _ _ _ _ _ _ _ _ _ _ _ _ _ _ _ _ _ _ _ _ _ _ _ ?_
    refine ⟨_, bk, bk, bn, _, _, KM, KM, NM, rfl, rfl, rfl, rfl, ⟨LK.more T9.out⟩, ⟨HOK1.out.mono (by omega)⟩, ?_⟩
    exact .inr ⟨H0.out.1, ⟨HA.out.1⟩, ⟨fun keep => .inl (HA.out.2 keep)⟩⟩
set_option maxHeartbeats 16000000 in
set_option maxRecDepth 100000 in
theorem kstep {c0 c1 c2 c3 c4 c5 c6 c7 c8 c15 c16 c19 c20 c21 c22 c23 c24 c25 c26 c27 c28 c29 c30 c31 c32 c33 c34 c35 c36 c37 c38 c39 c40 c41 c42 c43 c44 c45 c46 c47 c48 c49 c50 c51 c52 c53 c54 c55 c56 c57 c59 c60 c61 c62 c63 c64 c65 c66 c67 c68 c69 c70 c71 c72 c73 c74 c75 c76 c77 c78 c79 c80 c81 c82 c83 c84 c85 c86 c87 c88 c89 c90 c91 c92 c93 c94 c95 c96 c97 c98 c99 c100 c101 c102 c103 c104 c105 c106 c107 c108 c109 c110 c111 c112 c113 c114 c115 c116 c117 c118 c119 c120 c121 c122 c123 c124 c125 c126 c127 c128 c129 c130 c131 c132 c133 c134 c135 c136 c137 c138 c139 c140 c141 c142 c143 c144 c145 : Value} {w w8 : World} {gd gl bk bn nn N L : Nat} {t : ByteArray} {KM NM : PM} {s : St} {g : Lg} {m : Nat} {k : Int} {K : Act → World → Prop} {Q : Exit → Act → World → Prop}
    (T8 : Aside0 (LK w w8 gd gl bk bk bn N s g KM KM NM)) (HOK : Aside0 (s.ok m)) (HM : Aside0 (m ≤ 100000000)) (HC : Aside0 (Clean s g KM NM)) (HL : Aside0 (g.fr.length ≤ L ∧ L < 60000 ∧ N ≤ 1000000)) (HN : Aside0 (nn < 6)) (HT : Aside0 (t.size = 1024))
    (HK : Aside0 (∀ (v11 v12 v13 v14 v59 v60 v61 v62 v63 v64 v65 v66 v67 v68 v69 v70 v71 v72 v73 v74 v75 v76 v77 v78 v79 v80 v81 v82 v83 v84 v85 v86 v87 v88 v89 v90 v91 v92 v93 v94 v95 v96 v97 : Value) (wx : World), (∃ (e' : Int) (bk' bm' bn' : Nat) (s' : St) (g' : Lg) (KM' MM' NM' : PM), v11 = .int .i64 e' ∧ v12 = .map (some bk') ∧ v13 = .map (some bm') ∧ v14 = .map (some bn') ∧ Aside0 (LK w wx gd gl bk' bm' bn' (N + 1) s' g' KM' MM' NM') ∧ Aside0 (s'.ok (m + 65310)) ∧ ((e' = 0 ∧ Aside0 (Clean s' g' KM' NM') ∧ g'.fr.length ≤ L + 1) ∨ (e' ≠ 0 ∧ Aside0 (s'.d = true) ∧ Aside0 (∀ keep, Fin (s'.crashed keep) KM' ∨ Fin (s'.crashed keep) MM')))) → K ⟨#[c0, c1, c2, c3, c4, c5, c6, c7, c8, pv gd, pv gl, v11, v12, v13, v14, c15, c16, .int .i64 (nn : Int), .string t, c19, c20, c21, c22, c23, c24, c25, c26, c27, c28, c29, c30, c31, c32, c33, c34, c35, c36, c37, c38, c39, c40, c41, c42, c43, c44, c45, c46, c47, c48, c49, c50, c51, c52, c53, c54, c55, c56, c57, .int .i64 k, v59, v60, v61, v62, v63, v64, v65, v66, v67, v68, v69, v70, v71, v72, v73, v74, v75, v76, v77, v78, v79, v80, v81, v82, v83, v84, v85, v86, v87, v88, v89, v90, v91, v92, v93, v94, v95, v96, v97, c98, c99, c100, c101, c102, c103, c104, c105, c106, c107, c108, c109, c110, c111, c112, c113, c114, c115, c116, c117, c118, c119, c120, c121, c122, c123, c124, c125, c126, c127, c128, c129, c130, c131, c132, c133, c134, c135, c136, c137, c138, c139, c140, c141, c142, c143, c144, c145], []⟩ wx)) (hk : 0 ≤ k ∧ k < 8) :
    Code.wp Try.prog sw13 (Exit.then K Q) ⟨#[c0, c1, c2, c3, c4, c5, c6, c7, c8, pv gd, pv gl, .int .i64 0, .map (some bk), .map (some bk), .map (some bn), c15, c16, .int .i64 (nn : Int), .string t, c19, c20, c21, c22, c23, c24, c25, c26, c27, c28, c29, c30, c31, c32, c33, c34, c35, c36, c37, c38, c39, c40, c41, c42, c43, c44, c45, c46, c47, c48, c49, c50, c51, c52, c53, c54, c55, c56, c57, .int .i64 k, c59, c60, c61, c62, c63, c64, c65, c66, c67, c68, c69, c70, c71, c72, c73, c74, c75, c76, c77, c78, c79, c80, c81, c82, c83, c84, c85, c86, c87, c88, c89, c90, c91, c92, c93, c94, c95, c96, c97, c98, c99, c100, c101, c102, c103, c104, c105, c106, c107, c108, c109, c110, c111, c112, c113, c114, c115, c116, c117, c118, c119, c120, c121, c122, c123, c124, c125, c126, c127, c128, c129, c130, c131, c132, c133, c134, c135, c136, c137, c138, c139, c140, c141, c142, c143, c144, c145], []⟩ w8 := by
  rcases (show (k = 0 ∨ k = 1 ∨ k = 2) ∨ (k = 3 ∨ k = 4 ∨ k = 5) ∨ k = 6 ∨ k = 7 by omega) with h | h | h | h
  · exact kstepA T8 HOK HM HC HL HN HT HK h
  · exact kstepC T8 HOK HM HC HL HN HT HK h
  · exact kstepB T8 HOK HM HC HL HN HT HK h
  · exact kstepP T8 HOK HM HC HL HN HT HK h
end Go.Proofs.Ythaoaaboempajaa.Log
namespace Go.Proofs.Ythaoaaboempajaa.Log
open Go.RowKit Go.Maps Go.Proofs.Ythaoaaboempajaa.QLogRuns Go.Proofs.Ythaoaaboempajaa.QDiskRuns Go.Proofs.Ythaoaaboempajaa.Disk Go.Proofs.YthaoaaboempajaaW.PrintWords Go.Proofs.YthaoaaboempajaaW.PrintLast Go.Proofs.YthaoaaboempajaaW.PrintMore Go.Proofs.YthaoaaboempajaaX
set_option linter.unusedVariables false
set_option linter.unusedSimpArgs false
def put6 (W : World) (gb : Nat) (x0 x1 x2 x3 x4 x5 : Value) : World := (((((W.setCell ⟨gb, 0, none⟩ x0).setCell ⟨gb, 1, none⟩ x1).setCell ⟨gb, 2, none⟩ x2).setCell ⟨gb, 3, none⟩ x3).setCell ⟨gb, 4, none⟩ x4).setCell ⟨gb, 5, none⟩ x5
theorem put6_blk {W : World} {gb t : Nat} {y0 y1 y2 y3 y4 y5 x0 x1 x2 x3 x4 x5 : Value} (h : W.heap[gb]? = some (.cells #[y0, y1, y2, y3, y4, y5] t (0, 0))) : (put6 W gb x0 x1 x2 x3 x4 x5).heap[gb]? = some (.cells #[x0, x1, x2, x3, x4, x5] t (0, 0)) := by
  have h0 : (W.setCell ⟨gb, 0, none⟩ x0).heap[gb]? = some (.cells #[x0, y1, y2, y3, y4, y5] t (0, 0)) := blk_put h 0 x0 rfl
  have h1 : ((W.setCell ⟨gb, 0, none⟩ x0).setCell ⟨gb, 1, none⟩ x1).heap[gb]? = some (.cells #[x0, x1, y2, y3, y4, y5] t (0, 0)) := blk_put h0 1 x1 rfl
  have h2 : (((W.setCell ⟨gb, 0, none⟩ x0).setCell ⟨gb, 1, none⟩ x1).setCell ⟨gb, 2, none⟩ x2).heap[gb]? = some (.cells #[x0, x1, x2, y3, y4, y5] t (0, 0)) := blk_put h1 2 x2 rfl
  have h3 : ((((W.setCell ⟨gb, 0, none⟩ x0).setCell ⟨gb, 1, none⟩ x1).setCell ⟨gb, 2, none⟩ x2).setCell ⟨gb, 3, none⟩ x3).heap[gb]? = some (.cells #[x0, x1, x2, x3, y4, y5] t (0, 0)) := blk_put h2 3 x3 rfl
  have h4 : (((((W.setCell ⟨gb, 0, none⟩ x0).setCell ⟨gb, 1, none⟩ x1).setCell ⟨gb, 2, none⟩ x2).setCell ⟨gb, 3, none⟩ x3).setCell ⟨gb, 4, none⟩ x4).heap[gb]? = some (.cells #[x0, x1, x2, x3, x4, y5] t (0, 0)) := blk_put h3 4 x4 rfl
  have h5 : ((((((W.setCell ⟨gb, 0, none⟩ x0).setCell ⟨gb, 1, none⟩ x1).setCell ⟨gb, 2, none⟩ x2).setCell ⟨gb, 3, none⟩ x3).setCell ⟨gb, 4, none⟩ x4).setCell ⟨gb, 5, none⟩ x5).heap[gb]? = some (.cells #[x0, x1, x2, x3, x4, x5] t (0, 0)) := blk_put h4 5 x5 rfl
  exact h5
theorem put6_below {B gb : Nat} {w W : World} {x0 x1 x2 x3 x4 x5 : Value} (h : Below B w W) (hg : B ≤ gb) : Below B w (put6 W gb x0 x1 x2 x3 x4 x5) :=
  (((((h.setCell (p := ⟨gb, 0, none⟩) hg x0).setCell (p := ⟨gb, 1, none⟩) hg x1).setCell (p := ⟨gb, 2, none⟩) hg x2).setCell (p := ⟨gb, 3, none⟩) hg x3).setCell (p := ⟨gb, 4, none⟩) hg x4).setCell (p := ⟨gb, 5, none⟩) hg x5
theorem MapO.none_ (w : World) : ∃ o, (w.alloc (.map #[] 0)).heap[w.heap.size]? = some o ∧ MapO w.heap.size o 0 (fun _ => none) :=
  MapO.of (w := w.alloc (.map #[] 0)) ⟨.map [], World.ownsMap_made _ _ _ _, fun x hx => ⟨rfl, fun _ => rfl⟩⟩
theorem LK.start {w w1 : World} {gd gl : Nat} {s : St} {g : Lg} (h : KS w w1 gd gl s g []) :
    LK w ((w1.alloc (.map #[] 0)).alloc (.map #[] 0)) gd gl w1.heap.size w1.heap.size (w1.heap.size + 1) 0 s g (fun _ => none) (fun _ => none) (fun _ => none) := by
  have hs : (w1.alloc (.map #[] 0)).heap.size = w1.heap.size + 1 := Array.size_push _
  obtain ⟨o1, h1, m1⟩ := MapO.none_ w1
  obtain ⟨o2, h2, m2⟩ := MapO.none_ (w1.alloc (.map #[] 0))
  have a := Bd.more (x := (w1.heap.size, o1)) h (fpP _ _ _ _ _) (fpE _) ((Below.refl _ w1).alloc (Nat.le_refl _) _) h1 (Nat.le_refl _)
  rw [hs] at h2 m2
  have b := Bd.more (x := (w1.heap.size + 1, o2)) a (fpP _ _ _ _ _) (fpE _) ((Below.refl _ _).alloc (Nat.le_refl _) _) h2 (Nat.le_of_eq hs)
  exact ⟨o1, o1, o2, _, _, _, Bd.mono b (fun x hx => by simp only [List.mem_cons, List.not_mem_nil, or_false] at hx ⊢; rcases hx with e | e | e <;> simp [e]), ⟨m1, fun _ _ => rfl⟩, ⟨m1, fun _ _ => rfl⟩, m2, fun _ _ => rfl⟩
set_option maxHeartbeats 16000000 in
set_option maxRecDepth 100000 in
theorem LogKept.calls (A : Option Addr) (c : Nat) (l : List QLogKept.S90) (fails again : Int) (A3 : Option Addr) (c3_ : Nat) (keep : List Int) (w : World) (hr : Kd.C QLogKept.k90 w A l.length l) (hc : l.length ≤ c) (hl : l.length ≤ 4611686018427387904)
    (hx : ∀ x ∈ l, (-9223372036854775808 ≤ x.f0 ∧ x.f0 < 9223372036854775808) ∧ (-9223372036854775808 ≤ x.f3 ∧ x.f3 < 9223372036854775808)) (hf : -9223372036854775808 ≤ fails ∧ fails < 9223372036854775808) (ha : -9223372036854775808 ≤ again ∧ again < 9223372036854775808)
    (h3 : (Kd.int .i64).C w A3 keep.length keep) (hkl : keep.length ≤ 17592186043904) :
    Calls Try.prog 13 #[.slice A l.length c, .int .i64 fails, .int .i64 again, .slice A3 keep.length c3_] w fun e w' => e = .returned (.bool true) ∧ Below w.heap.size w w' := by
  have HR := Aside0.mk hr
  have HCC := Aside0.mk hc
  have HL := Aside0.mk hl
  have HXX := Aside0.mk hx
  have HFS := Aside0.mk hf
  have HAG := Aside0.mk ha
  have G3 := Aside0.mk h3
  have HKL := Aside0.mk hkl
  clear hr hc hl hx hf ha h3 hkl
  obtain ⟨g0, ho, hclean, hlen, hok0⟩ := new_clean
  have HO0 := Aside0.mk ho
  have HC0 := Aside0.mk hclean
  have HLE0 := Aside0.mk hlen
  have HOK0 := Aside0.mk hok0
  clear ho hclean hlen hok0
  have hmm : ∀ (w : World), (Instr.makeMap 87 none).run Try.prog w = .ok (.map (some w.heap.size)) (w.alloc (.map #[] 0)) := by
    intro w
    simp [Instr.makeMap, underlying, Try.underlying87]
  go_enter Try.func13, Try.ntmps13
  go_upto_region 8 with (first
    | (go_at_call 58; (refine (new.calls w _ (Below.refl _ w)).mono ?_); rintro e1 w1 ⟨gd, rfl, hgd, hD, hb⟩; have D1 := Aside0.mk (show KD w w1 gd St.new [] from Bd.start hb ⟨_, hD⟩ (fpD _ _ _)); clear hgd hD hb)
    | (go_at_call 63; (refine (KD.open_ D1.out St.new_ok (by decide) HO0.out).mono ?_); rintro e3 w3 ⟨gl, rfl, h3⟩; have T3 := Aside0.mk h3; clear h3)
    | (go_at_call 39; (with_reducible refine (QLogKept.picked fails 60 _ HFS.out (by decide)).mono ?_); rintro e w4 ⟨r, rfl, hr, hd⟩; have T4 := Aside0.mk (KS.below T3.out hd.below); have HRR := Aside0.mk (show r < 9223372036854775808 by omega); clear hr hd)
    | (go_at_call 64; (with_reducible refine (KS.fail T4.out r).mono ?_); rintro e w5 ⟨rfl, h⟩; have T5 := Aside0.mk h; clear h))
  clear D1 T3 T4
  have HC5 := Aside0.mk (HC0.out.failed r)
  have HOK5 := Aside0.mk (HOK0.out.failed HRR.out)
  obtain ⟨s0, hs0⟩ : ∃ s0, s0 = (openP St.new).2.1.failed r := ⟨_, rfl⟩
  rw [← hs0] at T5 HC5 HOK5
  clear hs0 HO0 HC0 HOK0 HRR
  go_upto_region 11 with (fail)
  have T6 := Aside0.mk (LK.start T5.out)
  clear T5
  generalize (w5.alloc (.map #[] 0)).alloc (.map #[] 0) = w6 at T6 ⊢
  generalize w5.heap.size + 1 = b1 at T6 ⊢
  generalize w5.heap.size = b0 at T6 ⊢
  go_wp2_with (go_at_call 65; (refine (QLogKept.short.calls A l.length c _ HL.out HCC.out).mono ?_); rintro e6 w7 ⟨rfl, rfl⟩)
  have HN := Aside0.mk (show min l.length 250 ≤ l.length ∧ min l.length 250 ≤ 250 by omega)
  generalize min l.length 250 = n at HN ⊢
  go_loopw [11, 12, 13, 14, 45] (fun v11 v12 v13 v14 v45 wr => ∃ (bk bn j : Nat) (s : St) (g : Lg) (KM NM : PM), j ≤ n ∧ v11 = .int .i64 0 ∧ v12 = .map (some bk) ∧ v13 = .map (some bk) ∧ v14 = .map (some bn) ∧ v45 = .int .i64 (j : Int) ∧ Aside0 (LK w wr gd gl bk bk bn j s g KM KM NM) ∧ Aside0 (Clean s g KM NM) ∧ Aside0 (g.fr.length ≤ j) ∧ Aside0 (s.ok (4 + 65400 * j))) (fun _ _ _ _ v45 _ => n - (intOf v45).toNat)
  case atStart => exact ⟨b0, b1, 0, s0, g0, _, _, Nat.zero_le _, rfl, rfl, rfl, rfl, rfl, T6, HC5, ⟨Nat.le_of_eq HLE0.out⟩, ⟨HOK5.out⟩⟩
  case round =>
    clear T6 HC5 HLE0 HOK5
    rename_i Qx Kx hKx
    have HKX : Aside0 (∀ (c0 c1 c4 c5 c6 c7 c8 c10 c14 c15 c16 c17 c18 c19 c20 c21 c22 c23 c24 c25 c26 c27 c28 c29 c30 c31 c32 c33 c34 c35 c36 c37 c38 c39 c40 c41 c42 c43 c44 c45 c46 c47 c48 c49 c50 c51 c52 c53 c54 c55 c56 c57 c58 c59 c60 c61 c62 c63 c64 c65 c66 c67 c68 c69 c70 c71 c72 c73 c74 c75 c76 c77 c78 c79 c80 c81 c82 c83 c84 c85 c86 c87 c88 c89 c90 c91 c92 c93 c94 c95 c96 c97 c98 c99 c100 c101 c102 c103 c104 c105 c106 c107 c108 c109 c110 c111 c112 c113 c114 c115 c116 c117 c118 c119 c120 c121 c122 c123 c124 c125 c126 c127 c128 c129 c130 c131 c132 c133 c134 c135 c136 c137 c138 c139 c140 c141 c142 c143 c144 c145 : Value) (wx : World) (e : Int) (gl bk bm bn N : Nat) (s : St) (g : Lg) (KM MM NM : PM), LK w wx gd gl bk bm bn N s g KM MM NM → s.ok 100000000 → (e = 0 ∨ (e ≠ 0 ∧ s.d = true)) → (Fin (s.crashed keep) KM ∨ Fin (s.crashed keep) MM) → Kx ⟨#[c0, c1, .int .i64 again, .slice A3 keep.length c3_, c4, c5, c6, c7, c8, pv gd, c10, .int .i64 e, .map (some bk), .map (some bm), c14, c15, c16, c17, c18, c19, c20, c21, c22, c23, c24, c25, c26, c27, c28, c29, c30, c31, c32, c33, c34, c35, c36, c37, c38, c39, c40, c41, c42, c43, c44, c45, c46, c47, c48, c49, c50, c51, c52, c53, c54, c55, c56, c57, c58, c59, c60, c61, c62, c63, c64, c65, c66, c67, c68, c69, c70, c71, c72, c73, c74, c75, c76, c77, c78, c79, c80, c81, c82, c83, c84, c85, c86, c87, c88, c89, c90, c91, c92, c93, c94, c95, c96, c97, c98, c99, c100, c101, c102, c103, c104, c105, c106, c107, c108, c109, c110, c111, c112, c113, c114, c115, c116, c117, c118, c119, c120, c121, c122, c123, c124, c125, c126, c127, c128, c129, c130, c131, c132, c133, c134, c135, c136, c137, c138, c139, c140, c141, c142, c143, c144, c145], []⟩ wx) := ⟨by
      intro c0 c1 c4 c5 c6 c7 c8 c10 c14 c15 c16 c17 c18 c19 c20 c21 c22 c23 c24 c25 c26 c27 c28 c29 c30 c31 c32 c33 c34 c35 c36 c37 c38 c39 c40 c41 c42 c43 c44 c45 c46 c47 c48 c49 c50 c51 c52 c53 c54 c55 c56 c57 c58 c59 c60 c61 c62 c63 c64 c65 c66 c67 c68 c69 c70 c71 c72 c73 c74 c75 c76 c77 c78 c79 c80 c81 c82 c83 c84 c85 c86 c87 c88 c89 c90 c91 c92 c93 c94 c95 c96 c97 c98 c99 c100 c101 c102 c103 c104 c105 c106 c107 c108 c109 c110 c111 c112 c113 c114 c115 c116 c117 c118 c119 c120 c121 c122 c123 c124 c125 c126 c127 c128 c129 c130 c131 c132 c133 c134 c135 c136 c137 c138 c139 c140 c141 c142 c143 c144 c145 wx e gl bk bm bn N s g KM MM NM hk hok he hf
      obtain ⟨ok, om, on, fk, fm, fn, hs, ⟨m1, s1⟩, ⟨m2, s2⟩, -⟩ := hk
      have T8 := Aside0.mk (Bd.mono (KS.disk hs) (bx' := [(bk, ok), (bm, om)]) (fun x hx => by simp only [List.mem_cons, List.not_mem_nil, or_false] at hx ⊢; rcases hx with e | e <;> simp [e]))
      rcases hf with hf | hf
      · exact hKx _ _ (tail13 T8 ⟨hok⟩ ⟨by decide⟩ he ⟨hf⟩ ⟨fun x g h => .inl (h fk s1)⟩ ⟨m1⟩ ⟨m2⟩ HKL G3 HAG)
      · exact hKx _ _ (tail13 T8 ⟨hok⟩ ⟨by decide⟩ he ⟨hf⟩ ⟨fun x g h => .inr (h fm s2)⟩ ⟨m1⟩ ⟨m2⟩ HKL G3 HAG)⟩
    clear hKx
    obtain ⟨bk, bn, j, s, g, KM, NM, hj, rfl, rfl, rfl, rfl, rfl, T, HC, HG, HOK⟩ := hrel
    obtain ⟨hn1, hn2⟩ := HN.out
    by_cases hlt : j < n
    · have t_ : decide ((j : Int) < (n : Int)) = true := decide_eq_true (by omega)
      have HM := Aside0.mk (show 4 + 65400 * j ≤ 100000000 by omega)
      have HM2 := Aside0.mk (show 4 + 65400 * j + 65310 ≤ 100000000 by omega)
      have HJ := Aside0.mk (show g.fr.length ≤ j ∧ j < 60000 ∧ j ≤ 1000000 from ⟨HG.out, by omega, by omega⟩)
      have HLT := Aside0.mk hlt
      obtain ⟨ad, hA, f0, f1, f2, f3, f4, f5⟩ := QLogKept.at_T90 HR.out (j : Int) (by omega) (by omega)
      rw [Int.toNat_natCast] at f0 f1 f2 f3 f4 f5
      have HXJ := Aside0.mk (HXX.out (QLogKept.rd_T90 l (j : Int)) (by unfold QLogKept.rd_T90; rw [Int.toNat_natCast, List.getD_eq_getElem?_getD, List.getElem?_eq_getElem (show j < l.length by omega), Option.getD_some]; exact List.getElem_mem _))
      generalize QLogKept.rd_T90 l (j : Int) = x at f0 f1 f2 f3 f4 f5 HXJ
      obtain ⟨k, F, At, N, S, U⟩ := x
      simp only at f0 f1 f2 f3 f4 f5 HXJ
      subst hA
      obtain ⟨ok, om, on, fk, fm, fn, hs, hmaps⟩ := T.out
      have HMAPS := Aside0.mk hmaps
      have T := Aside0.mk hs
      clear hmaps hs
      replace f0 := (T.out.hB.cell (World.block_lt_of_cell? w _ f0)).trans f0
      replace f1 := (T.out.hB.cell (World.block_lt_of_cell? w _ f1)).trans f1
      replace f2 := (T.out.hB.cell (World.block_lt_of_cell? w _ f2)).trans f2
      replace f3 := (T.out.hB.cell (World.block_lt_of_cell? w _ f3)).trans f3
      replace f4 := (T.out.hB.cell (World.block_lt_of_cell? w _ f4)).trans f4
      replace f5 := (T.out.hB.cell (World.block_lt_of_cell? w _ f5)).trans f5
      clear hn1
      go_upto_region 14 with ((with_reducible refine gate_dst (N := 16) rfl ?_); refine box_event ?hg (N := 16) ?hd (cs := #[.int .i64 0, .int .i64 0, .int .i64 0, .int .i64 0, .string ⟨#[]⟩, .string ⟨#[]⟩]) (t := 90) ?hr ?_; (case hd => rfl); (case hg => rfl); (case hr => first | (go_simp; done) | (go_simp; rfl)); intro gb hgb w7 hbox hb; have HXb := Aside0.mk hbox; have HBb := Aside0.mk hb; have HGb := Aside0.mk hgb; have b0 : w7.cell? ⟨gb, 0, none⟩ = some (.int .i64 0) := (blk_cell hbox 0).trans rfl; have y0 := blk_frozen hbox 0; have b1 : w7.cell? ⟨gb, 1, none⟩ = some (.int .i64 0) := (blk_cell hbox 1).trans rfl; have y1 := blk_frozen hbox 1; have b2 : w7.cell? ⟨gb, 2, none⟩ = some (.int .i64 0) := (blk_cell hbox 2).trans rfl; have y2 := blk_frozen hbox 2; have b3 : w7.cell? ⟨gb, 3, none⟩ = some (.int .i64 0) := (blk_cell hbox 3).trans rfl; have y3 := blk_frozen hbox 3; have b4 : w7.cell? ⟨gb, 4, none⟩ = some (.string ⟨#[]⟩) := (blk_cell hbox 4).trans rfl; have y4 := blk_frozen hbox 4; have b5 : w7.cell? ⟨gb, 5, none⟩ = some (.string ⟨#[]⟩) := (blk_cell hbox 5).trans rfl; have y5 := blk_frozen hbox 5; clear hgb hbox hb)
      have hput : ((((((w7.setCell ⟨gb, 0, none⟩ (.int .i64 k)).setCell ⟨gb, 1, none⟩ (.int .i64 F)).setCell ⟨gb, 2, none⟩ (.int .i64 At)).setCell ⟨gb, 3, none⟩ (.int .i64 N)).setCell ⟨gb, 4, none⟩ (.string S)).setCell ⟨gb, 5, none⟩ (.string U)) = put6 w7 gb (.int .i64 k) (.int .i64 F) (.int .i64 At) (.int .i64 N) (.string S) (.string U) := rfl
      rw [hput]
      clear hput
      have HX8 := Aside0.mk (put6_blk (x0 := (.int .i64 k)) (x1 := (.int .i64 F)) (x2 := (.int .i64 At)) (x3 := (.int .i64 N)) (x4 := (.string S)) (x5 := (.string U)) HXb.out)
      have HB8 := Aside0.mk (put6_below (x0 := (.int .i64 k)) (x1 := (.int .i64 F)) (x2 := (.int .i64 At)) (x3 := (.int .i64 N)) (x4 := (.string S)) (x5 := (.string U)) HBb.out (Nat.le_of_eq HGb.out.symm))
      clear b0 y0 b1 y1 b2 y2 b3 y3 b4 y4 b5 y5 f0 f1 f2 f3 f4 f5 HXb HBb
      generalize put6 w7 gb (.int .i64 k) (.int .i64 F) (.int .i64 At) (.int .i64 N) (.string S) (.string U) = w8 at HX8 HB8 ⊢
      have T8 := Aside0.mk (Bd.more (x := (gb, _)) T.out (fpP _ _ _ _ _) (fpE _) HB8.out HX8.out (Nat.le_of_eq HGb.out.symm))
      obtain ⟨cs, hcs⟩ : ∃ cs : Array Value, cs = #[.int .i64 k, .int .i64 F, .int .i64 At, .int .i64 N, .string S, .string U] := ⟨_, rfl⟩
      rw [← hcs] at T8
      have held : ∀ {w1 : World}, KS w w1 gd gl s g ((gb, .cells cs 90 (0, 0)) :: [(bk, ok), (bk, om), (bn, on)]) → w1.cell? ⟨gb, 0, none⟩ = some (.int .i64 k) ∧ w1.cell? ⟨gb, 2, none⟩ = some (.int .i64 At) ∧ w1.cell? ⟨gb, 3, none⟩ = some (.int .i64 N) := fun h => by
        subst hcs
        exact ⟨(Bd.box h gb _ _ List.mem_cons_self 0).trans rfl, (Bd.box h gb _ _ List.mem_cons_self 2).trans rfl, (Bd.box h gb _ _ List.mem_cons_self 3).trans rfl⟩
      have HELD := Aside0.mk @held
      clear held hcs HX8 HB8 HGb T
      go_region_held3 (fun w' => w'.cell? ⟨gb, 0, none⟩ = some (.int .i64 k) ∧ w'.cell? ⟨gb, 2, none⟩ = some (.int .i64 At) ∧ w'.cell? ⟨gb, 3, none⟩ = some (.int .i64 N)) (first | exact HELD.out T10.out | exact HELD.out T9.out | exact HELD.out (KS.drew T8.out))
        (first
          | (have T9_ := Aside0.mk T9.out; go_at_call 66; (with_reducible refine (QLogKept.sheeted At _).mono ?_); rintro e w10 ⟨t, rfl, ht, hb⟩; have T10 := Aside0.mk (KS.below T9.out hb); have HT := Aside0.mk ht; clear hb ht)
          | (have T9 := Aside0.mk (KS.drew T8.out); go_at_call 39; (with_reducible refine (QLogKept.picked N 6 _ HXJ.out.2 (by decide)).mono ?_); rintro e w9 ⟨r6, rfl, hr, hd⟩; replace T9 := Aside0.mk (KS.below (KS.drew T8.out) hd.below); obtain ⟨nn, rfl⟩ := Int.eq_ofNat_of_zero_le hr.1; have HNN := Aside0.mk (show nn < 6 by omega); clear hr hd))
      obtain ⟨q0, -, -⟩ := HELD.out T10.out
      go_upto_block 2 with (go_at_call 39; (with_reducible refine (QLogKept.picked k 8 _ HXJ.out.1 (by decide)).mono ?_); rintro e w11 ⟨k8, rfl, hr, hd⟩; have T11 := Aside0.mk (KS.below T10.out hd.below); have HK8 := Aside0.mk hr; clear hr hd)
      have TL := Aside0.mk (show LK w w11 gd gl bk bk bn j s g KM KM NM from ⟨ok, om, on, fk, fm, fn, Bd.mono T11.out (fun x hx => List.mem_cons_of_mem _ hx), HMAPS.out⟩)
      rename_i Kz hKz
      refine kstep (m := 4 + 65400 * j) TL HOK HM HC HJ HNN HT (Aside0.mk (fun v11 v12 v13 v14 v59 v60 v61 v62 v63 v64 v65 v66 v67 v68 v69 v70 v71 v72 v73 v74 v75 v76 v77 v78 v79 v80 v81 v82 v83 v84 v85 v86 v87 v88 v89 v90 v91 v92 v93 v94 v95 v96 v97 wx hcut => ?_)) HK8.out
      obtain ⟨e', bk', bm', bn', s', g', KM', MM', NM', rfl, rfl, rfl, rfl, T', HOK', hres⟩ := hcut
      clear TL T8 T9 T10 T11 HOK HC HG HMAPS
      refine hKz _ _ ?_
      rcases hres with ⟨rfl, HC', hl'⟩ | ⟨he', HD', HF'⟩
      · have HL' := Aside0.mk hl'
        clear hl'
        go_wp2_with (fail)
        go_roundw
        case rel => ((repeat apply Exists.intro); exact ⟨⟨bk', bn', j + 1, s', g', KM', NM', HLT.out, rfl, rfl, rfl, rfl, by go_num, ⟨LK.surely T'.out⟩, HC', HL', ⟨HOK'.out.mono (by omega)⟩⟩, rfl⟩)
        case measure => simp [intOf]; have := HLT.out; omega
      · have e1_ : (e' != 0) = true := bne_iff_ne.2 he'
        have HE' := Aside0.mk he'
        clear he'
        go_wp2_with (fail)
        exact HKX.out _ _ _ _ _ _ _ _ _ _ _ _ _ _ _ _ _ _ _ _ _ _ _ _ _ _ _ _ _ _ _ _ _ _ _ _ _ _ _ _ _ _ _ _ _ _ _ _ _ _ _ _ _ _ _ _ _ _ _ _ _ _ _ _ _ _ _ _ _ _ _ _ _ _ _ _ _ _ _ _ _ _ _ _ _ _ _ _ _ _ _ _ _ _ _ _ _ _ _ _ _ _ _ _ _ _ _ _ _ _ _ _ _ _ _ _ _ _ _ _ _ _ _ _ _ _ _ _ _ _ _ _ _ _ _ _ _ _ _ _ wx e' gl bk' bm' bn' (j + 1) s' g' KM' MM' NM' T'.out (HOK'.out.mono HM2.out) (.inr ⟨HE'.out, HD'.out⟩) (HF'.out keep)
    · have t_ : decide ((j : Int) < (n : Int)) = false := decide_eq_false (by omega)
      have HM := Aside0.mk (show 4 + 65400 * j ≤ 100000000 by omega)
      go_wp2_with (fail)
      exact HKX.out _ _ _ _ _ _ _ _ _ _ _ _ _ _ _ _ _ _ _ _ _ _ _ _ _ _ _ _ _ _ _ _ _ _ _ _ _ _ _ _ _ _ _ _ _ _ _ _ _ _ _ _ _ _ _ _ _ _ _ _ _ _ _ _ _ _ _ _ _ _ _ _ _ _ _ _ _ _ _ _ _ _ _ _ _ _ _ _ _ _ _ _ _ _ _ _ _ _ _ _ _ _ _ _ _ _ _ _ _ _ _ _ _ _ _ _ _ _ _ _ _ _ _ _ _ _ _ _ _ _ _ _ _ _ _ _ _ _ _ _ wr 0 gl bk bk bn j s g KM KM NM T.out (HOK.out.mono HM.out) (.inl rfl) (.inl (HC.out.st.crash keep))
end Go.Proofs.Ythaoaaboempajaa.Log
