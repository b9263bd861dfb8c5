/- One step on both disks, walked: it answers true. Conditions: both disks are in the same state, in order; what is kept is read, below 2^44 numbers. -/
import Derived.Test.YthaoaaboempajaaDisk16
namespace Go.Proofs.Ythaoaaboempajaa.Disk
open Go.RowKit Go.Proofs.YthaoaaboempajaaW.PrintWords Go.Proofs.YthaoaaboempajaaW.PrintLast Go.Proofs.YthaoaaboempajaaW.PrintMore Go.Proofs.YthaoaaboempajaaX Go.Proofs.Ythaoaaboempajaa.QDiskRuns
set_option linter.unusedVariables false
set_option linter.unusedSimpArgs false
def acells (k F A N : Int) (S T : ByteArray) (vk vc : Value) : Array Value := #[.int .i64 k, .int .i64 F, .int .i64 A, .int .i64 N, .string S, .string T, vk, vc]
/-- Both disks, and the step's box. -/
structure LB (w0 : World) (gd gr gb : Nat) (k F A N : Int) (S T : ByteArray) (vk vc : Value) (s1 s2 : St) (m : Nat) (w : World) : Prop where
  lt : LT w0 w gd gr (fun k => k = gb) s1 s2 m
  bx : w.heap[gb]? = some (.cells (acells k F A N S T vk vc) 77 (0, 0))
section
variable {w0 w w' : World} {gd gr gb m n : Nat} {k F A N : Int} {S T : ByteArray} {vk vc : Value} {s1 s2 s1' s2' : St}
theorem LB.below (h : LB w0 gd gr gb k F A N S T vk vc s1 s2 m w) (hb : Below w.heap.size w w') : LB w0 gd gr gb k F A N S T vk vc s1 s2 m w' := ⟨h.lt.below hb, blk_below h.bx hb⟩
theorem LB.drew (h : LB w0 gd gr gb k F A N S T vk vc s1 s2 m w) : LB w0 gd gr gb k F A N S T vk vc s1 s2 m w.drew := h.below (below_drew (Below.refl _ w))
theorem LB.to (h : LB w0 gd gr gb k F A N S T vk vc s1 s2 m w) (ht : LT w0 w' gd gr (fun k => k = gb) s1' s2' n) (hs : Same (fun k => k = gb) w w') : LB w0 gd gr gb k F A N S T vk vc s1' s2' n w' := ⟨ht, (hs gb rfl).trans h.bx⟩
theorem LB.held (h : LB w0 gd gr gb k F A N S T vk vc s1 s2 m w) : w.cell? ⟨gb, 1, none⟩ = some (.int .i64 F) ∧ w.cell? ⟨gb, 2, none⟩ = some (.int .i64 A) ∧ w.cell? ⟨gb, 3, none⟩ = some (.int .i64 N) ∧ w.cell? ⟨gb, 4, none⟩ = some (.string S) ∧ w.cell? ⟨gb, 6, none⟩ = some vk :=
  ⟨(blk_cell h.bx 1).trans rfl, (blk_cell h.bx 2).trans rfl, (blk_cell h.bx 3).trans rfl, (blk_cell h.bx 4).trans rfl, (blk_cell h.bx 6).trans rfl⟩
end
theorem same_l0 (l : List Int) (hl : l.length ≤ 17592186043904) : ∀ (d j : Nat), j + d = l.length → ∀ k, d < k → relstorelaw_sameInts.l0 k l l (l.length : Int) (j : Int) = some true
  | 0, j, h, k, hk => by
    obtain ⟨k, rfl⟩ : ∃ n, k = n + 1 := ⟨k - 1, by omega⟩
    unfold relstorelaw_sameInts.l0
    rw [if_neg (by omega)]
  | d + 1, j, h, k, hk => by
    obtain ⟨k, rfl⟩ : ∃ n, k = n + 1 := ⟨k - 1, by omega⟩
    unfold relstorelaw_sameInts.l0
    rw [if_pos (by omega), if_pos (by omega), if_pos (by omega), if_pos (by omega), if_pos rfl, show wrap64 ((j : Int) + 1) = ((j + 1 : Nat) : Int) by unfold wrap64; omega]
    exact same_l0 l hl d (j + 1) (by omega) k (by omega)
theorem sameInts_is (l : List Int) (hl : l.length ≤ 17592186043904) : relstorelaw_sameInts.f (l.length + 1) l l = some true := by
  unfold relstorelaw_sameInts.f
  rw [if_pos rfl]
  exact same_l0 l hl l.length 0 (by omega) _ (by omega)
theorem info3 : (Try.prog.info? 3).map (fun i => (i.zero, i.size, i.bytes)) = some (some (.int .i64 0), 1, 8) := by kernel_rfl
set_option maxHeartbeats 8000000 in
set_option maxRecDepth 100000 in
theorem disks.calls1 {w0 w : World} {gd gr : Nat} {s : St} {m : Nat} (k F A N : Int) (S T : ByteArray) (Ak : Option Addr) (ck : Nat) (keep : List Int) (vc : Value) (h : LT w0 w gd gr (fun _ => False) s s m) (hm : m ≤ 100000)
    (hN : N < 9223372036854775808) (hk : (Kd.int .i64).C w0 Ak keep.length keep) (hkc : keep.length ≤ ck) (hkl : keep.length ≤ 17592186043904) :
    Calls Try.prog 61 #[.pointer (some ⟨gd, 0, none⟩), .pointer (some ⟨gr, 0, none⟩), .agg #[.int .i64 1, .int .i64 F, .int .i64 A, .int .i64 N, .string S, .string T, .slice Ak keep.length ck, vc]] w fun e w' => e = .returned (.bool true) ∧ ∃ s', LT w0 w' gd gr (fun _ => False) s' s' (m + 2) := by
  have H := Aside0.mk h
  have HM := Aside0.mk (show m ≤ 1000000 by omega)
  have HM1 := Aside0.mk (show m + 1 ≤ 1000000 by omega)
  have HN := Aside0.mk hN
  have HKP := Aside0.mk hk
  have HKC := Aside0.mk hkc
  have HKL := Aside0.mk hkl
  clear h hm hN hk hkc hkl
  go_enter Try.func61, Try.ntmps61
  go_upto_region 1 with ((with_reducible refine gate_dst (N := 5) rfl ?_); refine box_event ?hg (N := 5) ?hd (cs := acells 1 F A N S T (.slice Ak keep.length ck) vc) (t := 77) ?hr ?_; (case hd => rfl); (case hg => rfl); (case hr => first | (go_simp; done) | (go_simp; rfl)); intro gb hgb w1 hbox hb; have T0 := Aside0.mk (LB.mk (H.out.more hb (Y := fun k => k = gb) (fun k hk => ⟨.inr (by rw [hk, hgb]; exact Nat.le_refl _), by rw [hk]; exact blk_lt hbox⟩)) hbox); clear hgb hbox hb)
  have k0 : w1.cell? ⟨gb, 0, none⟩ = some (.int .i64 1) := (blk_cell T0.out.bx 0).trans rfl
  have k6 : w1.cell? ⟨gb, 6, none⟩ = some (.slice Ak keep.length ck) := T0.out.held.2.2.2.2
  obtain ⟨k1, k2, k3, k4, -⟩ := T0.out.held
  go_upto_region 4 with (go_at_call 123; (refine (T0.out.lt.read F A N).mono ?_); rintro e2 w2 ⟨rfl, hd2⟩; have T1 := Aside0.mk (T0.out.below hd2.below); clear hd2)
  clear k0 k1 k2 k3 k4 k6
  obtain ⟨k1, k2, k3, k4, k6⟩ := T1.out.held
  go_upto_region 5 with (go_at_call 124; (refine (T1.out.lt.rread HM.out F A N).mono ?_); rintro e3 w3 ⟨rfl, hb3⟩; have T2 := Aside0.mk (T1.out.below hb3); clear hb3)
  clear k1 k2 k3 k4 k6
  go_wp2_with (go_at_call 15; (refine (relstorelaw_num.calls (s.read F A N).2 (s.read F A N).2 _ rfl).mono ?_); rintro e4 w4 ⟨rfl, hb4⟩; have T3 := Aside0.mk (T2.out.below hb4.below); clear hb4)
  go_ret
  exact ⟨rfl, s, (T3.out.lt.less (fun _ h => h.elim)).up (Nat.le_add_right m 2)⟩
set_option maxHeartbeats 8000000 in
set_option maxRecDepth 100000 in
theorem disks.calls2 {w0 w : World} {gd gr : Nat} {s : St} {m : Nat} (k F A N : Int) (S T : ByteArray) (Ak : Option Addr) (ck : Nat) (keep : List Int) (vc : Value) (h : LT w0 w gd gr (fun _ => False) s s m) (hm : m ≤ 100000)
    (hN : N < 9223372036854775808) (hk : (Kd.int .i64).C w0 Ak keep.length keep) (hkc : keep.length ≤ ck) (hkl : keep.length ≤ 17592186043904) :
    Calls Try.prog 61 #[.pointer (some ⟨gd, 0, none⟩), .pointer (some ⟨gr, 0, none⟩), .agg #[.int .i64 2, .int .i64 F, .int .i64 A, .int .i64 N, .string S, .string T, .slice Ak keep.length ck, vc]] w fun e w' => e = .returned (.bool true) ∧ ∃ s', LT w0 w' gd gr (fun _ => False) s' s' (m + 2) := by
  have H := Aside0.mk h
  have HM := Aside0.mk (show m ≤ 1000000 by omega)
  have HM1 := Aside0.mk (show m + 1 ≤ 1000000 by omega)
  have HN := Aside0.mk hN
  have HKP := Aside0.mk hk
  have HKC := Aside0.mk hkc
  have HKL := Aside0.mk hkl
  clear h hm hN hk hkc hkl
  go_enter Try.func61, Try.ntmps61
  go_upto_region 1 with ((with_reducible refine gate_dst (N := 5) rfl ?_); refine box_event ?hg (N := 5) ?hd (cs := acells 2 F A N S T (.slice Ak keep.length ck) vc) (t := 77) ?hr ?_; (case hd => rfl); (case hg => rfl); (case hr => first | (go_simp; done) | (go_simp; rfl)); intro gb hgb w1 hbox hb; have T0 := Aside0.mk (LB.mk (H.out.more hb (Y := fun k => k = gb) (fun k hk => ⟨.inr (by rw [hk, hgb]; exact Nat.le_refl _), by rw [hk]; exact blk_lt hbox⟩)) hbox); clear hgb hbox hb)
  have k0 : w1.cell? ⟨gb, 0, none⟩ = some (.int .i64 2) := (blk_cell T0.out.bx 0).trans rfl
  have k6 : w1.cell? ⟨gb, 6, none⟩ = some (.slice Ak keep.length ck) := T0.out.held.2.2.2.2
  obtain ⟨k1, k2, k3, k4, -⟩ := T0.out.held
  go_upto_region 7 with (fail)
  clear k0 k1 k2 k3 k4 k6
  go_region_held3 (fun w' => w'.cell? ⟨gb, 1, none⟩ = some (.int .i64 F) ∧ w'.cell? ⟨gb, 2, none⟩ = some (.int .i64 A) ∧ w'.cell? ⟨gb, 3, none⟩ = some (.int .i64 N) ∧ w'.cell? ⟨gb, 4, none⟩ = some (.string S) ∧ w'.cell? ⟨gb, 6, none⟩ = some (.slice Ak keep.length ck)) (first | exact T3.out.held | exact T2.out.held | exact T1.out.held | exact T0.out.drew.held)
    (first
    | (have T3 := Aside0.mk T2.out; go_at_call 126; (refine (T2.out.lt.rwrite HM1.out F A S).mono ?_); rintro e4 w4 ⟨rfl, ht, hs, hz⟩; replace T3 := Aside0.mk (T2.out.to (ht.up (Nat.le_refl _)) hs); clear ht hs hz)
    | (have T2 := Aside0.mk T1.out; go_at_call 15; (refine (relstorelaw_num.calls (s.write F A S).1 (s.write F A S).1 _ rfl).mono ?_); rintro e3 w3 ⟨rfl, hb3⟩; replace T2 := Aside0.mk (T1.out.below hb3.below); clear hb3)
    | (have T1 := Aside0.mk T0.out.drew; go_at_call 125; (refine (T0.out.drew.lt.write HM.out F A S).mono ?_); rintro e2 w2 ⟨rfl, ht, hs, hz⟩; replace T1 := Aside0.mk (T0.out.drew.to ht hs); clear ht hs hz))
  go_wp2_with (fail)
  go_ret
  exact ⟨rfl, _, T3.out.lt.less (fun _ h => h.elim)⟩
set_option maxHeartbeats 8000000 in
set_option maxRecDepth 100000 in
theorem disks.calls3 {w0 w : World} {gd gr : Nat} {s : St} {m : Nat} (k F A N : Int) (S T : ByteArray) (Ak : Option Addr) (ck : Nat) (keep : List Int) (vc : Value) (h : LT w0 w gd gr (fun _ => False) s s m) (hm : m ≤ 100000)
    (hN : N < 9223372036854775808) (hk : (Kd.int .i64).C w0 Ak keep.length keep) (hkc : keep.length ≤ ck) (hkl : keep.length ≤ 17592186043904) :
    Calls Try.prog 61 #[.pointer (some ⟨gd, 0, none⟩), .pointer (some ⟨gr, 0, none⟩), .agg #[.int .i64 3, .int .i64 F, .int .i64 A, .int .i64 N, .string S, .string T, .slice Ak keep.length ck, vc]] w fun e w' => e = .returned (.bool true) ∧ ∃ s', LT w0 w' gd gr (fun _ => False) s' s' (m + 2) := by
  have H := Aside0.mk h
  have HM := Aside0.mk (show m ≤ 1000000 by omega)
  have HM1 := Aside0.mk (show m + 1 ≤ 1000000 by omega)
  have HN := Aside0.mk hN
  have HKP := Aside0.mk hk
  have HKC := Aside0.mk hkc
  have HKL := Aside0.mk hkl
  clear h hm hN hk hkc hkl
  go_enter Try.func61, Try.ntmps61
  go_upto_region 1 with ((with_reducible refine gate_dst (N := 5) rfl ?_); refine box_event ?hg (N := 5) ?hd (cs := acells 3 F A N S T (.slice Ak keep.length ck) vc) (t := 77) ?hr ?_; (case hd => rfl); (case hg => rfl); (case hr => first | (go_simp; done) | (go_simp; rfl)); intro gb hgb w1 hbox hb; have T0 := Aside0.mk (LB.mk (H.out.more hb (Y := fun k => k = gb) (fun k hk => ⟨.inr (by rw [hk, hgb]; exact Nat.le_refl _), by rw [hk]; exact blk_lt hbox⟩)) hbox); clear hgb hbox hb)
  have k0 : w1.cell? ⟨gb, 0, none⟩ = some (.int .i64 3) := (blk_cell T0.out.bx 0).trans rfl
  have k6 : w1.cell? ⟨gb, 6, none⟩ = some (.slice Ak keep.length ck) := T0.out.held.2.2.2.2
  obtain ⟨k1, k2, k3, k4, -⟩ := T0.out.held
  go_upto_region 9 with (fail)
  clear k0 k1 k2 k3 k4 k6
  go_region_held3 (fun w' => w'.cell? ⟨gb, 1, none⟩ = some (.int .i64 F) ∧ w'.cell? ⟨gb, 2, none⟩ = some (.int .i64 A) ∧ w'.cell? ⟨gb, 3, none⟩ = some (.int .i64 N) ∧ w'.cell? ⟨gb, 4, none⟩ = some (.string S) ∧ w'.cell? ⟨gb, 6, none⟩ = some (.slice Ak keep.length ck)) (first | exact T3.out.held | exact T2.out.held | exact T1.out.held | exact T0.out.drew.held)
    (first
    | (have T3 := Aside0.mk T2.out; go_at_call 128; (refine (T2.out.lt.rcut HM1.out F A).mono ?_); rintro e4 w4 ⟨rfl, ht, hs, hz⟩; replace T3 := Aside0.mk (T2.out.to (ht.up (Nat.le_refl _)) hs); clear ht hs hz)
    | (have T2 := Aside0.mk T1.out; go_at_call 15; (refine (relstorelaw_num.calls (s.cutTo F A).1 (s.cutTo F A).1 _ rfl).mono ?_); rintro e3 w3 ⟨rfl, hb3⟩; replace T2 := Aside0.mk (T1.out.below hb3.below); clear hb3)
    | (have T1 := Aside0.mk T0.out.drew; go_at_call 127; (refine (T0.out.drew.lt.cut HM.out F A).mono ?_); rintro e2 w2 ⟨rfl, ht, hs, hz⟩; replace T1 := Aside0.mk (T0.out.drew.to ht hs); clear ht hs hz))
  go_wp2_with (fail)
  go_ret
  exact ⟨rfl, _, T3.out.lt.less (fun _ h => h.elim)⟩
set_option maxHeartbeats 8000000 in
set_option maxRecDepth 100000 in
theorem disks.calls4 {w0 w : World} {gd gr : Nat} {s : St} {m : Nat} (k F A N : Int) (S T : ByteArray) (Ak : Option Addr) (ck : Nat) (keep : List Int) (vc : Value) (h : LT w0 w gd gr (fun _ => False) s s m) (hm : m ≤ 100000)
    (hN : N < 9223372036854775808) (hk : (Kd.int .i64).C w0 Ak keep.length keep) (hkc : keep.length ≤ ck) (hkl : keep.length ≤ 17592186043904) :
    Calls Try.prog 61 #[.pointer (some ⟨gd, 0, none⟩), .pointer (some ⟨gr, 0, none⟩), .agg #[.int .i64 4, .int .i64 F, .int .i64 A, .int .i64 N, .string S, .string T, .slice Ak keep.length ck, vc]] w fun e w' => e = .returned (.bool true) ∧ ∃ s', LT w0 w' gd gr (fun _ => False) s' s' (m + 2) := by
  have H := Aside0.mk h
  have HM := Aside0.mk (show m ≤ 1000000 by omega)
  have HM1 := Aside0.mk (show m + 1 ≤ 1000000 by omega)
  have HN := Aside0.mk hN
  have HKP := Aside0.mk hk
  have HKC := Aside0.mk hkc
  have HKL := Aside0.mk hkl
  clear h hm hN hk hkc hkl
  go_enter Try.func61, Try.ntmps61
  go_upto_region 1 with ((with_reducible refine gate_dst (N := 5) rfl ?_); refine box_event ?hg (N := 5) ?hd (cs := acells 4 F A N S T (.slice Ak keep.length ck) vc) (t := 77) ?hr ?_; (case hd => rfl); (case hg => rfl); (case hr => first | (go_simp; done) | (go_simp; rfl)); intro gb hgb w1 hbox hb; have T0 := Aside0.mk (LB.mk (H.out.more hb (Y := fun k => k = gb) (fun k hk => ⟨.inr (by rw [hk, hgb]; exact Nat.le_refl _), by rw [hk]; exact blk_lt hbox⟩)) hbox); clear hgb hbox hb)
  have k0 : w1.cell? ⟨gb, 0, none⟩ = some (.int .i64 4) := (blk_cell T0.out.bx 0).trans rfl
  have k6 : w1.cell? ⟨gb, 6, none⟩ = some (.slice Ak keep.length ck) := T0.out.held.2.2.2.2
  obtain ⟨k1, k2, k3, k4, -⟩ := T0.out.held
  go_upto_region 12 with (go_at_call 129; (refine (T0.out.lt.size F).mono ?_); rintro e2 w2 ⟨rfl, hd2⟩; have T1 := Aside0.mk (T0.out.below hd2.below); clear hd2)
  clear k0 k1 k2 k3 k4 k6
  obtain ⟨k1, k2, k3, k4, k6⟩ := T1.out.held
  go_upto_region 13 with (go_at_call 130; (refine (T1.out.lt.rsize HM.out F).mono ?_); rintro e3 w3 ⟨rfl, hb3⟩; have T2 := Aside0.mk (T1.out.below hb3); clear hb3)
  clear k1 k2 k3 k4 k6
  go_wp2_with (go_at_call 15; (refine (relstorelaw_num.calls (s.size F).2 (s.size F).2 _ rfl).mono ?_); rintro e4 w4 ⟨rfl, hb4⟩; have T3 := Aside0.mk (T2.out.below hb4.below); clear hb4)
  go_ret
  exact ⟨rfl, s, (T3.out.lt.less (fun _ h => h.elim)).up (Nat.le_add_right m 2)⟩
set_option maxHeartbeats 8000000 in
set_option maxRecDepth 100000 in
theorem disks.calls5 {w0 w : World} {gd gr : Nat} {s : St} {m : Nat} (k F A N : Int) (S T : ByteArray) (Ak : Option Addr) (ck : Nat) (keep : List Int) (vc : Value) (h : LT w0 w gd gr (fun _ => False) s s m) (hm : m ≤ 100000)
    (hN : N < 9223372036854775808) (hk : (Kd.int .i64).C w0 Ak keep.length keep) (hkc : keep.length ≤ ck) (hkl : keep.length ≤ 17592186043904) :
    Calls Try.prog 61 #[.pointer (some ⟨gd, 0, none⟩), .pointer (some ⟨gr, 0, none⟩), .agg #[.int .i64 5, .int .i64 F, .int .i64 A, .int .i64 N, .string S, .string T, .slice Ak keep.length ck, vc]] w fun e w' => e = .returned (.bool true) ∧ ∃ s', LT w0 w' gd gr (fun _ => False) s' s' (m + 2) := by
  have H := Aside0.mk h
  have HM := Aside0.mk (show m ≤ 1000000 by omega)
  have HM1 := Aside0.mk (show m + 1 ≤ 1000000 by omega)
  have HN := Aside0.mk hN
  have HKP := Aside0.mk hk
  have HKC := Aside0.mk hkc
  have HKL := Aside0.mk hkl
  clear h hm hN hk hkc hkl
  go_enter Try.func61, Try.ntmps61
  go_upto_region 1 with ((with_reducible refine gate_dst (N := 5) rfl ?_); refine box_event ?hg (N := 5) ?hd (cs := acells 5 F A N S T (.slice Ak keep.length ck) vc) (t := 77) ?hr ?_; (case hd => rfl); (case hg => rfl); (case hr => first | (go_simp; done) | (go_simp; rfl)); intro gb hgb w1 hbox hb; have T0 := Aside0.mk (LB.mk (H.out.more hb (Y := fun k => k = gb) (fun k hk => ⟨.inr (by rw [hk, hgb]; exact Nat.le_refl _), by rw [hk]; exact blk_lt hbox⟩)) hbox); clear hgb hbox hb)
  have k0 : w1.cell? ⟨gb, 0, none⟩ = some (.int .i64 5) := (blk_cell T0.out.bx 0).trans rfl
  have k6 : w1.cell? ⟨gb, 6, none⟩ = some (.slice Ak keep.length ck) := T0.out.held.2.2.2.2
  obtain ⟨k1, k2, k3, k4, -⟩ := T0.out.held
  go_upto_region 15 with (fail)
  clear k0 k1 k2 k3 k4 k6
  go_region_held3 (fun w' => w'.cell? ⟨gb, 1, none⟩ = some (.int .i64 F) ∧ w'.cell? ⟨gb, 2, none⟩ = some (.int .i64 A) ∧ w'.cell? ⟨gb, 3, none⟩ = some (.int .i64 N) ∧ w'.cell? ⟨gb, 4, none⟩ = some (.string S) ∧ w'.cell? ⟨gb, 6, none⟩ = some (.slice Ak keep.length ck)) (first | exact T3.out.held | exact T2.out.held | exact T1.out.held | exact T0.out.drew.held)
    (first
    | (have T3 := Aside0.mk T2.out; go_at_call 132; (refine (T2.out.lt.rsync HM1.out F).mono ?_); rintro e4 w4 ⟨rfl, ht, hs, hz⟩; replace T3 := Aside0.mk (T2.out.to (ht.up (Nat.le_refl _)) hs); clear ht hs hz)
    | (have T2 := Aside0.mk T1.out; go_at_call 15; (refine (relstorelaw_num.calls (s.sync F).1 (s.sync F).1 _ rfl).mono ?_); rintro e3 w3 ⟨rfl, hb3⟩; replace T2 := Aside0.mk (T1.out.below hb3.below); clear hb3)
    | (have T1 := Aside0.mk T0.out.drew; go_at_call 131; (refine (T0.out.drew.lt.sync HM.out F).mono ?_); rintro e2 w2 ⟨rfl, ht, hs, hz⟩; replace T1 := Aside0.mk (T0.out.drew.to ht hs); clear ht hs hz))
  go_wp2_with (fail)
  go_ret
  exact ⟨rfl, _, T3.out.lt.less (fun _ h => h.elim)⟩
set_option maxHeartbeats 8000000 in
set_option maxRecDepth 100000 in
theorem disks.calls6 {w0 w : World} {gd gr : Nat} {s : St} {m : Nat} (k F A N : Int) (S T : ByteArray) (Ak : Option Addr) (ck : Nat) (keep : List Int) (vc : Value) (h : LT w0 w gd gr (fun _ => False) s s m) (hm : m ≤ 100000)
    (hN : N < 9223372036854775808) (hk : (Kd.int .i64).C w0 Ak keep.length keep) (hkc : keep.length ≤ ck) (hkl : keep.length ≤ 17592186043904) :
    Calls Try.prog 61 #[.pointer (some ⟨gd, 0, none⟩), .pointer (some ⟨gr, 0, none⟩), .agg #[.int .i64 6, .int .i64 F, .int .i64 A, .int .i64 N, .string S, .string T, .slice Ak keep.length ck, vc]] w fun e w' => e = .returned (.bool true) ∧ ∃ s', LT w0 w' gd gr (fun _ => False) s' s' (m + 2) := by
  have H := Aside0.mk h
  have HM := Aside0.mk (show m ≤ 1000000 by omega)
  have HM1 := Aside0.mk (show m + 1 ≤ 1000000 by omega)
  have HN := Aside0.mk hN
  have HKP := Aside0.mk hk
  have HKC := Aside0.mk hkc
  have HKL := Aside0.mk hkl
  clear h hm hN hk hkc hkl
  go_enter Try.func61, Try.ntmps61
  go_upto_region 1 with ((with_reducible refine gate_dst (N := 5) rfl ?_); refine box_event ?hg (N := 5) ?hd (cs := acells 6 F A N S T (.slice Ak keep.length ck) vc) (t := 77) ?hr ?_; (case hd => rfl); (case hg => rfl); (case hr => first | (go_simp; done) | (go_simp; rfl)); intro gb hgb w1 hbox hb; have T0 := Aside0.mk (LB.mk (H.out.more hb (Y := fun k => k = gb) (fun k hk => ⟨.inr (by rw [hk, hgb]; exact Nat.le_refl _), by rw [hk]; exact blk_lt hbox⟩)) hbox); clear hgb hbox hb)
  have k0 : w1.cell? ⟨gb, 0, none⟩ = some (.int .i64 6) := (blk_cell T0.out.bx 0).trans rfl
  have k6 : w1.cell? ⟨gb, 6, none⟩ = some (.slice Ak keep.length ck) := T0.out.held.2.2.2.2
  obtain ⟨k1, k2, k3, k4, -⟩ := T0.out.held
  go_upto_region 18 with (go_at_call 64; (refine (T0.out.lt.fail N HN.out).mono ?_); rintro e2 w2 ⟨rfl, ht, hs, hz⟩; have T1 := Aside0.mk (T0.out.to ht hs); clear ht hs hz)
  clear k0 k1 k2 k3 k4 k6
  obtain ⟨k1, k2, k3, k4, k6⟩ := T1.out.held
  go_upto_region 25 with (go_at_call 84; (refine (T1.out.lt.rfail N HN.out).mono ?_); rintro e3 w3 ⟨rfl, ht, hs, hz⟩; have T9 := Aside0.mk ht; clear ht hs hz)
  clear k1 k2 k3 k4 k6
  go_upto_region 25 with (fail)
  obtain ⟨A_, c_, p4, p5, p2⟩ := T9.out.cells
  go_quiet (first
    | (go_at_call 72; exact Calls.quiet_of_same ((T9.out.drewN _).down))
    | (go_at_call 134; exact Calls.quiet_of_same ((T9.out.drewN _).count))
    | (go_at_call 135; exact Calls.quiet_of_same ((T9.out.drewN _).waits)))
  go_wp2_with (fail)
  go_ret
  exact ⟨rfl, _, ((T9.out.drewN _).less (fun _ h => h.elim)).up (by omega)⟩
set_option maxHeartbeats 8000000 in
set_option maxRecDepth 100000 in
theorem disks.calls7 {w0 w : World} {gd gr : Nat} {s : St} {m : Nat} (k F A N : Int) (S T : ByteArray) (Ak : Option Addr) (ck : Nat) (keep : List Int) (vc : Value) (h : LT w0 w gd gr (fun _ => False) s s m) (hm : m ≤ 100000)
    (hN : N < 9223372036854775808) (hk : (Kd.int .i64).C w0 Ak keep.length keep) (hkc : keep.length ≤ ck) (hkl : keep.length ≤ 17592186043904) :
    Calls Try.prog 61 #[.pointer (some ⟨gd, 0, none⟩), .pointer (some ⟨gr, 0, none⟩), .agg #[.int .i64 7, .int .i64 F, .int .i64 A, .int .i64 N, .string S, .string T, .slice Ak keep.length ck, vc]] w fun e w' => e = .returned (.bool true) ∧ ∃ s', LT w0 w' gd gr (fun _ => False) s' s' (m + 2) := by
  have H := Aside0.mk h
  have HM := Aside0.mk (show m ≤ 1000000 by omega)
  have HM1 := Aside0.mk (show m + 1 ≤ 1000000 by omega)
  have HN := Aside0.mk hN
  have HKP := Aside0.mk hk
  have HKC := Aside0.mk hkc
  have HKL := Aside0.mk hkl
  clear h hm hN hk hkc hkl
  go_enter Try.func61, Try.ntmps61
  go_upto_region 1 with ((with_reducible refine gate_dst (N := 5) rfl ?_); refine box_event ?hg (N := 5) ?hd (cs := acells 7 F A N S T (.slice Ak keep.length ck) vc) (t := 77) ?hr ?_; (case hd => rfl); (case hg => rfl); (case hr => first | (go_simp; done) | (go_simp; rfl)); intro gb hgb w1 hbox hb; have T0 := Aside0.mk (LB.mk (H.out.more hb (Y := fun k => k = gb) (fun k hk => ⟨.inr (by rw [hk, hgb]; exact Nat.le_refl _), by rw [hk]; exact blk_lt hbox⟩)) hbox); clear hgb hbox hb)
  have k0 : w1.cell? ⟨gb, 0, none⟩ = some (.int .i64 7) := (blk_cell T0.out.bx 0).trans rfl
  have k6 : w1.cell? ⟨gb, 6, none⟩ = some (.slice Ak keep.length ck) := T0.out.held.2.2.2.2
  obtain ⟨k1, k2, k3, k4, -⟩ := T0.out.held
  have hl_ := HKL.out
  have HRC := Aside0.mk (HKC.out)
  have HKR := Aside0.mk (Kd.C_below HKP.out T0.out.lt.hB)
  go_upto_region 21 with ((with_reducible refine gate_builtin (b := .append) (xs := #[.const (.slice none 0 0), .tmp 137]) rfl ?_); at_builtin; refine Kd.R_append_rows (Kd.int .i64) (Rr := (Kd.int .i64).K w1) (W := w1) (w0 := w1) w1.heap.size rfl _ _ 75 3 (.int .i64 0) 8 rfl Try.underlying75 info3 rfl (by decide) (by omega) (.slice none 0 0) [] keep Ak keep.length ck (fun k => w1.heap.size ≤ k) (fun _ => False) rfl rfl (Kd.R_nil _ _ _ _ _) HKR.out (fun _ _ h => h) (fun _ hk => hk.elim) (fun k hk => hk) (Below.refl _ _) (Nat.le_refl _) (by simp; omega) ?_; intro v1 w2 ho hb hgr hat; obtain ⟨A5, c5, e5⟩ := Kd.R_slice ho; rw [List.nil_append] at e5 ho; subst e5; have HV := Aside0.mk (Kd.R_mono (Kd.R_bound ho) (ok' := fun k => k = gb ∨ (w1.heap.size ≤ k ∧ k < w2.heap.size)) (fun k hk => .inr ⟨hk.2.1, hk.2.2.1⟩)); have HB2 := Aside0.mk hb; clear ho hb hgr hat)
  have B2 := Aside0.mk (blk_below T0.out.bx HB2.out)
  have T1 := Aside0.mk (T0.out.lt.more HB2.out (Y := fun k => k = gb ∨ (w1.heap.size ≤ k ∧ k < w2.heap.size)) (fun k hk => by
    rcases hk with hk | hk
    · exact ⟨.inl hk, by rw [hk]; exact Nat.lt_of_lt_of_le (blk_lt T0.out.bx) HB2.out.size⟩
    · exact ⟨.inr hk.1, hk.2⟩))
  have HCK := Aside0.mk (Kd.R_reads' HV.out).2.1
  clear k0 k1 k2 k3 k4 k6 HKR
  go_upto_region 22 with (go_at_call 73; (refine (T1.out.crash HM.out A5 c5 keep (Kd.C_kept_own HV.out (fun k hk hs => hs.2 hk)) (by omega)).mono ?_); rintro e3 w3 ⟨rfl, ht, hs, hz⟩; have T2 := Aside0.mk ht; have B3 := Aside0.mk ((hs gb (.inl rfl)).trans B2.out); have HV3 := Aside0.mk (Kd.R_step HV.out (fun k hk _ => hs k hk)); clear ht hs hz)
  have k6 : w3.cell? ⟨gb, 6, none⟩ = some (.slice Ak keep.length ck) := (blk_cell B3.out 6).trans rfl
  go_upto_region 23 with (go_at_call 85; (refine (T2.out.rcrash HM.out Ak ck keep (Kd.C_kept_came (Kd.heap_int .i64) HKP.out T2.out.hB (fun k hk => hk.1)) (by omega)).mono ?_); rintro e4 w4 ⟨rfl, ht, hs, hz⟩; have T3 := Aside0.mk ht; have B4 := Aside0.mk ((hs gb (.inl rfl)).trans B3.out); have HV4 := Aside0.mk (Kd.R_step HV3.out (fun k hk _ => hs k hk)); clear ht hs hz)
  clear k6
  have k6 : w4.cell? ⟨gb, 6, none⟩ = some (.slice Ak keep.length ck) := (blk_cell B4.out 6).trans rfl
  go_upto_region 25 with (go_at_call 133; (refine (relstorelaw_sameInts.calls (keep.length + 1) A5 c5 keep Ak ck keep true _ (Kd.R_reads' HV4.out).2.2 HCK.out (Kd.C_below HKP.out T3.out.hB) HRC.out (sameInts_is keep (by omega))).mono ?_); rintro e5 w5 ⟨rfl, hd5⟩; have T9 := Aside0.mk (T3.out.below hd5.below); clear hd5)
  clear k6 hl_
  go_upto_region 25 with (fail)
  obtain ⟨A_, c_, p4, p5, p2⟩ := T9.out.cells
  go_quiet (first
    | (go_at_call 72; exact Calls.quiet_of_same ((T9.out.drewN _).down))
    | (go_at_call 134; exact Calls.quiet_of_same ((T9.out.drewN _).count))
    | (go_at_call 135; exact Calls.quiet_of_same ((T9.out.drewN _).waits)))
  go_wp2_with (fail)
  go_ret
  exact ⟨rfl, _, ((T9.out.drewN _).less (fun _ h => h.elim)).up (by omega)⟩
set_option maxHeartbeats 8000000 in
set_option maxRecDepth 100000 in
theorem disks.calls8 {w0 w : World} {gd gr : Nat} {s : St} {m : Nat} (k F A N : Int) (S T : ByteArray) (Ak : Option Addr) (ck : Nat) (keep : List Int) (vc : Value) (h : LT w0 w gd gr (fun _ => False) s s m) (hm : m ≤ 100000)
    (hN : N < 9223372036854775808) (hk : (Kd.int .i64).C w0 Ak keep.length keep) (hkc : keep.length ≤ ck) (hkl : keep.length ≤ 17592186043904) (hkk : k ≠ 1 ∧ k ≠ 2 ∧ k ≠ 3 ∧ k ≠ 4 ∧ k ≠ 5 ∧ k ≠ 6 ∧ k ≠ 7) :
    Calls Try.prog 61 #[.pointer (some ⟨gd, 0, none⟩), .pointer (some ⟨gr, 0, none⟩), .agg #[.int .i64 k, .int .i64 F, .int .i64 A, .int .i64 N, .string S, .string T, .slice Ak keep.length ck, vc]] w fun e w' => e = .returned (.bool true) ∧ ∃ s', LT w0 w' gd gr (fun _ => False) s' s' (m + 2) := by
  have H := Aside0.mk h
  have HM := Aside0.mk (show m ≤ 1000000 by omega)
  have HM1 := Aside0.mk (show m + 1 ≤ 1000000 by omega)
  have HN := Aside0.mk hN
  have HKP := Aside0.mk hk
  have HKC := Aside0.mk hkc
  have HKL := Aside0.mk hkl
  obtain ⟨g1_, g2_, g3_, g4_, g5_, g6_, g7_⟩ := hkk
  have e1_ : (k == 1) = false := beq_false g1_
  have e2_ : (k == 2) = false := beq_false g2_
  have e3_ : (k == 3) = false := beq_false g3_
  have e4_ : (k == 4) = false := beq_false g4_
  have e5_ : (k == 5) = false := beq_false g5_
  have e6_ : (k == 6) = false := beq_false g6_
  have e7_ : (k == 7) = false := beq_false g7_
  clear g1_ g2_ g3_ g4_ g5_ g6_ g7_
  clear h hm hN hk hkc hkl
  go_enter Try.func61, Try.ntmps61
  go_upto_region 1 with ((with_reducible refine gate_dst (N := 5) rfl ?_); refine box_event ?hg (N := 5) ?hd (cs := acells k F A N S T (.slice Ak keep.length ck) vc) (t := 77) ?hr ?_; (case hd => rfl); (case hg => rfl); (case hr => first | (go_simp; done) | (go_simp; rfl)); intro gb hgb w1 hbox hb; have T0 := Aside0.mk (LB.mk (H.out.more hb (Y := fun k => k = gb) (fun k hk => ⟨.inr (by rw [hk, hgb]; exact Nat.le_refl _), by rw [hk]; exact blk_lt hbox⟩)) hbox); clear hgb hbox hb)
  have k0 : w1.cell? ⟨gb, 0, none⟩ = some (.int .i64 k) := (blk_cell T0.out.bx 0).trans rfl
  have k6 : w1.cell? ⟨gb, 6, none⟩ = some (.slice Ak keep.length ck) := T0.out.held.2.2.2.2
  obtain ⟨k1, k2, k3, k4, -⟩ := T0.out.held
  have T9 := Aside0.mk T0.out.lt
  go_upto_region 25 with (fail)
  clear k0 k1 k2 k3 k4 k6
  go_upto_region 25 with (fail)
  obtain ⟨A_, c_, p4, p5, p2⟩ := T9.out.cells
  go_quiet (first
    | (go_at_call 72; exact Calls.quiet_of_same ((T9.out.drewN _).down))
    | (go_at_call 134; exact Calls.quiet_of_same ((T9.out.drewN _).count))
    | (go_at_call 135; exact Calls.quiet_of_same ((T9.out.drewN _).waits)))
  go_wp2_with (fail)
  go_ret
  exact ⟨rfl, _, ((T9.out.drewN _).less (fun _ h => h.elim)).up (by omega)⟩
end Go.Proofs.Ythaoaaboempajaa.Disk
