/- The law ValueLaws, walked: it answers true wherever its callees answer as the plain laws tell. Conditions: those answers. -/
import Derived.Test.YthaoaaboempajaaQValueLawsx
namespace Go.Proofs.Ythaoaaboempajaa.QValueLaws
open Go.RowKit Go.Proofs.YthaoaaboempajaaW.PrintWords Go.Proofs.YthaoaaboempajaaW.PrintLast Go.Proofs.YthaoaaboempajaaW.PrintMore Go.Proofs.YthaoaaboempajaaX
set_option linter.unusedVariables false
set_option linter.unusedSimpArgs false
/-- What stands in memory while the law runs: the three values, boxed. -/
structure VS (w0 : World) (ga gb gc : Nat) (a0 a1 : Int) (a2 : ByteArray) (b0 b1 : Int) (b2 : ByteArray) (c0 c1 : Int) (c2 : ByteArray) (w : World) : Prop where
  hb : Below w0.heap.size w0 w
  ba : w.heap[ga]? = some (.cells #[.int .i64 a0, .int .i64 a1, .string a2] 29 (0, 0))
  bb : w.heap[gb]? = some (.cells #[.int .i64 b0, .int .i64 b1, .string b2] 29 (0, 0))
  bc : w.heap[gc]? = some (.cells #[.int .i64 c0, .int .i64 c1, .string c2] 29 (0, 0))
theorem VS.below {w0 ga gb gc a0 a1 a2 b0 b1 b2 c0 c1 c2 w w1} (h : VS w0 ga gb gc a0 a1 a2 b0 b1 b2 c0 c1 c2 w) (hb : Below w.heap.size w w1) : VS w0 ga gb gc a0 a1 a2 b0 b1 b2 c0 c1 c2 w1 :=
  ⟨below_step h.hb hb, blk_below h.ba hb, blk_below h.bb hb, blk_below h.bc hb⟩
theorem VS.drew {w0 ga gb gc a0 a1 a2 b0 b1 b2 c0 c1 c2 w} (h : VS w0 ga gb gc a0 a1 a2 b0 b1 b2 c0 c1 c2 w) : VS w0 ga gb gc a0 a1 a2 b0 b1 b2 c0 c1 c2 w.drew :=
  ⟨below_drew1 h.hb, blk_drew h.ba, blk_drew h.bb, blk_drew h.bc⟩
def Cells9 (ga gb gc : Nat) (a0 a1 : Int) (a2 : ByteArray) (b0 b1 : Int) (b2 : ByteArray) (c0 c1 : Int) (c2 : ByteArray) (w : World) : Prop :=
  w.cell? ⟨ga, 0, none⟩ = some (.int .i64 a0) ∧ w.cell? ⟨ga, 1, none⟩ = some (.int .i64 a1) ∧ w.cell? ⟨ga, 2, none⟩ = some (.string a2) ∧
  w.cell? ⟨gb, 0, none⟩ = some (.int .i64 b0) ∧ w.cell? ⟨gb, 1, none⟩ = some (.int .i64 b1) ∧ w.cell? ⟨gb, 2, none⟩ = some (.string b2) ∧
  w.cell? ⟨gc, 0, none⟩ = some (.int .i64 c0) ∧ w.cell? ⟨gc, 1, none⟩ = some (.int .i64 c1) ∧ w.cell? ⟨gc, 2, none⟩ = some (.string c2)
theorem VS.held {w0 ga gb gc a0 a1 a2 b0 b1 b2 c0 c1 c2 w} (h : VS w0 ga gb gc a0 a1 a2 b0 b1 b2 c0 c1 c2 w) : Cells9 ga gb gc a0 a1 a2 b0 b1 b2 c0 c1 c2 w :=
  ⟨blk_cell h.ba 0, blk_cell h.ba 1, blk_cell h.ba 2, blk_cell h.bb 0, blk_cell h.bb 1, blk_cell h.bb 2, blk_cell h.bc 0, blk_cell h.bc 1, blk_cell h.bc 2⟩
/-- The three cells of a value's box are filled. -/
def put3 (W : World) (g : Nat) (a b : Value) (c : Value) : World := ((W.setCell ⟨g, 0, none⟩ a).setCell ⟨g, 1, none⟩ b).setCell ⟨g, 2, none⟩ c
theorem put3_blk {W : World} {g : Nat} {x y z a b c : Value} (h : W.heap[g]? = some (.cells #[x, y, z] 29 (0, 0))) : (put3 W g a b c).heap[g]? = some (.cells #[a, b, c] 29 (0, 0)) :=
  blk_put (blk_put (blk_put h 0 a rfl) 1 b rfl) 2 c rfl
theorem put3_below {B g : Nat} {w W : World} {a b c : Value} (h : Below B w W) (hg : B ≤ g) : Below B w (put3 W g a b c) :=
  ((h.setCell (p := ⟨g, 0, none⟩) hg a).setCell (p := ⟨g, 1, none⟩) hg b).setCell (p := ⟨g, 2, none⟩) hg c
/-- The three values and one more. -/
structure VT (w0 : World) (ga gb gc : Nat) (a0 a1 : Int) (a2 : ByteArray) (b0 b1 : Int) (b2 : ByteArray) (c0 c1 : Int) (c2 : ByteArray) (gs : Nat) (s0 s1 : Int) (s2 : ByteArray) (w : World) : Prop where
  vs : VS w0 ga gb gc a0 a1 a2 b0 b1 b2 c0 c1 c2 w
  bs : w.heap[gs]? = some (.cells #[.int .i64 s0, .int .i64 s1, .string s2] 29 (0, 0))
theorem VT.below {w0 ga gb gc a0 a1 a2 b0 b1 b2 c0 c1 c2 gs s0 s1 s2 w w1} (h : VT w0 ga gb gc a0 a1 a2 b0 b1 b2 c0 c1 c2 gs s0 s1 s2 w) (hb : Below w.heap.size w w1) : VT w0 ga gb gc a0 a1 a2 b0 b1 b2 c0 c1 c2 gs s0 s1 s2 w1 :=
  ⟨h.vs.below hb, blk_below h.bs hb⟩
theorem VT.drew {w0 ga gb gc a0 a1 a2 b0 b1 b2 c0 c1 c2 gs s0 s1 s2 w} (h : VT w0 ga gb gc a0 a1 a2 b0 b1 b2 c0 c1 c2 gs s0 s1 s2 w) : VT w0 ga gb gc a0 a1 a2 b0 b1 b2 c0 c1 c2 gs s0 s1 s2 w.drew :=
  ⟨h.vs.drew, blk_drew h.bs⟩
theorem VT.held {w0 ga gb gc a0 a1 a2 b0 b1 b2 c0 c1 c2 gs s0 s1 s2 w} (h : VT w0 ga gb gc a0 a1 a2 b0 b1 b2 c0 c1 c2 gs s0 s1 s2 w) :
    w.cell? ⟨ga, 0, none⟩ = some (.int .i64 a0) ∧ w.cell? ⟨ga, 1, none⟩ = some (.int .i64 a1) ∧ w.cell? ⟨ga, 2, none⟩ = some (.string a2) ∧
    w.cell? ⟨gb, 0, none⟩ = some (.int .i64 b0) ∧ w.cell? ⟨gb, 1, none⟩ = some (.int .i64 b1) ∧ w.cell? ⟨gb, 2, none⟩ = some (.string b2) ∧
    w.cell? ⟨gc, 0, none⟩ = some (.int .i64 c0) ∧ w.cell? ⟨gc, 1, none⟩ = some (.int .i64 c1) ∧ w.cell? ⟨gc, 2, none⟩ = some (.string c2) ∧
    w.cell? ⟨gs, 0, none⟩ = some (.int .i64 s0) ∧ w.cell? ⟨gs, 1, none⟩ = some (.int .i64 s1) ∧ w.cell? ⟨gs, 2, none⟩ = some (.string s2) :=
  ⟨blk_cell h.vs.ba 0, blk_cell h.vs.ba 1, blk_cell h.vs.ba 2, blk_cell h.vs.bb 0, blk_cell h.vs.bb 1, blk_cell h.vs.bb 2, blk_cell h.vs.bc 0, blk_cell h.vs.bc 1, blk_cell h.vs.bc 2, blk_cell h.bs 0, blk_cell h.bs 1, blk_cell h.bs 2⟩
/-- The three values and two more. -/
structure VX (w0 : World) (ga gb gc : Nat) (a0 a1 : Int) (a2 : ByteArray) (b0 b1 : Int) (b2 : ByteArray) (c0 c1 : Int) (c2 : ByteArray) (gd go : Nat) (d0 d1 : Int) (d2 : ByteArray) (o0 o1 : Int) (o2 : ByteArray) (w : World) : Prop where
  vs : VS w0 ga gb gc a0 a1 a2 b0 b1 b2 c0 c1 c2 w
  bd : w.heap[gd]? = some (.cells #[.int .i64 d0, .int .i64 d1, .string d2] 29 (0, 0))
  bo : w.heap[go]? = some (.cells #[.int .i64 o0, .int .i64 o1, .string o2] 29 (0, 0))
theorem VX.below {w0 ga gb gc a0 a1 a2 b0 b1 b2 c0 c1 c2 gd go d0 d1 d2 o0 o1 o2 w w1} (h : VX w0 ga gb gc a0 a1 a2 b0 b1 b2 c0 c1 c2 gd go d0 d1 d2 o0 o1 o2 w) (hb : Below w.heap.size w w1) : VX w0 ga gb gc a0 a1 a2 b0 b1 b2 c0 c1 c2 gd go d0 d1 d2 o0 o1 o2 w1 :=
  ⟨h.vs.below hb, blk_below h.bd hb, blk_below h.bo hb⟩
theorem VX.drew {w0 ga gb gc a0 a1 a2 b0 b1 b2 c0 c1 c2 gd go d0 d1 d2 o0 o1 o2 w} (h : VX w0 ga gb gc a0 a1 a2 b0 b1 b2 c0 c1 c2 gd go d0 d1 d2 o0 o1 o2 w) : VX w0 ga gb gc a0 a1 a2 b0 b1 b2 c0 c1 c2 gd go d0 d1 d2 o0 o1 o2 w.drew :=
  ⟨h.vs.drew, blk_drew h.bd, blk_drew h.bo⟩
theorem VX.held {w0 ga gb gc a0 a1 a2 b0 b1 b2 c0 c1 c2 gd go d0 d1 d2 o0 o1 o2 w} (h : VX w0 ga gb gc a0 a1 a2 b0 b1 b2 c0 c1 c2 gd go d0 d1 d2 o0 o1 o2 w) :
    w.cell? ⟨ga, 0, none⟩ = some (.int .i64 a0) ∧ w.cell? ⟨ga, 1, none⟩ = some (.int .i64 a1) ∧ w.cell? ⟨ga, 2, none⟩ = some (.string a2) ∧
    w.cell? ⟨gb, 0, none⟩ = some (.int .i64 b0) ∧ w.cell? ⟨gb, 1, none⟩ = some (.int .i64 b1) ∧ w.cell? ⟨gb, 2, none⟩ = some (.string b2) ∧
    w.cell? ⟨gd, 0, none⟩ = some (.int .i64 d0) ∧ w.cell? ⟨gd, 1, none⟩ = some (.int .i64 d1) ∧ w.cell? ⟨gd, 2, none⟩ = some (.string d2) ∧
    w.cell? ⟨go, 0, none⟩ = some (.int .i64 o0) ∧ w.cell? ⟨go, 1, none⟩ = some (.int .i64 o1) ∧ w.cell? ⟨go, 2, none⟩ = some (.string o2) :=
  ⟨blk_cell h.vs.ba 0, blk_cell h.vs.ba 1, blk_cell h.vs.ba 2, blk_cell h.vs.bb 0, blk_cell h.vs.bb 1, blk_cell h.vs.bb 2, blk_cell h.bd 0, blk_cell h.bd 1, blk_cell h.bd 2, blk_cell h.bo 0, blk_cell h.bo 1, blk_cell h.bo 2⟩
def relstorekeep_ValueLaws.T7 : Bool × List (List Nat × List Nat) := (true, [([], []), ([0], [0]), ([1], [1]), ([2], [2]), ([3], [3]), ([3], [3]), ([4, 5, 3, 3], [3, 4, 5]), ([3], [3]), ([7, 6, 3], [3, 7]), ([6, 8, 3], [3, 6, 8]), ([9, 8, 3], [3, 9]), ([10], [10]), ([10], [10]), ([11, 12, 10, 10], [10, 11, 12]), ([10], [10]), ([13, 14, 10], [10, 13, 14]), ([10, 15, 3], [3, 10, 15]), ([3, 16], [3, 16])])
def relstorekeep_ValueLaws.B7 : List Nat := [0, 1, 3, 7, 15, 15, 63, 15, 255, 511, 1023, 2047, 2047, 8191, 2047, 32767, 65535, 131071]
theorem relstorekeep_ValueLaws.tab7 : rtab .any (opsOf Try.f12 7) = relstorekeep_ValueLaws.T7 := by kernel_rfl
theorem relstorekeep_ValueLaws.bits7 : waitsOk relstorekeep_ValueLaws.T7.2 relstorekeep_ValueLaws.B7 = true := by kernel_rfl
def relstorekeep_ValueLaws.T9 : Bool × List (List Nat × List Nat) := (true, [([], []), ([], []), ([0, 1], [0, 1]), ([], []), ([], []), ([3, 4, 2], [3, 4]), ([], []), ([], []), ([6, 2, 5, 0, 1, 2, 6, 7], [2, 6]), ([7, 5, 8, 0, 1, 2, 3, 4, 5, 6, 7, 8], [5, 7])])
def relstorekeep_ValueLaws.B9 : List Nat := [0, 0, 3, 0, 0, 31, 0, 0, 255, 511]
theorem relstorekeep_ValueLaws.tab9 : rtab .any (opsOf Try.f12 9) = relstorekeep_ValueLaws.T9 := by kernel_rfl
theorem relstorekeep_ValueLaws.bits9 : waitsOk relstorekeep_ValueLaws.T9.2 relstorekeep_ValueLaws.B9 = true := by kernel_rfl
def relstorekeep_ValueLaws.T10 : Bool × List (List Nat × List Nat) := (true, [([], []), ([0], [0]), ([1], [1]), ([2], [2]), ([3], [3]), ([3], [3]), ([4, 5, 3, 3], [3, 4, 5]), ([3], [3]), ([6, 7, 6, 3], [3, 6, 7]), ([3], [3]), ([9, 8, 3], [3, 9]), ([8, 10, 3], [3, 8, 10]), ([11, 10, 3], [3, 11]), ([12], [12]), ([12], [12]), ([13, 14, 12, 12], [12, 13, 14]), ([15, 12], [12, 15]), ([16, 12], [12, 16]), ([12, 17, 3], [3, 12, 17]), ([3, 18], [3, 18]), ([19, 15, 0, 1, 2, 3, 4, 5, 6, 7, 8, 9, 10, 11, 12, 13, 14, 15, 16, 17, 18, 19], [19])])
def relstorekeep_ValueLaws.B10 : List Nat := [0, 1, 3, 7, 15, 15, 63, 15, 255, 15, 1023, 2047, 4095, 8191, 8191, 32767, 65535, 131071, 262143, 524287, 1048575]
theorem relstorekeep_ValueLaws.tab10 : rtab .any (opsOf Try.f12 10) = relstorekeep_ValueLaws.T10 := by kernel_rfl
theorem relstorekeep_ValueLaws.bits10 : waitsOk relstorekeep_ValueLaws.T10.2 relstorekeep_ValueLaws.B10 = true := by kernel_rfl
set_option maxHeartbeats 8000000 in
set_option maxRecDepth 100000 in
theorem ValueLaws.calls (k : Nat) (a0 a1 : Int) (a2 : ByteArray) (b0 b1 : Int) (b2 : ByteArray) (c0 c1 : Int) (c2 : ByteArray) (w : World)
    (p q r : Int) (hp : p = -1 ∨ p = 0 ∨ p = 1) (hq : q = -1 ∨ q = 0 ∨ q = 1) (hr : r = -1 ∨ r = 0 ∨ r = 1)
    (h1 : value_Order.f a0 a1 a2 b0 b1 b2 = some p) (h2 : value_Order.f b0 b1 b2 c0 c1 c2 = some q) (h3 : value_Order.f a0 a1 a2 c0 c1 c2 = some r)
    (h4 : value_Order.f b0 b1 b2 a0 a1 a2 = some (-p)) (h5 : value_Order.f a0 a1 a2 a0 a1 a2 = some 0) (h6 : value_Order.f 0 0 (⟨#[]⟩ : ByteArray) 1 0 (⟨#[]⟩ : ByteArray) = some (-1))
    (x0 x1 : Int) (x2 : ByteArray) (y0 y1 : Int) (y2 : ByteArray) (m0 m1 : Int) (m2 : ByteArray) (n0 n1 : Int) (n2 : ByteArray) (e0 e1 : Int) (e2 : ByteArray) (f0 f1 : Int) (f2 : ByteArray) (g0 g1 : Int) (g2 : ByteArray)
    (i1 : value_Both.f k a0 a1 a2 b0 b1 b2 = some (x0, x1, x2)) (i2 : value_Not.f x0 x1 x2 = some (y0, y1, y2)) (i3 : value_Not.f a0 a1 a2 = some (m0, m1, m2)) (i4 : value_Not.f b0 b1 b2 = some (n0, n1, n2)) (i5 : value_Either.f k m0 m1 m2 n0 n1 n2 = some (y0, y1, y2))
    (i6 : value_Both.f k b0 b1 b2 a0 a1 a2 = some (x0, x1, x2)) (i7 : value_Either.f k b0 b1 b2 c0 c1 c2 = some (e0, e1, e2)) (i8 : value_Either.f k a0 a1 a2 e0 e1 e2 = some (f0, f1, f2)) (i9 : value_Either.f k a0 a1 a2 b0 b1 b2 = some (g0, g1, g2)) (i10 : value_Either.f k g0 g1 g2 c0 c1 c2 = some (f0, f1, f2))
    (s0 s1 : Int) (s2 : ByteArray) (t0 t1 : Int) (t2 : ByteArray) (d0 d1 : Int) (d2 : ByteArray) (o0 o1 : Int) (o2 : ByteArray) (z0 z1 : Int) (z2 : ByteArray)
    (js : s0 = 2 ∨ s0 = 0) (jd : d0 = 2 ∨ d0 = 0) (j1 : value_Reckon.f k 5 a0 a1 a2 b0 b1 b2 = some (s0, s1, s2)) (j2 : s0 = 2 → value_Reckon.f k 6 s0 s1 s2 b0 b1 b2 = some (t0, t1, t2) ∧ value_Reckon.f k 5 b0 b1 b2 a0 a1 a2 = some (s0, s1, s2)) (j3 : value_Clean.f a0 a1 a2 = some (t0, t1, t2)) (j4 : value_Reckon.f k 8 a0 a1 a2 b0 b1 b2 = some (d0, d1, d2)) (j5 : value_Reckon.f k 9 a0 a1 a2 b0 b1 b2 = some (o0, o1, o2))
    (j6 : d0 = 2 → value_Reckon.f k 7 d0 d1 d2 b0 b1 b2 = some (z0, z1, z2) ∧ value_Reckon.f k 5 z0 z1 z2 o0 o1 o2 = some (t0, t1, t2)) (j7 : value_Reckon.f k 5 2 2 (⟨#[]⟩ : ByteArray) 2 3 (⟨#[]⟩ : ByteArray) = some (2, 5, (⟨#[]⟩ : ByteArray)))
    (ho1 : p ≤ 0 → q ≤ 0 → r ≤ 0) (ho2 : p = 0 → q = 0 → r = 0) :
    Calls Try.prog 12 #[.agg #[.int .i64 a0, .int .i64 a1, .string a2], .agg #[.int .i64 b0, .int .i64 b1, .string b2], .agg #[.int .i64 c0, .int .i64 c1, .string c2]] w fun e w' => e = .returned (.bool true) ∧ Below w.heap.size w w' := by
  have H1 := Aside0.mk h1
  have H2 := Aside0.mk h2
  have H3 := Aside0.mk h3
  have H4 := Aside0.mk h4
  have H5 := Aside0.mk h5
  have H6 := Aside0.mk h6
  have HO := Aside0.mk (And.intro ho1 ho2)
  have HP := Aside0.mk hp
  have HQ := Aside0.mk hq
  have HR := Aside0.mk hr
  have J1 := Aside0.mk j1
  have J2 := Aside0.mk j2
  have J3 := Aside0.mk j3
  have J4 := Aside0.mk j4
  have J5 := Aside0.mk j5
  have J6 := Aside0.mk j6
  have J7 := Aside0.mk j7
  have JS := Aside0.mk js
  have JD := Aside0.mk jd
  clear js jd j1 j2 j3 j4 j5 j6 j7
  have I1 := Aside0.mk i1
  have I2 := Aside0.mk i2
  have I3 := Aside0.mk i3
  have I4 := Aside0.mk i4
  have I5 := Aside0.mk i5
  have I6 := Aside0.mk i6
  have I7 := Aside0.mk i7
  have I8 := Aside0.mk i8
  have I9 := Aside0.mk i9
  have I10 := Aside0.mk i10
  clear i1 i2 i3 i4 i5 i6 i7 i8 i9 i10
  clear h1 h2 h3 h4 h5 h6 ho1 ho2 hp hq hr
  go_enter Try.func12, Try.ntmps12
  go_upto_region 1 with (first
    | ((with_reducible refine gate_dst (N := 3) rfl ?_); refine box_event ?hg (N := 3) ?hd (cs := #[.int .i64 a0, .int .i64 a1, .string a2]) (t := 29) ?hr ?_; (case hd => rfl); (case hg => rfl); (case hr => first | (go_simp; done) | (go_simp; rfl)); intro ga hga w1 hboxa hba; have SA := Aside0.mk hboxa; have BA := Aside0.mk hba; clear hga hboxa hba)
    | ((with_reducible refine gate_dst (N := 4) rfl ?_); refine box_event ?hg (N := 4) ?hd (cs := #[.int .i64 b0, .int .i64 b1, .string b2]) (t := 29) ?hr ?_; (case hd => rfl); (case hg => rfl); (case hr => first | (go_simp; done) | (go_simp; rfl)); intro gb hgb w2 hboxb hbb; have SB := Aside0.mk hboxb; have SA2 := Aside0.mk (blk_below SA.out hbb); have BB := Aside0.mk (below_step BA.out hbb); clear hgb hboxb hbb SA BA)
    | ((with_reducible refine gate_dst (N := 5) rfl ?_); refine box_event ?hg (N := 5) ?hd (cs := #[.int .i64 c0, .int .i64 c1, .string c2]) (t := 29) ?hr ?_; (case hd => rfl); (case hg => rfl); (case hr => first | (go_simp; done) | (go_simp; rfl)); intro gc hgc w3 hboxc hbc; have S := Aside0.mk (VS.mk (w0 := w) (below_step BB.out hbc) (blk_below SA2.out hbc) (blk_below SB.out hbc) hboxc); clear hgc hboxc hbc SB SA2 BB))
  go_region_held3 (fun w' => w'.cell? ⟨ga, 0, none⟩ = some (.int .i64 a0) ∧ w'.cell? ⟨ga, 1, none⟩ = some (.int .i64 a1) ∧ w'.cell? ⟨ga, 2, none⟩ = some (.string a2) ∧ w'.cell? ⟨gb, 0, none⟩ = some (.int .i64 b0) ∧ w'.cell? ⟨gb, 1, none⟩ = some (.int .i64 b1) ∧ w'.cell? ⟨gb, 2, none⟩ = some (.string b2) ∧ w'.cell? ⟨gc, 0, none⟩ = some (.int .i64 c0) ∧ w'.cell? ⟨gc, 1, none⟩ = some (.int .i64 c1) ∧ w'.cell? ⟨gc, 2, none⟩ = some (.string c2)) (first | exact S6.out.held | exact S5.out.held | exact S4.out.held | exact S.out.drew.held)
    (first
    | (have S6 := Aside0.mk S5.out; go_at_call 24; (refine (value_Order.calls a0 a1 a2 c0 c1 c2 r _ H3.out).mono ?_); rintro e6 w6 ⟨rfl, hb⟩; replace S6 := Aside0.mk (S5.out.below hb); clear hb)
    | (have S5 := Aside0.mk S4.out; go_at_call 24; (refine (value_Order.calls b0 b1 b2 c0 c1 c2 q _ H2.out).mono ?_); rintro e5 w5 ⟨rfl, hb⟩; replace S5 := Aside0.mk (S4.out.below hb); clear hb)
    | (go_at_call 24; (refine (value_Order.calls a0 a1 a2 b0 b1 b2 p _ H1.out).mono ?_); rintro e4 w4 ⟨rfl, hb⟩; have S4 := Aside0.mk (S.out.drew.below hb); clear hb))
  clear S S4 S5 H1 H2 H3
  have c9 := S6.out.held
  obtain ⟨x1, x2, x3, x4, x5, x6, x7, x8, x9⟩ := c9
  go_upto_region 2 with (fail)
  go_cut [63] from 22 (fun v63 wc => v63 = .bool false ∧ Aside0 (VS w ga gb gc a0 a1 a2 b0 b1 b2 c0 c1 c2 wc))
  case first =>
    have ho := HO.out
    clear HO
    have h4 := H4.out
    clear H4
    rcases HP.out with rfl | rfl | rfl <;> rcases HQ.out with rfl | rfl | rfl <;> clear HP HQ <;> (try (have hz := ho.2 rfl rfl; subst hz)) <;> (try (have hz := ho.1 (by decide) (by decide); rcases HR.out with rfl | rfl | rfl <;> first | exact absurd hz (by decide) | clear hz)) <;> clear ho HR
    all_goals
      (try simp only [Int.neg_neg, Int.neg_zero] at h4)
      have H4 := Aside0.mk h4
      clear h4
      go_wp2_with (first
        | (have S9 := Aside0.mk S8.out; go_at_call 24; (refine (value_Order.calls 0 0 (⟨#[]⟩ : ByteArray) 1 0 (⟨#[]⟩ : ByteArray) (-1) _ H6.out).mono ?_); rintro e9 w9 ⟨rfl, hb⟩; replace S9 := Aside0.mk (S8.out.below hb); clear hb)
        | (have S8 := Aside0.mk S7.out; go_at_call 24; (refine (value_Order.calls a0 a1 a2 a0 a1 a2 0 _ H5.out).mono ?_); rintro e8 w8 ⟨rfl, hb⟩; replace S8 := Aside0.mk (S7.out.below hb); clear hb)
        | (go_at_call 24; (refine (value_Order.calls b0 b1 b2 a0 a1 a2 _ _ H4.out).mono ?_); rintro e7 w7 ⟨rfl, hb⟩; have S7 := Aside0.mk (S6.out.below hb); clear hb; obtain ⟨y1, y2, y3, y4, y5, y6, y7, y8, y9⟩ := S7.out.held))
      go_meet
      case rel => exact ⟨rfl, S9⟩
  case rest =>
    obtain ⟨rfl, S⟩ := hcut
    clear HO HP HQ HR H4 H5 H6 S6 x1 x2 x3 x4 x5 x6 x7 x8 x9
    go_upto_region 4 with (fail)
    go_cut [95] from 64 (fun v95 wc => v95 = .bool false ∧ Aside0 (VS w ga gb gc a0 a1 a2 b0 b1 b2 c0 c1 c2 wc))
    case first =>
      go_wp2_with (fail)
      go_region_held3 (fun w' => w'.cell? ⟨ga, 0, none⟩ = some (.int .i64 a0) ∧ w'.cell? ⟨ga, 1, none⟩ = some (.int .i64 a1) ∧ w'.cell? ⟨ga, 2, none⟩ = some (.string a2) ∧ w'.cell? ⟨gb, 0, none⟩ = some (.int .i64 b0) ∧ w'.cell? ⟨gb, 1, none⟩ = some (.int .i64 b1) ∧ w'.cell? ⟨gb, 2, none⟩ = some (.string b2) ∧ w'.cell? ⟨gc, 0, none⟩ = some (.int .i64 c0) ∧ w'.cell? ⟨gc, 1, none⟩ = some (.int .i64 c1) ∧ w'.cell? ⟨gc, 2, none⟩ = some (.string c2)) (first | exact T11.out.held | exact T10.out.held | exact T9.out.held | exact T8.out.held | exact T7.out.held | exact T6.out.held | exact T5.out.held | exact T4.out.held | exact T3.out.held | exact T2.out.held | exact T1.out.held | exact S.out.drew.held)
    (first
    | (have T11 := Aside0.mk T10.out; go_at_call 48; (refine (value_Either.calls k g0 g1 g2 c0 c1 c2 f0 f1 f2 _ I10.out).mono ?_); rintro eT11 wT11 ⟨rfl, hb⟩; replace T11 := Aside0.mk (T10.out.below hb); clear hb)
    | (have T10 := Aside0.mk T9.out; go_at_call 48; (refine (value_Either.calls k a0 a1 a2 b0 b1 b2 g0 g1 g2 _ I9.out).mono ?_); rintro eT10 wT10 ⟨rfl, hb⟩; replace T10 := Aside0.mk (T9.out.below hb); clear hb)
    | (have T9 := Aside0.mk T8.out; go_at_call 48; (refine (value_Either.calls k a0 a1 a2 e0 e1 e2 f0 f1 f2 _ I8.out).mono ?_); rintro eT9 wT9 ⟨rfl, hb⟩; replace T9 := Aside0.mk (T8.out.below hb); clear hb)
    | (have T8 := Aside0.mk T7.out; go_at_call 48; (refine (value_Either.calls k b0 b1 b2 c0 c1 c2 e0 e1 e2 _ I7.out).mono ?_); rintro eT8 wT8 ⟨rfl, hb⟩; replace T8 := Aside0.mk (T7.out.below hb); clear hb)
    | (have T7 := Aside0.mk T6.out; go_at_call 46; (refine (value_Both.calls k b0 b1 b2 a0 a1 a2 x0 x1 x2 _ I6.out).mono ?_); rintro eT7 wT7 ⟨rfl, hb⟩; replace T7 := Aside0.mk (T6.out.below hb); clear hb)
    | (have T6 := Aside0.mk T5.out; go_at_call 46; (refine (value_Both.calls k a0 a1 a2 b0 b1 b2 x0 x1 x2 _ I1.out).mono ?_); rintro eT6 wT6 ⟨rfl, hb⟩; replace T6 := Aside0.mk (T5.out.below hb); clear hb)
    | (have T5 := Aside0.mk T4.out; go_at_call 48; (refine (value_Either.calls k m0 m1 m2 n0 n1 n2 y0 y1 y2 _ I5.out).mono ?_); rintro eT5 wT5 ⟨rfl, hb⟩; replace T5 := Aside0.mk (T4.out.below hb); clear hb)
    | (have T4 := Aside0.mk T3.out; go_at_call 50; (refine (value_Not.calls b0 b1 b2 n0 n1 n2 _ I4.out).mono ?_); rintro eT4 wT4 ⟨rfl, hb⟩; replace T4 := Aside0.mk (T3.out.below hb); clear hb)
    | (have T3 := Aside0.mk T2.out; go_at_call 50; (refine (value_Not.calls a0 a1 a2 m0 m1 m2 _ I3.out).mono ?_); rintro eT3 wT3 ⟨rfl, hb⟩; replace T3 := Aside0.mk (T2.out.below hb); clear hb)
    | (have T2 := Aside0.mk T1.out; go_at_call 50; (refine (value_Not.calls x0 x1 x2 y0 y1 y2 _ I2.out).mono ?_); rintro eT2 wT2 ⟨rfl, hb⟩; replace T2 := Aside0.mk (T1.out.below hb); clear hb)
    | (have T1 := Aside0.mk S.out.drew; go_at_call 46; (refine (value_Both.calls k a0 a1 a2 b0 b1 b2 x0 x1 x2 _ I1.out).mono ?_); rintro eT1 wT1 ⟨rfl, hb⟩; replace T1 := Aside0.mk (S.out.drew.below hb); clear hb))
      go_wp2_with (fail)
      go_meet
      case rel => exact ⟨by first | rfl | (simp; done), T11⟩
    case rest =>
      clear S
      obtain ⟨rfl, S⟩ := hcut
      clear I1 I2 I3 I4 I5 I6 I7 I8 I9 I10
      obtain ⟨x1, x2, x3, x4, x5, x6, x7, x8, x9⟩ := S.out.held
      go_upto_region 7 with (first
        | (go_at_call 40; (refine (value_Reckon.calls k 5 a0 a1 a2 b0 b1 b2 s0 s1 s2 _ J1.out).mono ?_); rintro e7 w7 ⟨rfl, hb⟩; have S7 := Aside0.mk (S.out.below hb); clear hb)
        | ((with_reducible refine gate_dst (N := 10) rfl ?_); refine box_event ?hg (N := 10) ?hd (cs := #[.int .i64 0, .int .i64 0, .string (⟨#[]⟩ : ByteArray)]) (t := 29) ?hr ?_; (case hd => rfl); (case hg => rfl); (case hr => first | (go_simp; done) | (go_simp; rfl)); intro gs hg_ w8 hbox hb; have q0 := blk_cell hbox 0; have q1_ := blk_cell hbox 1; have q2_ := blk_cell hbox 2; have z0 := blk_frozen hbox 0; have z1 := blk_frozen hbox 1; have z2 := blk_frozen hbox 2; simp only [List.getElem?_toArray, List.getElem?_cons_zero, List.getElem?_cons_succ] at q0 q1_ q2_; have HB8 := Aside0.mk hb; have BQ := Aside0.mk hbox; have GQ := Aside0.mk (Nat.le_of_eq hg_.symm); clear hg_ hbox hb))
      have hput : ((w8.setCell ⟨gs, 0, none⟩ (.int .i64 s0)).setCell ⟨gs, 1, none⟩ (.int .i64 s1)).setCell ⟨gs, 2, none⟩ (.string s2) = put3 w8 gs (.int .i64 s0) (.int .i64 s1) (.string s2) := rfl
      rw [hput]
      clear hput
      have S9 := Aside0.mk (VT.mk (S7.out.below (put3_below (a := .int .i64 s0) (b := .int .i64 s1) (c := .string s2) HB8.out GQ.out)) (put3_blk (a := .int .i64 s0) (b := .int .i64 s1) (c := .string s2) BQ.out))
      clear q0 q1_ q2_ z0 z1 z2 BQ HB8 GQ S S7 x1 x2 x3 x4 x5 x6 x7 x8 x9
      generalize put3 w8 gs (.int .i64 s0) (.int .i64 s1) (.string s2) = w9 at S9 ⊢
      go_cut [116] from 99 (fun v116 wc => v116 = .bool false ∧ Aside0 (VT w ga gb gc a0 a1 a2 b0 b1 b2 c0 c1 c2 gs s0 s1 s2 wc))
      case first =>
        rcases JS.out with rfl | rfl
        · skip
          have J2a := Aside0.mk (J2.out rfl).1
          have J2b := Aside0.mk (J2.out rfl).2
          go_wp2_with (fail)
          go_region_held3 (fun w' => w'.cell? ⟨ga, 0, none⟩ = some (.int .i64 a0) ∧ w'.cell? ⟨ga, 1, none⟩ = some (.int .i64 a1) ∧ w'.cell? ⟨ga, 2, none⟩ = some (.string a2) ∧ w'.cell? ⟨gb, 0, none⟩ = some (.int .i64 b0) ∧ w'.cell? ⟨gb, 1, none⟩ = some (.int .i64 b1) ∧ w'.cell? ⟨gb, 2, none⟩ = some (.string b2) ∧ w'.cell? ⟨gc, 0, none⟩ = some (.int .i64 c0) ∧ w'.cell? ⟨gc, 1, none⟩ = some (.int .i64 c1) ∧ w'.cell? ⟨gc, 2, none⟩ = some (.string c2) ∧ w'.cell? ⟨gs, 0, none⟩ = some (.int .i64 2) ∧ w'.cell? ⟨gs, 1, none⟩ = some (.int .i64 s1) ∧ w'.cell? ⟨gs, 2, none⟩ = some (.string s2)) (first | exact T3.out.held | exact T2.out.held | exact T1.out.held | exact S9.out.drew.held)
    (first
    | (have T3 := Aside0.mk T2.out; go_at_call 40; (refine (value_Reckon.calls k 5 b0 b1 b2 a0 a1 a2 2 s1 s2 _ J2b.out).mono ?_); rintro eT3 wT3 ⟨rfl, hb⟩; replace T3 := Aside0.mk (T2.out.below hb); clear hb)
    | (have T2 := Aside0.mk T1.out; go_at_call 27; (refine (value_Clean.calls a0 a1 a2 t0 t1 t2 _ J3.out).mono ?_); rintro eT2 wT2 ⟨rfl, hb⟩; replace T2 := Aside0.mk (T1.out.below hb); clear hb)
    | (have T1 := Aside0.mk S9.out.drew; go_at_call 40; (refine (value_Reckon.calls k 6 2 s1 s2 b0 b1 b2 t0 t1 t2 _ J2a.out).mono ?_); rintro eT1 wT1 ⟨rfl, hb⟩; replace T1 := Aside0.mk (S9.out.drew.below hb); clear hb))
          go_wp2_with (fail)
          go_meet
          case rel => exact ⟨by first | rfl | (simp; done), T3⟩
        · have BK186 := Aside0.mk S9.out.vs.drew.ba
          have BK187 := Aside0.mk S9.out.vs.drew.bb
          have BK188 := Aside0.mk S9.out.vs.drew.bc
          have BK239 := Aside0.mk S9.out.drew.bs
          have HB := Aside0.mk S9.out.vs.drew.hb
          clear S9
          go_wp2_with (fail)
          refine start_ (n := 18) (S := fun w' => w'.cell? ⟨gs, 0, none⟩ = some (.int .i64 0) ∧ w'.cell? ⟨gs, 1, none⟩ = some (.int .i64 s1) ∧ w'.cell? ⟨gs, 2, none⟩ = some (.string s2)) (ds := []) #[false, false, false, false, false, false, false, false, false, false, false, false, false, false, false, false, false, false] (by kernel_rfl) rfl rfl ⟨(blk_cell BK239.out 0).trans rfl, (blk_cell BK239.out 1).trans rfl, (blk_cell BK239.out 2).trans rfl⟩ (fun hHeld => ?_); refine with_tabW relstorekeep_ValueLaws.tab7 relstorekeep_ValueLaws.bits7 (fun HT_ HW_ => ?_)
          generalize w9.drew = w237 at BK186 BK187 BK188 BK239 HB hHeld ⊢
          refine pure_ (i := 0) (N := some 99) (v := ?_) (a' := ?_) #[true, false, false, false, false, false, false, false, false, false, false, false, false, false, false, false, false, false] rfl rfl (any_of HT_.out (by kernel_rfl)) (fun _ _ _ h => h) (Or.inl ⟨by rfl, ?_⟩) ?_ ?_
          rotate_left
          · intro w'
            go_simp
            with_reducible rfl
          rotate_left
          · simp only [Act.put, List.setIfInBounds_toArray, List.set_cons_zero, List.set_cons_succ, i64_w, i32_w]
            rfl
          refine take_ (i := 1) (N := some 100) (v := ?_) (a' := ?_) #[true, true, false, false, false, false, false, false, false, false, false, false, false, false, false, false, false, false] rfl rfl (take_ofW HT_.out HW_.out (by kernel_rfl)) (fun _ _ _ h => h) (Or.inl ⟨by rfl, ?_⟩) hHeld ?_ ?_
          rotate_left
          · rintro w' ⟨s0, s1, s2⟩
            go_simp
            with_reducible rfl
          rotate_left
          · simp only [Act.put, List.setIfInBounds_toArray, List.set_cons_zero, List.set_cons_succ, i64_w, i32_w]
            rfl
          refine pure_ (i := 2) (N := some 101) (v := ?_) (a' := ?_) #[true, true, true, false, false, false, false, false, false, false, false, false, false, false, false, false, false, false] rfl rfl (any_of HT_.out (by kernel_rfl)) (fun _ _ _ h => h) (Or.inl ⟨by rfl, ?_⟩) ?_ ?_
          rotate_left
          · intro w'
            go_simp
            with_reducible rfl
          rotate_left
          · simp only [Act.put, List.setIfInBounds_toArray, List.set_cons_zero, List.set_cons_succ, i64_w, i32_w]
            rfl
          refine pure_ (i := 3) (N := some 102) (v := ?_) (a' := ?_) #[true, true, true, true, false, false, false, false, false, false, false, false, false, false, false, false, false, false] rfl rfl (any_of HT_.out (by kernel_rfl)) (fun _ _ _ h => h) (Or.inl ⟨by rfl, ?_⟩) ?_ ?_
          rotate_left
          · intro w'
            go_simp
            with_reducible rfl
          rotate_left
          · simp only [Act.put, List.setIfInBounds_toArray, List.set_cons_zero, List.set_cons_succ, i64_w, i32_w]
            rfl
          refine pure_ (i := 4) (N := some 103) (v := undef) (a' := ?_) #[true, true, true, true, true, false, false, false, false, false, false, false, false, false, false, false, false, false] rfl rfl (any_of HT_.out (by kernel_rfl)) (fun _ _ _ h => h) (Or.inr ⟨by rfl, rfl⟩) ?_ ?_
          rotate_left
          · simp only [Act.put, List.setIfInBounds_toArray, List.set_cons_zero, List.set_cons_succ, i64_w, i32_w]
            rfl
          refine pure_ (i := 5) (N := some 104) (v := undef) (a' := ?_) #[true, true, true, true, true, true, false, false, false, false, false, false, false, false, false, false, false, false] rfl rfl (any_of HT_.out (by kernel_rfl)) (fun _ _ _ h => h) (Or.inr ⟨by rfl, rfl⟩) ?_ ?_
          rotate_left
          · simp only [Act.put, List.setIfInBounds_toArray, List.set_cons_zero, List.set_cons_succ, i64_w, i32_w]
            rfl
          refine pure_ (i := 6) (N := some 105) (v := undef) (a' := ?_) #[true, true, true, true, true, true, true, false, false, false, false, false, false, false, false, false, false, false] rfl rfl (any_of HT_.out (by kernel_rfl)) (fun _ _ _ h => h) (Or.inr ⟨by rfl, rfl⟩) ?_ ?_
          rotate_left
          · simp only [Act.put, List.setIfInBounds_toArray, List.set_cons_zero, List.set_cons_succ, i64_w, i32_w]
            rfl
          refine pure_ (i := 7) (N := some 106) (v := undef) (a' := ?_) #[true, true, true, true, true, true, true, true, false, false, false, false, false, false, false, false, false, false] rfl rfl (any_of HT_.out (by kernel_rfl)) (fun _ _ _ h => h) (Or.inr ⟨by rfl, rfl⟩) ?_ ?_
          rotate_left
          · simp only [Act.put, List.setIfInBounds_toArray, List.set_cons_zero, List.set_cons_succ, i64_w, i32_w]
            rfl
          refine pure_ (i := 8) (N := some 107) (v := undef) (a' := ?_) #[true, true, true, true, true, true, true, true, true, false, false, false, false, false, false, false, false, false] rfl rfl (any_of HT_.out (by kernel_rfl)) (fun _ _ _ h => h) (Or.inr ⟨by rfl, rfl⟩) ?_ ?_
          rotate_left
          · simp only [Act.put, List.setIfInBounds_toArray, List.set_cons_zero, List.set_cons_succ, i64_w, i32_w]
            rfl
          refine pure_ (i := 9) (N := some 108) (v := undef) (a' := ?_) #[true, true, true, true, true, true, true, true, true, true, false, false, false, false, false, false, false, false] rfl rfl (any_of HT_.out (by kernel_rfl)) (fun _ _ _ h => h) (Or.inr ⟨by rfl, rfl⟩) ?_ ?_
          rotate_left
          · simp only [Act.put, List.setIfInBounds_toArray, List.set_cons_zero, List.set_cons_succ, i64_w, i32_w]
            rfl
          refine pure_ (i := 10) (N := some 109) (v := undef) (a' := ?_) #[true, true, true, true, true, true, true, true, true, true, true, false, false, false, false, false, false, false] rfl rfl (any_of HT_.out (by kernel_rfl)) (fun _ _ _ h => h) (Or.inr ⟨by rfl, rfl⟩) ?_ ?_
          rotate_left
          · simp only [Act.put, List.setIfInBounds_toArray, List.set_cons_zero, List.set_cons_succ, i64_w, i32_w]
            rfl
          refine pure_ (i := 11) (N := some 110) (v := undef) (a' := ?_) #[true, true, true, true, true, true, true, true, true, true, true, true, false, false, false, false, false, false] rfl rfl (any_of HT_.out (by kernel_rfl)) (fun _ _ _ h => h) (Or.inr ⟨by rfl, rfl⟩) ?_ ?_
          rotate_left
          · simp only [Act.put, List.setIfInBounds_toArray, List.set_cons_zero, List.set_cons_succ, i64_w, i32_w]
            rfl
          refine pure_ (i := 12) (N := some 111) (v := undef) (a' := ?_) #[true, true, true, true, true, true, true, true, true, true, true, true, true, false, false, false, false, false] rfl rfl (any_of HT_.out (by kernel_rfl)) (fun _ _ _ h => h) (Or.inr ⟨by rfl, rfl⟩) ?_ ?_
          rotate_left
          · simp only [Act.put, List.setIfInBounds_toArray, List.set_cons_zero, List.set_cons_succ, i64_w, i32_w]
            rfl
          refine pure_ (i := 13) (N := some 112) (v := undef) (a' := ?_) #[true, true, true, true, true, true, true, true, true, true, true, true, true, true, false, false, false, false] rfl rfl (any_of HT_.out (by kernel_rfl)) (fun _ _ _ h => h) (Or.inr ⟨by rfl, rfl⟩) ?_ ?_
          rotate_left
          · simp only [Act.put, List.setIfInBounds_toArray, List.set_cons_zero, List.set_cons_succ, i64_w, i32_w]
            rfl
          refine pure_ (i := 14) (N := some 113) (v := undef) (a' := ?_) #[true, true, true, true, true, true, true, true, true, true, true, true, true, true, true, false, false, false] rfl rfl (any_of HT_.out (by kernel_rfl)) (fun _ _ _ h => h) (Or.inr ⟨by rfl, rfl⟩) ?_ ?_
          rotate_left
          · simp only [Act.put, List.setIfInBounds_toArray, List.set_cons_zero, List.set_cons_succ, i64_w, i32_w]
            rfl
          refine pure_ (i := 15) (N := some 114) (v := undef) (a' := ?_) #[true, true, true, true, true, true, true, true, true, true, true, true, true, true, true, true, false, false] rfl rfl (any_of HT_.out (by kernel_rfl)) (fun _ _ _ h => h) (Or.inr ⟨by rfl, rfl⟩) ?_ ?_
          rotate_left
          · simp only [Act.put, List.setIfInBounds_toArray, List.set_cons_zero, List.set_cons_succ, i64_w, i32_w]
            rfl
          refine pure_ (i := 16) (N := some 115) (v := undef) (a' := ?_) #[true, true, true, true, true, true, true, true, true, true, true, true, true, true, true, true, true, false] rfl rfl (any_of HT_.out (by kernel_rfl)) (fun _ _ _ h => h) (Or.inr ⟨by rfl, rfl⟩) ?_ ?_
          rotate_left
          · simp only [Act.put, List.setIfInBounds_toArray, List.set_cons_zero, List.set_cons_succ, i64_w, i32_w]
            rfl
          refine pure_ (i := 17) (N := some 116) (v := ?_) (a' := ?_) #[true, true, true, true, true, true, true, true, true, true, true, true, true, true, true, true, true, true] rfl rfl (any_of HT_.out (by kernel_rfl)) (fun _ _ _ h => h) (Or.inl ⟨by rfl, ?_⟩) ?_ ?_
          rotate_left
          · intro w'
            go_simp
            with_reducible rfl
          rotate_left
          · simp only [Act.put, List.setIfInBounds_toArray, List.set_cons_zero, List.set_cons_succ, i64_w, i32_w]
            rfl
          refine done_ (done_of HT_.out (by kernel_rfl)) ?_
          go_wp2_with (fail)
          go_meet
          case rel => exact ⟨by first | rfl | (simp; done), ⟨⟨⟨HB.out, BK186.out, BK187.out, BK188.out⟩, BK239.out⟩⟩⟩
      case rest =>
        clear S9
        obtain ⟨rfl, S⟩ := hcut
        clear J1 J2
        have BK186 := Aside0.mk S.out.vs.drew.ba
        have BK187 := Aside0.mk S.out.vs.drew.bb
        have BK188 := Aside0.mk S.out.vs.drew.bc
        have BK239 := Aside0.mk S.out.drew.bs
        have HB := Aside0.mk S.out.vs.drew.hb
        clear S
        go_upto_region 9 with (fail)
        go_wp2_with (fail)
        refine start_ (n := 10) (S := fun w' => True) (ds := []) #[false, false, false, false, false, false, false, false, false, false] (by kernel_rfl) rfl rfl trivial (fun hHeld => ?_); refine with_tabW relstorekeep_ValueLaws.tab9 relstorekeep_ValueLaws.bits9 (fun HT_ HW_ => ?_)
        generalize wc.drew = w247 at BK186 BK187 BK188 BK239 HB hHeld ⊢
        refine inv_at [0, 1, 2, 3, 4, 5, 6, 7, 8, 9] (fun fr_ b a w' => ∃ (gb255 : Nat) (gb256 : Nat) (m6_ : Value) (m7_ : Value), a = putSel fr_ b [(0, 117, .agg #[.int .i64 a0, .int .i64 a1, .string a2]), (1, 118, .agg #[.int .i64 b0, .int .i64 b1, .string b2]), (2, 119, .agg #[.int .i64 d0, .int .i64 d1, .string d2]), (3, 120, .agg #[.int .i64 a0, .int .i64 a1, .string a2]), (4, 121, .agg #[.int .i64 b0, .int .i64 b1, .string b2]), (5, 122, .agg #[.int .i64 o0, .int .i64 o1, .string o2]), (6, 11, m6_), (7, 12, m7_)] ∧ (w'.heap[ga]? = some (.cells #[.int .i64 a0, .int .i64 a1, .string a2] 29 (0, 0))) ∧ (w'.heap[gb]? = some (.cells #[.int .i64 b0, .int .i64 b1, .string b2] 29 (0, 0))) ∧ (w'.heap[gc]? = some (.cells #[.int .i64 c0, .int .i64 c1, .string c2] 29 (0, 0))) ∧ (w'.heap[gs]? = some (.cells #[.int .i64 s0, .int .i64 s1, .string s2] 29 (0, 0))) ∧ (Below w.heap.size w w') ∧ (b 6 = true → b 7 = true → gb256 ≠ gb255) ∧ (b 6 = true → b 7 = true → gb255 ≠ gb256) ∧ (b 6 = true → b 8 = false → w'.heap[gb255]? = some (.cells #[.int .i64 0, .int .i64 0, .string (⟨#[]⟩ : ByteArray)] 29 (0, 0))) ∧ (b 6 = true → w.heap.size ≤ gb255) ∧ (b 6 = true → w.heap.size ≤ gb255) ∧ (b 6 = true → ga ≠ gb255) ∧ (b 6 = true → gb255 ≠ ga) ∧ (b 6 = true → gb ≠ gb255) ∧ (b 6 = true → gb255 ≠ gb) ∧ (b 6 = true → gc ≠ gb255) ∧ (b 6 = true → gb255 ≠ gc) ∧ (b 6 = true → gs ≠ gb255) ∧ (b 6 = true → gb255 ≠ gs) ∧ (b 7 = true → b 9 = false → w'.heap[gb256]? = some (.cells #[.int .i64 0, .int .i64 0, .string (⟨#[]⟩ : ByteArray)] 29 (0, 0))) ∧ (b 7 = true → w.heap.size ≤ gb256) ∧ (b 7 = true → w.heap.size ≤ gb256) ∧ (b 7 = true → ga ≠ gb256) ∧ (b 7 = true → gb256 ≠ ga) ∧ (b 7 = true → gb ≠ gb256) ∧ (b 7 = true → gb256 ≠ gb) ∧ (b 7 = true → gc ≠ gb256) ∧ (b 7 = true → gb256 ≠ gc) ∧ (b 7 = true → gs ≠ gb256) ∧ (b 7 = true → gb256 ≠ gs) ∧ (b 8 = true → w'.heap[gb255]? = some (.cells #[.int .i64 d0, .int .i64 d1, .string d2] 29 (0, 0))) ∧ (b 9 = true → w'.heap[gb256]? = some (.cells #[.int .i64 o0, .int .i64 o1, .string o2] 29 (0, 0))) ∧ (b 6 = true → (m6_ : Value) = .pointer (some ⟨gb255, 0, none⟩)) ∧ (b 7 = true → (m7_ : Value) = .pointer (some ⟨gb256, 0, none⟩))) HT_.out HW_.out (by kernel_rfl) (by kernel_rfl) ?_ ?_ ?_
        · exact ⟨0, 0, .bool false, .bool false, by simp only [putSel, Bool.false_eq_true, if_false], BK186.out, BK187.out, BK188.out, BK239.out, HB.out, fun h_ => absurd h_ (by decide), fun h_ => absurd h_ (by decide), fun h_ => absurd h_ (by decide), fun h_ => absurd h_ (by decide), fun h_ => absurd h_ (by decide), fun h_ => absurd h_ (by decide), fun h_ => absurd h_ (by decide), fun h_ => absurd h_ (by decide), fun h_ => absurd h_ (by decide), fun h_ => absurd h_ (by decide), fun h_ => absurd h_ (by decide), fun h_ => absurd h_ (by decide), fun h_ => absurd h_ (by decide), fun h_ => absurd h_ (by decide), fun h_ => absurd h_ (by decide), fun h_ => absurd h_ (by decide), fun h_ => absurd h_ (by decide), fun h_ => absurd h_ (by decide), fun h_ => absurd h_ (by decide), fun h_ => absurd h_ (by decide), fun h_ => absurd h_ (by decide), fun h_ => absurd h_ (by decide), fun h_ => absurd h_ (by decide), fun h_ => absurd h_ (by decide), fun h_ => absurd h_ (by decide), fun h_ => absurd h_ (by decide), fun h_ => absurd h_ (by decide), fun h_ => absurd h_ (by decide)⟩
        · skip
          clear BK186 BK187 BK188 BK239 HB
          refine steps_cons ?_ ?_
          · rintro b a w' ⟨gb255, gb256, m6_, m7_, ha, Q_BK186, Q_BK187, Q_BK188, Q_BK239, Q_HB, Q_NB256_255, Q_NB255_256, Q_BK255, Q_GW255, Q_GE255, Q_NB186_255, Q_NB255_186, Q_NB187_255, Q_NB255_187, Q_NB188_255, Q_NB255_188, Q_NB239_255, Q_NB255_239, Q_BK256, Q_GW256, Q_GE256, Q_NB186_256, Q_NB256_186, Q_NB187_256, Q_NB256_187, Q_NB188_256, Q_NB256_188, Q_NB239_256, Q_NB256_239, Q_BK255_e8, Q_BK256_e9, Q_X6_, Q_X7_⟩ hb_ hon hoff
            refine ⟨_, rfl, fun K hK => ?_⟩
            have e3 : a.tmps[3]? = some (.pointer (some ⟨ga, 0, none⟩)) := by rw [ha]; exact (putSel_off rfl).trans rfl
            replace ha := Aside0.mk ha
            have BK186 := Aside0.mk Q_BK186
            have BK187 := Aside0.mk Q_BK187
            have BK188 := Aside0.mk Q_BK188
            have BK239 := Aside0.mk Q_BK239
            have HB := Aside0.mk Q_HB
            have hc0_ : w'.cell? ⟨ga, 0, none⟩ = some (.int .i64 a0) := (blk_cell BK186.out 0).trans rfl
            have hc1_ : w'.cell? ⟨ga, 1, none⟩ = some (.int .i64 a1) := (blk_cell BK186.out 1).trans rfl
            have hc2_ : w'.cell? ⟨ga, 2, none⟩ = some (.string a2) := (blk_cell BK186.out 2).trans rfl
            refine value_ (w1 := w') (v := .agg #[.int .i64 a0, .int .i64 a1, .string a2]) (by rfl) rfl ?_ ?_
            · go_simp
              (try simp only [i64_w])
              try rfl
            refine hK.out _ _ ⟨gb255, gb256, m6_, m7_, (by rw [ha.out]; exact putSel_upk 0 hb_ rfl rfl rfl), Q_BK186, Q_BK187, Q_BK188, Q_BK239, Q_HB, Q_NB256_255, Q_NB255_256, Q_BK255, Q_GW255, Q_GE255, Q_NB186_255, Q_NB255_186, Q_NB187_255, Q_NB255_187, Q_NB188_255, Q_NB255_188, Q_NB239_255, Q_NB255_239, Q_BK256, Q_GW256, Q_GE256, Q_NB186_256, Q_NB256_186, Q_NB187_256, Q_NB256_187, Q_NB188_256, Q_NB256_188, Q_NB239_256, Q_NB256_239, fun h0_ => absurd ((hoff 8 (by kernel_rfl)).symm.trans h0_) (by decide), fun h0_ => absurd ((hoff 9 (by kernel_rfl)).symm.trans h0_) (by decide), Q_X6_, Q_X7_⟩
          refine steps_cons ?_ ?_
          · rintro b a w' ⟨gb255, gb256, m6_, m7_, ha, Q_BK186, Q_BK187, Q_BK188, Q_BK239, Q_HB, Q_NB256_255, Q_NB255_256, Q_BK255, Q_GW255, Q_GE255, Q_NB186_255, Q_NB255_186, Q_NB187_255, Q_NB255_187, Q_NB188_255, Q_NB255_188, Q_NB239_255, Q_NB255_239, Q_BK256, Q_GW256, Q_GE256, Q_NB186_256, Q_NB256_186, Q_NB187_256, Q_NB256_187, Q_NB188_256, Q_NB256_188, Q_NB239_256, Q_NB256_239, Q_BK255_e8, Q_BK256_e9, Q_X6_, Q_X7_⟩ hb_ hon hoff
            refine ⟨_, rfl, fun K hK => ?_⟩
            have e4 : a.tmps[4]? = some (.pointer (some ⟨gb, 0, none⟩)) := by rw [ha]; exact (putSel_off rfl).trans rfl
            replace ha := Aside0.mk ha
            have BK186 := Aside0.mk Q_BK186
            have BK187 := Aside0.mk Q_BK187
            have BK188 := Aside0.mk Q_BK188
            have BK239 := Aside0.mk Q_BK239
            have HB := Aside0.mk Q_HB
            have hc0_ : w'.cell? ⟨gb, 0, none⟩ = some (.int .i64 b0) := (blk_cell BK187.out 0).trans rfl
            have hc1_ : w'.cell? ⟨gb, 1, none⟩ = some (.int .i64 b1) := (blk_cell BK187.out 1).trans rfl
            have hc2_ : w'.cell? ⟨gb, 2, none⟩ = some (.string b2) := (blk_cell BK187.out 2).trans rfl
            refine value_ (w1 := w') (v := .agg #[.int .i64 b0, .int .i64 b1, .string b2]) (by rfl) rfl ?_ ?_
            · go_simp
              (try simp only [i64_w])
              try rfl
            refine hK.out _ _ ⟨gb255, gb256, m6_, m7_, (by rw [ha.out]; exact putSel_upk 1 hb_ rfl rfl rfl), Q_BK186, Q_BK187, Q_BK188, Q_BK239, Q_HB, Q_NB256_255, Q_NB255_256, Q_BK255, Q_GW255, Q_GE255, Q_NB186_255, Q_NB255_186, Q_NB187_255, Q_NB255_187, Q_NB188_255, Q_NB255_188, Q_NB239_255, Q_NB255_239, Q_BK256, Q_GW256, Q_GE256, Q_NB186_256, Q_NB256_186, Q_NB187_256, Q_NB256_187, Q_NB188_256, Q_NB256_188, Q_NB239_256, Q_NB256_239, fun h0_ => absurd ((hoff 8 (by kernel_rfl)).symm.trans h0_) (by decide), fun h0_ => absurd ((hoff 9 (by kernel_rfl)).symm.trans h0_) (by decide), Q_X6_, Q_X7_⟩
          refine steps_cons ?_ ?_
          · rintro b a w' ⟨gb255, gb256, m6_, m7_, ha, Q_BK186, Q_BK187, Q_BK188, Q_BK239, Q_HB, Q_NB256_255, Q_NB255_256, Q_BK255, Q_GW255, Q_GE255, Q_NB186_255, Q_NB255_186, Q_NB187_255, Q_NB255_187, Q_NB188_255, Q_NB255_188, Q_NB239_255, Q_NB255_239, Q_BK256, Q_GW256, Q_GE256, Q_NB186_256, Q_NB256_186, Q_NB187_256, Q_NB256_187, Q_NB188_256, Q_NB256_188, Q_NB239_256, Q_NB256_239, Q_BK255_e8, Q_BK256_e9, Q_X6_, Q_X7_⟩ hb_ hon hoff
            refine ⟨_, rfl, fun K hK => ?_⟩
            have e117 : a.tmps[117]? = some (.agg #[.int .i64 a0, .int .i64 a1, .string a2]) := by rw [ha]; exact putSel_on (e := (0, 117, .agg #[.int .i64 a0, .int .i64 a1, .string a2])) 0 rfl rfl (hon 0 (by kernel_rfl)) rfl
            have e118 : a.tmps[118]? = some (.agg #[.int .i64 b0, .int .i64 b1, .string b2]) := by rw [ha]; exact putSel_on (e := (1, 118, .agg #[.int .i64 b0, .int .i64 b1, .string b2])) 1 rfl rfl (hon 1 (by kernel_rfl)) rfl
            replace ha := Aside0.mk ha
            have BK186 := Aside0.mk Q_BK186
            have BK187 := Aside0.mk Q_BK187
            have BK188 := Aside0.mk Q_BK188
            have BK239 := Aside0.mk Q_BK239
            have HB := Aside0.mk Q_HB
            refine goes_ Try.func40 (by kernel_rfl) rfl #[.int .i64 8, .agg #[.int .i64 a0, .int .i64 a1, .string a2], .agg #[.int .i64 b0, .int .i64 b1, .string b2]] (by rfl) rfl rfl (by first | (simp only [List.map_toArray, List.map_cons, List.map_nil, Act.eval, Array.getD_eq_getD_getElem?, Option.getD_some, e117, e118]; done) | (simp only [List.map_toArray, List.map_cons, List.map_nil, Act.eval, Array.getD_eq_getD_getElem?, Option.getD_some, e117, e118]; rfl)) ?_
            with_reducible refine (value_Reckon.calls k 8 a0 a1 a2 b0 b1 b2 d0 d1 d2 _ J4.out).mono ?_
            rintro e w248 ⟨rfl, hb⟩
            refine ⟨_, rfl, ?_⟩
            have n0_ := Aside0.mk (blk_below (g := ga) (o := .cells #[.int .i64 a0, .int .i64 a1, .string a2] 29 (0, 0)) (by (with_reducible repeat (first | refine blk_drewN ?_ _ | refine blk_drew ?_ | refine blk_alloc ?_ _)); exact BK186.out) hb)
            have n1_ := Aside0.mk (blk_below (g := gb) (o := .cells #[.int .i64 b0, .int .i64 b1, .string b2] 29 (0, 0)) (by (with_reducible repeat (first | refine blk_drewN ?_ _ | refine blk_drew ?_ | refine blk_alloc ?_ _)); exact BK187.out) hb)
            have n2_ := Aside0.mk (blk_below (g := gc) (o := .cells #[.int .i64 c0, .int .i64 c1, .string c2] 29 (0, 0)) (by (with_reducible repeat (first | refine blk_drewN ?_ _ | refine blk_drew ?_ | refine blk_alloc ?_ _)); exact BK188.out) hb)
            have n3_ := Aside0.mk (blk_below (g := gs) (o := .cells #[.int .i64 s0, .int .i64 s1, .string s2] 29 (0, 0)) (by (with_reducible repeat (first | refine blk_drewN ?_ _ | refine blk_drew ?_ | refine blk_alloc ?_ _)); exact BK239.out) hb)
            have n4_ := Aside0.mk (below_step (by repeat (first | (with_reducible first | exact HB.out | apply below_alloc | apply pw_below_drewN | apply below_drew1 | refine below_set ?_ GE186.out | refine below_set ?_ GE187.out | refine below_set ?_ GE188.out | refine below_set ?_ GE239.out) | exact HB.out)) hb)
            have z_BK255 := fun (h0_ : b 6 = true) (h1_ : b 8 = false) => (show w248.heap[gb255]? = some (.cells #[.int .i64 0, .int .i64 0, .string (⟨#[]⟩ : ByteArray)] 29 (0, 0)) from by first | exact (blk_below (g := gb255) (o := .cells #[.int .i64 0, .int .i64 0, .string (⟨#[]⟩ : ByteArray)] 29 (0, 0)) (by (with_reducible repeat (first | refine blk_drewN ?_ _ | refine blk_drew ?_ | refine blk_alloc ?_ _)); exact (Q_BK255 h0_ h1_)) hb))
            have z_BK256 := fun (h0_ : b 7 = true) (h1_ : b 9 = false) => (show w248.heap[gb256]? = some (.cells #[.int .i64 0, .int .i64 0, .string (⟨#[]⟩ : ByteArray)] 29 (0, 0)) from by first | exact (blk_below (g := gb256) (o := .cells #[.int .i64 0, .int .i64 0, .string (⟨#[]⟩ : ByteArray)] 29 (0, 0)) (by (with_reducible repeat (first | refine blk_drewN ?_ _ | refine blk_drew ?_ | refine blk_alloc ?_ _)); exact (Q_BK256 h0_ h1_)) hb))
            clear BK186
            clear BK187
            clear BK188
            clear BK239
            clear HB
            have BK186 := n0_
            have BK187 := n1_
            have BK188 := n2_
            have BK239 := n3_
            have HB := n4_
            clear n0_ n1_ n2_ n3_ n4_
            (try clear hb)
            (try clear hb2)
            (try clear hk)
            (try clear hi)
            refine hK.out _ _ ⟨gb255, gb256, m6_, m7_, (by rw [ha.out]; exact putSel_upk 2 hb_ rfl rfl rfl), (by (with_reducible repeat (first | refine blk_drewN ?_ _ | refine blk_drew ?_ | refine blk_alloc ?_ _)); exact BK186.out), (by (with_reducible repeat (first | refine blk_drewN ?_ _ | refine blk_drew ?_ | refine blk_alloc ?_ _)); exact BK187.out), (by (with_reducible repeat (first | refine blk_drewN ?_ _ | refine blk_drew ?_ | refine blk_alloc ?_ _)); exact BK188.out), (by (with_reducible repeat (first | refine blk_drewN ?_ _ | refine blk_drew ?_ | refine blk_alloc ?_ _)); exact BK239.out), (by repeat (first | (with_reducible first | exact HB.out | apply below_alloc | apply pw_below_drewN | apply below_drew1 | refine below_set ?_ GE186.out | refine below_set ?_ GE187.out | refine below_set ?_ GE188.out | refine below_set ?_ GE239.out) | exact HB.out)), Q_NB256_255, Q_NB255_256, z_BK255, Q_GW255, Q_GE255, Q_NB186_255, Q_NB255_186, Q_NB187_255, Q_NB255_187, Q_NB188_255, Q_NB255_188, Q_NB239_255, Q_NB255_239, z_BK256, Q_GW256, Q_GE256, Q_NB186_256, Q_NB256_186, Q_NB187_256, Q_NB256_187, Q_NB188_256, Q_NB256_188, Q_NB239_256, Q_NB256_239, fun h0_ => absurd ((hoff 8 (by kernel_rfl)).symm.trans h0_) (by decide), fun h0_ => absurd ((hoff 9 (by kernel_rfl)).symm.trans h0_) (by decide), Q_X6_, Q_X7_⟩
          refine steps_cons ?_ ?_
          · rintro b a w' ⟨gb255, gb256, m6_, m7_, ha, Q_BK186, Q_BK187, Q_BK188, Q_BK239, Q_HB, Q_NB256_255, Q_NB255_256, Q_BK255, Q_GW255, Q_GE255, Q_NB186_255, Q_NB255_186, Q_NB187_255, Q_NB255_187, Q_NB188_255, Q_NB255_188, Q_NB239_255, Q_NB255_239, Q_BK256, Q_GW256, Q_GE256, Q_NB186_256, Q_NB256_186, Q_NB187_256, Q_NB256_187, Q_NB188_256, Q_NB256_188, Q_NB239_256, Q_NB256_239, Q_BK255_e8, Q_BK256_e9, Q_X6_, Q_X7_⟩ hb_ hon hoff
            refine ⟨_, rfl, fun K hK => ?_⟩
            have e3 : a.tmps[3]? = some (.pointer (some ⟨ga, 0, none⟩)) := by rw [ha]; exact (putSel_off rfl).trans rfl
            replace ha := Aside0.mk ha
            have BK186 := Aside0.mk Q_BK186
            have BK187 := Aside0.mk Q_BK187
            have BK188 := Aside0.mk Q_BK188
            have BK239 := Aside0.mk Q_BK239
            have HB := Aside0.mk Q_HB
            have hc0_ : w'.cell? ⟨ga, 0, none⟩ = some (.int .i64 a0) := (blk_cell BK186.out 0).trans rfl
            have hc1_ : w'.cell? ⟨ga, 1, none⟩ = some (.int .i64 a1) := (blk_cell BK186.out 1).trans rfl
            have hc2_ : w'.cell? ⟨ga, 2, none⟩ = some (.string a2) := (blk_cell BK186.out 2).trans rfl
            refine value_ (w1 := w') (v := .agg #[.int .i64 a0, .int .i64 a1, .string a2]) (by rfl) rfl ?_ ?_
            · go_simp
              (try simp only [i64_w])
              try rfl
            refine hK.out _ _ ⟨gb255, gb256, m6_, m7_, (by rw [ha.out]; exact putSel_upk 3 hb_ rfl rfl rfl), Q_BK186, Q_BK187, Q_BK188, Q_BK239, Q_HB, Q_NB256_255, Q_NB255_256, Q_BK255, Q_GW255, Q_GE255, Q_NB186_255, Q_NB255_186, Q_NB187_255, Q_NB255_187, Q_NB188_255, Q_NB255_188, Q_NB239_255, Q_NB255_239, Q_BK256, Q_GW256, Q_GE256, Q_NB186_256, Q_NB256_186, Q_NB187_256, Q_NB256_187, Q_NB188_256, Q_NB256_188, Q_NB239_256, Q_NB256_239, fun h0_ => absurd ((hoff 8 (by kernel_rfl)).symm.trans h0_) (by decide), fun h0_ => absurd ((hoff 9 (by kernel_rfl)).symm.trans h0_) (by decide), Q_X6_, Q_X7_⟩
          refine steps_cons ?_ ?_
          · rintro b a w' ⟨gb255, gb256, m6_, m7_, ha, Q_BK186, Q_BK187, Q_BK188, Q_BK239, Q_HB, Q_NB256_255, Q_NB255_256, Q_BK255, Q_GW255, Q_GE255, Q_NB186_255, Q_NB255_186, Q_NB187_255, Q_NB255_187, Q_NB188_255, Q_NB255_188, Q_NB239_255, Q_NB255_239, Q_BK256, Q_GW256, Q_GE256, Q_NB186_256, Q_NB256_186, Q_NB187_256, Q_NB256_187, Q_NB188_256, Q_NB256_188, Q_NB239_256, Q_NB256_239, Q_BK255_e8, Q_BK256_e9, Q_X6_, Q_X7_⟩ hb_ hon hoff
            refine ⟨_, rfl, fun K hK => ?_⟩
            have e4 : a.tmps[4]? = some (.pointer (some ⟨gb, 0, none⟩)) := by rw [ha]; exact (putSel_off rfl).trans rfl
            replace ha := Aside0.mk ha
            have BK186 := Aside0.mk Q_BK186
            have BK187 := Aside0.mk Q_BK187
            have BK188 := Aside0.mk Q_BK188
            have BK239 := Aside0.mk Q_BK239
            have HB := Aside0.mk Q_HB
            have hc0_ : w'.cell? ⟨gb, 0, none⟩ = some (.int .i64 b0) := (blk_cell BK187.out 0).trans rfl
            have hc1_ : w'.cell? ⟨gb, 1, none⟩ = some (.int .i64 b1) := (blk_cell BK187.out 1).trans rfl
            have hc2_ : w'.cell? ⟨gb, 2, none⟩ = some (.string b2) := (blk_cell BK187.out 2).trans rfl
            refine value_ (w1 := w') (v := .agg #[.int .i64 b0, .int .i64 b1, .string b2]) (by rfl) rfl ?_ ?_
            · go_simp
              (try simp only [i64_w])
              try rfl
            refine hK.out _ _ ⟨gb255, gb256, m6_, m7_, (by rw [ha.out]; exact putSel_upk 4 hb_ rfl rfl rfl), Q_BK186, Q_BK187, Q_BK188, Q_BK239, Q_HB, Q_NB256_255, Q_NB255_256, Q_BK255, Q_GW255, Q_GE255, Q_NB186_255, Q_NB255_186, Q_NB187_255, Q_NB255_187, Q_NB188_255, Q_NB255_188, Q_NB239_255, Q_NB255_239, Q_BK256, Q_GW256, Q_GE256, Q_NB186_256, Q_NB256_186, Q_NB187_256, Q_NB256_187, Q_NB188_256, Q_NB256_188, Q_NB239_256, Q_NB256_239, fun h0_ => absurd ((hoff 8 (by kernel_rfl)).symm.trans h0_) (by decide), fun h0_ => absurd ((hoff 9 (by kernel_rfl)).symm.trans h0_) (by decide), Q_X6_, Q_X7_⟩
          refine steps_cons ?_ ?_
          · rintro b a w' ⟨gb255, gb256, m6_, m7_, ha, Q_BK186, Q_BK187, Q_BK188, Q_BK239, Q_HB, Q_NB256_255, Q_NB255_256, Q_BK255, Q_GW255, Q_GE255, Q_NB186_255, Q_NB255_186, Q_NB187_255, Q_NB255_187, Q_NB188_255, Q_NB255_188, Q_NB239_255, Q_NB255_239, Q_BK256, Q_GW256, Q_GE256, Q_NB186_256, Q_NB256_186, Q_NB187_256, Q_NB256_187, Q_NB188_256, Q_NB256_188, Q_NB239_256, Q_NB256_239, Q_BK255_e8, Q_BK256_e9, Q_X6_, Q_X7_⟩ hb_ hon hoff
            refine ⟨_, rfl, fun K hK => ?_⟩
            have e120 : a.tmps[120]? = some (.agg #[.int .i64 a0, .int .i64 a1, .string a2]) := by rw [ha]; exact putSel_on (e := (3, 120, .agg #[.int .i64 a0, .int .i64 a1, .string a2])) 3 rfl rfl (hon 3 (by kernel_rfl)) rfl
            have e121 : a.tmps[121]? = some (.agg #[.int .i64 b0, .int .i64 b1, .string b2]) := by rw [ha]; exact putSel_on (e := (4, 121, .agg #[.int .i64 b0, .int .i64 b1, .string b2])) 4 rfl rfl (hon 4 (by kernel_rfl)) rfl
            replace ha := Aside0.mk ha
            have BK186 := Aside0.mk Q_BK186
            have BK187 := Aside0.mk Q_BK187
            have BK188 := Aside0.mk Q_BK188
            have BK239 := Aside0.mk Q_BK239
            have HB := Aside0.mk Q_HB
            refine goes_ Try.func40 (by kernel_rfl) rfl #[.int .i64 9, .agg #[.int .i64 a0, .int .i64 a1, .string a2], .agg #[.int .i64 b0, .int .i64 b1, .string b2]] (by rfl) rfl rfl (by first | (simp only [List.map_toArray, List.map_cons, List.map_nil, Act.eval, Array.getD_eq_getD_getElem?, Option.getD_some, e120, e121]; done) | (simp only [List.map_toArray, List.map_cons, List.map_nil, Act.eval, Array.getD_eq_getD_getElem?, Option.getD_some, e120, e121]; rfl)) ?_
            with_reducible refine (value_Reckon.calls k 9 a0 a1 a2 b0 b1 b2 o0 o1 o2 _ J5.out).mono ?_
            rintro e w250 ⟨rfl, hb⟩
            refine ⟨_, rfl, ?_⟩
            have n0_ := Aside0.mk (blk_below (g := ga) (o := .cells #[.int .i64 a0, .int .i64 a1, .string a2] 29 (0, 0)) (by (with_reducible repeat (first | refine blk_drewN ?_ _ | refine blk_drew ?_ | refine blk_alloc ?_ _)); exact BK186.out) hb)
            have n1_ := Aside0.mk (blk_below (g := gb) (o := .cells #[.int .i64 b0, .int .i64 b1, .string b2] 29 (0, 0)) (by (with_reducible repeat (first | refine blk_drewN ?_ _ | refine blk_drew ?_ | refine blk_alloc ?_ _)); exact BK187.out) hb)
            have n2_ := Aside0.mk (blk_below (g := gc) (o := .cells #[.int .i64 c0, .int .i64 c1, .string c2] 29 (0, 0)) (by (with_reducible repeat (first | refine blk_drewN ?_ _ | refine blk_drew ?_ | refine blk_alloc ?_ _)); exact BK188.out) hb)
            have n3_ := Aside0.mk (blk_below (g := gs) (o := .cells #[.int .i64 s0, .int .i64 s1, .string s2] 29 (0, 0)) (by (with_reducible repeat (first | refine blk_drewN ?_ _ | refine blk_drew ?_ | refine blk_alloc ?_ _)); exact BK239.out) hb)
            have n4_ := Aside0.mk (below_step (by repeat (first | (with_reducible first | exact HB.out | apply below_alloc | apply pw_below_drewN | apply below_drew1 | refine below_set ?_ GE186.out | refine below_set ?_ GE187.out | refine below_set ?_ GE188.out | refine below_set ?_ GE239.out) | exact HB.out)) hb)
            have z_BK255 := fun (h0_ : b 6 = true) (h1_ : b 8 = false) => (show w250.heap[gb255]? = some (.cells #[.int .i64 0, .int .i64 0, .string (⟨#[]⟩ : ByteArray)] 29 (0, 0)) from by first | exact (blk_below (g := gb255) (o := .cells #[.int .i64 0, .int .i64 0, .string (⟨#[]⟩ : ByteArray)] 29 (0, 0)) (by (with_reducible repeat (first | refine blk_drewN ?_ _ | refine blk_drew ?_ | refine blk_alloc ?_ _)); exact (Q_BK255 h0_ h1_)) hb))
            have z_BK256 := fun (h0_ : b 7 = true) (h1_ : b 9 = false) => (show w250.heap[gb256]? = some (.cells #[.int .i64 0, .int .i64 0, .string (⟨#[]⟩ : ByteArray)] 29 (0, 0)) from by first | exact (blk_below (g := gb256) (o := .cells #[.int .i64 0, .int .i64 0, .string (⟨#[]⟩ : ByteArray)] 29 (0, 0)) (by (with_reducible repeat (first | refine blk_drewN ?_ _ | refine blk_drew ?_ | refine blk_alloc ?_ _)); exact (Q_BK256 h0_ h1_)) hb))
            clear BK186
            clear BK187
            clear BK188
            clear BK239
            clear HB
            have BK186 := n0_
            have BK187 := n1_
            have BK188 := n2_
            have BK239 := n3_
            have HB := n4_
            clear n0_ n1_ n2_ n3_ n4_
            (try clear hb)
            (try clear hb2)
            (try clear hk)
            (try clear hi)
            refine hK.out _ _ ⟨gb255, gb256, m6_, m7_, (by rw [ha.out]; exact putSel_upk 5 hb_ rfl rfl rfl), (by (with_reducible repeat (first | refine blk_drewN ?_ _ | refine blk_drew ?_ | refine blk_alloc ?_ _)); exact BK186.out), (by (with_reducible repeat (first | refine blk_drewN ?_ _ | refine blk_drew ?_ | refine blk_alloc ?_ _)); exact BK187.out), (by (with_reducible repeat (first | refine blk_drewN ?_ _ | refine blk_drew ?_ | refine blk_alloc ?_ _)); exact BK188.out), (by (with_reducible repeat (first | refine blk_drewN ?_ _ | refine blk_drew ?_ | refine blk_alloc ?_ _)); exact BK239.out), (by repeat (first | (with_reducible first | exact HB.out | apply below_alloc | apply pw_below_drewN | apply below_drew1 | refine below_set ?_ GE186.out | refine below_set ?_ GE187.out | refine below_set ?_ GE188.out | refine below_set ?_ GE239.out) | exact HB.out)), Q_NB256_255, Q_NB255_256, z_BK255, Q_GW255, Q_GE255, Q_NB186_255, Q_NB255_186, Q_NB187_255, Q_NB255_187, Q_NB188_255, Q_NB255_188, Q_NB239_255, Q_NB255_239, z_BK256, Q_GW256, Q_GE256, Q_NB186_256, Q_NB256_186, Q_NB187_256, Q_NB256_187, Q_NB188_256, Q_NB256_188, Q_NB239_256, Q_NB256_239, fun h0_ => absurd ((hoff 8 (by kernel_rfl)).symm.trans h0_) (by decide), fun h0_ => absurd ((hoff 9 (by kernel_rfl)).symm.trans h0_) (by decide), Q_X6_, Q_X7_⟩
          refine steps_cons ?_ ?_
          · rintro b a w' ⟨gb255, gb256, m6_, m7_, ha, Q_BK186, Q_BK187, Q_BK188, Q_BK239, Q_HB, Q_NB256_255, Q_NB255_256, Q_BK255, Q_GW255, Q_GE255, Q_NB186_255, Q_NB255_186, Q_NB187_255, Q_NB255_187, Q_NB188_255, Q_NB255_188, Q_NB239_255, Q_NB255_239, Q_BK256, Q_GW256, Q_GE256, Q_NB186_256, Q_NB256_186, Q_NB187_256, Q_NB256_187, Q_NB188_256, Q_NB256_188, Q_NB239_256, Q_NB256_239, Q_BK255_e8, Q_BK256_e9, Q_X6_, Q_X7_⟩ hb_ hon hoff
            refine ⟨_, rfl, fun K hK => ?_⟩
            replace ha := Aside0.mk ha
            have BK186 := Aside0.mk Q_BK186
            have BK187 := Aside0.mk Q_BK187
            have BK188 := Aside0.mk Q_BK188
            have BK239 := Aside0.mk Q_BK239
            have HB := Aside0.mk Q_HB
            refine box_step ?hg (N := 11) ?hd (cs := #[.int .i64 0, .int .i64 0, .string (⟨#[]⟩ : ByteArray)]) (t := 29) ?hr ?_; (case hd => rfl); (case hg => rfl); (case hr => first | (go_simp; done) | (go_simp; rfl))
            intro gb255 hg w248 hbox hb
            have n0_ := Aside0.mk (blk_below (g := ga) (o := .cells #[.int .i64 a0, .int .i64 a1, .string a2] 29 (0, 0)) (by (with_reducible repeat (first | refine blk_drewN ?_ _ | refine blk_drew ?_ | refine blk_alloc ?_ _)); exact BK186.out) hb)
            have n1_ := Aside0.mk (blk_below (g := gb) (o := .cells #[.int .i64 b0, .int .i64 b1, .string b2] 29 (0, 0)) (by (with_reducible repeat (first | refine blk_drewN ?_ _ | refine blk_drew ?_ | refine blk_alloc ?_ _)); exact BK187.out) hb)
            have n2_ := Aside0.mk (blk_below (g := gc) (o := .cells #[.int .i64 c0, .int .i64 c1, .string c2] 29 (0, 0)) (by (with_reducible repeat (first | refine blk_drewN ?_ _ | refine blk_drew ?_ | refine blk_alloc ?_ _)); exact BK188.out) hb)
            have n3_ := Aside0.mk (blk_below (g := gs) (o := .cells #[.int .i64 s0, .int .i64 s1, .string s2] 29 (0, 0)) (by (with_reducible repeat (first | refine blk_drewN ?_ _ | refine blk_drew ?_ | refine blk_alloc ?_ _)); exact BK239.out) hb)
            have n4_ := Aside0.mk (below_step (by repeat (first | (with_reducible first | exact HB.out | apply below_alloc | apply pw_below_drewN | apply below_drew1 | refine below_set ?_ GE186.out | refine below_set ?_ GE187.out | refine below_set ?_ GE188.out | refine below_set ?_ GE239.out) | exact HB.out)) hb)
            have n5_ := Aside0.mk (hbox)
            have n6_ := Aside0.mk ((by rw [hg]; exact (below_size (by repeat (first | (with_reducible first | exact HB.out | apply below_alloc | apply pw_below_drewN | apply below_drew1 | refine below_set ?_ GE186.out | refine below_set ?_ GE187.out | refine below_set ?_ GE188.out | refine below_set ?_ GE239.out) | exact HB.out))) : w.heap.size ≤ gb255))
            have n7_ := Aside0.mk ((by rw [hg]; exact (below_size (by repeat (first | (with_reducible first | exact HB.out | apply below_alloc | apply pw_below_drewN | apply below_drew1 | refine below_set ?_ GE186.out | refine below_set ?_ GE187.out | refine below_set ?_ GE188.out | refine below_set ?_ GE239.out) | exact HB.out))) : w.heap.size ≤ gb255))
            have n8_ := Aside0.mk ((by rw [hg]; exact Nat.ne_of_lt (blk_lt (g := ga) (o := .cells #[.int .i64 a0, .int .i64 a1, .string a2] 29 (0, 0)) (by (with_reducible repeat (first | refine blk_drewN ?_ _ | refine blk_drew ?_ | refine blk_alloc ?_ _)); exact BK186.out)) : ga ≠ gb255))
            have n9_ := Aside0.mk ((by rw [hg]; exact Nat.ne_of_gt (blk_lt (g := ga) (o := .cells #[.int .i64 a0, .int .i64 a1, .string a2] 29 (0, 0)) (by (with_reducible repeat (first | refine blk_drewN ?_ _ | refine blk_drew ?_ | refine blk_alloc ?_ _)); exact BK186.out)) : gb255 ≠ ga))
            have n10_ := Aside0.mk ((by rw [hg]; exact Nat.ne_of_lt (blk_lt (g := gb) (o := .cells #[.int .i64 b0, .int .i64 b1, .string b2] 29 (0, 0)) (by (with_reducible repeat (first | refine blk_drewN ?_ _ | refine blk_drew ?_ | refine blk_alloc ?_ _)); exact BK187.out)) : gb ≠ gb255))
            have n11_ := Aside0.mk ((by rw [hg]; exact Nat.ne_of_gt (blk_lt (g := gb) (o := .cells #[.int .i64 b0, .int .i64 b1, .string b2] 29 (0, 0)) (by (with_reducible repeat (first | refine blk_drewN ?_ _ | refine blk_drew ?_ | refine blk_alloc ?_ _)); exact BK187.out)) : gb255 ≠ gb))
            have n12_ := Aside0.mk ((by rw [hg]; exact Nat.ne_of_lt (blk_lt (g := gc) (o := .cells #[.int .i64 c0, .int .i64 c1, .string c2] 29 (0, 0)) (by (with_reducible repeat (first | refine blk_drewN ?_ _ | refine blk_drew ?_ | refine blk_alloc ?_ _)); exact BK188.out)) : gc ≠ gb255))
            have n13_ := Aside0.mk ((by rw [hg]; exact Nat.ne_of_gt (blk_lt (g := gc) (o := .cells #[.int .i64 c0, .int .i64 c1, .string c2] 29 (0, 0)) (by (with_reducible repeat (first | refine blk_drewN ?_ _ | refine blk_drew ?_ | refine blk_alloc ?_ _)); exact BK188.out)) : gb255 ≠ gc))
            have n14_ := Aside0.mk ((by rw [hg]; exact Nat.ne_of_lt (blk_lt (g := gs) (o := .cells #[.int .i64 s0, .int .i64 s1, .string s2] 29 (0, 0)) (by (with_reducible repeat (first | refine blk_drewN ?_ _ | refine blk_drew ?_ | refine blk_alloc ?_ _)); exact BK239.out)) : gs ≠ gb255))
            have n15_ := Aside0.mk ((by rw [hg]; exact Nat.ne_of_gt (blk_lt (g := gs) (o := .cells #[.int .i64 s0, .int .i64 s1, .string s2] 29 (0, 0)) (by (with_reducible repeat (first | refine blk_drewN ?_ _ | refine blk_drew ?_ | refine blk_alloc ?_ _)); exact BK239.out)) : gb255 ≠ gs))
            have z_NB256_255 := fun (h0_ : up b 6 6 = true) (h1_ : up b 6 7 = true) => (show gb256 ≠ gb255 from by rw [hg]; exact Nat.ne_of_lt (blk_lt (Q_BK256 ((up_ne (by decide)).symm.trans h1_) (hoff 9 (by kernel_rfl)))))
            have z_NB255_256 := fun (h0_ : up b 6 6 = true) (h1_ : up b 6 7 = true) => (show gb255 ≠ gb256 from by rw [hg]; exact Nat.ne_of_gt (blk_lt (Q_BK256 ((up_ne (by decide)).symm.trans h1_) (hoff 9 (by kernel_rfl)))))
            have z_BK256 := fun (h0_ : b 7 = true) (h1_ : b 9 = false) => (show w248.heap[gb256]? = some (.cells #[.int .i64 0, .int .i64 0, .string (⟨#[]⟩ : ByteArray)] 29 (0, 0)) from by first | exact (blk_below (g := gb256) (o := .cells #[.int .i64 0, .int .i64 0, .string (⟨#[]⟩ : ByteArray)] 29 (0, 0)) (by (with_reducible repeat (first | refine blk_drewN ?_ _ | refine blk_drew ?_ | refine blk_alloc ?_ _)); exact (Q_BK256 h0_ h1_)) hb))
            clear BK186
            clear BK187
            clear BK188
            clear BK239
            clear HB
            have BK186 := n0_
            have BK187 := n1_
            have BK188 := n2_
            have BK239 := n3_
            have HB := n4_
            have BK255 := n5_
            have GW255 := n6_
            have GE255 := n7_
            have NB186_255 := n8_
            have NB255_186 := n9_
            have NB187_255 := n10_
            have NB255_187 := n11_
            have NB188_255 := n12_
            have NB255_188 := n13_
            have NB239_255 := n14_
            have NB255_239 := n15_
            clear n0_ n1_ n2_ n3_ n4_ n5_ n6_ n7_ n8_ n9_ n10_ n11_ n12_ n13_ n14_ n15_
            clear hb hbox hg
            refine hK.out _ _ ⟨gb255, gb256, (.pointer (some ⟨gb255, 0, none⟩)), m7_, (by rw [ha.out]; exact putSel_upk 6 hb_ rfl rfl rfl), (by (with_reducible repeat (first | refine blk_drewN ?_ _ | refine blk_drew ?_ | refine blk_alloc ?_ _)); exact BK186.out), (by (with_reducible repeat (first | refine blk_drewN ?_ _ | refine blk_drew ?_ | refine blk_alloc ?_ _)); exact BK187.out), (by (with_reducible repeat (first | refine blk_drewN ?_ _ | refine blk_drew ?_ | refine blk_alloc ?_ _)); exact BK188.out), (by (with_reducible repeat (first | refine blk_drewN ?_ _ | refine blk_drew ?_ | refine blk_alloc ?_ _)); exact BK239.out), (by repeat (first | (with_reducible first | exact HB.out | apply below_alloc | apply pw_below_drewN | apply below_drew1 | refine below_set ?_ GE186.out | refine below_set ?_ GE187.out | refine below_set ?_ GE188.out | refine below_set ?_ GE239.out | refine below_set ?_ GE255.out) | exact HB.out)), z_NB256_255, z_NB255_256, fun _ _ => (by (with_reducible repeat (first | refine blk_drewN ?_ _ | refine blk_drew ?_ | refine blk_alloc ?_ _)); exact BK255.out), fun _ => GW255.out, fun _ => GE255.out, fun _ => NB186_255.out, fun _ => NB255_186.out, fun _ => NB187_255.out, fun _ => NB255_187.out, fun _ => NB188_255.out, fun _ => NB255_188.out, fun _ => NB239_255.out, fun _ => NB255_239.out, z_BK256, Q_GW256, Q_GE256, Q_NB186_256, Q_NB256_186, Q_NB187_256, Q_NB256_187, Q_NB188_256, Q_NB256_188, Q_NB239_256, Q_NB256_239, fun h0_ => absurd ((hoff 8 (by kernel_rfl)).symm.trans h0_) (by decide), fun h0_ => absurd ((hoff 9 (by kernel_rfl)).symm.trans h0_) (by decide), fun _ => rfl, Q_X7_⟩
          refine steps_cons ?_ ?_
          · rintro b a w' ⟨gb255, gb256, m6_, m7_, ha, Q_BK186, Q_BK187, Q_BK188, Q_BK239, Q_HB, Q_NB256_255, Q_NB255_256, Q_BK255, Q_GW255, Q_GE255, Q_NB186_255, Q_NB255_186, Q_NB187_255, Q_NB255_187, Q_NB188_255, Q_NB255_188, Q_NB239_255, Q_NB255_239, Q_BK256, Q_GW256, Q_GE256, Q_NB186_256, Q_NB256_186, Q_NB187_256, Q_NB256_187, Q_NB188_256, Q_NB256_188, Q_NB239_256, Q_NB256_239, Q_BK255_e8, Q_BK256_e9, Q_X6_, Q_X7_⟩ hb_ hon hoff
            refine ⟨_, rfl, fun K hK => ?_⟩
            replace ha := Aside0.mk ha
            have BK186 := Aside0.mk Q_BK186
            have BK187 := Aside0.mk Q_BK187
            have BK188 := Aside0.mk Q_BK188
            have BK239 := Aside0.mk Q_BK239
            have HB := Aside0.mk Q_HB
            refine box_step ?hg (N := 12) ?hd (cs := #[.int .i64 0, .int .i64 0, .string (⟨#[]⟩ : ByteArray)]) (t := 29) ?hr ?_; (case hd => rfl); (case hg => rfl); (case hr => first | (go_simp; done) | (go_simp; rfl))
            intro gb256 hg w248 hbox hb
            have n0_ := Aside0.mk (blk_below (g := ga) (o := .cells #[.int .i64 a0, .int .i64 a1, .string a2] 29 (0, 0)) (by (with_reducible repeat (first | refine blk_drewN ?_ _ | refine blk_drew ?_ | refine blk_alloc ?_ _)); exact BK186.out) hb)
            have n1_ := Aside0.mk (blk_below (g := gb) (o := .cells #[.int .i64 b0, .int .i64 b1, .string b2] 29 (0, 0)) (by (with_reducible repeat (first | refine blk_drewN ?_ _ | refine blk_drew ?_ | refine blk_alloc ?_ _)); exact BK187.out) hb)
            have n2_ := Aside0.mk (blk_below (g := gc) (o := .cells #[.int .i64 c0, .int .i64 c1, .string c2] 29 (0, 0)) (by (with_reducible repeat (first | refine blk_drewN ?_ _ | refine blk_drew ?_ | refine blk_alloc ?_ _)); exact BK188.out) hb)
            have n3_ := Aside0.mk (blk_below (g := gs) (o := .cells #[.int .i64 s0, .int .i64 s1, .string s2] 29 (0, 0)) (by (with_reducible repeat (first | refine blk_drewN ?_ _ | refine blk_drew ?_ | refine blk_alloc ?_ _)); exact BK239.out) hb)
            have n4_ := Aside0.mk (below_step (by repeat (first | (with_reducible first | exact HB.out | apply below_alloc | apply pw_below_drewN | apply below_drew1 | refine below_set ?_ GE186.out | refine below_set ?_ GE187.out | refine below_set ?_ GE188.out | refine below_set ?_ GE239.out) | exact HB.out)) hb)
            have n5_ := Aside0.mk (hbox)
            have n6_ := Aside0.mk ((by rw [hg]; exact (below_size (by repeat (first | (with_reducible first | exact HB.out | apply below_alloc | apply pw_below_drewN | apply below_drew1 | refine below_set ?_ GE186.out | refine below_set ?_ GE187.out | refine below_set ?_ GE188.out | refine below_set ?_ GE239.out) | exact HB.out))) : w.heap.size ≤ gb256))
            have n7_ := Aside0.mk ((by rw [hg]; exact (below_size (by repeat (first | (with_reducible first | exact HB.out | apply below_alloc | apply pw_below_drewN | apply below_drew1 | refine below_set ?_ GE186.out | refine below_set ?_ GE187.out | refine below_set ?_ GE188.out | refine below_set ?_ GE239.out) | exact HB.out))) : w.heap.size ≤ gb256))
            have n8_ := Aside0.mk ((by rw [hg]; exact Nat.ne_of_lt (blk_lt (g := ga) (o := .cells #[.int .i64 a0, .int .i64 a1, .string a2] 29 (0, 0)) (by (with_reducible repeat (first | refine blk_drewN ?_ _ | refine blk_drew ?_ | refine blk_alloc ?_ _)); exact BK186.out)) : ga ≠ gb256))
            have n9_ := Aside0.mk ((by rw [hg]; exact Nat.ne_of_gt (blk_lt (g := ga) (o := .cells #[.int .i64 a0, .int .i64 a1, .string a2] 29 (0, 0)) (by (with_reducible repeat (first | refine blk_drewN ?_ _ | refine blk_drew ?_ | refine blk_alloc ?_ _)); exact BK186.out)) : gb256 ≠ ga))
            have n10_ := Aside0.mk ((by rw [hg]; exact Nat.ne_of_lt (blk_lt (g := gb) (o := .cells #[.int .i64 b0, .int .i64 b1, .string b2] 29 (0, 0)) (by (with_reducible repeat (first | refine blk_drewN ?_ _ | refine blk_drew ?_ | refine blk_alloc ?_ _)); exact BK187.out)) : gb ≠ gb256))
            have n11_ := Aside0.mk ((by rw [hg]; exact Nat.ne_of_gt (blk_lt (g := gb) (o := .cells #[.int .i64 b0, .int .i64 b1, .string b2] 29 (0, 0)) (by (with_reducible repeat (first | refine blk_drewN ?_ _ | refine blk_drew ?_ | refine blk_alloc ?_ _)); exact BK187.out)) : gb256 ≠ gb))
            have n12_ := Aside0.mk ((by rw [hg]; exact Nat.ne_of_lt (blk_lt (g := gc) (o := .cells #[.int .i64 c0, .int .i64 c1, .string c2] 29 (0, 0)) (by (with_reducible repeat (first | refine blk_drewN ?_ _ | refine blk_drew ?_ | refine blk_alloc ?_ _)); exact BK188.out)) : gc ≠ gb256))
            have n13_ := Aside0.mk ((by rw [hg]; exact Nat.ne_of_gt (blk_lt (g := gc) (o := .cells #[.int .i64 c0, .int .i64 c1, .string c2] 29 (0, 0)) (by (with_reducible repeat (first | refine blk_drewN ?_ _ | refine blk_drew ?_ | refine blk_alloc ?_ _)); exact BK188.out)) : gb256 ≠ gc))
            have n14_ := Aside0.mk ((by rw [hg]; exact Nat.ne_of_lt (blk_lt (g := gs) (o := .cells #[.int .i64 s0, .int .i64 s1, .string s2] 29 (0, 0)) (by (with_reducible repeat (first | refine blk_drewN ?_ _ | refine blk_drew ?_ | refine blk_alloc ?_ _)); exact BK239.out)) : gs ≠ gb256))
            have n15_ := Aside0.mk ((by rw [hg]; exact Nat.ne_of_gt (blk_lt (g := gs) (o := .cells #[.int .i64 s0, .int .i64 s1, .string s2] 29 (0, 0)) (by (with_reducible repeat (first | refine blk_drewN ?_ _ | refine blk_drew ?_ | refine blk_alloc ?_ _)); exact BK239.out)) : gb256 ≠ gs))
            have z_NB256_255 := fun (h0_ : up b 7 6 = true) (h1_ : up b 7 7 = true) => (show gb256 ≠ gb255 from by rw [hg]; exact Nat.ne_of_gt ((by cases h8 : b 8 with | true => exact blk_lt (Q_BK255_e8 h8) | false => exact blk_lt (Q_BK255 ((up_ne (by decide)).symm.trans h0_) h8))))
            have z_NB255_256 := fun (h0_ : up b 7 6 = true) (h1_ : up b 7 7 = true) => (show gb255 ≠ gb256 from by rw [hg]; exact Nat.ne_of_lt ((by cases h8 : b 8 with | true => exact blk_lt (Q_BK255_e8 h8) | false => exact blk_lt (Q_BK255 ((up_ne (by decide)).symm.trans h0_) h8))))
            have z_BK255 := fun (h0_ : b 6 = true) (h1_ : b 8 = false) => (show w248.heap[gb255]? = some (.cells #[.int .i64 0, .int .i64 0, .string (⟨#[]⟩ : ByteArray)] 29 (0, 0)) from by first | exact (blk_below (g := gb255) (o := .cells #[.int .i64 0, .int .i64 0, .string (⟨#[]⟩ : ByteArray)] 29 (0, 0)) (by (with_reducible repeat (first | refine blk_drewN ?_ _ | refine blk_drew ?_ | refine blk_alloc ?_ _)); exact (Q_BK255 h0_ h1_)) hb))
            clear BK186
            clear BK187
            clear BK188
            clear BK239
            clear HB
            have BK186 := n0_
            have BK187 := n1_
            have BK188 := n2_
            have BK239 := n3_
            have HB := n4_
            have BK256 := n5_
            have GW256 := n6_
            have GE256 := n7_
            have NB186_256 := n8_
            have NB256_186 := n9_
            have NB187_256 := n10_
            have NB256_187 := n11_
            have NB188_256 := n12_
            have NB256_188 := n13_
            have NB239_256 := n14_
            have NB256_239 := n15_
            clear n0_ n1_ n2_ n3_ n4_ n5_ n6_ n7_ n8_ n9_ n10_ n11_ n12_ n13_ n14_ n15_
            clear hb hbox hg
            refine hK.out _ _ ⟨gb255, gb256, m6_, (.pointer (some ⟨gb256, 0, none⟩)), (by rw [ha.out]; exact putSel_upk 7 hb_ rfl rfl rfl), (by (with_reducible repeat (first | refine blk_drewN ?_ _ | refine blk_drew ?_ | refine blk_alloc ?_ _)); exact BK186.out), (by (with_reducible repeat (first | refine blk_drewN ?_ _ | refine blk_drew ?_ | refine blk_alloc ?_ _)); exact BK187.out), (by (with_reducible repeat (first | refine blk_drewN ?_ _ | refine blk_drew ?_ | refine blk_alloc ?_ _)); exact BK188.out), (by (with_reducible repeat (first | refine blk_drewN ?_ _ | refine blk_drew ?_ | refine blk_alloc ?_ _)); exact BK239.out), (by repeat (first | (with_reducible first | exact HB.out | apply below_alloc | apply pw_below_drewN | apply below_drew1 | refine below_set ?_ GE186.out | refine below_set ?_ GE187.out | refine below_set ?_ GE188.out | refine below_set ?_ GE239.out | refine below_set ?_ GE256.out) | exact HB.out)), z_NB256_255, z_NB255_256, z_BK255, Q_GW255, Q_GE255, Q_NB186_255, Q_NB255_186, Q_NB187_255, Q_NB255_187, Q_NB188_255, Q_NB255_188, Q_NB239_255, Q_NB255_239, fun _ _ => (by (with_reducible repeat (first | refine blk_drewN ?_ _ | refine blk_drew ?_ | refine blk_alloc ?_ _)); exact BK256.out), fun _ => GW256.out, fun _ => GE256.out, fun _ => NB186_256.out, fun _ => NB256_186.out, fun _ => NB187_256.out, fun _ => NB256_187.out, fun _ => NB188_256.out, fun _ => NB256_188.out, fun _ => NB239_256.out, fun _ => NB256_239.out, fun h0_ => absurd ((hoff 8 (by kernel_rfl)).symm.trans h0_) (by decide), fun h0_ => absurd ((hoff 9 (by kernel_rfl)).symm.trans h0_) (by decide), Q_X6_, fun _ => rfl⟩
          refine steps_cons ?_ ?_
          · rintro b a w' ⟨gb255, gb256, m6_, m7_, ha, Q_BK186, Q_BK187, Q_BK188, Q_BK239, Q_HB, Q_NB256_255, Q_NB255_256, Q_BK255, Q_GW255, Q_GE255, Q_NB186_255, Q_NB255_186, Q_NB187_255, Q_NB255_187, Q_NB188_255, Q_NB255_188, Q_NB239_255, Q_NB255_239, Q_BK256, Q_GW256, Q_GE256, Q_NB186_256, Q_NB256_186, Q_NB187_256, Q_NB256_187, Q_NB188_256, Q_NB256_188, Q_NB239_256, Q_NB256_239, Q_BK255_e8, Q_BK256_e9, Q_X6_, Q_X7_⟩ hb_ hon hoff
            refine ⟨_, rfl, fun K hK => ?_⟩
            have e11 : a.tmps[11]? = some (m6_) := by rw [ha]; exact putSel_on (e := (6, 11, m6_)) 6 rfl rfl (hon 6 (by kernel_rfl)) rfl
            rw [Q_X6_ (hon 6 (by kernel_rfl))] at e11
            have e119 : a.tmps[119]? = some (.agg #[.int .i64 d0, .int .i64 d1, .string d2]) := by rw [ha]; exact putSel_on (e := (2, 119, .agg #[.int .i64 d0, .int .i64 d1, .string d2])) 2 rfl rfl (hon 2 (by kernel_rfl)) rfl
            replace ha := Aside0.mk ha
            have BK186 := Aside0.mk Q_BK186
            have BK187 := Aside0.mk Q_BK187
            have BK188 := Aside0.mk Q_BK188
            have BK239 := Aside0.mk Q_BK239
            have HB := Aside0.mk Q_HB
            have NB256_255 := Aside0.mk (Q_NB256_255 (hon 6 (by kernel_rfl)) (hon 7 (by kernel_rfl)))
            have NB255_256 := Aside0.mk (Q_NB255_256 (hon 6 (by kernel_rfl)) (hon 7 (by kernel_rfl)))
            have BK255 := Aside0.mk (Q_BK255 (hon 6 (by kernel_rfl)) hb_)
            have GW255 := Aside0.mk (Q_GW255 (hon 6 (by kernel_rfl)))
            have GE255 := Aside0.mk (Q_GE255 (hon 6 (by kernel_rfl)))
            have NB186_255 := Aside0.mk (Q_NB186_255 (hon 6 (by kernel_rfl)))
            have NB255_186 := Aside0.mk (Q_NB255_186 (hon 6 (by kernel_rfl)))
            have NB187_255 := Aside0.mk (Q_NB187_255 (hon 6 (by kernel_rfl)))
            have NB255_187 := Aside0.mk (Q_NB255_187 (hon 6 (by kernel_rfl)))
            have NB188_255 := Aside0.mk (Q_NB188_255 (hon 6 (by kernel_rfl)))
            have NB255_188 := Aside0.mk (Q_NB255_188 (hon 6 (by kernel_rfl)))
            have NB239_255 := Aside0.mk (Q_NB239_255 (hon 6 (by kernel_rfl)))
            have NB255_239 := Aside0.mk (Q_NB255_239 (hon 6 (by kernel_rfl)))
            have BK256 := Aside0.mk (Q_BK256 (hon 7 (by kernel_rfl)) (hoff 9 (by kernel_rfl)))
            have GW256 := Aside0.mk (Q_GW256 (hon 7 (by kernel_rfl)))
            have GE256 := Aside0.mk (Q_GE256 (hon 7 (by kernel_rfl)))
            have NB186_256 := Aside0.mk (Q_NB186_256 (hon 7 (by kernel_rfl)))
            have NB256_186 := Aside0.mk (Q_NB256_186 (hon 7 (by kernel_rfl)))
            have NB187_256 := Aside0.mk (Q_NB187_256 (hon 7 (by kernel_rfl)))
            have NB256_187 := Aside0.mk (Q_NB256_187 (hon 7 (by kernel_rfl)))
            have NB188_256 := Aside0.mk (Q_NB188_256 (hon 7 (by kernel_rfl)))
            have NB256_188 := Aside0.mk (Q_NB256_188 (hon 7 (by kernel_rfl)))
            have NB239_256 := Aside0.mk (Q_NB239_256 (hon 7 (by kernel_rfl)))
            have NB256_239 := Aside0.mk (Q_NB256_239 (hon 7 (by kernel_rfl)))
            have hs253 : w'.cell? ⟨gb255, 0, none⟩ = some (.int .i64 0) := (blk_cell BK255.out 0).trans rfl
            have hfs253 := blk_frozen BK255.out 0
            have hns253_0 := NB186_255.out
            have hns253_1 := NB187_255.out
            have hns253_2 := NB188_255.out
            have hns253_3 := NB239_255.out
            have hns253_5 := NB256_255.out
            have hms253_0 := NB255_186.out
            have hms253_1 := NB255_187.out
            have hms253_2 := NB255_188.out
            have hms253_3 := NB255_239.out
            have hms253_5 := NB255_256.out
            have hs254 : w'.cell? ⟨gb255, 1, none⟩ = some (.int .i64 0) := (blk_cell BK255.out 1).trans rfl
            have hfs254 := blk_frozen BK255.out 1
            have hns254_0 := NB186_255.out
            have hns254_1 := NB187_255.out
            have hns254_2 := NB188_255.out
            have hns254_3 := NB239_255.out
            have hns254_5 := NB256_255.out
            have hms254_0 := NB255_186.out
            have hms254_1 := NB255_187.out
            have hms254_2 := NB255_188.out
            have hms254_3 := NB255_239.out
            have hms254_5 := NB255_256.out
            have hs255 : w'.cell? ⟨gb255, 2, none⟩ = some (.string (⟨#[]⟩ : ByteArray)) := (blk_cell BK255.out 2).trans rfl
            have hfs255 := blk_frozen BK255.out 2
            have hns255_0 := NB186_255.out
            have hns255_1 := NB187_255.out
            have hns255_2 := NB188_255.out
            have hns255_3 := NB239_255.out
            have hns255_5 := NB256_255.out
            have hms255_0 := NB255_186.out
            have hms255_1 := NB255_187.out
            have hms255_2 := NB255_188.out
            have hms255_3 := NB255_239.out
            have hms255_5 := NB255_256.out
            refine skip_ (w1 := ?_) (by rfl) rfl ?_ ?_
            rotate_left
            · go_simp
              rfl
            refine hK.out _ _ ⟨gb255, gb256, m6_, m7_, (by rw [ha.out]; exact putSel_none (v := undef) rfl), (by (with_reducible repeat (first | refine blk_drewN ?_ _ | refine blk_drew ?_ | refine blk_alloc ?_ _)); refine blk_far ?_ NB186_255.out _; (with_reducible repeat (first | refine blk_drewN ?_ _ | refine blk_drew ?_ | refine blk_alloc ?_ _)); refine blk_far ?_ NB186_255.out _; (with_reducible repeat (first | refine blk_drewN ?_ _ | refine blk_drew ?_ | refine blk_alloc ?_ _)); refine blk_far ?_ NB186_255.out _; (with_reducible repeat (first | refine blk_drewN ?_ _ | refine blk_drew ?_ | refine blk_alloc ?_ _)); exact BK186.out), (by (with_reducible repeat (first | refine blk_drewN ?_ _ | refine blk_drew ?_ | refine blk_alloc ?_ _)); refine blk_far ?_ NB187_255.out _; (with_reducible repeat (first | refine blk_drewN ?_ _ | refine blk_drew ?_ | refine blk_alloc ?_ _)); refine blk_far ?_ NB187_255.out _; (with_reducible repeat (first | refine blk_drewN ?_ _ | refine blk_drew ?_ | refine blk_alloc ?_ _)); refine blk_far ?_ NB187_255.out _; (with_reducible repeat (first | refine blk_drewN ?_ _ | refine blk_drew ?_ | refine blk_alloc ?_ _)); exact BK187.out), (by (with_reducible repeat (first | refine blk_drewN ?_ _ | refine blk_drew ?_ | refine blk_alloc ?_ _)); refine blk_far ?_ NB188_255.out _; (with_reducible repeat (first | refine blk_drewN ?_ _ | refine blk_drew ?_ | refine blk_alloc ?_ _)); refine blk_far ?_ NB188_255.out _; (with_reducible repeat (first | refine blk_drewN ?_ _ | refine blk_drew ?_ | refine blk_alloc ?_ _)); refine blk_far ?_ NB188_255.out _; (with_reducible repeat (first | refine blk_drewN ?_ _ | refine blk_drew ?_ | refine blk_alloc ?_ _)); exact BK188.out), (by (with_reducible repeat (first | refine blk_drewN ?_ _ | refine blk_drew ?_ | refine blk_alloc ?_ _)); refine blk_far ?_ NB239_255.out _; (with_reducible repeat (first | refine blk_drewN ?_ _ | refine blk_drew ?_ | refine blk_alloc ?_ _)); refine blk_far ?_ NB239_255.out _; (with_reducible repeat (first | refine blk_drewN ?_ _ | refine blk_drew ?_ | refine blk_alloc ?_ _)); refine blk_far ?_ NB239_255.out _; (with_reducible repeat (first | refine blk_drewN ?_ _ | refine blk_drew ?_ | refine blk_alloc ?_ _)); exact BK239.out), (by repeat (first | (with_reducible first | exact HB.out | apply below_alloc | apply pw_below_drewN | apply below_drew1 | refine below_set ?_ GE186.out | refine below_set ?_ GE187.out | refine below_set ?_ GE188.out | refine below_set ?_ GE239.out | refine below_set ?_ GE255.out | refine below_set ?_ GE256.out) | exact HB.out)), fun _ _ => NB256_255.out, fun _ _ => NB255_256.out, fun _ h1_ => absurd ((up_self b 8).symm.trans h1_) (by decide), fun _ => GW255.out, fun _ => GE255.out, fun _ => NB186_255.out, fun _ => NB255_186.out, fun _ => NB187_255.out, fun _ => NB255_187.out, fun _ => NB188_255.out, fun _ => NB255_188.out, fun _ => NB239_255.out, fun _ => NB255_239.out, fun _ _ => (by (with_reducible repeat (first | refine blk_drewN ?_ _ | refine blk_drew ?_ | refine blk_alloc ?_ _)); refine blk_far ?_ NB256_255.out _; (with_reducible repeat (first | refine blk_drewN ?_ _ | refine blk_drew ?_ | refine blk_alloc ?_ _)); refine blk_far ?_ NB256_255.out _; (with_reducible repeat (first | refine blk_drewN ?_ _ | refine blk_drew ?_ | refine blk_alloc ?_ _)); refine blk_far ?_ NB256_255.out _; (with_reducible repeat (first | refine blk_drewN ?_ _ | refine blk_drew ?_ | refine blk_alloc ?_ _)); exact BK256.out), fun _ => GW256.out, fun _ => GE256.out, fun _ => NB186_256.out, fun _ => NB256_186.out, fun _ => NB187_256.out, fun _ => NB256_187.out, fun _ => NB188_256.out, fun _ => NB256_188.out, fun _ => NB239_256.out, fun _ => NB256_239.out, fun _ => (by (with_reducible repeat (first | refine blk_drewN ?_ _ | refine blk_drew ?_ | refine blk_alloc ?_ _)); refine blk_put (cs := #[.int .i64 d0, .int .i64 d1, .string (⟨#[]⟩ : ByteArray)]) ?_ 2 _ rfl; (with_reducible repeat (first | refine blk_drewN ?_ _ | refine blk_drew ?_ | refine blk_alloc ?_ _)); refine blk_put (cs := #[.int .i64 d0, .int .i64 0, .string (⟨#[]⟩ : ByteArray)]) ?_ 1 _ rfl; (with_reducible repeat (first | refine blk_drewN ?_ _ | refine blk_drew ?_ | refine blk_alloc ?_ _)); refine blk_put (cs := #[.int .i64 0, .int .i64 0, .string (⟨#[]⟩ : ByteArray)]) ?_ 0 _ rfl; (with_reducible repeat (first | refine blk_drewN ?_ _ | refine blk_drew ?_ | refine blk_alloc ?_ _)); exact BK255.out), fun h0_ => absurd ((hoff 9 (by kernel_rfl)).symm.trans h0_) (by decide), Q_X6_, Q_X7_⟩
          refine steps_cons ?_ ?_
          · rintro b a w' ⟨gb255, gb256, m6_, m7_, ha, Q_BK186, Q_BK187, Q_BK188, Q_BK239, Q_HB, Q_NB256_255, Q_NB255_256, Q_BK255, Q_GW255, Q_GE255, Q_NB186_255, Q_NB255_186, Q_NB187_255, Q_NB255_187, Q_NB188_255, Q_NB255_188, Q_NB239_255, Q_NB255_239, Q_BK256, Q_GW256, Q_GE256, Q_NB186_256, Q_NB256_186, Q_NB187_256, Q_NB256_187, Q_NB188_256, Q_NB256_188, Q_NB239_256, Q_NB256_239, Q_BK255_e8, Q_BK256_e9, Q_X6_, Q_X7_⟩ hb_ hon hoff
            refine ⟨_, rfl, fun K hK => ?_⟩
            have e12 : a.tmps[12]? = some (m7_) := by rw [ha]; exact putSel_on (e := (7, 12, m7_)) 7 rfl rfl (hon 7 (by kernel_rfl)) rfl
            rw [Q_X7_ (hon 7 (by kernel_rfl))] at e12
            have e122 : a.tmps[122]? = some (.agg #[.int .i64 o0, .int .i64 o1, .string o2]) := by rw [ha]; exact putSel_on (e := (5, 122, .agg #[.int .i64 o0, .int .i64 o1, .string o2])) 5 rfl rfl (hon 5 (by kernel_rfl)) rfl
            replace ha := Aside0.mk ha
            have BK186 := Aside0.mk Q_BK186
            have BK187 := Aside0.mk Q_BK187
            have BK188 := Aside0.mk Q_BK188
            have BK239 := Aside0.mk Q_BK239
            have HB := Aside0.mk Q_HB
            have NB256_255 := Aside0.mk (Q_NB256_255 (hon 6 (by kernel_rfl)) (hon 7 (by kernel_rfl)))
            have NB255_256 := Aside0.mk (Q_NB255_256 (hon 6 (by kernel_rfl)) (hon 7 (by kernel_rfl)))
            have GW255 := Aside0.mk (Q_GW255 (hon 6 (by kernel_rfl)))
            have GE255 := Aside0.mk (Q_GE255 (hon 6 (by kernel_rfl)))
            have NB186_255 := Aside0.mk (Q_NB186_255 (hon 6 (by kernel_rfl)))
            have NB255_186 := Aside0.mk (Q_NB255_186 (hon 6 (by kernel_rfl)))
            have NB187_255 := Aside0.mk (Q_NB187_255 (hon 6 (by kernel_rfl)))
            have NB255_187 := Aside0.mk (Q_NB255_187 (hon 6 (by kernel_rfl)))
            have NB188_255 := Aside0.mk (Q_NB188_255 (hon 6 (by kernel_rfl)))
            have NB255_188 := Aside0.mk (Q_NB255_188 (hon 6 (by kernel_rfl)))
            have NB239_255 := Aside0.mk (Q_NB239_255 (hon 6 (by kernel_rfl)))
            have NB255_239 := Aside0.mk (Q_NB255_239 (hon 6 (by kernel_rfl)))
            have BK256 := Aside0.mk (Q_BK256 (hon 7 (by kernel_rfl)) hb_)
            have GW256 := Aside0.mk (Q_GW256 (hon 7 (by kernel_rfl)))
            have GE256 := Aside0.mk (Q_GE256 (hon 7 (by kernel_rfl)))
            have NB186_256 := Aside0.mk (Q_NB186_256 (hon 7 (by kernel_rfl)))
            have NB256_186 := Aside0.mk (Q_NB256_186 (hon 7 (by kernel_rfl)))
            have NB187_256 := Aside0.mk (Q_NB187_256 (hon 7 (by kernel_rfl)))
            have NB256_187 := Aside0.mk (Q_NB256_187 (hon 7 (by kernel_rfl)))
            have NB188_256 := Aside0.mk (Q_NB188_256 (hon 7 (by kernel_rfl)))
            have NB256_188 := Aside0.mk (Q_NB256_188 (hon 7 (by kernel_rfl)))
            have NB239_256 := Aside0.mk (Q_NB239_256 (hon 7 (by kernel_rfl)))
            have NB256_239 := Aside0.mk (Q_NB256_239 (hon 7 (by kernel_rfl)))
            have BK255 := Aside0.mk (Q_BK255_e8 (hon 8 (by kernel_rfl)))
            have hs256 : w'.cell? ⟨gb256, 0, none⟩ = some (.int .i64 0) := (blk_cell BK256.out 0).trans rfl
            have hfs256 := blk_frozen BK256.out 0
            have hns256_0 := NB186_256.out
            have hns256_1 := NB187_256.out
            have hns256_2 := NB188_256.out
            have hns256_3 := NB239_256.out
            have hns256_4 := NB255_256.out
            have hms256_0 := NB256_186.out
            have hms256_1 := NB256_187.out
            have hms256_2 := NB256_188.out
            have hms256_3 := NB256_239.out
            have hms256_4 := NB256_255.out
            have hs257 : w'.cell? ⟨gb256, 1, none⟩ = some (.int .i64 0) := (blk_cell BK256.out 1).trans rfl
            have hfs257 := blk_frozen BK256.out 1
            have hns257_0 := NB186_256.out
            have hns257_1 := NB187_256.out
            have hns257_2 := NB188_256.out
            have hns257_3 := NB239_256.out
            have hns257_4 := NB255_256.out
            have hms257_0 := NB256_186.out
            have hms257_1 := NB256_187.out
            have hms257_2 := NB256_188.out
            have hms257_3 := NB256_239.out
            have hms257_4 := NB256_255.out
            have hs258 : w'.cell? ⟨gb256, 2, none⟩ = some (.string (⟨#[]⟩ : ByteArray)) := (blk_cell BK256.out 2).trans rfl
            have hfs258 := blk_frozen BK256.out 2
            have hns258_0 := NB186_256.out
            have hns258_1 := NB187_256.out
            have hns258_2 := NB188_256.out
            have hns258_3 := NB239_256.out
            have hns258_4 := NB255_256.out
            have hms258_0 := NB256_186.out
            have hms258_1 := NB256_187.out
            have hms258_2 := NB256_188.out
            have hms258_3 := NB256_239.out
            have hms258_4 := NB256_255.out
            refine skip_ (w1 := ?_) (by rfl) rfl ?_ ?_
            rotate_left
            · go_simp
              rfl
            refine hK.out _ _ ⟨gb255, gb256, m6_, m7_, (by rw [ha.out]; exact putSel_none (v := undef) rfl), (by (with_reducible repeat (first | refine blk_drewN ?_ _ | refine blk_drew ?_ | refine blk_alloc ?_ _)); refine blk_far ?_ NB186_256.out _; (with_reducible repeat (first | refine blk_drewN ?_ _ | refine blk_drew ?_ | refine blk_alloc ?_ _)); refine blk_far ?_ NB186_256.out _; (with_reducible repeat (first | refine blk_drewN ?_ _ | refine blk_drew ?_ | refine blk_alloc ?_ _)); refine blk_far ?_ NB186_256.out _; (with_reducible repeat (first | refine blk_drewN ?_ _ | refine blk_drew ?_ | refine blk_alloc ?_ _)); exact BK186.out), (by (with_reducible repeat (first | refine blk_drewN ?_ _ | refine blk_drew ?_ | refine blk_alloc ?_ _)); refine blk_far ?_ NB187_256.out _; (with_reducible repeat (first | refine blk_drewN ?_ _ | refine blk_drew ?_ | refine blk_alloc ?_ _)); refine blk_far ?_ NB187_256.out _; (with_reducible repeat (first | refine blk_drewN ?_ _ | refine blk_drew ?_ | refine blk_alloc ?_ _)); refine blk_far ?_ NB187_256.out _; (with_reducible repeat (first | refine blk_drewN ?_ _ | refine blk_drew ?_ | refine blk_alloc ?_ _)); exact BK187.out), (by (with_reducible repeat (first | refine blk_drewN ?_ _ | refine blk_drew ?_ | refine blk_alloc ?_ _)); refine blk_far ?_ NB188_256.out _; (with_reducible repeat (first | refine blk_drewN ?_ _ | refine blk_drew ?_ | refine blk_alloc ?_ _)); refine blk_far ?_ NB188_256.out _; (with_reducible repeat (first | refine blk_drewN ?_ _ | refine blk_drew ?_ | refine blk_alloc ?_ _)); refine blk_far ?_ NB188_256.out _; (with_reducible repeat (first | refine blk_drewN ?_ _ | refine blk_drew ?_ | refine blk_alloc ?_ _)); exact BK188.out), (by (with_reducible repeat (first | refine blk_drewN ?_ _ | refine blk_drew ?_ | refine blk_alloc ?_ _)); refine blk_far ?_ NB239_256.out _; (with_reducible repeat (first | refine blk_drewN ?_ _ | refine blk_drew ?_ | refine blk_alloc ?_ _)); refine blk_far ?_ NB239_256.out _; (with_reducible repeat (first | refine blk_drewN ?_ _ | refine blk_drew ?_ | refine blk_alloc ?_ _)); refine blk_far ?_ NB239_256.out _; (with_reducible repeat (first | refine blk_drewN ?_ _ | refine blk_drew ?_ | refine blk_alloc ?_ _)); exact BK239.out), (by repeat (first | (with_reducible first | exact HB.out | apply below_alloc | apply pw_below_drewN | apply below_drew1 | refine below_set ?_ GE186.out | refine below_set ?_ GE187.out | refine below_set ?_ GE188.out | refine below_set ?_ GE239.out | refine below_set ?_ GE255.out | refine below_set ?_ GE256.out) | exact HB.out)), fun _ _ => NB256_255.out, fun _ _ => NB255_256.out, fun _ h1_ => absurd ((hon 8 (by kernel_rfl)).symm.trans h1_) (by decide), fun _ => GW255.out, fun _ => GE255.out, fun _ => NB186_255.out, fun _ => NB255_186.out, fun _ => NB187_255.out, fun _ => NB255_187.out, fun _ => NB188_255.out, fun _ => NB255_188.out, fun _ => NB239_255.out, fun _ => NB255_239.out, fun _ h1_ => absurd ((up_self b 9).symm.trans h1_) (by decide), fun _ => GW256.out, fun _ => GE256.out, fun _ => NB186_256.out, fun _ => NB256_186.out, fun _ => NB187_256.out, fun _ => NB256_187.out, fun _ => NB188_256.out, fun _ => NB256_188.out, fun _ => NB239_256.out, fun _ => NB256_239.out, fun _ => (by (with_reducible repeat (first | refine blk_drewN ?_ _ | refine blk_drew ?_ | refine blk_alloc ?_ _)); refine blk_far ?_ NB255_256.out _; (with_reducible repeat (first | refine blk_drewN ?_ _ | refine blk_drew ?_ | refine blk_alloc ?_ _)); refine blk_far ?_ NB255_256.out _; (with_reducible repeat (first | refine blk_drewN ?_ _ | refine blk_drew ?_ | refine blk_alloc ?_ _)); refine blk_far ?_ NB255_256.out _; (with_reducible repeat (first | refine blk_drewN ?_ _ | refine blk_drew ?_ | refine blk_alloc ?_ _)); exact BK255.out), fun _ => (by (with_reducible repeat (first | refine blk_drewN ?_ _ | refine blk_drew ?_ | refine blk_alloc ?_ _)); refine blk_put (cs := #[.int .i64 o0, .int .i64 o1, .string (⟨#[]⟩ : ByteArray)]) ?_ 2 _ rfl; (with_reducible repeat (first | refine blk_drewN ?_ _ | refine blk_drew ?_ | refine blk_alloc ?_ _)); refine blk_put (cs := #[.int .i64 o0, .int .i64 0, .string (⟨#[]⟩ : ByteArray)]) ?_ 1 _ rfl; (with_reducible repeat (first | refine blk_drewN ?_ _ | refine blk_drew ?_ | refine blk_alloc ?_ _)); refine blk_put (cs := #[.int .i64 0, .int .i64 0, .string (⟨#[]⟩ : ByteArray)]) ?_ 0 _ rfl; (with_reducible repeat (first | refine blk_drewN ?_ _ | refine blk_drew ?_ | refine blk_alloc ?_ _)); exact BK256.out), Q_X6_, Q_X7_⟩
          exact steps_nil
        rintro b a w258 hall ⟨gb255, gb256, m6_, m7_, ha, Q_BK186, Q_BK187, Q_BK188, Q_BK239, Q_HB, Q_NB256_255, Q_NB255_256, Q_BK255, Q_GW255, Q_GE255, Q_NB186_255, Q_NB255_186, Q_NB187_255, Q_NB255_187, Q_NB188_255, Q_NB255_188, Q_NB239_255, Q_NB255_239, Q_BK256, Q_GW256, Q_GE256, Q_NB186_256, Q_NB256_186, Q_NB187_256, Q_NB256_187, Q_NB188_256, Q_NB256_188, Q_NB239_256, Q_NB256_239, Q_BK255_e8, Q_BK256_e9, Q_X6_, Q_X7_⟩
        clear BK186 BK187 BK188 BK239 HB
        have hb0_ := hall 0 (by kernel_rfl)
        have hb1_ := hall 1 (by kernel_rfl)
        have hb2_ := hall 2 (by kernel_rfl)
        have hb3_ := hall 3 (by kernel_rfl)
        have hb4_ := hall 4 (by kernel_rfl)
        have hb5_ := hall 5 (by kernel_rfl)
        have hb6_ := hall 6 (by kernel_rfl)
        have hb7_ := hall 7 (by kernel_rfl)
        have hb8_ := hall 8 (by kernel_rfl)
        have hb9_ := hall 9 (by kernel_rfl)
        subst ha
        obtain rfl := Q_X6_ hb6_
        obtain rfl := Q_X7_ hb7_
        simp only [putSel, hb0_, hb1_, hb2_, hb3_, hb4_, hb5_, hb6_, hb7_, hb8_, hb9_, if_true, Act.put, List.setIfInBounds_toArray, List.set_cons_zero, List.set_cons_succ]
        have BK186 := Aside0.mk Q_BK186
        clear Q_BK186
        have BK187 := Aside0.mk Q_BK187
        clear Q_BK187
        have BK188 := Aside0.mk Q_BK188
        clear Q_BK188
        have BK239 := Aside0.mk Q_BK239
        clear Q_BK239
        have HB := Aside0.mk Q_HB
        clear Q_HB
        have NB256_255 := Aside0.mk (Q_NB256_255 hb6_ hb7_)
        clear Q_NB256_255
        have NB255_256 := Aside0.mk (Q_NB255_256 hb6_ hb7_)
        clear Q_NB255_256
        clear Q_BK255
        have GW255 := Aside0.mk (Q_GW255 hb6_)
        clear Q_GW255
        have GE255 := Aside0.mk (Q_GE255 hb6_)
        clear Q_GE255
        have NB186_255 := Aside0.mk (Q_NB186_255 hb6_)
        clear Q_NB186_255
        have NB255_186 := Aside0.mk (Q_NB255_186 hb6_)
        clear Q_NB255_186
        have NB187_255 := Aside0.mk (Q_NB187_255 hb6_)
        clear Q_NB187_255
        have NB255_187 := Aside0.mk (Q_NB255_187 hb6_)
        clear Q_NB255_187
        have NB188_255 := Aside0.mk (Q_NB188_255 hb6_)
        clear Q_NB188_255
        have NB255_188 := Aside0.mk (Q_NB255_188 hb6_)
        clear Q_NB255_188
        have NB239_255 := Aside0.mk (Q_NB239_255 hb6_)
        clear Q_NB239_255
        have NB255_239 := Aside0.mk (Q_NB255_239 hb6_)
        clear Q_NB255_239
        clear Q_BK256
        have GW256 := Aside0.mk (Q_GW256 hb7_)
        clear Q_GW256
        have GE256 := Aside0.mk (Q_GE256 hb7_)
        clear Q_GE256
        have NB186_256 := Aside0.mk (Q_NB186_256 hb7_)
        clear Q_NB186_256
        have NB256_186 := Aside0.mk (Q_NB256_186 hb7_)
        clear Q_NB256_186
        have NB187_256 := Aside0.mk (Q_NB187_256 hb7_)
        clear Q_NB187_256
        have NB256_187 := Aside0.mk (Q_NB256_187 hb7_)
        clear Q_NB256_187
        have NB188_256 := Aside0.mk (Q_NB188_256 hb7_)
        clear Q_NB188_256
        have NB256_188 := Aside0.mk (Q_NB256_188 hb7_)
        clear Q_NB256_188
        have NB239_256 := Aside0.mk (Q_NB239_256 hb7_)
        clear Q_NB239_256
        have NB256_239 := Aside0.mk (Q_NB256_239 hb7_)
        clear Q_NB256_239
        have BK255 := Aside0.mk (Q_BK255_e8 hb8_)
        clear Q_BK255_e8
        have BK256 := Aside0.mk (Q_BK256_e9 hb9_)
        clear Q_BK256_e9
        clear hall hb0_ hb1_ hb2_ hb3_ hb4_ hb5_ hb6_ hb7_ hb8_ hb9_
        have S10 := Aside0.mk (VX.mk ⟨HB.out, BK186.out, BK187.out, BK188.out⟩ BK255.out BK256.out)
        clear J4 J5
        go_upto_region 10 with (fail)
        rcases JD.out with rfl | rfl
        · have J6a := Aside0.mk (J6.out rfl).1
          have J6b := Aside0.mk (J6.out rfl).2
          clear BK186 BK187 BK188 BK239 HB BK255 BK256
          have hfd : ∀ (W : World), (Instr.field 29 (.agg #[.int .i64 2, .int .i64 5, .string (⟨#[]⟩ : ByteArray)]) 1).run Try.prog W = .ok (.int .i64 5) W := by intros; rfl
          go_wp2_with (fail)
          go_region_held3 (fun w' => w'.cell? ⟨ga, 0, none⟩ = some (.int .i64 a0) ∧ w'.cell? ⟨ga, 1, none⟩ = some (.int .i64 a1) ∧ w'.cell? ⟨ga, 2, none⟩ = some (.string a2) ∧ w'.cell? ⟨gb, 0, none⟩ = some (.int .i64 b0) ∧ w'.cell? ⟨gb, 1, none⟩ = some (.int .i64 b1) ∧ w'.cell? ⟨gb, 2, none⟩ = some (.string b2) ∧ w'.cell? ⟨gb255, 0, none⟩ = some (.int .i64 2) ∧ w'.cell? ⟨gb255, 1, none⟩ = some (.int .i64 d1) ∧ w'.cell? ⟨gb255, 2, none⟩ = some (.string d2) ∧ w'.cell? ⟨gb256, 0, none⟩ = some (.int .i64 o0) ∧ w'.cell? ⟨gb256, 1, none⟩ = some (.int .i64 o1) ∧ w'.cell? ⟨gb256, 2, none⟩ = some (.string o2)) (first | exact T4.out.held | exact T3.out.held | exact T2.out.held | exact T1.out.held | exact S10.out.drew.held)
    (first
    | (have T4 := Aside0.mk T3.out; go_at_call 40; (refine (value_Reckon.calls k 5 2 2 (⟨#[]⟩ : ByteArray) 2 3 (⟨#[]⟩ : ByteArray) 2 5 (⟨#[]⟩ : ByteArray) _ J7.out).mono ?_); rintro eT4 wT4 ⟨rfl, hb⟩; replace T4 := Aside0.mk (T3.out.below hb); clear hb)
    | (have T3 := Aside0.mk T2.out; go_at_call 27; (refine (value_Clean.calls a0 a1 a2 t0 t1 t2 _ J3.out).mono ?_); rintro eT3 wT3 ⟨rfl, hb⟩; replace T3 := Aside0.mk (T2.out.below hb); clear hb)
    | (have T2 := Aside0.mk T1.out; go_at_call 40; (refine (value_Reckon.calls k 5 z0 z1 z2 o0 o1 o2 t0 t1 t2 _ J6b.out).mono ?_); rintro eT2 wT2 ⟨rfl, hb⟩; replace T2 := Aside0.mk (T1.out.below hb); clear hb)
    | (have T1 := Aside0.mk S10.out.drew; go_at_call 40; (refine (value_Reckon.calls k 7 2 d1 d2 b0 b1 b2 z0 z1 z2 _ J6a.out).mono ?_); rintro eT1 wT1 ⟨rfl, hb⟩; replace T1 := Aside0.mk (S10.out.drew.below hb); clear hb))
          go_wp2_with (fail)
          go_ret
          exact ⟨by first | rfl | (simp; done), T4.out.vs.hb⟩
        · have BK186' := Aside0.mk S10.out.vs.drew.ba
          have BK187' := Aside0.mk S10.out.vs.drew.bb
          have BK188' := Aside0.mk S10.out.vs.drew.bc
          have BK255' := Aside0.mk S10.out.drew.bd
          have BK256' := Aside0.mk S10.out.drew.bo
          have HB' := Aside0.mk S10.out.vs.drew.hb
          clear BK186 BK187 BK188 BK239 HB BK255 BK256
          have BK186 := BK186'
          have BK187 := BK187'
          have BK188 := BK188'
          have BK255 := BK255'
          have BK256 := BK256'
          have HB := HB'
          clear BK186' BK187' BK188' BK255' BK256' HB' S10
          go_wp2_with (fail)
          refine start_ (n := 21) (S := fun w' => w'.cell? ⟨gb255, 0, none⟩ = some (.int .i64 0) ∧ w'.cell? ⟨gb255, 1, none⟩ = some (.int .i64 d1) ∧ w'.cell? ⟨gb255, 2, none⟩ = some (.string d2)) (ds := []) #[false, false, false, false, false, false, false, false, false, false, false, false, false, false, false, false, false, false, false, false, false] (by kernel_rfl) rfl rfl ⟨(blk_cell BK255.out 0).trans rfl, (blk_cell BK255.out 1).trans rfl, (blk_cell BK255.out 2).trans rfl⟩ (fun hHeld => ?_); refine with_tabW relstorekeep_ValueLaws.tab10 relstorekeep_ValueLaws.bits10 (fun HT_ HW_ => ?_)
          generalize w258.drew = w292 at BK186 BK187 BK188 BK255 BK256 HB hHeld ⊢
          refine pure_ (i := 0) (N := some 123) (v := ?_) (a' := ?_) #[true, false, false, false, false, false, false, false, false, false, false, false, false, false, false, false, false, false, false, false, false] rfl rfl (any_of HT_.out (by kernel_rfl)) (fun _ _ _ h => h) (Or.inl ⟨by rfl, ?_⟩) ?_ ?_
          rotate_left
          · intro w'
            go_simp
            with_reducible rfl
          rotate_left
          · simp only [Act.put, List.setIfInBounds_toArray, List.set_cons_zero, List.set_cons_succ, i64_w, i32_w]
            rfl
          refine take_ (i := 1) (N := some 124) (v := ?_) (a' := ?_) #[true, true, false, false, false, false, false, false, false, false, false, false, false, false, false, false, false, false, false, false, false] rfl rfl (take_ofW HT_.out HW_.out (by kernel_rfl)) (fun _ _ _ h => h) (Or.inl ⟨by rfl, ?_⟩) hHeld ?_ ?_
          rotate_left
          · rintro w' ⟨s0, s1, s2⟩
            go_simp
            with_reducible rfl
          rotate_left
          · simp only [Act.put, List.setIfInBounds_toArray, List.set_cons_zero, List.set_cons_succ, i64_w, i32_w]
            rfl
          refine pure_ (i := 2) (N := some 125) (v := ?_) (a' := ?_) #[true, true, true, false, false, false, false, false, false, false, false, false, false, false, false, false, false, false, false, false, false] rfl rfl (any_of HT_.out (by kernel_rfl)) (fun _ _ _ h => h) (Or.inl ⟨by rfl, ?_⟩) ?_ ?_
          rotate_left
          · intro w'
            go_simp
            with_reducible rfl
          rotate_left
          · simp only [Act.put, List.setIfInBounds_toArray, List.set_cons_zero, List.set_cons_succ, i64_w, i32_w]
            rfl
          refine pure_ (i := 3) (N := some 126) (v := ?_) (a' := ?_) #[true, true, true, true, false, false, false, false, false, false, false, false, false, false, false, false, false, false, false, false, false] rfl rfl (any_of HT_.out (by kernel_rfl)) (fun _ _ _ h => h) (Or.inl ⟨by rfl, ?_⟩) ?_ ?_
          rotate_left
          · intro w'
            go_simp
            with_reducible rfl
          rotate_left
          · simp only [Act.put, List.setIfInBounds_toArray, List.set_cons_zero, List.set_cons_succ, i64_w, i32_w]
            rfl
          refine pure_ (i := 4) (N := some 127) (v := undef) (a' := ?_) #[true, true, true, true, true, false, false, false, false, false, false, false, false, false, false, false, false, false, false, false, false] rfl rfl (any_of HT_.out (by kernel_rfl)) (fun _ _ _ h => h) (Or.inr ⟨by rfl, rfl⟩) ?_ ?_
          rotate_left
          · simp only [Act.put, List.setIfInBounds_toArray, List.set_cons_zero, List.set_cons_succ, i64_w, i32_w]
            rfl
          refine pure_ (i := 5) (N := some 128) (v := undef) (a' := ?_) #[true, true, true, true, true, true, false, false, false, false, false, false, false, false, false, false, false, false, false, false, false] rfl rfl (any_of HT_.out (by kernel_rfl)) (fun _ _ _ h => h) (Or.inr ⟨by rfl, rfl⟩) ?_ ?_
          rotate_left
          · simp only [Act.put, List.setIfInBounds_toArray, List.set_cons_zero, List.set_cons_succ, i64_w, i32_w]
            rfl
          refine pure_ (i := 6) (N := some 129) (v := undef) (a' := ?_) #[true, true, true, true, true, true, true, false, false, false, false, false, false, false, false, false, false, false, false, false, false] rfl rfl (any_of HT_.out (by kernel_rfl)) (fun _ _ _ h => h) (Or.inr ⟨by rfl, rfl⟩) ?_ ?_
          rotate_left
          · simp only [Act.put, List.setIfInBounds_toArray, List.set_cons_zero, List.set_cons_succ, i64_w, i32_w]
            rfl
          refine pure_ (i := 7) (N := some 130) (v := undef) (a' := ?_) #[true, true, true, true, true, true, true, true, false, false, false, false, false, false, false, false, false, false, false, false, false] rfl rfl (any_of HT_.out (by kernel_rfl)) (fun _ _ _ h => h) (Or.inr ⟨by rfl, rfl⟩) ?_ ?_
          rotate_left
          · simp only [Act.put, List.setIfInBounds_toArray, List.set_cons_zero, List.set_cons_succ, i64_w, i32_w]
            rfl
          refine pure_ (i := 8) (N := some 131) (v := undef) (a' := ?_) #[true, true, true, true, true, true, true, true, true, false, false, false, false, false, false, false, false, false, false, false, false] rfl rfl (any_of HT_.out (by kernel_rfl)) (fun _ _ _ h => h) (Or.inr ⟨by rfl, rfl⟩) ?_ ?_
          rotate_left
          · simp only [Act.put, List.setIfInBounds_toArray, List.set_cons_zero, List.set_cons_succ, i64_w, i32_w]
            rfl
          refine pure_ (i := 9) (N := some 132) (v := undef) (a' := ?_) #[true, true, true, true, true, true, true, true, true, true, false, false, false, false, false, false, false, false, false, false, false] rfl rfl (any_of HT_.out (by kernel_rfl)) (fun _ _ _ h => h) (Or.inr ⟨by rfl, rfl⟩) ?_ ?_
          rotate_left
          · simp only [Act.put, List.setIfInBounds_toArray, List.set_cons_zero, List.set_cons_succ, i64_w, i32_w]
            rfl
          refine pure_ (i := 10) (N := some 133) (v := undef) (a' := ?_) #[true, true, true, true, true, true, true, true, true, true, true, false, false, false, false, false, false, false, false, false, false] rfl rfl (any_of HT_.out (by kernel_rfl)) (fun _ _ _ h => h) (Or.inr ⟨by rfl, rfl⟩) ?_ ?_
          rotate_left
          · simp only [Act.put, List.setIfInBounds_toArray, List.set_cons_zero, List.set_cons_succ, i64_w, i32_w]
            rfl
          refine pure_ (i := 11) (N := some 134) (v := undef) (a' := ?_) #[true, true, true, true, true, true, true, true, true, true, true, true, false, false, false, false, false, false, false, false, false] rfl rfl (any_of HT_.out (by kernel_rfl)) (fun _ _ _ h => h) (Or.inr ⟨by rfl, rfl⟩) ?_ ?_
          rotate_left
          · simp only [Act.put, List.setIfInBounds_toArray, List.set_cons_zero, List.set_cons_succ, i64_w, i32_w]
            rfl
          refine pure_ (i := 12) (N := some 135) (v := undef) (a' := ?_) #[true, true, true, true, true, true, true, true, true, true, true, true, true, false, false, false, false, false, false, false, false] rfl rfl (any_of HT_.out (by kernel_rfl)) (fun _ _ _ h => h) (Or.inr ⟨by rfl, rfl⟩) ?_ ?_
          rotate_left
          · simp only [Act.put, List.setIfInBounds_toArray, List.set_cons_zero, List.set_cons_succ, i64_w, i32_w]
            rfl
          refine pure_ (i := 13) (N := some 136) (v := undef) (a' := ?_) #[true, true, true, true, true, true, true, true, true, true, true, true, true, true, false, false, false, false, false, false, false] rfl rfl (any_of HT_.out (by kernel_rfl)) (fun _ _ _ h => h) (Or.inr ⟨by rfl, rfl⟩) ?_ ?_
          rotate_left
          · simp only [Act.put, List.setIfInBounds_toArray, List.set_cons_zero, List.set_cons_succ, i64_w, i32_w]
            rfl
          refine pure_ (i := 14) (N := some 137) (v := undef) (a' := ?_) #[true, true, true, true, true, true, true, true, true, true, true, true, true, true, true, false, false, false, false, false, false] rfl rfl (any_of HT_.out (by kernel_rfl)) (fun _ _ _ h => h) (Or.inr ⟨by rfl, rfl⟩) ?_ ?_
          rotate_left
          · simp only [Act.put, List.setIfInBounds_toArray, List.set_cons_zero, List.set_cons_succ, i64_w, i32_w]
            rfl
          refine pure_ (i := 15) (N := some 138) (v := undef) (a' := ?_) #[true, true, true, true, true, true, true, true, true, true, true, true, true, true, true, true, false, false, false, false, false] rfl rfl (any_of HT_.out (by kernel_rfl)) (fun _ _ _ h => h) (Or.inr ⟨by rfl, rfl⟩) ?_ ?_
          rotate_left
          · simp only [Act.put, List.setIfInBounds_toArray, List.set_cons_zero, List.set_cons_succ, i64_w, i32_w]
            rfl
          refine pure_ (i := 16) (N := some 139) (v := undef) (a' := ?_) #[true, true, true, true, true, true, true, true, true, true, true, true, true, true, true, true, true, false, false, false, false] rfl rfl (any_of HT_.out (by kernel_rfl)) (fun _ _ _ h => h) (Or.inr ⟨by rfl, rfl⟩) ?_ ?_
          rotate_left
          · simp only [Act.put, List.setIfInBounds_toArray, List.set_cons_zero, List.set_cons_succ, i64_w, i32_w]
            rfl
          refine pure_ (i := 17) (N := some 140) (v := undef) (a' := ?_) #[true, true, true, true, true, true, true, true, true, true, true, true, true, true, true, true, true, true, false, false, false] rfl rfl (any_of HT_.out (by kernel_rfl)) (fun _ _ _ h => h) (Or.inr ⟨by rfl, rfl⟩) ?_ ?_
          rotate_left
          · simp only [Act.put, List.setIfInBounds_toArray, List.set_cons_zero, List.set_cons_succ, i64_w, i32_w]
            rfl
          refine pure_ (i := 18) (N := some 141) (v := undef) (a' := ?_) #[true, true, true, true, true, true, true, true, true, true, true, true, true, true, true, true, true, true, true, false, false] rfl rfl (any_of HT_.out (by kernel_rfl)) (fun _ _ _ h => h) (Or.inr ⟨by rfl, rfl⟩) ?_ ?_
          rotate_left
          · simp only [Act.put, List.setIfInBounds_toArray, List.set_cons_zero, List.set_cons_succ, i64_w, i32_w]
            rfl
          refine pure_ (i := 19) (N := some 142) (v := ?_) (a' := ?_) #[true, true, true, true, true, true, true, true, true, true, true, true, true, true, true, true, true, true, true, true, false] rfl rfl (any_of HT_.out (by kernel_rfl)) (fun _ _ _ h => h) (Or.inl ⟨by rfl, ?_⟩) ?_ ?_
          rotate_left
          · intro w'
            go_simp
            with_reducible rfl
          rotate_left
          · simp only [Act.put, List.setIfInBounds_toArray, List.set_cons_zero, List.set_cons_succ, i64_w, i32_w]
            rfl
          refine pure_ (i := 20) (N := some 6) (v := ?_) (a' := ?_) #[true, true, true, true, true, true, true, true, true, true, true, true, true, true, true, true, true, true, true, true, true] rfl rfl (any_of HT_.out (by kernel_rfl)) (fun _ _ _ h => h) (Or.inl ⟨by rfl, ?_⟩) ?_ ?_
          rotate_left
          · intro w'
            go_simp
            with_reducible rfl
          rotate_left
          · simp only [Act.put, List.setIfInBounds_toArray, List.set_cons_zero, List.set_cons_succ, i64_w, i32_w]
            rfl
          refine done_ (done_of HT_.out (by kernel_rfl)) ?_
          go_wp2_with (fail)
          go_ret
          exact ⟨by first | rfl | (simp; done), HB.out⟩
end Go.Proofs.Ythaoaaboempajaa.QValueLaws
