/- The law PageSeals, walked: it answers true wherever its callees answer as the plain laws tell. Conditions: those answers. -/
import Derived.Test.YthaoaaboempajaaQPageSealsx

namespace Go.Proofs.Ythaoaaboempajaa.QPageSeals
open Go.RowKit Go.Proofs.YthaoaaboempajaaW.PrintWords Go.Proofs.YthaoaaboempajaaW.PrintLast Go.Proofs.YthaoaaboempajaaW.PrintMore Go.Proofs.YthaoaaboempajaaX
set_option linter.unusedVariables false
set_option linter.unusedSimpArgs false
def marks : List ByteArray := [(⟨#[109, 97, 114, 107, 32, 55]⟩ : ByteArray), (⟨#[109, 97, 114, 107, 32, 56]⟩ : ByteArray)]
/-- What stands in memory while the law runs: the page that came in, boxed. -/
structure LS (w0 : World) (gp : Nat) (kd lk : Int) (A : Option Addr) (n c : Nat) (w : World) : Prop where
  hb : Below w0.heap.size w0 w
  bp : w.heap[gp]? = some (.cells #[.int .i64 kd, .int .i64 lk, .slice A n c] 40 (0, 0))
  gp0 : w0.heap.size ≤ gp
theorem LS.below {w0 gp kd lk A n c w w1} (h : LS w0 gp kd lk A n c w) (hb : Below w.heap.size w w1) : LS w0 gp kd lk A n c w1 :=
  ⟨below_step h.hb hb, blk_below h.bp hb, h.gp0⟩
theorem LS.drew {w0 gp kd lk A n c w} (h : LS w0 gp kd lk A n c w) : LS w0 gp kd lk A n c w.drew := ⟨below_drew1 h.hb, blk_drew h.bp, h.gp0⟩
theorem LS.drewN {w0 gp kd lk A n c w} (h : LS w0 gp kd lk A n c w) (m : Nat) : LS w0 gp kd lk A n c (w.drewN m) := ⟨pw_below_drewN h.hb m, blk_drewN h.bp m, h.gp0⟩
theorem LS.held {w0 gp kd lk A n c w} (h : LS w0 gp kd lk A n c w) : w.cell? ⟨gp, 0, none⟩ = some (.int .i64 kd) ∧ w.cell? ⟨gp, 1, none⟩ = some (.int .i64 lk) ∧ w.cell? ⟨gp, 2, none⟩ = some (.slice A n c) :=
  ⟨blk_cell h.bp 0, blk_cell h.bp 1, blk_cell h.bp 2⟩
theorem used_step {kk : Nat} {n : Int} {l : List ByteArray} {j : Nat} {u : Int} (hm : l.length ≤ 9223372036854775807) (hj : j < l.length) (h : page_Used.l0 kk n l (l.length : Int) (j : Int) = some u) :
    ∃ k2, page_Used.l0 k2 (wrap64 (n + wrap64 (4 + ((rdOf ByteArray.empty l (j : Int)).size : Int)))) l (l.length : Int) ((j + 1 : Nat) : Int) = some u := by
  cases kk with
  | zero => simp [page_Used.l0] at h
  | succ k2 =>
    unfold page_Used.l0 at h
    rw [if_pos (by omega), if_pos (by omega), if_pos (by omega)] at h
    refine ⟨k2, ?_⟩
    rwa [show wrap64 ((j : Int) + 1) = ((j + 1 : Nat) : Int) by unfold wrap64; omega] at h
theorem used_end {kk : Nat} {n : Int} {l : List ByteArray} {u : Int} (h : page_Used.l0 kk n l (l.length : Int) (l.length : Int) = some u) : n = u := by
  cases kk with
  | zero => simp [page_Used.l0] at h
  | succ k2 =>
    unfold page_Used.l0 at h
    rw [if_neg (by omega)] at h
    exact Option.some.inj h
/-- The three cells of a page's box are filled. -/
def put3 (W : World) (g : Nat) (a b : Value) (c : Value) : World := ((W.setCell ⟨g, 0, none⟩ a).setCell ⟨g, 1, none⟩ b).setCell ⟨g, 2, none⟩ c
theorem put3_blk {W : World} {g : Nat} {x y z a b c : Value} (h : W.heap[g]? = some (.cells #[x, y, z] 40 (0, 0))) : (put3 W g a b c).heap[g]? = some (.cells #[a, b, c] 40 (0, 0)) :=
  blk_put (blk_put (blk_put h 0 a rfl) 1 b rfl) 2 c rfl
theorem put3_below {B g : Nat} {w W : World} {a b c : Value} (h : Below B w W) (hg : B ≤ g) : Below B w (put3 W g a b c) :=
  ((h.setCell (p := ⟨g, 0, none⟩) hg a).setCell (p := ⟨g, 1, none⟩) hg b).setCell (p := ⟨g, 2, none⟩) hg c
set_option maxHeartbeats 8000000 in
set_option maxRecDepth 100000 in
theorem PageSeals.calls (k : Nat) (kd lk : Int) (A : Option Addr) (c : Nat) (l : List ByteArray) (s : ByteArray) (w : World) (hr : Kd.C Kd.string w A l.length l) (hc : l.length ≤ c)
    (t : ByteArray) (e : Int) (h1 : page_Seal.f k kd lk l = some (t, e)) (h2 : relstoreref_Seal.f k kd lk l = some (t, e))
    (q1 q2 g : Int) (qc : List ByteArray) (h3 : page_Open.f k s = some (q1, q2, qc, g)) (h4 : relstoreref_Open.f k s = some (q1, q2, qc, g))
    (cs : Int) (h5 : page_Sum.f k s = some cs) (h6 : relstoreref_Sum.f k s = some cs) (u : Int) (h7 : page_Used.f k l = some u)
    (h8 : relstorelaw_lentTexts.f l = some (l ++ marks)) (h9 : relstorelaw_backTexts.f k (l ++ marks) l = some true) (h10 : relstorelaw_sameTexts.f k qc qc = some true) :
    Calls Try.prog 6 #[.agg #[.int .i64 kd, .int .i64 lk, .slice A l.length c], .string s] w fun e w' => e = .returned (.bool true) ∧ Below w.heap.size w w' := by
  have HR := Aside0.mk hr
  have H1 := Aside0.mk h1
  have H2 := Aside0.mk h2
  have H3 := Aside0.mk h3
  have H4 := Aside0.mk h4
  have H5 := Aside0.mk h5
  have H6 := Aside0.mk h6
  have H7 := Aside0.mk h7
  have H8 := Aside0.mk h8
  have H9 := Aside0.mk h9
  have H10 := Aside0.mk h10
  have HC := Aside0.mk hc
  clear hr h1 h2 h3 h4 h5 h6 h7 h8 h9 h10 hc
  go_enter Try.func6, Try.ntmps6
  go_upto_region 1 with (first | ((with_reducible refine gate_dst (N := 2) rfl ?_); refine box_event ?hg (N := 2) ?hd (cs := #[.int .i64 kd, .int .i64 lk, .slice A l.length c]) (t := 40) ?hr ?_; (case hd => rfl); (case hg => rfl); (case hr => first | (go_simp; done) | (go_simp; rfl)); intro gp hgp w1 hbox hb; have S := Aside0.mk (LS.mk (w0 := w) hb hbox (Nat.le_of_eq hgp.symm)); clear hgp hb hbox))
  have c2 := blk_cell S.out.bp 2
  simp only [List.getElem?_toArray, List.getElem?_cons_zero, List.getElem?_cons_succ] at c2
  have HR1 := Aside0.mk (Kd.C_below HR.out S.out.hb)
  go_upto_region 2 with (first | (go_at_call 29; (with_reducible refine (relstorelaw_lentTexts.calls A c l (l ++ marks) _ HR1.out HC.out H8.out).mono ?_); rintro e w2 ⟨v2, rfl, ho, hb⟩; obtain ⟨Ax, cx, rfl⟩ := Kd.R_slice ho; have S2 := Aside0.mk (S.out.below hb); have R2 := Aside0.mk (Kd.R_reads' ho); clear ho hb))
  have RX : Aside0 (Kd.C Kd.string w2 Ax l.length l ∧ l.length ≤ cx) := ⟨by
    have h := R2.out
    have := Kd.C_take h.2.2 (m := l.length) (by simp)
    rw [List.take_left] at this
    have h2 := h.2.1
    rw [List.length_append] at h2
    exact ⟨this, by omega⟩⟩
  obtain ⟨i9, hi9⟩ : ∃ i, Try.prog.info? 9 = some i := Option.isSome_iff_exists.1 (by kernel_rfl)
  have sl_ := cut_to (P := Try.prog) 38 9 .i64 Try.underlying38 hi9 Ax (l ++ marks).length cx (l.length : Int) (by omega) (by simp; omega) R2.out.2.1
  rw [Int.toNat_natCast, List.length_append] at sl_
  have RF := Aside0.mk (show Kd.C Kd.string w2 Ax (l ++ marks).length (l ++ marks) ∧ (l ++ marks).length ≤ cx from ⟨R2.out.2.2, R2.out.2.1⟩)
  clear R2 S c2 HR1
  have c0 := blk_cell S2.out.bp 0
  have c1 := blk_cell S2.out.bp 1
  have c2 := blk_cell S2.out.bp 2
  simp only [List.getElem?_toArray, List.getElem?_cons_zero, List.getElem?_cons_succ] at c0 c1 c2
  have RX2 := Aside0.mk (Kd.C_below RX.out.1 (pw_below_drewN (Below.refl _ _) 1))
  clear c0 c1 c2
  go_region_held3 (fun w' => w'.cell? ⟨gp, 0, none⟩ = some (.int .i64 kd) ∧ w'.cell? ⟨gp, 1, none⟩ = some (.int .i64 lk) ∧ w'.cell? ⟨gp, 2, none⟩ = some (.slice A l.length c)) (first | exact S3.out.held | exact S2.out.drew.held)
    (first | (go_at_call 30; (refine (page_Seal.calls k kd lk Ax cx l t e _ RX2.out RX.out.2 H1.out).mono ?_); rintro e3 w3 ⟨rfl, hb⟩; have S3 := Aside0.mk (S2.out.drew.below hb); have RX3 := Aside0.mk (Kd.C_below RX2.out hb); have RF3 := Aside0.mk (Kd.C_below (Kd.C_below RF.out.1 (pw_below_drewN (Below.refl _ _) 1)) hb); clear hb))
  have c2 := S3.out.held.2.2
  have HR3 := Aside0.mk (Kd.C_below HR.out S3.out.hb)
  go_upto_region 4 with (go_at_call 31; (refine (page_Used.calls k Ax cx l u _ RX3.out RX.out.2 H7.out).mono ?_); rintro e4 w4 ⟨rfl, n4, rfl⟩)
  go_upto_region 6 with (go_at_call 32; (refine (calls_of_args (by rw [List.length_append]) (relstorelaw_backTexts.calls k Ax cx (l ++ marks) A c l true _ (Kd.C_below RF3.out (pw_below_drewN (Below.refl _ _) n4)) RF.out.2 (Kd.C_below HR3.out (pw_below_drewN (Below.refl _ _) n4)) HC.out H9.out)).mono ?_); rintro e5 w5 ⟨rfl, n5, rfl⟩)
  have S5 := Aside0.mk (S3.out.drewN (n4 + n5))
  clear S3 S2 RX2 RX3 RF3 RX RF sl_ hi9 c2 HR3
  generalize w3.drewN (n4 + n5) = w5 at S5 ⊢
  have c0 := S5.out.held.1
  have c1 := S5.out.held.2.1
  have c2 := S5.out.held.2.2
  have HR5 := Aside0.mk (Kd.C_below HR.out S5.out.hb)
  go_upto_region 7 with (go_at_call 33; (refine (relstoreref_Seal.calls k kd lk A c l t e _ HR5.out HC.out H2.out).mono ?_); rintro e6 w6 ⟨rfl, hb⟩; have S6 := Aside0.mk (S5.out.below hb); clear hb)
  clear c0 c1 c2 HR5
  go_upto_region 8 with (first
    | (go_at_call 34; (refine (page_Open.calls k s q1 q2 qc g _ H3.out).mono ?_); rintro e7 w7 ⟨v7, rfl, ho, hb⟩; obtain ⟨Aq, cq, rfl⟩ := Kd.R_slice ho; have S7 := Aside0.mk (S6.out.below hb); have RQ := Aside0.mk (show Kd.C Kd.string _ Aq qc.length qc ∧ qc.length ≤ cq from ⟨(Kd.R_reads' ho).2.2, (Kd.R_reads' ho).2.1⟩); clear ho hb)
    | ((with_reducible refine gate_dst (N := 11) rfl ?_); refine box_event ?hg (N := 11) ?hd (cs := #[.int .i64 0, .int .i64 0, .slice none 0 0]) (t := 40) ?hr ?_; (case hd => rfl); (case hg => rfl); (case hr => first | (go_simp; done) | (go_simp; rfl)); intro gq hg_ w8 hbox hb; have q0 := blk_cell hbox 0; have q1_ := blk_cell hbox 1; have q2_ := blk_cell hbox 2; have z0 := blk_frozen hbox 0; have z1 := blk_frozen hbox 1; have z2 := blk_frozen hbox 2; simp only [List.getElem?_toArray, List.getElem?_cons_zero, List.getElem?_cons_succ] at q0 q1_ q2_; have HB8 := Aside0.mk hb; have BQ := Aside0.mk hbox; have GQ := Aside0.mk (Nat.le_of_eq hg_.symm); have NQ := Aside0.mk (show gp < gq by rw [hg_]; exact blk_lt S7.out.bp); clear hg_ hbox hb))
  have hput : ((w8.setCell ⟨gq, 0, none⟩ (.int .i64 q1)).setCell ⟨gq, 1, none⟩ (.int .i64 q2)).setCell ⟨gq, 2, none⟩ (.slice Aq qc.length cq) = put3 w8 gq (.int .i64 q1) (.int .i64 q2) (.slice Aq qc.length cq) := rfl
  rw [hput]
  clear hput
  have HB9 := Aside0.mk (put3_below (a := .int .i64 q1) (b := .int .i64 q2) (c := .slice Aq qc.length cq) HB8.out GQ.out)
  have S9 := Aside0.mk (S7.out.below HB9.out)
  have RQ9 := Aside0.mk (Kd.C_below RQ.out.1 HB9.out)
  have BQ9 := Aside0.mk (put3_blk (a := .int .i64 q1) (b := .int .i64 q2) (c := .slice Aq qc.length cq) BQ.out)
  have LQ := Aside0.mk RQ.out.2
  clear q0 q1_ q2_ z0 z1 z2 BQ HB8 HB9 RQ S6 S7 GQ
  generalize put3 w8 gq (.int .i64 q1) (.int .i64 q2) (.slice Aq qc.length cq) = w9 at S9 RQ9 BQ9 ⊢
  go_upto_region 9 with (first
    | (go_at_call 35; (refine (relstoreref_Open.calls k s q1 q2 qc g _ H4.out).mono ?_); rintro e10 w10 ⟨v10, rfl, ho, hb⟩; obtain ⟨Ao, co, rfl⟩ := Kd.R_slice ho; have S10 := Aside0.mk (S9.out.below hb); have RQ10 := Aside0.mk (Kd.C_below RQ9.out hb); have BQ10 := Aside0.mk (blk_below BQ9.out hb); have RO := Aside0.mk (show Kd.C Kd.string _ Ao qc.length qc ∧ qc.length ≤ co from ⟨(Kd.R_reads' ho).2.2, (Kd.R_reads' ho).2.1⟩); clear ho hb)
    | ((with_reducible refine gate_dst (N := 13) rfl ?_); refine box_event ?hg (N := 13) ?hd (cs := #[.int .i64 0, .int .i64 0, .slice none 0 0]) (t := 40) ?hr ?_; (case hd => rfl); (case hg => rfl); (case hr => first | (go_simp; done) | (go_simp; rfl)); intro go hg_ w11 hbox hb; have q0 := blk_cell hbox 0; have q1_ := blk_cell hbox 1; have q2_ := blk_cell hbox 2; have z0 := blk_frozen hbox 0; have z1 := blk_frozen hbox 1; have z2 := blk_frozen hbox 2; simp only [List.getElem?_toArray, List.getElem?_cons_zero, List.getElem?_cons_succ] at q0 q1_ q2_; have HB11 := Aside0.mk hb; have BO := Aside0.mk hbox; have GO := Aside0.mk (Nat.le_of_eq hg_.symm); clear hg_ hbox hb))
  have hput : ((w11.setCell ⟨go, 0, none⟩ (.int .i64 q1)).setCell ⟨go, 1, none⟩ (.int .i64 q2)).setCell ⟨go, 2, none⟩ (.slice Ao qc.length co) = put3 w11 go (.int .i64 q1) (.int .i64 q2) (.slice Ao qc.length co) := rfl
  rw [hput]
  clear hput
  have HB12 := Aside0.mk (put3_below (a := .int .i64 q1) (b := .int .i64 q2) (c := .slice Ao qc.length co) HB11.out GO.out)
  have S12 := Aside0.mk (S10.out.below HB12.out)
  have RQ12 := Aside0.mk (Kd.C_below RQ10.out HB12.out)
  have BQ12 := Aside0.mk (blk_below BQ10.out HB12.out)
  have RO12 := Aside0.mk (Kd.C_below RO.out.1 HB12.out)
  have BO12 := Aside0.mk (put3_blk (a := .int .i64 q1) (b := .int .i64 q2) (c := .slice Ao qc.length co) BO.out)
  have LO := Aside0.mk RO.out.2
  clear q0 q1_ q2_ z0 z1 z2 BO HB11 HB12 RO S9 S10 GO RQ9 RQ10 BQ9 BQ10
  generalize put3 w11 go (.int .i64 q1) (.int .i64 q2) (.slice Ao qc.length co) = w12 at S12 RQ12 BQ12 RO12 BO12 ⊢
  have c2 := S12.out.held.2.2
  go_wp2_with (fail)
  clear c2
  go_loop [15, 64] (fun v15 v64 => ∃ (n : Int) (j kk : Nat), j ≤ l.length ∧ v15 = .int .i64 n ∧ v64 = .int .i64 (j : Int) ∧ Aside0 (page_Used.l0 kk n l (l.length : Int) (j : Int) = some u)) (fun _ v64 => l.length - (intOf v64).toNat)
  case atStart => exact ⟨0, 0, k, Nat.zero_le _, rfl, rfl, H7⟩
  case round =>
    obtain ⟨n, j, kk, hj, rfl, rfl, HU⟩ := hrel
    have hm := HR.out.2.1
    by_cases hlt : j < l.length
    · obtain ⟨k2, hn⟩ := used_step hm hlt HU.out
      have HN := Aside0.mk hn
      clear hn HU
      obtain ⟨ad, hA, hx⟩ := Kd.at_string HR.out (j : Int) (by omega) (by omega)
      have HA := Aside0.mk hA
      subst hA
      replace hx := (S12.out.hb.cell (World.block_lt_of_cell? w _ hx)).trans hx
      generalize hd : rdOf ByteArray.empty l (j : Int) = d at *
      clear hd
      rw [Int.toNat_natCast] at hx
      go_wp2
      go_round
      case rel => exact ⟨_, j + 1, k2, by omega, rfl, by go_num, HN⟩
      case measure => simp [intOf]; omega
    · obtain rfl : j = l.length := by omega
      obtain rfl := used_end HU.out
      have a0 := blk_cell BQ12.out 0
      have a1 := blk_cell BQ12.out 1
      have a2 := blk_cell BQ12.out 2
      have b0 := blk_cell BO12.out 0
      have b1 := blk_cell BO12.out 1
      have b2 := blk_cell BO12.out 2
      simp only [List.getElem?_toArray, List.getElem?_cons_zero, List.getElem?_cons_succ] at a0 a1 a2 b0 b1 b2
      go_wp2_with (first
        | (go_at_call 15; (refine (relstorelaw_num.calls _ _ _ rfl).mono ?_); rintro e19 w19 ⟨rfl, n19, rfl⟩)
        | (go_at_call 36; (refine (relstorelaw_sameTexts.calls k Aq cq qc Ao co qc true _ (by exact Kd.C_below RQ12.out (by first | exact Below.refl _ _ | exact pw_below_drewN (Below.refl _ _) _)) LQ.out (by exact Kd.C_below RO12.out (by first | exact Below.refl _ _ | exact pw_below_drewN (Below.refl _ _) _)) LO.out H10.out).mono ?_); rintro e20 w20 ⟨rfl, n20, rfl⟩)
        | (go_at_call 37; (refine (page_Sum.calls k s cs _ H5.out).mono ?_); rintro e21 w21 ⟨rfl, n21, rfl⟩)
        | (go_at_call 38; (refine (relstoreref_Sum.calls k s cs _ H6.out).mono ?_); rintro e22 w22 ⟨rfl, n22, rfl⟩))
      go_ret
      exact ⟨rfl, pw_below_drewN S12.out.hb _⟩
end Go.Proofs.Ythaoaaboempajaa.QPageSeals
