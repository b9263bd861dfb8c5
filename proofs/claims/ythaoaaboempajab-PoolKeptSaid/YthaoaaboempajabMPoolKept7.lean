/- Lines of the texts that the claim PoolKept rests on, bundled: part 7; no conditions but those that each row names. -/
import Derived.Test.YthaoaaboempajabMPoolKept6
import Derived.BigQuiet
namespace Go.Proofs.Ythaoaaboempajab.Pool
open Go.RowKit Go.Maps Go.Proofs.Ythaoaaboempajab.QLogRuns Go.Proofs.Ythaoaaboempajab.QDiskRuns Go.Proofs.Ythaoaaboempajab.Disk Go.Proofs.Ythaoaaboempajab.Log Go.Proofs.YthaoaaboempajabW.PrintWords Go.Proofs.YthaoaaboempajabW.PrintLast Go.Proofs.YthaoaaboempajabW.PrintMore
set_option linter.unusedVariables false
set_option linter.unusedSimpArgs false
def findBlockK (n : Nat) : Code → Option Code
  | .loop c => findBlockK n c
  | .seq a b => match findBlockK n a with
    | some c => some c
    | none => findBlockK n b
  | .block i c => if i = n then some (.block i c) else findBlockK n c
  | .scope c => findBlockK n c
  | .cond _ a b => match findBlockK n a with
    | some c => some c
    | none => findBlockK n b
  | _ => none
def behindLoopK (n : Nat) : Code → Option Code
  | .seq a b => match a with
    | .seq _ (.block i _) => if i = n then some b else behindLoopK n b
    | _ => behindLoopK n b
  | _ => none
noncomputable def rest3 : Code := (Try.f3.body.bind (behindLoopK 0)).getD .skip
theorem Op2.fine {s : St} {p : Int} {KM : Cn} {g : Lg} {Q : Po} {m : Nat} (h : Op2 s p KM g Q) (hok : s.ok m) : Q.fine m := by
  obtain ⟨C, F, hi, hs⟩ := h.inv
  exact ⟨by rw [h.s]; exact hok, hi.clean.good.ok, by have := hi.len; omega, ⟨by have := hi.pages; omega, by have := hi.pages; omega⟩, by rw [hi.most]; decide, by rw [h.held.2]; exact Nat.zero_le _⟩
def shc (p : Int) (b : Nat) : Array Value := #[.int .i64 p, .map (some b)]
set_option maxHeartbeats 16000000 in
set_option maxRecDepth 100000 in
theorem tail3 {c0 c1 c4 c5 c6 c7 c8 c16 c17 c18 c19 c20 c21 c22 c23 c24 c25 c26 c27 c28 c29 c30 c31 c32 c33 c34 c35 c36 c37 c38 c39 c40 c41 c42 c43 c44 c45 c46 c47 c48 c49 c50 c51 c52 c53 c54 c55 c56 c57 c58 c59 c60 c61 c62 c63 c64 c65 c66 c67 c68 c69 c70 c71 c72 c73 c74 c75 c76 c77 c78 c79 c80 c81 c82 c83 c84 c85 c86 c87 c88 c89 c90 c91 c92 c93 c94 c95 c96 c97 c98 c99 c100 c101 c102 c103 c104 c105 c106 c107 c108 c109 c110 c111 c112 c113 c114 c115 c116 c117 c118 c119 c120 c121 c122 c123 c124 c125 c126 c127 c128 c129 c130 c131 c132 c133 c134 c135 c136 c137 c138 c139 c140 c141 c142 c143 c144 c145 c146 c147 c148 c149 c150 c151 c152 c153 c154 c155 c156 c157 c158 c159 c160 c161 c162 c163 c164 c165 c166 c167 c168 c169 c170 c171 c172 c173 c174 c175 c176 c177 c178 c179 c180 c181 c182 c183 c184 c185 c186 c187 c188 c189 c190 c191 c192 c193 c194 c195 c196 c197 c198 c199 c200 c201 c202 c203 c204 c205 c206 c207 c208 c209 c210 c211 c212 c213 c214 c215 c216 : Value} {w w8 : World} {gd gp bk bn bm nk nm kk km : Nat} {ok om : Obj} {pk pm p e again : Int} {fk fm KM : Cn} {s : St} {m : Nat} {right : Bool} {A3 : Option Addr} {c3_ : Nat} {keep : List Int} {bx : List (Nat × Obj)}
    (T8 : Aside0 (KD w w8 gd s bx)) (HX : Aside0 ((kk, ok) ∈ bx ∧ (km, om) ∈ bx ∧ (bk, .cells (shc pk kk) 34 (0, 0)) ∈ bx ∧ (bm, .cells (shc pm km) 34 (0, 0)) ∈ bx)) (HOK : Aside0 (s.ok m)) (HM : Aside0 (m ≤ 100000000)) (HE : right = true ∨ (right = false ∧ s.d = true)) (HF : Aside0 (FinK (s.crashed keep) p KM))
    (HH : Aside0 ((p = pk ∧ KM = fk) ∨ (p = pm ∧ KM = fm))) (HK1 : Aside0 (MapO kk ok nk fk)) (HK2 : Aside0 (MapO km om nm fm)) (HPP : Aside0 (p ≤ 300)) (HKL : Aside0 (keep.length ≤ 17592186043904)) (G3 : Aside0 ((Kd.int .i64).C w A3 keep.length keep)) (HAG : Aside0 (-9223372036854775808 ≤ again ∧ again < 9223372036854775808)) :
    Code.wp Try.prog rest3 (bodyPost Try.prog Try.f3 (fun e w' => e = .returned (.bool true) ∧ Below w.heap.size w w')) ⟨#[c0, c1, .int .i64 again, .slice A3 keep.length c3_, c4, c5, c6, c7, c8, pv gd, pv gp, .int .i64 e, pv bk, pv bn, pv bm, .bool right, c16, c17, c18, c19, c20, c21, c22, c23, c24, c25, c26, c27, c28, c29, c30, c31, c32, c33, c34, c35, c36, c37, c38, c39, c40, c41, c42, c43, c44, c45, c46, c47, c48, c49, c50, c51, c52, c53, c54, c55, c56, c57, c58, c59, c60, c61, c62, c63, c64, c65, c66, c67, c68, c69, c70, c71, c72, c73, c74, c75, c76, c77, c78, c79, c80, c81, c82, c83, c84, c85, c86, c87, c88, c89, c90, c91, c92, c93, c94, c95, c96, c97, c98, c99, c100, c101, c102, c103, c104, c105, c106, c107, c108, c109, c110, c111, c112, c113, c114, c115, c116, c117, c118, c119, c120, c121, c122, c123, c124, c125, c126, c127, c128, c129, c130, c131, c132, c133, c134, c135, c136, c137, c138, c139, c140, c141, c142, c143, c144, c145, c146, c147, c148, c149, c150, c151, c152, c153, c154, c155, c156, c157, c158, c159, c160, c161, c162, c163, c164, c165, c166, c167, c168, c169, c170, c171, c172, c173, c174, c175, c176, c177, c178, c179, c180, c181, c182, c183, c184, c185, c186, c187, c188, c189, c190, c191, c192, c193, c194, c195, c196, c197, c198, c199, c200, c201, c202, c203, c204, c205, c206, c207, c208, c209, c210, c211, c212, c213, c214, c215, c216], []⟩ w8 := by
  conv => arg 2; whnf
  rcases HE with rfl | ⟨rfl, hd⟩
  case' inl => have HDN := Aside0.mk (trivial : True)
  case' inr => (have HDN := Aside0.mk hd; clear hd)
  all_goals
    go_upto_region 57 with (first
      | (go_at_call 18; (with_reducible refine (KD.down T8.out).mono ?_); rw [HDN.out]; rintro e w9 ⟨rfl, rfl⟩)
      | (go_at_call 19; (with_reducible refine (KD.crash T8.out HOK.out (by have := HM.out; omega) A3 c3_ keep G3.out (by have := HKL.out; omega)).mono ?_); rintro e w12 ⟨rfl, h⟩; have T12 := Aside0.mk h; clear h; clear T8)
      | (go_at_call 7; (with_reducible refine (QLogKept.picked again 8 _ HAG.out (by decide)).mono ?_); rintro e w13 ⟨r, rfl, hr, hd⟩; have T13 := Aside0.mk (KD.below T12.out hd.below); have HR := Aside0.mk (show r < 9223372036854775808 by omega); clear hr hd)
      | (go_at_call 6; (with_reducible refine (KD.fail T13.out r).mono ?_); rintro e w14 ⟨rfl, h⟩; have T14 := Aside0.mk h; clear h; obtain ⟨g1, Q1, g2, Q2, ho1, ho2, hxd⟩ := tailK HF.out (HOK.out.crashed (keep := keep)) r HR.out keep; have HO1 := Aside0.mk ho1; have HO2 := Aside0.mk ho2; have HXD := Aside0.mk hxd; have HOK2 := Aside0.mk ((HOK.out.crashed (keep := keep)).failed HR.out); have HOK3 := Aside0.mk (HOK2.out.crashed (keep := keep)); have HOK4 := Aside0.mk (nx4_ok HOK3.out.s0 HOK3.out.s1); clear ho1 ho2 hxd; generalize hs2 : (s.crashed keep).failed r = s2 at T14 HO1 HO2 HXD HOK2 HOK3 HOK4; clear hs2)
      | (have T20_ := Aside0.mk T20.out; go_at_call 5; (with_reducible refine (KD.popen T20.out HOK4.out (by decide) HO2.out.log HOK4.out HO2.out.ok HO2.out.pool).mono ?_); rintro e w21 ⟨gl2, gp2, rfl, h⟩; have T21 := Aside0.mk h; clear h)
      | (go_at_call 5; (with_reducible refine (KD.popen T14.out HOK2.out (by have := HM.out; omega) HO1.out.log HOK2.out HO1.out.ok HO1.out.pool).mono ?_); rintro e w15 ⟨gl1, gp1, rfl, h⟩; have T15 := Aside0.mk (show KD w w15 gd s2 bx from by have h2 := KQ.disk h; rw [HO1.out.s] at h2; exact h2); clear h)
      | (go_at_call 19; (with_reducible refine (KD.crash T15.out HOK2.out (by have := HM.out; omega) A3 c3_ keep G3.out (by have := HKL.out; omega)).mono ?_); rintro e w16 ⟨rfl, h⟩; have T16 := Aside0.mk h; clear h)
      | (go_at_call 20; (with_reducible refine (KD.moved T16.out HOK3.out rfl).mono ?_); rintro e w20 ⟨gn, rfl, h⟩; have T20 := Aside0.mk h; clear h))
    obtain ⟨C, F, hinv, hsh⟩ := HO2.out.inv
    have HINV := Aside0.mk hinv
    have HSH := Aside0.mk (show ∀ n t, KM n = some t → C n = some t from fun n t h => (hsh.texts n t h).2.1)
    have HFI := Aside0.mk (Op2.fine HO2.out HOK4.out)
    have HPG := Aside0.mk HO2.out.pages
    have HXD2 := Aside0.mk ((congrArg St.d HO2.out.s).trans HXD.out)
    have HELD := Aside0.mk (show ∀ {w1 : World} {P : Po}, KQ w w1 gn gl2 gp2 P bx → w1.cell? ⟨bk, 0, none⟩ = some (.int .i64 pk) ∧ w1.cell? ⟨bk, 1, none⟩ = some (.map (some kk)) ∧ w1.cell? ⟨bm, 0, none⟩ = some (.int .i64 pm) ∧ w1.cell? ⟨bm, 1, none⟩ = some (.map (some km)) from fun h => ⟨(Bd.box h bk _ _ HX.out.2.2.1 0).trans rfl, (Bd.box h bk _ _ HX.out.2.2.1 1).trans rfl, (Bd.box h bm _ _ HX.out.2.2.2 0).trans rfl, (Bd.box h bm _ _ HX.out.2.2.2 1).trans rfl⟩)
    clear hinv hsh
    rcases HH.out with ⟨hp, hk⟩ | ⟨hp, hk⟩
    · subst hp
      subst hk
      refine wp_region_noPanic ?_
      refine start_ (n := 31) (S := fun w' => w'.cell? ⟨bk, 0, none⟩ = some (.int .i64 p) ∧ w'.cell? ⟨bk, 1, none⟩ = some (.map (some kk)) ∧ w'.cell? ⟨bm, 0, none⟩ = some (.int .i64 pm) ∧ w'.cell? ⟨bm, 1, none⟩ = some (.map (some km))) (ds := []) (flg 31 0) (by kernel_rfl) rfl rfl (HELD.out (KQ.drew T21.out)) (fun hHeld => ?_)
      have T22 := Aside0.mk (KQ.drew T21.out)
      generalize World.drew _ = w22 at T22 hHeld ⊢
      refine pure_ (i := 0) (N := some 187) (v := ?_) (a' := ?_) (flg 31 1) rfl rfl (by kernel_rfl) (fun _ _ _ h => h) (Or.inl ⟨by rfl, ?_⟩) ?_ ?_
      rotate_left
      · intro w'
        go_simp
        try (with_reducible rfl)
      rotate_left
      · simp only [Act.put, List.setIfInBounds_toArray, List.set_cons_zero, List.set_cons_succ]
        rfl
      refine pure_ (i := 1) (N := some 188) (v := ?_) (a' := ?_) (flg 31 3) rfl rfl (by kernel_rfl) (fun _ _ _ h => h) (Or.inl ⟨by rfl, ?_⟩) ?_ ?_
      rotate_left
      · intro w'
        go_simp
        try (with_reducible rfl)
      rotate_left
      · simp only [Act.put, List.setIfInBounds_toArray, List.set_cons_zero, List.set_cons_succ]
        rfl
      refine pure_ (i := 2) (N := some 189) (v := ?_) (a' := ?_) (flg 31 7) rfl rfl (by kernel_rfl) (fun _ _ _ h => h) (Or.inl ⟨by rfl, ?_⟩) ?_ ?_
      rotate_left
      · intro w'
        go_simp
        try (with_reducible rfl)
      rotate_left
      · simp only [Act.put, List.setIfInBounds_toArray, List.set_cons_zero, List.set_cons_succ]
        rfl
      refine pure_ (i := 3) (N := some 190) (v := ?_) (a' := ?_) (flg 31 15) rfl rfl (by kernel_rfl) (fun _ _ _ h => h) (Or.inl ⟨by rfl, ?_⟩) ?_ ?_
      rotate_left
      · intro w'
        go_simp
        try (with_reducible rfl)
      rotate_left
      · simp only [Act.put, List.setIfInBounds_toArray, List.set_cons_zero, List.set_cons_succ]
        rfl
      refine pure_ (i := 4) (N := some 191) (v := ?_) (a' := ?_) (flg 31 31) rfl rfl (by kernel_rfl) (fun _ _ _ h => h) (Or.inl ⟨by rfl, ?_⟩) ?_ ?_
      rotate_left
      · intro w'
        go_simp
        try (with_reducible rfl)
      rotate_left
      · simp only [Act.put, List.setIfInBounds_toArray, List.set_cons_zero, List.set_cons_succ]
        rfl
      refine pure_ (i := 5) (N := some 192) (v := ?_) (a' := ?_) (flg 31 63) rfl rfl (by kernel_rfl) (fun _ _ _ h => h) (Or.inl ⟨by rfl, ?_⟩) ?_ ?_
      rotate_left
      · intro w'
        go_simp
        try (with_reducible rfl)
      rotate_left
      · simp only [Act.put, List.setIfInBounds_toArray, List.set_cons_zero, List.set_cons_succ]
        rfl
      refine pure_ (i := 6) (N := some 193) (v := ?_) (a' := ?_) (flg 31 127) rfl rfl (by kernel_rfl) (fun _ _ _ h => h) (Or.inl ⟨by rfl, ?_⟩) ?_ ?_
      rotate_left
      · intro w'
        go_simp
        try (with_reducible rfl)
      rotate_left
      · simp only [Act.put, List.setIfInBounds_toArray, List.set_cons_zero, List.set_cons_succ]
        rfl
      refine pure_ (i := 7) (N := some 194) (v := ?_) (a' := ?_) (flg 31 255) rfl rfl (by kernel_rfl) (fun _ _ _ h => h) (Or.inl ⟨by rfl, ?_⟩) ?_ ?_
      rotate_left
      · intro w'
        go_simp
        try (with_reducible rfl)
      rotate_left
      · simp only [Act.put, List.setIfInBounds_toArray, List.set_cons_zero, List.set_cons_succ]
        rfl
      refine pure_ (i := 9) (N := some 196) (v := ?_) (a' := ?_) (flg 31 767) rfl rfl (by kernel_rfl) (fun _ _ _ h => h) (Or.inl ⟨by rfl, ?_⟩) ?_ ?_
      rotate_left
      · intro w'
        go_simp
        try (with_reducible rfl)
      rotate_left
      · simp only [Act.put, List.setIfInBounds_toArray, List.set_cons_zero, List.set_cons_succ]
        rfl
      refine take_ (i := 10) (N := some 197) (v := ?_) (a' := ?_) (flg 31 1791) rfl rfl (by kernel_rfl) (fun _ _ _ h => h) (Or.inl ⟨by rfl, ?_⟩) hHeld ?_ ?_
      rotate_left
      · rintro w' ⟨s0_, s1_, s2_, s3_⟩
        go_simp
        try (with_reducible rfl)
      rotate_left
      · simp only [Act.put, List.setIfInBounds_toArray, List.set_cons_zero, List.set_cons_succ]
        rfl
      refine one_ (i := 8) (N := some 195) (flg 31 2047) rfl rfl (by kernel_rfl) (by decide) (fun K hK => ?_)
      refine goes_ Try.func21 (by kernel_rfl) rfl #[pv gp2] (by rfl) rfl rfl (by (try simp only [List.map_toArray, List.map_cons, List.map_nil]); first | done | rfl) ?_
      have hc := KQ.pages T22.out
      rw [HPG.out] at hc
      refine hc.mono ?_
      rintro e w_ ⟨rfl, rfl⟩
      refine ⟨_, rfl, ?_⟩
      clear hc
      refine hK.out _ _ (HELD.out T22.out) (fun hHeld => ?_)
      clear hK K
      refine norm_ (a' := ?_) ?_ ?_
      rotate_left
      · show Act.put _ (some 195) _ = _
        simp only [Act.put, List.setIfInBounds_toArray, List.set_cons_zero, List.set_cons_succ]
        rfl
      refine pure_ (i := 11) (N := some 198) (v := ?_) (a' := ?_) (flg 31 4095) rfl rfl (by kernel_rfl) (fun _ _ _ h => h) (Or.inl ⟨by rfl, ?_⟩) ?_ ?_
      rotate_left
      · intro w'
        go_simp
        try (with_reducible rfl)
      rotate_left
      · simp only [Act.put, List.setIfInBounds_toArray, List.set_cons_zero, List.set_cons_succ]
        rfl
      refine pure_ (i := 12) (N := some 199) (v := ?_) (a' := ?_) (flg 31 8191) rfl rfl (by kernel_rfl) (fun _ _ _ h => h) (Or.inl ⟨by rfl, ?_⟩) ?_ ?_
      rotate_left
      · intro w'
        go_simp
        try (with_reducible rfl)
      rotate_left
      · simp only [Act.put, List.setIfInBounds_toArray, List.set_cons_zero, List.set_cons_succ]
        rfl
      refine pure_ (i := 13) (N := some 200) (v := ?_) (a' := ?_) (flg 31 16383) rfl rfl (by kernel_rfl) (fun _ _ _ h => h) (Or.inl ⟨by rfl, ?_⟩) ?_ ?_
      rotate_left
      · intro w'
        go_simp
        try (with_reducible rfl)
      rotate_left
      · simp only [Act.put, List.setIfInBounds_toArray, List.set_cons_zero, List.set_cons_succ]
        rfl
      refine take_ (i := 14) (N := some 201) (v := ?_) (a' := ?_) (flg 31 32767) rfl rfl (by kernel_rfl) (fun _ _ _ h => h) (Or.inl ⟨by rfl, ?_⟩) hHeld ?_ ?_
      rotate_left
      · rintro w' ⟨s0_, s1_, s2_, s3_⟩
        go_simp
        try (with_reducible rfl)
      rotate_left
      · simp only [Act.put, List.setIfInBounds_toArray, List.set_cons_zero, List.set_cons_succ]
        rfl
      refine one_ (i := 15) (N := some 202) (flg 31 65535) rfl rfl (by kernel_rfl) (by decide) (fun K hK => ?_)
      refine goes_ Try.func17 (by kernel_rfl) rfl #[pv gp2, .agg #[.int .i64 p, .map (some kk)]] (by rfl) rfl rfl (by (try simp only [List.map_toArray, List.map_cons, List.map_nil]); first | done | rfl) ?_
      have hc := KQ.reads T22.out HFI.out (by decide) HINV.out (Nat.lt_of_lt_of_le HO2.out.cnt (by decide)) HX.out.1 HK1.out (by rw [HPG.out]; exact HPP.out)
      rw [HPG.out] at hc
      refine hc.mono ?_
      rintro e w23 ⟨r1, Q3, j3, rfl, h1, h2, h3, h4⟩
      have T23 := Aside0.mk h1
      have HR3 := Aside0.mk h2
      have HJ3 := Aside0.mk h3
      obtain rfl : r1 = true := Rd.whole h2 HO2.out.held.1 HXD2.out (h4 HSH.out)
      clear h1 h2 h3 h4 hc
      refine ⟨_, rfl, ?_⟩
      refine hK.out _ _ (HELD.out T23.out) (fun hHeld => ?_)
      clear hK K
      refine norm_ (a' := ?_) ?_ ?_
      rotate_left
      · show Act.put _ (some 202) _ = _
        simp only [Act.put, List.setIfInBounds_toArray, List.set_cons_zero, List.set_cons_succ]
        rfl
      refine pure_ (i := 16) (N := some 203) (v := ?_) (a' := ?_) (flg 31 131071) rfl rfl (by kernel_rfl) (fun _ _ _ h => h) (Or.inl ⟨by rfl, ?_⟩) ?_ ?_
      rotate_left
      · intro w'
        go_simp
        try (with_reducible rfl)
      rotate_left
      · simp only [Act.put, List.setIfInBounds_toArray, List.set_cons_zero, List.set_cons_succ]
        rfl
      refine pure_ (i := 17) (N := some 204) (v := ?_) (a' := ?_) (flg 31 262143) rfl rfl (by kernel_rfl) (fun _ _ _ h => h) (Or.inl ⟨by rfl, ?_⟩) ?_ ?_
      rotate_left
      · intro w'
        go_simp
        try (with_reducible rfl)
      rotate_left
      · simp only [Act.put, List.setIfInBounds_toArray, List.set_cons_zero, List.set_cons_succ]
        rfl
      refine pure_ (i := 18) (N := some 205) (v := undef) (a' := ?_) (flg 31 524287) rfl rfl (by kernel_rfl) (fun _ _ _ h => h) (Or.inr ⟨by rfl, rfl⟩) ?_ ?_
      rotate_left
      · simp only [Act.put, List.setIfInBounds_toArray, List.set_cons_zero, List.set_cons_succ]
        rfl
      refine pure_ (i := 19) (N := some 206) (v := undef) (a' := ?_) (flg 31 1048575) rfl rfl (by kernel_rfl) (fun _ _ _ h => h) (Or.inr ⟨by rfl, rfl⟩) ?_ ?_
      rotate_left
      · simp only [Act.put, List.setIfInBounds_toArray, List.set_cons_zero, List.set_cons_succ]
        rfl
      refine pure_ (i := 20) (N := some 207) (v := undef) (a' := ?_) (flg 31 2097151) rfl rfl (by kernel_rfl) (fun _ _ _ h => h) (Or.inr ⟨by rfl, rfl⟩) ?_ ?_
      rotate_left
      · simp only [Act.put, List.setIfInBounds_toArray, List.set_cons_zero, List.set_cons_succ]
        rfl
      refine pure_ (i := 21) (N := some 208) (v := undef) (a' := ?_) (flg 31 4194303) rfl rfl (by kernel_rfl) (fun _ _ _ h => h) (Or.inr ⟨by rfl, rfl⟩) ?_ ?_
      rotate_left
      · simp only [Act.put, List.setIfInBounds_toArray, List.set_cons_zero, List.set_cons_succ]
        rfl
      refine pure_ (i := 22) (N := some 209) (v := undef) (a' := ?_) (flg 31 8388607) rfl rfl (by kernel_rfl) (fun _ _ _ h => h) (Or.inr ⟨by rfl, rfl⟩) ?_ ?_
      rotate_left
      · simp only [Act.put, List.setIfInBounds_toArray, List.set_cons_zero, List.set_cons_succ]
        rfl
      refine pure_ (i := 23) (N := some 210) (v := undef) (a' := ?_) (flg 31 16777215) rfl rfl (by kernel_rfl) (fun _ _ _ h => h) (Or.inr ⟨by rfl, rfl⟩) ?_ ?_
      rotate_left
      · simp only [Act.put, List.setIfInBounds_toArray, List.set_cons_zero, List.set_cons_succ]
        rfl
      refine pure_ (i := 24) (N := some 211) (v := undef) (a' := ?_) (flg 31 33554431) rfl rfl (by kernel_rfl) (fun _ _ _ h => h) (Or.inr ⟨by rfl, rfl⟩) ?_ ?_
      rotate_left
      · simp only [Act.put, List.setIfInBounds_toArray, List.set_cons_zero, List.set_cons_succ]
        rfl
      refine pure_ (i := 25) (N := some 212) (v := undef) (a' := ?_) (flg 31 67108863) rfl rfl (by kernel_rfl) (fun _ _ _ h => h) (Or.inr ⟨by rfl, rfl⟩) ?_ ?_
      rotate_left
      · simp only [Act.put, List.setIfInBounds_toArray, List.set_cons_zero, List.set_cons_succ]
        rfl
      refine pure_ (i := 26) (N := some 213) (v := undef) (a' := ?_) (flg 31 134217727) rfl rfl (by kernel_rfl) (fun _ _ _ h => h) (Or.inr ⟨by rfl, rfl⟩) ?_ ?_
      rotate_left
      · simp only [Act.put, List.setIfInBounds_toArray, List.set_cons_zero, List.set_cons_succ]
        rfl
      refine pure_ (i := 27) (N := some 214) (v := undef) (a' := ?_) (flg 31 268435455) rfl rfl (by kernel_rfl) (fun _ _ _ h => h) (Or.inr ⟨by rfl, rfl⟩) ?_ ?_
      rotate_left
      · simp only [Act.put, List.setIfInBounds_toArray, List.set_cons_zero, List.set_cons_succ]
        rfl
      refine pure_ (i := 28) (N := some 215) (v := ?_) (a' := ?_) (flg 31 536870911) rfl rfl (by kernel_rfl) (fun _ _ _ h => h) (Or.inl ⟨by rfl, ?_⟩) ?_ ?_
      rotate_left
      · intro w'
        go_simp
        try (with_reducible rfl)
      rotate_left
      · simp only [Act.put, List.setIfInBounds_toArray, List.set_cons_zero, List.set_cons_succ]
        rfl
      refine pure_ (i := 29) (N := some 216) (v := ?_) (a' := ?_) (flg 31 1073741823) rfl rfl (by kernel_rfl) (fun _ _ _ h => h) (Or.inl ⟨by rfl, ?_⟩) ?_ ?_
      rotate_left
      · intro w'
        go_simp
        try (with_reducible rfl)
      rotate_left
      · simp only [Act.put, List.setIfInBounds_toArray, List.set_cons_zero, List.set_cons_succ]
        rfl
      refine pure_ (i := 30) (N := some 8) (v := ?_) (a' := ?_) (flg 31 2147483647) rfl rfl (by kernel_rfl) (fun _ _ _ h => h) (Or.inl ⟨by rfl, ?_⟩) ?_ ?_
      rotate_left
      · intro w'
        go_simp
        try (with_reducible rfl)
      rotate_left
      · simp only [Act.put, List.setIfInBounds_toArray, List.set_cons_zero, List.set_cons_succ]
        rfl
      refine done_ (by kernel_rfl) ?_
      refine NoPanic.normal ?_
      go_wp2_with (fail)
      go_ret
      exact ⟨rfl, T23.out.hB⟩
    · subst hp
      subst hk
      by_cases hpk : p = pk
      · subst hpk
        refine wp_region_noPanic ?_
        refine start_ (n := 31) (S := fun w' => w'.cell? ⟨bk, 0, none⟩ = some (.int .i64 p) ∧ w'.cell? ⟨bk, 1, none⟩ = some (.map (some kk)) ∧ w'.cell? ⟨bm, 0, none⟩ = some (.int .i64 p) ∧ w'.cell? ⟨bm, 1, none⟩ = some (.map (some km))) (ds := []) (flg 31 0) (by kernel_rfl) rfl rfl (HELD.out (KQ.drew T21.out)) (fun hHeld => ?_)
        have T22 := Aside0.mk (KQ.drew T21.out)
        generalize World.drew _ = w22 at T22 hHeld ⊢
        refine pure_ (i := 0) (N := some 187) (v := ?_) (a' := ?_) (flg 31 1) rfl rfl (by kernel_rfl) (fun _ _ _ h => h) (Or.inl ⟨by rfl, ?_⟩) ?_ ?_
        rotate_left
        · intro w'
          go_simp
          try (with_reducible rfl)
        rotate_left
        · simp only [Act.put, List.setIfInBounds_toArray, List.set_cons_zero, List.set_cons_succ]
          rfl
        refine pure_ (i := 1) (N := some 188) (v := ?_) (a' := ?_) (flg 31 3) rfl rfl (by kernel_rfl) (fun _ _ _ h => h) (Or.inl ⟨by rfl, ?_⟩) ?_ ?_
        rotate_left
        · intro w'
          go_simp
          try (with_reducible rfl)
        rotate_left
        · simp only [Act.put, List.setIfInBounds_toArray, List.set_cons_zero, List.set_cons_succ]
          rfl
        refine pure_ (i := 2) (N := some 189) (v := ?_) (a' := ?_) (flg 31 7) rfl rfl (by kernel_rfl) (fun _ _ _ h => h) (Or.inl ⟨by rfl, ?_⟩) ?_ ?_
        rotate_left
        · intro w'
          go_simp
          try (with_reducible rfl)
        rotate_left
        · simp only [Act.put, List.setIfInBounds_toArray, List.set_cons_zero, List.set_cons_succ]
          rfl
        refine pure_ (i := 3) (N := some 190) (v := ?_) (a' := ?_) (flg 31 15) rfl rfl (by kernel_rfl) (fun _ _ _ h => h) (Or.inl ⟨by rfl, ?_⟩) ?_ ?_
        rotate_left
        · intro w'
          go_simp
          try (with_reducible rfl)
        rotate_left
        · simp only [Act.put, List.setIfInBounds_toArray, List.set_cons_zero, List.set_cons_succ]
          rfl
        refine pure_ (i := 4) (N := some 191) (v := ?_) (a' := ?_) (flg 31 31) rfl rfl (by kernel_rfl) (fun _ _ _ h => h) (Or.inl ⟨by rfl, ?_⟩) ?_ ?_
        rotate_left
        · intro w'
          go_simp
          try (with_reducible rfl)
        rotate_left
        · simp only [Act.put, List.setIfInBounds_toArray, List.set_cons_zero, List.set_cons_succ]
          rfl
        refine pure_ (i := 5) (N := some 192) (v := ?_) (a' := ?_) (flg 31 63) rfl rfl (by kernel_rfl) (fun _ _ _ h => h) (Or.inl ⟨by rfl, ?_⟩) ?_ ?_
        rotate_left
        · intro w'
          go_simp
          try (with_reducible rfl)
        rotate_left
        · simp only [Act.put, List.setIfInBounds_toArray, List.set_cons_zero, List.set_cons_succ]
          rfl
        refine pure_ (i := 6) (N := some 193) (v := ?_) (a' := ?_) (flg 31 127) rfl rfl (by kernel_rfl) (fun _ _ _ h => h) (Or.inl ⟨by rfl, ?_⟩) ?_ ?_
        rotate_left
        · intro w'
          go_simp
          try (with_reducible rfl)
        rotate_left
        · simp only [Act.put, List.setIfInBounds_toArray, List.set_cons_zero, List.set_cons_succ]
          rfl
        refine pure_ (i := 7) (N := some 194) (v := ?_) (a' := ?_) (flg 31 255) rfl rfl (by kernel_rfl) (fun _ _ _ h => h) (Or.inl ⟨by rfl, ?_⟩) ?_ ?_
        rotate_left
        · intro w'
          go_simp
          try (with_reducible rfl)
        rotate_left
        · simp only [Act.put, List.setIfInBounds_toArray, List.set_cons_zero, List.set_cons_succ]
          rfl
        refine pure_ (i := 9) (N := some 196) (v := ?_) (a' := ?_) (flg 31 767) rfl rfl (by kernel_rfl) (fun _ _ _ h => h) (Or.inl ⟨by rfl, ?_⟩) ?_ ?_
        rotate_left
        · intro w'
          go_simp
          try (with_reducible rfl)
        rotate_left
        · simp only [Act.put, List.setIfInBounds_toArray, List.set_cons_zero, List.set_cons_succ]
          rfl
        refine take_ (i := 10) (N := some 197) (v := ?_) (a' := ?_) (flg 31 1791) rfl rfl (by kernel_rfl) (fun _ _ _ h => h) (Or.inl ⟨by rfl, ?_⟩) hHeld ?_ ?_
        rotate_left
        · rintro w' ⟨s0_, s1_, s2_, s3_⟩
          go_simp
          try (with_reducible rfl)
        rotate_left
        · simp only [Act.put, List.setIfInBounds_toArray, List.set_cons_zero, List.set_cons_succ]
          rfl
        refine one_ (i := 8) (N := some 195) (flg 31 2047) rfl rfl (by kernel_rfl) (by decide) (fun K hK => ?_)
        refine goes_ Try.func21 (by kernel_rfl) rfl #[pv gp2] (by rfl) rfl rfl (by (try simp only [List.map_toArray, List.map_cons, List.map_nil]); first | done | rfl) ?_
        have hc := KQ.pages T22.out
        rw [HPG.out] at hc
        refine hc.mono ?_
        rintro e w_ ⟨rfl, rfl⟩
        refine ⟨_, rfl, ?_⟩
        clear hc
        refine hK.out _ _ (HELD.out T22.out) (fun hHeld => ?_)
        clear hK K
        refine norm_ (a' := ?_) ?_ ?_
        rotate_left
        · show Act.put _ (some 195) _ = _
          simp only [Act.put, List.setIfInBounds_toArray, List.set_cons_zero, List.set_cons_succ]
          rfl
        refine pure_ (i := 11) (N := some 198) (v := ?_) (a' := ?_) (flg 31 4095) rfl rfl (by kernel_rfl) (fun _ _ _ h => h) (Or.inl ⟨by rfl, ?_⟩) ?_ ?_
        rotate_left
        · intro w'
          go_simp
          try (with_reducible rfl)
        rotate_left
        · simp only [Act.put, List.setIfInBounds_toArray, List.set_cons_zero, List.set_cons_succ]
          rfl
        refine pure_ (i := 12) (N := some 199) (v := ?_) (a' := ?_) (flg 31 8191) rfl rfl (by kernel_rfl) (fun _ _ _ h => h) (Or.inl ⟨by rfl, ?_⟩) ?_ ?_
        rotate_left
        · intro w'
          go_simp
          try (with_reducible rfl)
        rotate_left
        · simp only [Act.put, List.setIfInBounds_toArray, List.set_cons_zero, List.set_cons_succ]
          rfl
        refine pure_ (i := 13) (N := some 200) (v := ?_) (a' := ?_) (flg 31 16383) rfl rfl (by kernel_rfl) (fun _ _ _ h => h) (Or.inl ⟨by rfl, ?_⟩) ?_ ?_
        rotate_left
        · intro w'
          go_simp
          try (with_reducible rfl)
        rotate_left
        · simp only [Act.put, List.setIfInBounds_toArray, List.set_cons_zero, List.set_cons_succ]
          rfl
        refine take_ (i := 14) (N := some 201) (v := ?_) (a' := ?_) (flg 31 32767) rfl rfl (by kernel_rfl) (fun _ _ _ h => h) (Or.inl ⟨by rfl, ?_⟩) hHeld ?_ ?_
        rotate_left
        · rintro w' ⟨s0_, s1_, s2_, s3_⟩
          go_simp
          try (with_reducible rfl)
        rotate_left
        · simp only [Act.put, List.setIfInBounds_toArray, List.set_cons_zero, List.set_cons_succ]
          rfl
        refine one_ (i := 15) (N := some 202) (flg 31 65535) rfl rfl (by kernel_rfl) (by decide) (fun K hK => ?_)
        refine goes_ Try.func17 (by kernel_rfl) rfl #[pv gp2, .agg #[.int .i64 p, .map (some kk)]] (by rfl) rfl rfl (by (try simp only [List.map_toArray, List.map_cons, List.map_nil]); first | done | rfl) ?_
        have hc := KQ.reads T22.out HFI.out (by decide) HINV.out (Nat.lt_of_lt_of_le HO2.out.cnt (by decide)) HX.out.1 HK1.out (by rw [HPG.out]; exact HPP.out)
        rw [HPG.out] at hc
        refine hc.mono ?_
        rintro e w23 ⟨r1, Q3, j3, rfl, h1, h2, h3, h4⟩
        have T23 := Aside0.mk h1
        have HR3 := Aside0.mk h2
        have HJ3 := Aside0.mk h3
        clear h1 h2 h3 h4 hc
        refine ⟨_, rfl, ?_⟩
        refine hK.out _ _ (HELD.out T23.out) (fun hHeld => ?_)
        clear hK K
        refine norm_ (a' := ?_) ?_ ?_
        rotate_left
        · show Act.put _ (some 202) _ = _
          simp only [Act.put, List.setIfInBounds_toArray, List.set_cons_zero, List.set_cons_succ]
          rfl
        cases r1 with
        | true =>
          refine pure_ (i := 16) (N := some 203) (v := ?_) (a' := ?_) (flg 31 131071) rfl rfl (by kernel_rfl) (fun _ _ _ h => h) (Or.inl ⟨by rfl, ?_⟩) ?_ ?_
          rotate_left
          · intro w'
            go_simp
            try (with_reducible rfl)
          rotate_left
          · simp only [Act.put, List.setIfInBounds_toArray, List.set_cons_zero, List.set_cons_succ]
            rfl
          refine pure_ (i := 17) (N := some 204) (v := ?_) (a' := ?_) (flg 31 262143) rfl rfl (by kernel_rfl) (fun _ _ _ h => h) (Or.inl ⟨by rfl, ?_⟩) ?_ ?_
          rotate_left
          · intro w'
            go_simp
            try (with_reducible rfl)
          rotate_left
          · simp only [Act.put, List.setIfInBounds_toArray, List.set_cons_zero, List.set_cons_succ]
            rfl
          refine pure_ (i := 18) (N := some 205) (v := undef) (a' := ?_) (flg 31 524287) rfl rfl (by kernel_rfl) (fun _ _ _ h => h) (Or.inr ⟨by rfl, rfl⟩) ?_ ?_
          rotate_left
          · simp only [Act.put, List.setIfInBounds_toArray, List.set_cons_zero, List.set_cons_succ]
            rfl
          refine pure_ (i := 19) (N := some 206) (v := undef) (a' := ?_) (flg 31 1048575) rfl rfl (by kernel_rfl) (fun _ _ _ h => h) (Or.inr ⟨by rfl, rfl⟩) ?_ ?_
          rotate_left
          · simp only [Act.put, List.setIfInBounds_toArray, List.set_cons_zero, List.set_cons_succ]
            rfl
          refine pure_ (i := 20) (N := some 207) (v := undef) (a' := ?_) (flg 31 2097151) rfl rfl (by kernel_rfl) (fun _ _ _ h => h) (Or.inr ⟨by rfl, rfl⟩) ?_ ?_
          rotate_left
          · simp only [Act.put, List.setIfInBounds_toArray, List.set_cons_zero, List.set_cons_succ]
            rfl
          refine pure_ (i := 21) (N := some 208) (v := undef) (a' := ?_) (flg 31 4194303) rfl rfl (by kernel_rfl) (fun _ _ _ h => h) (Or.inr ⟨by rfl, rfl⟩) ?_ ?_
          rotate_left
          · simp only [Act.put, List.setIfInBounds_toArray, List.set_cons_zero, List.set_cons_succ]
            rfl
          refine pure_ (i := 22) (N := some 209) (v := undef) (a' := ?_) (flg 31 8388607) rfl rfl (by kernel_rfl) (fun _ _ _ h => h) (Or.inr ⟨by rfl, rfl⟩) ?_ ?_
          rotate_left
          · simp only [Act.put, List.setIfInBounds_toArray, List.set_cons_zero, List.set_cons_succ]
            rfl
          refine pure_ (i := 23) (N := some 210) (v := undef) (a' := ?_) (flg 31 16777215) rfl rfl (by kernel_rfl) (fun _ _ _ h => h) (Or.inr ⟨by rfl, rfl⟩) ?_ ?_
          rotate_left
          · simp only [Act.put, List.setIfInBounds_toArray, List.set_cons_zero, List.set_cons_succ]
            rfl
          refine pure_ (i := 24) (N := some 211) (v := undef) (a' := ?_) (flg 31 33554431) rfl rfl (by kernel_rfl) (fun _ _ _ h => h) (Or.inr ⟨by rfl, rfl⟩) ?_ ?_
          rotate_left
          · simp only [Act.put, List.setIfInBounds_toArray, List.set_cons_zero, List.set_cons_succ]
            rfl
          refine pure_ (i := 25) (N := some 212) (v := undef) (a' := ?_) (flg 31 67108863) rfl rfl (by kernel_rfl) (fun _ _ _ h => h) (Or.inr ⟨by rfl, rfl⟩) ?_ ?_
          rotate_left
          · simp only [Act.put, List.setIfInBounds_toArray, List.set_cons_zero, List.set_cons_succ]
            rfl
          refine pure_ (i := 26) (N := some 213) (v := undef) (a' := ?_) (flg 31 134217727) rfl rfl (by kernel_rfl) (fun _ _ _ h => h) (Or.inr ⟨by rfl, rfl⟩) ?_ ?_
          rotate_left
          · simp only [Act.put, List.setIfInBounds_toArray, List.set_cons_zero, List.set_cons_succ]
            rfl
          refine pure_ (i := 27) (N := some 214) (v := undef) (a' := ?_) (flg 31 268435455) rfl rfl (by kernel_rfl) (fun _ _ _ h => h) (Or.inr ⟨by rfl, rfl⟩) ?_ ?_
          rotate_left
          · simp only [Act.put, List.setIfInBounds_toArray, List.set_cons_zero, List.set_cons_succ]
            rfl
          refine pure_ (i := 28) (N := some 215) (v := ?_) (a' := ?_) (flg 31 536870911) rfl rfl (by kernel_rfl) (fun _ _ _ h => h) (Or.inl ⟨by rfl, ?_⟩) ?_ ?_
          rotate_left
          · intro w'
            go_simp
            try (with_reducible rfl)
          rotate_left
          · simp only [Act.put, List.setIfInBounds_toArray, List.set_cons_zero, List.set_cons_succ]
            rfl
          refine pure_ (i := 29) (N := some 216) (v := ?_) (a' := ?_) (flg 31 1073741823) rfl rfl (by kernel_rfl) (fun _ _ _ h => h) (Or.inl ⟨by rfl, ?_⟩) ?_ ?_
          rotate_left
          · intro w'
            go_simp
            try (with_reducible rfl)
          rotate_left
          · simp only [Act.put, List.setIfInBounds_toArray, List.set_cons_zero, List.set_cons_succ]
            rfl
          refine pure_ (i := 30) (N := some 8) (v := ?_) (a' := ?_) (flg 31 2147483647) rfl rfl (by kernel_rfl) (fun _ _ _ h => h) (Or.inl ⟨by rfl, ?_⟩) ?_ ?_
          rotate_left
          · intro w'
            go_simp
            try (with_reducible rfl)
          rotate_left
          · simp only [Act.put, List.setIfInBounds_toArray, List.set_cons_zero, List.set_cons_succ]
            rfl
          refine done_ (by kernel_rfl) ?_
          refine NoPanic.normal ?_
          go_wp2_with (fail)
          go_ret
          exact ⟨rfl, T23.out.hB⟩
        | false =>
          refine pure_ (i := 16) (N := some 203) (v := ?_) (a' := ?_) (flg 31 131071) rfl rfl (by kernel_rfl) (fun _ _ _ h => h) (Or.inl ⟨by rfl, ?_⟩) ?_ ?_
          rotate_left
          · intro w'
            go_simp
            try (with_reducible rfl)
          rotate_left
          · simp only [Act.put, List.setIfInBounds_toArray, List.set_cons_zero, List.set_cons_succ]
            rfl
          refine pure_ (i := 17) (N := some 204) (v := ?_) (a' := ?_) (flg 31 262143) rfl rfl (by kernel_rfl) (fun _ _ _ h => h) (Or.inl ⟨by rfl, ?_⟩) ?_ ?_
          rotate_left
          · intro w'
            go_simp
            try (with_reducible rfl)
          rotate_left
          · simp only [Act.put, List.setIfInBounds_toArray, List.set_cons_zero, List.set_cons_succ]
            rfl
          refine pure_ (i := 18) (N := some 205) (v := ?_) (a' := ?_) (flg 31 524287) rfl rfl (by kernel_rfl) (fun _ _ _ h => h) (Or.inl ⟨by rfl, ?_⟩) ?_ ?_
          rotate_left
          · intro w'
            go_simp
            try (with_reducible rfl)
          rotate_left
          · simp only [Act.put, List.setIfInBounds_toArray, List.set_cons_zero, List.set_cons_succ]
            rfl
          refine pure_ (i := 20) (N := some 207) (v := ?_) (a' := ?_) (flg 31 1572863) rfl rfl (by kernel_rfl) (fun _ _ _ h => h) (Or.inl ⟨by rfl, ?_⟩) ?_ ?_
          rotate_left
          · intro w'
            go_simp
            try (with_reducible rfl)
          rotate_left
          · simp only [Act.put, List.setIfInBounds_toArray, List.set_cons_zero, List.set_cons_succ]
            rfl
          refine take_ (i := 21) (N := some 208) (v := ?_) (a' := ?_) (flg 31 3670015) rfl rfl (by kernel_rfl) (fun _ _ _ h => h) (Or.inl ⟨by rfl, ?_⟩) hHeld ?_ ?_
          rotate_left
          · rintro w' ⟨s0_, s1_, s2_, s3_⟩
            go_simp
            try (with_reducible rfl)
          rotate_left
          · simp only [Act.put, List.setIfInBounds_toArray, List.set_cons_zero, List.set_cons_succ]
            rfl
          have HPG3 := Aside0.mk (show Q3.pages = p from HR3.out.near.pages.trans HPG.out)
          refine one_ (i := 19) (N := some 206) (flg 31 4194303) rfl rfl (by kernel_rfl) (by decide) (fun K hK => ?_)
          refine goes_ Try.func21 (by kernel_rfl) rfl #[pv gp2] (by rfl) rfl rfl (by (try simp only [List.map_toArray, List.map_cons, List.map_nil]); first | done | rfl) ?_
          have hc := KQ.pages T23.out
          rw [HPG3.out] at hc
          refine hc.mono ?_
          rintro e w_ ⟨rfl, rfl⟩
          refine ⟨_, rfl, ?_⟩
          clear hc
          refine hK.out _ _ (HELD.out T23.out) (fun hHeld => ?_)
          clear hK K
          refine norm_ (a' := ?_) ?_ ?_
          rotate_left
          · show Act.put _ (some 206) _ = _
            simp only [Act.put, List.setIfInBounds_toArray, List.set_cons_zero, List.set_cons_succ]
            rfl
          refine pure_ (i := 22) (N := some 209) (v := ?_) (a' := ?_) (flg 31 8388607) rfl rfl (by kernel_rfl) (fun _ _ _ h => h) (Or.inl ⟨by rfl, ?_⟩) ?_ ?_
          rotate_left
          · intro w'
            go_simp
            try (with_reducible rfl)
          rotate_left
          · simp only [Act.put, List.setIfInBounds_toArray, List.set_cons_zero, List.set_cons_succ]
            rfl
          refine pure_ (i := 23) (N := some 210) (v := ?_) (a' := ?_) (flg 31 16777215) rfl rfl (by kernel_rfl) (fun _ _ _ h => h) (Or.inl ⟨by rfl, ?_⟩) ?_ ?_
          rotate_left
          · intro w'
            go_simp
            try (with_reducible rfl)
          rotate_left
          · simp only [Act.put, List.setIfInBounds_toArray, List.set_cons_zero, List.set_cons_succ]
            rfl
          refine pure_ (i := 24) (N := some 211) (v := ?_) (a' := ?_) (flg 31 33554431) rfl rfl (by kernel_rfl) (fun _ _ _ h => h) (Or.inl ⟨by rfl, ?_⟩) ?_ ?_
          rotate_left
          · intro w'
            go_simp
            try (with_reducible rfl)
          rotate_left
          · simp only [Act.put, List.setIfInBounds_toArray, List.set_cons_zero, List.set_cons_succ]
            rfl
          refine take_ (i := 25) (N := some 212) (v := ?_) (a' := ?_) (flg 31 67108863) rfl rfl (by kernel_rfl) (fun _ _ _ h => h) (Or.inl ⟨by rfl, ?_⟩) hHeld ?_ ?_
          rotate_left
          · rintro w' ⟨s0_, s1_, s2_, s3_⟩
            go_simp
            try (with_reducible rfl)
          rotate_left
          · simp only [Act.put, List.setIfInBounds_toArray, List.set_cons_zero, List.set_cons_succ]
            rfl
          refine one_ (i := 26) (N := some 213) (flg 31 134217727) rfl rfl (by kernel_rfl) (by decide) (fun K hK => ?_)
          refine goes_ Try.func17 (by kernel_rfl) rfl #[pv gp2, .agg #[.int .i64 p, .map (some km)]] (by rfl) rfl rfl (by (try simp only [List.map_toArray, List.map_cons, List.map_nil]); first | done | rfl) ?_
          have hc := KQ.reads T23.out HR3.out.fine (by have := HJ3.out; omega) HR3.out.inv (Nat.lt_of_le_of_lt HR3.out.near.cnt (Nat.lt_of_lt_of_le HO2.out.cnt (by decide))) HX.out.2.1 HK2.out (by rw [HPG3.out]; exact HPP.out)
          rw [HPG3.out] at hc
          refine hc.mono ?_
          rintro e w24 ⟨r2, Q4, j4, rfl, h1, h2, h3, h4⟩
          have T24 := Aside0.mk h1
          obtain rfl : r2 = true := by
            rcases h4 HSH.out with h5 | h5
            · exact h5
            · rw [(h2.calm (HR3.out.calm (by rw [HO2.out.held.1]; intro f hf; cases hf)).2).1] at h5
              exact absurd (h5.symm.trans ((congrArg St.d (HR3.out.calm (by rw [HO2.out.held.1]; intro f hf; cases hf)).1).trans HXD2.out)) (by decide)
          clear h1 h2 h3 h4 hc
          refine ⟨_, rfl, ?_⟩
          refine hK.out _ _ (HELD.out T24.out) (fun hHeld => ?_)
          clear hK K
          refine norm_ (a' := ?_) ?_ ?_
          rotate_left
          · show Act.put _ (some 213) _ = _
            simp only [Act.put, List.setIfInBounds_toArray, List.set_cons_zero, List.set_cons_succ]
            rfl
          refine pure_ (i := 27) (N := some 214) (v := ?_) (a' := ?_) (flg 31 268435455) rfl rfl (by kernel_rfl) (fun _ _ _ h => h) (Or.inl ⟨by rfl, ?_⟩) ?_ ?_
          rotate_left
          · intro w'
            go_simp
            try (with_reducible rfl)
          rotate_left
          · simp only [Act.put, List.setIfInBounds_toArray, List.set_cons_zero, List.set_cons_succ]
            rfl
          refine pure_ (i := 28) (N := some 215) (v := ?_) (a' := ?_) (flg 31 536870911) rfl rfl (by kernel_rfl) (fun _ _ _ h => h) (Or.inl ⟨by rfl, ?_⟩) ?_ ?_
          rotate_left
          · intro w'
            go_simp
            try (with_reducible rfl)
          rotate_left
          · simp only [Act.put, List.setIfInBounds_toArray, List.set_cons_zero, List.set_cons_succ]
            rfl
          refine pure_ (i := 29) (N := some 216) (v := ?_) (a' := ?_) (flg 31 1073741823) rfl rfl (by kernel_rfl) (fun _ _ _ h => h) (Or.inl ⟨by rfl, ?_⟩) ?_ ?_
          rotate_left
          · intro w'
            go_simp
            try (with_reducible rfl)
          rotate_left
          · simp only [Act.put, List.setIfInBounds_toArray, List.set_cons_zero, List.set_cons_succ]
            rfl
          refine pure_ (i := 30) (N := some 8) (v := ?_) (a' := ?_) (flg 31 2147483647) rfl rfl (by kernel_rfl) (fun _ _ _ h => h) (Or.inl ⟨by rfl, ?_⟩) ?_ ?_
          rotate_left
          · intro w'
            go_simp
            try (with_reducible rfl)
          rotate_left
          · simp only [Act.put, List.setIfInBounds_toArray, List.set_cons_zero, List.set_cons_succ]
            rfl
          refine done_ (by kernel_rfl) ?_
          refine NoPanic.normal ?_
          go_wp2_with (fail)
          go_ret
          exact ⟨rfl, T24.out.hB⟩
      · have e_ : (p == pk) = false := beq_eq_false_iff_ne.2 hpk
        have HNE := Aside0.mk hpk
        clear hpk
        refine wp_region_noPanic ?_
        refine start_ (n := 31) (S := fun w' => w'.cell? ⟨bk, 0, none⟩ = some (.int .i64 pk) ∧ w'.cell? ⟨bk, 1, none⟩ = some (.map (some kk)) ∧ w'.cell? ⟨bm, 0, none⟩ = some (.int .i64 p) ∧ w'.cell? ⟨bm, 1, none⟩ = some (.map (some km))) (ds := []) (flg 31 0) (by kernel_rfl) rfl rfl (HELD.out (KQ.drew T21.out)) (fun hHeld => ?_)
        have T22 := Aside0.mk (KQ.drew T21.out)
        generalize World.drew _ = w22 at T22 hHeld ⊢
        refine pure_ (i := 0) (N := some 187) (v := ?_) (a' := ?_) (flg 31 1) rfl rfl (by kernel_rfl) (fun _ _ _ h => h) (Or.inl ⟨by rfl, ?_⟩) ?_ ?_
        rotate_left
        · intro w'
          go_simp
          try (with_reducible rfl)
        rotate_left
        · simp only [Act.put, List.setIfInBounds_toArray, List.set_cons_zero, List.set_cons_succ]
          rfl
        refine pure_ (i := 1) (N := some 188) (v := ?_) (a' := ?_) (flg 31 3) rfl rfl (by kernel_rfl) (fun _ _ _ h => h) (Or.inl ⟨by rfl, ?_⟩) ?_ ?_
        rotate_left
        · intro w'
          go_simp
          try (with_reducible rfl)
        rotate_left
        · simp only [Act.put, List.setIfInBounds_toArray, List.set_cons_zero, List.set_cons_succ]
          rfl
        refine pure_ (i := 2) (N := some 189) (v := ?_) (a' := ?_) (flg 31 7) rfl rfl (by kernel_rfl) (fun _ _ _ h => h) (Or.inl ⟨by rfl, ?_⟩) ?_ ?_
        rotate_left
        · intro w'
          go_simp
          try (with_reducible rfl)
        rotate_left
        · simp only [Act.put, List.setIfInBounds_toArray, List.set_cons_zero, List.set_cons_succ]
          rfl
        refine pure_ (i := 3) (N := some 190) (v := ?_) (a' := ?_) (flg 31 15) rfl rfl (by kernel_rfl) (fun _ _ _ h => h) (Or.inl ⟨by rfl, ?_⟩) ?_ ?_
        rotate_left
        · intro w'
          go_simp
          try (with_reducible rfl)
        rotate_left
        · simp only [Act.put, List.setIfInBounds_toArray, List.set_cons_zero, List.set_cons_succ]
          rfl
        refine pure_ (i := 4) (N := some 191) (v := ?_) (a' := ?_) (flg 31 31) rfl rfl (by kernel_rfl) (fun _ _ _ h => h) (Or.inl ⟨by rfl, ?_⟩) ?_ ?_
        rotate_left
        · intro w'
          go_simp
          try (with_reducible rfl)
        rotate_left
        · simp only [Act.put, List.setIfInBounds_toArray, List.set_cons_zero, List.set_cons_succ]
          rfl
        refine pure_ (i := 5) (N := some 192) (v := ?_) (a' := ?_) (flg 31 63) rfl rfl (by kernel_rfl) (fun _ _ _ h => h) (Or.inl ⟨by rfl, ?_⟩) ?_ ?_
        rotate_left
        · intro w'
          go_simp
          try (with_reducible rfl)
        rotate_left
        · simp only [Act.put, List.setIfInBounds_toArray, List.set_cons_zero, List.set_cons_succ]
          rfl
        refine pure_ (i := 6) (N := some 193) (v := ?_) (a' := ?_) (flg 31 127) rfl rfl (by kernel_rfl) (fun _ _ _ h => h) (Or.inl ⟨by rfl, ?_⟩) ?_ ?_
        rotate_left
        · intro w'
          go_simp
          try (with_reducible rfl)
        rotate_left
        · simp only [Act.put, List.setIfInBounds_toArray, List.set_cons_zero, List.set_cons_succ]
          rfl
        refine pure_ (i := 7) (N := some 194) (v := ?_) (a' := ?_) (flg 31 255) rfl rfl (by kernel_rfl) (fun _ _ _ h => h) (Or.inl ⟨by rfl, ?_⟩) ?_ ?_
        rotate_left
        · intro w'
          go_simp
          try (with_reducible rfl)
        rotate_left
        · simp only [Act.put, List.setIfInBounds_toArray, List.set_cons_zero, List.set_cons_succ]
          rfl
        refine pure_ (i := 9) (N := some 196) (v := ?_) (a' := ?_) (flg 31 767) rfl rfl (by kernel_rfl) (fun _ _ _ h => h) (Or.inl ⟨by rfl, ?_⟩) ?_ ?_
        rotate_left
        · intro w'
          go_simp
          try (with_reducible rfl)
        rotate_left
        · simp only [Act.put, List.setIfInBounds_toArray, List.set_cons_zero, List.set_cons_succ]
          rfl
        refine take_ (i := 10) (N := some 197) (v := ?_) (a' := ?_) (flg 31 1791) rfl rfl (by kernel_rfl) (fun _ _ _ h => h) (Or.inl ⟨by rfl, ?_⟩) hHeld ?_ ?_
        rotate_left
        · rintro w' ⟨s0_, s1_, s2_, s3_⟩
          go_simp
          try (with_reducible rfl)
        rotate_left
        · simp only [Act.put, List.setIfInBounds_toArray, List.set_cons_zero, List.set_cons_succ]
          rfl
        refine one_ (i := 8) (N := some 195) (flg 31 2047) rfl rfl (by kernel_rfl) (by decide) (fun K hK => ?_)
        refine goes_ Try.func21 (by kernel_rfl) rfl #[pv gp2] (by rfl) rfl rfl (by (try simp only [List.map_toArray, List.map_cons, List.map_nil]); first | done | rfl) ?_
        have hc := KQ.pages T22.out
        rw [HPG.out] at hc
        refine hc.mono ?_
        rintro e w_ ⟨rfl, rfl⟩
        refine ⟨_, rfl, ?_⟩
        clear hc
        refine hK.out _ _ (HELD.out T22.out) (fun hHeld => ?_)
        clear hK K
        refine norm_ (a' := ?_) ?_ ?_
        rotate_left
        · show Act.put _ (some 195) _ = _
          simp only [Act.put, List.setIfInBounds_toArray, List.set_cons_zero, List.set_cons_succ]
          rfl
        refine pure_ (i := 11) (N := some 198) (v := ?_) (a' := ?_) (flg 31 4095) rfl rfl (by kernel_rfl) (fun _ _ _ h => h) (Or.inl ⟨by rfl, ?_⟩) ?_ ?_
        rotate_left
        · intro w'
          go_simp
          try (with_reducible rfl)
        rotate_left
        · simp only [Act.put, List.setIfInBounds_toArray, List.set_cons_zero, List.set_cons_succ]
          rfl
        refine pure_ (i := 12) (N := some 199) (v := ?_) (a' := ?_) (flg 31 8191) rfl rfl (by kernel_rfl) (fun _ _ _ h => h) (Or.inl ⟨by rfl, ?_⟩) ?_ ?_
        rotate_left
        · intro w'
          go_simp
          try (with_reducible rfl)
        rotate_left
        · simp only [Act.put, List.setIfInBounds_toArray, List.set_cons_zero, List.set_cons_succ]
          rfl
        refine pure_ (i := 13) (N := some 200) (v := undef) (a' := ?_) (flg 31 16383) rfl rfl (by kernel_rfl) (fun _ _ _ h => h) (Or.inr ⟨by rfl, rfl⟩) ?_ ?_
        rotate_left
        · simp only [Act.put, List.setIfInBounds_toArray, List.set_cons_zero, List.set_cons_succ]
          rfl
        refine pure_ (i := 14) (N := some 201) (v := undef) (a' := ?_) (flg 31 32767) rfl rfl (by kernel_rfl) (fun _ _ _ h => h) (Or.inr ⟨by rfl, rfl⟩) ?_ ?_
        rotate_left
        · simp only [Act.put, List.setIfInBounds_toArray, List.set_cons_zero, List.set_cons_succ]
          rfl
        refine pure_ (i := 15) (N := some 202) (v := undef) (a' := ?_) (flg 31 65535) rfl rfl (by kernel_rfl) (fun _ _ _ h => h) (Or.inr ⟨by rfl, rfl⟩) ?_ ?_
        rotate_left
        · simp only [Act.put, List.setIfInBounds_toArray, List.set_cons_zero, List.set_cons_succ]
          rfl
        refine pure_ (i := 16) (N := some 203) (v := ?_) (a' := ?_) (flg 31 131071) rfl rfl (by kernel_rfl) (fun _ _ _ h => h) (Or.inl ⟨by rfl, ?_⟩) ?_ ?_
        rotate_left
        · intro w'
          go_simp
          try (with_reducible rfl)
        rotate_left
        · simp only [Act.put, List.setIfInBounds_toArray, List.set_cons_zero, List.set_cons_succ]
          rfl
        refine pure_ (i := 17) (N := some 204) (v := ?_) (a' := ?_) (flg 31 262143) rfl rfl (by kernel_rfl) (fun _ _ _ h => h) (Or.inl ⟨by rfl, ?_⟩) ?_ ?_
        rotate_left
        · intro w'
          go_simp
          try (with_reducible rfl)
        rotate_left
        · simp only [Act.put, List.setIfInBounds_toArray, List.set_cons_zero, List.set_cons_succ]
          rfl
        refine pure_ (i := 18) (N := some 205) (v := ?_) (a' := ?_) (flg 31 524287) rfl rfl (by kernel_rfl) (fun _ _ _ h => h) (Or.inl ⟨by rfl, ?_⟩) ?_ ?_
        rotate_left
        · intro w'
          go_simp
          try (with_reducible rfl)
        rotate_left
        · simp only [Act.put, List.setIfInBounds_toArray, List.set_cons_zero, List.set_cons_succ]
          rfl
        refine pure_ (i := 20) (N := some 207) (v := ?_) (a' := ?_) (flg 31 1572863) rfl rfl (by kernel_rfl) (fun _ _ _ h => h) (Or.inl ⟨by rfl, ?_⟩) ?_ ?_
        rotate_left
        · intro w'
          go_simp
          try (with_reducible rfl)
        rotate_left
        · simp only [Act.put, List.setIfInBounds_toArray, List.set_cons_zero, List.set_cons_succ]
          rfl
        refine take_ (i := 21) (N := some 208) (v := ?_) (a' := ?_) (flg 31 3670015) rfl rfl (by kernel_rfl) (fun _ _ _ h => h) (Or.inl ⟨by rfl, ?_⟩) hHeld ?_ ?_
        rotate_left
        · rintro w' ⟨s0_, s1_, s2_, s3_⟩
          go_simp
          try (with_reducible rfl)
        rotate_left
        · simp only [Act.put, List.setIfInBounds_toArray, List.set_cons_zero, List.set_cons_succ]
          rfl
        refine one_ (i := 19) (N := some 206) (flg 31 4194303) rfl rfl (by kernel_rfl) (by decide) (fun K hK => ?_)
        refine goes_ Try.func21 (by kernel_rfl) rfl #[pv gp2] (by rfl) rfl rfl (by (try simp only [List.map_toArray, List.map_cons, List.map_nil]); first | done | rfl) ?_
        have hc := KQ.pages T22.out
        rw [HPG.out] at hc
        refine hc.mono ?_
        rintro e w_ ⟨rfl, rfl⟩
        refine ⟨_, rfl, ?_⟩
        clear hc
        refine hK.out _ _ (HELD.out T22.out) (fun hHeld => ?_)
        clear hK K
        refine norm_ (a' := ?_) ?_ ?_
        rotate_left
        · show Act.put _ (some 206) _ = _
          simp only [Act.put, List.setIfInBounds_toArray, List.set_cons_zero, List.set_cons_succ]
          rfl
        refine pure_ (i := 22) (N := some 209) (v := ?_) (a' := ?_) (flg 31 8388607) rfl rfl (by kernel_rfl) (fun _ _ _ h => h) (Or.inl ⟨by rfl, ?_⟩) ?_ ?_
        rotate_left
        · intro w'
          go_simp
          try (with_reducible rfl)
        rotate_left
        · simp only [Act.put, List.setIfInBounds_toArray, List.set_cons_zero, List.set_cons_succ]
          rfl
        refine pure_ (i := 23) (N := some 210) (v := ?_) (a' := ?_) (flg 31 16777215) rfl rfl (by kernel_rfl) (fun _ _ _ h => h) (Or.inl ⟨by rfl, ?_⟩) ?_ ?_
        rotate_left
        · intro w'
          go_simp
          try (with_reducible rfl)
        rotate_left
        · simp only [Act.put, List.setIfInBounds_toArray, List.set_cons_zero, List.set_cons_succ]
          rfl
        refine pure_ (i := 24) (N := some 211) (v := ?_) (a' := ?_) (flg 31 33554431) rfl rfl (by kernel_rfl) (fun _ _ _ h => h) (Or.inl ⟨by rfl, ?_⟩) ?_ ?_
        rotate_left
        · intro w'
          go_simp
          try (with_reducible rfl)
        rotate_left
        · simp only [Act.put, List.setIfInBounds_toArray, List.set_cons_zero, List.set_cons_succ]
          rfl
        refine take_ (i := 25) (N := some 212) (v := ?_) (a' := ?_) (flg 31 67108863) rfl rfl (by kernel_rfl) (fun _ _ _ h => h) (Or.inl ⟨by rfl, ?_⟩) hHeld ?_ ?_
        rotate_left
        · rintro w' ⟨s0_, s1_, s2_, s3_⟩
          go_simp
          try (with_reducible rfl)
        rotate_left
        · simp only [Act.put, List.setIfInBounds_toArray, List.set_cons_zero, List.set_cons_succ]
          rfl
        refine one_ (i := 26) (N := some 213) (flg 31 134217727) rfl rfl (by kernel_rfl) (by decide) (fun K hK => ?_)
        refine goes_ Try.func17 (by kernel_rfl) rfl #[pv gp2, .agg #[.int .i64 p, .map (some km)]] (by rfl) rfl rfl (by (try simp only [List.map_toArray, List.map_cons, List.map_nil]); first | done | rfl) ?_
        have hc := KQ.reads T22.out HFI.out (by decide) HINV.out (Nat.lt_of_lt_of_le HO2.out.cnt (by decide)) HX.out.2.1 HK2.out (by rw [HPG.out]; exact HPP.out)
        rw [HPG.out] at hc
        refine hc.mono ?_
        rintro e w24 ⟨r2, Q4, j4, rfl, h1, h2, h3, h4⟩
        have T24 := Aside0.mk h1
        obtain rfl : r2 = true := by
          rcases h4 HSH.out with h5 | h5
          · exact h5
          · rw [(h2.calm (by rw [HO2.out.held.1]; intro f hf; cases hf)).1] at h5
            exact absurd (h5.symm.trans HXD2.out) (by decide)
        clear h1 h2 h3 h4 hc
        refine ⟨_, rfl, ?_⟩
        refine hK.out _ _ (HELD.out T24.out) (fun hHeld => ?_)
        clear hK K
        refine norm_ (a' := ?_) ?_ ?_
        rotate_left
        · show Act.put _ (some 213) _ = _
          simp only [Act.put, List.setIfInBounds_toArray, List.set_cons_zero, List.set_cons_succ]
          rfl
        refine pure_ (i := 27) (N := some 214) (v := ?_) (a' := ?_) (flg 31 268435455) rfl rfl (by kernel_rfl) (fun _ _ _ h => h) (Or.inl ⟨by rfl, ?_⟩) ?_ ?_
        rotate_left
        · intro w'
          go_simp
          try (with_reducible rfl)
        rotate_left
        · simp only [Act.put, List.setIfInBounds_toArray, List.set_cons_zero, List.set_cons_succ]
          rfl
        refine pure_ (i := 28) (N := some 215) (v := ?_) (a' := ?_) (flg 31 536870911) rfl rfl (by kernel_rfl) (fun _ _ _ h => h) (Or.inl ⟨by rfl, ?_⟩) ?_ ?_
        rotate_left
        · intro w'
          go_simp
          try (with_reducible rfl)
        rotate_left
        · simp only [Act.put, List.setIfInBounds_toArray, List.set_cons_zero, List.set_cons_succ]
          rfl
        refine pure_ (i := 29) (N := some 216) (v := ?_) (a' := ?_) (flg 31 1073741823) rfl rfl (by kernel_rfl) (fun _ _ _ h => h) (Or.inl ⟨by rfl, ?_⟩) ?_ ?_
        rotate_left
        · intro w'
          go_simp
          try (with_reducible rfl)
        rotate_left
        · simp only [Act.put, List.setIfInBounds_toArray, List.set_cons_zero, List.set_cons_succ]
          rfl
        refine pure_ (i := 30) (N := some 8) (v := ?_) (a' := ?_) (flg 31 2147483647) rfl rfl (by kernel_rfl) (fun _ _ _ h => h) (Or.inl ⟨by rfl, ?_⟩) ?_ ?_
        rotate_left
        · intro w'
          go_simp
          try (with_reducible rfl)
        rotate_left
        · simp only [Act.put, List.setIfInBounds_toArray, List.set_cons_zero, List.set_cons_succ]
          rfl
        refine done_ (by kernel_rfl) ?_
        refine NoPanic.normal ?_
        go_wp2_with (fail)
        go_ret
        exact ⟨rfl, T24.out.hB⟩
theorem MapO.apart {w0 w : World} {P Q : Part} {bx : List (Nat × Obj)} {k b n t : Nat} {o : Obj} {f : Cn} {cs : Array Value} (h : Bd w0 w P Q bx) (hx : (k, o) ∈ bx) (hm : MapO k o n f) (hb : (b, .cells cs t (0, 0)) ∈ bx) : k ≠ b := by
  rintro rfl
  have h1 := Bd.have h hx
  have h2 := Bd.have h hb
  obtain ⟨D, ⟨es, clock, h3, -⟩, -⟩ := hm w h1
  rw [h2] at h3
  cases h3
def six (bk bn bm kk kn km : Nat) (pk pn pm : Int) (ok on om : Obj) : List (Nat × Obj) := [(bk, .cells (shc pk kk) 34 (0, 0)), (bn, .cells (shc pn kn) 34 (0, 0)), (bm, .cells (shc pm km) 34 (0, 0)), (kk, ok), (kn, on), (km, om)]
abbrev put2 (w : World) (b : Nat) (p : Int) (k : Nat) : World := (w.setCell ⟨b, 0, none⟩ (.int .i64 p)).setCell ⟨b, 1, none⟩ (.map (some k))
theorem Bd.put2 {w0 w : World} {P Q : Part} {bx : List (Nat × Obj)} {b t k : Nat} {p p' : Int} {k' : Nat} (h : Bd w0 w P Q ((b, .cells (shc p k) t (0, 0)) :: bx)) (hP : Fr w0.heap.size P) (hQ : Fr w0.heap.size Q) (hne : ∀ x ∈ bx, x.1 ≠ b) (hb : w0.heap.size ≤ b) :
    Bd w0 (put2 w b p' k') P Q ((b, .cells (shc p' k') t (0, 0)) :: bx) :=
  Bd.put (cs := #[.int .i64 p', .map (some k)]) (Bd.put h hP hQ hne hb 0 (.int .i64 p') rfl) hP hQ hne hb 1 (.map (some k')) rfl
theorem Bd.put1 {w0 w : World} {P Q : Part} {bx : List (Nat × Obj)} {b t k : Nat} {p : Int} {k' : Nat} (h : Bd w0 w P Q ((b, .cells (shc p k) t (0, 0)) :: bx)) (hP : Fr w0.heap.size P) (hQ : Fr w0.heap.size Q) (hne : ∀ x ∈ bx, x.1 ≠ b) (hb : w0.heap.size ≤ b) :
    Bd w0 (w.setCell ⟨b, 1, none⟩ (.map (some k'))) P Q ((b, .cells (shc p k') t (0, 0)) :: bx) := Bd.put h hP hQ hne hb 1 (.map (some k')) rfl
structure LKQ (w wx : World) (gd gl gp bk bn bm kk kn km N : Nat) (P : Po) (pk pn pm : Int) (KM M MM : Cn) (ex : List (Nat × Obj)) : Prop where
  all : ∃ ok on om : Obj, KQ w wx gd gl gp P (six bk bn bm kk kn km pk pn pm ok on om ++ ex) ∧ MapO kk ok N KM ∧ MapO kn on N M ∧ MapO km om N MM
  ne : bk ≠ bn ∧ bk ≠ bm ∧ bn ≠ bm
  low : w.heap.size ≤ bk ∧ w.heap.size ≤ bn ∧ w.heap.size ≤ bm
  ex : ∀ x ∈ ex, x.1 ≠ bk ∧ x.1 ≠ bn ∧ x.1 ≠ bm
section
variable {w wx wy : World} {gd gl gp bk bn bm kk kn km N m : Nat} {P : Po} {pk pn pm : Int} {KM M MM : Cn} {ex : List (Nat × Obj)}
theorem LKQ.below (h : LKQ w wx gd gl gp bk bn bm kk kn km N P pk pn pm KM M MM ex) (hb : Below wx.heap.size wx wy) : LKQ w wy gd gl gp bk bn bm kk kn km N P pk pn pm KM M MM ex := by
  obtain ⟨⟨ok, on, om, hs, r⟩, a, b, c⟩ := h
  exact ⟨⟨ok, on, om, KQ.below hs hb, r⟩, a, b, c⟩
theorem LKQ.drew (h : LKQ w wx gd gl gp bk bn bm kk kn km N P pk pn pm KM M MM ex) : LKQ w wx.drew gd gl gp bk bn bm kk kn km N P pk pn pm KM M MM ex := LKQ.below h (below_drew (Below.refl _ wx))
theorem LKQ.more (h : LKQ w wx gd gl gp bk bn bm kk kn km N P pk pn pm KM M MM ex) : LKQ w wx gd gl gp bk bn bm kk kn km (N + 1) P pk pn pm KM M MM ex := by
  obtain ⟨⟨ok, on, om, hs, a, b, c⟩, r1, r2, r3⟩ := h
  exact ⟨⟨ok, on, om, hs, a.mono (Nat.le_succ _), b.mono (Nat.le_succ _), c.mono (Nat.le_succ _)⟩, r1, r2, r3⟩
theorem LKQ.fewer {ex' : List (Nat × Obj)} (h : LKQ w wx gd gl gp bk bn bm kk kn km N P pk pn pm KM M MM ex) (hs : ∀ x ∈ ex', x ∈ ex) : LKQ w wx gd gl gp bk bn bm kk kn km N P pk pn pm KM M MM ex' := by
  obtain ⟨⟨ok, on, om, hk, r⟩, a, b, c⟩ := h
  exact ⟨⟨ok, on, om, Bd.mono hk (fun x hx => (List.mem_append.1 hx).elim (List.mem_append_left _) (fun h => List.mem_append_right _ (hs x h))), r⟩, a, b, fun x hx => c x (hs x hx)⟩
theorem LKQ.held (h : LKQ w wx gd gl gp bk bn bm kk kn km N P pk pn pm KM M MM ex) : (wx.cell? ⟨bk, 0, none⟩ = some (.int .i64 pk) ∧ wx.cell? ⟨bk, 1, none⟩ = some (.map (some kk))) ∧ (wx.cell? ⟨bn, 0, none⟩ = some (.int .i64 pn) ∧ wx.cell? ⟨bn, 1, none⟩ = some (.map (some kn))) ∧ (wx.cell? ⟨bm, 0, none⟩ = some (.int .i64 pm) ∧ wx.cell? ⟨bm, 1, none⟩ = some (.map (some km))) := by
  obtain ⟨⟨ok, on, om, hk, -⟩, -⟩ := h
  exact ⟨⟨(Bd.box hk bk (shc pk kk) 34 (by simp [six]) 0).trans rfl, (Bd.box hk bk (shc pk kk) 34 (by simp [six]) 1).trans rfl⟩, ⟨(Bd.box hk bn (shc pn kn) 34 (by simp [six]) 0).trans rfl, (Bd.box hk bn (shc pn kn) 34 (by simp [six]) 1).trans rfl⟩, ⟨(Bd.box hk bm (shc pm km) 34 (by simp [six]) 0).trans rfl, (Bd.box hk bm (shc pm km) 34 (by simp [six]) 1).trans rfl⟩⟩
theorem LKQ.free (h : LKQ w wx gd gl gp bk bn bm kk kn km N P pk pn pm KM M MM ex) : (wx.frozen? ⟨bk, 0, none⟩ = false ∧ wx.frozen? ⟨bk, 1, none⟩ = false) ∧ (wx.frozen? ⟨bn, 0, none⟩ = false ∧ wx.frozen? ⟨bn, 1, none⟩ = false) ∧ (wx.frozen? ⟨bm, 0, none⟩ = false ∧ wx.frozen? ⟨bm, 1, none⟩ = false) := by
  obtain ⟨⟨ok, on, om, hk, -⟩, -⟩ := h
  have h1 : wx.heap[bk]? = some (.cells (shc pk kk) 34 (0, 0)) := Bd.have hk (by simp [six])
  have h2 : wx.heap[bn]? = some (.cells (shc pn kn) 34 (0, 0)) := Bd.have hk (by simp [six])
  have h3 : wx.heap[bm]? = some (.cells (shc pm km) 34 (0, 0)) := Bd.have hk (by simp [six])
  exact ⟨⟨blk_frozen h1 0, blk_frozen h1 1⟩, ⟨blk_frozen h2 0, blk_frozen h2 1⟩, ⟨blk_frozen h3 0, blk_frozen h3 1⟩⟩
theorem LKQ.exbox {gb t : Nat} {cs : Array Value} (h : LKQ w wx gd gl gp bk bn bm kk kn km N P pk pn pm KM M MM ex) (hx : (gb, .cells cs t (0, 0)) ∈ ex) (i : Nat) : wx.cell? ⟨gb, i, none⟩ = cs[i]? := by
  obtain ⟨⟨ok, on, om, hk, -⟩, -⟩ := h
  exact Bd.box hk gb cs t (List.mem_append_right _ hx) i
theorem LKQ.maps (h : LKQ w wx gd gl gp bk bn bm kk kn km N P pk pn pm KM M MM ex) : (kk ≠ bk ∧ kk ≠ bn ∧ kk ≠ bm) ∧ (kn ≠ bk ∧ kn ≠ bn ∧ kn ≠ bm) ∧ (km ≠ bk ∧ km ≠ bn ∧ km ≠ bm) := by
  obtain ⟨⟨ok, on, om, hk, a, b, c⟩, -⟩ := h
  have i1 : (bk, Obj.cells (shc pk kk) 34 (0, 0)) ∈ six bk bn bm kk kn km pk pn pm ok on om ++ ex := by simp [six]
  have i2 : (bn, Obj.cells (shc pn kn) 34 (0, 0)) ∈ six bk bn bm kk kn km pk pn pm ok on om ++ ex := by simp [six]
  have i3 : (bm, Obj.cells (shc pm km) 34 (0, 0)) ∈ six bk bn bm kk kn km pk pn pm ok on om ++ ex := by simp [six]
  have j1 : (kk, ok) ∈ six bk bn bm kk kn km pk pn pm ok on om ++ ex := by simp [six]
  have j2 : (kn, on) ∈ six bk bn bm kk kn km pk pn pm ok on om ++ ex := by simp [six]
  have j3 : (km, om) ∈ six bk bn bm kk kn km pk pn pm ok on om ++ ex := by simp [six]
  exact ⟨⟨MapO.apart hk j1 a i1, MapO.apart hk j1 a i2, MapO.apart hk j1 a i3⟩, ⟨MapO.apart hk j2 b i1, MapO.apart hk j2 b i2, MapO.apart hk j2 b i3⟩, ⟨MapO.apart hk j3 c i1, MapO.apart hk j3 c i2, MapO.apart hk j3 c i3⟩⟩
theorem LKQ.surely (h : LKQ w wx gd gl gp bk bn bm kk kn km N P pk pn pm KM M MM ex) : LKQ w (put2 wx bm pk kk) gd gl gp bk bn bm kk kn kk N P pk pn pk KM M KM ex := by
  obtain ⟨m1, m2, m3⟩ := h.maps
  obtain ⟨⟨ok, on, om, hk, a, b, c⟩, ne, low, hx⟩ := h
  refine ⟨⟨ok, on, ok, ?_, a, b, a⟩, ne, low, hx⟩
  have h1 : KQ w wx gd gl gp P ((bm, .cells (shc pm km) 34 (0, 0)) :: ((bk, .cells (shc pk kk) 34 (0, 0)) :: (bn, .cells (shc pn kn) 34 (0, 0)) :: (kk, ok) :: (kn, on) :: ex)) := Bd.mono hk (by simp +contextual [six])
  exact Bd.mono (Bd.put2 h1 (fpQ _ _ _ _ _) (fpE _) (fun x hx2 => by
    simp only [List.mem_cons] at hx2
    rcases hx2 with rfl | rfl | rfl | rfl | hx2
    · exact ne.2.1
    · exact ne.2.2
    · exact m1.2.2
    · exact m2.2.2
    · exact (hx x hx2).2.2) low.2.2) (by simp +contextual [six])
theorem LKQ.perhaps (h : LKQ w wx gd gl gp bk bn bm kk kn km N P pk pn pm KM M MM ex) : LKQ w (put2 wx bm pn kn) gd gl gp bk bn bm kk kn kn N P pk pn pn KM M M ex := by
  obtain ⟨m1, m2, m3⟩ := h.maps
  obtain ⟨⟨ok, on, om, hk, a, b, c⟩, ne, low, hx⟩ := h
  refine ⟨⟨ok, on, on, ?_, a, b, b⟩, ne, low, hx⟩
  have h1 : KQ w wx gd gl gp P ((bm, .cells (shc pm km) 34 (0, 0)) :: ((bk, .cells (shc pk kk) 34 (0, 0)) :: (bn, .cells (shc pn kn) 34 (0, 0)) :: (kk, ok) :: (kn, on) :: ex)) := Bd.mono hk (by simp +contextual [six])
  exact Bd.mono (Bd.put2 h1 (fpQ _ _ _ _ _) (fpE _) (fun x hx2 => by
    simp only [List.mem_cons] at hx2
    rcases hx2 with rfl | rfl | rfl | rfl | hx2
    · exact ne.2.1
    · exact ne.2.2
    · exact m1.2.2
    · exact m2.2.2
    · exact (hx x hx2).2.2) low.2.2) (by simp +contextual [six])
theorem LKQ.keep (h : LKQ w wx gd gl gp bk bn bm kk kn km N P pk pn pm KM M MM ex) : LKQ w (put2 wx bk pn kn) gd gl gp bk bn bm kn kn km N P pn pn pm M M MM ex := by
  obtain ⟨m1, m2, m3⟩ := h.maps
  obtain ⟨⟨ok, on, om, hk, a, b, c⟩, ne, low, hx⟩ := h
  refine ⟨⟨on, on, om, ?_, b, b, c⟩, ne, low, hx⟩
  have h1 : KQ w wx gd gl gp P ((bk, .cells (shc pk kk) 34 (0, 0)) :: ((bm, .cells (shc pm km) 34 (0, 0)) :: (bn, .cells (shc pn kn) 34 (0, 0)) :: (km, om) :: (kn, on) :: ex)) := Bd.mono hk (by simp +contextual [six])
  exact Bd.mono (Bd.put2 h1 (fpQ _ _ _ _ _) (fpE _) (fun x hx2 => by
    simp only [List.mem_cons] at hx2
    rcases hx2 with rfl | rfl | rfl | rfl | hx2
    · exact Ne.symm ne.2.1
    · exact Ne.symm ne.1
    · exact m3.1
    · exact m2.1
    · exact (hx x hx2).1) low.1) (by simp +contextual [six])
theorem LKQ.anew (h : LKQ w wx gd gl gp bk bn bm kk kn km N P pk pn pm KM M MM ex) : LKQ w (put2 wx bn pk kk) gd gl gp bk bn bm kk kk km N P pk pk pm KM KM MM ex := by
  obtain ⟨m1, m2, m3⟩ := h.maps
  obtain ⟨⟨ok, on, om, hk, a, b, c⟩, ne, low, hx⟩ := h
  refine ⟨⟨ok, ok, om, ?_, a, a, c⟩, ne, low, hx⟩
  have h1 : KQ w wx gd gl gp P ((bn, .cells (shc pn kn) 34 (0, 0)) :: ((bm, .cells (shc pm km) 34 (0, 0)) :: (bk, .cells (shc pk kk) 34 (0, 0)) :: (km, om) :: (kk, ok) :: ex)) := Bd.mono hk (by simp +contextual [six])
  exact Bd.mono (Bd.put2 h1 (fpQ _ _ _ _ _) (fpE _) (fun x hx2 => by
    simp only [List.mem_cons] at hx2
    rcases hx2 with rfl | rfl | rfl | rfl | hx2
    · exact Ne.symm ne.2.2
    · exact ne.1
    · exact m3.2.1
    · exact m1.2.1
    · exact (hx x hx2).2.1) low.2.1) (by simp +contextual [six])
theorem LKQ.renew {b : Nat} {o : Obj} {M' : Cn} (h : LKQ w wx gd gl gp bk bn bm kk kn km N P pk pn pm KM M MM ((b, o) :: ex)) (hm : MapO b o N M') (p : Int) : LKQ w (put2 wx bn p b) gd gl gp bk bn bm kk b km N P pk p pm KM M' MM ex := by
  obtain ⟨m1, m2, m3⟩ := h.maps
  obtain ⟨⟨ok, on, om, hk, a, b_, c⟩, ne, low, hx⟩ := h
  refine ⟨⟨ok, o, om, ?_, a, hm, c⟩, ne, low, fun x hx2 => hx x (List.mem_cons_of_mem _ hx2)⟩
  have h1 : KQ w wx gd gl gp P ((bn, .cells (shc pn kn) 34 (0, 0)) :: ((bm, .cells (shc pm km) 34 (0, 0)) :: (bk, .cells (shc pk kk) 34 (0, 0)) :: (km, om) :: (kk, ok) :: (b, o) :: ex)) := Bd.mono hk (by simp +contextual [six])
  exact Bd.mono (Bd.put2 h1 (fpQ _ _ _ _ _) (fpE _) (fun x hx2 => by
    simp only [List.mem_cons] at hx2
    rcases hx2 with rfl | rfl | rfl | rfl | rfl | hx2
    · exact Ne.symm ne.2.2
    · exact ne.1
    · exact m3.2.1
    · exact m1.2.1
    · exact (hx (b, o) List.mem_cons_self).2.1
    · exact (hx x (List.mem_cons_of_mem _ hx2)).2.1) low.2.1) (by simp +contextual [six])
theorem LKQ.retext {b : Nat} {o : Obj} {M' : Cn} (h : LKQ w wx gd gl gp bk bn bm kk kn km N P pk pn pm KM M MM ((b, o) :: ex)) (hm : MapO b o N M') : LKQ w (wx.setCell ⟨bn, 1, none⟩ (.map (some b))) gd gl gp bk bn bm kk b km N P pk pn pm KM M' MM ex := by
  obtain ⟨m1, m2, m3⟩ := h.maps
  obtain ⟨⟨ok, on, om, hk, a, b_, c⟩, ne, low, hx⟩ := h
  refine ⟨⟨ok, o, om, ?_, a, hm, c⟩, ne, low, fun x hx2 => hx x (List.mem_cons_of_mem _ hx2)⟩
  have h1 : KQ w wx gd gl gp P ((bn, .cells (shc pn kn) 34 (0, 0)) :: ((bm, .cells (shc pm km) 34 (0, 0)) :: (bk, .cells (shc pk kk) 34 (0, 0)) :: (km, om) :: (kk, ok) :: (b, o) :: ex)) := Bd.mono hk (by simp +contextual [six])
  exact Bd.mono (Bd.put1 h1 (fpQ _ _ _ _ _) (fpE _) (fun x hx2 => by
    simp only [List.mem_cons] at hx2
    rcases hx2 with rfl | rfl | rfl | rfl | rfl | hx2
    · exact Ne.symm ne.2.2
    · exact ne.1
    · exact m3.2.1
    · exact m1.2.1
    · exact (hx (b, o) List.mem_cons_self).2.1
    · exact (hx x (List.mem_cons_of_mem _ hx2)).2.1) low.2.1) (by simp +contextual [six])
theorem LKQ.did {Q : Po} {f : FuncId} {args : Array Value} {V : Value} (h : LKQ w wx gd gl gp bk bn bm kk kn km N P pk pn pm KM M MM ex) (hc : ∀ bx, KQ w wx gd gl gp P bx → Calls Try.prog f args wx fun e w' => e = .returned V ∧ KQ w w' gd gl gp Q bx) :
    Calls Try.prog f args wx fun e w' => e = .returned V ∧ LKQ w w' gd gl gp bk bn bm kk kn km N Q pk pn pm KM M MM ex := by
  obtain ⟨⟨ok, on, om, hk, r⟩, s1, s2, s3⟩ := h
  refine (hc _ hk).mono ?_
  rintro e w' ⟨rfl, hb⟩
  exact ⟨rfl, ⟨ok, on, om, hb, r⟩, s1, s2, s3⟩
theorem LKQ.write (h : LKQ w wx gd gl gp bk bn bm kk kn km N P pk pn pm KM M MM ex) (hf : P.fine m) (hm : m ≤ 100000000) (n : Int) (t : ByteArray) (hn : -9223372036854775808 ≤ n ∧ n < 9223372036854775808) :
    Calls Try.prog 12 #[pv gp, .int .i64 n, .string t] wx fun e w' => e = .returned (.int .i64 (P.write n t).1) ∧ LKQ w w' gd gl gp bk bn bm kk kn km N (P.write n t).2 pk pn pm KM M MM ex := h.did (fun _ hk => KQ.write hk hf hm n t hn)
theorem LKQ.free_ (h : LKQ w wx gd gl gp bk bn bm kk kn km N P pk pn pm KM M MM ex) (hf : P.fine m) (hm : m ≤ 100000000) (n : Int) (hn : -9223372036854775808 ≤ n ∧ n < 9223372036854775808) :
    Calls Try.prog 14 #[pv gp, .int .i64 n] wx fun e w' => e = .returned (.int .i64 (P.free_ n).1) ∧ LKQ w w' gd gl gp bk bn bm kk kn km N (P.free_ n).2 pk pn pm KM M MM ex := h.did (fun _ hk => KQ.free_ hk hf hm n hn)
theorem LKQ.alloc (h : LKQ w wx gd gl gp bk bn bm kk kn km N P pk pn pm KM M MM ex) (hf : P.fine m) (hm : m ≤ 100000000) (hfr : -9223372036854775808 ≤ P.free ∧ P.free < 9223372036854775808) (hlt : ∀ f ∈ P.held, f.n ≠ P.pages) :
    Calls Try.prog 9 #[pv gp] wx fun e w' => e = .returned (.tuple #[.int .i64 P.alloc.1, .int .i64 P.alloc.2.1]) ∧ LKQ w w' gd gl gp bk bn bm kk kn km N P.alloc.2.2 pk pn pm KM M MM ex := h.did (fun _ hk => KQ.alloc hk hf hm hfr hlt)
theorem LKQ.commit (h : LKQ w wx gd gl gp bk bn bm kk kn km N P pk pn pm KM M MM ex) (hf : P.fine m) (hm : m ≤ 100000000) (hpg : 1 ≤ P.pages) :
    Calls Try.prog 15 #[pv gp] wx fun e w' => e = .returned (.int .i64 P.commit.1) ∧ LKQ w w' gd gl gp bk bn bm kk kn km N P.commit.2 pk pn pm KM M MM ex := h.did (fun _ hk => KQ.commit hk hf hm hpg)
theorem LKQ.rollback (h : LKQ w wx gd gl gp bk bn bm kk kn km N P pk pn pm KM M MM ex) (hf : P.fine m) (hm : m ≤ 100000000) (hgp : P.g.pages ≤ 100000) (hnp : ∀ f ∈ P.held, ¬ f.p > 0) :
    Calls Try.prog 16 #[pv gp] wx fun e w' => e = .returned (.int .i64 P.rollback.1) ∧ LKQ w w' gd gl gp bk bn bm kk kn km N P.rollback.2 pk pn pm KM M MM ex := h.did (fun _ hk => KQ.rollback hk hf hm hgp hnp)
theorem LKQ.reads {C : Cn} (h : LKQ w wx gd gl gp bk bn bm kk kn km N P pk pn pm KM M MM ex) (hf : P.fine m) (hm : m ≤ 10000000) (hi : Inv P C) (hc : Pool.cnt P < 50000) (hpg : P.pages ≤ 300) :
    Calls Try.prog 17 #[pv gp, .agg #[.int .i64 P.pages, .map (some kn)]] wx fun e w' => ∃ (r : Bool) (Q : Po) (j : Nat), e = .returned (.bool r) ∧ LKQ w w' gd gl gp bk bn bm kk kn km N Q pk pn pm KM M MM ex ∧ Rd P Q C m j ∧ j ≤ 300 ∧ ((∀ n t, M n = some t → C n = some t) → r = true ∨ Q.s.d = true) := by
  obtain ⟨⟨ok, on, om, hk, a, b, c⟩, s1, s2, s3⟩ := h
  refine (KQ.reads hk hf hm hi hc (bm := kn) (o := on) (by simp [six]) b hpg).mono ?_
  rintro e w' ⟨r, Q, j, rfl, h1, h2⟩
  exact ⟨r, Q, j, rfl, ⟨⟨ok, on, om, h1, a, b, c⟩, s1, s2, s3⟩, h2⟩
theorem LKQ.new {b : Nat} {o : Obj} {n : Nat} {f : Cn} (h : LKQ w wx gd gl gp bk bn bm kk kn km N P pk pn pm KM M MM ex) (hb : Below wx.heap.size wx wy) (hx : wy.heap[b]? = some o) (hn : wx.heap.size ≤ b) (hm : MapO b o n f) : LKQ w wy gd gl gp bk bn bm kk kn km N P pk pn pm KM M MM ((b, o) :: ex) := by
  obtain ⟨⟨ok, on, om, hk, r⟩, ne, low, he⟩ := h
  have h1 := Bd.more hk (fpQ _ _ _ _ _) (fpE _) hb (x := (b, o)) hx hn
  have i1 : (bk, Obj.cells (shc pk kk) 34 (0, 0)) ∈ (b, o) :: (six bk bn bm kk kn km pk pn pm ok on om ++ ex) := by simp [six]
  have i2 : (bn, Obj.cells (shc pn kn) 34 (0, 0)) ∈ (b, o) :: (six bk bn bm kk kn km pk pn pm ok on om ++ ex) := by simp [six]
  have i3 : (bm, Obj.cells (shc pm km) 34 (0, 0)) ∈ (b, o) :: (six bk bn bm kk kn km pk pn pm ok on om ++ ex) := by simp [six]
  have j1 : (b, o) ∈ (b, o) :: (six bk bn bm kk kn km pk pn pm ok on om ++ ex) := List.mem_cons_self
  refine ⟨⟨ok, on, om, Bd.mono h1 (by simp +contextual [six]), r⟩, ne, low, fun x hx2 => ?_⟩
  rcases List.mem_cons.1 hx2 with rfl | hx2
  · exact ⟨MapO.apart h1 j1 hm i1, MapO.apart h1 j1 hm i2, MapO.apart h1 j1 hm i3⟩
  · exact he x hx2
theorem LKQ.box {b : Nat} {o : Obj} (h : LKQ w wx gd gl gp bk bn bm kk kn km N P pk pn pm KM M MM ex) (hb : Below wx.heap.size wx wy) (hx : wy.heap[b]? = some o) (hn : wx.heap.size ≤ b) : LKQ w wy gd gl gp bk bn bm kk kn km N P pk pn pm KM M MM ((b, o) :: ex) := by
  obtain ⟨⟨ok, on, om, hk, r⟩, ne, low, he⟩ := h
  have h1 := Bd.more hk (fpQ _ _ _ _ _) (fpE _) hb (x := (b, o)) hx hn
  have l1 : bk < wx.heap.size := blk_lt (show wx.heap[bk]? = some (.cells (shc pk kk) 34 (0, 0)) from Bd.have hk (by simp [six]))
  have l2 : bn < wx.heap.size := blk_lt (show wx.heap[bn]? = some (.cells (shc pn kn) 34 (0, 0)) from Bd.have hk (by simp [six]))
  have l3 : bm < wx.heap.size := blk_lt (show wx.heap[bm]? = some (.cells (shc pm km) 34 (0, 0)) from Bd.have hk (by simp [six]))
  refine ⟨⟨ok, on, om, Bd.mono h1 (by simp +contextual [six]), r⟩, ne, low, fun x hx2 => ?_⟩
  rcases List.mem_cons.1 hx2 with rfl | hx2
  · exact ⟨by simp only; omega, by simp only; omega, by simp only; omega⟩
  · exact he x hx2
theorem LKQ.start {o : Obj} (h : KQ w wx gd gl gp P [(bk, .cells (shc 1 kk) 34 (0, 0)), (kk, o)]) (hm : MapO kk o 0 (fun _ => none)) (hb : w.heap.size ≤ bk) {k1 k2 : Nat} (hk : (k1 = wx.heap.size ∧ k2 = wx.heap.size + 1) ∨ (k1 = wx.heap.size + 1 ∧ k2 = wx.heap.size)) :
    LKQ w ((wx.alloc (.cells (shc 1 kk) 34 (0, 0))).alloc (.cells (shc 1 kk) 34 (0, 0))).drew gd gl gp bk k1 k2 kk kk kk 0 P 1 1 1 (fun _ => none) (fun _ => none) (fun _ => none) [] := by
  have hs : (wx.alloc (.cells (shc 1 kk) 34 (0, 0))).heap.size = wx.heap.size + 1 := Array.size_push _
  have a := Bd.more (x := (wx.heap.size, .cells (shc 1 kk) 34 (0, 0))) h (fpQ _ _ _ _ _) (fpE _) ((Below.refl _ wx).alloc (Nat.le_refl _) _) (heap_alloc_new _ _) (Nat.le_refl _)
  have b := Bd.more (x := (wx.heap.size + 1, .cells (shc 1 kk) 34 (0, 0))) a (fpQ _ _ _ _ _) (fpE _) ((Below.refl _ _).alloc (Nat.le_refl _) _) (by rw [← hs]; exact heap_alloc_new _ _) (Nat.le_of_eq hs)
  have c := KQ.drew b
  have hlt : bk < wx.heap.size := blk_lt (show wx.heap[bk]? = some (.cells (shc 1 kk) 34 (0, 0)) from Bd.have h List.mem_cons_self)
  have hz := below_size h.hB
  rcases hk with ⟨rfl, rfl⟩ | ⟨rfl, rfl⟩
  · exact ⟨⟨o, o, o, Bd.mono c (by simp +contextual [six]), hm, hm, hm⟩, ⟨by omega, by omega, by omega⟩, ⟨hb, by omega, by omega⟩, fun x hx => by cases hx⟩
  · exact ⟨⟨o, o, o, Bd.mono c (by simp +contextual [six]), hm, hm, hm⟩, ⟨by omega, by omega, by omega⟩, ⟨hb, by omega, by omega⟩, fun x hx => by cases hx⟩
theorem Kp.low {P : Po} {M KM : Cn} {i : Nat} (h : Kp P M KM i) (hi : i < 250) : P.pages ≤ 300 ∧ (P.g.pages : Int) ≤ 300 := by
  obtain ⟨C, F, h1, h2⟩ := h.now
  have := h.pages
  have := h1.gp
  omega
theorem LKQ.with_ (h : LKQ w wx gd gl gp bk bn bm kk kn km N P pk pn pm KM M MM ex) (hn : N ≤ 1000000) (k : Int) (hk : -9223372036854775808 ≤ k ∧ k < 9223372036854775808) (t : ByteArray) (ht : t.size = 1024) :
    Calls Try.prog 10 #[.map (some kn), .int .i64 k, .string t] wx fun e w' => ∃ b' o', e = .returned (.map (some b')) ∧ LKQ w w' gd gl gp bk bn bm kk kn km (N + 1) P pk pn pm KM M MM ((b', o') :: ex) ∧ MapO b' o' (N + 1) (upd M k t) := by
  have h0 := h
  obtain ⟨⟨ok, on, om, hq, a, b, c⟩, s⟩ := h
  refine (withk.calls kn N M k t wx (b wx (Bd.have hq (by simp [six]))) (by omega) (wf_int hk) (by rw [ht]; decide)).mono ?_
  rintro e w' ⟨b', rfl, hge, hm, hb⟩
  obtain ⟨o', ho, hmo⟩ := MapO.of hm
  exact ⟨b', o', rfl, (h0.new hb ho hge hmo).more, hmo⟩
theorem LKQ.without_ (h : LKQ w wx gd gl gp bk bn bm kk kn km N P pk pn pm KM M MM ex) (hn : N ≤ 1000000) (k : Int) :
    Calls Try.prog 13 #[.map (some kn), .int .i64 k] wx fun e w' => ∃ b' o', e = .returned (.map (some b')) ∧ LKQ w w' gd gl gp bk bn bm kk kn km (N + 1) P pk pn pm KM M MM ((b', o') :: ex) ∧ MapO b' o' (N + 1) (fun x => if x = k then none else M x) := by
  have h0 := h
  obtain ⟨⟨ok, on, om, hq, a, b, c⟩, s⟩ := h
  refine (without.calls kn N M k wx (b wx (Bd.have hq (by simp [six]))) (by omega)).mono ?_
  rintro e w' ⟨b', rfl, hge, hm, hb⟩
  obtain ⟨o', ho, hmo⟩ := MapO.of hm
  exact ⟨b', o', rfl, (h0.new hb ho hge (hmo.mono (Nat.le_succ _))).more, hmo.mono (Nat.le_succ _)⟩
theorem LKQ.look (h : LKQ w wx gd gl gp bk bn bm kk kn km N P pk pn pm KM M MM ex) {x : Int} (hx : -9223372036854775808 ≤ x ∧ x < 9223372036854775808) :
    ∃ t, (Instr.lookup 32 (.map (some kn)) (.int .i64 x) true).run Try.prog wx = .ok (.tuple #[.string t, .bool (M x).isSome]) wx := by
  obtain ⟨⟨ok, on, om, hq, a, b, c⟩, s⟩ := h
  obtain ⟨t, h1, -⟩ := (b wx (Bd.have hq (by simp [six]))).look (wf_int hx)
  exact ⟨t, h1⟩
end
noncomputable def sw3 : Code := (Try.f3.body.bind (findBlockK 2)).getD .skip
def Out3 (w wx : World) (gd gl gp bk bn bm N i m : Nat) (ex : List (Nat × Obj)) (e : Int) : Prop := ∃ (kk kn km : Nat) (P : Po) (pk pn pm : Int) (KM M MM : Cn), LKQ w wx gd gl gp bk bn bm kk kn km (N + 1) P pk pn pm KM M MM ex ∧ P.s.ok (m + 40) ∧ ((e = 0 ∧ P.fine (m + 40) ∧ Kp P M KM (i + 1) ∧ pn = P.pages ∧ pk = P.g.pages) ∨ (e ≠ 0 ∧ P.s.d = true ∧ ∀ keep, ((FinK (P.s.crashed keep) pk KM ∧ pk ≤ 300) ∨ (FinK (P.s.crashed keep) pm MM ∧ pm ≤ 300))))
set_option maxHeartbeats 16000000 in
set_option maxRecDepth 100000 in
theorem step3W {c0 c1 c2 c3 c4 c5 c6 c7 c8 c16 c19 c20 c21 c22 c23 c24 c25 c26 c27 c28 c29 c30 c31 c32 c33 c34 c35 c36 c37 c38 c39 c40 c41 c42 c43 c44 c45 c46 c47 c48 c49 c50 c51 c52 c53 c54 c55 c56 c57 c58 c59 c60 c62 c63 c64 c65 c66 c67 c68 c69 c70 c71 c72 c73 c74 c75 c76 c77 c78 c79 c80 c81 c82 c83 c84 c85 c86 c87 c88 c89 c90 c91 c92 c93 c94 c95 c96 c97 c98 c99 c100 c101 c102 c103 c104 c105 c106 c107 c108 c109 c110 c111 c112 c113 c114 c115 c116 c117 c118 c119 c120 c121 c122 c123 c124 c125 c126 c127 c128 c129 c130 c131 c132 c133 c134 c135 c136 c137 c138 c139 c140 c141 c142 c143 c144 c145 c146 c147 c148 c149 c150 c151 c152 c153 c154 c155 c156 c157 c158 c159 c160 c161 c162 c163 c164 c165 c166 c167 c168 c169 c170 c171 c172 c173 c174 c175 c176 c177 c178 c179 c180 c181 c182 c183 c184 c185 c186 c187 c188 c189 c190 c191 c192 c193 c194 c195 c196 c197 c198 c199 c200 c201 c202 c203 c204 c205 c206 c207 c208 c209 c210 c211 c212 c213 c214 c215 c216 : Value} {w w8 : World} {gd gl gp gb bk bn bm kk kn km N i m : Nat} {P : Po} {pk pn pm nn At k : Int} {KM M MM : Cn} {ca : Array Value} {ex : List (Nat × Obj)} {K : Act → World → Prop} {Q : Exit → Act → World → Prop}
    (T8 : Aside0 (LKQ w w8 gd gl gp bk bn bm kk kn km N P pk pn pm KM M MM ex)) (HP : Aside0 (pn = P.pages ∧ pk = P.g.pages)) (HKP : Aside0 (Kp P M KM i)) (HF : Aside0 (P.fine m)) (HM : Aside0 (m ≤ 1000000)) (HI : Aside0 (i < 250 ∧ N ≤ 1000)) (HN : Aside0 (1 ≤ nn ∧ nn ≤ 20)) (HX : Aside0 ((gb, .cells ca 37 (0, 0)) ∈ ex ∧ ca[2]? = some (.int .i64 At)))
    (HK : Aside0 (∀ (v11 v18 v19 v20 v21 v22 v62 v63 v64 v65 v66 v67 v68 v69 v70 v71 v72 v73 v74 v75 v76 v77 v78 v79 v80 v81 v82 v83 v84 v85 v86 v87 v88 v89 v90 v91 v92 v93 v94 v95 v96 v97 v98 v99 v100 v101 v102 v103 v104 v105 v106 v107 v108 v109 v110 v111 v112 v113 v114 v115 v116 v117 v118 v119 v120 v121 v122 v123 v124 v125 v126 v127 v128 v129 v130 v131 v132 v133 v134 v135 v136 v137 v138 v139 v140 v141 v142 v143 v144 v145 v146 v147 : Value) (e' : Int) (wx : World), v11 = .int .i64 e' → Aside0 (Out3 w wx gd gl gp bk bn bm N i m ex e') → K ⟨#[c0, c1, c2, c3, c4, c5, c6, c7, c8, pv gd, pv gp, v11, pv bk, pv bn, pv bm, .bool true, c16, pv gb, v18, v19, v20, v21, v22, c23, c24, c25, c26, c27, c28, c29, c30, c31, c32, c33, c34, c35, c36, c37, c38, c39, c40, c41, c42, c43, c44, c45, c46, c47, c48, c49, c50, c51, c52, c53, c54, c55, c56, c57, c58, c59, c60, .int .i64 k, v62, v63, v64, v65, v66, v67, v68, v69, v70, v71, v72, v73, v74, v75, v76, v77, v78, v79, v80, v81, v82, v83, v84, v85, v86, v87, v88, v89, v90, v91, v92, v93, v94, v95, v96, v97, v98, v99, v100, v101, v102, v103, v104, v105, v106, v107, v108, v109, v110, v111, v112, v113, v114, v115, v116, v117, v118, v119, v120, v121, v122, v123, v124, v125, v126, v127, v128, v129, v130, v131, v132, v133, v134, v135, v136, v137, v138, v139, v140, v141, v142, v143, v144, v145, v146, v147, c148, c149, c150, c151, c152, c153, c154, c155, c156, c157, c158, c159, c160, c161, c162, c163, c164, c165, c166, c167, c168, c169, c170, c171, c172, c173, c174, c175, c176, c177, c178, c179, c180, c181, c182, c183, c184, c185, c186, c187, c188, c189, c190, c191, c192, c193, c194, c195, c196, c197, c198, c199, c200, c201, c202, c203, c204, c205, c206, c207, c208, c209, c210, c211, c212, c213, c214, c215, c216], []⟩ wx)) (hk : k = 2 ∨ k = 3 ∨ k = 4) :
    Code.wp Try.prog sw3 (Exit.then K Q) ⟨#[c0, c1, c2, c3, c4, c5, c6, c7, c8, pv gd, pv gp, .int .i64 0, pv bk, pv bn, pv bm, .bool true, c16, pv gb, .int .i64 nn, c19, c20, c21, c22, c23, c24, c25, c26, c27, c28, c29, c30, c31, c32, c33, c34, c35, c36, c37, c38, c39, c40, c41, c42, c43, c44, c45, c46, c47, c48, c49, c50, c51, c52, c53, c54, c55, c56, c57, c58, c59, c60, .int .i64 k, c62, c63, c64, c65, c66, c67, c68, c69, c70, c71, c72, c73, c74, c75, c76, c77, c78, c79, c80, c81, c82, c83, c84, c85, c86, c87, c88, c89, c90, c91, c92, c93, c94, c95, c96, c97, c98, c99, c100, c101, c102, c103, c104, c105, c106, c107, c108, c109, c110, c111, c112, c113, c114, c115, c116, c117, c118, c119, c120, c121, c122, c123, c124, c125, c126, c127, c128, c129, c130, c131, c132, c133, c134, c135, c136, c137, c138, c139, c140, c141, c142, c143, c144, c145, c146, c147, c148, c149, c150, c151, c152, c153, c154, c155, c156, c157, c158, c159, c160, c161, c162, c163, c164, c165, c166, c167, c168, c169, c170, c171, c172, c173, c174, c175, c176, c177, c178, c179, c180, c181, c182, c183, c184, c185, c186, c187, c188, c189, c190, c191, c192, c193, c194, c195, c196, c197, c198, c199, c200, c201, c202, c203, c204, c205, c206, c207, c208, c209, c210, c211, c212, c213, c214, c215, c216], []⟩ w8 := by
  conv => arg 2; whnf
  have HPB := Aside0.mk (HKP.out.low HI.out.1)
  obtain ⟨t, hsh, hts⟩ := QLogKept.sheet_ex At
  have HS := Aside0.mk hsh
  have HT := Aside0.mk hts
  clear hsh hts
  have q0 : w8.cell? ⟨bn, 1, none⟩ = some (.map (some kn)) := T8.out.held.2.1.2
  obtain ⟨tl, hlk⟩ := T8.out.look (x := nn) (by have := HN.out; omega)
  cases hM : M nn with
  | none =>
    rw [hM] at hlk
    simp only [Option.isSome_none] at hlk
    rcases hk with rfl | rfl | rfl
    all_goals
      go_wp2_with (fail)
      exact HK.out _ _ _ _ _ _ _ _ _ _ _ _ _ _ _ _ _ _ _ _ _ _ _ _ _ _ _ _ _ _ _ _ _ _ _ _ _ _ _ _ _ _ _ _ _ _ _ _ _ _ _ _ _ _ _ _ _ _ _ _ _ _ _ _ _ _ _ _ _ _ _ _ _ _ _ _ _ _ _ _ _ _ _ _ _ _ _ _ _ _ _ _ _ _ rfl ⟨_, _, _, P, _, _, _, KM, M, MM, LKQ.more T8.out, (Po.fine.more HF.out (by omega)).ok, .inl ⟨rfl, Po.fine.more HF.out (by omega), HKP.out.mono (Nat.le_succ _), HP.out⟩⟩
  | some u =>
    rw [hM] at hlk
    simp only [Option.isSome_some] at hlk
    have HMN := Aside0.mk hM
    clear hM
    have T9 := T8
    rcases hk with rfl | rfl | rfl
    all_goals
      go_upto_region 28 with (fail)
      refine wp_region_noPanic ?_
      refine start_ (n := 9) (S := fun w' => w'.cell? ⟨bn, 1, none⟩ = some (.map (some kn)) ∧ w'.cell? ⟨gb, 2, none⟩ = some (.int .i64 At)) (ds := [8]) (flg 9 0) (by kernel_rfl) rfl rfl (⟨(Aside0.mk (LKQ.drew T9.out)).out.held.2.1.2, (LKQ.exbox (Aside0.mk (LKQ.drew T9.out)).out (by first | exact HX.out.1 | exact List.mem_cons_of_mem _ HX.out.1) 2).trans HX.out.2⟩) (fun hHeld => ?_)
      have T10 := Aside0.mk (LKQ.drew T9.out)
      generalize World.drew _ = w10 at T10 hHeld ⊢
      refine pure_ (i := 0) (N := some 103) (v := ?_) (a' := ?_) (flg 9 1) rfl rfl (by kernel_rfl) (fun _ _ _ h => h) (Or.inl ⟨by rfl, ?_⟩) ?_ ?_
      rotate_left
      · intro w'
        go_simp
        try (with_reducible rfl)
      rotate_left
      · simp only [Act.put, List.setIfInBounds_toArray, List.set_cons_zero, List.set_cons_succ]
        rfl
      refine take_ (i := 1) (N := some 104) (v := ?_) (a' := ?_) (flg 9 3) rfl rfl (by kernel_rfl) (fun _ _ _ h => h) (Or.inl ⟨by rfl, ?_⟩) hHeld ?_ ?_
      rotate_left
      · rintro w' ⟨s0_, s1_⟩
        go_simp
        try (with_reducible rfl)
      rotate_left
      · simp only [Act.put, List.setIfInBounds_toArray, List.set_cons_zero, List.set_cons_succ]
        rfl
      refine pure_ (i := 2) (N := some 105) (v := ?_) (a' := ?_) (flg 9 7) rfl rfl (by kernel_rfl) (fun _ _ _ h => h) (Or.inl ⟨by rfl, ?_⟩) ?_ ?_
      rotate_left
      · intro w'
        go_simp
        try (with_reducible rfl)
      rotate_left
      · simp only [Act.put, List.setIfInBounds_toArray, List.set_cons_zero, List.set_cons_succ]
        rfl
      refine pure_ (i := 3) (N := some 106) (v := ?_) (a' := ?_) (flg 9 15) rfl rfl (by kernel_rfl) (fun _ _ _ h => h) (Or.inl ⟨by rfl, ?_⟩) ?_ ?_
      rotate_left
      · intro w'
        go_simp
        try (with_reducible rfl)
      rotate_left
      · simp only [Act.put, List.setIfInBounds_toArray, List.set_cons_zero, List.set_cons_succ]
        rfl
      refine take_ (i := 4) (N := some 107) (v := ?_) (a' := ?_) (flg 9 31) rfl rfl (by kernel_rfl) (fun _ _ _ h => h) (Or.inl ⟨by rfl, ?_⟩) hHeld ?_ ?_
      rotate_left
      · rintro w' ⟨s0_, s1_⟩
        go_simp
        try (with_reducible rfl)
      rotate_left
      · simp only [Act.put, List.setIfInBounds_toArray, List.set_cons_zero, List.set_cons_succ]
        rfl
      refine one_ (i := 5) (N := some 108) (flg 9 63) rfl rfl (by kernel_rfl) (by decide) (fun K hK => ?_)
      refine goes_ Try.func11 (by kernel_rfl) rfl #[.int .i64 At] (by rfl) rfl rfl (by (try simp only [List.map_toArray, List.map_cons, List.map_nil]); first | done | rfl) ?_
      refine (QLogKept.relstorekeep_sheet.calls 1025 At t _ HS.out).mono ?_
      rintro e w11 ⟨rfl, hb⟩
      refine ⟨_, rfl, ?_⟩
      have T11 := Aside0.mk (LKQ.below T10.out hb)
      clear hb
      refine hK.out _ _ (⟨T11.out.held.2.1.2, (LKQ.exbox T11.out (by first | exact HX.out.1 | exact List.mem_cons_of_mem _ HX.out.1) 2).trans HX.out.2⟩) (fun hHeld => ?_)
      clear hK K
      refine norm_ (a' := ?_) ?_ ?_
      rotate_left
      · show Act.put _ (some 108) _ = _
        simp only [Act.put, List.setIfInBounds_toArray, List.set_cons_zero, List.set_cons_succ]
        rfl
      refine one_ (i := 6) (N := some 109) (flg 9 127) rfl rfl (by kernel_rfl) (by decide) (fun K hK => ?_)
      refine goes_ Try.func10 (by kernel_rfl) rfl #[.map (some kn), .int .i64 nn, .string t] (by rfl) rfl rfl (by (try simp only [List.map_toArray, List.map_cons, List.map_nil]); first | done | rfl) ?_
      refine (LKQ.with_ T11.out (by have := HI.out; omega) nn (by have := HN.out; omega) t HT.out).mono ?_
      rintro e w12 ⟨b', o', rfl, h1, h2⟩
      refine ⟨_, rfl, ?_⟩
      have T12 := Aside0.mk h1
      have HMO := Aside0.mk h2
      clear h1 h2
      refine hK.out _ _ (⟨T12.out.held.2.1.2, (LKQ.exbox T12.out (by first | exact HX.out.1 | exact List.mem_cons_of_mem _ HX.out.1) 2).trans HX.out.2⟩) (fun hHeld => ?_)
      clear hK K
      refine norm_ (a' := ?_) ?_ ?_
      rotate_left
      · show Act.put _ (some 109) _ = _
        simp only [Act.put, List.setIfInBounds_toArray, List.set_cons_zero, List.set_cons_succ]
        rfl
      refine pure_ (i := 7) (N := some 110) (v := ?_) (a' := ?_) (flg 9 255) rfl rfl (by kernel_rfl) (fun _ _ _ h => h) (Or.inl ⟨by rfl, ?_⟩) ?_ ?_
      rotate_left
      · intro w'
        go_simp
        try (with_reducible rfl)
      rotate_left
      · simp only [Act.put, List.setIfInBounds_toArray, List.set_cons_zero, List.set_cons_succ]
        rfl
      have z0 : w12.cell? ⟨bn, 1, none⟩ = some (.map (some kn)) := T12.out.held.2.1.2
      have z1 : w12.frozen? ⟨bn, 1, none⟩ = false := T12.out.free.2.1.2
      refine last_ (i := 8) (N := none) (flg 9 511) rfl rfl (by kernel_rfl) (by decide) (fun K hK => ?_)
      go_simp
      refine hK.out _ _ ?_
      clear hK K
      refine done_ (by kernel_rfl) ?_
      refine NoPanic.normal ?_
      have T13 := Aside0.mk (LKQ.retext T12.out HMO.out)
      clear z0 z1
      clear q0 hlk
      generalize World.setCell _ _ _ = w13 at T13 ⊢
      have HW := HKP.out.write HI.out.1 HF.out.ok HMN.out HT.out
      have HWF := Aside0.mk (write_fine HF.out nn t)
      obtain ⟨⟨c, P2⟩, hr⟩ : ∃ r, r = P.write nn t := ⟨_, rfl⟩
      have HR := Aside0.mk hr
      rw [← hr] at HW HWF
      clear hr
      have q2 : w13.cell? ⟨gb, 2, none⟩ = some (.int .i64 At) := (LKQ.exbox T13.out HX.out.1 2).trans HX.out.2
      rcases HW with ⟨h1, h2, h3, h4, h5⟩ | ⟨h1, h2⟩
      · have HG := Aside0.mk (show Kp P2 (upd M nn t) KM (i + 1) ∧ P2.pages = P.pages ∧ P2.g.pages = P.g.pages from ⟨h2, h3, h4⟩)
        obtain rfl : c = 0 := h1
        clear h2 h3 h4 h5
        go_wp2_with (first
          | (go_at_call 12; have hc := LKQ.write T14.out HF.out (by have := HM.out; omega) nn t (by have := HN.out; omega); rw [← HR.out] at hc; refine hc.mono ?_; rintro e w15 ⟨rfl, h⟩; have T15 := Aside0.mk h; clear h hc)
          | (go_at_call 11; (with_reducible refine (QLogKept.relstorekeep_sheet.calls 1025 At t _ HS.out).mono ?_); rintro e w14 ⟨rfl, hb⟩; have T14 := Aside0.mk (LKQ.below T13.out hb); clear hb))
        exact HK.out _ _ _ _ _ _ _ _ _ _ _ _ _ _ _ _ _ _ _ _ _ _ _ _ _ _ _ _ _ _ _ _ _ _ _ _ _ _ _ _ _ _ _ _ _ _ _ _ _ _ _ _ _ _ _ _ _ _ _ _ _ _ _ _ _ _ _ _ _ _ _ _ _ _ _ _ _ _ _ _ _ _ _ _ _ _ _ _ _ _ _ _ _ _ rfl ⟨_, _, _, P2, _, _, _, KM, upd M nn t, MM, T15.out, (Po.fine.more HWF.out (by omega)).ok, .inl ⟨rfl, Po.fine.more HWF.out (by omega), HG.out.1, HP.out.1.trans HG.out.2.1.symm, HP.out.2.trans (by rw [HG.out.2.2])⟩⟩
      · have HG := Aside0.mk h2
        obtain rfl : c = 2 := h1
        clear h2
        go_wp2_with (first
          | (go_at_call 12; have hc := LKQ.write T14.out HF.out (by have := HM.out; omega) nn t (by have := HN.out; omega); rw [← HR.out] at hc; refine hc.mono ?_; rintro e w15 ⟨rfl, h⟩; have T15 := Aside0.mk h; clear h hc)
          | (go_at_call 11; (with_reducible refine (QLogKept.relstorekeep_sheet.calls 1025 At t _ HS.out).mono ?_); rintro e w14 ⟨rfl, hb⟩; have T14 := Aside0.mk (LKQ.below T13.out hb); clear hb))
        exact HK.out _ _ _ _ _ _ _ _ _ _ _ _ _ _ _ _ _ _ _ _ _ _ _ _ _ _ _ _ _ _ _ _ _ _ _ _ _ _ _ _ _ _ _ _ _ _ _ _ _ _ _ _ _ _ _ _ _ _ _ _ _ _ _ _ _ _ _ _ _ _ _ _ _ _ _ _ _ _ _ _ _ _ _ _ _ _ _ _ _ _ _ _ _ _ rfl ⟨_, _, _, P2, _, _, _, KM, upd M nn t, MM, T15.out, (Po.fine.more HWF.out (by omega)).ok, .inr ⟨by decide, HG.out.d, fun keep => .inl ⟨by rw [HP.out.2]; exact HG.out.fin keep, by rw [HP.out.2]; exact HPB.out.2⟩⟩⟩
set_option maxHeartbeats 16000000 in
set_option maxRecDepth 100000 in
theorem step3F {c0 c1 c2 c3 c4 c5 c6 c7 c8 c16 c19 c20 c21 c22 c23 c24 c25 c26 c27 c28 c29 c30 c31 c32 c33 c34 c35 c36 c37 c38 c39 c40 c41 c42 c43 c44 c45 c46 c47 c48 c49 c50 c51 c52 c53 c54 c55 c56 c57 c58 c59 c60 c62 c63 c64 c65 c66 c67 c68 c69 c70 c71 c72 c73 c74 c75 c76 c77 c78 c79 c80 c81 c82 c83 c84 c85 c86 c87 c88 c89 c90 c91 c92 c93 c94 c95 c96 c97 c98 c99 c100 c101 c102 c103 c104 c105 c106 c107 c108 c109 c110 c111 c112 c113 c114 c115 c116 c117 c118 c119 c120 c121 c122 c123 c124 c125 c126 c127 c128 c129 c130 c131 c132 c133 c134 c135 c136 c137 c138 c139 c140 c141 c142 c143 c144 c145 c146 c147 c148 c149 c150 c151 c152 c153 c154 c155 c156 c157 c158 c159 c160 c161 c162 c163 c164 c165 c166 c167 c168 c169 c170 c171 c172 c173 c174 c175 c176 c177 c178 c179 c180 c181 c182 c183 c184 c185 c186 c187 c188 c189 c190 c191 c192 c193 c194 c195 c196 c197 c198 c199 c200 c201 c202 c203 c204 c205 c206 c207 c208 c209 c210 c211 c212 c213 c214 c215 c216 : Value} {w w8 : World} {gd gl gp gb bk bn bm kk kn km N i m : Nat} {P : Po} {pk pn pm nn At k : Int} {KM M MM : Cn} {ca : Array Value} {ex : List (Nat × Obj)} {K : Act → World → Prop} {Q : Exit → Act → World → Prop}
    (T8 : Aside0 (LKQ w w8 gd gl gp bk bn bm kk kn km N P pk pn pm KM M MM ex)) (HP : Aside0 (pn = P.pages ∧ pk = P.g.pages)) (HKP : Aside0 (Kp P M KM i)) (HF : Aside0 (P.fine m)) (HM : Aside0 (m ≤ 1000000)) (HI : Aside0 (i < 250 ∧ N ≤ 1000)) (HN : Aside0 (1 ≤ nn ∧ nn ≤ 20)) (HX : Aside0 ((gb, .cells ca 37 (0, 0)) ∈ ex ∧ ca[2]? = some (.int .i64 At)))
    (HK : Aside0 (∀ (v11 v18 v19 v20 v21 v22 v62 v63 v64 v65 v66 v67 v68 v69 v70 v71 v72 v73 v74 v75 v76 v77 v78 v79 v80 v81 v82 v83 v84 v85 v86 v87 v88 v89 v90 v91 v92 v93 v94 v95 v96 v97 v98 v99 v100 v101 v102 v103 v104 v105 v106 v107 v108 v109 v110 v111 v112 v113 v114 v115 v116 v117 v118 v119 v120 v121 v122 v123 v124 v125 v126 v127 v128 v129 v130 v131 v132 v133 v134 v135 v136 v137 v138 v139 v140 v141 v142 v143 v144 v145 v146 v147 : Value) (e' : Int) (wx : World), v11 = .int .i64 e' → Aside0 (Out3 w wx gd gl gp bk bn bm N i m ex e') → K ⟨#[c0, c1, c2, c3, c4, c5, c6, c7, c8, pv gd, pv gp, v11, pv bk, pv bn, pv bm, .bool true, c16, pv gb, v18, v19, v20, v21, v22, c23, c24, c25, c26, c27, c28, c29, c30, c31, c32, c33, c34, c35, c36, c37, c38, c39, c40, c41, c42, c43, c44, c45, c46, c47, c48, c49, c50, c51, c52, c53, c54, c55, c56, c57, c58, c59, c60, .int .i64 k, v62, v63, v64, v65, v66, v67, v68, v69, v70, v71, v72, v73, v74, v75, v76, v77, v78, v79, v80, v81, v82, v83, v84, v85, v86, v87, v88, v89, v90, v91, v92, v93, v94, v95, v96, v97, v98, v99, v100, v101, v102, v103, v104, v105, v106, v107, v108, v109, v110, v111, v112, v113, v114, v115, v116, v117, v118, v119, v120, v121, v122, v123, v124, v125, v126, v127, v128, v129, v130, v131, v132, v133, v134, v135, v136, v137, v138, v139, v140, v141, v142, v143, v144, v145, v146, v147, c148, c149, c150, c151, c152, c153, c154, c155, c156, c157, c158, c159, c160, c161, c162, c163, c164, c165, c166, c167, c168, c169, c170, c171, c172, c173, c174, c175, c176, c177, c178, c179, c180, c181, c182, c183, c184, c185, c186, c187, c188, c189, c190, c191, c192, c193, c194, c195, c196, c197, c198, c199, c200, c201, c202, c203, c204, c205, c206, c207, c208, c209, c210, c211, c212, c213, c214, c215, c216], []⟩ wx)) (hk : k = 5) :
    Code.wp Try.prog sw3 (Exit.then K Q) ⟨#[c0, c1, c2, c3, c4, c5, c6, c7, c8, pv gd, pv gp, .int .i64 0, pv bk, pv bn, pv bm, .bool true, c16, pv gb, .int .i64 nn, c19, c20, c21, c22, c23, c24, c25, c26, c27, c28, c29, c30, c31, c32, c33, c34, c35, c36, c37, c38, c39, c40, c41, c42, c43, c44, c45, c46, c47, c48, c49, c50, c51, c52, c53, c54, c55, c56, c57, c58, c59, c60, .int .i64 k, c62, c63, c64, c65, c66, c67, c68, c69, c70, c71, c72, c73, c74, c75, c76, c77, c78, c79, c80, c81, c82, c83, c84, c85, c86, c87, c88, c89, c90, c91, c92, c93, c94, c95, c96, c97, c98, c99, c100, c101, c102, c103, c104, c105, c106, c107, c108, c109, c110, c111, c112, c113, c114, c115, c116, c117, c118, c119, c120, c121, c122, c123, c124, c125, c126, c127, c128, c129, c130, c131, c132, c133, c134, c135, c136, c137, c138, c139, c140, c141, c142, c143, c144, c145, c146, c147, c148, c149, c150, c151, c152, c153, c154, c155, c156, c157, c158, c159, c160, c161, c162, c163, c164, c165, c166, c167, c168, c169, c170, c171, c172, c173, c174, c175, c176, c177, c178, c179, c180, c181, c182, c183, c184, c185, c186, c187, c188, c189, c190, c191, c192, c193, c194, c195, c196, c197, c198, c199, c200, c201, c202, c203, c204, c205, c206, c207, c208, c209, c210, c211, c212, c213, c214, c215, c216], []⟩ w8 := by
  conv => arg 2; whnf
  have HPB := Aside0.mk (HKP.out.low HI.out.1)
  subst hk
  have q0 : w8.cell? ⟨bn, 1, none⟩ = some (.map (some kn)) := T8.out.held.2.1.2
  obtain ⟨tl, hlk⟩ := T8.out.look (x := nn) (by have := HN.out; omega)
  cases hM : M nn with
  | none =>
    rw [hM] at hlk
    simp only [Option.isSome_none] at hlk
    go_wp2_with (fail)
    exact HK.out _ _ _ _ _ _ _ _ _ _ _ _ _ _ _ _ _ _ _ _ _ _ _ _ _ _ _ _ _ _ _ _ _ _ _ _ _ _ _ _ _ _ _ _ _ _ _ _ _ _ _ _ _ _ _ _ _ _ _ _ _ _ _ _ _ _ _ _ _ _ _ _ _ _ _ _ _ _ _ _ _ _ _ _ _ _ _ _ _ _ _ _ _ _ rfl ⟨_, _, _, P, _, _, _, KM, M, MM, LKQ.more T8.out, (Po.fine.more HF.out (by omega)).ok, .inl ⟨rfl, Po.fine.more HF.out (by omega), HKP.out.mono (Nat.le_succ _), HP.out⟩⟩
  | some u =>
    rw [hM] at hlk
    simp only [Option.isSome_some] at hlk
    have HW := HKP.out.free_ HI.out.1 HF.out.ok hM
    have HWF := Aside0.mk (free_fine HF.out nn)
    clear hM
    obtain ⟨⟨c, P2⟩, hr⟩ : ∃ r, r = P.free_ nn := ⟨_, rfl⟩
    have HR := Aside0.mk hr
    rw [← hr] at HW HWF
    clear hr
    rcases HW with ⟨h1, h2, h3, h4, h5⟩ | ⟨h1, h2⟩
    · have HG := Aside0.mk (show Kp P2 (fun x => if x = nn then none else M x) KM (i + 1) ∧ P2.pages = P.pages ∧ P2.g.pages = P.g.pages from ⟨h2, h3, h4⟩)
      obtain rfl : c = 0 := h1
      clear h2 h3 h4 h5
      go_wp2_with (first
        | (go_at_call 14; have hc := LKQ.free_ (LKQ.retext T9.out HMO.out) HF.out (by have := HM.out; omega) nn (by have := HN.out; omega); rw [← HR.out] at hc; refine hc.mono ?_; rintro e w10 ⟨rfl, h⟩; have T10 := Aside0.mk h; clear h hc)
        | (go_at_call 13; (with_reducible refine (LKQ.without_ T8.out (by have := HI.out; omega) nn).mono ?_); rintro e w9 ⟨b', o', rfl, h1, h2⟩; have T9 := Aside0.mk h1; have HMO := Aside0.mk h2; have z0 : w9.cell? ⟨bn, 1, none⟩ = some (.map (some kn)) := h1.held.2.1.2; have z1 : w9.frozen? ⟨bn, 1, none⟩ = false := h1.free.2.1.2; clear h1 h2))
      exact HK.out _ _ _ _ _ _ _ _ _ _ _ _ _ _ _ _ _ _ _ _ _ _ _ _ _ _ _ _ _ _ _ _ _ _ _ _ _ _ _ _ _ _ _ _ _ _ _ _ _ _ _ _ _ _ _ _ _ _ _ _ _ _ _ _ _ _ _ _ _ _ _ _ _ _ _ _ _ _ _ _ _ _ _ _ _ _ _ _ _ _ _ _ _ _ rfl ⟨_, _, _, P2, _, _, _, KM, fun x => if x = nn then none else M x, MM, T10.out, (Po.fine.more HWF.out (by omega)).ok, .inl ⟨rfl, Po.fine.more HWF.out (by omega), HG.out.1, HP.out.1.trans HG.out.2.1.symm, HP.out.2.trans (by rw [HG.out.2.2])⟩⟩
    · have HG := Aside0.mk h2
      obtain rfl : c = 2 := h1
      clear h2
      go_wp2_with (first
        | (go_at_call 14; have hc := LKQ.free_ (LKQ.retext T9.out HMO.out) HF.out (by have := HM.out; omega) nn (by have := HN.out; omega); rw [← HR.out] at hc; refine hc.mono ?_; rintro e w10 ⟨rfl, h⟩; have T10 := Aside0.mk h; clear h hc)
        | (go_at_call 13; (with_reducible refine (LKQ.without_ T8.out (by have := HI.out; omega) nn).mono ?_); rintro e w9 ⟨b', o', rfl, h1, h2⟩; have T9 := Aside0.mk h1; have HMO := Aside0.mk h2; have z0 : w9.cell? ⟨bn, 1, none⟩ = some (.map (some kn)) := h1.held.2.1.2; have z1 : w9.frozen? ⟨bn, 1, none⟩ = false := h1.free.2.1.2; clear h1 h2))
      exact HK.out _ _ _ _ _ _ _ _ _ _ _ _ _ _ _ _ _ _ _ _ _ _ _ _ _ _ _ _ _ _ _ _ _ _ _ _ _ _ _ _ _ _ _ _ _ _ _ _ _ _ _ _ _ _ _ _ _ _ _ _ _ _ _ _ _ _ _ _ _ _ _ _ _ _ _ _ _ _ _ _ _ _ _ _ _ _ _ _ _ _ _ _ _ _ rfl ⟨_, _, _, P2, _, _, _, KM, fun x => if x = nn then none else M x, MM, T10.out, (Po.fine.more HWF.out (by omega)).ok, .inr ⟨by decide, HG.out.d, fun keep => .inl ⟨by rw [HP.out.2]; exact HG.out.fin keep, by rw [HP.out.2]; exact HPB.out.2⟩⟩⟩
set_option maxHeartbeats 16000000 in
set_option maxRecDepth 100000 in
theorem step3C {c0 c1 c2 c3 c4 c5 c6 c7 c8 c16 c19 c20 c21 c22 c23 c24 c25 c26 c27 c28 c29 c30 c31 c32 c33 c34 c35 c36 c37 c38 c39 c40 c41 c42 c43 c44 c45 c46 c47 c48 c49 c50 c51 c52 c53 c54 c55 c56 c57 c58 c59 c60 c62 c63 c64 c65 c66 c67 c68 c69 c70 c71 c72 c73 c74 c75 c76 c77 c78 c79 c80 c81 c82 c83 c84 c85 c86 c87 c88 c89 c90 c91 c92 c93 c94 c95 c96 c97 c98 c99 c100 c101 c102 c103 c104 c105 c106 c107 c108 c109 c110 c111 c112 c113 c114 c115 c116 c117 c118 c119 c120 c121 c122 c123 c124 c125 c126 c127 c128 c129 c130 c131 c132 c133 c134 c135 c136 c137 c138 c139 c140 c141 c142 c143 c144 c145 c146 c147 c148 c149 c150 c151 c152 c153 c154 c155 c156 c157 c158 c159 c160 c161 c162 c163 c164 c165 c166 c167 c168 c169 c170 c171 c172 c173 c174 c175 c176 c177 c178 c179 c180 c181 c182 c183 c184 c185 c186 c187 c188 c189 c190 c191 c192 c193 c194 c195 c196 c197 c198 c199 c200 c201 c202 c203 c204 c205 c206 c207 c208 c209 c210 c211 c212 c213 c214 c215 c216 : Value} {w w8 : World} {gd gl gp gb bk bn bm kk kn km N i m : Nat} {P : Po} {pk pn pm nn At k : Int} {KM M MM : Cn} {ca : Array Value} {ex : List (Nat × Obj)} {K : Act → World → Prop} {Q : Exit → Act → World → Prop}
    (T8 : Aside0 (LKQ w w8 gd gl gp bk bn bm kk kn km N P pk pn pm KM M MM ex)) (HP : Aside0 (pn = P.pages ∧ pk = P.g.pages)) (HKP : Aside0 (Kp P M KM i)) (HF : Aside0 (P.fine m)) (HM : Aside0 (m ≤ 1000000)) (HI : Aside0 (i < 250 ∧ N ≤ 1000)) (HN : Aside0 (1 ≤ nn ∧ nn ≤ 20)) (HX : Aside0 ((gb, .cells ca 37 (0, 0)) ∈ ex ∧ ca[2]? = some (.int .i64 At)))
    (HK : Aside0 (∀ (v11 v18 v19 v20 v21 v22 v62 v63 v64 v65 v66 v67 v68 v69 v70 v71 v72 v73 v74 v75 v76 v77 v78 v79 v80 v81 v82 v83 v84 v85 v86 v87 v88 v89 v90 v91 v92 v93 v94 v95 v96 v97 v98 v99 v100 v101 v102 v103 v104 v105 v106 v107 v108 v109 v110 v111 v112 v113 v114 v115 v116 v117 v118 v119 v120 v121 v122 v123 v124 v125 v126 v127 v128 v129 v130 v131 v132 v133 v134 v135 v136 v137 v138 v139 v140 v141 v142 v143 v144 v145 v146 v147 : Value) (e' : Int) (wx : World), v11 = .int .i64 e' → Aside0 (Out3 w wx gd gl gp bk bn bm N i m ex e') → K ⟨#[c0, c1, c2, c3, c4, c5, c6, c7, c8, pv gd, pv gp, v11, pv bk, pv bn, pv bm, .bool true, c16, pv gb, v18, v19, v20, v21, v22, c23, c24, c25, c26, c27, c28, c29, c30, c31, c32, c33, c34, c35, c36, c37, c38, c39, c40, c41, c42, c43, c44, c45, c46, c47, c48, c49, c50, c51, c52, c53, c54, c55, c56, c57, c58, c59, c60, .int .i64 k, v62, v63, v64, v65, v66, v67, v68, v69, v70, v71, v72, v73, v74, v75, v76, v77, v78, v79, v80, v81, v82, v83, v84, v85, v86, v87, v88, v89, v90, v91, v92, v93, v94, v95, v96, v97, v98, v99, v100, v101, v102, v103, v104, v105, v106, v107, v108, v109, v110, v111, v112, v113, v114, v115, v116, v117, v118, v119, v120, v121, v122, v123, v124, v125, v126, v127, v128, v129, v130, v131, v132, v133, v134, v135, v136, v137, v138, v139, v140, v141, v142, v143, v144, v145, v146, v147, c148, c149, c150, c151, c152, c153, c154, c155, c156, c157, c158, c159, c160, c161, c162, c163, c164, c165, c166, c167, c168, c169, c170, c171, c172, c173, c174, c175, c176, c177, c178, c179, c180, c181, c182, c183, c184, c185, c186, c187, c188, c189, c190, c191, c192, c193, c194, c195, c196, c197, c198, c199, c200, c201, c202, c203, c204, c205, c206, c207, c208, c209, c210, c211, c212, c213, c214, c215, c216], []⟩ wx)) (hk : k = 6) :
    Code.wp Try.prog sw3 (Exit.then K Q) ⟨#[c0, c1, c2, c3, c4, c5, c6, c7, c8, pv gd, pv gp, .int .i64 0, pv bk, pv bn, pv bm, .bool true, c16, pv gb, .int .i64 nn, c19, c20, c21, c22, c23, c24, c25, c26, c27, c28, c29, c30, c31, c32, c33, c34, c35, c36, c37, c38, c39, c40, c41, c42, c43, c44, c45, c46, c47, c48, c49, c50, c51, c52, c53, c54, c55, c56, c57, c58, c59, c60, .int .i64 k, c62, c63, c64, c65, c66, c67, c68, c69, c70, c71, c72, c73, c74, c75, c76, c77, c78, c79, c80, c81, c82, c83, c84, c85, c86, c87, c88, c89, c90, c91, c92, c93, c94, c95, c96, c97, c98, c99, c100, c101, c102, c103, c104, c105, c106, c107, c108, c109, c110, c111, c112, c113, c114, c115, c116, c117, c118, c119, c120, c121, c122, c123, c124, c125, c126, c127, c128, c129, c130, c131, c132, c133, c134, c135, c136, c137, c138, c139, c140, c141, c142, c143, c144, c145, c146, c147, c148, c149, c150, c151, c152, c153, c154, c155, c156, c157, c158, c159, c160, c161, c162, c163, c164, c165, c166, c167, c168, c169, c170, c171, c172, c173, c174, c175, c176, c177, c178, c179, c180, c181, c182, c183, c184, c185, c186, c187, c188, c189, c190, c191, c192, c193, c194, c195, c196, c197, c198, c199, c200, c201, c202, c203, c204, c205, c206, c207, c208, c209, c210, c211, c212, c213, c214, c215, c216], []⟩ w8 := by
  conv => arg 2; whnf
  have HPB := Aside0.mk (HKP.out.low HI.out.1)
  subst hk
  obtain ⟨⟨q0, q1⟩, ⟨q2, q3⟩, ⟨q4, q5⟩⟩ := T8.out.held
  obtain ⟨-, -, ⟨z4, z5⟩⟩ := T8.out.free
  have HW := HKP.out.commit HI.out.1 HF.out.ok
  have HWT := @commit_turned P
  obtain ⟨C0, F0, hI, -⟩ := HKP.out.now
  have HPG := Aside0.mk hI.pages.1
  clear hI C0 F0
  obtain ⟨⟨c, P2⟩, hr⟩ : ∃ r, r = P.commit := ⟨_, rfl⟩
  have HR := Aside0.mk hr
  rw [← hr] at HW HWT
  clear hr
  obtain ⟨hok, HW⟩ := HW
  have HOK := Aside0.mk (show P2.s.ok (m + 40) from St.ok.more hok (by omega))
  clear hok
  rcases HW with ⟨h1, h2, h3, h4⟩ | ⟨h1, h2, h3⟩
  · have HG := Aside0.mk (show Kp P2 M M (i + 1) ∧ P2.pages = P.pages ∧ (P2.g.pages : Int) = P.pages from ⟨h2, h3, h4⟩)
    have HT := Aside0.mk (show P2.turned = [] from HWT h1)
    obtain rfl : c = 0 := h1
    clear h2 h3 h4 HWT
    go_wp2_with (go_at_call 15; have hc := LKQ.commit (LKQ.perhaps T8.out) HF.out (by have := HM.out; omega) HPG.out; rw [← HR.out] at hc; refine hc.mono ?_; rintro e w9 ⟨rfl, h⟩; have T9 := Aside0.mk h; obtain ⟨⟨y0, y1⟩, ⟨y2, y3⟩, -⟩ := h.held; obtain ⟨⟨x0, x1⟩, -, -⟩ := h.free; clear h hc)
    exact HK.out _ _ _ _ _ _ _ _ _ _ _ _ _ _ _ _ _ _ _ _ _ _ _ _ _ _ _ _ _ _ _ _ _ _ _ _ _ _ _ _ _ _ _ _ _ _ _ _ _ _ _ _ _ _ _ _ _ _ _ _ _ _ _ _ _ _ _ _ _ _ _ _ _ _ _ _ _ _ _ _ _ _ _ _ _ _ _ _ _ _ _ _ _ _ rfl ⟨_, _, _, P2, _, _, _, M, M, M, LKQ.more (LKQ.keep T9.out), HOK.out, .inl ⟨rfl, Kp.fine HG.out.1 HOK.out (by rw [HT.out]; exact Nat.zero_le _), HG.out.1, HP.out.1.trans HG.out.2.1.symm, HP.out.1.trans HG.out.2.2.symm⟩⟩
  · have HG := Aside0.mk (show P2.s.d = true ∧ ∀ keep, FinK (P2.s.crashed keep) P.g.pages KM ∨ FinK (P2.s.crashed keep) P.pages M from ⟨h2, h3⟩)
    obtain rfl : c = 2 := h1
    clear h2 h3 HWT
    go_wp2_with (go_at_call 15; have hc := LKQ.commit (LKQ.perhaps T8.out) HF.out (by have := HM.out; omega) HPG.out; rw [← HR.out] at hc; refine hc.mono ?_; rintro e w9 ⟨rfl, h⟩; have T9 := Aside0.mk h; clear h hc)
    exact HK.out _ _ _ _ _ _ _ _ _ _ _ _ _ _ _ _ _ _ _ _ _ _ _ _ _ _ _ _ _ _ _ _ _ _ _ _ _ _ _ _ _ _ _ _ _ _ _ _ _ _ _ _ _ _ _ _ _ _ _ _ _ _ _ _ _ _ _ _ _ _ _ _ _ _ _ _ _ _ _ _ _ _ _ _ _ _ _ _ _ _ _ _ _ _ rfl ⟨_, _, _, P2, _, _, _, KM, M, M, LKQ.more T9.out, HOK.out, .inr ⟨by decide, HG.out.1, fun keep => by rw [HP.out.1, HP.out.2]; exact (HG.out.2 keep).imp (fun h => ⟨h, HPB.out.2⟩) (fun h => ⟨h, HPB.out.1⟩)⟩⟩
set_option maxHeartbeats 16000000 in
set_option maxRecDepth 100000 in
theorem step3R {c0 c1 c2 c3 c4 c5 c6 c7 c8 c16 c19 c20 c21 c22 c23 c24 c25 c26 c27 c28 c29 c30 c31 c32 c33 c34 c35 c36 c37 c38 c39 c40 c41 c42 c43 c44 c45 c46 c47 c48 c49 c50 c51 c52 c53 c54 c55 c56 c57 c58 c59 c60 c62 c63 c64 c65 c66 c67 c68 c69 c70 c71 c72 c73 c74 c75 c76 c77 c78 c79 c80 c81 c82 c83 c84 c85 c86 c87 c88 c89 c90 c91 c92 c93 c94 c95 c96 c97 c98 c99 c100 c101 c102 c103 c104 c105 c106 c107 c108 c109 c110 c111 c112 c113 c114 c115 c116 c117 c118 c119 c120 c121 c122 c123 c124 c125 c126 c127 c128 c129 c130 c131 c132 c133 c134 c135 c136 c137 c138 c139 c140 c141 c142 c143 c144 c145 c146 c147 c148 c149 c150 c151 c152 c153 c154 c155 c156 c157 c158 c159 c160 c161 c162 c163 c164 c165 c166 c167 c168 c169 c170 c171 c172 c173 c174 c175 c176 c177 c178 c179 c180 c181 c182 c183 c184 c185 c186 c187 c188 c189 c190 c191 c192 c193 c194 c195 c196 c197 c198 c199 c200 c201 c202 c203 c204 c205 c206 c207 c208 c209 c210 c211 c212 c213 c214 c215 c216 : Value} {w w8 : World} {gd gl gp gb bk bn bm kk kn km N i m : Nat} {P : Po} {pk pn pm nn At k : Int} {KM M MM : Cn} {ca : Array Value} {ex : List (Nat × Obj)} {K : Act → World → Prop} {Q : Exit → Act → World → Prop}
    (T8 : Aside0 (LKQ w w8 gd gl gp bk bn bm kk kn km N P pk pn pm KM M MM ex)) (HP : Aside0 (pn = P.pages ∧ pk = P.g.pages)) (HKP : Aside0 (Kp P M KM i)) (HF : Aside0 (P.fine m)) (HM : Aside0 (m ≤ 1000000)) (HI : Aside0 (i < 250 ∧ N ≤ 1000)) (HN : Aside0 (1 ≤ nn ∧ nn ≤ 20)) (HX : Aside0 ((gb, .cells ca 37 (0, 0)) ∈ ex ∧ ca[2]? = some (.int .i64 At)))
    (HK : Aside0 (∀ (v11 v18 v19 v20 v21 v22 v62 v63 v64 v65 v66 v67 v68 v69 v70 v71 v72 v73 v74 v75 v76 v77 v78 v79 v80 v81 v82 v83 v84 v85 v86 v87 v88 v89 v90 v91 v92 v93 v94 v95 v96 v97 v98 v99 v100 v101 v102 v103 v104 v105 v106 v107 v108 v109 v110 v111 v112 v113 v114 v115 v116 v117 v118 v119 v120 v121 v122 v123 v124 v125 v126 v127 v128 v129 v130 v131 v132 v133 v134 v135 v136 v137 v138 v139 v140 v141 v142 v143 v144 v145 v146 v147 : Value) (e' : Int) (wx : World), v11 = .int .i64 e' → Aside0 (Out3 w wx gd gl gp bk bn bm N i m ex e') → K ⟨#[c0, c1, c2, c3, c4, c5, c6, c7, c8, pv gd, pv gp, v11, pv bk, pv bn, pv bm, .bool true, c16, pv gb, v18, v19, v20, v21, v22, c23, c24, c25, c26, c27, c28, c29, c30, c31, c32, c33, c34, c35, c36, c37, c38, c39, c40, c41, c42, c43, c44, c45, c46, c47, c48, c49, c50, c51, c52, c53, c54, c55, c56, c57, c58, c59, c60, .int .i64 k, v62, v63, v64, v65, v66, v67, v68, v69, v70, v71, v72, v73, v74, v75, v76, v77, v78, v79, v80, v81, v82, v83, v84, v85, v86, v87, v88, v89, v90, v91, v92, v93, v94, v95, v96, v97, v98, v99, v100, v101, v102, v103, v104, v105, v106, v107, v108, v109, v110, v111, v112, v113, v114, v115, v116, v117, v118, v119, v120, v121, v122, v123, v124, v125, v126, v127, v128, v129, v130, v131, v132, v133, v134, v135, v136, v137, v138, v139, v140, v141, v142, v143, v144, v145, v146, v147, c148, c149, c150, c151, c152, c153, c154, c155, c156, c157, c158, c159, c160, c161, c162, c163, c164, c165, c166, c167, c168, c169, c170, c171, c172, c173, c174, c175, c176, c177, c178, c179, c180, c181, c182, c183, c184, c185, c186, c187, c188, c189, c190, c191, c192, c193, c194, c195, c196, c197, c198, c199, c200, c201, c202, c203, c204, c205, c206, c207, c208, c209, c210, c211, c212, c213, c214, c215, c216], []⟩ wx)) (hk : k = 7) :
    Code.wp Try.prog sw3 (Exit.then K Q) ⟨#[c0, c1, c2, c3, c4, c5, c6, c7, c8, pv gd, pv gp, .int .i64 0, pv bk, pv bn, pv bm, .bool true, c16, pv gb, .int .i64 nn, c19, c20, c21, c22, c23, c24, c25, c26, c27, c28, c29, c30, c31, c32, c33, c34, c35, c36, c37, c38, c39, c40, c41, c42, c43, c44, c45, c46, c47, c48, c49, c50, c51, c52, c53, c54, c55, c56, c57, c58, c59, c60, .int .i64 k, c62, c63, c64, c65, c66, c67, c68, c69, c70, c71, c72, c73, c74, c75, c76, c77, c78, c79, c80, c81, c82, c83, c84, c85, c86, c87, c88, c89, c90, c91, c92, c93, c94, c95, c96, c97, c98, c99, c100, c101, c102, c103, c104, c105, c106, c107, c108, c109, c110, c111, c112, c113, c114, c115, c116, c117, c118, c119, c120, c121, c122, c123, c124, c125, c126, c127, c128, c129, c130, c131, c132, c133, c134, c135, c136, c137, c138, c139, c140, c141, c142, c143, c144, c145, c146, c147, c148, c149, c150, c151, c152, c153, c154, c155, c156, c157, c158, c159, c160, c161, c162, c163, c164, c165, c166, c167, c168, c169, c170, c171, c172, c173, c174, c175, c176, c177, c178, c179, c180, c181, c182, c183, c184, c185, c186, c187, c188, c189, c190, c191, c192, c193, c194, c195, c196, c197, c198, c199, c200, c201, c202, c203, c204, c205, c206, c207, c208, c209, c210, c211, c212, c213, c214, c215, c216], []⟩ w8 := by
  conv => arg 2; whnf
  have HPB := Aside0.mk (HKP.out.low HI.out.1)
  subst hk
  have HW := HKP.out.rollback HI.out.1 HF.out.ok
  obtain ⟨C0, F0, hI, -⟩ := HKP.out.now
  have HNP := Aside0.mk hI.nopins
  have HGP := Aside0.mk (show P.g.pages ≤ 100000 by have := hI.gp; have := hI.pages; omega)
  have HWT := Aside0.mk (rollback_turned hI.nopins)
  clear hI C0 F0
  obtain ⟨⟨c, P2⟩, hr⟩ : ∃ r, r = P.rollback := ⟨_, rfl⟩
  have HR := Aside0.mk hr
  rw [← hr] at HW HWT
  clear hr
  rcases HW with ⟨h1, h2, h3, h4, h5⟩ | ⟨h1, h2⟩
  · have HG := Aside0.mk (show Kp P2 KM KM (i + 1) ∧ P2.pages = P.g.pages ∧ P2.g.pages = P.g.pages from ⟨h2, h3, h4⟩)
    have HOK := Aside0.mk (show P2.s.ok (m + 40) from St.ok.more h5 (by omega))
    obtain rfl : c = 0 := h1
    clear h2 h3 h4 h5
    go_wp2_with (go_at_call 16; have hc := LKQ.rollback T8.out HF.out (by have := HM.out; omega) HGP.out HNP.out; rw [← HR.out] at hc; refine hc.mono ?_; rintro e w9 ⟨rfl, h⟩; have T9 := Aside0.mk h; obtain ⟨⟨y0, y1⟩, ⟨y2, y3⟩, -⟩ := h.held; obtain ⟨-, ⟨x0, x1⟩, -⟩ := h.free; clear h hc)
    exact HK.out _ _ _ _ _ _ _ _ _ _ _ _ _ _ _ _ _ _ _ _ _ _ _ _ _ _ _ _ _ _ _ _ _ _ _ _ _ _ _ _ _ _ _ _ _ _ _ _ _ _ _ _ _ _ _ _ _ _ _ _ _ _ _ _ _ _ _ _ _ _ _ _ _ _ _ _ _ _ _ _ _ _ _ _ _ _ _ _ _ _ _ _ _ _ rfl ⟨_, _, _, P2, _, _, _, KM, KM, MM, LKQ.more (LKQ.anew T9.out), HOK.out, .inl ⟨rfl, Kp.fine HG.out.1 HOK.out (by have h := HWT.out; rw [show P2.turned = [] from h]; exact Nat.zero_le _), HG.out.1, HP.out.2.trans HG.out.2.1.symm, HP.out.2.trans (by rw [HG.out.2.2])⟩⟩
  · have HG := Aside0.mk h2
    obtain rfl : c = 2 := h1
    clear h2
    go_wp2_with (go_at_call 16; have hc := LKQ.rollback T8.out HF.out (by have := HM.out; omega) HGP.out HNP.out; rw [← HR.out] at hc; refine hc.mono ?_; rintro e w9 ⟨rfl, h⟩; have T9 := Aside0.mk h; obtain ⟨⟨y0, y1⟩, ⟨y2, y3⟩, -⟩ := h.held; obtain ⟨-, ⟨x0, x1⟩, -⟩ := h.free; clear h hc)
    exact HK.out _ _ _ _ _ _ _ _ _ _ _ _ _ _ _ _ _ _ _ _ _ _ _ _ _ _ _ _ _ _ _ _ _ _ _ _ _ _ _ _ _ _ _ _ _ _ _ _ _ _ _ _ _ _ _ _ _ _ _ _ _ _ _ _ _ _ _ _ _ _ _ _ _ _ _ _ _ _ _ _ _ _ _ _ _ _ _ _ _ _ _ _ _ _ rfl ⟨_, _, _, P2, _, _, _, KM, KM, MM, LKQ.more (LKQ.anew T9.out), St.ok.more HG.out.ok (by omega), .inr ⟨by decide, HG.out.d, fun keep => .inl ⟨by rw [HP.out.2]; exact HG.out.fin keep, by rw [HP.out.2]; exact HPB.out.2⟩⟩⟩
theorem Kp.free_low {P : Po} {M KM : Cn} {i : Nat} (h : Kp P M KM i) : -9223372036854775808 ≤ P.free ∧ P.free < 9223372036854775808 := by
  obtain ⟨C, F, hi, hs⟩ := h.now
  have h1 := hs.head hi.pages.1
  have h2 := hi.pages
  have h3 := hs.free
  omega
set_option maxHeartbeats 16000000 in
set_option maxRecDepth 100000 in
theorem step3A {c0 c1 c2 c3 c4 c5 c6 c7 c8 c16 c19 c20 c21 c22 c23 c24 c25 c26 c27 c28 c29 c30 c31 c32 c33 c34 c35 c36 c37 c38 c39 c40 c41 c42 c43 c44 c45 c46 c47 c48 c49 c50 c51 c52 c53 c54 c55 c56 c57 c58 c59 c60 c62 c63 c64 c65 c66 c67 c68 c69 c70 c71 c72 c73 c74 c75 c76 c77 c78 c79 c80 c81 c82 c83 c84 c85 c86 c87 c88 c89 c90 c91 c92 c93 c94 c95 c96 c97 c98 c99 c100 c101 c102 c103 c104 c105 c106 c107 c108 c109 c110 c111 c112 c113 c114 c115 c116 c117 c118 c119 c120 c121 c122 c123 c124 c125 c126 c127 c128 c129 c130 c131 c132 c133 c134 c135 c136 c137 c138 c139 c140 c141 c142 c143 c144 c145 c146 c147 c148 c149 c150 c151 c152 c153 c154 c155 c156 c157 c158 c159 c160 c161 c162 c163 c164 c165 c166 c167 c168 c169 c170 c171 c172 c173 c174 c175 c176 c177 c178 c179 c180 c181 c182 c183 c184 c185 c186 c187 c188 c189 c190 c191 c192 c193 c194 c195 c196 c197 c198 c199 c200 c201 c202 c203 c204 c205 c206 c207 c208 c209 c210 c211 c212 c213 c214 c215 c216 : Value} {w w8 : World} {gd gl gp gb bk bn bm kk kn km N i m : Nat} {P : Po} {pk pn pm nn At k : Int} {KM M MM : Cn} {ca : Array Value} {ex : List (Nat × Obj)} {K : Act → World → Prop} {Q : Exit → Act → World → Prop}
    (T8 : Aside0 (LKQ w w8 gd gl gp bk bn bm kk kn km N P pk pn pm KM M MM ex)) (HP : Aside0 (pn = P.pages ∧ pk = P.g.pages)) (HKP : Aside0 (Kp P M KM i)) (HF : Aside0 (P.fine m)) (HM : Aside0 (m ≤ 1000000)) (HI : Aside0 (i < 250 ∧ N ≤ 1000)) (HN : Aside0 (1 ≤ nn ∧ nn ≤ 20)) (HX : Aside0 ((gb, .cells ca 37 (0, 0)) ∈ ex ∧ ca[2]? = some (.int .i64 At)))
    (HK : Aside0 (∀ (v11 v18 v19 v20 v21 v22 v62 v63 v64 v65 v66 v67 v68 v69 v70 v71 v72 v73 v74 v75 v76 v77 v78 v79 v80 v81 v82 v83 v84 v85 v86 v87 v88 v89 v90 v91 v92 v93 v94 v95 v96 v97 v98 v99 v100 v101 v102 v103 v104 v105 v106 v107 v108 v109 v110 v111 v112 v113 v114 v115 v116 v117 v118 v119 v120 v121 v122 v123 v124 v125 v126 v127 v128 v129 v130 v131 v132 v133 v134 v135 v136 v137 v138 v139 v140 v141 v142 v143 v144 v145 v146 v147 : Value) (e' : Int) (wx : World), v11 = .int .i64 e' → Aside0 (Out3 w wx gd gl gp bk bn bm N i m ex e') → K ⟨#[c0, c1, c2, c3, c4, c5, c6, c7, c8, pv gd, pv gp, v11, pv bk, pv bn, pv bm, .bool true, c16, pv gb, v18, v19, v20, v21, v22, c23, c24, c25, c26, c27, c28, c29, c30, c31, c32, c33, c34, c35, c36, c37, c38, c39, c40, c41, c42, c43, c44, c45, c46, c47, c48, c49, c50, c51, c52, c53, c54, c55, c56, c57, c58, c59, c60, .int .i64 k, v62, v63, v64, v65, v66, v67, v68, v69, v70, v71, v72, v73, v74, v75, v76, v77, v78, v79, v80, v81, v82, v83, v84, v85, v86, v87, v88, v89, v90, v91, v92, v93, v94, v95, v96, v97, v98, v99, v100, v101, v102, v103, v104, v105, v106, v107, v108, v109, v110, v111, v112, v113, v114, v115, v116, v117, v118, v119, v120, v121, v122, v123, v124, v125, v126, v127, v128, v129, v130, v131, v132, v133, v134, v135, v136, v137, v138, v139, v140, v141, v142, v143, v144, v145, v146, v147, c148, c149, c150, c151, c152, c153, c154, c155, c156, c157, c158, c159, c160, c161, c162, c163, c164, c165, c166, c167, c168, c169, c170, c171, c172, c173, c174, c175, c176, c177, c178, c179, c180, c181, c182, c183, c184, c185, c186, c187, c188, c189, c190, c191, c192, c193, c194, c195, c196, c197, c198, c199, c200, c201, c202, c203, c204, c205, c206, c207, c208, c209, c210, c211, c212, c213, c214, c215, c216], []⟩ wx)) (hk : k = 0 ∨ k = 1) :
    Code.wp Try.prog sw3 (Exit.then K Q) ⟨#[c0, c1, c2, c3, c4, c5, c6, c7, c8, pv gd, pv gp, .int .i64 0, pv bk, pv bn, pv bm, .bool true, c16, pv gb, .int .i64 nn, c19, c20, c21, c22, c23, c24, c25, c26, c27, c28, c29, c30, c31, c32, c33, c34, c35, c36, c37, c38, c39, c40, c41, c42, c43, c44, c45, c46, c47, c48, c49, c50, c51, c52, c53, c54, c55, c56, c57, c58, c59, c60, .int .i64 k, c62, c63, c64, c65, c66, c67, c68, c69, c70, c71, c72, c73, c74, c75, c76, c77, c78, c79, c80, c81, c82, c83, c84, c85, c86, c87, c88, c89, c90, c91, c92, c93, c94, c95, c96, c97, c98, c99, c100, c101, c102, c103, c104, c105, c106, c107, c108, c109, c110, c111, c112, c113, c114, c115, c116, c117, c118, c119, c120, c121, c122, c123, c124, c125, c126, c127, c128, c129, c130, c131, c132, c133, c134, c135, c136, c137, c138, c139, c140, c141, c142, c143, c144, c145, c146, c147, c148, c149, c150, c151, c152, c153, c154, c155, c156, c157, c158, c159, c160, c161, c162, c163, c164, c165, c166, c167, c168, c169, c170, c171, c172, c173, c174, c175, c176, c177, c178, c179, c180, c181, c182, c183, c184, c185, c186, c187, c188, c189, c190, c191, c192, c193, c194, c195, c196, c197, c198, c199, c200, c201, c202, c203, c204, c205, c206, c207, c208, c209, c210, c211, c212, c213, c214, c215, c216], []⟩ w8 := by
  conv => arg 2; whnf
  have HPB := Aside0.mk (HKP.out.low HI.out.1)
  obtain ⟨t, hsh, hts⟩ := QLogKept.sheet_ex At
  have HS := Aside0.mk hsh
  have HT := Aside0.mk hts
  clear hsh hts
  have HW := HKP.out.alloc HI.out.1 HF.out.ok
  have HWF := Aside0.mk (alloc_fine HF.out)
  have HFR := Aside0.mk HKP.out.free_low
  obtain ⟨C0, F0, hI, -⟩ := HKP.out.now
  have HNF := Aside0.mk hI.nofull
  clear hI C0 F0
  obtain ⟨⟨n, c, P2⟩, hr⟩ : ∃ r, r = P.alloc := ⟨_, rfl⟩
  have HR := Aside0.mk hr
  rw [← hr] at HW HWF
  clear hr
  rcases HW with ⟨h1, h2, h3, h4, h5⟩ | ⟨h1, h2⟩
  · have HW2 := Aside0.mk (h5 t HT.out)
    have HNB := Aside0.mk (show 1 ≤ n ∧ n < 1000 from h2)
    have HPG := Aside0.mk (show P2.pages = max P.pages (n + 1) from h3)
    have b0 : 1 ≤ n := h2.1
    have b1 : n < 1000 := h2.2
    obtain rfl : c = 0 := h1
    clear h2 h3 h4 h5
    rcases hk with rfl | rfl
    all_goals
      go_upto_region 21 with (go_at_call 9; have hc := LKQ.alloc T8.out HF.out (by have := HM.out; omega) HFR.out HNF.out; rw [← HR.out] at hc; refine hc.mono ?_; rintro e w9 ⟨rfl, h⟩; have T9 := Aside0.mk h; clear h hc)
      refine wp_region_noPanic ?_
      refine start_ (n := 14) (S := fun w' => w'.cell? ⟨bn, 0, none⟩ = some (.int .i64 pn) ∧ w'.cell? ⟨bn, 1, none⟩ = some (.map (some kn)) ∧ w'.cell? ⟨gb, 2, none⟩ = some (.int .i64 At)) (ds := [13]) (flg 14 0) (by kernel_rfl) rfl rfl (⟨(Aside0.mk (LKQ.drew T9.out)).out.held.2.1.1, (Aside0.mk (LKQ.drew T9.out)).out.held.2.1.2, (LKQ.exbox (Aside0.mk (LKQ.drew T9.out)).out (by first | exact HX.out.1 | exact List.mem_cons_of_mem _ HX.out.1) 2).trans HX.out.2⟩) (fun hHeld => ?_)
      have T10 := Aside0.mk (LKQ.drew T9.out)
      generalize World.drew _ = w10 at T10 hHeld ⊢
      refine pure_ (i := 0) (N := some 72) (v := ?_) (a' := ?_) (flg 14 1) rfl rfl (by kernel_rfl) (fun _ _ _ h => h) (Or.inl ⟨by rfl, ?_⟩) ?_ ?_
      rotate_left
      · intro w'
        go_simp
        try (with_reducible rfl)
      rotate_left
      · simp only [Act.put, List.setIfInBounds_toArray, List.set_cons_zero, List.set_cons_succ]
        rfl
      refine take_ (i := 1) (N := some 73) (v := ?_) (a' := ?_) (flg 14 3) rfl rfl (by kernel_rfl) (fun _ _ _ h => h) (Or.inl ⟨by rfl, ?_⟩) hHeld ?_ ?_
      rotate_left
      · rintro w' ⟨s0_, s1_, s2_⟩
        go_simp
        try (with_reducible rfl)
      rotate_left
      · simp only [Act.put, List.setIfInBounds_toArray, List.set_cons_zero, List.set_cons_succ]
        rfl
      refine pure_ (i := 2) (N := some 74) (v := ?_) (a' := ?_) (flg 14 7) rfl rfl (by kernel_rfl) (fun _ _ _ h => h) (Or.inl ⟨by rfl, ?_⟩) ?_ ?_
      rotate_left
      · intro w'
        go_simp
        try (with_reducible rfl)
      rotate_left
      · simp only [Act.put, List.setIfInBounds_toArray, List.set_cons_zero, List.set_cons_succ]
        rfl
      refine pure_ (i := 3) (N := some 75) (v := ?_) (a' := ?_) (flg 14 15) rfl rfl (by kernel_rfl) (fun _ _ _ h => h) (Or.inl ⟨by rfl, ?_⟩) ?_ ?_
      rotate_left
      · intro w'
        go_simp
        try (with_reducible rfl)
      rotate_left
      · simp only [Act.put, List.setIfInBounds_toArray, List.set_cons_zero, List.set_cons_succ]
        rfl
      refine pure_ (i := 4) (N := some 76) (v := ?_) (a' := ?_) (flg 14 31) rfl rfl (by kernel_rfl) (fun _ _ _ h => h) (Or.inl ⟨by rfl, ?_⟩) ?_ ?_
      rotate_left
      · intro w'
        go_simp
        try (with_reducible rfl)
      rotate_left
      · simp only [Act.put, List.setIfInBounds_toArray, List.set_cons_zero, List.set_cons_succ]
        rfl
      refine pure_ (i := 5) (N := some 77) (v := ?_) (a' := ?_) (flg 14 63) rfl rfl (by kernel_rfl) (fun _ _ _ h => h) (Or.inl ⟨by rfl, ?_⟩) ?_ ?_
      rotate_left
      · intro w'
        go_simp
        try (with_reducible rfl)
      rotate_left
      · simp only [Act.put, List.setIfInBounds_toArray, List.set_cons_zero, List.set_cons_succ]
        rfl
      refine take_ (i := 6) (N := some 78) (v := ?_) (a' := ?_) (flg 14 127) rfl rfl (by kernel_rfl) (fun _ _ _ h => h) (Or.inl ⟨by rfl, ?_⟩) hHeld ?_ ?_
      rotate_left
      · rintro w' ⟨s0_, s1_, s2_⟩
        go_simp
        try (with_reducible rfl)
      rotate_left
      · simp only [Act.put, List.setIfInBounds_toArray, List.set_cons_zero, List.set_cons_succ]
        rfl
      refine pure_ (i := 7) (N := some 79) (v := ?_) (a' := ?_) (flg 14 255) rfl rfl (by kernel_rfl) (fun _ _ _ h => h) (Or.inl ⟨by rfl, ?_⟩) ?_ ?_
      rotate_left
      · intro w'
        go_simp
        try (with_reducible rfl)
      rotate_left
      · simp only [Act.put, List.setIfInBounds_toArray, List.set_cons_zero, List.set_cons_succ]
        rfl
      refine pure_ (i := 8) (N := some 80) (v := ?_) (a' := ?_) (flg 14 511) rfl rfl (by kernel_rfl) (fun _ _ _ h => h) (Or.inl ⟨by rfl, ?_⟩) ?_ ?_
      rotate_left
      · intro w'
        go_simp
        try (with_reducible rfl)
      rotate_left
      · simp only [Act.put, List.setIfInBounds_toArray, List.set_cons_zero, List.set_cons_succ]
        rfl
      refine take_ (i := 9) (N := some 81) (v := ?_) (a' := ?_) (flg 14 1023) rfl rfl (by kernel_rfl) (fun _ _ _ h => h) (Or.inl ⟨by rfl, ?_⟩) hHeld ?_ ?_
      rotate_left
      · rintro w' ⟨s0_, s1_, s2_⟩
        go_simp
        try (with_reducible rfl)
      rotate_left
      · simp only [Act.put, List.setIfInBounds_toArray, List.set_cons_zero, List.set_cons_succ]
        rfl
      refine one_ (i := 10) (N := some 82) (flg 14 2047) rfl rfl (by kernel_rfl) (by decide) (fun K hK => ?_)
      refine goes_ Try.func11 (by kernel_rfl) rfl #[.int .i64 At] (by rfl) rfl rfl (by (try simp only [List.map_toArray, List.map_cons, List.map_nil]); first | done | rfl) ?_
      refine (QLogKept.relstorekeep_sheet.calls 1025 At t _ HS.out).mono ?_
      rintro e w11 ⟨rfl, hb⟩
      refine ⟨_, rfl, ?_⟩
      have T11 := Aside0.mk (LKQ.below T10.out hb)
      clear hb
      refine hK.out _ _ (⟨T11.out.held.2.1.1, T11.out.held.2.1.2, (LKQ.exbox T11.out (by first | exact HX.out.1 | exact List.mem_cons_of_mem _ HX.out.1) 2).trans HX.out.2⟩) (fun hHeld => ?_)
      clear hK K
      refine norm_ (a' := ?_) ?_ ?_
      rotate_left
      · show Act.put _ (some 82) _ = _
        simp only [Act.put, List.setIfInBounds_toArray, List.set_cons_zero, List.set_cons_succ]
        rfl
      refine one_ (i := 11) (N := some 83) (flg 14 4095) rfl rfl (by kernel_rfl) (by decide) (fun K hK => ?_)
      refine goes_ Try.func10 (by kernel_rfl) rfl #[.map (some kn), .int .i64 n, .string t] (by rfl) rfl rfl (by (try simp only [List.map_toArray, List.map_cons, List.map_nil]); first | done | rfl) ?_
      refine (LKQ.with_ T11.out (by have := HI.out; omega) n (by have := HNB.out; omega) t HT.out).mono ?_
      rintro e w12 ⟨b', o', rfl, h1, h2⟩
      refine ⟨_, rfl, ?_⟩
      have T12 := Aside0.mk h1
      have HMO := Aside0.mk h2
      clear h1 h2
      refine hK.out _ _ (⟨T12.out.held.2.1.1, T12.out.held.2.1.2, (LKQ.exbox T12.out (by first | exact HX.out.1 | exact List.mem_cons_of_mem _ HX.out.1) 2).trans HX.out.2⟩) (fun hHeld => ?_)
      clear hK K
      refine norm_ (a' := ?_) ?_ ?_
      rotate_left
      · show Act.put _ (some 83) _ = _
        simp only [Act.put, List.setIfInBounds_toArray, List.set_cons_zero, List.set_cons_succ]
        rfl
      refine pure_ (i := 12) (N := some 84) (v := ?_) (a' := ?_) (flg 14 8191) rfl rfl (by kernel_rfl) (fun _ _ _ h => h) (Or.inl ⟨by rfl, ?_⟩) ?_ ?_
      rotate_left
      · intro w'
        go_simp
        try (with_reducible rfl)
      rotate_left
      · simp only [Act.put, List.setIfInBounds_toArray, List.set_cons_zero, List.set_cons_succ]
        rfl
      obtain ⟨-, ⟨z0, z1⟩, -⟩ := T12.out.held
      obtain ⟨-, ⟨z2, z3⟩, -⟩ := T12.out.free
      refine last_ (i := 13) (N := none) (flg 14 16383) rfl rfl (by kernel_rfl) (by decide) (fun K hK => ?_)
      go_simp
      refine hK.out _ _ ?_
      clear hK K
      refine done_ (by kernel_rfl) ?_
      refine NoPanic.normal ?_
      have T13 := Aside0.mk (LKQ.renew T12.out HMO.out (max pn (n + 1)))
      clear z0 z1 z2 z3
      go_upto_region 22 with (fail)
      generalize hw13 : World.setCell _ _ _ = w13
      replace T13 : Aside0 (LKQ w w13 gd gl gp bk bn bm kk b' km (N + 1) P2 pk (max pn (n + 1)) pm KM (upd M n t) MM ex) := ⟨by rw [← hw13, show IntKind.i64.wrap (n + 1) = n + 1 from IntWalk.i64_in _ (by omega)]; exact T13.out⟩
      clear hw13
      have q2 : w13.cell? ⟨gb, 2, none⟩ = some (.int .i64 At) := (LKQ.exbox T13.out HX.out.1 2).trans HX.out.2
      have HV := HW2.out
      have HVF := Aside0.mk (write_fine HWF.out n t)
      obtain ⟨⟨c3, P3⟩, hr⟩ : ∃ r, r = P2.write n t := ⟨_, rfl⟩
      have HR3 := Aside0.mk hr
      rw [← hr] at HV HVF
      clear hr HW2
      rcases HV with ⟨h1, h2, h3, h4, h5⟩ | ⟨h1, h2⟩
      · have HG := Aside0.mk (show Kp P3 (upd M n t) KM (i + 1) ∧ P3.pages = max P.pages (n + 1) ∧ P3.g.pages = P.g.pages from ⟨h2, h3, h4⟩)
        obtain rfl : c3 = 0 := h1
        clear h2 h3 h4 h5
        go_wp2_with (first
          | (go_at_call 12; have hc := LKQ.write T14.out HWF.out (by have := HM.out; omega) n t (by have := HNB.out; omega); rw [← HR3.out] at hc; refine hc.mono ?_; rintro e w15 ⟨rfl, h⟩; have T15 := Aside0.mk h; clear h hc)
          | (go_at_call 11; (with_reducible refine (QLogKept.relstorekeep_sheet.calls 1025 At t _ HS.out).mono ?_); rintro e w14 ⟨rfl, hb⟩; have T14 := Aside0.mk (LKQ.below T13.out hb); clear hb))
        exact HK.out _ _ _ _ _ _ _ _ _ _ _ _ _ _ _ _ _ _ _ _ _ _ _ _ _ _ _ _ _ _ _ _ _ _ _ _ _ _ _ _ _ _ _ _ _ _ _ _ _ _ _ _ _ _ _ _ _ _ _ _ _ _ _ _ _ _ _ _ _ _ _ _ _ _ _ _ _ _ _ _ _ _ _ _ _ _ _ _ _ _ _ _ _ _ rfl ⟨_, _, _, P3, _, _, _, KM, upd M n t, MM, T15.out, (Po.fine.more HVF.out (by omega)).ok, .inl ⟨rfl, Po.fine.more HVF.out (by omega), HG.out.1, by rw [HG.out.2.1, HP.out.1], HP.out.2.trans (by rw [HG.out.2.2])⟩⟩
      · have HG := Aside0.mk h2
        obtain rfl : c3 = 2 := h1
        clear h2
        go_wp2_with (first
          | (go_at_call 12; have hc := LKQ.write T14.out HWF.out (by have := HM.out; omega) n t (by have := HNB.out; omega); rw [← HR3.out] at hc; refine hc.mono ?_; rintro e w15 ⟨rfl, h⟩; have T15 := Aside0.mk h; clear h hc)
          | (go_at_call 11; (with_reducible refine (QLogKept.relstorekeep_sheet.calls 1025 At t _ HS.out).mono ?_); rintro e w14 ⟨rfl, hb⟩; have T14 := Aside0.mk (LKQ.below T13.out hb); clear hb))
        exact HK.out _ _ _ _ _ _ _ _ _ _ _ _ _ _ _ _ _ _ _ _ _ _ _ _ _ _ _ _ _ _ _ _ _ _ _ _ _ _ _ _ _ _ _ _ _ _ _ _ _ _ _ _ _ _ _ _ _ _ _ _ _ _ _ _ _ _ _ _ _ _ _ _ _ _ _ _ _ _ _ _ _ _ _ _ _ _ _ _ _ _ _ _ _ _ rfl ⟨_, _, _, P3, _, _, _, KM, upd M n t, MM, T15.out, (Po.fine.more HVF.out (by omega)).ok, .inr ⟨by decide, HG.out.d, fun keep => .inl ⟨by rw [HP.out.2]; exact HG.out.fin keep, by rw [HP.out.2]; exact HPB.out.2⟩⟩⟩
  · have HG := Aside0.mk h2
    obtain rfl : c = 2 := h1
    clear h2
    rcases hk with rfl | rfl
    all_goals
      go_wp2_with (go_at_call 9; have hc := LKQ.alloc T8.out HF.out (by have := HM.out; omega) HFR.out HNF.out; rw [← HR.out] at hc; refine hc.mono ?_; rintro e w9 ⟨rfl, h⟩; have T9 := Aside0.mk h; clear h hc)
      exact HK.out _ _ _ _ _ _ _ _ _ _ _ _ _ _ _ _ _ _ _ _ _ _ _ _ _ _ _ _ _ _ _ _ _ _ _ _ _ _ _ _ _ _ _ _ _ _ _ _ _ _ _ _ _ _ _ _ _ _ _ _ _ _ _ _ _ _ _ _ _ _ _ _ _ _ _ _ _ _ _ _ _ _ _ _ _ _ _ _ _ _ _ _ _ _ rfl ⟨_, _, _, P2, _, _, _, KM, M, MM, LKQ.more T9.out, (Po.fine.more HWF.out (by omega)).ok, .inr ⟨by decide, HG.out.d, fun keep => .inl ⟨by rw [HP.out.2]; exact HG.out.fin keep, by rw [HP.out.2]; exact HPB.out.2⟩⟩⟩
set_option maxHeartbeats 16000000 in
set_option maxRecDepth 100000 in
theorem step3 {c0 c1 c2 c3 c4 c5 c6 c7 c8 c16 c19 c20 c21 c22 c23 c24 c25 c26 c27 c28 c29 c30 c31 c32 c33 c34 c35 c36 c37 c38 c39 c40 c41 c42 c43 c44 c45 c46 c47 c48 c49 c50 c51 c52 c53 c54 c55 c56 c57 c58 c59 c60 c62 c63 c64 c65 c66 c67 c68 c69 c70 c71 c72 c73 c74 c75 c76 c77 c78 c79 c80 c81 c82 c83 c84 c85 c86 c87 c88 c89 c90 c91 c92 c93 c94 c95 c96 c97 c98 c99 c100 c101 c102 c103 c104 c105 c106 c107 c108 c109 c110 c111 c112 c113 c114 c115 c116 c117 c118 c119 c120 c121 c122 c123 c124 c125 c126 c127 c128 c129 c130 c131 c132 c133 c134 c135 c136 c137 c138 c139 c140 c141 c142 c143 c144 c145 c146 c147 c148 c149 c150 c151 c152 c153 c154 c155 c156 c157 c158 c159 c160 c161 c162 c163 c164 c165 c166 c167 c168 c169 c170 c171 c172 c173 c174 c175 c176 c177 c178 c179 c180 c181 c182 c183 c184 c185 c186 c187 c188 c189 c190 c191 c192 c193 c194 c195 c196 c197 c198 c199 c200 c201 c202 c203 c204 c205 c206 c207 c208 c209 c210 c211 c212 c213 c214 c215 c216 : Value} {w w8 : World} {gd gl gp gb bk bn bm kk kn km N i m : Nat} {P : Po} {pk pn pm nn At k : Int} {KM M MM : Cn} {ca : Array Value} {ex : List (Nat × Obj)} {K : Act → World → Prop} {Q : Exit → Act → World → Prop}
    (T8 : Aside0 (LKQ w w8 gd gl gp bk bn bm kk kn km N P pk pn pm KM M MM ex)) (HP : Aside0 (pn = P.pages ∧ pk = P.g.pages)) (HKP : Aside0 (Kp P M KM i)) (HF : Aside0 (P.fine m)) (HM : Aside0 (m ≤ 1000000)) (HI : Aside0 (i < 250 ∧ N ≤ 1000)) (HN : Aside0 (1 ≤ nn ∧ nn ≤ 20)) (HX : Aside0 ((gb, .cells ca 37 (0, 0)) ∈ ex ∧ ca[2]? = some (.int .i64 At)))
    (HK : Aside0 (∀ (v11 v18 v19 v20 v21 v22 v62 v63 v64 v65 v66 v67 v68 v69 v70 v71 v72 v73 v74 v75 v76 v77 v78 v79 v80 v81 v82 v83 v84 v85 v86 v87 v88 v89 v90 v91 v92 v93 v94 v95 v96 v97 v98 v99 v100 v101 v102 v103 v104 v105 v106 v107 v108 v109 v110 v111 v112 v113 v114 v115 v116 v117 v118 v119 v120 v121 v122 v123 v124 v125 v126 v127 v128 v129 v130 v131 v132 v133 v134 v135 v136 v137 v138 v139 v140 v141 v142 v143 v144 v145 v146 v147 : Value) (e' : Int) (wx : World), v11 = .int .i64 e' → Aside0 (Out3 w wx gd gl gp bk bn bm N i m ex e') → K ⟨#[c0, c1, c2, c3, c4, c5, c6, c7, c8, pv gd, pv gp, v11, pv bk, pv bn, pv bm, .bool true, c16, pv gb, v18, v19, v20, v21, v22, c23, c24, c25, c26, c27, c28, c29, c30, c31, c32, c33, c34, c35, c36, c37, c38, c39, c40, c41, c42, c43, c44, c45, c46, c47, c48, c49, c50, c51, c52, c53, c54, c55, c56, c57, c58, c59, c60, .int .i64 k, v62, v63, v64, v65, v66, v67, v68, v69, v70, v71, v72, v73, v74, v75, v76, v77, v78, v79, v80, v81, v82, v83, v84, v85, v86, v87, v88, v89, v90, v91, v92, v93, v94, v95, v96, v97, v98, v99, v100, v101, v102, v103, v104, v105, v106, v107, v108, v109, v110, v111, v112, v113, v114, v115, v116, v117, v118, v119, v120, v121, v122, v123, v124, v125, v126, v127, v128, v129, v130, v131, v132, v133, v134, v135, v136, v137, v138, v139, v140, v141, v142, v143, v144, v145, v146, v147, c148, c149, c150, c151, c152, c153, c154, c155, c156, c157, c158, c159, c160, c161, c162, c163, c164, c165, c166, c167, c168, c169, c170, c171, c172, c173, c174, c175, c176, c177, c178, c179, c180, c181, c182, c183, c184, c185, c186, c187, c188, c189, c190, c191, c192, c193, c194, c195, c196, c197, c198, c199, c200, c201, c202, c203, c204, c205, c206, c207, c208, c209, c210, c211, c212, c213, c214, c215, c216], []⟩ wx)) (hk : 0 ≤ k ∧ k < 8) :
    Code.wp Try.prog sw3 (Exit.then K Q) ⟨#[c0, c1, c2, c3, c4, c5, c6, c7, c8, pv gd, pv gp, .int .i64 0, pv bk, pv bn, pv bm, .bool true, c16, pv gb, .int .i64 nn, c19, c20, c21, c22, c23, c24, c25, c26, c27, c28, c29, c30, c31, c32, c33, c34, c35, c36, c37, c38, c39, c40, c41, c42, c43, c44, c45, c46, c47, c48, c49, c50, c51, c52, c53, c54, c55, c56, c57, c58, c59, c60, .int .i64 k, c62, c63, c64, c65, c66, c67, c68, c69, c70, c71, c72, c73, c74, c75, c76, c77, c78, c79, c80, c81, c82, c83, c84, c85, c86, c87, c88, c89, c90, c91, c92, c93, c94, c95, c96, c97, c98, c99, c100, c101, c102, c103, c104, c105, c106, c107, c108, c109, c110, c111, c112, c113, c114, c115, c116, c117, c118, c119, c120, c121, c122, c123, c124, c125, c126, c127, c128, c129, c130, c131, c132, c133, c134, c135, c136, c137, c138, c139, c140, c141, c142, c143, c144, c145, c146, c147, c148, c149, c150, c151, c152, c153, c154, c155, c156, c157, c158, c159, c160, c161, c162, c163, c164, c165, c166, c167, c168, c169, c170, c171, c172, c173, c174, c175, c176, c177, c178, c179, c180, c181, c182, c183, c184, c185, c186, c187, c188, c189, c190, c191, c192, c193, c194, c195, c196, c197, c198, c199, c200, c201, c202, c203, c204, c205, c206, c207, c208, c209, c210, c211, c212, c213, c214, c215, c216], []⟩ w8 := by
  rcases (show (k = 0 ∨ k = 1) ∨ (k = 2 ∨ k = 3 ∨ k = 4) ∨ k = 5 ∨ k = 6 ∨ k = 7 by omega) with h | h | h | h | h
  · exact step3A T8 HP HKP HF HM HI HN HX HK h
  · exact step3W T8 HP HKP HF HM HI HN HX HK h
  · exact step3F T8 HP HKP HF HM HI HN HX HK h
  · exact step3C T8 HP HKP HF HM HI HN HX HK h
  · exact step3R T8 HP HKP HF HM HI HN HX HK h
def put6 (W : World) (gb : Nat) (x0 x1 x2 x3 x4 x5 : Value) : World := (((((W.setCell ⟨gb, 0, none⟩ x0).setCell ⟨gb, 1, none⟩ x1).setCell ⟨gb, 2, none⟩ x2).setCell ⟨gb, 3, none⟩ x3).setCell ⟨gb, 4, none⟩ x4).setCell ⟨gb, 5, none⟩ x5
theorem put6_blk {W : World} {gb t : Nat} {y0 y1 y2 y3 y4 y5 x0 x1 x2 x3 x4 x5 : Value} (h : W.heap[gb]? = some (.cells #[y0, y1, y2, y3, y4, y5] t (0, 0))) : (put6 W gb x0 x1 x2 x3 x4 x5).heap[gb]? = some (.cells #[x0, x1, x2, x3, x4, x5] t (0, 0)) := by
  have h0 : (W.setCell ⟨gb, 0, none⟩ x0).heap[gb]? = some (.cells #[x0, y1, y2, y3, y4, y5] t (0, 0)) := blk_put h 0 x0 rfl
  have h1 : ((W.setCell ⟨gb, 0, none⟩ x0).setCell ⟨gb, 1, none⟩ x1).heap[gb]? = some (.cells #[x0, x1, y2, y3, y4, y5] t (0, 0)) := blk_put h0 1 x1 rfl
  have h2 : (((W.setCell ⟨gb, 0, none⟩ x0).setCell ⟨gb, 1, none⟩ x1).setCell ⟨gb, 2, none⟩ x2).heap[gb]? = some (.cells #[x0, x1, x2, y3, y4, y5] t (0, 0)) := blk_put h1 2 x2 rfl
  have h3 : ((((W.setCell ⟨gb, 0, none⟩ x0).setCell ⟨gb, 1, none⟩ x1).setCell ⟨gb, 2, none⟩ x2).setCell ⟨gb, 3, none⟩ x3).heap[gb]? = some (.cells #[x0, x1, x2, x3, y4, y5] t (0, 0)) := blk_put h2 3 x3 rfl
  have h4 : (((((W.setCell ⟨gb, 0, none⟩ x0).setCell ⟨gb, 1, none⟩ x1).setCell ⟨gb, 2, none⟩ x2).setCell ⟨gb, 3, none⟩ x3).setCell ⟨gb, 4, none⟩ x4).heap[gb]? = some (.cells #[x0, x1, x2, x3, x4, y5] t (0, 0)) := blk_put h3 4 x4 rfl
  have h5 : ((((((W.setCell ⟨gb, 0, none⟩ x0).setCell ⟨gb, 1, none⟩ x1).setCell ⟨gb, 2, none⟩ x2).setCell ⟨gb, 3, none⟩ x3).setCell ⟨gb, 4, none⟩ x4).setCell ⟨gb, 5, none⟩ x5).heap[gb]? = some (.cells #[x0, x1, x2, x3, x4, x5] t (0, 0)) := blk_put h4 5 x5 rfl
  exact h5
theorem put6_below {B gb : Nat} {w W : World} {x0 x1 x2 x3 x4 x5 : Value} (h : Below B w W) (hg : B ≤ gb) : Below B w (put6 W gb x0 x1 x2 x3 x4 x5) :=
  (((((h.setCell (p := ⟨gb, 0, none⟩) hg x0).setCell (p := ⟨gb, 1, none⟩) hg x1).setCell (p := ⟨gb, 2, none⟩) hg x2).setCell (p := ⟨gb, 3, none⟩) hg x3).setCell (p := ⟨gb, 4, none⟩) hg x4).setCell (p := ⟨gb, 5, none⟩) hg x5
theorem MapO.none_ (w : World) : ∃ o, (w.alloc (.map #[] 0)).heap[w.heap.size]? = some o ∧ MapO w.heap.size o 0 (fun _ => none) :=
  MapO.of (w := w.alloc (.map #[] 0)) ⟨.map [], World.ownsMap_made _ _ _ _, fun x hx => ⟨rfl, fun _ => rfl⟩⟩
theorem KQ.start3 {w w5 w6 : World} {gd gl gp bk : Nat} {P : Po} {o : Obj} (h : KQ w w5 gd gl gp P []) (ho : (w5.alloc (.map #[] 0)).heap[w5.heap.size]? = some o) (hb : Below (w5.alloc (.map #[] 0)).heap.size (w5.alloc (.map #[] 0)) w6) (hx : w6.heap[bk]? = some (.cells #[.int .i64 0, .map none] 34 (0, 0))) (hg : (w5.alloc (.map #[] 0)).heap.size ≤ bk) :
    KQ w (put2 w6 bk 1 w5.heap.size) gd gl gp P [(bk, .cells (shc 1 w5.heap.size) 34 (0, 0)), (w5.heap.size, o)] := by
  have hs : (w5.alloc (.map #[] 0)).heap.size = w5.heap.size + 1 := Array.size_push _
  have a := Bd.more (x := (w5.heap.size, o)) h (fpQ _ _ _ _ _) (fpE _) ((Below.refl _ w5).alloc (Nat.le_refl _) _) ho (Nat.le_refl _)
  have b := Bd.more (x := (bk, _)) a (fpQ _ _ _ _ _) (fpE _) hb hx hg
  have hw : w.heap.size ≤ bk := by have := below_size h.hB; omega
  have c1 := Bd.put b (fpQ _ _ _ _ _) (fpE _) (fun x hx => by rw [List.mem_singleton.1 hx]; simp only; omega) hw 0 (.int .i64 1) (cs' := #[.int .i64 1, .map none]) rfl
  exact Bd.put c1 (fpQ _ _ _ _ _) (fpE _) (fun x hx => by rw [List.mem_singleton.1 hx]; simp only; omega) hw 1 (.map (some w5.heap.size)) rfl
set_option maxHeartbeats 16000000 in
set_option maxRecDepth 100000 in
theorem PoolKept.calls (A : Option Addr) (c : Nat) (l : List QLogKept.S90) (fails again : Int) (A3 : Option Addr) (c3_ : Nat) (keep : List Int) (w : World) (hr : Kd.C QLogKept.k90 w A l.length l) (hc : l.length ≤ c) (hl : l.length ≤ 4611686018427387904)
    (hx : ∀ x ∈ l, (-9223372036854775808 ≤ x.f0 ∧ x.f0 < 9223372036854775808) ∧ (-9223372036854775808 ≤ x.f3 ∧ x.f3 < 9223372036854775808)) (hf : -9223372036854775808 ≤ fails ∧ fails < 9223372036854775808) (ha : -9223372036854775808 ≤ again ∧ again < 9223372036854775808)
    (h3 : (Kd.int .i64).C w A3 keep.length keep) (hkl : keep.length ≤ 17592186043904) :
    Calls Try.prog 3 #[.slice A l.length c, .int .i64 fails, .int .i64 again, .slice A3 keep.length c3_] w fun e w' => e = .returned (.bool true) ∧ Below w.heap.size w w' := by
  have HR := Aside0.mk hr
  have HCC := Aside0.mk hc
  have HL := Aside0.mk hl
  have HXX := Aside0.mk hx
  have HFS := Aside0.mk hf
  have HAG := Aside0.mk ha
  have G3 := Aside0.mk h3
  have HKL := Aside0.mk hkl
  clear hr hc hl hx hf ha h3 hkl
  obtain ⟨g0, ho, hclean, -, -, -, -, hok0⟩ := new_cleanL
  have HO0 := Aside0.mk ho
  have HG0 := Aside0.mk hclean.good.ok
  have HOK0 := Aside0.mk (St.ok.more hok0 (show 4 ≤ 8 by decide))
  obtain ⟨Q0, hp, hk, hpg, hgp, -, hok⟩ := Kp.new
  have HP0 := Aside0.mk hp
  have HKP0 := Aside0.mk hk
  have HPG0 := Aside0.mk (show Q0.pages = 1 ∧ Q0.g.pages = 1 from ⟨hpg, hgp⟩)
  have HT0 := Aside0.mk (open_held hp)
  have HQK0 := Aside0.mk hok
  clear ho hclean hok0 hp hk hpg hgp hok
  have hmm : ∀ (w : World), (Instr.makeMap 32 none).run Try.prog w = .ok (.map (some w.heap.size)) (w.alloc (.map #[] 0)) := by
    intro w
    simp [Instr.makeMap, underlying, Try.underlying32]
  go_enter Try.func3, Try.ntmps3
  go_upto_region 8 with (first
    | (go_at_call 4; (refine (new.calls w _ (Below.refl _ w)).mono ?_); rintro e1 w1 ⟨gd, rfl, hgd, hD, hb⟩; have D1 := Aside0.mk (show KD w w1 gd St.new [] from Bd.start hb ⟨_, hD⟩ (fpD _ _ _)); clear hgd hD hb)
    | (go_at_call 5; (refine (KD.popen D1.out (St.ok.more St.new_ok (by decide)) (by decide : 8 ≤ 100000000) HO0.out HOK0.out HG0.out HP0.out).mono ?_); rintro e3 w3 ⟨gl, gp, rfl, h3⟩; have T3 := Aside0.mk h3; clear h3)
    | (go_at_call 7; (with_reducible refine (QLogKept.picked fails 90 _ HFS.out (by decide)).mono ?_); rintro e w4 ⟨r, rfl, hr, hd⟩; have T4 := Aside0.mk (KQ.below T3.out hd.below); have HRR := Aside0.mk (show r < 9223372036854775808 by omega); clear hr hd)
    | (go_at_call 6; (with_reducible refine (KQ.fail T4.out r).mono ?_); rintro e w5 ⟨rfl, h⟩; have T5 := Aside0.mk h; clear h))
  clear D1 T3 T4
  have HKP5 := Aside0.mk (HKP0.out.failed r)
  have HQK5 := Aside0.mk (HQK0.out.failed HRR.out)
  have HPG5 := Aside0.mk (show ({ Q0 with s := Q0.s.failed r } : Po).pages = 1 ∧ ({ Q0 with s := Q0.s.failed r } : Po).g.pages = 1 ∧ ({ Q0 with s := Q0.s.failed r } : Po).turned = [] from ⟨HPG0.out.1, HPG0.out.2, HT0.out.2⟩)
  replace HQK5 : Aside0 (({ Q0 with s := Q0.s.failed r } : Po).s.ok 8) := HQK5
  generalize ({ Q0 with s := Q0.s.failed r } : Po) = P0 at T5 HKP5 HQK5 HPG5
  clear HO0 HG0 HOK0 HP0 HKP0 HPG0 HT0 HQK0 HRR
  go_upto_region 9 with ((with_reducible refine gate_dst (N := 12) rfl ?_); refine box_event ?hg (N := 12) ?hd (cs := #[.int .i64 0, .map none]) (t := 34) ?hr ?_; (case hd => rfl); (case hg => rfl); (case hr => first | (go_simp; done) | (go_simp; rfl)); intro bk hgb w6 hbox hb; have HXbk := Aside0.mk hbox; have HBbk := Aside0.mk hb; have HGbk := Aside0.mk hgb; have bk0 : w6.cell? ⟨bk, 0, none⟩ = some (.int .i64 0) := (blk_cell hbox 0).trans rfl; have yk0 := blk_frozen hbox 0; have bk1 : w6.cell? ⟨bk, 1, none⟩ = some (.map none) := (blk_cell hbox 1).trans rfl; have yk1 := blk_frozen hbox 1; clear hgb hbox hb)
  obtain ⟨o1, ho1, hm1⟩ := MapO.none_ w5
  have HM1 := Aside0.mk hm1
  have T6 := Aside0.mk (KQ.start3 T5.out ho1 HBbk.out HXbk.out (Nat.le_of_eq HGbk.out.symm))
  have HLB := Aside0.mk (show w.heap.size ≤ bk from Nat.le_trans (below_size T5.out.hB) (by rw [HGbk.out]; simp))
  clear bk0 bk1 yk0 yk1 hm1 ho1 HXbk HBbk HGbk T5
  obtain ⟨kk0, hkk⟩ : ∃ kk, kk = w5.heap.size := ⟨_, rfl⟩
  rw [← hkk] at T6 HM1 ⊢
  clear hkk
  have z0 : (put2 w6 bk 1 kk0).cell? ⟨bk, 0, none⟩ = some (.int .i64 1) := (Bd.box T6.out bk (shc 1 kk0) 34 List.mem_cons_self 0).trans rfl
  have z1 : (put2 w6 bk 1 kk0).cell? ⟨bk, 1, none⟩ = some (.map (some kk0)) := (Bd.box T6.out bk (shc 1 kk0) 34 List.mem_cons_self 1).trans rfl
  generalize hw6 : World.setCell _ _ _ = w7
  rw [show put2 w6 bk 1 kk0 = w7 from hw6] at T6 z0 z1
  clear hw6
  go_cut [13, 14, 45, 46] from 13 to 47 (fun v13 v14 _ _ wx => ∃ bn bm, v13 = pv bn ∧ v14 = pv bm ∧ Aside0 (LKQ w wx gd gl gp bk bn bm kk0 kk0 kk0 0 P0 1 1 1 (fun _ => none) (fun _ => none) (fun _ => none) []))
  case first =>
    go_region_held3 (fun w' => w'.cell? ⟨bk, 0, none⟩ = some (.int .i64 1) ∧ w'.cell? ⟨bk, 1, none⟩ = some (.map (some kk0))) (go_keep) (fail)
    · go_wp2_with (fail)
      go_meet
      case rel => exact ⟨w7.heap.size, w7.heap.size + 1, rfl, rfl, ⟨LKQ.start T6.out HM1.out HLB.out (.inl ⟨rfl, rfl⟩)⟩⟩
    · go_wp2_with (fail)
      go_meet
      case rel => exact ⟨w7.heap.size + 1, w7.heap.size, rfl, rfl, ⟨LKQ.start T6.out HM1.out HLB.out (.inr ⟨rfl, rfl⟩)⟩⟩
  case rest =>
  obtain ⟨bn, bm, rfl, rfl, T7⟩ := hcut
  clear T6 HM1 HLB z0 z1
  go_wp2_with (go_at_call 8; (refine (QLogKept.short.calls A l.length c _ HL.out HCC.out).mono ?_); rintro e6 w9 ⟨rfl, rfl⟩)
  have HN := Aside0.mk (show min l.length 250 ≤ l.length ∧ min l.length 250 ≤ 250 by omega)
  generalize min l.length 250 = n at HN ⊢
  go_loopw [11, 15, 50] (fun v11 v15 v50 wr => ∃ (kk kn km j : Nat) (P : Po) (pk pn pm : Int) (KM M MM : Cn), j ≤ n ∧ v11 = .int .i64 0 ∧ v15 = .bool true ∧ v50 = .int .i64 (j : Int) ∧ Aside0 (LKQ w wr gd gl gp bk bn bm kk kn km j P pk pn pm KM M MM []) ∧ Aside0 (pn = P.pages ∧ pk = P.g.pages) ∧ Aside0 (Kp P M KM j) ∧ Aside0 (P.fine (8 + 400 * j))) (fun _ _ v50 _ => n - (intOf v50).toNat)
  case atStart => exact ⟨kk0, kk0, kk0, 0, P0, 1, 1, 1, _, _, _, Nat.zero_le _, rfl, rfl, rfl, T7, ⟨HPG5.out.1.symm, by rw [HPG5.out.2.1]; rfl⟩, HKP5, ⟨Kp.fine HKP5.out HQK5.out (by rw [HPG5.out.2.2]; exact Nat.zero_le _)⟩⟩
  case round =>
    clear T7 HKP5 HPG5 HQK5
    rename_i Qx Kx hKx
    have HKX : Aside0 (∀ (c0 c1 c4 c5 c6 c7 c8 c16 c17 c18 c19 c20 c21 c22 c23 c24 c25 c26 c27 c28 c29 c30 c31 c32 c33 c34 c35 c36 c37 c38 c39 c40 c41 c42 c43 c44 c45 c46 c47 c48 c49 c50 c51 c52 c53 c54 c55 c56 c57 c58 c59 c60 c61 c62 c63 c64 c65 c66 c67 c68 c69 c70 c71 c72 c73 c74 c75 c76 c77 c78 c79 c80 c81 c82 c83 c84 c85 c86 c87 c88 c89 c90 c91 c92 c93 c94 c95 c96 c97 c98 c99 c100 c101 c102 c103 c104 c105 c106 c107 c108 c109 c110 c111 c112 c113 c114 c115 c116 c117 c118 c119 c120 c121 c122 c123 c124 c125 c126 c127 c128 c129 c130 c131 c132 c133 c134 c135 c136 c137 c138 c139 c140 c141 c142 c143 c144 c145 c146 c147 c148 c149 c150 c151 c152 c153 c154 c155 c156 c157 c158 c159 c160 c161 c162 c163 c164 c165 c166 c167 c168 c169 c170 c171 c172 c173 c174 c175 c176 c177 c178 c179 c180 c181 c182 c183 c184 c185 c186 c187 c188 c189 c190 c191 c192 c193 c194 c195 c196 c197 c198 c199 c200 c201 c202 c203 c204 c205 c206 c207 c208 c209 c210 c211 c212 c213 c214 c215 c216 : Value) (wx : World) (e : Int) (right : Bool) (kk kn km N : Nat) (P : Po) (pk pn pm p : Int) (KM M MM F : Cn), LKQ w wx gd gl gp bk bn bm kk kn km N P pk pn pm KM M MM [] → P.s.ok 1000000 → (right = true ∨ (right = false ∧ P.s.d = true)) → FinK (P.s.crashed keep) p F → ((p = pk ∧ F = KM) ∨ (p = pm ∧ F = MM)) → p ≤ 300 → Kx ⟨#[c0, c1, .int .i64 again, .slice A3 keep.length c3_, c4, c5, c6, c7, c8, pv gd, pv gp, .int .i64 e, pv bk, pv bn, pv bm, .bool right, c16, c17, c18, c19, c20, c21, c22, c23, c24, c25, c26, c27, c28, c29, c30, c31, c32, c33, c34, c35, c36, c37, c38, c39, c40, c41, c42, c43, c44, c45, c46, c47, c48, c49, c50, c51, c52, c53, c54, c55, c56, c57, c58, c59, c60, c61, c62, c63, c64, c65, c66, c67, c68, c69, c70, c71, c72, c73, c74, c75, c76, c77, c78, c79, c80, c81, c82, c83, c84, c85, c86, c87, c88, c89, c90, c91, c92, c93, c94, c95, c96, c97, c98, c99, c100, c101, c102, c103, c104, c105, c106, c107, c108, c109, c110, c111, c112, c113, c114, c115, c116, c117, c118, c119, c120, c121, c122, c123, c124, c125, c126, c127, c128, c129, c130, c131, c132, c133, c134, c135, c136, c137, c138, c139, c140, c141, c142, c143, c144, c145, c146, c147, c148, c149, c150, c151, c152, c153, c154, c155, c156, c157, c158, c159, c160, c161, c162, c163, c164, c165, c166, c167, c168, c169, c170, c171, c172, c173, c174, c175, c176, c177, c178, c179, c180, c181, c182, c183, c184, c185, c186, c187, c188, c189, c190, c191, c192, c193, c194, c195, c196, c197, c198, c199, c200, c201, c202, c203, c204, c205, c206, c207, c208, c209, c210, c211, c212, c213, c214, c215, c216], []⟩ wx) := ⟨by
      intro c0 c1 c4 c5 c6 c7 c8 c16 c17 c18 c19 c20 c21 c22 c23 c24 c25 c26 c27 c28 c29 c30 c31 c32 c33 c34 c35 c36 c37 c38 c39 c40 c41 c42 c43 c44 c45 c46 c47 c48 c49 c50 c51 c52 c53 c54 c55 c56 c57 c58 c59 c60 c61 c62 c63 c64 c65 c66 c67 c68 c69 c70 c71 c72 c73 c74 c75 c76 c77 c78 c79 c80 c81 c82 c83 c84 c85 c86 c87 c88 c89 c90 c91 c92 c93 c94 c95 c96 c97 c98 c99 c100 c101 c102 c103 c104 c105 c106 c107 c108 c109 c110 c111 c112 c113 c114 c115 c116 c117 c118 c119 c120 c121 c122 c123 c124 c125 c126 c127 c128 c129 c130 c131 c132 c133 c134 c135 c136 c137 c138 c139 c140 c141 c142 c143 c144 c145 c146 c147 c148 c149 c150 c151 c152 c153 c154 c155 c156 c157 c158 c159 c160 c161 c162 c163 c164 c165 c166 c167 c168 c169 c170 c171 c172 c173 c174 c175 c176 c177 c178 c179 c180 c181 c182 c183 c184 c185 c186 c187 c188 c189 c190 c191 c192 c193 c194 c195 c196 c197 c198 c199 c200 c201 c202 c203 c204 c205 c206 c207 c208 c209 c210 c211 c212 c213 c214 c215 c216 wx e right kk kn km N P pk pn pm p KM M MM F hk hok hr hf hh hp
      obtain ⟨⟨ok, on, om, hq, m1, m2, m3⟩, -, -, -⟩ := hk
      exact hKx _ _ (tail3 (ok := ok) (om := om) ⟨KQ.disk hq⟩ ⟨by simp [six], by simp [six], by simp [six], by simp [six]⟩ ⟨hok⟩ ⟨by decide⟩ hr ⟨hf⟩ ⟨hh⟩ ⟨m1⟩ ⟨m3⟩ ⟨hp⟩ HKL G3 HAG)⟩
    clear hKx
    obtain ⟨kk, kn, km, j, P, pk, pn, pm, KM, M, MM, hj, rfl, rfl, rfl, T, HP, HKP, HF⟩ := hrel
    obtain ⟨hn1, hn2⟩ := HN.out
    by_cases hlt : j < n
    · have t_ : decide ((j : Int) < (n : Int)) = true := decide_eq_true (by omega)
      have HM := Aside0.mk (show 8 + 400 * j ≤ 1000000 by omega)
      have HJ := Aside0.mk (show j < 250 ∧ j ≤ 1000 by omega)
      have HLT := Aside0.mk hlt
      obtain ⟨ad, hA, f0, f1, f2, f3, f4, f5⟩ := QLogKept.at_T90 HR.out (j : Int) (by omega) (by omega)
      rw [Int.toNat_natCast] at f0 f1 f2 f3 f4 f5
      have HXJ := Aside0.mk (HXX.out (QLogKept.rd_T90 l (j : Int)) (by unfold QLogKept.rd_T90; rw [Int.toNat_natCast, List.getD_eq_getElem?_getD, List.getElem?_eq_getElem (show j < l.length by omega), Option.getD_some]; exact List.getElem_mem _))
      generalize QLogKept.rd_T90 l (j : Int) = x at f0 f1 f2 f3 f4 f5 HXJ
      obtain ⟨k, F, At, N, S, U⟩ := x
      simp only at f0 f1 f2 f3 f4 f5 HXJ
      subst hA
      have HBW := Aside0.mk (show Below w.heap.size w wr from T.out.all.elim fun _ h => h.elim fun _ h => h.elim fun _ h => h.1.hB)
      replace f0 := (HBW.out.cell (World.block_lt_of_cell? w _ f0)).trans f0
      replace f1 := (HBW.out.cell (World.block_lt_of_cell? w _ f1)).trans f1
      replace f2 := (HBW.out.cell (World.block_lt_of_cell? w _ f2)).trans f2
      replace f3 := (HBW.out.cell (World.block_lt_of_cell? w _ f3)).trans f3
      replace f4 := (HBW.out.cell (World.block_lt_of_cell? w _ f4)).trans f4
      replace f5 := (HBW.out.cell (World.block_lt_of_cell? w _ f5)).trans f5
      clear hn1
      go_upto_region 14 with ((with_reducible refine gate_dst (N := 17) rfl ?_); refine box_event ?hg (N := 17) ?hd (cs := #[.int .i64 0, .int .i64 0, .int .i64 0, .int .i64 0, .string ⟨#[]⟩, .string ⟨#[]⟩]) (t := 37) ?hr ?_; (case hd => rfl); (case hg => rfl); (case hr => first | (go_simp; done) | (go_simp; rfl)); intro gb hgb w7 hbox hb; have HXbb := Aside0.mk hbox; have HBbb := Aside0.mk hb; have HGbb := Aside0.mk hgb; have bb0 : w7.cell? ⟨gb, 0, none⟩ = some (.int .i64 0) := (blk_cell hbox 0).trans rfl; have yb0 := blk_frozen hbox 0; have bb1 : w7.cell? ⟨gb, 1, none⟩ = some (.int .i64 0) := (blk_cell hbox 1).trans rfl; have yb1 := blk_frozen hbox 1; have bb2 : w7.cell? ⟨gb, 2, none⟩ = some (.int .i64 0) := (blk_cell hbox 2).trans rfl; have yb2 := blk_frozen hbox 2; have bb3 : w7.cell? ⟨gb, 3, none⟩ = some (.int .i64 0) := (blk_cell hbox 3).trans rfl; have yb3 := blk_frozen hbox 3; have bb4 : w7.cell? ⟨gb, 4, none⟩ = some (.string ⟨#[]⟩) := (blk_cell hbox 4).trans rfl; have yb4 := blk_frozen hbox 4; have bb5 : w7.cell? ⟨gb, 5, none⟩ = some (.string ⟨#[]⟩) := (blk_cell hbox 5).trans rfl; have yb5 := blk_frozen hbox 5; clear hgb hbox hb)
      have hput : ((((((w7.setCell ⟨gb, 0, none⟩ (.int .i64 k)).setCell ⟨gb, 1, none⟩ (.int .i64 F)).setCell ⟨gb, 2, none⟩ (.int .i64 At)).setCell ⟨gb, 3, none⟩ (.int .i64 N)).setCell ⟨gb, 4, none⟩ (.string S)).setCell ⟨gb, 5, none⟩ (.string U)) = put6 w7 gb (.int .i64 k) (.int .i64 F) (.int .i64 At) (.int .i64 N) (.string S) (.string U) := rfl
      rw [hput]
      clear hput
      have HX8 := Aside0.mk (put6_blk (x0 := (.int .i64 k)) (x1 := (.int .i64 F)) (x2 := (.int .i64 At)) (x3 := (.int .i64 N)) (x4 := (.string S)) (x5 := (.string U)) HXbb.out)
      have HB8 := Aside0.mk (put6_below (x0 := (.int .i64 k)) (x1 := (.int .i64 F)) (x2 := (.int .i64 At)) (x3 := (.int .i64 N)) (x4 := (.string S)) (x5 := (.string U)) HBbb.out (Nat.le_of_eq HGbb.out.symm))
      clear bb0 yb0 bb1 yb1 bb2 yb2 bb3 yb3 bb4 yb4 bb5 yb5 f0 f1 f2 f3 f4 f5 HXbb HBbb HBW
      generalize put6 w7 gb (.int .i64 k) (.int .i64 F) (.int .i64 At) (.int .i64 N) (.string S) (.string U) = w8 at HX8 HB8 ⊢
      have T8 := Aside0.mk (LKQ.box T.out HB8.out HX8.out (Nat.le_of_eq HGbb.out.symm))
      obtain ⟨ca, hca⟩ : ∃ cs : Array Value, cs = #[.int .i64 k, .int .i64 F, .int .i64 At, .int .i64 N, .string S, .string U] := ⟨_, rfl⟩
      rw [← hca] at T8
      have HCA := Aside0.mk (show ca[0]? = some (.int .i64 k) ∧ ca[2]? = some (.int .i64 At) ∧ ca[3]? = some (.int .i64 N) from by subst hca; exact ⟨rfl, rfl, rfl⟩)
      clear hca HX8 HB8 HGbb T
      obtain ⟨⟨q0, q1⟩, -, ⟨q4, q5⟩⟩ := T8.out.held
      obtain ⟨-, -, ⟨z4, z5⟩⟩ := T8.out.free
      go_upto_region 15 with (fail)
      have T9 := Aside0.mk (LKQ.surely T8.out)
      generalize hw9 : World.setCell _ _ _ = w9
      rw [show put2 w8 bm pk kk = w9 from hw9] at T9
      clear hw9 q0 q1 q4 q5 z4 z5 T8
      have q3 : w9.cell? ⟨gb, 3, none⟩ = some (.int .i64 N) := (LKQ.exbox T9.out List.mem_cons_self 3).trans HCA.out.2.2
      go_upto_region 16 with (go_at_call 7; (with_reducible refine (QLogKept.picked N 20 _ HXJ.out.2 (by decide)).mono ?_); rintro e w10 ⟨r20, rfl, hr, hd⟩; have T10 := Aside0.mk (LKQ.below T9.out hd.below); have HR20 := Aside0.mk hr; have e8 : wrap64 (1 + r20) = 1 + r20 := wrap64_id (by omega); clear hr hd; dsimp only)
      rw [e8]
      clear e8
      have HNN := Aside0.mk (show 1 ≤ 1 + r20 ∧ 1 + r20 ≤ 20 by have := HR20.out; omega)
      generalize 1 + r20 = nn at HNN ⊢
      clear q3 HR20
      have q0 : w10.cell? ⟨gb, 0, none⟩ = some (.int .i64 k) := (LKQ.exbox T10.out List.mem_cons_self 0).trans HCA.out.1
      go_upto_block 2 with (go_at_call 7; (with_reducible refine (QLogKept.picked k 8 _ HXJ.out.1 (by decide)).mono ?_); rintro e w11 ⟨k8, rfl, hr, hd⟩; have T11 := Aside0.mk (LKQ.below T10.out hd.below); have HK8 := Aside0.mk hr; clear hr hd; dsimp only)
      clear q0
      rename_i Kz hKz
      refine step3 (m := 8 + 400 * j) T11 HP HKP HF HM HJ HNN (At := At) ⟨List.mem_cons_self, HCA.out.2.1⟩ (Aside0.mk (fun v11 v18 v19 v20 v21 v22 v62 v63 v64 v65 v66 v67 v68 v69 v70 v71 v72 v73 v74 v75 v76 v77 v78 v79 v80 v81 v82 v83 v84 v85 v86 v87 v88 v89 v90 v91 v92 v93 v94 v95 v96 v97 v98 v99 v100 v101 v102 v103 v104 v105 v106 v107 v108 v109 v110 v111 v112 v113 v114 v115 v116 v117 v118 v119 v120 v121 v122 v123 v124 v125 v126 v127 v128 v129 v130 v131 v132 v133 v134 v135 v136 v137 v138 v139 v140 v141 v142 v143 v144 v145 v146 v147 e' wx hv hcut => ?_)) HK8.out
      subst hv
      obtain ⟨kk', kn', km', P', pk', pn', pm', KM', M', MM', hlk, hok, hres⟩ := hcut.out
      have TL := Aside0.mk (LKQ.fewer (ex' := []) hlk (fun x hx => by cases hx))
      have HOK := Aside0.mk (show P'.s.ok 1000000 from St.ok.more hok (by have := HJ.out; omega))
      clear hlk hok hcut T9 T10 T11 HP HKP HF
      refine hKz _ _ ?_
      rcases hres with ⟨rfl, hf', hkp', hpn', hpk'⟩ | ⟨he', hd', hf'⟩
      · have HF := Aside0.mk hf'
        have HKP := Aside0.mk hkp'
        have HPP := Aside0.mk (show pn' = P'.pages ∧ pk' = P'.g.pages from ⟨hpn', hpk'⟩)
        obtain ⟨C, G, hi, hs⟩ := hkp'.now
        have HI := Aside0.mk hi
        have HSH := Aside0.mk hs
        have HST := Aside0.mk (show ∀ n t, M' n = some t → C n = some t from fun n t h => (hs.texts n t h).2.1)
        have HCN := Aside0.mk (show Pool.cnt P' < 50000 ∧ P'.pages ≤ 300 by have := hkp'.cnt; have := hkp'.pages; have := HJ.out; omega)
        clear hf' hkp' hpn' hpk' hi hs
        obtain ⟨-, ⟨q2, q3⟩, -⟩ := TL.out.held
        go_upto_region 44 with (go_at_call 17; have hc := LKQ.reads TL.out HF.out (by have := HM.out; omega) HI.out HCN.out.1 HCN.out.2; rw [← HPP.out.1] at hc; refine hc.mono ?_; rintro e w20 ⟨r, Q, jr, rfl, h1, h2, h3, h4⟩; have T20 := Aside0.mk h1; have HRD := Aside0.mk h2; have HJR := Aside0.mk h3; have HRR := Aside0.mk (h4 HST.out); clear h1 h2 h3 h4 hc; dsimp only)
        clear q2 q3
        have HKQ := Aside0.mk (show Kp Q M' KM' (j + 1) from HKP.out.near HRD.out.inv HSH.out HRD.out.near)
        cases r with
        | true =>
          obtain ⟨⟨q0, q1⟩, -, ⟨q4, q5⟩⟩ := T20.out.held
          obtain ⟨-, -, ⟨z4, z5⟩⟩ := T20.out.free
          go_wp2_with (fail)
          go_roundw
          case rel => ((repeat apply Exists.intro); exact ⟨⟨kk', kn', kk', j + 1, Q, pk', pn', pk', KM', M', KM', HLT.out, rfl, rfl, by go_num, ⟨LKQ.surely T20.out⟩, ⟨HPP.out.1.trans HRD.out.near.pages.symm, HPP.out.2.trans (by rw [HRD.out.near.gp])⟩, HKQ, ⟨HRD.out.fine.more (by have := HJR.out; omega)⟩⟩, rfl⟩)
          case measure => simp [intOf]; have := HLT.out; omega
        | false =>
          have HD := Aside0.mk (show Q.s.d = true from HRR.out.resolve_left (by decide))
          go_wp2_with (fail)
          exact HKX.out _ _ _ _ _ _ _ _ _ _ _ _ _ _ _ _ _ _ _ _ _ _ _ _ _ _ _ _ _ _ _ _ _ _ _ _ _ _ _ _ _ _ _ _ _ _ _ _ _ _ _ _ _ _ _ _ _ _ _ _ _ _ _ _ _ _ _ _ _ _ _ _ _ _ _ _ _ _ _ _ _ _ _ _ _ _ _ _ _ _ _ _ _ _ _ _ _ _ _ _ _ _ _ _ _ _ _ _ _ _ _ _ _ _ _ _ _ _ _ _ _ _ _ _ _ _ _ _ _ _ _ _ _ _ _ _ _ _ _ _ _ _ _ _ _ _ _ _ _ _ _ _ _ _ _ _ _ _ _ _ _ _ _ _ _ _ _ _ _ _ _ _ _ _ _ _ _ _ _ _ _ _ _ _ _ _ _ _ _ _ _ _ _ _ _ _ _ _ _ _ _ _ _ _ _ _ _ _ w20 0 false kk' kn' km' (j + 1) Q pk' pn' pm' pk' KM' M' MM' KM' T20.out (St.ok.more HRD.out.fine.ok (by have := HJR.out; have := HJ.out; omega)) (.inr ⟨rfl, HD.out⟩) (by rw [HPP.out.2, ← HRD.out.near.gp]; exact HKQ.out.crash (by have := HJ.out; omega) keep) (.inl ⟨rfl, rfl⟩) (by rw [HPP.out.2]; have h1 := HKP.out.pages; have h2 := HI.out.gp; have := HJ.out; omega)
      · have e1_ : (e' == 0) = false := beq_eq_false_iff_ne.2 he'
        have HE' := Aside0.mk hd'
        have HFK := Aside0.mk (hf' keep)
        clear he' hd' hf'
        go_wp2_with (fail)
        rcases HFK.out with ⟨h1, h2⟩ | ⟨h1, h2⟩
        · exact HKX.out _ _ _ _ _ _ _ _ _ _ _ _ _ _ _ _ _ _ _ _ _ _ _ _ _ _ _ _ _ _ _ _ _ _ _ _ _ _ _ _ _ _ _ _ _ _ _ _ _ _ _ _ _ _ _ _ _ _ _ _ _ _ _ _ _ _ _ _ _ _ _ _ _ _ _ _ _ _ _ _ _ _ _ _ _ _ _ _ _ _ _ _ _ _ _ _ _ _ _ _ _ _ _ _ _ _ _ _ _ _ _ _ _ _ _ _ _ _ _ _ _ _ _ _ _ _ _ _ _ _ _ _ _ _ _ _ _ _ _ _ _ _ _ _ _ _ _ _ _ _ _ _ _ _ _ _ _ _ _ _ _ _ _ _ _ _ _ _ _ _ _ _ _ _ _ _ _ _ _ _ _ _ _ _ _ _ _ _ _ _ _ _ _ _ _ _ _ _ _ _ _ _ _ _ _ _ _ _ wx e' false kk' kn' km' (j + 1) P' pk' pn' pm' pk' KM' M' MM' KM' TL.out HOK.out (.inr ⟨rfl, HE'.out⟩) h1 (.inl ⟨rfl, rfl⟩) h2
        · exact HKX.out _ _ _ _ _ _ _ _ _ _ _ _ _ _ _ _ _ _ _ _ _ _ _ _ _ _ _ _ _ _ _ _ _ _ _ _ _ _ _ _ _ _ _ _ _ _ _ _ _ _ _ _ _ _ _ _ _ _ _ _ _ _ _ _ _ _ _ _ _ _ _ _ _ _ _ _ _ _ _ _ _ _ _ _ _ _ _ _ _ _ _ _ _ _ _ _ _ _ _ _ _ _ _ _ _ _ _ _ _ _ _ _ _ _ _ _ _ _ _ _ _ _ _ _ _ _ _ _ _ _ _ _ _ _ _ _ _ _ _ _ _ _ _ _ _ _ _ _ _ _ _ _ _ _ _ _ _ _ _ _ _ _ _ _ _ _ _ _ _ _ _ _ _ _ _ _ _ _ _ _ _ _ _ _ _ _ _ _ _ _ _ _ _ _ _ _ _ _ _ _ _ _ _ _ _ _ _ _ wx e' false kk' kn' km' (j + 1) P' pk' pn' pm' pm' KM' M' MM' MM' TL.out HOK.out (.inr ⟨rfl, HE'.out⟩) h1 (.inr ⟨rfl, rfl⟩) h2
    · have t_ : decide ((j : Int) < (n : Int)) = false := decide_eq_false (by omega)
      have HJ := Aside0.mk (show j ≤ 250 by omega)
      go_wp2_with (fail)
      exact HKX.out _ _ _ _ _ _ _ _ _ _ _ _ _ _ _ _ _ _ _ _ _ _ _ _ _ _ _ _ _ _ _ _ _ _ _ _ _ _ _ _ _ _ _ _ _ _ _ _ _ _ _ _ _ _ _ _ _ _ _ _ _ _ _ _ _ _ _ _ _ _ _ _ _ _ _ _ _ _ _ _ _ _ _ _ _ _ _ _ _ _ _ _ _ _ _ _ _ _ _ _ _ _ _ _ _ _ _ _ _ _ _ _ _ _ _ _ _ _ _ _ _ _ _ _ _ _ _ _ _ _ _ _ _ _ _ _ _ _ _ _ _ _ _ _ _ _ _ _ _ _ _ _ _ _ _ _ _ _ _ _ _ _ _ _ _ _ _ _ _ _ _ _ _ _ _ _ _ _ _ _ _ _ _ _ _ _ _ _ _ _ _ _ _ _ _ _ _ _ _ _ _ _ _ _ _ _ _ _ wr 0 true kk kn km j P pk pn pm pk KM M MM KM T.out (St.ok.more HF.out.ok (by have := HJ.out; omega)) (.inl rfl) (by rw [HP.out.2]; exact HKP.out.crash HJ.out keep) (.inl ⟨rfl, rfl⟩) (by rw [HP.out.2]; obtain ⟨C, G, hi, -⟩ := HKP.out.now; have h1 := HKP.out.pages; have h2 := hi.gp; have := HJ.out; omega)
end Go.Proofs.Ythaoaaboempajab.Pool
