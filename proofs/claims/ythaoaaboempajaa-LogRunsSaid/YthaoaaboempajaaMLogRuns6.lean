/- Lines of the texts that the claim LogRuns rests on, bundled: part 6; no conditions but those that each row names. -/
import Derived.Test.YthaoaaboempajaaMLogRuns5
import Derived.BigQuiet
import Derived.Deep.QuietTactic
namespace Go.Proofs.Ythaoaaboempajaa.Log
open Go.RowKit Go.Maps Go.Proofs.Ythaoaaboempajaa.QLogRuns Go.Proofs.Ythaoaaboempajaa.QDiskRuns Go.Proofs.Ythaoaaboempajaa.Disk Go.Proofs.YthaoaaboempajaaW.PrintWords Go.Proofs.YthaoaaboempajaaW.PrintLast Go.Proofs.YthaoaaboempajaaW.PrintMore Go.Proofs.YthaoaaboempajaaX
set_option linter.unusedVariables false
set_option linter.unusedSimpArgs false
set_option maxHeartbeats 16000000 in
set_option maxRecDepth 100000 in
theorem step8 {c0 c1 c2 c6 c8 c9 c12 c13 c14 c15 c16 c17 c18 c19 c20 c21 c22 c23 c24 c25 c26 c27 c28 c29 c30 c31 c32 c33 c34 c35 c36 c37 c38 c39 c40 c41 c42 c43 c44 c45 c46 c48 c49 c50 c51 c52 c53 c54 c55 c56 c57 c58 c59 c60 c61 c62 c63 c64 c65 c66 c67 c68 c69 c70 c71 c72 c73 c74 c75 c76 c77 c78 c79 c80 c81 c82 c83 c84 c85 c86 c87 c88 c89 c90 c91 c92 c93 c94 c95 c96 c97 c98 c99 c100 c101 c102 c103 c104 c105 c106 c107 c108 c109 c110 c111 c112 c113 c114 c115 c116 c117 c118 c119 c120 c121 c122 c123 c124 c125 c126 c127 c128 c129 c130 c131 c132 c133 c134 c135 c136 c137 c138 c139 c140 c141 c142 c143 c144 c145 c146 c147 c148 c149 c150 c151 c152 c153 c154 c155 c156 c157 c158 c159 c160 c161 c162 c163 c164 c165 c166 c167 c168 c169 c170 c171 c172 c173 c174 c175 c176 c177 c178 c179 c180 c181 c182 c183 c184 c185 c186 c187 c188 c189 c190 c191 c192 c193 c194 c195 c196 c197 c198 c199 c200 c201 c202 c203 c204 c205 c206 c207 c208 c209 c210 c211 c212 c213 c214 c215 c216 c217 c218 c219 c220 c221 c222 c223 c224 c225 c226 c227 c228 c229 c230 c231 c232 c233 c234 c235 c236 c237 c238 c239 c240 c241 c242 c243 c244 c245 c246 c247 c248 c249 c250 c251 c252 c253 c254 c255 c256 c257 c258 c259 c260 c261 c262 c263 c264 c265 c266 c267 c268 c269 c270 c271 c272 c273 c274 c275 c276 : Value} {w w8 : World} {gd gr gl gm gb : Nat} {s : St} {g : Lg} {m : Nat} {k F At N : Int} {S : ByteArray} {A6 : Option Addr} {c6_ : Nat} {keep : List Int} {cs : Array Value} {K : Act → World → Prop} {Q : Exit → Act → World → Prop}
    (T8 : Aside0 (LS w w8 gd gl gr gm s g s g [(gb, .cells cs 77 (0, 0))])) (HG : Aside0 (Good s g)) (HOK : Aside0 (s.ok m)) (HD : Aside0 (s.d = false)) (HM : Aside0 (m ≤ 100000000)) (HNR : Aside0 (-9223372036854775808 ≤ N ∧ N < 9223372036854775808)) (HKL : Aside0 (keep.length ≤ 17592186043904)) (G6 : Aside0 ((Kd.int .i64).C w A6 keep.length keep))
    (HELD : Aside0 (∀ {w1 : World} {P Q : Part}, Bd w w1 P Q [(gb, .cells cs 77 (0, 0))] → w1.cell? ⟨gb, 1, none⟩ = some (.int .i64 F) ∧ w1.cell? ⟨gb, 2, none⟩ = some (.int .i64 At) ∧ w1.cell? ⟨gb, 3, none⟩ = some (.int .i64 N) ∧ w1.cell? ⟨gb, 4, none⟩ = some (.string S) ∧ w1.cell? ⟨gb, 6, none⟩ = some (.slice A6 keep.length c6_)))
    (HK : Aside0 (∀ (v5 v6 v7 v8 v11 v12 v13 v14 v15 v47 v48 v49 v50 v51 v52 v53 v54 v55 v56 v57 v58 v59 v60 v61 v62 v63 v64 v65 v66 v67 v68 v69 v70 v71 v72 v73 v74 v75 v76 v77 v78 v79 v80 v81 v82 v83 v84 v85 v86 v87 v88 v89 v90 v91 v92 v93 v94 v95 v96 v97 v98 v99 v100 v101 v102 v103 v104 v105 v106 v107 v108 v109 v110 v111 v112 v113 v114 v115 v116 v117 v118 v119 v120 v121 v122 v123 v124 v125 v126 v127 v128 v129 v130 v131 v132 v133 v134 v135 v136 v137 v138 v139 v140 v141 v142 v143 v144 v145 v146 v147 v148 v149 v150 v151 v152 v153 v154 v155 v156 v157 v158 v159 v160 v161 v162 v163 v164 v165 v166 v167 v168 v169 v170 v171 v172 v173 v174 v175 v176 v177 v178 v179 v180 v181 v182 v183 v184 v185 v186 v187 v188 v189 v190 v191 v192 v193 v194 v195 v196 v197 v198 v199 v200 v201 v202 v203 : Value) (wx : World), (∃ (gl' gm' : Nat) (s' : St) (g' : Lg), v5 = pv gl' ∧ v7 = pv gm' ∧ v11 = .bool true ∧ Aside0 (LS w wx gd gl' gr gm' s' g' s' g' [(gb, .cells cs 77 (0, 0))]) ∧ Aside0 (Good s' g') ∧ Aside0 (s'.ok (m + 65310))) → K ⟨#[c0, c1, c2, pv gd, pv gr, v5, v6, v7, v8, c9, pv gb, v11, v12, v13, v14, v15, c16, c17, c18, c19, c20, c21, c22, c23, c24, c25, c26, c27, c28, c29, c30, c31, c32, c33, c34, c35, c36, c37, c38, c39, c40, c41, c42, c43, c44, c45, c46, v47, v48, v49, v50, v51, v52, v53, v54, v55, v56, v57, v58, v59, v60, v61, v62, v63, v64, v65, v66, v67, v68, v69, v70, v71, v72, v73, v74, v75, v76, v77, v78, v79, v80, v81, v82, v83, v84, v85, v86, v87, v88, v89, v90, v91, v92, v93, v94, v95, v96, v97, v98, v99, v100, v101, v102, v103, v104, v105, v106, v107, v108, v109, v110, v111, v112, v113, v114, v115, v116, v117, v118, v119, v120, v121, v122, v123, v124, v125, v126, v127, v128, v129, v130, v131, v132, v133, v134, v135, v136, v137, v138, v139, v140, v141, v142, v143, v144, v145, v146, v147, v148, v149, v150, v151, v152, v153, v154, v155, v156, v157, v158, v159, v160, v161, v162, v163, v164, v165, v166, v167, v168, v169, v170, v171, v172, v173, v174, v175, v176, v177, v178, v179, v180, v181, v182, v183, v184, v185, v186, v187, v188, v189, v190, v191, v192, v193, v194, v195, v196, v197, v198, v199, v200, v201, v202, v203, c204, c205, c206, c207, c208, c209, c210, c211, c212, c213, c214, c215, c216, c217, c218, c219, c220, c221, c222, c223, c224, c225, c226, c227, c228, c229, c230, c231, c232, c233, c234, c235, c236, c237, c238, c239, c240, c241, c242, c243, c244, c245, c246, c247, c248, c249, c250, c251, c252, c253, c254, c255, c256, c257, c258, c259, c260, c261, c262, c263, c264, c265, c266, c267, c268, c269, c270, c271, c272, c273, c274, c275, c276], []⟩ wx)) (hk : k = 8) :
    Code.wp Try.prog sw14 (Exit.then K Q) ⟨#[c0, c1, c2, pv gd, pv gr, pv gl, c6, pv gm, c8, c9, pv gb, .bool true, c12, c13, c14, c15, c16, c17, c18, c19, c20, c21, c22, c23, c24, c25, c26, c27, c28, c29, c30, c31, c32, c33, c34, c35, c36, c37, c38, c39, c40, c41, c42, c43, c44, c45, c46, .int .i64 k, c48, c49, c50, c51, c52, c53, c54, c55, c56, c57, c58, c59, c60, c61, c62, c63, c64, c65, c66, c67, c68, c69, c70, c71, c72, c73, c74, c75, c76, c77, c78, c79, c80, c81, c82, c83, c84, c85, c86, c87, c88, c89, c90, c91, c92, c93, c94, c95, c96, c97, c98, c99, c100, c101, c102, c103, c104, c105, c106, c107, c108, c109, c110, c111, c112, c113, c114, c115, c116, c117, c118, c119, c120, c121, c122, c123, c124, c125, c126, c127, c128, c129, c130, c131, c132, c133, c134, c135, c136, c137, c138, c139, c140, c141, c142, c143, c144, c145, c146, c147, c148, c149, c150, c151, c152, c153, c154, c155, c156, c157, c158, c159, c160, c161, c162, c163, c164, c165, c166, c167, c168, c169, c170, c171, c172, c173, c174, c175, c176, c177, c178, c179, c180, c181, c182, c183, c184, c185, c186, c187, c188, c189, c190, c191, c192, c193, c194, c195, c196, c197, c198, c199, c200, c201, c202, c203, c204, c205, c206, c207, c208, c209, c210, c211, c212, c213, c214, c215, c216, c217, c218, c219, c220, c221, c222, c223, c224, c225, c226, c227, c228, c229, c230, c231, c232, c233, c234, c235, c236, c237, c238, c239, c240, c241, c242, c243, c244, c245, c246, c247, c248, c249, c250, c251, c252, c253, c254, c255, c256, c257, c258, c259, c260, c261, c262, c263, c264, c265, c266, c267, c268, c269, c270, c271, c272, c273, c274, c275, c276], []⟩ w8 := by
  subst hk
  conv => arg 2; whnf
  cases hdn : (Lg.append s g N S).2.1.d with
  | false =>
    have HDN := Aside0.mk hdn
    have HOK1 := Aside0.mk (St.ok.appended HOK.out g N S)
    have HG1 := Aside0.mk (HG.out.append N S)
    obtain ⟨⟨ca, sa, ga⟩, hra⟩ : ∃ r, r = Lg.append s g N S := ⟨_, rfl⟩
    have HRA := Aside0.mk hra
    rw [← hra] at HDN HOK1 HG1
    simp only at HDN HOK1 HG1
    clear hdn hra
    go_upto_region 36 with (fail)
    go_region_held3 (fun w' => w'.cell? ⟨gb, 1, none⟩ = some (.int .i64 F) ∧ w'.cell? ⟨gb, 2, none⟩ = some (.int .i64 At) ∧ w'.cell? ⟨gb, 3, none⟩ = some (.int .i64 N) ∧ w'.cell? ⟨gb, 4, none⟩ = some (.string S) ∧ w'.cell? ⟨gb, 6, none⟩ = some (.slice A6 keep.length c6_)) (first | exact HELD.out T15.out | exact HELD.out T14.out | exact HELD.out T13.out | exact HELD.out T12.out | exact HELD.out T11.out | exact HELD.out T10.out | exact HELD.out T9.out | exact HELD.out (LS.drew T8.out))
      (first
      | (have T14_ := Aside0.mk T14.out; go_at_call 81; (with_reducible refine (LS.rcommit T14.out HOK1.out (by have := HM.out; omega) HG1.out.ok N S 3 HNR.out).mono ?_); rintro e w15 ⟨rfl, h⟩; have T15 := Aside0.mk h; clear h)
      | (have T13_ := Aside0.mk T13.out; go_at_call 15; (with_reducible refine (relstorelaw_num.calls (Lg.commit sa ga N S 3).c (Lg.commit sa ga N S 3).c _ rfl).mono ?_); rintro e w14 ⟨rfl, hb⟩; have T14 := Aside0.mk (LS.below T13.out hb.below); clear hb)
      | (have T12_ := Aside0.mk T12.out; go_at_call 69; (with_reducible refine (LS.commit T12.out HOK1.out (by have := HM.out; omega) HG1.out.ok N S 3 HNR.out).mono ?_); rintro e w13 ⟨rfl, h⟩; have T13 := Aside0.mk h; clear h)
      | (have T11_ := Aside0.mk T11.out; go_at_call 72; (with_reducible refine (LS.down T11.out).mono ?_); rw [HDN.out]; rintro e w12 ⟨rfl, rfl⟩; have T12 := Aside0.mk T11.out)
      | (have T10_ := Aside0.mk T10.out; go_at_call 80; (with_reducible refine (LS.rappend T10.out HOK.out (by have := HM.out; omega) HG.out.ok N S HNR.out).mono ?_); rw [← HRA.out]; rintro e w11 ⟨rfl, h⟩; have T11 := Aside0.mk h; clear h)
      | (have T9_ := Aside0.mk T9.out; go_at_call 15; (with_reducible refine (relstorelaw_num.calls ca ca _ rfl).mono ?_); rintro e w10 ⟨rfl, hb⟩; have T10 := Aside0.mk (LS.below T9.out hb.below); clear hb)
      | (have T9 := Aside0.mk (LS.drew T8.out); go_at_call 67; (with_reducible refine (LS.append (LS.drew T8.out) HOK.out (by have := HM.out; omega) HG.out.ok N S HNR.out).mono ?_); rw [← HRA.out]; rintro e w9 ⟨rfl, h⟩; replace T9 := Aside0.mk h; clear h))
    go_wp2_with (fail)
    refine HK.out _ _ _ _ _ _ _ _ _ _ _ _ _ _ _ _ _ _ _ _ _ _ _ _ _ _ _ _ _ _ _ _ _ _ _ _ _ _ _ _ _ _ _ _ _ _ _ _ _ _ _ _ _ _ _ _ _ _ _ _ _ _ _ _ _ _ _ _ _ _ _ _ _ _ _ _ _ _ _ _ _ _ _ _ _ _ _ _ _ _ _ _ _ _ _ _ _ _ _ _ _ _ _ _ _ _ _ _ _ _ _ _ _ _ _ _ _ _ _ _ _ _ _ _ _ _ _ _ _ _ _ _ _ _ _ _ _ _ _ _ _ _ _ _ _ _ _ _ _ _ _ _ _ _ _ _ _ _ _ _ _ _ _ _ _ _ _ ?_
    exact ⟨gl, gm, _, _, rfl, rfl, by first | rfl | simp, T15, ⟨HG1.out.commit N S 3⟩, ⟨(Lg.commit_ok HOK1.out ga N S 3).mono (by omega)⟩⟩
  | true =>
    have HDN := Aside0.mk hdn
    have HOK1 := Aside0.mk (St.ok.appended HOK.out g N S)
    have HG1 := Aside0.mk (HG.out.append N S)
    obtain ⟨⟨ca, sa, ga⟩, hra⟩ : ∃ r, r = Lg.append s g N S := ⟨_, rfl⟩
    have HRA := Aside0.mk hra
    rw [← hra] at HDN HOK1 HG1
    simp only at HDN HOK1 HG1
    clear hdn hra
    go_upto_region 36 with (fail)
    refine wp_region_noPanic ?_
    refine start_ (n := 35) (S := fun w' => w'.cell? ⟨gb, 1, none⟩ = some (.int .i64 F) ∧ w'.cell? ⟨gb, 2, none⟩ = some (.int .i64 At) ∧ w'.cell? ⟨gb, 3, none⟩ = some (.int .i64 N) ∧ w'.cell? ⟨gb, 4, none⟩ = some (.string S) ∧ w'.cell? ⟨gb, 6, none⟩ = some (.slice A6 keep.length c6_)) (ds := []) #[false, false, false, false, false, false, false, false, false, false, false, false, false, false, false, false, false, false, false, false, false, false, false, false, false, false, false, false, false, false, false, false, false, false, false] (by kernel_rfl) rfl rfl (HELD.out (LS.drew T8.out)) (fun hHeld => ?_)
    have T8d := Aside0.mk (LS.drew T8.out)
    generalize w8.drew = w8d at T8d hHeld ⊢
    refine pure_ (i := 0) (N := some 170) (v := ?_) (a' := ?_) #[true, false, false, false, false, false, false, false, false, false, false, false, false, false, false, false, false, false, false, false, false, false, false, false, false, false, false, false, false, false, false, false, false, false, false] rfl rfl (by kernel_rfl) (fun _ _ _ h => h) (Or.inl ⟨by rfl, ?_⟩) ?_ ?_
    rotate_left
    · intro w'
      go_simp
      try (with_reducible rfl)
    rotate_left
    · simp only [Act.put, List.setIfInBounds_toArray, List.set_cons_zero, List.set_cons_succ]
      rfl
    refine pure_ (i := 1) (N := some 171) (v := ?_) (a' := ?_) #[true, true, false, false, false, false, false, false, false, false, false, false, false, false, false, false, false, false, false, false, false, false, false, false, false, false, false, false, false, false, false, false, false, false, false] rfl rfl (by kernel_rfl) (fun _ _ _ h => h) (Or.inl ⟨by rfl, ?_⟩) ?_ ?_
    rotate_left
    · intro w'
      go_simp
      try (with_reducible rfl)
    rotate_left
    · simp only [Act.put, List.setIfInBounds_toArray, List.set_cons_zero, List.set_cons_succ]
      rfl
    refine take_ (i := 2) (N := some 172) (v := ?_) (a' := ?_) #[true, true, true, false, false, false, false, false, false, false, false, false, false, false, false, false, false, false, false, false, false, false, false, false, false, false, false, false, false, false, false, false, false, false, false] rfl rfl (by kernel_rfl) (fun _ _ _ h => h) (Or.inl ⟨by rfl, ?_⟩) hHeld ?_ ?_
    rotate_left
    · rintro w' ⟨s0_, s1_, s2_, s3_, s4_⟩
      go_simp
      try (with_reducible rfl)
    rotate_left
    · simp only [Act.put, List.setIfInBounds_toArray, List.set_cons_zero, List.set_cons_succ]
      rfl
    refine pure_ (i := 3) (N := some 173) (v := ?_) (a' := ?_) #[true, true, true, true, false, false, false, false, false, false, false, false, false, false, false, false, false, false, false, false, false, false, false, false, false, false, false, false, false, false, false, false, false, false, false] rfl rfl (by kernel_rfl) (fun _ _ _ h => h) (Or.inl ⟨by rfl, ?_⟩) ?_ ?_
    rotate_left
    · intro w'
      go_simp
      try (with_reducible rfl)
    rotate_left
    · simp only [Act.put, List.setIfInBounds_toArray, List.set_cons_zero, List.set_cons_succ]
      rfl
    refine take_ (i := 4) (N := some 174) (v := ?_) (a' := ?_) #[true, true, true, true, true, false, false, false, false, false, false, false, false, false, false, false, false, false, false, false, false, false, false, false, false, false, false, false, false, false, false, false, false, false, false] rfl rfl (by kernel_rfl) (fun _ _ _ h => h) (Or.inl ⟨by rfl, ?_⟩) hHeld ?_ ?_
    rotate_left
    · rintro w' ⟨s0_, s1_, s2_, s3_, s4_⟩
      go_simp
      try (with_reducible rfl)
    rotate_left
    · simp only [Act.put, List.setIfInBounds_toArray, List.set_cons_zero, List.set_cons_succ]
      rfl
    refine pure_ (i := 7) (N := some 177) (v := ?_) (a' := ?_) #[true, true, true, true, true, false, false, true, false, false, false, false, false, false, false, false, false, false, false, false, false, false, false, false, false, false, false, false, false, false, false, false, false, false, false] rfl rfl (by kernel_rfl) (fun _ _ _ h => h) (Or.inl ⟨by rfl, ?_⟩) ?_ ?_
    rotate_left
    · intro w'
      go_simp
      try (with_reducible rfl)
    rotate_left
    · simp only [Act.put, List.setIfInBounds_toArray, List.set_cons_zero, List.set_cons_succ]
      rfl
    refine pure_ (i := 8) (N := some 178) (v := ?_) (a' := ?_) #[true, true, true, true, true, false, false, true, true, false, false, false, false, false, false, false, false, false, false, false, false, false, false, false, false, false, false, false, false, false, false, false, false, false, false] rfl rfl (by kernel_rfl) (fun _ _ _ h => h) (Or.inl ⟨by rfl, ?_⟩) ?_ ?_
    rotate_left
    · intro w'
      go_simp
      try (with_reducible rfl)
    rotate_left
    · simp only [Act.put, List.setIfInBounds_toArray, List.set_cons_zero, List.set_cons_succ]
      rfl
    refine take_ (i := 9) (N := some 179) (v := ?_) (a' := ?_) #[true, true, true, true, true, false, false, true, true, true, false, false, false, false, false, false, false, false, false, false, false, false, false, false, false, false, false, false, false, false, false, false, false, false, false] rfl rfl (by kernel_rfl) (fun _ _ _ h => h) (Or.inl ⟨by rfl, ?_⟩) hHeld ?_ ?_
    rotate_left
    · rintro w' ⟨s0_, s1_, s2_, s3_, s4_⟩
      go_simp
      try (with_reducible rfl)
    rotate_left
    · simp only [Act.put, List.setIfInBounds_toArray, List.set_cons_zero, List.set_cons_succ]
      rfl
    refine pure_ (i := 10) (N := some 180) (v := ?_) (a' := ?_) #[true, true, true, true, true, false, false, true, true, true, true, false, false, false, false, false, false, false, false, false, false, false, false, false, false, false, false, false, false, false, false, false, false, false, false] rfl rfl (by kernel_rfl) (fun _ _ _ h => h) (Or.inl ⟨by rfl, ?_⟩) ?_ ?_
    rotate_left
    · intro w'
      go_simp
      try (with_reducible rfl)
    rotate_left
    · simp only [Act.put, List.setIfInBounds_toArray, List.set_cons_zero, List.set_cons_succ]
      rfl
    refine take_ (i := 11) (N := some 181) (v := ?_) (a' := ?_) #[true, true, true, true, true, false, false, true, true, true, true, true, false, false, false, false, false, false, false, false, false, false, false, false, false, false, false, false, false, false, false, false, false, false, false] rfl rfl (by kernel_rfl) (fun _ _ _ h => h) (Or.inl ⟨by rfl, ?_⟩) hHeld ?_ ?_
    rotate_left
    · rintro w' ⟨s0_, s1_, s2_, s3_, s4_⟩
      go_simp
      try (with_reducible rfl)
    rotate_left
    · simp only [Act.put, List.setIfInBounds_toArray, List.set_cons_zero, List.set_cons_succ]
      rfl
    refine one_ (i := 5) (N := some 175) #[true, true, true, true, true, true, false, true, true, true, true, true, false, false, false, false, false, false, false, false, false, false, false, false, false, false, false, false, false, false, false, false, false, false, false] rfl rfl (by kernel_rfl) (by decide) (fun K hK => ?_)
    refine goes_ Try.func67 (by kernel_rfl) rfl #[pv gl, .int .i64 N, .string S] (by rfl) rfl rfl (by (try simp only [List.map_toArray, List.map_cons, List.map_nil]); first | done | rfl) ?_
    have hc := LS.append T8d.out HOK.out (by have := HM.out; omega) HG.out.ok N S HNR.out
    rw [← HRA.out] at hc
    refine hc.mono ?_
    rintro e w9 ⟨rfl, h⟩
    refine ⟨_, rfl, ?_⟩
    have T9 := Aside0.mk h
    clear h hc
    refine hK.out _ _ (HELD.out T9.out) (fun hHeld => ?_)
    clear hK K
    refine norm_ (a' := ?_) ?_ ?_
    rotate_left
    · show Act.put _ (some 175) _ = _
      simp only [Act.put, List.setIfInBounds_toArray, List.set_cons_zero, List.set_cons_succ]
      rfl
    refine one_ (i := 6) (N := some 176) #[true, true, true, true, true, true, true, true, true, true, true, true, false, false, false, false, false, false, false, false, false, false, false, false, false, false, false, false, false, false, false, false, false, false, false] rfl rfl (by kernel_rfl) (by decide) (fun K hK => ?_)
    refine goes_ Try.func15 (by kernel_rfl) rfl #[.int .i64 ca] (by rfl) rfl rfl (by (try simp only [List.map_toArray, List.map_cons, List.map_nil]); first | done | rfl) ?_
    refine (relstorelaw_num.calls ca ca _ rfl).mono ?_
    rintro e w10 ⟨rfl, hb⟩
    refine ⟨_, rfl, ?_⟩
    have T10 := Aside0.mk (LS.below T9.out hb.below)
    clear hb
    refine hK.out _ _ (HELD.out T10.out) (fun hHeld => ?_)
    clear hK K
    refine norm_ (a' := ?_) ?_ ?_
    rotate_left
    · show Act.put _ (some 176) _ = _
      simp only [Act.put, List.setIfInBounds_toArray, List.set_cons_zero, List.set_cons_succ]
      rfl
    refine one_ (i := 12) (N := some 182) #[true, true, true, true, true, true, true, true, true, true, true, true, true, false, false, false, false, false, false, false, false, false, false, false, false, false, false, false, false, false, false, false, false, false, false] rfl rfl (by kernel_rfl) (by decide) (fun K hK => ?_)
    refine goes_ Try.func80 (by kernel_rfl) rfl #[pv gm, .int .i64 N, .string S] (by rfl) rfl rfl (by (try simp only [List.map_toArray, List.map_cons, List.map_nil]); first | done | rfl) ?_
    have hc := LS.rappend T10.out HOK.out (by have := HM.out; omega) HG.out.ok N S HNR.out
    rw [← HRA.out] at hc
    refine hc.mono ?_
    rintro e w11 ⟨rfl, h⟩
    refine ⟨_, rfl, ?_⟩
    have T11 := Aside0.mk h
    clear h hc
    refine hK.out _ _ (HELD.out T11.out) (fun hHeld => ?_)
    clear hK K
    refine norm_ (a' := ?_) ?_ ?_
    rotate_left
    · show Act.put _ (some 182) _ = _
      simp only [Act.put, List.setIfInBounds_toArray, List.set_cons_zero, List.set_cons_succ]
      rfl
    refine pure_ (i := 13) (N := some 183) (v := ?_) (a' := ?_) #[true, true, true, true, true, true, true, true, true, true, true, true, true, true, false, false, false, false, false, false, false, false, false, false, false, false, false, false, false, false, false, false, false, false, false] rfl rfl (by kernel_rfl) (fun _ _ _ h => h) (Or.inl ⟨by rfl, ?_⟩) ?_ ?_
    rotate_left
    · intro w'
      go_simp
      try (with_reducible rfl)
    rotate_left
    · simp only [Act.put, List.setIfInBounds_toArray, List.set_cons_zero, List.set_cons_succ]
      rfl
    refine pure_ (i := 14) (N := some 184) (v := ?_) (a' := ?_) #[true, true, true, true, true, true, true, true, true, true, true, true, true, true, true, false, false, false, false, false, false, false, false, false, false, false, false, false, false, false, false, false, false, false, false] rfl rfl (by kernel_rfl) (fun _ _ _ h => h) (Or.inl ⟨by rfl, ?_⟩) ?_ ?_
    rotate_left
    · intro w'
      go_simp
      try (with_reducible rfl)
    rotate_left
    · simp only [Act.put, List.setIfInBounds_toArray, List.set_cons_zero, List.set_cons_succ]
      rfl
    refine pure_ (i := 15) (N := some 185) (v := ?_) (a' := ?_) #[true, true, true, true, true, true, true, true, true, true, true, true, true, true, true, true, false, false, false, false, false, false, false, false, false, false, false, false, false, false, false, false, false, false, false] rfl rfl (by kernel_rfl) (fun _ _ _ h => h) (Or.inl ⟨by rfl, ?_⟩) ?_ ?_
    rotate_left
    · intro w'
      go_simp
      try (with_reducible rfl)
    rotate_left
    · simp only [Act.put, List.setIfInBounds_toArray, List.set_cons_zero, List.set_cons_succ]
      rfl
    refine one_ (i := 16) (N := some 186) #[true, true, true, true, true, true, true, true, true, true, true, true, true, true, true, true, true, false, false, false, false, false, false, false, false, false, false, false, false, false, false, false, false, false, false] rfl rfl (by kernel_rfl) (by decide) (fun K hK => ?_)
    refine goes_ Try.func72 (by kernel_rfl) rfl #[pv gd] (by rfl) rfl rfl (by (try simp only [List.map_toArray, List.map_cons, List.map_nil]); first | done | rfl) ?_
    have hc := LS.down T11.out
    rw [HDN.out] at hc
    refine hc.mono ?_
    rintro e w12 ⟨rfl, rfl⟩
    refine ⟨_, rfl, ?_⟩
    have T12 := Aside0.mk T11.out
    clear hc
    refine hK.out _ _ (HELD.out T12.out) (fun hHeld => ?_)
    clear hK K
    refine norm_ (a' := ?_) ?_ ?_
    rotate_left
    · show Act.put _ (some 186) _ = _
      simp only [Act.put, List.setIfInBounds_toArray, List.set_cons_zero, List.set_cons_succ]
      rfl
    refine pure_ (i := 17) (N := some 187) (v := ?_) (a' := ?_) #[true, true, true, true, true, true, true, true, true, true, true, true, true, true, true, true, true, true, false, false, false, false, false, false, false, false, false, false, false, false, false, false, false, false, false] rfl rfl (by kernel_rfl) (fun _ _ _ h => h) (Or.inl ⟨by rfl, ?_⟩) ?_ ?_
    rotate_left
    · intro w'
      go_simp
      try (with_reducible rfl)
    rotate_left
    · simp only [Act.put, List.setIfInBounds_toArray, List.set_cons_zero, List.set_cons_succ]
      rfl
    refine pure_ (i := 18) (N := some 188) (v := undef) (a' := ?_) #[true, true, true, true, true, true, true, true, true, true, true, true, true, true, true, true, true, true, true, false, false, false, false, false, false, false, false, false, false, false, false, false, false, false, false] rfl rfl (by kernel_rfl) (fun _ _ _ h => h) (Or.inr ⟨by rfl, rfl⟩) ?_ ?_
    rotate_left
    · simp only [Act.put, List.setIfInBounds_toArray, List.set_cons_zero, List.set_cons_succ]
      rfl
    refine pure_ (i := 19) (N := some 189) (v := undef) (a' := ?_) #[true, true, true, true, true, true, true, true, true, true, true, true, true, true, true, true, true, true, true, true, false, false, false, false, false, false, false, false, false, false, false, false, false, false, false] rfl rfl (by kernel_rfl) (fun _ _ _ h => h) (Or.inr ⟨by rfl, rfl⟩) ?_ ?_
    rotate_left
    · simp only [Act.put, List.setIfInBounds_toArray, List.set_cons_zero, List.set_cons_succ]
      rfl
    refine pure_ (i := 20) (N := some 190) (v := undef) (a' := ?_) #[true, true, true, true, true, true, true, true, true, true, true, true, true, true, true, true, true, true, true, true, true, false, false, false, false, false, false, false, false, false, false, false, false, false, false] rfl rfl (by kernel_rfl) (fun _ _ _ h => h) (Or.inr ⟨by rfl, rfl⟩) ?_ ?_
    rotate_left
    · simp only [Act.put, List.setIfInBounds_toArray, List.set_cons_zero, List.set_cons_succ]
      rfl
    refine pure_ (i := 21) (N := some 191) (v := undef) (a' := ?_) #[true, true, true, true, true, true, true, true, true, true, true, true, true, true, true, true, true, true, true, true, true, true, false, false, false, false, false, false, false, false, false, false, false, false, false] rfl rfl (by kernel_rfl) (fun _ _ _ h => h) (Or.inr ⟨by rfl, rfl⟩) ?_ ?_
    rotate_left
    · simp only [Act.put, List.setIfInBounds_toArray, List.set_cons_zero, List.set_cons_succ]
      rfl
    refine pure_ (i := 22) (N := some 192) (v := undef) (a' := ?_) #[true, true, true, true, true, true, true, true, true, true, true, true, true, true, true, true, true, true, true, true, true, true, true, false, false, false, false, false, false, false, false, false, false, false, false] rfl rfl (by kernel_rfl) (fun _ _ _ h => h) (Or.inr ⟨by rfl, rfl⟩) ?_ ?_
    rotate_left
    · simp only [Act.put, List.setIfInBounds_toArray, List.set_cons_zero, List.set_cons_succ]
      rfl
    refine pure_ (i := 23) (N := some 193) (v := undef) (a' := ?_) #[true, true, true, true, true, true, true, true, true, true, true, true, true, true, true, true, true, true, true, true, true, true, true, true, false, false, false, false, false, false, false, false, false, false, false] rfl rfl (by kernel_rfl) (fun _ _ _ h => h) (Or.inr ⟨by rfl, rfl⟩) ?_ ?_
    rotate_left
    · simp only [Act.put, List.setIfInBounds_toArray, List.set_cons_zero, List.set_cons_succ]
      rfl
    refine pure_ (i := 24) (N := some 194) (v := undef) (a' := ?_) #[true, true, true, true, true, true, true, true, true, true, true, true, true, true, true, true, true, true, true, true, true, true, true, true, true, false, false, false, false, false, false, false, false, false, false] rfl rfl (by kernel_rfl) (fun _ _ _ h => h) (Or.inr ⟨by rfl, rfl⟩) ?_ ?_
    rotate_left
    · simp only [Act.put, List.setIfInBounds_toArray, List.set_cons_zero, List.set_cons_succ]
      rfl
    refine pure_ (i := 25) (N := some 195) (v := undef) (a' := ?_) #[true, true, true, true, true, true, true, true, true, true, true, true, true, true, true, true, true, true, true, true, true, true, true, true, true, true, false, false, false, false, false, false, false, false, false] rfl rfl (by kernel_rfl) (fun _ _ _ h => h) (Or.inr ⟨by rfl, rfl⟩) ?_ ?_
    rotate_left
    · simp only [Act.put, List.setIfInBounds_toArray, List.set_cons_zero, List.set_cons_succ]
      rfl
    refine pure_ (i := 26) (N := some 196) (v := undef) (a' := ?_) #[true, true, true, true, true, true, true, true, true, true, true, true, true, true, true, true, true, true, true, true, true, true, true, true, true, true, true, false, false, false, false, false, false, false, false] rfl rfl (by kernel_rfl) (fun _ _ _ h => h) (Or.inr ⟨by rfl, rfl⟩) ?_ ?_
    rotate_left
    · simp only [Act.put, List.setIfInBounds_toArray, List.set_cons_zero, List.set_cons_succ]
      rfl
    refine pure_ (i := 27) (N := some 197) (v := undef) (a' := ?_) #[true, true, true, true, true, true, true, true, true, true, true, true, true, true, true, true, true, true, true, true, true, true, true, true, true, true, true, true, false, false, false, false, false, false, false] rfl rfl (by kernel_rfl) (fun _ _ _ h => h) (Or.inr ⟨by rfl, rfl⟩) ?_ ?_
    rotate_left
    · simp only [Act.put, List.setIfInBounds_toArray, List.set_cons_zero, List.set_cons_succ]
      rfl
    refine pure_ (i := 28) (N := some 198) (v := undef) (a' := ?_) #[true, true, true, true, true, true, true, true, true, true, true, true, true, true, true, true, true, true, true, true, true, true, true, true, true, true, true, true, true, false, false, false, false, false, false] rfl rfl (by kernel_rfl) (fun _ _ _ h => h) (Or.inr ⟨by rfl, rfl⟩) ?_ ?_
    rotate_left
    · simp only [Act.put, List.setIfInBounds_toArray, List.set_cons_zero, List.set_cons_succ]
      rfl
    refine pure_ (i := 29) (N := some 199) (v := undef) (a' := ?_) #[true, true, true, true, true, true, true, true, true, true, true, true, true, true, true, true, true, true, true, true, true, true, true, true, true, true, true, true, true, true, false, false, false, false, false] rfl rfl (by kernel_rfl) (fun _ _ _ h => h) (Or.inr ⟨by rfl, rfl⟩) ?_ ?_
    rotate_left
    · simp only [Act.put, List.setIfInBounds_toArray, List.set_cons_zero, List.set_cons_succ]
      rfl
    refine pure_ (i := 30) (N := some 200) (v := undef) (a' := ?_) #[true, true, true, true, true, true, true, true, true, true, true, true, true, true, true, true, true, true, true, true, true, true, true, true, true, true, true, true, true, true, true, false, false, false, false] rfl rfl (by kernel_rfl) (fun _ _ _ h => h) (Or.inr ⟨by rfl, rfl⟩) ?_ ?_
    rotate_left
    · simp only [Act.put, List.setIfInBounds_toArray, List.set_cons_zero, List.set_cons_succ]
      rfl
    refine pure_ (i := 31) (N := some 201) (v := undef) (a' := ?_) #[true, true, true, true, true, true, true, true, true, true, true, true, true, true, true, true, true, true, true, true, true, true, true, true, true, true, true, true, true, true, true, true, false, false, false] rfl rfl (by kernel_rfl) (fun _ _ _ h => h) (Or.inr ⟨by rfl, rfl⟩) ?_ ?_
    rotate_left
    · simp only [Act.put, List.setIfInBounds_toArray, List.set_cons_zero, List.set_cons_succ]
      rfl
    refine pure_ (i := 32) (N := some 202) (v := ?_) (a' := ?_) #[true, true, true, true, true, true, true, true, true, true, true, true, true, true, true, true, true, true, true, true, true, true, true, true, true, true, true, true, true, true, true, true, true, false, false] rfl rfl (by kernel_rfl) (fun _ _ _ h => h) (Or.inl ⟨by rfl, ?_⟩) ?_ ?_
    rotate_left
    · intro w'
      go_simp
      try (with_reducible rfl)
    rotate_left
    · simp only [Act.put, List.setIfInBounds_toArray, List.set_cons_zero, List.set_cons_succ]
      rfl
    refine pure_ (i := 33) (N := some 203) (v := ?_) (a' := ?_) #[true, true, true, true, true, true, true, true, true, true, true, true, true, true, true, true, true, true, true, true, true, true, true, true, true, true, true, true, true, true, true, true, true, true, false] rfl rfl (by kernel_rfl) (fun _ _ _ h => h) (Or.inl ⟨by rfl, ?_⟩) ?_ ?_
    rotate_left
    · intro w'
      go_simp
      try (with_reducible rfl)
    rotate_left
    · simp only [Act.put, List.setIfInBounds_toArray, List.set_cons_zero, List.set_cons_succ]
      rfl
    refine pure_ (i := 34) (N := some 11) (v := ?_) (a' := ?_) #[true, true, true, true, true, true, true, true, true, true, true, true, true, true, true, true, true, true, true, true, true, true, true, true, true, true, true, true, true, true, true, true, true, true, true] rfl rfl (by kernel_rfl) (fun _ _ _ h => h) (Or.inl ⟨by rfl, ?_⟩) ?_ ?_
    rotate_left
    · intro w'
      go_simp
      try (with_reducible rfl)
    rotate_left
    · simp only [Act.put, List.setIfInBounds_toArray, List.set_cons_zero, List.set_cons_succ]
      rfl
    refine done_ (by kernel_rfl) ?_
    refine NoPanic.normal ?_
    go_wp2_with (fail)
    refine HK.out _ _ _ _ _ _ _ _ _ _ _ _ _ _ _ _ _ _ _ _ _ _ _ _ _ _ _ _ _ _ _ _ _ _ _ _ _ _ _ _ _ _ _ _ _ _ _ _ _ _ _ _ _ _ _ _ _ _ _ _ _ _ _ _ _ _ _ _ _ _ _ _ _ _ _ _ _ _ _ _ _ _ _ _ _ _ _ _ _ _ _ _ _ _ _ _ _ _ _ _ _ _ _ _ _ _ _ _ _ _ _ _ _ _ _ _ _ _ _ _ _ _ _ _ _ _ _ _ _ _ _ _ _ _ _ _ _ _ _ _ _ _ _ _ _ _ _ _ _ _ _ _ _ _ _ _ _ _ _ _ _ _ _ _ _ _ _ ?_
    exact ⟨gl, gm, _, _, rfl, rfl, by first | rfl | simp, T12, ⟨HG1.out⟩, ⟨HOK1.out.mono (by omega)⟩⟩
end Go.Proofs.Ythaoaaboempajaa.Log
namespace Go.Proofs.Ythaoaaboempajaa.Log
open Go.RowKit Go.Maps Go.Proofs.Ythaoaaboempajaa.QLogRuns Go.Proofs.Ythaoaaboempajaa.QDiskRuns Go.Proofs.Ythaoaaboempajaa.Disk Go.Proofs.YthaoaaboempajaaW.PrintWords Go.Proofs.YthaoaaboempajaaW.PrintLast Go.Proofs.YthaoaaboempajaaW.PrintMore Go.Proofs.YthaoaaboempajaaX
set_option linter.unusedVariables false
set_option linter.unusedSimpArgs false
set_option maxHeartbeats 16000000 in
set_option maxRecDepth 100000 in
theorem step {c0 c1 c2 c6 c8 c9 c12 c13 c14 c15 c16 c17 c18 c19 c20 c21 c22 c23 c24 c25 c26 c27 c28 c29 c30 c31 c32 c33 c34 c35 c36 c37 c38 c39 c40 c41 c42 c43 c44 c45 c46 c48 c49 c50 c51 c52 c53 c54 c55 c56 c57 c58 c59 c60 c61 c62 c63 c64 c65 c66 c67 c68 c69 c70 c71 c72 c73 c74 c75 c76 c77 c78 c79 c80 c81 c82 c83 c84 c85 c86 c87 c88 c89 c90 c91 c92 c93 c94 c95 c96 c97 c98 c99 c100 c101 c102 c103 c104 c105 c106 c107 c108 c109 c110 c111 c112 c113 c114 c115 c116 c117 c118 c119 c120 c121 c122 c123 c124 c125 c126 c127 c128 c129 c130 c131 c132 c133 c134 c135 c136 c137 c138 c139 c140 c141 c142 c143 c144 c145 c146 c147 c148 c149 c150 c151 c152 c153 c154 c155 c156 c157 c158 c159 c160 c161 c162 c163 c164 c165 c166 c167 c168 c169 c170 c171 c172 c173 c174 c175 c176 c177 c178 c179 c180 c181 c182 c183 c184 c185 c186 c187 c188 c189 c190 c191 c192 c193 c194 c195 c196 c197 c198 c199 c200 c201 c202 c203 c204 c205 c206 c207 c208 c209 c210 c211 c212 c213 c214 c215 c216 c217 c218 c219 c220 c221 c222 c223 c224 c225 c226 c227 c228 c229 c230 c231 c232 c233 c234 c235 c236 c237 c238 c239 c240 c241 c242 c243 c244 c245 c246 c247 c248 c249 c250 c251 c252 c253 c254 c255 c256 c257 c258 c259 c260 c261 c262 c263 c264 c265 c266 c267 c268 c269 c270 c271 c272 c273 c274 c275 c276 : Value} {w w8 : World} {gd gr gl gm gb : Nat} {s : St} {g : Lg} {m : Nat} {k F At N : Int} {S : ByteArray} {A6 : Option Addr} {c6_ : Nat} {keep : List Int} {cs : Array Value} {K : Act → World → Prop} {Q : Exit → Act → World → Prop}
    (T8 : Aside0 (LS w w8 gd gl gr gm s g s g [(gb, .cells cs 77 (0, 0))])) (HG : Aside0 (Good s g)) (HOK : Aside0 (s.ok m)) (HD : Aside0 (s.d = false)) (HM : Aside0 (m ≤ 100000000)) (HNR : Aside0 (-9223372036854775808 ≤ N ∧ N < 9223372036854775808)) (HKL : Aside0 (keep.length ≤ 17592186043904)) (G6 : Aside0 ((Kd.int .i64).C w A6 keep.length keep))
    (HELD : Aside0 (∀ {w1 : World} {P Q : Part}, Bd w w1 P Q [(gb, .cells cs 77 (0, 0))] → w1.cell? ⟨gb, 1, none⟩ = some (.int .i64 F) ∧ w1.cell? ⟨gb, 2, none⟩ = some (.int .i64 At) ∧ w1.cell? ⟨gb, 3, none⟩ = some (.int .i64 N) ∧ w1.cell? ⟨gb, 4, none⟩ = some (.string S) ∧ w1.cell? ⟨gb, 6, none⟩ = some (.slice A6 keep.length c6_)))
    (HK : Aside0 (∀ (v5 v6 v7 v8 v11 v12 v13 v14 v15 v47 v48 v49 v50 v51 v52 v53 v54 v55 v56 v57 v58 v59 v60 v61 v62 v63 v64 v65 v66 v67 v68 v69 v70 v71 v72 v73 v74 v75 v76 v77 v78 v79 v80 v81 v82 v83 v84 v85 v86 v87 v88 v89 v90 v91 v92 v93 v94 v95 v96 v97 v98 v99 v100 v101 v102 v103 v104 v105 v106 v107 v108 v109 v110 v111 v112 v113 v114 v115 v116 v117 v118 v119 v120 v121 v122 v123 v124 v125 v126 v127 v128 v129 v130 v131 v132 v133 v134 v135 v136 v137 v138 v139 v140 v141 v142 v143 v144 v145 v146 v147 v148 v149 v150 v151 v152 v153 v154 v155 v156 v157 v158 v159 v160 v161 v162 v163 v164 v165 v166 v167 v168 v169 v170 v171 v172 v173 v174 v175 v176 v177 v178 v179 v180 v181 v182 v183 v184 v185 v186 v187 v188 v189 v190 v191 v192 v193 v194 v195 v196 v197 v198 v199 v200 v201 v202 v203 : Value) (wx : World), (∃ (gl' gm' : Nat) (s' : St) (g' : Lg), v5 = pv gl' ∧ v7 = pv gm' ∧ v11 = .bool true ∧ Aside0 (LS w wx gd gl' gr gm' s' g' s' g' [(gb, .cells cs 77 (0, 0))]) ∧ Aside0 (Good s' g') ∧ Aside0 (s'.ok (m + 65310))) → K ⟨#[c0, c1, c2, pv gd, pv gr, v5, v6, v7, v8, c9, pv gb, v11, v12, v13, v14, v15, c16, c17, c18, c19, c20, c21, c22, c23, c24, c25, c26, c27, c28, c29, c30, c31, c32, c33, c34, c35, c36, c37, c38, c39, c40, c41, c42, c43, c44, c45, c46, v47, v48, v49, v50, v51, v52, v53, v54, v55, v56, v57, v58, v59, v60, v61, v62, v63, v64, v65, v66, v67, v68, v69, v70, v71, v72, v73, v74, v75, v76, v77, v78, v79, v80, v81, v82, v83, v84, v85, v86, v87, v88, v89, v90, v91, v92, v93, v94, v95, v96, v97, v98, v99, v100, v101, v102, v103, v104, v105, v106, v107, v108, v109, v110, v111, v112, v113, v114, v115, v116, v117, v118, v119, v120, v121, v122, v123, v124, v125, v126, v127, v128, v129, v130, v131, v132, v133, v134, v135, v136, v137, v138, v139, v140, v141, v142, v143, v144, v145, v146, v147, v148, v149, v150, v151, v152, v153, v154, v155, v156, v157, v158, v159, v160, v161, v162, v163, v164, v165, v166, v167, v168, v169, v170, v171, v172, v173, v174, v175, v176, v177, v178, v179, v180, v181, v182, v183, v184, v185, v186, v187, v188, v189, v190, v191, v192, v193, v194, v195, v196, v197, v198, v199, v200, v201, v202, v203, c204, c205, c206, c207, c208, c209, c210, c211, c212, c213, c214, c215, c216, c217, c218, c219, c220, c221, c222, c223, c224, c225, c226, c227, c228, c229, c230, c231, c232, c233, c234, c235, c236, c237, c238, c239, c240, c241, c242, c243, c244, c245, c246, c247, c248, c249, c250, c251, c252, c253, c254, c255, c256, c257, c258, c259, c260, c261, c262, c263, c264, c265, c266, c267, c268, c269, c270, c271, c272, c273, c274, c275, c276], []⟩ wx)) :
    Code.wp Try.prog sw14 (Exit.then K Q) ⟨#[c0, c1, c2, pv gd, pv gr, pv gl, c6, pv gm, c8, c9, pv gb, .bool true, c12, c13, c14, c15, c16, c17, c18, c19, c20, c21, c22, c23, c24, c25, c26, c27, c28, c29, c30, c31, c32, c33, c34, c35, c36, c37, c38, c39, c40, c41, c42, c43, c44, c45, c46, .int .i64 k, c48, c49, c50, c51, c52, c53, c54, c55, c56, c57, c58, c59, c60, c61, c62, c63, c64, c65, c66, c67, c68, c69, c70, c71, c72, c73, c74, c75, c76, c77, c78, c79, c80, c81, c82, c83, c84, c85, c86, c87, c88, c89, c90, c91, c92, c93, c94, c95, c96, c97, c98, c99, c100, c101, c102, c103, c104, c105, c106, c107, c108, c109, c110, c111, c112, c113, c114, c115, c116, c117, c118, c119, c120, c121, c122, c123, c124, c125, c126, c127, c128, c129, c130, c131, c132, c133, c134, c135, c136, c137, c138, c139, c140, c141, c142, c143, c144, c145, c146, c147, c148, c149, c150, c151, c152, c153, c154, c155, c156, c157, c158, c159, c160, c161, c162, c163, c164, c165, c166, c167, c168, c169, c170, c171, c172, c173, c174, c175, c176, c177, c178, c179, c180, c181, c182, c183, c184, c185, c186, c187, c188, c189, c190, c191, c192, c193, c194, c195, c196, c197, c198, c199, c200, c201, c202, c203, c204, c205, c206, c207, c208, c209, c210, c211, c212, c213, c214, c215, c216, c217, c218, c219, c220, c221, c222, c223, c224, c225, c226, c227, c228, c229, c230, c231, c232, c233, c234, c235, c236, c237, c238, c239, c240, c241, c242, c243, c244, c245, c246, c247, c248, c249, c250, c251, c252, c253, c254, c255, c256, c257, c258, c259, c260, c261, c262, c263, c264, c265, c266, c267, c268, c269, c270, c271, c272, c273, c274, c275, c276], []⟩ w8 := by
  by_cases h1 : k = 1
  · exact step1 T8 HG HOK HD HM HNR HKL G6 HELD HK h1
  by_cases h2 : k = 2
  · exact step2 T8 HG HOK HD HM HNR HKL G6 HELD HK h2
  by_cases h3 : k = 3
  · exact step3 T8 HG HOK HD HM HNR HKL G6 HELD HK h3
  by_cases h4 : k = 4
  · exact step4 T8 HG HOK HD HM HNR HKL G6 HELD HK h4
  by_cases h5 : k = 5
  · exact step5 T8 HG HOK HD HM HNR HKL G6 HELD HK h5
  by_cases h6 : k = 6
  · exact step6 T8 HG HOK HD HM HNR HKL G6 HELD HK h6
  by_cases h7 : k = 7
  · exact step7 T8 HG HOK HD HM HNR HKL G6 HELD HK h7
  by_cases h8 : k = 8
  · exact step8 T8 HG HOK HD HM HNR HKL G6 HELD HK h8
  exact step9 T8 HG HOK HD HM HNR HKL G6 HELD HK h1 h2 h3 h4 h5 h6 h7 h8
end Go.Proofs.Ythaoaaboempajaa.Log
namespace Go.Proofs.Ythaoaaboempajaa.Log
open Go.RowKit Go.Maps Go.Proofs.Ythaoaaboempajaa.QLogRuns Go.Proofs.Ythaoaaboempajaa.QDiskRuns Go.Proofs.Ythaoaaboempajaa.Disk Go.Proofs.YthaoaaboempajaaW.PrintWords Go.Proofs.YthaoaaboempajaaW.PrintLast Go.Proofs.YthaoaaboempajaaW.PrintMore Go.Proofs.YthaoaaboempajaaX
set_option linter.unusedVariables false
set_option linter.unusedSimpArgs false
def behindBlock (n : Nat) : Code → Option Code
  | .loop c => behindBlock n c
  | .seq a b => match a with
    | .seq _ (.block i _) => if i = n then some b else match behindBlock n a with
      | some c => some c
      | none => behindBlock n b
    | _ => match behindBlock n a with
      | some c => some c
      | none => behindBlock n b
  | .block i c => behindBlock n c
  | .scope c => behindBlock n c
  | .cond _ a b => match behindBlock n a with
    | some c => some c
    | none => behindBlock n b
  | _ => none
noncomputable def rest14 : Code := (Try.f14.body.bind (behindBlock 2)).getD .skip
set_option maxHeartbeats 16000000 in
set_option maxRecDepth 100000 in
theorem restUp {c0 c1 c2 c6 c8 c9 c12 c13 c14 c15 c16 c17 c18 c19 c20 c21 c22 c23 c24 c25 c26 c27 c28 c29 c30 c31 c32 c33 c34 c35 c36 c37 c38 c39 c40 c41 c42 c43 c44 c45 c46 c47 c48 c49 c50 c51 c52 c53 c54 c55 c56 c57 c58 c59 c60 c61 c62 c63 c64 c65 c66 c67 c68 c69 c70 c71 c72 c73 c74 c75 c76 c77 c78 c79 c80 c81 c82 c83 c84 c85 c86 c87 c88 c89 c90 c91 c92 c93 c94 c95 c96 c97 c98 c99 c100 c101 c102 c103 c104 c105 c106 c107 c108 c109 c110 c111 c112 c113 c114 c115 c116 c117 c118 c119 c120 c121 c122 c123 c124 c125 c126 c127 c128 c129 c130 c131 c132 c133 c134 c135 c136 c137 c138 c139 c140 c141 c142 c143 c144 c145 c146 c147 c148 c149 c150 c151 c152 c153 c154 c155 c156 c157 c158 c159 c160 c161 c162 c163 c164 c165 c166 c167 c168 c169 c170 c171 c172 c173 c174 c175 c176 c177 c178 c179 c180 c181 c182 c183 c184 c185 c186 c187 c188 c189 c190 c191 c192 c193 c194 c195 c196 c197 c198 c199 c200 c201 c202 c203 c204 c205 c206 c207 c208 c209 c210 c211 c212 c213 c214 c215 c216 c217 c218 c219 c220 c221 c222 c223 c224 c225 c226 c227 c228 c229 c230 c231 c232 c233 c234 c235 c236 c237 c238 c239 c240 c241 c242 c243 c244 c245 c246 c247 c248 c249 c250 c251 c252 c253 c254 c255 c256 c257 c258 c259 c260 c261 c262 c263 c264 c265 c266 c267 c268 c269 c270 c271 c272 c273 c274 c275 c276 : Value} {w w8 : World} {gd gr gl gm gb : Nat} {s : St} {g : Lg} {m : Nat} {F At N : Int} {S : ByteArray} {A6 : Option Addr} {c6_ : Nat} {keep : List Int} {cs : Array Value} {Q : Exit → Act → World → Prop}
    (T8 : Aside0 (LS w w8 gd gl gr gm s g s g [(gb, .cells cs 77 (0, 0))])) (HG : Aside0 (Good s g)) (HOK : Aside0 (s.ok m)) (HM : Aside0 (m ≤ 99999000)) (HKL : Aside0 (keep.length ≤ 17592186043904)) (G6 : Aside0 ((Kd.int .i64).C w A6 keep.length keep))
    (HELD : Aside0 (∀ {w1 : World} {P Q : Part}, Bd w w1 P Q [(gb, .cells cs 77 (0, 0))] → w1.cell? ⟨gb, 1, none⟩ = some (.int .i64 F) ∧ w1.cell? ⟨gb, 2, none⟩ = some (.int .i64 At) ∧ w1.cell? ⟨gb, 3, none⟩ = some (.int .i64 N) ∧ w1.cell? ⟨gb, 4, none⟩ = some (.string S) ∧ w1.cell? ⟨gb, 6, none⟩ = some (.slice A6 keep.length c6_)))
    (HK : Aside0 (∀ (v5 v6 v7 v8 v16 v204 v205 v206 v207 v208 v209 v210 v211 v212 v213 v214 v215 v216 v217 v218 v219 v220 v221 v222 v223 v224 v225 v226 v227 v228 v229 v230 v231 v232 v233 v234 v235 v236 v237 v238 v239 v240 v241 v242 v243 v244 v245 v246 v247 v248 v249 v250 v251 v252 v253 v254 v255 v256 v257 v258 v259 v260 v261 v262 v263 v264 v265 v266 v267 v268 v269 v270 v271 v272 v273 v274 v275 : Value) (wx : World), (∃ (gl' gm' : Nat) (s' : St) (g' : Lg), v5 = pv gl' ∧ v7 = pv gm' ∧ Aside0 (LS w wx gd gl' gr gm' s' g' s' g' []) ∧ Aside0 (Good s' g') ∧ Aside0 (s'.ok (m + 10)) ∧ Aside0 (s'.d = false)) → Q .normal ⟨#[c0, c1, c2, pv gd, pv gr, v5, v6, v7, v8, c9, pv gb, .bool true, c12, c13, c14, c15, v16, c17, c18, c19, c20, c21, c22, c23, c24, c25, c26, c27, c28, c29, c30, c31, c32, c33, c34, c35, c36, c37, c38, c39, c40, c41, c42, c43, c44, c45, c46, c47, c48, c49, c50, c51, c52, c53, c54, c55, c56, c57, c58, c59, c60, c61, c62, c63, c64, c65, c66, c67, c68, c69, c70, c71, c72, c73, c74, c75, c76, c77, c78, c79, c80, c81, c82, c83, c84, c85, c86, c87, c88, c89, c90, c91, c92, c93, c94, c95, c96, c97, c98, c99, c100, c101, c102, c103, c104, c105, c106, c107, c108, c109, c110, c111, c112, c113, c114, c115, c116, c117, c118, c119, c120, c121, c122, c123, c124, c125, c126, c127, c128, c129, c130, c131, c132, c133, c134, c135, c136, c137, c138, c139, c140, c141, c142, c143, c144, c145, c146, c147, c148, c149, c150, c151, c152, c153, c154, c155, c156, c157, c158, c159, c160, c161, c162, c163, c164, c165, c166, c167, c168, c169, c170, c171, c172, c173, c174, c175, c176, c177, c178, c179, c180, c181, c182, c183, c184, c185, c186, c187, c188, c189, c190, c191, c192, c193, c194, c195, c196, c197, c198, c199, c200, c201, c202, c203, v204, v205, v206, v207, v208, v209, v210, v211, v212, v213, v214, v215, v216, v217, v218, v219, v220, v221, v222, v223, v224, v225, v226, v227, v228, v229, v230, v231, v232, v233, v234, v235, v236, v237, v238, v239, v240, v241, v242, v243, v244, v245, v246, v247, v248, v249, v250, v251, v252, v253, v254, v255, v256, v257, v258, v259, v260, v261, v262, v263, v264, v265, v266, v267, v268, v269, v270, v271, v272, v273, v274, v275, c276], []⟩ wx)) (hd : s.d = false) :
    Code.wp Try.prog rest14 Q ⟨#[c0, c1, c2, pv gd, pv gr, pv gl, c6, pv gm, c8, c9, pv gb, .bool true, c12, c13, c14, c15, c16, c17, c18, c19, c20, c21, c22, c23, c24, c25, c26, c27, c28, c29, c30, c31, c32, c33, c34, c35, c36, c37, c38, c39, c40, c41, c42, c43, c44, c45, c46, c47, c48, c49, c50, c51, c52, c53, c54, c55, c56, c57, c58, c59, c60, c61, c62, c63, c64, c65, c66, c67, c68, c69, c70, c71, c72, c73, c74, c75, c76, c77, c78, c79, c80, c81, c82, c83, c84, c85, c86, c87, c88, c89, c90, c91, c92, c93, c94, c95, c96, c97, c98, c99, c100, c101, c102, c103, c104, c105, c106, c107, c108, c109, c110, c111, c112, c113, c114, c115, c116, c117, c118, c119, c120, c121, c122, c123, c124, c125, c126, c127, c128, c129, c130, c131, c132, c133, c134, c135, c136, c137, c138, c139, c140, c141, c142, c143, c144, c145, c146, c147, c148, c149, c150, c151, c152, c153, c154, c155, c156, c157, c158, c159, c160, c161, c162, c163, c164, c165, c166, c167, c168, c169, c170, c171, c172, c173, c174, c175, c176, c177, c178, c179, c180, c181, c182, c183, c184, c185, c186, c187, c188, c189, c190, c191, c192, c193, c194, c195, c196, c197, c198, c199, c200, c201, c202, c203, c204, c205, c206, c207, c208, c209, c210, c211, c212, c213, c214, c215, c216, c217, c218, c219, c220, c221, c222, c223, c224, c225, c226, c227, c228, c229, c230, c231, c232, c233, c234, c235, c236, c237, c238, c239, c240, c241, c242, c243, c244, c245, c246, c247, c248, c249, c250, c251, c252, c253, c254, c255, c256, c257, c258, c259, c260, c261, c262, c263, c264, c265, c266, c267, c268, c269, c270, c271, c272, c273, c274, c275, c276], []⟩ w8 := by
  have HDN := Aside0.mk hd
  obtain ⟨Af, cf, pf⟩ := LS.rframes T8.out
  have TN := Aside0.mk (fun n => LS.below T8.out (pw_below_drewN (Below.refl _ w8) n))

  conv => arg 2; whnf
  go_upto_region 39 with (fail)
  go_quiet ((first
    | (go_at_call 72; exact Calls.quiet_of_same (LS.down (TN.out _)))
    | (go_at_call 86; exact Calls.quiet_of_same (LS.pages (TN.out _)))
    | (go_at_call 87; exact Calls.quiet_of_same (LS.rpages (TN.out _)))
    | (go_at_call 88; exact Calls.quiet_of_same (LS.frames (TN.out _)))))
  have T9 := Aside0.mk (TN.out nq)
  clear TN pf
  generalize w8.drewN nq = w9 at T9 ⊢
  go_wp2_with (first
    | (go_at_call 62; (with_reducible refine (LD.files (LS.disks T9.out) HOK.out (by have := HM.out; omega)).mono ?_); rintro e w10 ⟨rfl, hb⟩; have T10 := Aside0.mk (LS.below T9.out hb); clear hb)
    | (go_at_call 72; (with_reducible refine (LS.down T10.out).mono ?_); rw [HDN.out]; rintro e w11 ⟨rfl, rfl⟩))
  refine HK.out _ _ _ _ _ _ _ _ _ _ _ _ _ _ _ _ _ _ _ _ _ _ _ _ _ _ _ _ _ _ _ _ _ _ _ _ _ _ _ _ _ _ _ _ _ _ _ _ _ _ _ _ _ _ _ _ _ _ _ _ _ _ _ _ _ _ _ _ _ _ _ _ _ _ _ _ _ _ ?_
  exact ⟨gl, gm, s, g, rfl, rfl, ⟨Bd.mono T10.out (fun x hx => by cases hx)⟩, HG, ⟨HOK.out.mono (by omega)⟩, HDN⟩
set_option maxHeartbeats 16000000 in
set_option maxRecDepth 100000 in
theorem restDown {c0 c1 c2 c6 c8 c9 c12 c13 c14 c15 c16 c17 c18 c19 c20 c21 c22 c23 c24 c25 c26 c27 c28 c29 c30 c31 c32 c33 c34 c35 c36 c37 c38 c39 c40 c41 c42 c43 c44 c45 c46 c47 c48 c49 c50 c51 c52 c53 c54 c55 c56 c57 c58 c59 c60 c61 c62 c63 c64 c65 c66 c67 c68 c69 c70 c71 c72 c73 c74 c75 c76 c77 c78 c79 c80 c81 c82 c83 c84 c85 c86 c87 c88 c89 c90 c91 c92 c93 c94 c95 c96 c97 c98 c99 c100 c101 c102 c103 c104 c105 c106 c107 c108 c109 c110 c111 c112 c113 c114 c115 c116 c117 c118 c119 c120 c121 c122 c123 c124 c125 c126 c127 c128 c129 c130 c131 c132 c133 c134 c135 c136 c137 c138 c139 c140 c141 c142 c143 c144 c145 c146 c147 c148 c149 c150 c151 c152 c153 c154 c155 c156 c157 c158 c159 c160 c161 c162 c163 c164 c165 c166 c167 c168 c169 c170 c171 c172 c173 c174 c175 c176 c177 c178 c179 c180 c181 c182 c183 c184 c185 c186 c187 c188 c189 c190 c191 c192 c193 c194 c195 c196 c197 c198 c199 c200 c201 c202 c203 c204 c205 c206 c207 c208 c209 c210 c211 c212 c213 c214 c215 c216 c217 c218 c219 c220 c221 c222 c223 c224 c225 c226 c227 c228 c229 c230 c231 c232 c233 c234 c235 c236 c237 c238 c239 c240 c241 c242 c243 c244 c245 c246 c247 c248 c249 c250 c251 c252 c253 c254 c255 c256 c257 c258 c259 c260 c261 c262 c263 c264 c265 c266 c267 c268 c269 c270 c271 c272 c273 c274 c275 c276 : Value} {w w8 : World} {gd gr gl gm gb : Nat} {s : St} {g : Lg} {m : Nat} {F At N : Int} {S : ByteArray} {A6 : Option Addr} {c6_ : Nat} {keep : List Int} {cs : Array Value} {Q : Exit → Act → World → Prop}
    (T8 : Aside0 (LS w w8 gd gl gr gm s g s g [(gb, .cells cs 77 (0, 0))])) (HG : Aside0 (Good s g)) (HOK : Aside0 (s.ok m)) (HM : Aside0 (m ≤ 99999000)) (HKL : Aside0 (keep.length ≤ 17592186043904)) (G6 : Aside0 ((Kd.int .i64).C w A6 keep.length keep))
    (HELD : Aside0 (∀ {w1 : World} {P Q : Part}, Bd w w1 P Q [(gb, .cells cs 77 (0, 0))] → w1.cell? ⟨gb, 1, none⟩ = some (.int .i64 F) ∧ w1.cell? ⟨gb, 2, none⟩ = some (.int .i64 At) ∧ w1.cell? ⟨gb, 3, none⟩ = some (.int .i64 N) ∧ w1.cell? ⟨gb, 4, none⟩ = some (.string S) ∧ w1.cell? ⟨gb, 6, none⟩ = some (.slice A6 keep.length c6_)))
    (HK : Aside0 (∀ (v5 v6 v7 v8 v16 v204 v205 v206 v207 v208 v209 v210 v211 v212 v213 v214 v215 v216 v217 v218 v219 v220 v221 v222 v223 v224 v225 v226 v227 v228 v229 v230 v231 v232 v233 v234 v235 v236 v237 v238 v239 v240 v241 v242 v243 v244 v245 v246 v247 v248 v249 v250 v251 v252 v253 v254 v255 v256 v257 v258 v259 v260 v261 v262 v263 v264 v265 v266 v267 v268 v269 v270 v271 v272 v273 v274 v275 : Value) (wx : World), (∃ (gl' gm' : Nat) (s' : St) (g' : Lg), v5 = pv gl' ∧ v7 = pv gm' ∧ Aside0 (LS w wx gd gl' gr gm' s' g' s' g' []) ∧ Aside0 (Good s' g') ∧ Aside0 (s'.ok (m + 10)) ∧ Aside0 (s'.d = false)) → Q .normal ⟨#[c0, c1, c2, pv gd, pv gr, v5, v6, v7, v8, c9, pv gb, .bool true, c12, c13, c14, c15, v16, c17, c18, c19, c20, c21, c22, c23, c24, c25, c26, c27, c28, c29, c30, c31, c32, c33, c34, c35, c36, c37, c38, c39, c40, c41, c42, c43, c44, c45, c46, c47, c48, c49, c50, c51, c52, c53, c54, c55, c56, c57, c58, c59, c60, c61, c62, c63, c64, c65, c66, c67, c68, c69, c70, c71, c72, c73, c74, c75, c76, c77, c78, c79, c80, c81, c82, c83, c84, c85, c86, c87, c88, c89, c90, c91, c92, c93, c94, c95, c96, c97, c98, c99, c100, c101, c102, c103, c104, c105, c106, c107, c108, c109, c110, c111, c112, c113, c114, c115, c116, c117, c118, c119, c120, c121, c122, c123, c124, c125, c126, c127, c128, c129, c130, c131, c132, c133, c134, c135, c136, c137, c138, c139, c140, c141, c142, c143, c144, c145, c146, c147, c148, c149, c150, c151, c152, c153, c154, c155, c156, c157, c158, c159, c160, c161, c162, c163, c164, c165, c166, c167, c168, c169, c170, c171, c172, c173, c174, c175, c176, c177, c178, c179, c180, c181, c182, c183, c184, c185, c186, c187, c188, c189, c190, c191, c192, c193, c194, c195, c196, c197, c198, c199, c200, c201, c202, c203, v204, v205, v206, v207, v208, v209, v210, v211, v212, v213, v214, v215, v216, v217, v218, v219, v220, v221, v222, v223, v224, v225, v226, v227, v228, v229, v230, v231, v232, v233, v234, v235, v236, v237, v238, v239, v240, v241, v242, v243, v244, v245, v246, v247, v248, v249, v250, v251, v252, v253, v254, v255, v256, v257, v258, v259, v260, v261, v262, v263, v264, v265, v266, v267, v268, v269, v270, v271, v272, v273, v274, v275, c276], []⟩ wx)) (hd : s.d = true) :
    Code.wp Try.prog rest14 Q ⟨#[c0, c1, c2, pv gd, pv gr, pv gl, c6, pv gm, c8, c9, pv gb, .bool true, c12, c13, c14, c15, c16, c17, c18, c19, c20, c21, c22, c23, c24, c25, c26, c27, c28, c29, c30, c31, c32, c33, c34, c35, c36, c37, c38, c39, c40, c41, c42, c43, c44, c45, c46, c47, c48, c49, c50, c51, c52, c53, c54, c55, c56, c57, c58, c59, c60, c61, c62, c63, c64, c65, c66, c67, c68, c69, c70, c71, c72, c73, c74, c75, c76, c77, c78, c79, c80, c81, c82, c83, c84, c85, c86, c87, c88, c89, c90, c91, c92, c93, c94, c95, c96, c97, c98, c99, c100, c101, c102, c103, c104, c105, c106, c107, c108, c109, c110, c111, c112, c113, c114, c115, c116, c117, c118, c119, c120, c121, c122, c123, c124, c125, c126, c127, c128, c129, c130, c131, c132, c133, c134, c135, c136, c137, c138, c139, c140, c141, c142, c143, c144, c145, c146, c147, c148, c149, c150, c151, c152, c153, c154, c155, c156, c157, c158, c159, c160, c161, c162, c163, c164, c165, c166, c167, c168, c169, c170, c171, c172, c173, c174, c175, c176, c177, c178, c179, c180, c181, c182, c183, c184, c185, c186, c187, c188, c189, c190, c191, c192, c193, c194, c195, c196, c197, c198, c199, c200, c201, c202, c203, c204, c205, c206, c207, c208, c209, c210, c211, c212, c213, c214, c215, c216, c217, c218, c219, c220, c221, c222, c223, c224, c225, c226, c227, c228, c229, c230, c231, c232, c233, c234, c235, c236, c237, c238, c239, c240, c241, c242, c243, c244, c245, c246, c247, c248, c249, c250, c251, c252, c253, c254, c255, c256, c257, c258, c259, c260, c261, c262, c263, c264, c265, c266, c267, c268, c269, c270, c271, c272, c273, c274, c275, c276], []⟩ w8 := by
  have HDN := Aside0.mk hd
  obtain ⟨g1, ho, hgood, hok1, hd1⟩ := opened (HOK.out.crashed (keep := keep)) rfl rfl
  have HO1 := Aside0.mk ho
  have HG1 := Aside0.mk hgood
  have HOK1 := Aside0.mk hok1
  have HD1 := Aside0.mk hd1
  clear ho hgood hok1 hd1
  conv => arg 2; whnf
  go_upto_region 39 with (fail)
  refine wp_region_noPanic ?_
  refine start_ (n := 20) (S := fun _ => True) (ds := []) #[false, false, false, false, false, false, false, false, false, false, false, false, false, false, false, false, false, false, false, false] (by kernel_rfl) rfl rfl trivial (fun hHeld => ?_)
  have T9 := Aside0.mk (LS.drew T8.out)
  generalize w8.drew = w9 at T9 ⊢
  refine pure_ (i := 0) (N := some 211) (v := ?_) (a' := ?_) #[true, false, false, false, false, false, false, false, false, false, false, false, false, false, false, false, false, false, false, false] rfl rfl (by kernel_rfl) (fun _ _ _ h => h) (Or.inl ⟨by rfl, ?_⟩) ?_ ?_
  rotate_left
  · intro w'
    go_simp
    try (with_reducible rfl)
  rotate_left
  · simp only [Act.put, List.setIfInBounds_toArray, List.set_cons_zero, List.set_cons_succ]
    rfl
  refine one_ (i := 1) (N := some 212) #[true, true, false, false, false, false, false, false, false, false, false, false, false, false, false, false, false, false, false, false] rfl rfl (by kernel_rfl) (by decide) (fun K hK => ?_)
  refine goes_ Try.func72 (by kernel_rfl) rfl #[pv gd] (by rfl) rfl rfl (by (try simp only [List.map_toArray, List.map_cons, List.map_nil]); first | done | rfl) ?_
  have hc := LS.down T9.out
  rw [HDN.out] at hc
  refine hc.mono ?_
  rintro e w10 ⟨rfl, rfl⟩
  refine ⟨_, rfl, ?_⟩
  clear hc
  refine hK.out _ _ trivial (fun hHeld => ?_)
  clear hK K
  refine norm_ (a' := ?_) ?_ ?_
  rotate_left
  · show Act.put _ (some 212) _ = _
    simp only [Act.put, List.setIfInBounds_toArray, List.set_cons_zero, List.set_cons_succ]
    rfl
  refine pure_ (i := 2) (N := some 213) (v := ?_) (a' := ?_) #[true, true, true, false, false, false, false, false, false, false, false, false, false, false, false, false, false, false, false, false] rfl rfl (by kernel_rfl) (fun _ _ _ h => h) (Or.inl ⟨by rfl, ?_⟩) ?_ ?_
  rotate_left
  · intro w'
    go_simp
    try (with_reducible rfl)
  rotate_left
  · simp only [Act.put, List.setIfInBounds_toArray, List.set_cons_zero, List.set_cons_succ]
    rfl
  refine pure_ (i := 3) (N := some 214) (v := undef) (a' := ?_) #[true, true, true, true, false, false, false, false, false, false, false, false, false, false, false, false, false, false, false, false] rfl rfl (by kernel_rfl) (fun _ _ _ h => h) (Or.inr ⟨by rfl, rfl⟩) ?_ ?_
  rotate_left
  · simp only [Act.put, List.setIfInBounds_toArray, List.set_cons_zero, List.set_cons_succ]
    rfl
  refine pure_ (i := 4) (N := some 215) (v := undef) (a' := ?_) #[true, true, true, true, true, false, false, false, false, false, false, false, false, false, false, false, false, false, false, false] rfl rfl (by kernel_rfl) (fun _ _ _ h => h) (Or.inr ⟨by rfl, rfl⟩) ?_ ?_
  rotate_left
  · simp only [Act.put, List.setIfInBounds_toArray, List.set_cons_zero, List.set_cons_succ]
    rfl
  refine pure_ (i := 5) (N := some 216) (v := undef) (a' := ?_) #[true, true, true, true, true, true, false, false, false, false, false, false, false, false, false, false, false, false, false, false] rfl rfl (by kernel_rfl) (fun _ _ _ h => h) (Or.inr ⟨by rfl, rfl⟩) ?_ ?_
  rotate_left
  · simp only [Act.put, List.setIfInBounds_toArray, List.set_cons_zero, List.set_cons_succ]
    rfl
  refine pure_ (i := 6) (N := some 217) (v := undef) (a' := ?_) #[true, true, true, true, true, true, true, false, false, false, false, false, false, false, false, false, false, false, false, false] rfl rfl (by kernel_rfl) (fun _ _ _ h => h) (Or.inr ⟨by rfl, rfl⟩) ?_ ?_
  rotate_left
  · simp only [Act.put, List.setIfInBounds_toArray, List.set_cons_zero, List.set_cons_succ]
    rfl
  refine pure_ (i := 7) (N := some 218) (v := undef) (a' := ?_) #[true, true, true, true, true, true, true, true, false, false, false, false, false, false, false, false, false, false, false, false] rfl rfl (by kernel_rfl) (fun _ _ _ h => h) (Or.inr ⟨by rfl, rfl⟩) ?_ ?_
  rotate_left
  · simp only [Act.put, List.setIfInBounds_toArray, List.set_cons_zero, List.set_cons_succ]
    rfl
  refine pure_ (i := 8) (N := some 219) (v := undef) (a' := ?_) #[true, true, true, true, true, true, true, true, true, false, false, false, false, false, false, false, false, false, false, false] rfl rfl (by kernel_rfl) (fun _ _ _ h => h) (Or.inr ⟨by rfl, rfl⟩) ?_ ?_
  rotate_left
  · simp only [Act.put, List.setIfInBounds_toArray, List.set_cons_zero, List.set_cons_succ]
    rfl
  refine pure_ (i := 9) (N := some 220) (v := undef) (a' := ?_) #[true, true, true, true, true, true, true, true, true, true, false, false, false, false, false, false, false, false, false, false] rfl rfl (by kernel_rfl) (fun _ _ _ h => h) (Or.inr ⟨by rfl, rfl⟩) ?_ ?_
  rotate_left
  · simp only [Act.put, List.setIfInBounds_toArray, List.set_cons_zero, List.set_cons_succ]
    rfl
  refine pure_ (i := 10) (N := some 221) (v := undef) (a' := ?_) #[true, true, true, true, true, true, true, true, true, true, true, false, false, false, false, false, false, false, false, false] rfl rfl (by kernel_rfl) (fun _ _ _ h => h) (Or.inr ⟨by rfl, rfl⟩) ?_ ?_
  rotate_left
  · simp only [Act.put, List.setIfInBounds_toArray, List.set_cons_zero, List.set_cons_succ]
    rfl
  refine pure_ (i := 11) (N := some 222) (v := undef) (a' := ?_) #[true, true, true, true, true, true, true, true, true, true, true, true, false, false, false, false, false, false, false, false] rfl rfl (by kernel_rfl) (fun _ _ _ h => h) (Or.inr ⟨by rfl, rfl⟩) ?_ ?_
  rotate_left
  · simp only [Act.put, List.setIfInBounds_toArray, List.set_cons_zero, List.set_cons_succ]
    rfl
  refine pure_ (i := 12) (N := some 223) (v := undef) (a' := ?_) #[true, true, true, true, true, true, true, true, true, true, true, true, true, false, false, false, false, false, false, false] rfl rfl (by kernel_rfl) (fun _ _ _ h => h) (Or.inr ⟨by rfl, rfl⟩) ?_ ?_
  rotate_left
  · simp only [Act.put, List.setIfInBounds_toArray, List.set_cons_zero, List.set_cons_succ]
    rfl
  refine pure_ (i := 13) (N := some 224) (v := undef) (a' := ?_) #[true, true, true, true, true, true, true, true, true, true, true, true, true, true, false, false, false, false, false, false] rfl rfl (by kernel_rfl) (fun _ _ _ h => h) (Or.inr ⟨by rfl, rfl⟩) ?_ ?_
  rotate_left
  · simp only [Act.put, List.setIfInBounds_toArray, List.set_cons_zero, List.set_cons_succ]
    rfl
  refine pure_ (i := 14) (N := some 225) (v := undef) (a' := ?_) #[true, true, true, true, true, true, true, true, true, true, true, true, true, true, true, false, false, false, false, false] rfl rfl (by kernel_rfl) (fun _ _ _ h => h) (Or.inr ⟨by rfl, rfl⟩) ?_ ?_
  rotate_left
  · simp only [Act.put, List.setIfInBounds_toArray, List.set_cons_zero, List.set_cons_succ]
    rfl
  refine pure_ (i := 15) (N := some 226) (v := undef) (a' := ?_) #[true, true, true, true, true, true, true, true, true, true, true, true, true, true, true, true, false, false, false, false] rfl rfl (by kernel_rfl) (fun _ _ _ h => h) (Or.inr ⟨by rfl, rfl⟩) ?_ ?_
  rotate_left
  · simp only [Act.put, List.setIfInBounds_toArray, List.set_cons_zero, List.set_cons_succ]
    rfl
  refine pure_ (i := 16) (N := some 227) (v := undef) (a' := ?_) #[true, true, true, true, true, true, true, true, true, true, true, true, true, true, true, true, true, false, false, false] rfl rfl (by kernel_rfl) (fun _ _ _ h => h) (Or.inr ⟨by rfl, rfl⟩) ?_ ?_
  rotate_left
  · simp only [Act.put, List.setIfInBounds_toArray, List.set_cons_zero, List.set_cons_succ]
    rfl
  refine pure_ (i := 17) (N := some 228) (v := undef) (a' := ?_) #[true, true, true, true, true, true, true, true, true, true, true, true, true, true, true, true, true, true, false, false] rfl rfl (by kernel_rfl) (fun _ _ _ h => h) (Or.inr ⟨by rfl, rfl⟩) ?_ ?_
  rotate_left
  · simp only [Act.put, List.setIfInBounds_toArray, List.set_cons_zero, List.set_cons_succ]
    rfl
  refine pure_ (i := 18) (N := some 229) (v := ?_) (a' := ?_) #[true, true, true, true, true, true, true, true, true, true, true, true, true, true, true, true, true, true, true, false] rfl rfl (by kernel_rfl) (fun _ _ _ h => h) (Or.inl ⟨by rfl, ?_⟩) ?_ ?_
  rotate_left
  · intro w'
    go_simp
    try (with_reducible rfl)
  rotate_left
  · simp only [Act.put, List.setIfInBounds_toArray, List.set_cons_zero, List.set_cons_succ]
    rfl
  refine pure_ (i := 19) (N := some 16) (v := ?_) (a' := ?_) #[true, true, true, true, true, true, true, true, true, true, true, true, true, true, true, true, true, true, true, true] rfl rfl (by kernel_rfl) (fun _ _ _ h => h) (Or.inl ⟨by rfl, ?_⟩) ?_ ?_
  rotate_left
  · intro w'
    go_simp
    try (with_reducible rfl)
  rotate_left
  · simp only [Act.put, List.setIfInBounds_toArray, List.set_cons_zero, List.set_cons_succ]
    rfl
  refine done_ (by kernel_rfl) ?_
  refine NoPanic.normal ?_
  go_upto_region 43 with (first
    | (go_at_call 62; (with_reducible refine (LD.files (LS.disks T9.out) HOK.out (by have := HM.out; omega)).mono ?_); rintro e w10 ⟨rfl, hb⟩; have T10 := Aside0.mk (LS.below T9.out hb); clear hb)
    | (go_at_call 72; (with_reducible refine (LS.down T10.out).mono ?_); rw [HDN.out]; rintro e w11 ⟨rfl, rfl⟩))
  obtain ⟨-, -, -, -, c6⟩ := HELD.out T10.out
  go_wp2_with (first
    | (go_at_call 73; (with_reducible refine (LD.crash (LS.disks T10.out) HOK.out (by have := HM.out; omega) A6 c6_ keep G6.out (by have := HKL.out; omega)).mono ?_); rintro e w12 ⟨rfl, h⟩; have T12 := Aside0.mk h; clear h; obtain ⟨-, -, -, -, c69⟩ := HELD.out T12.out)
    | (go_at_call 85; (with_reducible refine (LD.rcrash T12.out HOK.out (by have := HM.out; omega) A6 c6_ keep G6.out (by have := HKL.out; omega)).mono ?_); rintro e w13 ⟨rfl, h⟩; have T13 := Aside0.mk h; clear h)
    | (go_at_call 63; (with_reducible refine (LD.open_ T13.out HOK.out.crashed (by have := HM.out; omega) HO1.out).mono ?_); rintro e w14 ⟨gl1, rfl, h⟩; have T14 := Aside0.mk h; clear h)
    | (go_at_call 76; (with_reducible refine (LO.ropen T14.out HOK.out.crashed (by have := HM.out; omega) HO1.out).mono ?_); rintro e w15 ⟨gm1, rfl, h⟩; have T15 := Aside0.mk h; clear h)
    | (go_at_call 15; (with_reducible refine (relstorelaw_num.calls 0 0 _ rfl).mono ?_); rintro e w16 ⟨rfl, hb⟩; have T16 := Aside0.mk (LS.below T15.out hb.below); clear hb)
    | (go_at_call 62; (with_reducible refine (LD.files (LS.disks T16.out) HOK1.out (by have := HM.out; omega)).mono ?_); rintro e w17 ⟨rfl, hb⟩; have T17 := Aside0.mk (LS.below T16.out hb); clear hb))
  refine HK.out _ _ _ _ _ _ _ _ _ _ _ _ _ _ _ _ _ _ _ _ _ _ _ _ _ _ _ _ _ _ _ _ _ _ _ _ _ _ _ _ _ _ _ _ _ _ _ _ _ _ _ _ _ _ _ _ _ _ _ _ _ _ _ _ _ _ _ _ _ _ _ _ _ _ _ _ _ _ ?_
  exact ⟨gl1, gm1, _, g1, rfl, rfl, ⟨Bd.mono T17.out (fun x hx => by cases hx)⟩, HG1, ⟨HOK1.out.mono (by omega)⟩, HD1⟩
set_option maxHeartbeats 16000000 in
set_option maxRecDepth 100000 in
theorem rest_ {c0 c1 c2 c6 c8 c9 c12 c13 c14 c15 c16 c17 c18 c19 c20 c21 c22 c23 c24 c25 c26 c27 c28 c29 c30 c31 c32 c33 c34 c35 c36 c37 c38 c39 c40 c41 c42 c43 c44 c45 c46 c47 c48 c49 c50 c51 c52 c53 c54 c55 c56 c57 c58 c59 c60 c61 c62 c63 c64 c65 c66 c67 c68 c69 c70 c71 c72 c73 c74 c75 c76 c77 c78 c79 c80 c81 c82 c83 c84 c85 c86 c87 c88 c89 c90 c91 c92 c93 c94 c95 c96 c97 c98 c99 c100 c101 c102 c103 c104 c105 c106 c107 c108 c109 c110 c111 c112 c113 c114 c115 c116 c117 c118 c119 c120 c121 c122 c123 c124 c125 c126 c127 c128 c129 c130 c131 c132 c133 c134 c135 c136 c137 c138 c139 c140 c141 c142 c143 c144 c145 c146 c147 c148 c149 c150 c151 c152 c153 c154 c155 c156 c157 c158 c159 c160 c161 c162 c163 c164 c165 c166 c167 c168 c169 c170 c171 c172 c173 c174 c175 c176 c177 c178 c179 c180 c181 c182 c183 c184 c185 c186 c187 c188 c189 c190 c191 c192 c193 c194 c195 c196 c197 c198 c199 c200 c201 c202 c203 c204 c205 c206 c207 c208 c209 c210 c211 c212 c213 c214 c215 c216 c217 c218 c219 c220 c221 c222 c223 c224 c225 c226 c227 c228 c229 c230 c231 c232 c233 c234 c235 c236 c237 c238 c239 c240 c241 c242 c243 c244 c245 c246 c247 c248 c249 c250 c251 c252 c253 c254 c255 c256 c257 c258 c259 c260 c261 c262 c263 c264 c265 c266 c267 c268 c269 c270 c271 c272 c273 c274 c275 c276 : Value} {w w8 : World} {gd gr gl gm gb : Nat} {s : St} {g : Lg} {m : Nat} {F At N : Int} {S : ByteArray} {A6 : Option Addr} {c6_ : Nat} {keep : List Int} {cs : Array Value} {Q : Exit → Act → World → Prop}
    (T8 : Aside0 (LS w w8 gd gl gr gm s g s g [(gb, .cells cs 77 (0, 0))])) (HG : Aside0 (Good s g)) (HOK : Aside0 (s.ok m)) (HM : Aside0 (m ≤ 99999000)) (HKL : Aside0 (keep.length ≤ 17592186043904)) (G6 : Aside0 ((Kd.int .i64).C w A6 keep.length keep))
    (HELD : Aside0 (∀ {w1 : World} {P Q : Part}, Bd w w1 P Q [(gb, .cells cs 77 (0, 0))] → w1.cell? ⟨gb, 1, none⟩ = some (.int .i64 F) ∧ w1.cell? ⟨gb, 2, none⟩ = some (.int .i64 At) ∧ w1.cell? ⟨gb, 3, none⟩ = some (.int .i64 N) ∧ w1.cell? ⟨gb, 4, none⟩ = some (.string S) ∧ w1.cell? ⟨gb, 6, none⟩ = some (.slice A6 keep.length c6_)))
    (HK : Aside0 (∀ (v5 v6 v7 v8 v16 v204 v205 v206 v207 v208 v209 v210 v211 v212 v213 v214 v215 v216 v217 v218 v219 v220 v221 v222 v223 v224 v225 v226 v227 v228 v229 v230 v231 v232 v233 v234 v235 v236 v237 v238 v239 v240 v241 v242 v243 v244 v245 v246 v247 v248 v249 v250 v251 v252 v253 v254 v255 v256 v257 v258 v259 v260 v261 v262 v263 v264 v265 v266 v267 v268 v269 v270 v271 v272 v273 v274 v275 : Value) (wx : World), (∃ (gl' gm' : Nat) (s' : St) (g' : Lg), v5 = pv gl' ∧ v7 = pv gm' ∧ Aside0 (LS w wx gd gl' gr gm' s' g' s' g' []) ∧ Aside0 (Good s' g') ∧ Aside0 (s'.ok (m + 10)) ∧ Aside0 (s'.d = false)) → Q .normal ⟨#[c0, c1, c2, pv gd, pv gr, v5, v6, v7, v8, c9, pv gb, .bool true, c12, c13, c14, c15, v16, c17, c18, c19, c20, c21, c22, c23, c24, c25, c26, c27, c28, c29, c30, c31, c32, c33, c34, c35, c36, c37, c38, c39, c40, c41, c42, c43, c44, c45, c46, c47, c48, c49, c50, c51, c52, c53, c54, c55, c56, c57, c58, c59, c60, c61, c62, c63, c64, c65, c66, c67, c68, c69, c70, c71, c72, c73, c74, c75, c76, c77, c78, c79, c80, c81, c82, c83, c84, c85, c86, c87, c88, c89, c90, c91, c92, c93, c94, c95, c96, c97, c98, c99, c100, c101, c102, c103, c104, c105, c106, c107, c108, c109, c110, c111, c112, c113, c114, c115, c116, c117, c118, c119, c120, c121, c122, c123, c124, c125, c126, c127, c128, c129, c130, c131, c132, c133, c134, c135, c136, c137, c138, c139, c140, c141, c142, c143, c144, c145, c146, c147, c148, c149, c150, c151, c152, c153, c154, c155, c156, c157, c158, c159, c160, c161, c162, c163, c164, c165, c166, c167, c168, c169, c170, c171, c172, c173, c174, c175, c176, c177, c178, c179, c180, c181, c182, c183, c184, c185, c186, c187, c188, c189, c190, c191, c192, c193, c194, c195, c196, c197, c198, c199, c200, c201, c202, c203, v204, v205, v206, v207, v208, v209, v210, v211, v212, v213, v214, v215, v216, v217, v218, v219, v220, v221, v222, v223, v224, v225, v226, v227, v228, v229, v230, v231, v232, v233, v234, v235, v236, v237, v238, v239, v240, v241, v242, v243, v244, v245, v246, v247, v248, v249, v250, v251, v252, v253, v254, v255, v256, v257, v258, v259, v260, v261, v262, v263, v264, v265, v266, v267, v268, v269, v270, v271, v272, v273, v274, v275, c276], []⟩ wx)) :
    Code.wp Try.prog rest14 Q ⟨#[c0, c1, c2, pv gd, pv gr, pv gl, c6, pv gm, c8, c9, pv gb, .bool true, c12, c13, c14, c15, c16, c17, c18, c19, c20, c21, c22, c23, c24, c25, c26, c27, c28, c29, c30, c31, c32, c33, c34, c35, c36, c37, c38, c39, c40, c41, c42, c43, c44, c45, c46, c47, c48, c49, c50, c51, c52, c53, c54, c55, c56, c57, c58, c59, c60, c61, c62, c63, c64, c65, c66, c67, c68, c69, c70, c71, c72, c73, c74, c75, c76, c77, c78, c79, c80, c81, c82, c83, c84, c85, c86, c87, c88, c89, c90, c91, c92, c93, c94, c95, c96, c97, c98, c99, c100, c101, c102, c103, c104, c105, c106, c107, c108, c109, c110, c111, c112, c113, c114, c115, c116, c117, c118, c119, c120, c121, c122, c123, c124, c125, c126, c127, c128, c129, c130, c131, c132, c133, c134, c135, c136, c137, c138, c139, c140, c141, c142, c143, c144, c145, c146, c147, c148, c149, c150, c151, c152, c153, c154, c155, c156, c157, c158, c159, c160, c161, c162, c163, c164, c165, c166, c167, c168, c169, c170, c171, c172, c173, c174, c175, c176, c177, c178, c179, c180, c181, c182, c183, c184, c185, c186, c187, c188, c189, c190, c191, c192, c193, c194, c195, c196, c197, c198, c199, c200, c201, c202, c203, c204, c205, c206, c207, c208, c209, c210, c211, c212, c213, c214, c215, c216, c217, c218, c219, c220, c221, c222, c223, c224, c225, c226, c227, c228, c229, c230, c231, c232, c233, c234, c235, c236, c237, c238, c239, c240, c241, c242, c243, c244, c245, c246, c247, c248, c249, c250, c251, c252, c253, c254, c255, c256, c257, c258, c259, c260, c261, c262, c263, c264, c265, c266, c267, c268, c269, c270, c271, c272, c273, c274, c275, c276], []⟩ w8 := by
  cases hd : s.d with
  | false => exact restUp T8 HG HOK HM HKL G6 HELD HK hd
  | true => exact restDown T8 HG HOK HM HKL G6 HELD HK hd
end Go.Proofs.Ythaoaaboempajaa.Log
namespace Go.Proofs.Ythaoaaboempajaa.Log
open Go.RowKit Go.Maps Go.Proofs.Ythaoaaboempajaa.QLogRuns Go.Proofs.Ythaoaaboempajaa.QDiskRuns Go.Proofs.Ythaoaaboempajaa.Disk Go.Proofs.YthaoaaboempajaaW.PrintWords Go.Proofs.YthaoaaboempajaaW.PrintLast Go.Proofs.YthaoaaboempajaaW.PrintMore Go.Proofs.YthaoaaboempajaaX
set_option linter.unusedVariables false
set_option linter.unusedSimpArgs false
theorem LD.start {w w1 w2 : World} {gd gr : Nat} (D1 : DD w1 w.heap.size gd (fun k => w.heap.size ≤ k) St.new) (B1 : Below w.heap.size w w1) (D2 : RD w2 w.heap.size gr (fun k => w1.heap.size ≤ k) St.new) (B2 : Below w1.heap.size w1 w2) : LD w w2 gd gr St.new St.new [] :=
  ⟨below_step B1 B2, fun k => w.heap.size ≤ k, ⟨fun k => (w.heap.size ≤ k) ∧ w.heap.size ≤ k ∧ k < w1.heap.size, fun k => (w1.heap.size ≤ k) ∧ w.heap.size ≤ k ∧ k < w2.heap.size,
    DX.apart (DX.narrow2 D1) (S := fun _ => False) (Kept.of_below B2 _) (fun _ _ h => h), RD.narrow2 D2, fun k hk => hk.1, fun k hk => hk.2.1,
    fun k h1 h2 => absurd h1.2.2 (Nat.not_lt.mpr h2.1), fun k hk => ⟨hk.2.1, Nat.lt_of_lt_of_le hk.2.2 B2.size⟩, fun k hk => hk.2⟩, fun x hx => by cases hx⟩
set_option maxHeartbeats 8000000 in
set_option maxRecDepth 100000 in
theorem LogRuns.calls (A : Option Addr) (c : Nat) (l : List S77) (w : World) (hr : Kd.C k77 w A l.length l) (hc : l.length ≤ c) (hl : l.length ≤ 4611686018427387904) (hx : ∀ x ∈ l, (-9223372036854775808 ≤ x.f3 ∧ x.f3 < 9223372036854775808) ∧ x.f6.length ≤ 17592186043904) :
    Calls Try.prog 14 #[.slice A l.length c] w fun e w' => e = .returned (.bool true) ∧ Below w.heap.size w w' := by
  have HR := Aside0.mk hr
  have HCC := Aside0.mk hc
  have HL := Aside0.mk hl
  have HXX := Aside0.mk hx
  clear hr hc hl hx
  obtain ⟨g0, ho, hgood, hok0, hd0⟩ := opened St.new_ok (show St.new.f = -1 from rfl) (show St.new.d = false from rfl)
  have HO0 := Aside0.mk ho
  have HG0 := Aside0.mk hgood
  have HOK0 := Aside0.mk hok0
  have HD0 := Aside0.mk hd0
  clear ho hgood hok0 hd0
  go_enter Try.func14, Try.ntmps14
  go_upto_region 4 with (first
    | (go_at_call 58; (refine (new.calls w _ (Below.refl _ w)).mono ?_); rintro e1 w1 ⟨gd, rfl, hgd, hD, hb⟩; have D1 := Aside0.mk hD; have B1 := Aside0.mk hb; clear hgd hD hb)
    | (go_at_call 59; (refine (newDisk.calls w _ B1.out).mono ?_); rintro e2 w2 ⟨gr, rfl, hgr, hD, hb⟩; have D2 := Aside0.mk hD; have B2 := Aside0.mk hb; clear hgr hD hb))
  have T2 := Aside0.mk (LD.start D1.out B1.out D2.out B2.out)
  clear D1 B1 D2 B2
  go_upto_region 8 with (first
    | (go_at_call 63; (refine (LD.open_ T2.out St.new_ok (by decide) HO0.out).mono ?_); rintro e3 w3 ⟨gl, rfl, h3⟩; have T3 := Aside0.mk h3; clear h3)
    | (go_at_call 76; (refine (LO.ropen T3.out St.new_ok (by decide) HO0.out).mono ?_); rintro e4 w4 ⟨gm, rfl, h4⟩; have T4 := Aside0.mk h4; clear h4)
    | (go_at_call 15; (refine (relstorelaw_num.calls 0 0 _ rfl).mono ?_); rintro e5 w5 ⟨rfl, h5⟩; have T5 := Aside0.mk (LS.below T4.out h5.below); clear h5))
  clear T2 T3 T4
  obtain ⟨s0, hs0⟩ : ∃ s0, s0 = (openP St.new).2.1 := ⟨_, rfl⟩
  rw [← hs0] at T5 HG0 HOK0 HD0
  clear hs0 HO0
  go_wp2_with (go_at_call 60; (refine (short.calls A l.length c _ HL.out HCC.out).mono ?_); rintro e6 w6 ⟨rfl, rfl⟩)
  have HN := Aside0.mk (show min l.length 250 ≤ l.length ∧ min l.length 250 ≤ 250 by omega)
  generalize min l.length 250 = n at HN ⊢
  go_loopw [5, 7, 42] (fun v5 v7 v42 wr => ∃ (gl gm j : Nat) (s : St) (g : Lg), j ≤ n ∧ v5 = pv gl ∧ v7 = pv gm ∧ v42 = .int .i64 (j : Int) ∧ Aside0 (LS w wr gd gl gr gm s g s g []) ∧ Aside0 (Good s g) ∧ Aside0 (s.ok (4 + 65400 * j)) ∧ Aside0 (s.d = false)) (fun _ _ v42 _ => n - (intOf v42).toNat)
  case atStart => exact ⟨gl, gm, 0, s0, g0, Nat.zero_le _, rfl, rfl, rfl, T5, HG0, ⟨HOK0.out⟩, HD0⟩
  case round =>
    clear T5 HG0 HOK0 HD0
    obtain ⟨gl, gm, j, s, g, hj, rfl, rfl, rfl, T, HG, HOK, HD⟩ := hrel
    obtain ⟨hn1, hn2⟩ := HN.out
    by_cases hlt : j < n
    · have t_ : decide ((j : Int) < (n : Int)) = true := decide_eq_true (by omega)
      have HM := Aside0.mk (show 4 + 65400 * j ≤ 100000000 by omega)
      have HLT := Aside0.mk hlt
      obtain ⟨ad, A6, c6_, A7, c7, hA, f0, f1, f2, f3, f4, f5, f6, f7, l6, g6, l7, g7⟩ := at_T77 HR.out (j : Int) (by omega) (by omega)
      rw [Int.toNat_natCast] at f0 f1 f2 f3 f4 f5 f6 f7
      have HXJ := Aside0.mk (HXX.out (rd_T77 l (j : Int)) (by unfold rd_T77; rw [Int.toNat_natCast, List.getD_eq_getElem?_getD, List.getElem?_eq_getElem (show j < l.length by omega), Option.getD_some]; exact List.getElem_mem _))
      have G6 := Aside0.mk g6
      clear g6 l6 g7 l7
      generalize rd_T77 l (j : Int) = x at f0 f1 f2 f3 f4 f5 f6 f7 HXJ G6
      obtain ⟨k, F, At, N, S, U, keep, cl⟩ := x
      simp only at f0 f1 f2 f3 f4 f5 f6 f7 HXJ G6
      subst hA
      replace f0 := (T.out.hB.cell (World.block_lt_of_cell? w _ f0)).trans f0
      replace f1 := (T.out.hB.cell (World.block_lt_of_cell? w _ f1)).trans f1
      replace f2 := (T.out.hB.cell (World.block_lt_of_cell? w _ f2)).trans f2
      replace f3 := (T.out.hB.cell (World.block_lt_of_cell? w _ f3)).trans f3
      replace f4 := (T.out.hB.cell (World.block_lt_of_cell? w _ f4)).trans f4
      replace f5 := (T.out.hB.cell (World.block_lt_of_cell? w _ f5)).trans f5
      replace f6 := (T.out.hB.cell (World.block_lt_of_cell? w _ f6)).trans f6
      replace f7 := (T.out.hB.cell (World.block_lt_of_cell? w _ f7)).trans f7
      clear hn1
      go_upto_region 11 with ((with_reducible refine gate_dst (N := 10) rfl ?_); refine box_event ?hg (N := 10) ?hd (cs := #[.int .i64 0, .int .i64 0, .int .i64 0, .int .i64 0, .string ⟨#[]⟩, .string ⟨#[]⟩, .slice none 0 0, .slice none 0 0]) (t := 77) ?hr ?_; (case hd => rfl); (case hg => rfl); (case hr => first | (go_simp; done) | (go_simp; rfl)); intro gb hgb w7 hbox hb; have HXb := Aside0.mk hbox; have HBb := Aside0.mk hb; have HGb := Aside0.mk hgb; have b0 : w7.cell? ⟨gb, 0, none⟩ = some (.int .i64 0) := (blk_cell hbox 0).trans rfl; have y0 := blk_frozen hbox 0; have b1 : w7.cell? ⟨gb, 1, none⟩ = some (.int .i64 0) := (blk_cell hbox 1).trans rfl; have y1 := blk_frozen hbox 1; have b2 : w7.cell? ⟨gb, 2, none⟩ = some (.int .i64 0) := (blk_cell hbox 2).trans rfl; have y2 := blk_frozen hbox 2; have b3 : w7.cell? ⟨gb, 3, none⟩ = some (.int .i64 0) := (blk_cell hbox 3).trans rfl; have y3 := blk_frozen hbox 3; have b4 : w7.cell? ⟨gb, 4, none⟩ = some (.string ⟨#[]⟩) := (blk_cell hbox 4).trans rfl; have y4 := blk_frozen hbox 4; have b5 : w7.cell? ⟨gb, 5, none⟩ = some (.string ⟨#[]⟩) := (blk_cell hbox 5).trans rfl; have y5 := blk_frozen hbox 5; have b6 : w7.cell? ⟨gb, 6, none⟩ = some (.slice none 0 0) := (blk_cell hbox 6).trans rfl; have y6 := blk_frozen hbox 6; have b7 : w7.cell? ⟨gb, 7, none⟩ = some (.slice none 0 0) := (blk_cell hbox 7).trans rfl; have y7 := blk_frozen hbox 7; clear hgb hbox hb)
      have hput : ((((((((w7.setCell ⟨gb, 0, none⟩ (.int .i64 k)).setCell ⟨gb, 1, none⟩ (.int .i64 F)).setCell ⟨gb, 2, none⟩ (.int .i64 At)).setCell ⟨gb, 3, none⟩ (.int .i64 N)).setCell ⟨gb, 4, none⟩ (.string S)).setCell ⟨gb, 5, none⟩ (.string U)).setCell ⟨gb, 6, none⟩ (.slice A6 keep.length c6_)).setCell ⟨gb, 7, none⟩ (.slice A7 cl.length c7)) = put8 w7 gb (.int .i64 k) (.int .i64 F) (.int .i64 At) (.int .i64 N) (.string S) (.string U) (.slice A6 keep.length c6_) (.slice A7 cl.length c7) := rfl
      rw [hput]
      clear hput
      have HX8 := Aside0.mk (put8_blk (x0 := (.int .i64 k)) (x1 := (.int .i64 F)) (x2 := (.int .i64 At)) (x3 := (.int .i64 N)) (x4 := (.string S)) (x5 := (.string U)) (x6 := (.slice A6 keep.length c6_)) (x7 := (.slice A7 cl.length c7)) HXb.out)
      have HB8 := Aside0.mk (put8_below (x0 := (.int .i64 k)) (x1 := (.int .i64 F)) (x2 := (.int .i64 At)) (x3 := (.int .i64 N)) (x4 := (.string S)) (x5 := (.string U)) (x6 := (.slice A6 keep.length c6_)) (x7 := (.slice A7 cl.length c7)) HBb.out (Nat.le_of_eq HGb.out.symm))
      clear b0 y0 b1 y1 b2 y2 b3 y3 b4 y4 b5 y5 b6 y6 b7 y7 f0 f1 f2 f3 f4 f5 f6 f7 HXb HBb
      generalize put8 w7 gb (.int .i64 k) (.int .i64 F) (.int .i64 At) (.int .i64 N) (.string S) (.string U) (.slice A6 keep.length c6_) (.slice A7 cl.length c7) = w8 at HX8 HB8 ⊢
      have T8 := Aside0.mk (Bd.more (x := (gb, _)) T.out (fpP _ _ _ _ _) (fpQ _ _ _ _ _) HB8.out HX8.out (Nat.le_of_eq HGb.out.symm))
      obtain ⟨cs, hcs⟩ : ∃ cs : Array Value, cs = #[.int .i64 k, .int .i64 F, .int .i64 At, .int .i64 N, .string S, .string U, .slice A6 keep.length c6_, .slice A7 cl.length c7] := ⟨_, rfl⟩
      rw [← hcs] at T8
      have held : ∀ {w1 : World} {P Q : Part}, Bd w w1 P Q [(gb, .cells cs 77 (0, 0))] → w1.cell? ⟨gb, 1, none⟩ = some (.int .i64 F) ∧ w1.cell? ⟨gb, 2, none⟩ = some (.int .i64 At) ∧ w1.cell? ⟨gb, 3, none⟩ = some (.int .i64 N) ∧ w1.cell? ⟨gb, 4, none⟩ = some (.string S) ∧ w1.cell? ⟨gb, 6, none⟩ = some (.slice A6 keep.length c6_) := fun h => by
        subst hcs
        exact ⟨(Bd.box h gb _ _ (List.mem_singleton.2 rfl) 1).trans rfl, (Bd.box h gb _ _ (List.mem_singleton.2 rfl) 2).trans rfl, (Bd.box h gb _ _ (List.mem_singleton.2 rfl) 3).trans rfl, (Bd.box h gb _ _ (List.mem_singleton.2 rfl) 4).trans rfl, (Bd.box h gb _ _ (List.mem_singleton.2 rfl) 6).trans rfl⟩
      have HELD := Aside0.mk @held
      have q0 : w8.cell? ⟨gb, 0, none⟩ = some (.int .i64 k) := (blk_cell HX8.out 0).trans rfl
      clear held hcs HX8 HB8 HGb T
      go_upto_block 2 with (fail)
      clear q0
      have HNR := Aside0.mk HXJ.out.1
      have HKL := Aside0.mk HXJ.out.2
      have HM2 := Aside0.mk (show 4 + 65400 * j + 65310 ≤ 99999000 by omega)
      rename_i Kz hKz
      refine step (m := 4 + 65400 * j) T8 HG HOK HD HM HNR HKL G6 HELD (Aside0.mk (fun v5 v6 v7 v8 v11 v12 v13 v14 v15 v47 v48 v49 v50 v51 v52 v53 v54 v55 v56 v57 v58 v59 v60 v61 v62 v63 v64 v65 v66 v67 v68 v69 v70 v71 v72 v73 v74 v75 v76 v77 v78 v79 v80 v81 v82 v83 v84 v85 v86 v87 v88 v89 v90 v91 v92 v93 v94 v95 v96 v97 v98 v99 v100 v101 v102 v103 v104 v105 v106 v107 v108 v109 v110 v111 v112 v113 v114 v115 v116 v117 v118 v119 v120 v121 v122 v123 v124 v125 v126 v127 v128 v129 v130 v131 v132 v133 v134 v135 v136 v137 v138 v139 v140 v141 v142 v143 v144 v145 v146 v147 v148 v149 v150 v151 v152 v153 v154 v155 v156 v157 v158 v159 v160 v161 v162 v163 v164 v165 v166 v167 v168 v169 v170 v171 v172 v173 v174 v175 v176 v177 v178 v179 v180 v181 v182 v183 v184 v185 v186 v187 v188 v189 v190 v191 v192 v193 v194 v195 v196 v197 v198 v199 v200 v201 v202 v203 wx hcut => ?_))
      obtain ⟨gl', gm', s', g', rfl, rfl, rfl, T', HG', HOK'⟩ := hcut
      clear T8 HG HOK HD
      refine hKz _ _ ?_
      refine rest_ (m := 4 + 65400 * j + 65310) T' HG' HOK' HM2 HKL G6 HELD (Aside0.mk (fun v5 v6 v7 v8 v16 v204 v205 v206 v207 v208 v209 v210 v211 v212 v213 v214 v215 v216 v217 v218 v219 v220 v221 v222 v223 v224 v225 v226 v227 v228 v229 v230 v231 v232 v233 v234 v235 v236 v237 v238 v239 v240 v241 v242 v243 v244 v245 v246 v247 v248 v249 v250 v251 v252 v253 v254 v255 v256 v257 v258 v259 v260 v261 v262 v263 v264 v265 v266 v267 v268 v269 v270 v271 v272 v273 v274 v275 wy hcut => ?_))
      obtain ⟨gl2, gm2, s2, g2, rfl, rfl, T2, HG2, HOK2, HD2⟩ := hcut
      go_wp2_with (fail)
      go_roundw
      case rel => ((repeat apply Exists.intro); exact ⟨⟨gl2, gm2, j + 1, s2, g2, HLT.out, rfl, rfl, by go_num, T2, HG2, ⟨HOK2.out.mono (by omega)⟩, HD2⟩, rfl⟩)
      case measure => simp [intOf]; have := HLT.out; omega
    · have t_ : decide ((j : Int) < (n : Int)) = false := decide_eq_false (by omega)
      have t2_ : decide (j < n) = false := decide_eq_false (by omega)
      have t3_ : ¬ j < n := by omega
      clear hlt hj
      go_wp2_with (fail)
      go_ret
      exact ⟨rfl, T.out.hB⟩
end Go.Proofs.Ythaoaaboempajaa.Log
