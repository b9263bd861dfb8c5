/- The law PageSeals, where what it reads is of bulk at most 1048576: for every such input the answer is true. -/
import Derived.Test.YthaoaaboempajaaRows
import Derived.Test.YthaoaaboempajaaB
import Derived.Test.YthaoaaboempajaaSealsLaw
import Derived.Test.YthaoaaboempajaaPages5
import Derived.WalkKit
import Derived.ProofKit
import Derived.OpenShut
import Derived.ShutString
import Derived.ChangeOld
import Derived.Below
import Derived.SizedLaws
import Derived.JoinedCond
import Derived.Deep.CondSized
import Derived.Lib.SmallJoins
namespace Go.Proofs.Ythaoaaboempajaa.pageSeals
open Go.ChangeShapes Go.WideShapes Go.ChangeAt Go.RowKit Go.Joins Go.Proofs.YthaoaaboempajaaW.PrintWords Go.Proofs.YthaoaaboempajaaO Go.Proofs.YthaoaaboempajaaB Go.Proofs.Ythaoaaboempajaa.QPageSeals
open Go.ChangeMaps (open_string shut_string)
set_option linter.unusedVariables false
set_option linter.unusedSimpArgs false
theorem own : ownKnob Try.prog.godebug = none := by kernel_rfl
theorem laidOut : laidOutB Try.prog = true := by kernel_rfl
theorem tot_sizes : ∀ l : List ByteArray, Pages.tot l ≤ 4 * sizes l
  | [] => by simp [Pages.tot, sizes]
  | c :: r => by have := tot_sizes r; simp only [Pages.tot, sizes]; omega
/-- All that the law's walk asks. -/
theorem plain (kd lk : Int) (l : List ByteArray) (s : ByteArray) (hl : Pages.tot l ≤ 4611686018427387904) (hn : l.length < 8000000000000) (hs : s.size ≤ 140737488351232) : ∃ (k : Nat) (t : ByteArray) (e q1 q2 g cs u : Int) (qc : List ByteArray),
    page_Seal.f k kd lk l = some (t, e) ∧ relstoreref_Seal.f k kd lk l = some (t, e) ∧ page_Open.f k s = some (q1, q2, qc, g) ∧ relstoreref_Open.f k s = some (q1, q2, qc, g) ∧
    page_Sum.f k s = some cs ∧ relstoreref_Sum.f k s = some cs ∧ page_Used.f k l = some u ∧ relstorelaw_lentTexts.f l = some (l ++ QPageSeals.marks) ∧ relstorelaw_backTexts.f k (l ++ QPageSeals.marks) l = some true ∧ relstorelaw_sameTexts.f k qc qc = some true := by
  obtain ⟨n1, h1⟩ := Pages.p_seal kd lk l hl
  obtain ⟨n2, h2⟩ := Pages.r_seal kd lk l hl
  obtain ⟨n3, h3⟩ := Pages.p_open s
  obtain ⟨n4, h4⟩ := Pages.r_open s
  obtain ⟨n5, h5⟩ := Pages.p_sum s hs
  obtain ⟨n6, h6⟩ := Pages.r_sum s hs
  have hq : (Pages.readOf s).2.2.1.length ≤ 506 := by
    unfold Pages.readOf
    split
    · cases hp : Pages.parse s (min (Pages.u16 s.data.toList 6) 506) 0 [] with
      | none => exact Nat.zero_le _
      | some l2 =>
        have := (Pages.parse_tot s _ 0 [] l2 hp).2
        rw [Pages.opened_some]
        split
        · split
          · rw [List.length_nil] at this
            show l2.length ≤ 506
            omega
          · exact Nat.zero_le _
        · exact Nat.zero_le _
    · exact Nat.zero_le _
  refine ⟨n1 + n2 + n3 + n4 + n5 + n6 + l.length + 600, (Pages.sealed kd lk l).1, (Pages.sealed kd lk l).2, (Pages.readOf s).1, (Pages.readOf s).2.1, (Pages.readOf s).2.2.2, _, _, (Pages.readOf s).2.2.1, h1 _ (by omega), h2 _ (by omega), h3 _ (by omega), h4 _ (by omega), h5 _ (by omega), h6 _ (by omega), Pages.used_is l hl _ (by omega), Pages.lent_is hn, Pages.back_is l hn _ (by omega), Pages.same_is _ (by omega) _ (by omega)⟩
set_option maxRecDepth 100000 in
set_option maxHeartbeats 4000000 in
theorem lifted (os : Os) (started : os.Started) (H : Type) (enc : TypeId × Value → H) (F : Stop.Interp) :
    ReturnsInHanded {} Try.checked os 6 .any ((Rows.OpenSpec.upto Rows.pageSealsSpec).pre6 enc Try.prog Try.f6 Rows.pageSealsUptoRow.domain false) (((Rows.OpenSpec.upto Rows.pageSealsSpec).at F).post enc Try.prog Try.f6 false true false false) := by
  refine returnsInHanded_of_cond_sized (C := Try.checked) (s := Rows.OpenSpec.upto Rows.pageSealsSpec) (k := Rows.uptoSmall) rfl own started (by kernel_rfl) Try.func6
    (OpenSpec.witness (enc := enc) (C := Try.checked) (s := Rows.OpenSpec.upto Rows.pageSealsSpec) (k := Rows.uptoSmall) rfl false ⟨#[], #[.agg #[.int .i64 0, .int .i64 0, .slice none 0 0], .string ByteArray.empty], []⟩ 8 (by kernel_rfl) (by kernel_rfl) (by kernel_rfl)
      (x := ([.agg [.lit (.int .i64 0), .lit (.int .i64 0), .nil], .lit (.string [])], [], [])) (by kernel_rfl) rfl (by kernel_rfl)) ?_
  intro W base args ds gs before hval0 hW hcnd hk hsz0 _
  have hsz : (DataW.weightsEach Try.prog (Try.f6.params.toList ++ Rows.pageSealsSpec.plain.varTypes Try.prog) (ds ++ gs)).all (· ≤ reachBytes) = true := hsz0
  have hval : ∀ (j : Nat) t v, Try.f6.params[j]? = some t → args[j]? = some v → Value.okWide Try.prog W .any base t v := hval0
  have hW' := hW
  obtain ⟨p, q, hA0, hV, rfl, hfz, hnd⟩ := hW
  have hA : DataW.TrodAll enc Try.prog W 0 (fun _ => true) true Try.f6.params.toList args.toList ds p := hA0
  rw [Try.params6] at hA hval hsz
  obtain ⟨v0, vs0, d0, ds0, p0, q0, hargs, rfl, rfl, h0, r0⟩ := trodAll_cons hA
  obtain ⟨v1, vs1, d1, ds1, p1, q1, rfl, rfl, rfl, h1, r1⟩ := trodAll_cons r0
  obtain ⟨rfl, rfl, rfl⟩ := trodAll_nil r1
  obtain rfl : args = #[v0, v1] := by cases args; simp_all
  obtain ⟨rfl, rfl⟩ := trodVars_none hV
  have k0 := h0
  have lt0 : ∀ x ∈ p0, x.block < W.heap.size := by obtain ⟨m, hm⟩ := k0; exact DataW.trod_lt m _ _ _ hm
  obtain ⟨c0, c1, c2, y0, y1, y2, n, rfl, rfl, hp0, t0, t1, t2⟩ := open_agg3 Try.underlying40 (by kernel_rfl) (by kernel_rfl) (hval 0 40 v0 rfl rfl) h0
  obtain ⟨kd, e0, _, wk0⟩ := DataW.trod_int Try.underlying3 t0
  obtain ⟨lk, e1, _, wk1⟩ := DataW.trod_int Try.underlying3 t1
  obtain ⟨a1, rfl, rfl, rfl, z1⟩ := open_string Try.underlying9 (hval 1 9 v1 rfl rfl) h1
  have w1 : a1.size ≤ 140737488351232 := by
    have z := sized_string hsz (j := 1) (t := 9) rfl rfl
    rw [Array.length_toList] at z
    exact z
  obtain ⟨A, c, l, e2, hc, hr, hl16, hb⟩ := texts Try.underlying38 Try.underlying9 (by kernel_rfl) (by kernel_rfl) t2 (fun n hn => by
    have := List.all_eq_true.1 hsz _ (DataW.weights_mem_each (j := 0) (t := 40) rfl rfl n (by
      simp only [DataW.weights, Try.underlying40, DataW.weightsEach, List.mem_append]
      simp [DataW.weightsEach, hn]))
    simpa using this)
  have hk1 := bulk_part (H := H) (show y2.1 ∈ [y0.1, y1.1, y2.1] by simp)
  have hk2 := bound hk
  simp only [List.append_nil, Rows.uptoBulkAll, Rows.uptoBulk] at hk1 hk2
  have hts := tot_sizes l
  have hlt := Pages.len_tot l
  obtain rfl : c0 = .int .i64 kd := by simpa using e0
  obtain rfl : c1 = .int .i64 lk := by simpa using e1
  obtain rfl : c2 = .slice A l.length c := by simpa using e2
  clear hA0 hval0 hsz0 hsz
  obtain ⟨k, t, e, q1_, q2_, g, cs, u, qc, g1, g2, g3, g4, g5, g6, g7, g8, g9, g10⟩ := plain kd lk l a1 (by omega) (by omega) w1
  refine (PageSeals.calls k kd lk A c l a1 W hr hc t e g1 g2 q1_ q2_ g qc g3 g4 cs g5 g6 u g7 g8 g9 g10).mono fun e W' ⟨he, bel0⟩ => ?_
  have bel : Below W.heap.size W W' := bel0
  subst he
  exact ⟨_, rfl, _, _, _, [], _, [], hW', trodAll_mk1 (shut_bool Try.underlying4 _), (trodAll_cons_mk (Below.trod laidOut (by kernel_rfl) (of_decide_eq_true (by kernel_rfl)) k0 bel lt0) (trodAll_cons_mk (shut_string Try.underlying9 z1) trodAll_mk0)), rfl, bel.frame _, fun h => by cases h⟩
theorem proved : Rows.PageSealsUptoSaid :=
  OpenClaim.holds_of_cond 6 Try.f6 rfl rfl rfl rfl rfl rfl rfl ⟨rfl, rfl, rfl, rfl, rfl⟩ rfl rfl rfl rfl rfl (by kernel_rfl) Try.func6 (by kernel_rfl)
    (of_decide_eq_true (by kernel_rfl)) (by unfold Func.isWrapper; first | (rw [if_pos (by decide +kernel)]; kernel_rfl) | (rw [if_neg (by decide +kernel)]; exact ⟨rfl, rfl⟩))
    (fun os started H enc _ F => lifted os started H enc F)
#print axioms proved
end Go.Proofs.Ythaoaaboempajaa.pageSeals
namespace Go.Proofs.Ythaoaaboempajaa
/-- The row, under a short name, for the claim. -/
theorem pageSealsUpto_holds : Rows.PageSealsUptoSaid := pageSeals.proved
end Go.Proofs.Ythaoaaboempajaa
