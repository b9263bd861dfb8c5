/- The law PageWhole, where what it reads is of bulk at most 1048576: for every such input the answer is true. -/
import Derived.Test.YthaoaaboempajaaRows
import Derived.Test.YthaoaaboempajaaB
import Derived.Test.YthaoaaboempajaaWholeLaw
import Derived.Test.YthaoaaboempajaaPages6
import Derived.WalkKit
import Derived.ProofKit
import Derived.OpenShut
import Derived.ShutString
import Derived.ChangeOld
import Derived.Below
import Derived.SizedLaws
import Derived.JoinedCond
import Derived.Deep.CondSized
import Derived.Lib.SmallJoins
namespace Go.Proofs.Ythaoaaboempajaa.pageWhole
open Go.ChangeShapes Go.WideShapes Go.ChangeAt Go.RowKit Go.Joins Go.Proofs.YthaoaaboempajaaW.PrintWords Go.Proofs.YthaoaaboempajaaO Go.Proofs.YthaoaaboempajaaB Go.Proofs.Ythaoaaboempajaa.QPageSeals
open Go.ChangeMaps (open_string shut_string)
open Go.Proofs.Ythaoaaboempajaa.QPageWhole (relstorekeep_pick.f)
set_option linter.unusedVariables false
set_option linter.unusedSimpArgs false
theorem own : ownKnob Try.prog.godebug = none := by kernel_rfl
theorem laidOut : laidOutB Try.prog = true := by kernel_rfl
theorem tot_sizes : ∀ l : List ByteArray, Pages.tot l ≤ 4 * sizes l
  | [] => by simp [Pages.tot, sizes]
  | c :: r => by have := tot_sizes r; simp only [Pages.tot, sizes]; omega
theorem pick_is (a n : Int) (h0 : -9223372036854775808 ≤ a) (h1 : a ≤ 9223372036854775807) (hn : 0 < n) : ∃ r : Nat, relstorekeep_pick.f a n = some (r : Int) ∧ (r : Int) < n := by
  have key : ∀ x : Int, 0 ≤ x → ∃ r : Nat, Int.tmod x n = (r : Int) ∧ (r : Int) < n := by
    intro x hx
    rw [Int.tmod_eq_emod_of_nonneg hx]
    have g0 := Int.emod_nonneg x (show n ≠ 0 by omega)
    have g1 := Int.emod_lt_of_pos x hn
    exact ⟨(x % n).toNat, by omega, by omega⟩
  unfold relstorekeep_pick.f
  by_cases h : a < 0
  · rw [if_pos h, if_neg (by omega)]
    have e1 : wrap64 (a + 1) = a + 1 := by unfold wrap64; omega
    have e2 : wrap64 (-(a + 1)) = -(a + 1) := by unfold wrap64; omega
    rw [e1, e2]
    obtain ⟨r, g1, g2⟩ := key (-(a + 1)) (by omega)
    exact ⟨r, by rw [g1], g2⟩
  · rw [if_neg h, if_neg (by omega)]
    obtain ⟨r, g1, g2⟩ := key a (by omega)
    exact ⟨r, by rw [g1], g2⟩
theorem bytes_one (kd lk : Int) (l : List ByteArray) : (Pages.sealed kd lk l).2 = 0 ∨ ((Pages.sealed kd lk l).1 = (⟨#[]⟩ : ByteArray) ∧ ((Pages.sealed kd lk l).2 = 1 ∨ (Pages.sealed kd lk l).2 = 5)) := by
  unfold Pages.sealed
  split
  · exact .inr ⟨rfl, .inl rfl⟩
  · split
    · exact .inr ⟨rfl, .inr rfl⟩
    · exact .inl rfl
/-- The walk, all its ways together. -/
theorem calls (kd lk at_ by_ : Int) (A : Option Addr) (c : Nat) (l : List ByteArray) (w : World) (hr : Kd.C Kd.string w A l.length l) (hc : l.length ≤ c) (hl : Pages.tot l ≤ 4611686018427387904)
    (a0 : -9223372036854775808 ≤ at_) (a1 : at_ ≤ 9223372036854775807) (b0 : -9223372036854775808 ≤ by_) (b1 : by_ ≤ 9223372036854775807) :
    Calls Try.prog 7 #[.agg #[.int .i64 kd, .int .i64 lk, .slice A l.length c], .int .i64 at_, .int .i64 by_] w fun e w' => e = .returned (.bool true) ∧ Below w.heap.size w w' := by
  obtain ⟨n1, h1⟩ := Pages.p_seal kd lk l hl
  rcases bytes_one kd lk l with h | ⟨hs, he⟩
  · obtain ⟨hz, _, hread⟩ := Pages.read_sealed kd lk l h
    obtain ⟨i, hi, hi2⟩ := pick_is at_ ((Pages.sealed kd lk l).1.size : Int) a0 a1 (by rw [hz]; decide)
    obtain ⟨j, hj, hj2⟩ := pick_is by_ 255 b0 b1 (by decide)
    obtain ⟨n2, h2⟩ := Pages.p_open (Pages.sealed kd lk l).1
    have hfl := Pages.flipped kd lk l h i j (by rw [hz] at hi2; omega) (by omega)
    obtain ⟨n3, h3⟩ := Pages.p_open (strOfNums ((bytesOf (Pages.sealed kd lk l).1).set i (Go.bits .xor .u8 ((bytesOf (Pages.sealed kd lk l).1).getD i 0) ((1 + j : Nat) : Int))))
    rw [hread] at h2
    rw [hfl] at h3
    have g1 := h1 (n1 + n2 + n3) (by omega)
    rw [show Pages.sealed kd lk l = ((Pages.sealed kd lk l).1, 0) by rw [← h]] at g1
    exact PageWhole.good (n1 + n2 + n3) kd lk at_ by_ A c l w hr hc (Pages.sealed kd lk l).1 g1 (h2 _ (by omega)) hz i j (by rw [hz] at hi2; omega) (by omega) hi hj 0 0 [] (h3 _ (by omega))
  · obtain ⟨n2, h2⟩ := Pages.p_seal 1 0 [] (by decide)
    have g1 := h1 (n1 + n2) (by omega)
    rw [show Pages.sealed kd lk l = ((⟨#[]⟩ : ByteArray), (Pages.sealed kd lk l).2) by rw [← hs]] at g1
    exact PageWhole.bad (n1 + n2) kd lk at_ by_ A c l w hr hc (Pages.sealed kd lk l).2 g1 he _ (h2 _ (by omega))
set_option maxRecDepth 100000 in
set_option maxHeartbeats 4000000 in
theorem lifted (os : Os) (started : os.Started) (H : Type) (enc : TypeId × Value → H) (F : Stop.Interp) :
    ReturnsInHanded {} Try.checked os 7 .any ((Rows.OpenSpec.upto Rows.pageWholeSpec).pre6 enc Try.prog Try.f7 Rows.pageWholeUptoRow.domain false) (((Rows.OpenSpec.upto Rows.pageWholeSpec).at F).post enc Try.prog Try.f7 false true false false) := by
  refine returnsInHanded_of_cond_sized (C := Try.checked) (s := Rows.OpenSpec.upto Rows.pageWholeSpec) (k := Rows.uptoSmall) rfl own started (by kernel_rfl) Try.func7
    (OpenSpec.witness (enc := enc) (C := Try.checked) (s := Rows.OpenSpec.upto Rows.pageWholeSpec) (k := Rows.uptoSmall) rfl false ⟨#[], #[.agg #[.int .i64 0, .int .i64 0, .slice none 0 0], .int .i64 0, .int .i64 0], []⟩ 8 (by kernel_rfl) (by kernel_rfl) (by kernel_rfl)
      (x := ([.agg [.lit (.int .i64 0), .lit (.int .i64 0), .nil], .lit (.int .i64 0), .lit (.int .i64 0)], [], [])) (by kernel_rfl) rfl (by kernel_rfl)) ?_
  intro W base args ds gs before hval0 hW hcnd hk hsz0 _
  have hsz : (DataW.weightsEach Try.prog (Try.f7.params.toList ++ Rows.pageWholeSpec.plain.varTypes Try.prog) (ds ++ gs)).all (· ≤ reachBytes) = true := hsz0
  have hval : ∀ (j : Nat) t v, Try.f7.params[j]? = some t → args[j]? = some v → Value.okWide Try.prog W .any base t v := hval0
  have hW' := hW
  obtain ⟨p, q, hA0, hV, rfl, hfz, hnd⟩ := hW
  have hA : DataW.TrodAll enc Try.prog W 0 (fun _ => true) true Try.f7.params.toList args.toList ds p := hA0
  rw [Try.params7] at hA hval hsz
  obtain ⟨v0, vs0, d0, ds0, p0, q0, hargs, rfl, rfl, h0, r0⟩ := trodAll_cons hA
  obtain ⟨v1, vs1, d1, ds1, p1, q1, rfl, rfl, rfl, h1, r1⟩ := trodAll_cons r0
  obtain ⟨v2, vs2, d2, ds2, p2, q2, rfl, rfl, rfl, h2, r2⟩ := trodAll_cons r1
  obtain ⟨rfl, rfl, rfl⟩ := trodAll_nil r2
  obtain rfl : args = #[v0, v1, v2] := by cases args; simp_all
  obtain ⟨rfl, rfl⟩ := trodVars_none hV
  have k0 := h0
  have lt0 : ∀ x ∈ p0, x.block < W.heap.size := by obtain ⟨m, hm⟩ := k0; exact DataW.trod_lt m _ _ _ hm
  obtain ⟨c0, c1, c2, y0, y1, y2, n, rfl, rfl, hp0, t0, t1, t2⟩ := open_agg3 Try.underlying40 (by kernel_rfl) (by kernel_rfl) (hval 0 40 v0 rfl rfl) h0
  obtain ⟨kd, e0, _, wk0⟩ := DataW.trod_int Try.underlying3 t0
  obtain ⟨lk, e1, _, wk1⟩ := DataW.trod_int Try.underlying3 t1
  obtain ⟨a1, rfl, rfl, rfl, z1⟩ := open_int Try.underlying3 (hval 1 3 v1 rfl rfl) h1
  obtain ⟨a2, rfl, rfl, rfl, z2⟩ := open_int Try.underlying3 (hval 2 3 v2 rfl rfl) h2
  have w1 := bounds_i64 z1
  have w2 := bounds_i64 z2
  obtain ⟨A, c, l, e2, hc, hr, hl16, hb⟩ := texts Try.underlying38 Try.underlying9 (by kernel_rfl) (by kernel_rfl) t2 (fun n hn => by
    have := List.all_eq_true.1 hsz _ (DataW.weights_mem_each (j := 0) (t := 40) rfl rfl n (by
      simp only [DataW.weights, Try.underlying40, DataW.weightsEach, List.mem_append]
      simp [DataW.weightsEach, hn]))
    simpa using this)
  have hk1 := bulk_part (H := H) (show y2.1 ∈ [y0.1, y1.1, y2.1] by simp)
  have hk2 := bound hk
  simp only [List.append_nil, Rows.uptoBulkAll, Rows.uptoBulk] at hk1 hk2
  have hts := tot_sizes l
  have hlt := Pages.len_tot l
  obtain rfl : c0 = .int .i64 kd := by simpa using e0
  obtain rfl : c1 = .int .i64 lk := by simpa using e1
  obtain rfl : c2 = .slice A l.length c := by simpa using e2
  clear hA0 hval0 hsz0 hsz
  refine (calls kd lk a1 a2 A c l W hr hc (by omega) w1.1 w1.2 w2.1 w2.2).mono fun e W' ⟨he, bel0⟩ => ?_
  have bel : Below W.heap.size W W' := bel0
  subst he
  exact ⟨_, rfl, _, _, _, [], _, [], hW', trodAll_mk1 (shut_bool Try.underlying4 _), (trodAll_cons_mk (Below.trod laidOut (by kernel_rfl) (of_decide_eq_true (by kernel_rfl)) k0 bel lt0) (trodAll_cons_mk (shut_int Try.underlying3 z1) (trodAll_cons_mk (shut_int Try.underlying3 z2) trodAll_mk0))), rfl, bel.frame _, fun h => by cases h⟩
theorem proved : Rows.PageWholeUptoSaid :=
  OpenClaim.holds_of_cond 7 Try.f7 rfl rfl rfl rfl rfl rfl rfl ⟨rfl, rfl, rfl, rfl, rfl⟩ rfl rfl rfl rfl rfl (by kernel_rfl) Try.func7 (by kernel_rfl)
    (of_decide_eq_true (by kernel_rfl)) (by unfold Func.isWrapper; first | (rw [if_pos (by decide +kernel)]; kernel_rfl) | (rw [if_neg (by decide +kernel)]; exact ⟨rfl, rfl⟩))
    (fun os started H enc _ F => lifted os started H enc F)
#print axioms proved
end Go.Proofs.Ythaoaaboempajaa.pageWhole
namespace Go.Proofs.Ythaoaaboempajaa
/-- The row, under a short name, for the claim. -/
theorem pageWholeUpto_holds : Rows.PageWholeUptoSaid := pageWhole.proved
end Go.Proofs.Ythaoaaboempajaa
