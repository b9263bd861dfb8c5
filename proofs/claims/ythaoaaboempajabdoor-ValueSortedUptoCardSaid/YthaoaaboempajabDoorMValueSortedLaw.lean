/- The law ValueSorted, where what it reads is of bulk at most 1048576: for every such input the answer is true; the tied card. -/
import Derived.Test.YthaoaaboempajabDoorRows
import Derived.Test.YthaoaaboempajabDoorCards
import Derived.Test.YthaoaaboempajabDoorTie
import Derived.Test.YthaoaaboempajabDoorMValueSorted6
import Derived.WalkKit
import Derived.ProofKit
import Derived.OpenShut
import Derived.ShutString
import Derived.ChangeOld
import Derived.Below
import Derived.SizedLaws
import Derived.JoinedCond
import Derived.Deep.DeepHandedRow
import Derived.Lib.SmallJoins
import Derived.SevenTiedAt
namespace Go.Proofs.YthaoaaboempajabDoor.valueSorted
open Go.ChangeShapes Go.WideShapes Go.ChangeAt Go.RowKit Go.Joins Go.Proofs.YthaoaaboempajabDoorW.PrintWords Go.Proofs.YthaoaaboempajabDoorO Go.Proofs.YthaoaaboempajabDoorB Go.Proofs.YthaoaaboempajabDoor.QValueSorted
open Go.ChangeMaps (open_string shut_string)
set_option linter.unusedVariables false
set_option linter.unusedSimpArgs false
theorem own : ownKnob Tryd.prog.godebug = none := by kernel_rfl
theorem laidOut : laidOutB Tryd.prog = true := by kernel_rfl
theorem opens38 : OpensM Tryd.prog 38 k38 (fun x => Sorted.In64 x.f1) (fun x => x.f2.size + 4) := by
  have h := opensM_iso (opensM_value4 (P := Tryd.prog) (t := 38) Tryd.underlying38 Tryd.underlying3 Tryd.underlying2 Tryd.underlying9 (by kernel_rfl) (by kernel_rfl) (by kernel_rfl) (by kernel_rfl) rfl rfl rfl) (fun x : S38 => (x.f0, x.f1, x.f2)) (fun y => ⟨y.1, y.2.1, y.2.2⟩) (fun _ => rfl)
  intro H enc w base spare held fuel cs x hx hw
  obtain ⟨y, a, g, b⟩ := h H enc w base spare held fuel cs x hx hw
  have h1 := bounds_i64 g.2
  dsimp only at h1
  exact ⟨y, a, ⟨by omega, by omega⟩, b⟩
theorem sum_each {l : List S38} : ∀ v ∈ l, v.f2.size + 4 ≤ (l.map fun x => x.f2.size + 4).sum := by
  induction l with
  | nil => simp
  | cons y l ih =>
    intro v hv
    simp only [List.map_cons, List.sum_cons]
    rcases List.mem_cons.1 hv with rfl | hv
    · omega
    · have := ih v hv; omega
theorem sum_length : ∀ l : List S38, l.length ≤ (l.map fun x => x.f2.size + 4).sum
  | [] => Nat.zero_le _
  | y :: l => by
    have := sum_length l
    simp only [List.map_cons, List.sum_cons, List.length_cons]
    omega
theorem sum_keys : ∀ l : List S38, (Sorted.kbs l).length ≤ 3 * (l.map fun x => x.f2.size + 4).sum
  | [] => Nat.zero_le _
  | y :: l => by
    have h1 := sum_keys l
    have h2 := Sorted.kb_length y
    have e : Sorted.kbs (y :: l) = Sorted.kb y ++ Sorted.kbs l := rfl
    rw [e, List.length_append]
    simp only [List.map_cons, List.sum_cons]
    omega
/-- A block's cells are these bytes. -/
def withBytes (l : List Int) : Obj → Obj
  | .cells _ t frozen => .cells (l.map fun z => Value.int .u8 z).toArray t frozen
  | o => o
/-- A world in which the listed tables lie. -/
noncomputable def laidWorld (os : Os) : World :=
  { World.holding Tryd.prog os ⟨#[], #[], []⟩ with heap := ((World.holding Tryd.prog os ⟨#[], #[], []⟩).heap.modify 4 (withBytes (List.map Int.ofNat Pinned.utf8FirstZ))).modify 5 (withBytes [128, 191, 160, 191, 128, 159, 144, 191, 128, 143, 0, 0, 0, 0, 0, 0, 0, 0, 0, 0, 0, 0, 0, 0, 0, 0, 0, 0, 0, 0, 0, 0]) }
theorem laid_met (os : Os) (args : Array Value) : laidMet Tryd.prog Rows.valueSortedUptoRow.laid ((laidWorld os).forCall (fun _ _ => 0) ⟨#[], args, []⟩).memory :=
  laidMet_of_run' 8 (by kernel_rfl) (by kernel_rfl)
theorem witness_row (os : Os) {H : Type} (enc : TypeId × Value → H) :
    (Rows.OpenSpec.upto Rows.valueSortedSpec).preRow enc Tryd.prog Tryd.f4 Rows.valueSortedUptoRow.domain false Rows.valueSortedUptoRow.laid ((laidWorld os).forCall (fun _ _ => 0) ⟨#[], #[.slice none 0 0, .slice none 0 0], []⟩).memory #[.slice none 0 0, .slice none 0 0] := by
  have hw : (DataW.whole enc Tryd.prog ((laidWorld os).forCall (fun _ _ => 0) ⟨#[], #[.slice none 0 0, .slice none 0 0], []⟩).memory Tryd.f4.params.toList (Rows.OpenSpec.upto Rows.valueSortedSpec).vars false #[Value.slice none 0 0, Value.slice none 0 0].toList 8).map (fun x => (x.1, x.2.1)) =
      some ([.nil, .nil], []) := by kernel_rfl
  obtain ⟨⟨x1, x2, x3⟩, hx, hx1⟩ := Option.map_eq_some_iff.1 hw
  simp only [Prod.mk.injEq] at hx1
  obtain ⟨rfl, rfl⟩ := hx1
  exact OpenSpec.preRow_of_cond 8 hx (by kernel_rfl) (fun k hk => by cases hk; rfl) (by kernel_rfl) (laid_met os _)
set_option maxRecDepth 100000 in
set_option maxHeartbeats 4000000 in
theorem lifted (os : Os) (started : os.Started) (H : Type) (enc : TypeId × Value → H) (F : Stop.Interp) :
    ReturnsInHanded {} Tryd.checked os 4 .any ((Rows.OpenSpec.upto Rows.valueSortedSpec).preRow enc Tryd.prog Tryd.f4 Rows.valueSortedUptoRow.domain false Rows.valueSortedUptoRow.laid) (((Rows.OpenSpec.upto Rows.valueSortedSpec).at F).post enc Tryd.prog Tryd.f4 false true false false) := by
  refine returnsInHanded_of_row (C := Tryd.checked) (s := Rows.OpenSpec.upto Rows.valueSortedSpec) own started (by kernel_rfl) Tryd.func4
    (witness_row_at (enc := enc) (C := Tryd.checked) false (laidWorld os) #[.slice none 0 0, .slice none 0 0] rfl (by kernel_rfl) (by kernel_rfl) (by kernel_rfl) (witness_row os enc)) ?_
  intro W base args ds gs before hval0 hW _ hcond0 hsz0 hL hsh _
  have hk : Rows.uptoSmall H (ds ++ gs) = true := hcond0 _ rfl
  have hsz : (DataW.weightsEach Tryd.prog (Tryd.f4.params.toList ++ (Rows.OpenSpec.upto Rows.valueSortedSpec).bare.plain.varTypes Tryd.prog) (ds ++ gs)).all (· ≤ reachBytes) = true := hsz0
  have hval : ∀ (j : Nat) t v, Tryd.f4.params[j]? = some t → args[j]? = some v → Value.okWide Tryd.prog W .any base t v := hval0
  have hW' := hW
  obtain ⟨p, q, hA0, hV, rfl, hfz, hnd⟩ := hW
  have hA : DataW.TrodAll enc Tryd.prog W 0 (fun _ => true) true Tryd.f4.params.toList args.toList ds p := hA0
  rw [Tryd.params4] at hA hval hsz
  obtain ⟨v0, vs0, d0, ds0, p0, q0, hargs, rfl, rfl, h0, r0⟩ := trodAll_cons hA
  obtain ⟨v1, vs1, d1, ds1, p1, q1, rfl, rfl, rfl, h1, r1⟩ := trodAll_cons r0
  obtain ⟨rfl, rfl, rfl⟩ := trodAll_nil r1
  obtain rfl : args = #[v0, v1] := by cases args; simp_all
  obtain ⟨rfl, rfl⟩ := trodVars_none hV
  obtain ⟨a0, len0, cap0, rfl⟩ := okWide_slice Tryd.underlying22 (hval 0 22 v0 rfl rfl)
  have k0 := h0
  have lt0 : ∀ x ∈ p0, x.block < W.heap.size := by obtain ⟨m, hm⟩ := k0; exact DataW.trod_lt m _ _ _ hm
  obtain ⟨a1, len1, cap1, rfl⟩ := okWide_slice Tryd.underlying22 (hval 1 22 v1 rfl rfl)
  have k1 := h1
  have lt1 : ∀ x ∈ p1, x.block < W.heap.size := by obtain ⟨m, hm⟩ := k1; exact DataW.trod_lt m _ _ _ hm
  obtain ⟨fuel0, hf0⟩ := h0
  obtain ⟨fuel1, hf1⟩ := h1
  obtain ⟨A, c, l, e0, hc, hr, hg, hl1⟩ := openM_sum (B := 32) Tryd.underlying22 (by kernel_rfl) (by kernel_rfl) opens38 hf0 (fun n hn => by
    have := List.all_eq_true.1 hsz _ (DataW.weights_mem_each (j := 0) (t := 22) rfl rfl n hn)
    simpa using this)
  obtain ⟨B, d, m, e1, hd, hq, hh, hm1⟩ := openM_sum (B := 32) Tryd.underlying22 (by kernel_rfl) (by kernel_rfl) opens38 hf1 (fun n hn => by
    have := List.all_eq_true.1 hsz _ (DataW.weights_mem_each (j := 1) (t := 22) rfl rfl n hn)
    simpa using this)
  have e2 : a0 = A ∧ len0 = l.length ∧ cap0 = c := by simpa [Value.cells] using e0
  have e3 : a1 = B ∧ len1 = m.length ∧ cap1 = d := by simpa [Value.cells] using e1
  obtain ⟨rfl, rfl, rfl⟩ := e2
  obtain ⟨rfl, rfl, rfl⟩ := e3
  have hk2 := bound hk
  simp only [List.append_nil, Rows.uptoBulkAll] at hk2
  simp only at hl1 hm1
  have sl := sum_length l
  have sm := sum_length m
  have sk := sum_keys l
  obtain ⟨m0, hm0⟩ : ∃ m, W.cell? ⟨0, 0, none⟩ = some (.int .i64 m) := Tryd.laysM155.s1_3 W hsh
  clear hA0 hval0 hsz0 hsz
  obtain ⟨k, hP⟩ := Sorted.ValueSorted l m (by omega) (by omega) (fun v hv => by have := sum_each v hv; omega) (fun v hv => by have := sum_each v hv; omega) hg hh (by omega)
  refine (relstorekeep_ValueSorted.calls k a0 cap0 l a1 cap1 m true W hr hc hq hd hP m0 hm0).mono fun e W' ⟨he, bel0⟩ => ?_
  have bel : Below W.heap.size W W' := bel0
  subst he
  exact ⟨_, rfl, _, _, _, [], _, [], hW', trodAll_mk1 (shut_bool Tryd.underlying4 _), (trodAll_cons_mk (Below.trod laidOut (by kernel_rfl) (of_decide_eq_true (by kernel_rfl)) k0 bel lt0) (trodAll_cons_mk (Below.trod laidOut (by kernel_rfl) (of_decide_eq_true (by kernel_rfl)) k1 bel lt1) trodAll_mk0)), rfl, bel.frame _, fun h => by cases h⟩
theorem over : Rows.ValueSortedUptoSaid :=
  OpenClaim.holds_of_cond 4 Tryd.f4 rfl rfl rfl rfl rfl rfl rfl ⟨rfl, rfl, rfl, rfl, rfl⟩ rfl rfl rfl rfl rfl (by kernel_rfl) Tryd.func4 (by kernel_rfl)
    (of_decide_eq_true (by kernel_rfl)) (by unfold Func.isWrapper; first | (rw [if_pos (by decide +kernel)]; kernel_rfl) | (rw [if_neg (by decide +kernel)]; exact ⟨rfl, rfl⟩))
    (fun os started H enc _ F => by rw [OpenClaim.pre_eq_preRow]; exact lifted os started H enc F)
theorem proved : Rows.ValueSortedUptoCardSaid :=
  Claim7.holds_tied_plain_at .later [] [.data, .pinned] true (true, "9205a0b7c70ce658cb0f743c8ef45cb93a91049249f31a9c8c27b87b0349fac9") true
    over (fun _ h => by cases h) (by kernel_rfl) (fun _ h => by cases h) valueSortedUpto_row_tie rfl ⟨rfl, rfl⟩ (by kernel_rfl) rfl
    (fun f fn hf hfn => by
      obtain rfl : f = 4 := Option.some.inj ((show Tryd.prog.funcNamed "relstore/relstorekeep.ValueSorted" = some 4 by kernel_rfl).symm.trans hf) |>.symm
      obtain rfl : fn = Tryd.f4 := (Option.some.inj (Tryd.func4.symm.trans hfn)).symm
      exact ⟨by kernel_rfl, fun j t ht => by
        rw [Tryd.params4] at ht
        have hm : t ∈ [22, 22] := by simpa using Array.mem_of_getElem? ht
        have hall : ([22, 22].all fun u => !Tryd.prog.wantsStandIn u) = true := by kernel_rfl
        exact (show Tryd.prog.wantsStandIn t = false by simpa using List.all_eq_true.1 hall t hm)⟩)
    (by kernel_rfl)
#print axioms proved
end Go.Proofs.YthaoaaboempajabDoor.valueSorted
namespace Go.Proofs.YthaoaaboempajabDoor
/-- The card, under a short name, for the claim. -/
theorem valueSortedUpto_holds : Rows.ValueSortedUptoCardSaid := valueSorted.proved
end Go.Proofs.YthaoaaboempajabDoor
