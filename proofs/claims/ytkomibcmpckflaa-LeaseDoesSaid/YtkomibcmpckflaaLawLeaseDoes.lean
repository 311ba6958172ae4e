-- Written by a program of this session's (an extension of the kit's print)
import Derived.Test.YtkomibcmpckflaaRows
import Derived.Test.YtkomibcmpckflaaPLeaseDoesx12
import Derived.Test.YtkomibcmpckflaaPureLeaseDoes
import Derived.WalkKit
import Derived.ProofKit
import Derived.OpenShut
import Derived.ShutString
import Derived.ChangeOld
import Derived.Below
import Derived.SizedLaws
import Derived.Test.YtkomibcmpckflaaWOpen
namespace Go.Proofs.Ytkomibcmpckflaa.leaseDoes
open Go.ChangeShapes Go.WideShapes Go.ChangeAt Go.RowKit Go.Proofs.YtkomibcmpckflaaW.PrintWords Go.Proofs.Ytkomibcmpckflaa.PLeaseDoes
open Go.ChangeMaps (open_string shut_string)
set_option linter.unusedVariables false
theorem own : ownKnob Try.prog.godebug = none := by kernel_rfl
theorem laidOut : laidOutB Try.prog = true := by kernel_rfl
set_option maxRecDepth 100000 in
theorem lifted (os : Os) (started : os.Started) (H : Type) (enc : TypeId × Value → H) :
    ReturnsInHanded {} Try.checked os 4 .any (Rows.leaseDoesSpec.pre6 enc Try.prog Try.f4 Rows.leaseDoesRow.domain false) (Rows.leaseDoesSpec.post enc Try.prog Try.f4 false true false false) := by
  refine returnsInHanded_of_change_sized (C := Try.checked) own started (by kernel_rfl) Try.func4
    (ChangeSpec.witness6 (enc := enc) (C := Try.checked) false ⟨#[], #[.slice none 0 0, .agg #[.int .i64 0, .slice none 0 0, .slice none 0 0, .slice none 0 0, .int .i64 0], .agg #[.int .i64 0, .int .i64 0]], []⟩ 8 (by kernel_rfl) (by kernel_rfl) (by kernel_rfl) (by kernel_rfl)) ?_
  intro W base args ds gs before hval0 hW hcnd hsz0 _
  have hsz : (DataW.weightsEach Try.prog (Try.f4.params.toList ++ Rows.leaseDoesSpec.plain.varTypes Try.prog) (ds ++ gs)).all (· ≤ reachBytes) = true := hsz0
  have hval : ∀ (j : Nat) t v, Try.f4.params[j]? = some t → args[j]? = some v → Value.okWide Try.prog W .any base t v := hval0
  have hW' := hW
  obtain ⟨p, q, hA0, hV, rfl, hfz, hnd⟩ := hW
  have hA : DataW.TrodAll enc Try.prog W 0 (fun _ => true) true Try.f4.params.toList args.toList ds p := hA0
  rw [Try.params4] at hA hval hsz
  obtain ⟨v0, vs0, d0, ds0, p0, q0, hargs, rfl, rfl, h0, r0⟩ := trodAll_cons hA
  obtain ⟨v1, vs1, d1, ds1, p1, q1, rfl, rfl, rfl, h1, r1⟩ := trodAll_cons r0
  obtain ⟨v2, vs2, d2, ds2, p2, q2, rfl, rfl, rfl, h2, r2⟩ := trodAll_cons r1
  obtain ⟨rfl, rfl, rfl⟩ := trodAll_nil r2
  obtain rfl : args = #[v0, v1, v2] := by cases args; simp_all
  obtain ⟨rfl, rfl⟩ := trodVars_none hV
  have k0 := h0
  have lt0 : ∀ x ∈ p0, x.block < W.heap.size := by obtain ⟨m, hm⟩ := k0; exact DataW.trod_lt m _ _ _ hm
  have wt0 : ∀ n ∈ d0.weights Try.prog 26, n ≤ reachBytes := fun n hn => by simpa using List.all_eq_true.1 hsz n (DataW.weights_mem_each (j := 0) (t := 26) (d := d0) rfl rfl n hn)
  obtain ⟨A0, n0, c0, rfl⟩ := okWide_slice Try.underlying26 (hval 0 26 v0 rfl rfl)
  obtain ⟨fu0, hf0⟩ := h0
  obtain ⟨l0, ⟨A0', c0', e0, hc0, hr0⟩, hg0⟩ := (Kd.opens_slice Try.underlying26 (by kernel_rfl) (by kernel_rfl) (o40)) H enc W fu0 _ _ hf0 wt0
  simp [Value.cells] at e0
  obtain ⟨rfl, rfl, rfl⟩ := e0
  have k1 := h1
  have lt1 : ∀ x ∈ p1, x.block < W.heap.size := by obtain ⟨m, hm⟩ := k1; exact DataW.trod_lt m _ _ _ hm
  have wt1 : ∀ n ∈ d1.weights Try.prog 28, n ≤ reachBytes := fun n hn => by simpa using List.all_eq_true.1 hsz n (DataW.weights_mem_each (j := 1) (t := 28) (d := d1) rfl rfl n hn)
  obtain ⟨cs1, rfl, hs1⟩ := okWide_struct Try.underlying28 (hval 1 28 v1 rfl rfl)
  obtain ⟨fu1, hf1⟩ := h1
  obtain ⟨x1, hK1, hG1⟩ := o28 H enc W fu1 _ _ hf1 wt1
  obtain ⟨A1_1, c1_1, A1_2, c1_2, A1_3, c1_3, e1, hc1_1, hr1_1, hc1_2, hr1_2, hc1_3, hr1_3⟩ := k28_open hK1
  have ec1 : cs1 = #[.int .i64 x1.f0, .slice A1_1 x1.f1.length c1_1, .slice A1_2 x1.f2.length c1_2, .slice A1_3 x1.f3.length c1_3, .int .i64 x1.f4] := by
    rw [← Array.toArray_toList (xs := cs1)]
    exact congrArg List.toArray e1
  subst ec1
  obtain ⟨hG1_0, hG1_1, hG1_2, hG1_3, hG1_4⟩ := hG1
  have hg1_0 := hG1_0
  have hg1_1 := hG1_1
  have hg1_2 := hG1_2
  have hg1_3 := hG1_3
  have hg1_4 := hG1_4
  have k2 := h2
  have lt2 : ∀ x ∈ p2, x.block < W.heap.size := by obtain ⟨m, hm⟩ := k2; exact DataW.trod_lt m _ _ _ hm
  have wt2 : ∀ n ∈ d2.weights Try.prog 29, n ≤ reachBytes := fun n hn => by simpa using List.all_eq_true.1 hsz n (DataW.weights_mem_each (j := 2) (t := 29) (d := d2) rfl rfl n hn)
  obtain ⟨cs2, rfl, hs2⟩ := okWide_arrayx Try.underlying29 (hval 2 29 v2 rfl rfl)
  obtain ⟨fu2, hf2⟩ := h2
  obtain ⟨x2, hK2, hG2⟩ := o29 H enc W fu2 _ _ hf2 wt2
  have e2 := k29_open hK2
  have ec2 : cs2 = #[.int .i64 x2.f0, .int .i64 x2.f1] := by
    rw [← Array.toArray_toList (xs := cs2)]
    exact congrArg List.toArray e2
  subst ec2
  obtain ⟨hG2_0, hG2_1⟩ := hG2
  have hg2_0 := hG2_0
  have hg2_1 := hG2_1
  try clear hA0 hval0 hsz0 hsz
  refine (PLeaseDoes.catenarylaw08_LeaseDoes.walk Pure.LeaseDoes A0 c0 l0 x1.f0 A1_1 c1_1 x1.f1 A1_2 c1_2 x1.f2 A1_3 c1_3 x1.f3 x1.f4 x2.f0 x2.f1 W hr0 hc0 hg0 hg1_0 hr1_1 hc1_1 hg1_1 hr1_2 hc1_2 hg1_2 hr1_3 hc1_3 hg1_3 hg1_4 hg2_0 hg2_1).mono fun e W' ⟨he, bel⟩ => ?_
  subst he
  exact ⟨_, rfl, _, _, _, [], _, [], hW', trodAll_mk1 (shut_bool Try.underlying4 _), (trodAll_cons_mk (Below.trod laidOut (by kernel_rfl) (of_decide_eq_true (by kernel_rfl)) k0 bel lt0) (trodAll_cons_mk (Below.trod laidOut (by kernel_rfl) (of_decide_eq_true (by kernel_rfl)) k1 bel lt1) (trodAll_cons_mk (Below.trod laidOut (by kernel_rfl) (of_decide_eq_true (by kernel_rfl)) k2 bel lt2) trodAll_mk0))), rfl, bel.frame _, fun h => by cases h⟩
theorem over : Rows.leaseDoesRow.holds Try.pinned (OpenSpec.ofChange Rows.leaseDoesSpec) :=
  OpenClaim.holds_of_wide 4 Try.f4 rfl rfl rfl rfl rfl rfl rfl ⟨rfl, rfl, rfl, rfl, rfl⟩ rfl rfl rfl rfl rfl (by kernel_rfl) Try.func4 (by kernel_rfl)
    (of_decide_eq_true (by kernel_rfl)) (by unfold Func.isWrapper; first | (rw [if_pos (by decide +kernel)]; kernel_rfl) | (rw [if_neg (by decide +kernel)]; exact ⟨rfl, rfl⟩))
    (fun os started H enc _ => lifted os started H enc)
theorem proved : Rows.LeaseDoesSaid := over
#print axioms proved
end Go.Proofs.Ytkomibcmpckflaa.leaseDoes
namespace Go.Proofs.Ytkomibcmpckflaa
/-- The row, under a short name, for the claim. -/
theorem leaseDoes_holds : Rows.LeaseDoesSaid := leaseDoes.proved
end Go.Proofs.Ytkomibcmpckflaa
