/- VoteUnlike, where what it reads is of bulk at most 1048576: two votes sign the same text just if they are for the same thing. -/
-- Written by a program of this session's (an extension of the kit's print)
import Derived.Test.YtlnfiknllnonhaaRows
import Derived.Test.YtlnfiknllnonhaaPVoteUnlikex5
import Derived.Test.YtlnfiknllnonhaaPureVoteUnlike
import Derived.WalkKit
import Derived.ProofKit
import Derived.OpenShut
import Derived.ShutString
import Derived.ChangeOld
import Derived.Below
import Derived.Deep.CondSized
import Derived.SizedLaws
import Derived.Test.YtlnfiknllnonhaaWOpen
namespace Go.Proofs.Ytlnfiknllnonhaa.voteUnlike
open Go.ChangeShapes Go.WideShapes Go.ChangeAt Go.RowKit Go.Proofs.YtlnfiknllnonhaaW.PrintWords Go.Proofs.Ytlnfiknllnonhaa.PVoteUnlike
open Go.ChangeMaps (open_string shut_string)
set_option linter.unusedVariables false
theorem own : ownKnob Try.prog.godebug = none := by kernel_rfl
theorem laidOut : laidOutB Try.prog = true := by kernel_rfl
theorem one_le {H : Type} (d : DataW H) : 1 ≤ Rows.uptoBulk d := by
  cases d with
  | lit l => cases l <;> simp [Rows.uptoBulk]
  | nil => simp [Rows.uptoBulk]
  | ptr d => simp [Rows.uptoBulk]
  | slice elems spare => simp [Rows.uptoBulk]
  | agg parts => simp [Rows.uptoBulk]
  | iface t d => simp [Rows.uptoBulk]
  | map entries => simp [Rows.uptoBulk]
  | held h => simp [Rows.uptoBulk]
theorem part_le {H : Type} {d : DataW H} {l : List (DataW H)} (h : d ∈ l) : Rows.uptoBulk d ≤ Rows.uptoBulkAll l := by
  induction l with
  | nil => cases h
  | cons x r ih =>
    simp only [Rows.uptoBulkAll]
    cases List.mem_cons.1 h with
    | inl e => subst e; omega
    | inr e => have := ih e; omega
theorem length_le {H : Type} (l : List (DataW H)) : l.length ≤ Rows.uptoBulkAll l := by
  induction l with
  | nil => simp [Rows.uptoBulkAll]
  | cons x r ih => have := one_le x; simp only [Rows.uptoBulkAll, List.length_cons]; omega
theorem short {H : Type} {enc : TypeId × Value → H} {W : World} {fu : Nat} {cs : List Value} {d : DataW H} {p : List MemPlace} {a v t s : Value} {A : Option Addr} {n c : Nat}
    (hf : DataW.trod enc Try.prog W 0 (fun _ => true) true fu 27 cs = some (d, p)) (e : cs = [a, v, t, s, .slice A n c]) : n ≤ Rows.uptoBulk d := by
  obtain ⟨xs, m, _, hx, hl, hlen, hf'⟩ := DataW.trod_struct Try.underlying27 hf
  have h3 : DataW.trod enc Try.prog W 0 (fun _ => true) true m 25 ((cs.drop 4).take (Try.prog.cellsOf 25)) = xs[3]? := hf' 3 _ rfl
  have hlen : xs.length = 4 := hlen
  rw [show Try.prog.cellsOf 25 = 1 by kernel_rfl, e, List.getElem?_eq_getElem (by omega)] at h3
  have h3 : DataW.trod enc Try.prog W 0 (fun _ => true) true m 25 [.slice A n c] = some (xs[3]) := h3
  have hd : d = .agg (xs.map (·.1)) := (Prod.mk.inj hx).1
  have hm : (xs[3]).1 ∈ xs.map (·.1) := List.mem_map_of_mem (List.getElem_mem _)
  have hp := part_le hm
  subst hd
  simp only [Rows.uptoBulk]
  rcases DataW.trod_slice Try.underlying25 h3 with ⟨e1, e2⟩ | ⟨a', len, cap, elems, rest, n', _, e1, e2, _, _, _, hle, _⟩
  · injection e1 with e1 _
    injection e1 with _ e1 _
    omega
  · injection e1 with e1 _
    injection e1 with _ e1 _
    rw [e2] at hp
    simp only [Rows.uptoBulk] at hp
    have := length_le (elems.map (·.1))
    rw [List.length_map] at this
    omega
theorem walkB (a0_0 : Int) (a0_1 : Int) (a0_2 : Int) (a0_3 : Int) (A0_4 : Option Addr) (c0_4 : Nat) (l0_4 : List Int) (a1_0 : Int) (a1_1 : Int) (a1_2 : Int) (a1_3 : Int) (A1_4 : Option Addr) (c1_4 : Nat) (l1_4 : List Int) (a2_0 : Int) (a2_1 : Int) (w : World) (hg0_0 : (Kd.gInt .i64) a0_0) (hg0_1 : (Kd.gInt .i64) a0_1) (hg0_2 : (Kd.gInt .i64) a0_2) (hg0_3 : (Kd.gInt .i64) a0_3) (hr0_4 : Kd.C (Kd.int .u8) w A0_4 l0_4.length l0_4) (hc0_4 : l0_4.length ≤ c0_4) (hg0_4 : (Kd.gSl 1 (Kd.gInt .u8)) l0_4) (hg1_0 : (Kd.gInt .i64) a1_0) (hg1_1 : (Kd.gInt .i64) a1_1) (hg1_2 : (Kd.gInt .i64) a1_2) (hg1_3 : (Kd.gInt .i64) a1_3) (hr1_4 : Kd.C (Kd.int .u8) w A1_4 l1_4.length l1_4) (hc1_4 : l1_4.length ≤ c1_4) (hg1_4 : (Kd.gSl 1 (Kd.gInt .u8)) l1_4) (hg2_0 : (Kd.gInt .i64) a2_0) (hg2_1 : (Kd.gInt .i64) a2_1) (hl0 : l0_4.length ≤ 1048576) (hl1 : l1_4.length ≤ 1048576) :
    Calls Try.prog 5 #[.agg #[.int .i64 a0_0, .int .i64 a0_1, .int .i64 a0_2, .int .i64 a0_3, .slice A0_4 l0_4.length c0_4], .agg #[.int .i64 a1_0, .int .i64 a1_1, .int .i64 a1_2, .int .i64 a1_3, .slice A1_4 l1_4.length c1_4], .agg #[.int .i64 a2_0, .int .i64 a2_1]] w fun e w' => e = .returned (.bool true) ∧ Below w.heap.size w w' := by
  obtain ⟨k, h⟩ := Pure.VoteUnlike a0_0 a0_1 a0_2 a0_3 l0_4 a1_0 a1_1 a1_2 a1_3 l1_4 a2_0 a2_1 hg0_0 hg0_1 hg0_2 hg0_3 hg0_4 hg1_0 hg1_1 hg1_2 hg1_3 hg1_4 hg2_0 hg2_1 hl0 hl1
  refine (catenarylaw06_VoteUnlike.calls k a0_0 a0_1 a0_2 a0_3 _ _ l0_4 a1_0 a1_1 a1_2 a1_3 _ _ l1_4 a2_0 a2_1 true w hr0_4 hc0_4 hr1_4 hc1_4 h).mono ?_
  rintro e w' ⟨rfl, hd⟩
  exact ⟨rfl, hd⟩
set_option maxRecDepth 100000 in
theorem contract (H : Type) (enc : TypeId × Value → H) (W : World) (base : Nat) (args : Array Value) (ds gs : List (DataW H)) (before : List MemPlace)
    (hval0 : ∀ (j : Nat) t v, Try.f5.params[j]? = some t → args[j]? = some v → Value.okWide Try.prog W .any base t v)
    (hW : DataW.Whole enc Try.prog Try.f5.params.toList Rows.voteUnlikeSpec.vars false W args.toList ds gs before) (hk : Rows.uptoSmall H (ds ++ gs) = true)
    (hsz0 : (DataW.weightsEach Try.prog (Try.f5.params.toList ++ Rows.voteUnlikeSpec.plain.varTypes Try.prog) (ds ++ gs)).all (· ≤ reachBytes) = true) :
    Calls Try.prog 5 args W fun e W' => ∃ v, e = .returned v ∧ Rows.voteUnlikeSpec.post enc Try.prog Try.f5 false true false false W args v W' := by
  have hsz : (DataW.weightsEach Try.prog (Try.f5.params.toList ++ Rows.voteUnlikeSpec.plain.varTypes Try.prog) (ds ++ gs)).all (· ≤ reachBytes) = true := hsz0
  have hval : ∀ (j : Nat) t v, Try.f5.params[j]? = some t → args[j]? = some v → Value.okWide Try.prog W .any base t v := hval0
  have hW' := hW
  obtain ⟨p, q, hA0, hV, rfl, hfz, hnd⟩ := hW
  have hA : DataW.TrodAll enc Try.prog W 0 (fun _ => true) true Try.f5.params.toList args.toList ds p := hA0
  rw [Try.params5] at hA hval hsz
  obtain ⟨v0, vs0, d0, ds0, p0, q0, hargs, rfl, rfl, h0, r0⟩ := trodAll_cons hA
  obtain ⟨v1, vs1, d1, ds1, p1, q1, rfl, rfl, rfl, h1, r1⟩ := trodAll_cons r0
  obtain ⟨v2, vs2, d2, ds2, p2, q2, rfl, rfl, rfl, h2, r2⟩ := trodAll_cons r1
  obtain ⟨rfl, rfl, rfl⟩ := trodAll_nil r2
  obtain rfl : args = #[v0, v1, v2] := by cases args; simp_all
  obtain ⟨rfl, rfl⟩ := trodVars_none hV
  have k0 := h0
  have lt0 : ∀ x ∈ p0, x.block < W.heap.size := by obtain ⟨m, hm⟩ := k0; exact DataW.trod_lt m _ _ _ hm
  have wt0 : ∀ n ∈ d0.weights Try.prog 27, n ≤ reachBytes := fun n hn => by simpa using List.all_eq_true.1 hsz n (DataW.weights_mem_each (j := 0) (t := 27) (d := d0) rfl rfl n hn)
  obtain ⟨cs0, rfl, hs0⟩ := okWide_struct Try.underlying27 (hval 0 27 v0 rfl rfl)
  obtain ⟨fu0, hf0⟩ := h0
  obtain ⟨x0, hK0, hG0⟩ := o27 H enc W fu0 _ _ hf0 wt0
  obtain ⟨A0_4, c0_4, e0, hc0_4, hr0_4⟩ := k27_open hK0
  have ec0 : cs0 = #[.int .i64 x0.f0, .int .i64 x0.f1.f0, .int .i64 x0.f1.f1, .int .i64 x0.f2, .slice A0_4 x0.f3.length c0_4] := by
    rw [← Array.toArray_toList (xs := cs0)]
    exact congrArg List.toArray e0
  subst ec0
  obtain ⟨hG0_0, hG0_1, hG0_2, hG0_3⟩ := hG0
  obtain ⟨hG0_1_0, hG0_1_1⟩ := hG0_1
  have hg0_0 := hG0_0
  have hg0_1 := hG0_1_0
  have hg0_2 := hG0_1_1
  have hg0_3 := hG0_2
  have hg0_4 := hG0_3
  have k1 := h1
  have lt1 : ∀ x ∈ p1, x.block < W.heap.size := by obtain ⟨m, hm⟩ := k1; exact DataW.trod_lt m _ _ _ hm
  have wt1 : ∀ n ∈ d1.weights Try.prog 27, n ≤ reachBytes := fun n hn => by simpa using List.all_eq_true.1 hsz n (DataW.weights_mem_each (j := 1) (t := 27) (d := d1) rfl rfl n hn)
  obtain ⟨cs1, rfl, hs1⟩ := okWide_struct Try.underlying27 (hval 1 27 v1 rfl rfl)
  obtain ⟨fu1, hf1⟩ := h1
  obtain ⟨x1, hK1, hG1⟩ := o27 H enc W fu1 _ _ hf1 wt1
  obtain ⟨A1_4, c1_4, e1, hc1_4, hr1_4⟩ := k27_open hK1
  have ec1 : cs1 = #[.int .i64 x1.f0, .int .i64 x1.f1.f0, .int .i64 x1.f1.f1, .int .i64 x1.f2, .slice A1_4 x1.f3.length c1_4] := by
    rw [← Array.toArray_toList (xs := cs1)]
    exact congrArg List.toArray e1
  subst ec1
  obtain ⟨hG1_0, hG1_1, hG1_2, hG1_3⟩ := hG1
  obtain ⟨hG1_1_0, hG1_1_1⟩ := hG1_1
  have hg1_0 := hG1_0
  have hg1_1 := hG1_1_0
  have hg1_2 := hG1_1_1
  have hg1_3 := hG1_2
  have hg1_4 := hG1_3
  have k2 := h2
  have lt2 : ∀ x ∈ p2, x.block < W.heap.size := by obtain ⟨m, hm⟩ := k2; exact DataW.trod_lt m _ _ _ hm
  have wt2 : ∀ n ∈ d2.weights Try.prog 35, n ≤ reachBytes := fun n hn => by simpa using List.all_eq_true.1 hsz n (DataW.weights_mem_each (j := 2) (t := 35) (d := d2) rfl rfl n hn)
  obtain ⟨cs2, rfl, hs2⟩ := okWide_arrayx Try.underlying35 (hval 2 35 v2 rfl rfl)
  obtain ⟨fu2, hf2⟩ := h2
  obtain ⟨x2, hK2, hG2⟩ := o35 H enc W fu2 _ _ hf2 wt2
  have e2 := k35_open hK2
  have ec2 : cs2 = #[.int .i64 x2.f0, .int .i64 x2.f1] := by
    rw [← Array.toArray_toList (xs := cs2)]
    exact congrArg List.toArray e2
  subst ec2
  obtain ⟨hG2_0, hG2_1⟩ := hG2
  have hg2_0 := hG2_0
  have hg2_1 := hG2_1
  try clear hA0 hval0 hsz0 hsz
  have hb : Rows.uptoBulkAll [d0, d1, d2] ≤ 1048576 := of_decide_eq_true hk
  have s0 := short hf0 rfl
  have s1 := short hf1 rfl
  simp only [Rows.uptoBulkAll] at hb
  refine (walkB x0.f0 x0.f1.f0 x0.f1.f1 x0.f2 A0_4 c0_4 x0.f3 x1.f0 x1.f1.f0 x1.f1.f1 x1.f2 A1_4 c1_4 x1.f3 x2.f0 x2.f1 W hg0_0 hg0_1 hg0_2 hg0_3 hr0_4 hc0_4 hg0_4 hg1_0 hg1_1 hg1_2 hg1_3 hr1_4 hc1_4 hg1_4 hg2_0 hg2_1 (by omega) (by omega)).mono fun e W' ⟨he, bel⟩ => ?_
  subst he
  exact ⟨_, rfl, _, _, _, [], _, [], hW', trodAll_mk1 (shut_bool Try.underlying4 _), (trodAll_cons_mk (Below.trod laidOut (by kernel_rfl) (of_decide_eq_true (by kernel_rfl)) k0 bel lt0) (trodAll_cons_mk (Below.trod laidOut (by kernel_rfl) (of_decide_eq_true (by kernel_rfl)) k1 bel lt1) (trodAll_cons_mk (Below.trod laidOut (by kernel_rfl) (of_decide_eq_true (by kernel_rfl)) k2 bel lt2) trodAll_mk0))), rfl, bel.frame _, fun h => by cases h⟩
set_option maxRecDepth 100000 in
theorem lifted (os : Os) (started : os.Started) (H : Type) (enc : TypeId × Value → H) (F : Stop.Interp) :
    ReturnsInHanded {} Try.checked os 5 .any ((Rows.OpenSpec.upto Rows.voteUnlikeSpec).pre6 enc Try.prog Try.f5 Rows.voteUnlikeUptoRow.domain false) (((Rows.OpenSpec.upto Rows.voteUnlikeSpec).at F).post enc Try.prog Try.f5 false true false false) := by
  refine returnsInHanded_of_cond_sized (C := Try.checked) (s := Rows.OpenSpec.upto Rows.voteUnlikeSpec) (k := Rows.uptoSmall) rfl own started (by kernel_rfl) Try.func5
    (OpenSpec.witness (enc := enc) (C := Try.checked) (s := Rows.OpenSpec.upto Rows.voteUnlikeSpec) (k := Rows.uptoSmall) rfl false ⟨#[], #[.agg #[.int .i64 0, .int .i64 0, .int .i64 0, .int .i64 0, .slice none 0 0], .agg #[.int .i64 0, .int .i64 0, .int .i64 0, .int .i64 0, .slice none 0 0], .agg #[.int .i64 0, .int .i64 0]], []⟩ 8 (by kernel_rfl) (by kernel_rfl) (by kernel_rfl)
      (x := ([.agg [.lit (.int .i64 0), .agg [.lit (.int .i64 0), .lit (.int .i64 0)], .lit (.int .i64 0), .nil], .agg [.lit (.int .i64 0), .agg [.lit (.int .i64 0), .lit (.int .i64 0)], .lit (.int .i64 0), .nil], .agg [.lit (.int .i64 0), .lit (.int .i64 0)]], [], [])) (by kernel_rfl) rfl (by kernel_rfl)) ?_
  intro W base args ds gs before hval hW _ hk hsz _
  exact contract H enc W base args ds gs before hval hW hk hsz
theorem over : Rows.VoteUnlikeUptoSaid :=
  OpenClaim.holds_of_cond 5 Try.f5 rfl rfl rfl rfl rfl rfl rfl ⟨rfl, rfl, rfl, rfl, rfl⟩ rfl rfl rfl rfl rfl (by kernel_rfl) Try.func5 (by kernel_rfl)
    (of_decide_eq_true (by kernel_rfl)) (by unfold Func.isWrapper; first | (rw [if_pos (by decide +kernel)]; kernel_rfl) | (rw [if_neg (by decide +kernel)]; exact ⟨rfl, rfl⟩))
    (fun os started H enc _ F => lifted os started H enc F)
theorem proved : Rows.VoteUnlikeUptoSaid := over
#print axioms proved
end Go.Proofs.Ytlnfiknllnonhaa.voteUnlike
namespace Go.Proofs.Ytlnfiknllnonhaa
/-- The row, under a short name, for the claim. -/
theorem voteUnlike_holds : Rows.VoteUnlikeUptoSaid := voteUnlike.proved
end Go.Proofs.Ytlnfiknllnonhaa
