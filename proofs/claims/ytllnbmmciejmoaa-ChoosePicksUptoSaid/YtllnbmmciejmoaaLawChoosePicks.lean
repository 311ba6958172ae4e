/- ChoosePicks, where what it reads is of bulk at most 1048576: lowest and highest slots, picks for a slot and for all are the document's, and the reports stay. -/
-- Written by a program of this session's (an extension of the kit's print)
import Derived.Test.YtllnbmmciejmoaaRows
import Derived.Test.YtllnbmmciejmoaaPChoosePicksx11
import Derived.Test.YtllnbmmciejmoaaPureChoosePicks
import Derived.WalkKit
import Derived.ProofKit
import Derived.OpenShut
import Derived.ShutString
import Derived.ChangeOld
import Derived.Below
import Derived.Deep.CondSized
import Derived.SizedLaws
import Derived.Test.YtllnbmmciejmoaaWOpen
namespace Go.Proofs.Ytllnbmmciejmoaa.choosePicks
open Go.ChangeShapes Go.WideShapes Go.ChangeAt Go.RowKit Go.Proofs.YtllnbmmciejmoaaW.PrintWords Go.Proofs.Ytllnbmmciejmoaa.PChoosePicks
open Go.ChangeMaps (open_string shut_string)
set_option linter.unusedVariables false
theorem own : ownKnob Try.prog.godebug = none := by kernel_rfl
theorem laidOut : laidOutB Try.prog = true := by kernel_rfl
theorem one_le {H : Type} (d : DataW H) : 1 ≤ Rows.uptoBulk d := by
  cases d with
  | lit l => cases l <;> simp [Rows.uptoBulk]
  | nil => simp [Rows.uptoBulk]
  | ptr d => simp [Rows.uptoBulk]
  | slice elems spare => simp [Rows.uptoBulk]
  | agg parts => simp [Rows.uptoBulk]
  | iface t d => simp [Rows.uptoBulk]
  | map entries => simp [Rows.uptoBulk]
  | held h => simp [Rows.uptoBulk]
theorem part_le {H : Type} {d : DataW H} {l : List (DataW H)} (h : d ∈ l) : Rows.uptoBulk d ≤ Rows.uptoBulkAll l := by
  induction l with
  | nil => cases h
  | cons x r ih =>
    simp only [Rows.uptoBulkAll]
    cases List.mem_cons.1 h with
    | inl e => subst e; omega
    | inr e => have := ih e; omega
theorem length_le {H : Type} (l : List (DataW H)) : l.length ≤ Rows.uptoBulkAll l := by
  induction l with
  | nil => simp [Rows.uptoBulkAll]
  | cons x r ih => have := one_le x; simp only [Rows.uptoBulkAll, List.length_cons]; omega
theorem row_le {H : Type} {enc : TypeId × Value → H} {W : World} {fu : Nat} {d : DataW H} {p : List MemPlace} {A : Option Addr} {n c : Nat}
    (hf : DataW.trod enc Try.prog W 0 (fun _ => true) true fu 28 [.slice A n c] = some (d, p)) : n ≤ Rows.uptoBulk d := by
  rcases DataW.trod_slice Try.underlying28 hf with ⟨e1, e2⟩ | ⟨a', len, cap, elems, rest, n', _, e1, e2, _, _, _, hle, _⟩
  · injection e1 with e1 _
    injection e1 with _ e1 _
    omega
  · injection e1 with e1 _
    injection e1 with _ e1 _
    have hd := (Prod.mk.inj e2).1
    subst hd
    simp only [Rows.uptoBulk]
    have := length_le (elems.map (·.1))
    rw [List.length_map] at this
    omega
theorem rep_le {H : Type} {enc : TypeId × Value → H} {W : World} {fu : Nat} {cs : List Value} {d : DataW H} {p : List MemPlace} {A : Option Addr} {n c : Nat}
    (hf : DataW.trod enc Try.prog W 0 (fun _ => true) true fu 30 cs = some (d, p)) (hl : cs.length = 8) (e : cs[6]? = some (.slice A n c)) : n ≤ Rows.uptoBulk d := by
  obtain ⟨xs, m, _, hx, hl2, hlen, hf'⟩ := DataW.trod_struct Try.underlying30 hf
  have h3 : DataW.trod enc Try.prog W 0 (fun _ => true) true m 28 ((cs.drop 6).take (Try.prog.cellsOf 28)) = xs[5]? := hf' 5 _ rfl
  have hlen : xs.length = 7 := hlen
  have hc : (cs.drop 6).take 1 = [.slice A n c] := by
    have h6 : 6 < cs.length := by omega
    rw [List.drop_eq_getElem_cons h6]
    rw [List.getElem?_eq_getElem h6] at e
    rw [Option.some.inj e]
    rfl
  rw [show Try.prog.cellsOf 28 = 1 by kernel_rfl, hc, List.getElem?_eq_getElem (by omega)] at h3
  have h3 : DataW.trod enc Try.prog W 0 (fun _ => true) true m 28 [.slice A n c] = some (xs[5]) := h3
  have hd : d = .agg (xs.map (·.1)) := (Prod.mk.inj hx).1
  have hm : (xs[5]).1 ∈ xs.map (·.1) := List.mem_map_of_mem (List.getElem_mem _)
  have hp := part_le hm
  have hr := row_le (d := (xs[5]).1) (p := (xs[5]).2) h3
  subst hd
  simp only [Rows.uptoBulk]
  omega
theorem sum_le {H : Type} : ∀ (l : List S30) (E : List (DataW H)), l.length ≤ E.length → (∀ (i : Nat) (r : S30) (d : DataW H), l[i]? = some r → E[i]? = some d → r.f5.length ≤ Rows.uptoBulk d) → (l.flatMap (fun r => r.f5)).length ≤ Rows.uptoBulkAll E
  | [], E, _, _ => by simp
  | r :: l, [], h, _ => by simp at h
  | r :: l, d :: E, h, hp => by
    have h1 := hp 0 r d rfl rfl
    have h2 := sum_le l E (by simp at h; omega) (fun i r' d' hr hd => hp (i + 1) r' d' (by simpa using hr) (by simpa using hd))
    rw [List.flatMap_cons, List.length_append]
    simp only [Rows.uptoBulkAll]
    omega
theorem short {H : Type} {enc : TypeId × Value → H} {W : World} {fu : Nat} {d : DataW H} {p : List MemPlace} {A : Option Addr} {c : Nat} {l : List S30}
    (hf : DataW.trod enc Try.prog W 0 (fun _ => true) true fu 22 [.slice A l.length c] = some (d, p)) (hr : Kd.C k30 W A l.length l) : (l.flatMap (fun r => r.f5)).length ≤ Rows.uptoBulk d := by
  rcases DataW.trod_slice Try.underlying22 hf with ⟨e1, e2⟩ | ⟨a', len, cap, elems, rest, n', e0, e1, e2, _, _, _, hle, hel, _⟩
  · injection e1 with e1 _
    injection e1 with _ e1 _
    rw [List.eq_nil_of_length_eq_zero e1]
    simp
  · injection e1 with e1 _
    injection e1 with eA e1 _
    have hd := (Prod.mk.inj e2).1
    subst hd
    simp only [Rows.uptoBulk]
    have h := sum_le l (elems.map (·.1)) (by rw [List.length_map]; omega) (fun i r d' hri hdi => by
      have hil : i < l.length := (List.getElem?_eq_some_iff.1 hri).1
      have h1 := hel i (by omega)
      rw [List.getElem?_eq_getElem (by omega)] at h1
      obtain ⟨cs', h2, h3⟩ := Option.bind_eq_some_iff.1 h1
      obtain ⟨_, h4, h5⟩ := World.cells?_some h2
      have hsz : Try.prog.cellsOf 30 = 8 := by kernel_rfl
      obtain ⟨ad, A4, c4, A5, c5, A6, c6, A7, c7, e, _, _, _, _, _, _, hx6, _⟩ := at_T30 hr (i : Int) (by omega) (by omega)
      have ea : ad = a' := by rw [eA] at e; exact (Option.some.inj e).symm
      subst ea
      have h6 := h5 6 (by rw [hsz]; omega)
      rw [Go.Deep.add_add, hsz] at h6
      rw [Int.toNat_natCast] at hx6
      have hrr : rd_T30 l (i : Int) = r := by
        unfold rd_T30
        rw [Int.toNat_natCast, List.getD_eq_getElem?_getD, hri]
        rfl
      rw [hrr] at hx6
      have hx6' : W.cell? (ad.add (i * 8 + 6)) = some (.slice A6 r.f5.length c6) := by
        rw [add_field _ _ 6 (by omega)]
        exact hx6
      rw [hx6'] at h6
      have hd2 : d' = (elems[i]).1 := by
        rw [List.getElem?_map, List.getElem?_eq_getElem (by omega)] at hdi
        exact (Option.some.inj hdi).symm
      rw [hd2]
      exact rep_le (p := (elems[i]).2) h3 (by rw [h4, hsz]) h6.symm)
    omega
theorem walkB (A0 : Option Addr) (c0 : Nat) (l0 : List (S30)) (a1 : Int) (w : World) (hr0 : Kd.C k30 w A0 l0.length l0) (hc0 : l0.length ≤ c0) (hg0 : (Kd.gSl 128 g30) l0) (hg1 : (Kd.gInt .i64) a1) (hl0 : (l0.flatMap (fun r => r.f5)).length ≤ 1048576) :
    Calls Try.prog 3 #[.slice A0 l0.length c0, .int .i64 a1] w fun e w' => e = .returned (.bool true) ∧ Below w.heap.size w w' := by
  obtain ⟨k, h⟩ := Pure.ChoosePicks l0 a1 hg0 hg1 hl0
  refine (catenarylaw18_ChoosePicks.calls k _ _ l0 a1 true w hr0 hc0 h).mono ?_
  rintro e w' ⟨rfl, hd⟩
  exact ⟨rfl, hd⟩
set_option maxRecDepth 100000 in
theorem contract (H : Type) (enc : TypeId × Value → H) (W : World) (base : Nat) (args : Array Value) (ds gs : List (DataW H)) (before : List MemPlace)
    (hval0 : ∀ (j : Nat) t v, Try.f3.params[j]? = some t → args[j]? = some v → Value.okWide Try.prog W .any base t v)
    (hW : DataW.Whole enc Try.prog Try.f3.params.toList Rows.choosePicksSpec.vars false W args.toList ds gs before) (hk : Rows.uptoSmall H (ds ++ gs) = true)
    (hsz0 : (DataW.weightsEach Try.prog (Try.f3.params.toList ++ Rows.choosePicksSpec.plain.varTypes Try.prog) (ds ++ gs)).all (· ≤ reachBytes) = true) :
    Calls Try.prog 3 args W fun e W' => ∃ v, e = .returned v ∧ Rows.choosePicksSpec.post enc Try.prog Try.f3 false true false false W args v W' := by
  have hsz : (DataW.weightsEach Try.prog (Try.f3.params.toList ++ Rows.choosePicksSpec.plain.varTypes Try.prog) (ds ++ gs)).all (· ≤ reachBytes) = true := hsz0
  have hval : ∀ (j : Nat) t v, Try.f3.params[j]? = some t → args[j]? = some v → Value.okWide Try.prog W .any base t v := hval0
  have hW' := hW
  obtain ⟨p, q, hA0, hV, rfl, hfz, hnd⟩ := hW
  have hA : DataW.TrodAll enc Try.prog W 0 (fun _ => true) true Try.f3.params.toList args.toList ds p := hA0
  rw [Try.params3] at hA hval hsz
  obtain ⟨v0, vs0, d0, ds0, p0, q0, hargs, rfl, rfl, h0, r0⟩ := trodAll_cons hA
  obtain ⟨v1, vs1, d1, ds1, p1, q1, rfl, rfl, rfl, h1, r1⟩ := trodAll_cons r0
  obtain ⟨rfl, rfl, rfl⟩ := trodAll_nil r1
  obtain rfl : args = #[v0, v1] := by cases args; simp_all
  obtain ⟨rfl, rfl⟩ := trodVars_none hV
  have k0 := h0
  have lt0 : ∀ x ∈ p0, x.block < W.heap.size := by obtain ⟨m, hm⟩ := k0; exact DataW.trod_lt m _ _ _ hm
  have wt0 : ∀ n ∈ d0.weights Try.prog 22, n ≤ reachBytes := fun n hn => by simpa using List.all_eq_true.1 hsz n (DataW.weights_mem_each (j := 0) (t := 22) (d := d0) rfl rfl n hn)
  obtain ⟨A0, n0, c0, rfl⟩ := okWide_slice Try.underlying22 (hval 0 22 v0 rfl rfl)
  obtain ⟨fu0, hf0⟩ := h0
  obtain ⟨l0, ⟨A0', c0', e0, hc0, hr0⟩, hg0⟩ := (Kd.opens_slice Try.underlying22 (by kernel_rfl) (by kernel_rfl) (o30)) H enc W fu0 _ _ hf0 wt0
  simp [Value.cells] at e0
  obtain ⟨rfl, rfl, rfl⟩ := e0
  have k1 := h1
  have lt1 : ∀ x ∈ p1, x.block < W.heap.size := by obtain ⟨m, hm⟩ := k1; exact DataW.trod_lt m _ _ _ hm
  have wt1 : ∀ n ∈ d1.weights Try.prog 3, n ≤ reachBytes := fun n hn => by simpa using List.all_eq_true.1 hsz n (DataW.weights_mem_each (j := 1) (t := 3) (d := d1) rfl rfl n hn)
  obtain ⟨a1, rfl, rfl, rfl, hg1⟩ := open_int Try.underlying3 (hval 1 3 v1 rfl rfl) h1
  try clear hA0 hval0 hsz0 hsz
  have hb : Rows.uptoBulkAll [d0, .lit (.int .i64 a1)] ≤ 1048576 := of_decide_eq_true hk
  have s0 := short hf0 hr0
  simp only [Rows.uptoBulkAll] at hb
  refine (walkB A0 c0 l0 a1 W hr0 hc0 hg0 hg1 (by omega)).mono fun e W' ⟨he, bel⟩ => ?_
  subst he
  exact ⟨_, rfl, _, _, _, [], _, [], hW', trodAll_mk1 (shut_bool Try.underlying4 _), (trodAll_cons_mk (Below.trod laidOut (by kernel_rfl) (of_decide_eq_true (by kernel_rfl)) k0 bel lt0) (trodAll_cons_mk (shut_int Try.underlying3 hg1) trodAll_mk0)), rfl, bel.frame _, fun h => by cases h⟩
set_option maxRecDepth 100000 in
theorem lifted (os : Os) (started : os.Started) (H : Type) (enc : TypeId × Value → H) (F : Stop.Interp) :
    ReturnsInHanded {} Try.checked os 3 .any ((Rows.OpenSpec.upto Rows.choosePicksSpec).pre6 enc Try.prog Try.f3 Rows.choosePicksUptoRow.domain false) (((Rows.OpenSpec.upto Rows.choosePicksSpec).at F).post enc Try.prog Try.f3 false true false false) := by
  refine returnsInHanded_of_cond_sized (C := Try.checked) (s := Rows.OpenSpec.upto Rows.choosePicksSpec) (k := Rows.uptoSmall) rfl own started (by kernel_rfl) Try.func3
    (OpenSpec.witness (enc := enc) (C := Try.checked) (s := Rows.OpenSpec.upto Rows.choosePicksSpec) (k := Rows.uptoSmall) rfl false ⟨#[], #[.slice none 0 0, .int .i64 0], []⟩ 8 (by kernel_rfl) (by kernel_rfl) (by kernel_rfl)
      (x := ([.nil, .lit (.int .i64 0)], [], [])) (by kernel_rfl) rfl (by kernel_rfl)) ?_
  intro W base args ds gs before hval hW _ hk hsz _
  exact contract H enc W base args ds gs before hval hW hk hsz
theorem over : Rows.ChoosePicksUptoSaid :=
  OpenClaim.holds_of_cond 3 Try.f3 rfl rfl rfl rfl rfl rfl rfl ⟨rfl, rfl, rfl, rfl, rfl⟩ rfl rfl rfl rfl rfl (by kernel_rfl) Try.func3 (by kernel_rfl)
    (of_decide_eq_true (by kernel_rfl)) (by unfold Func.isWrapper; first | (rw [if_pos (by decide +kernel)]; kernel_rfl) | (rw [if_neg (by decide +kernel)]; exact ⟨rfl, rfl⟩))
    (fun os started H enc _ F => lifted os started H enc F)
theorem proved : Rows.ChoosePicksUptoSaid := over
#print axioms proved
end Go.Proofs.Ytllnbmmciejmoaa.choosePicks
namespace Go.Proofs.Ytllnbmmciejmoaa
/-- The row, under a short name, for the claim. -/
theorem choosePicks_holds : Rows.ChoosePicksUptoSaid := choosePicks.proved
end Go.Proofs.Ytllnbmmciejmoaa
