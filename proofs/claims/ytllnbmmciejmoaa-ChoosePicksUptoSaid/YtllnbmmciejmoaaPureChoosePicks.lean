/- ChoosePicks over lists and numbers alone: where the reports have at most 1048576 preps in all, the law's function answers true. -/
import Derived.Test.YtllnbmmciejmoaaPChoosePicksx11
import Derived.KernelRfl
import Derived.Lib.Bytes
namespace Go.Proofs.Ytllnbmmciejmoaa.Pure
open Go Go.RowKit Go.Proofs.Ytllnbmmciejmoaa.PChoosePicks Go.Proofs.YtllnbmmciejmoaaW.PrintWords Go.Proofs.YtllnbmmciejmoaaW.PrintLast Go.Proofs.YtllnbmmciejmoaaW.PrintMore
set_option linter.unusedVariables false
set_option linter.unusedSimpArgs false
theorem w64 (i : Nat) (h : i < 1000000000000000000) : wrap64 ((i : Int) + 1) = ((i + 1 : Nat) : Int) := by unfold wrap64; omega
theorem ev_succ {α : Type} {g : Nat → Option α} {r : α} (h : Ev (fun k => g (k + 1)) r) : Ev g r := Ev.step (fun _ => rfl) h
theorem rd57 (xs : List S57) (i : Nat) (h : i < xs.length) : rd_T57 xs (i : Int) = xs[i] := by
  unfold rd_T57
  rw [Int.toNat_natCast, List.getD_eq_getElem?_getD, List.getElem?_eq_getElem h]; rfl
theorem rd45 (xs : List S45) (i : Nat) (h : i < xs.length) : rd_T45 xs (i : Int) = xs[i] := by
  unfold rd_T45
  rw [Int.toNat_natCast, List.getD_eq_getElem?_getD, List.getElem?_eq_getElem h]; rfl
theorem rd30 (xs : List S30) (i : Nat) (h : i < xs.length) : rd_T30 xs (i : Int) = xs[i] := by
  unfold rd_T30
  rw [Int.toNat_natCast, List.getD_eq_getElem?_getD, List.getElem?_eq_getElem h]; rfl
/-! what a right input is -/
def okReq (q : S36) : Prop := q.f2.length < 140737488355328 ∧ q.f3.length < 140737488355328
def okVotes (l : List S57) : Prop := l.length < 4398046511104 ∧ ∀ x ∈ l, x.f1.length < 140737488355328
def okPreps (l : List S45) : Prop := l.length < 1256584717458 ∧ ∀ x ∈ l, okReq x.f2 ∧ okVotes x.f3
def okRep (r : S30) : Prop := r.f3.length < 140737488355328 ∧ okVotes r.f4 ∧ okPreps r.f5 ∧ r.f6.length < 140737488355328
def okAll (l : List S30) : Prop := l.length < 1099511627776 ∧ ∀ r ∈ l, okRep r
theorem copyv_l0 (l : List S57) (hx : l.length < 4398046511104) (hn : ∀ x ∈ l, x.f1.length < 140737488355328) : ∀ (d i : Nat) (acc : List S57), d + i = l.length → acc.length = i → Ev (fun k => catenaryref05_CopyVotes.l0 k acc l (l.length : Int) (i : Int)) (acc ++ l.drop i)
  | 0, i, acc, hd, ha => by
    have e1 : ¬ (i : Int) < (l.length : Int) := by omega
    refine ev_succ ?_
    simp only [catenaryref05_CopyVotes.l0, if_neg e1]
    rw [List.drop_eq_nil_of_le (by omega), List.append_nil]
    exact Ev.now _
  | d + 1, i, acc, hd, ha => by
    have hi : i < l.length := by omega
    have e1 : (i : Int) < (l.length : Int) := by omega
    have e2 : (0 : Int) ≤ (i : Int) := by omega
    have e3 : acc.length < 4398046511104 := by omega
    have ew : wrap64 ((i : Int) + 1) = ((i + 1 : Nat) : Int) := w64 i (by omega)
    have en : ([] : List Int).length + (l[i]).f1.length < 140737488355328 := by
      have := hn _ (List.getElem_mem hi)
      rw [List.length_nil]; omega
    have ih := copyv_l0 l hx hn d (i + 1) (acc ++ [l[i]]) (by omega) (by rw [List.length_append, ha]; rfl)
    rw [List.append_assoc, List.singleton_append] at ih
    rw [List.drop_eq_getElem_cons hi]
    refine ev_succ ?_
    simp only [catenaryref05_CopyVotes.l0, if_pos e1, if_pos e2, rd57 l i hi, Option.bind_some, if_pos e3, if_pos en, List.nil_append, ew]
    exact ih
theorem copyv_ev (l : List S57) (h : okVotes l) : Ev (fun k => catenaryref05_CopyVotes.f k l) l := by
  simp only [catenaryref05_CopyVotes.f]
  exact copyv_l0 l h.1 h.2 l.length 0 [] (by omega) rfl
theorem copyq (a b : Int) (l m : List Int) (h1 : l.length < 140737488355328) (h2 : m.length < 140737488355328) : catenaryref05_CopyReq.f a b l m = some (a, b, l, m) := by
  have e1 : ([] : List Int).length + l.length < 140737488355328 := by rw [List.length_nil]; omega
  have e2 : ([] : List Int).length + m.length < 140737488355328 := by rw [List.length_nil]; omega
  simp only [catenaryref05_CopyReq.f, Option.bind_some, if_pos e1, if_pos e2, List.nil_append]
theorem copyr_l0 (l : List S45) (h : okPreps l) (a b c d5 : Int) (m : List Int) (v : List S57) (p8 : List S45) (s : List Int) : ∀ (d i : Nat) (acc : List S45), d + i = l.length → acc.length = i →
    Ev (fun k => catenaryref05_CopyReport.l0 k acc l (l.length : Int) (i : Int) a b c d5 m v p8 s) (a, b, c, d5, m, v, acc ++ l.drop i, s)
  | 0, i, acc, hd, ha => by
    have e1 : ¬ (i : Int) < (l.length : Int) := by omega
    refine ev_succ ?_
    simp only [catenaryref05_CopyReport.l0, if_neg e1]
    rw [List.drop_eq_nil_of_le (by omega), List.append_nil]
    exact Ev.now _
  | d + 1, i, acc, hd, ha => by
    have hi : i < l.length := by omega
    have e1 : (i : Int) < (l.length : Int) := by omega
    have e2 : (0 : Int) ≤ (i : Int) := by omega
    have hl := h.1
    have e3 : acc.length < 1256584717458 := by omega
    have ew : wrap64 ((i : Int) + 1) = ((i + 1 : Nat) : Int) := w64 i (by omega)
    obtain ⟨hq, hv⟩ := h.2 _ (List.getElem_mem hi)
    have ih := copyr_l0 l h a b c d5 m v p8 s d (i + 1) (acc ++ [l[i]]) (by omega) (by rw [List.length_append, ha]; rfl)
    rw [List.append_assoc, List.singleton_append] at ih
    rw [List.drop_eq_getElem_cons hi]
    refine ev_succ ?_
    simp only [catenaryref05_CopyReport.l0, if_pos e1, if_pos e2, rd45 l i hi, copyq _ _ _ _ hq.1 hq.2, Option.bind_some, if_pos e3, ew]
    exact Ev.bind (copyv_ev _ hv) ih
theorem copyrep_ev (r : S30) (h : okRep r) : Ev (fun k => catenaryref05_CopyReport.f k r.f0.f0 r.f0.f1 r.f1 r.f2 r.f3 r.f4 r.f5 r.f6) (r.f0.f0, r.f0.f1, r.f1, r.f2, r.f3, r.f4, r.f5, r.f6) := by
  have e1 : ([] : List Int).length + r.f3.length < 140737488355328 := by have := h.1; rw [List.length_nil]; omega
  have e2 : ([] : List Int).length + r.f6.length < 140737488355328 := by have := h.2.2.2; rw [List.length_nil]; omega
  simp only [catenaryref05_CopyReport.f, Option.bind_some, if_pos e1, if_pos e2, List.nil_append]
  refine Ev.bind (copyv_ev _ h.2.1) ?_
  have := copyr_l0 r.f5 h.2.2.1 r.f0.f0 r.f0.f1 r.f1 r.f2 r.f3 r.f4 r.f5 r.f6 r.f5.length 0 [] (by omega) rfl
  exact this
/-! ballots -/
def cmpI (a b : Int) : Int := if a < b then -1 else if a > b then 1 else 0
theorem cmpI_is (a b : Int) : cmp_Compare_int.f a b = some (cmpI a b) := by
  have e : ∀ x : Int, (x != x) = false := fun x => by simp
  simp only [cmp_Compare_int.f, cmp_isNaN_int.f, e, Option.bind_some, Bool.false_eq_true, if_false]
  unfold cmpI
  split
  · rfl
  · split <;> rfl
def cmpB (a b c d : Int) : Int := if cmpI a c = 0 then cmpI b d else cmpI a c
theorem or_ev (x y : Int) : Ev (fun k => cmp_Or_int.f k [x, y]) (if x = 0 then y else x) := by
  simp only [cmp_Or_int.f]
  apply ev_succ
  have r0 : rd [x, y] 0 = x := rfl
  have r1 : rd [x, y] 1 = y := rfl
  have w0 : wrap64 (0 + 1) = 1 := by unfold wrap64; omega
  have w1 : wrap64 (1 + 1) = 2 := by unfold wrap64; omega
  by_cases hx : x = 0
  · subst hx
    simp only [cmp_Or_int.l0, r0, w0]
    apply ev_succ
    by_cases hy : y = 0
    · subst hy
      simp only [cmp_Or_int.l0, r1, w1]
      apply ev_succ
      simp [cmp_Or_int.l0]
      exact Ev.now _
    · simp [cmp_Or_int.l0, r1, hy]
      exact Ev.now _
  · simp [cmp_Or_int.l0, r0, hx]
    exact Ev.now _
theorem cmpB_ev (a b c d : Int) : Ev (fun k => ballot_Compare.f k a b c d) (cmpB a b c d) := by
  simp only [ballot_Compare.f, cmpI_is, Option.bind_some]
  exact Ev.bind (or_ev _ _) (Ev.now _)
def gtP (p q : S45) : Bool := decide (cmpB p.f1.f0 p.f1.f1 q.f1.f0 q.f1.f1 > 0)
theorem gtP_iff (p q : S45) : gtP p q = true ↔ (p.f1.f0 > q.f1.f0 ∨ (p.f1.f0 = q.f1.f0 ∧ p.f1.f1 > q.f1.f1)) := by
  unfold gtP cmpB cmpI
  rw [decide_eq_true_eq]
  constructor
  · intro h
    repeat' split at h
    all_goals omega
  · intro h
    repeat' split
    all_goals omega
/-! choose.best -/
def upR (o : Option S45) (p : S45) : Option S45 := match o with
  | none => some p
  | some q => if gtP p q = true then some p else some q
def bestIn (s : Int) (o : Option S45) (l : List S45) : Option S45 := l.foldl (fun o p => if p.f0 = s then upR o p else o) o
def bestL (s : Int) (o : Option S45) (l : List S30) : Option S45 := l.foldl (fun o r => bestIn s o r.f5) o
theorem up_ev (o : Option S45) (p : S45) : Ev (fun k => choose_best.up k o p) (upR o p) := by
  cases o with
  | none => exact Ev.now _
  | some q =>
    refine Ev.bind (g := fun k => ballot_Compare.f k p.f1.f0 p.f1.f1 q.f1.f0 q.f1.f1) (f := fun _ t => if t > 0 then some (some p) else some (some q)) (cmpB_ev _ _ _ _) ?_
    show Ev (fun _ => if cmpB p.f1.f0 p.f1.f1 q.f1.f0 q.f1.f1 > 0 then some (some p) else some (some q)) (if gtP p q = true then some p else some q)
    unfold gtP
    by_cases h : cmpB p.f1.f0 p.f1.f1 q.f1.f0 q.f1.f1 > 0
    · simp only [if_pos h, decide_eq_true h, if_true]; exact Ev.now _
    · simp only [if_neg h, decide_eq_false h, Bool.false_eq_true, if_false]; exact Ev.now _
theorem best_l1 (s : Int) (l : List S30) (n x12 : Int) (p : List S45) (hp : p.length < 1256584717458) (R : Option S45) : ∀ (d i : Nat) (o : Option S45), d + i = p.length →
    Ev (fun k => choose_best.l0 k s (bestIn s o (p.drop i)) l n (wrap64 (x12 + 1))) R → Ev (fun k => choose_best.l1 k s o l n x12 p (p.length : Int) (i : Int)) R
  | 0, i, o, hd, h => by
    have e1 : ¬ (i : Int) < (p.length : Int) := by omega
    refine ev_succ ?_
    simp only [choose_best.l1, if_neg e1]
    rw [List.drop_eq_nil_of_le (by omega)] at h
    exact h
  | d + 1, i, o, hd, h => by
    have hi : i < p.length := by omega
    have e1 : (i : Int) < (p.length : Int) := by omega
    have e2 : (0 : Int) ≤ (i : Int) := by omega
    have ew : wrap64 ((i : Int) + 1) = ((i + 1 : Nat) : Int) := w64 i (by omega)
    rw [List.drop_eq_getElem_cons hi] at h
    refine ev_succ ?_
    by_cases hs : (p[i]).f0 = s
    · simp only [choose_best.l1, if_pos e1, if_pos e2, rd45 p i hi, if_pos hs, ew]
      refine Ev.bind (up_ev _ _) ?_
      refine best_l1 s l n x12 p hp R d (i + 1) _ (by omega) ?_
      have e : bestIn s o (p[i] :: p.drop (i + 1)) = bestIn s (upR o p[i]) (p.drop (i + 1)) := by
        unfold bestIn; rw [List.foldl_cons, if_pos hs]
      rw [e] at h
      exact h
    · simp only [choose_best.l1, if_pos e1, if_pos e2, rd45 p i hi, if_neg hs, ew]
      refine best_l1 s l n x12 p hp R d (i + 1) _ (by omega) ?_
      have e : bestIn s o (p[i] :: p.drop (i + 1)) = bestIn s o (p.drop (i + 1)) := by
        unfold bestIn; rw [List.foldl_cons, if_neg hs]
      rw [e] at h
      exact h
theorem best_l0 (s : Int) (l : List S30) (hl : okAll l) : ∀ (d i : Nat) (o : Option S45), d + i = l.length → Ev (fun k => choose_best.l0 k s o l (l.length : Int) (i : Int)) (bestL s o (l.drop i))
  | 0, i, o, hd => by
    have e1 : ¬ (i : Int) < (l.length : Int) := by omega
    refine ev_succ ?_
    simp only [choose_best.l0, if_neg e1]
    rw [List.drop_eq_nil_of_le (by omega)]
    exact Ev.now _
  | d + 1, i, o, hd => by
    have hi : i < l.length := by omega
    have e1 : (i : Int) < (l.length : Int) := by omega
    have e2 : (0 : Int) ≤ (i : Int) := by omega
    have hl1 := hl.1
    have ew : wrap64 ((i : Int) + 1) = ((i + 1 : Nat) : Int) := w64 i (by omega)
    rw [List.drop_eq_getElem_cons hi]
    refine ev_succ ?_
    simp only [choose_best.l0, if_pos e1, if_pos e2, rd30 l i hi]
    have ih := best_l0 s l hl d (i + 1) (bestIn s o (l[i]).f5) (by omega)
    have hp := (hl.2 _ (List.getElem_mem hi)).2.2.1.1
    refine best_l1 s l (l.length : Int) (i : Int) (l[i]).f5 hp _ (l[i]).f5.length 0 o (by omega) ?_
    rw [List.drop_zero, ew]
    exact ih
theorem best_ev (s : Int) (l : List S30) (hl : okAll l) : Ev (fun k => choose_best.f k s l) (bestL s none l) := by
  have := best_l0 s l hl l.length 0 none (by omega)
  rw [List.drop_zero] at this
  exact this
def reqOf (o : Option S45) : Int × Int × List Int × List Int := match o with
  | none => (0, 0, [], [])
  | some q => (q.f2.f0, q.f2.f1, q.f2.f2, q.f2.f3)
/-- all preps at a slot -/
def atS (s : Int) (l : List S30) : List S45 := (l.flatMap (fun r => r.f5)).filter (fun p => decide (p.f0 = s))
theorem bestIn_fold (s : Int) (l : List S45) : ∀ o, bestIn s o l = (l.filter (fun p => decide (p.f0 = s))).foldl upR o := by
  induction l with
  | nil => intro o; rfl
  | cons p t ih =>
    intro o
    have e : bestIn s o (p :: t) = bestIn s (if p.f0 = s then upR o p else o) t := rfl
    rw [e, ih]
    by_cases h : p.f0 = s
    · rw [if_pos h, List.filter_cons, if_pos (decide_eq_true h), List.foldl_cons]
    · rw [if_neg h, List.filter_cons, if_neg (by simp [h])]
theorem bestL_fold (s : Int) (l : List S30) : ∀ o, bestL s o l = (atS s l).foldl upR o := by
  induction l with
  | nil => intro o; rfl
  | cons r t ih =>
    intro o
    have e : bestL s o (r :: t) = bestL s (bestIn s o r.f5) t := rfl
    rw [e, ih, bestIn_fold]
    unfold atS
    rw [List.flatMap_cons, List.filter_append, List.foldl_append]
theorem fold_top : ∀ (l : List S45) (q : S45), ∃ b, l.foldl upR (some q) = some b ∧ (b = q ∨ b ∈ l) ∧ gtP q b = false ∧ ∀ x ∈ l, gtP x b = false
  | [], q => ⟨q, rfl, .inl rfl, by
      rw [Bool.eq_false_iff]; intro h; rw [gtP_iff] at h; omega, fun _ h => by cases h⟩
  | p :: t, q => by
    by_cases h : gtP p q = true
    · obtain ⟨b, e, hm, hq, hx⟩ := fold_top t p
      have eu : upR (some q) p = some p := by unfold upR; simp only [h, if_true]
      refine ⟨b, by rw [List.foldl_cons, eu]; exact e, .inr ?_, ?_, ?_⟩
      · rcases hm with rfl | hm
        · exact List.mem_cons_self
        · exact List.mem_cons_of_mem _ hm
      · rw [Bool.eq_false_iff] at hq ⊢
        intro h2
        apply hq
        rw [gtP_iff] at h h2 ⊢
        omega
      · intro x hx2
        rcases List.mem_cons.1 hx2 with rfl | hx2
        · exact hq
        · exact hx x hx2
    · obtain ⟨b, e, hm, hq, hx⟩ := fold_top t q
      have eu : upR (some q) p = some q := by unfold upR; simp only [Bool.eq_false_iff.mpr h, Bool.false_eq_true, if_false]
      refine ⟨b, by rw [List.foldl_cons, eu]; exact e, ?_, hq, ?_⟩
      · rcases hm with rfl | hm
        · exact .inl rfl
        · exact .inr (List.mem_cons_of_mem _ hm)
      · intro x hx2
        rcases List.mem_cons.1 hx2 with rfl | hx2
        · rw [Bool.eq_false_iff] at hq ⊢
          intro h2
          apply hq
          rw [gtP_iff] at h h2 ⊢
          omega
        · exact hx x hx2
theorem pick_ev (s : Int) (l : List S30) (hl : okAll l) : Ev (fun k => choose_Pick.f k s l) (reqOf (bestL s none l)) := by
  refine Ev.bind (g := fun k => choose_best.f k s l) (f := fun _ o => choose_Pick.g o) (best_ev s l hl) ?_
  rw [bestL_fold]
  cases h : (atS s l) with
  | nil => exact Ev.now _
  | cons p t =>
    obtain ⟨b, e, hm, _, _⟩ := fold_top t p
    have eb : List.foldl upR none (p :: t) = some b := e
    rw [eb]
    have hb : b ∈ atS s l := by
      rw [h]
      rcases hm with rfl | hm
      · exact List.mem_cons_self
      · exact List.mem_cons_of_mem _ hm
    unfold atS at hb
    rw [List.mem_filter, List.mem_flatMap] at hb
    obtain ⟨⟨r, hr, hbr⟩, _⟩ := hb
    obtain ⟨h1, h2⟩ := ((hl.2 r hr).2.2.1.2 b hbr).1
    have e1 : slices_Clone_byte_byte.f b.f2.f2 = some b.f2.f2 := by unfold slices_Clone_byte_byte.f; rw [if_pos h1]
    have e2 : slices_Clone_byte_byte.f b.f2.f3 = some b.f2.f3 := by unfold slices_Clone_byte_byte.f; rw [if_pos h2]
    have e3 : choose_Pick.g (some b) = some (reqOf (some b)) := by
      show (slices_Clone_byte_byte.f b.f2.f2).bind _ = _
      rw [e1, Option.bind_some, e2, Option.bind_some]
      rfl
    rw [e3]
    exact Ev.now _
def sameQ (a b : Int) (l m : List Int) (a' b' : Int) (l' m' : List Int) : Bool := (catenaryref05_SameReq.f a b l m a' b' l' m').getD false
theorem sameQ_is (a b : Int) (l m : List Int) (a' b' : Int) (l' m' : List Int) : catenaryref05_SameReq.f a b l m a' b' l' m' = some (sameQ a b l m a' b' l' m') := by
  have es : ∀ a b : List Int, catenaryref01_Same.f a b = some ((strOfNums a).toList == (strOfNums b).toList) := fun _ _ => rfl
  unfold sameQ
  simp only [catenaryref05_SameReq.f, es, Option.bind_some]
  repeat' split
  all_goals rfl
theorem sameQ_self (a b : Int) (l m : List Int) : sameQ a b l m a b l m = true := by
  have es : ∀ a b : List Int, catenaryref01_Same.f a b = some ((strOfNums a).toList == (strOfNums b).toList) := fun _ _ => rfl
  have eb : ∀ a : List Int, ((strOfNums a).toList == (strOfNums a).toList) = true := fun a => beq_self_eq_true _
  unfold sameQ
  simp only [catenaryref05_SameReq.f, es, Option.bind_some, if_true, eb]
  rfl
def bad (x1 : Int) (c q : S45) : Bool := decide (q.f0 = x1) && gtP q c
def good (l : List S30) (x1 : Int) (g0 g1 : Int) (g2 g3 : List Int) (p : S45) : Bool := decide (p.f0 = x1) && (l.all (fun r => r.f5.all (fun q => !bad x1 p q)) && sameQ g0 g1 g2 g3 p.f2.f0 p.f2.f1 p.f2.f2 p.f2.f3)
def isAt (x1 : Int) (p : S45) : Bool := decide (p.f0 = x1)
def fin (x9 x10 : Bool) (g0 g1 : Int) (g2 g3 : List Int) : Bool := if x10 = true then x9 else sameQ g0 g1 g2 g3 0 0 [] []
theorem fin_true (l : List S30) (s : Int) : fin (false || l.any (fun r => r.f5.any (good l s (reqOf (bestL s none l)).1 (reqOf (bestL s none l)).2.1 (reqOf (bestL s none l)).2.2.1 (reqOf (bestL s none l)).2.2.2))) (false || l.any (fun r => r.f5.any (isAt s))) (reqOf (bestL s none l)).1 (reqOf (bestL s none l)).2.1 (reqOf (bestL s none l)).2.2.1 (reqOf (bestL s none l)).2.2.2 = true := by
  rw [Bool.false_or, Bool.false_or, bestL_fold]
  unfold fin
  cases h : atS s l with
  | nil =>
    have e : l.any (fun r => r.f5.any (isAt s)) = false := by
      rw [Bool.eq_false_iff]
      intro hc
      rw [List.any_eq_true] at hc
      obtain ⟨r, hr, hp⟩ := hc
      rw [List.any_eq_true] at hp
      obtain ⟨p, hp, hq⟩ := hp
      have hm : p ∈ atS s l := by
        unfold atS
        rw [List.mem_filter, List.mem_flatMap]
        exact ⟨⟨r, hr, hp⟩, hq⟩
      rw [h] at hm
      cases hm
    rw [e]
    exact sameQ_self 0 0 [] []
  | cons p t =>
    obtain ⟨b, e, hm, hq, hx⟩ := fold_top t p
    have eb : List.foldl upR none (p :: t) = some b := e
    rw [eb]
    have hb : b ∈ atS s l := by
      rw [h]
      rcases hm with rfl | hm
      · exact List.mem_cons_self
      · exact List.mem_cons_of_mem _ hm
    have htop : ∀ x ∈ atS s l, gtP x b = false := by
      intro x hx2
      rw [h] at hx2
      rcases List.mem_cons.1 hx2 with rfl | hx2
      · exact hq
      · exact hx x hx2
    have hb2 := hb
    unfold atS at hb2
    rw [List.mem_filter, List.mem_flatMap] at hb2
    obtain ⟨⟨r, hr, hbr⟩, hbs⟩ := hb2
    have hg : good l s (reqOf (some b)).1 (reqOf (some b)).2.1 (reqOf (some b)).2.2.1 (reqOf (some b)).2.2.2 b = true := by
      unfold good
      rw [hbs, Bool.true_and, Bool.and_eq_true]
      refine ⟨?_, sameQ_self _ _ _ _⟩
      rw [List.all_eq_true]
      intro r2 hr2
      rw [List.all_eq_true]
      intro q hq2
      unfold bad
      by_cases hs : q.f0 = s
      · have hm2 : q ∈ atS s l := by
          unfold atS
          rw [List.mem_filter, List.mem_flatMap]
          exact ⟨⟨r2, hr2, hq2⟩, decide_eq_true hs⟩
        rw [htop q hm2, Bool.and_false]; rfl
      · rw [decide_eq_false hs, Bool.false_and]; rfl
    have e1 : l.any (fun r => r.f5.any (good l s (reqOf (some b)).1 (reqOf (some b)).2.1 (reqOf (some b)).2.2.1 (reqOf (some b)).2.2.2)) = true := List.any_eq_true.2 ⟨r, hr, List.any_eq_true.2 ⟨b, hbr, hg⟩⟩
    rw [e1]
    split
    · rfl
    · rename_i hn
      exact absurd (List.any_eq_true.2 ⟨r, hr, List.any_eq_true.2 ⟨b, hbr, hbs⟩⟩) hn
theorem req_of {q : S36} (h : (Kd.gSl 1 (Kd.gInt .u8)) q.f2 ∧ (Kd.gSl 1 (Kd.gInt .u8)) q.f3) : okReq q := by
  have h1 := h.1.2.1
  have h2 := h.2.2.1
  exact ⟨by omega, by omega⟩
theorem okAll_of (l : List S30) (h : (Kd.gSl 128 g30) l) : okAll l := by
  have hv : ∀ v : List S57, (Kd.gSl 32 g57) v → okVotes v := by
    intro v hv
    have h1 := hv.2.1
    refine ⟨by omega, fun x hx => ?_⟩
    have h2 := (hv.2.2 x hx).2.2.1
    omega
  have h1 := h.2.1
  refine ⟨by omega, fun r hr => ?_⟩
  obtain ⟨_, _, _, h3, h4, h5, h6⟩ := h.2.2 r hr
  have a3 := h3.2.1
  have a6 := h6.2.1
  have a5 := h5.2.1
  refine ⟨by omega, hv _ h4, ⟨by omega, fun p hp => ?_⟩, by omega⟩
  obtain ⟨_, _, hq, hc⟩ := h5.2.2 p hp
  exact ⟨req_of hq.2.2, hv _ hc⟩
/-! choose's and the document's lowest and highest slot -/
def lowF (m : Int) (r : S30) : Int := if m < r.f2 then r.f2 else m
def lowR (l : List S30) : Int := l.foldl lowF 0
def slotF (m : Int) (p : S45) : Int := if m < p.f0 then p.f0 else m
def highF (m : Int) (r : S30) : Int := r.f5.foldl slotF m
def highR (l : List S30) : Int := l.foldl highF (lowR l)
theorem mx_is (x y : Int) : mx x y = if x < y then y else x := rfl
theorem plow_l0 (l : List S30) (hl : okAll l) : ∀ (d i : Nat) (m : Int), d + i = l.length → Ev (fun k => choose_Low.l0 k m l (l.length : Int) (i : Int)) ((l.drop i).foldl lowF m)
  | 0, i, m, hd => by
    have e1 : ¬ (i : Int) < (l.length : Int) := by omega
    refine ev_succ ?_
    simp only [choose_Low.l0, if_neg e1]
    rw [List.drop_eq_nil_of_le (by omega)]
    exact Ev.now _
  | d + 1, i, m, hd => by
    have hi : i < l.length := by omega
    have e1 : (i : Int) < (l.length : Int) := by omega
    have e2 : (0 : Int) ≤ (i : Int) := by omega
    have hl1 := hl.1
    have ew : wrap64 ((i : Int) + 1) = ((i + 1 : Nat) : Int) := w64 i (by omega)
    rw [List.drop_eq_getElem_cons hi, List.foldl_cons]
    refine ev_succ ?_
    simp only [choose_Low.l0, if_pos e1, if_pos e2, rd30 l i hi, ew, mx_is]
    exact plow_l0 l hl d (i + 1) _ (by omega)
theorem plow_ev (l : List S30) (hl : okAll l) : Ev (fun k => choose_Low.f k l) (lowR l) := by
  have := plow_l0 l hl l.length 0 0 (by omega)
  rw [List.drop_zero] at this
  exact this
theorem rlow_l0 (l : List S30) (hl : okAll l) : ∀ (d i : Nat) (m : Int), d + i = l.length → Ev (fun k => catenaryref18_Low.l0 k m l (l.length : Int) (i : Int)) ((l.drop i).foldl lowF m)
  | 0, i, m, hd => by
    have e1 : ¬ (i : Int) < (l.length : Int) := by omega
    refine ev_succ ?_
    simp only [catenaryref18_Low.l0, if_neg e1]
    rw [List.drop_eq_nil_of_le (by omega)]
    exact Ev.now _
  | d + 1, i, m, hd => by
    have hi : i < l.length := by omega
    have e1 : (i : Int) < (l.length : Int) := by omega
    have e2 : (0 : Int) ≤ (i : Int) := by omega
    have hl1 := hl.1
    have ew : wrap64 ((i : Int) + 1) = ((i + 1 : Nat) : Int) := w64 i (by omega)
    rw [List.drop_eq_getElem_cons hi, List.foldl_cons]
    refine ev_succ ?_
    by_cases h : (l[i]).f2 > m
    · have e : lowF m l[i] = (l[i]).f2 := if_pos h
      rw [e]
      simp only [catenaryref18_Low.l0, if_pos e1, if_pos e2, rd30 l i hi, ew, if_pos h]
      exact rlow_l0 l hl d (i + 1) _ (by omega)
    · have e : lowF m l[i] = m := if_neg h
      rw [e]
      simp only [catenaryref18_Low.l0, if_pos e1, if_pos e2, rd30 l i hi, ew, if_neg h]
      exact rlow_l0 l hl d (i + 1) _ (by omega)
theorem rlow_ev (l : List S30) (hl : okAll l) : Ev (fun k => catenaryref18_Low.f k l) (lowR l) := by
  have := rlow_l0 l hl l.length 0 0 (by omega)
  rw [List.drop_zero] at this
  exact this
theorem phigh_l1 (l : List S30) (n x12 : Int) (p : List S45) (hp : p.length < 1256584717458) (R : Int) : ∀ (d i : Nat) (m : Int), d + i = p.length →
    Ev (fun k => choose_High.l0 k ((p.drop i).foldl slotF m) l n (wrap64 (x12 + 1))) R → Ev (fun k => choose_High.l1 k m l n x12 p (p.length : Int) (i : Int)) R
  | 0, i, m, hd, h => by
    have e1 : ¬ (i : Int) < (p.length : Int) := by omega
    refine ev_succ ?_
    rw [List.drop_eq_nil_of_le (by omega)] at h
    simp only [choose_High.l1, if_neg e1]
    exact h
  | d + 1, i, m, hd, h => by
    have hi : i < p.length := by omega
    have e1 : (i : Int) < (p.length : Int) := by omega
    have e2 : (0 : Int) ≤ (i : Int) := by omega
    have ew : wrap64 ((i : Int) + 1) = ((i + 1 : Nat) : Int) := w64 i (by omega)
    rw [List.drop_eq_getElem_cons hi, List.foldl_cons] at h
    refine ev_succ ?_
    simp only [choose_High.l1, if_pos e1, if_pos e2, rd45 p i hi, ew, mx_is]
    exact phigh_l1 l n x12 p hp R d (i + 1) _ (by omega) h
theorem phigh_l0 (l : List S30) (hl : okAll l) : ∀ (d i : Nat) (m : Int), d + i = l.length → Ev (fun k => choose_High.l0 k m l (l.length : Int) (i : Int)) ((l.drop i).foldl highF m)
  | 0, i, m, hd => by
    have e1 : ¬ (i : Int) < (l.length : Int) := by omega
    refine ev_succ ?_
    simp only [choose_High.l0, if_neg e1]
    rw [List.drop_eq_nil_of_le (by omega)]
    exact Ev.now _
  | d + 1, i, m, hd => by
    have hi : i < l.length := by omega
    have e1 : (i : Int) < (l.length : Int) := by omega
    have e2 : (0 : Int) ≤ (i : Int) := by omega
    have hl1 := hl.1
    have ew : wrap64 ((i : Int) + 1) = ((i + 1 : Nat) : Int) := w64 i (by omega)
    rw [List.drop_eq_getElem_cons hi, List.foldl_cons]
    refine ev_succ ?_
    simp only [choose_High.l0, if_pos e1, if_pos e2, rd30 l i hi]
    refine phigh_l1 l (l.length : Int) (i : Int) (l[i]).f5 (hl.2 _ (List.getElem_mem hi)).2.2.1.1 _ (l[i]).f5.length 0 m (by omega) ?_
    rw [ew, List.drop_zero]
    exact phigh_l0 l hl d (i + 1) _ (by omega)
theorem phigh_ev (l : List S30) (hl : okAll l) : Ev (fun k => choose_High.f k l) (highR l) := by
  have := phigh_l0 l hl l.length 0 (lowR l) (by omega)
  rw [List.drop_zero] at this
  exact Ev.bind (plow_ev l hl) this
theorem rhigh_l1 (l : List S30) (n x12 : Int) (p : List S45) (hp : p.length < 1256584717458) (R : Int) : ∀ (d i : Nat) (m : Int), d + i = p.length →
    Ev (fun k => catenaryref18_High.l0 k ((p.drop i).foldl slotF m) l n (wrap64 (x12 + 1))) R → Ev (fun k => catenaryref18_High.l1 k m l n x12 p (p.length : Int) (i : Int)) R
  | 0, i, m, hd, h => by
    have e1 : ¬ (i : Int) < (p.length : Int) := by omega
    refine ev_succ ?_
    rw [List.drop_eq_nil_of_le (by omega)] at h
    simp only [catenaryref18_High.l1, if_neg e1]
    exact h
  | d + 1, i, m, hd, h => by
    have hi : i < p.length := by omega
    have e1 : (i : Int) < (p.length : Int) := by omega
    have e2 : (0 : Int) ≤ (i : Int) := by omega
    have ew : wrap64 ((i : Int) + 1) = ((i + 1 : Nat) : Int) := w64 i (by omega)
    rw [List.drop_eq_getElem_cons hi, List.foldl_cons] at h
    refine ev_succ ?_
    by_cases hs : (p[i]).f0 > m
    · have e : slotF m p[i] = (p[i]).f0 := if_pos hs
      rw [e] at h
      simp only [catenaryref18_High.l1, if_pos e1, if_pos e2, rd45 p i hi, ew, if_pos hs]
      exact rhigh_l1 l n x12 p hp R d (i + 1) _ (by omega) h
    · have e : slotF m p[i] = m := if_neg hs
      rw [e] at h
      simp only [catenaryref18_High.l1, if_pos e1, if_pos e2, rd45 p i hi, ew, if_neg hs]
      exact rhigh_l1 l n x12 p hp R d (i + 1) _ (by omega) h
theorem rhigh_l0 (l : List S30) (hl : okAll l) : ∀ (d i : Nat) (m : Int), d + i = l.length → Ev (fun k => catenaryref18_High.l0 k m l (l.length : Int) (i : Int)) ((l.drop i).foldl highF m)
  | 0, i, m, hd => by
    have e1 : ¬ (i : Int) < (l.length : Int) := by omega
    refine ev_succ ?_
    simp only [catenaryref18_High.l0, if_neg e1]
    rw [List.drop_eq_nil_of_le (by omega)]
    exact Ev.now _
  | d + 1, i, m, hd => by
    have hi : i < l.length := by omega
    have e1 : (i : Int) < (l.length : Int) := by omega
    have e2 : (0 : Int) ≤ (i : Int) := by omega
    have hl1 := hl.1
    have ew : wrap64 ((i : Int) + 1) = ((i + 1 : Nat) : Int) := w64 i (by omega)
    rw [List.drop_eq_getElem_cons hi, List.foldl_cons]
    refine ev_succ ?_
    simp only [catenaryref18_High.l0, if_pos e1, if_pos e2, rd30 l i hi]
    refine rhigh_l1 l (l.length : Int) (i : Int) (l[i]).f5 (hl.2 _ (List.getElem_mem hi)).2.2.1.1 _ (l[i]).f5.length 0 m (by omega) ?_
    rw [ew, List.drop_zero]
    exact rhigh_l0 l hl d (i + 1) _ (by omega)
theorem rhigh_ev (l : List S30) (hl : okAll l) : Ev (fun k => catenaryref18_High.f k l) (highR l) := by
  have := rhigh_l0 l hl l.length 0 (lowR l) (by omega)
  rw [List.drop_zero] at this
  exact Ev.bind (rlow_ev l hl) this
theorem cmp04 (a b c d : Int) : catenaryref04_Compare.f a b c d = some (cmpB a b c d) := by
  simp only [catenaryref04_Compare.f]
  unfold cmpB cmpI
  repeat' split
  all_goals first | rfl | omega
/-- the state of the document's loop: at, out -/
def stO (P : List S45) (x9 : Int) (a b : Int) (q s : List Int) (o : Option S45) : Prop := match o with
  | none => x9 = -1 ∧ a = 0 ∧ b = 0 ∧ q = [] ∧ s = []
  | some p => 0 ≤ x9 ∧ x9 < (P.length : Int) ∧ rd_T45 P x9 = p ∧ a = p.f2.f0 ∧ b = p.f2.f1 ∧ q = p.f2.f2 ∧ s = p.f2.f3
theorem stO_req {P : List S45} {x9 a b : Int} {q s : List Int} {o : Option S45} (h : stO P x9 a b q s o) : (a, b, q, s) = reqOf o := by
  cases o with
  | none => obtain ⟨_, rfl, rfl, rfl, rfl⟩ := h; rfl
  | some p => obtain ⟨_, _, _, rfl, rfl, rfl, rfl⟩ := h; rfl
theorem rpick_l1 (s0 : Int) (P : List S45) (hP : P.length < 1256584717458) : ∀ (d i : Nat) (x9 a b : Int) (q s : List Int) (o : Option S45), d + i = P.length → stO P x9 a b q s o →
    Ev (fun k => catenaryref18_Pick.l1 k s0 P x9 P (P.length : Int) (i : Int) a b q s) (reqOf (bestIn s0 o (P.drop i)))
  | 0, i, x9, a, b, q, s, o, hd, ho => by
    have e1 : ¬ (i : Int) < (P.length : Int) := by omega
    refine ev_succ ?_
    simp only [catenaryref18_Pick.l1, if_neg e1]
    rw [List.drop_eq_nil_of_le (by omega)]
    rw [show bestIn s0 o [] = o from rfl, ← stO_req ho]
    exact Ev.now _
  | d + 1, i, x9, a, b, q, s, o, hd, ho => by
    have hi : i < P.length := by omega
    have e1 : (i : Int) < (P.length : Int) := by omega
    have e2 : (0 : Int) ≤ (i : Int) := by omega
    have ew : wrap64 ((i : Int) + 1) = ((i + 1 : Nat) : Int) := w64 i (by omega)
    have hnew : stO P (i : Int) (P[i]).f2.f0 (P[i]).f2.f1 (P[i]).f2.f2 (P[i]).f2.f3 (some P[i]) := ⟨e2, e1, rd45 P i hi, rfl, rfl, rfl, rfl⟩
    rw [List.drop_eq_getElem_cons hi]
    have eb : bestIn s0 o (P[i] :: P.drop (i + 1)) = bestIn s0 (if (P[i]).f0 = s0 then upR o P[i] else o) (P.drop (i + 1)) := rfl
    rw [eb]
    refine ev_succ ?_
    by_cases hs : (P[i]).f0 = s0
    · rw [if_pos hs]
      cases o with
      | none =>
        obtain ⟨rfl, rfl, rfl, rfl, rfl⟩ := ho
        simp only [catenaryref18_Pick.l1, if_pos e1, if_pos e2, rd45 P i hi, if_pos hs, if_pos (show (-1 : Int) < 0 by decide)]
        refine ev_succ ?_
        simp only [catenaryref18_Pick.j2, if_true, ew]
        exact rpick_l1 s0 P hP d (i + 1) _ _ _ _ _ (some P[i]) (by omega) hnew
      | some p =>
        have ho2 := ho
        obtain ⟨h0, h1, h2, _, _, _, _⟩ := ho
        have e3 : ¬ x9 < 0 := by omega
        simp only [catenaryref18_Pick.l1, if_pos e1, if_pos e2, rd45 P i hi, if_pos hs, if_neg e3, if_pos h0, if_pos h1, h2, cmp04, Option.bind_some]
        refine ev_succ ?_
        rw [show decide (cmpB (P[i]).f1.f0 (P[i]).f1.f1 p.f1.f0 p.f1.f1 > 0) = gtP P[i] p from rfl]
        have eu : upR (some p) P[i] = if gtP P[i] p = true then some P[i] else some p := rfl
        rw [eu]
        cases hg : gtP P[i] p with
        | true =>
          simp only [catenaryref18_Pick.j2, if_true, ew]
          exact rpick_l1 s0 P hP d (i + 1) _ _ _ _ _ (some P[i]) (by omega) hnew
        | false =>
          simp only [catenaryref18_Pick.j2, Bool.false_eq_true, if_false, ew]
          exact rpick_l1 s0 P hP d (i + 1) _ _ _ _ _ (some p) (by omega) ho2
    · rw [if_neg hs]
      simp only [catenaryref18_Pick.l1, if_pos e1, if_pos e2, rd45 P i hi, if_neg hs]
      refine ev_succ ?_
      simp only [catenaryref18_Pick.j2, Bool.false_eq_true, if_false, ew]
      exact rpick_l1 s0 P hP d (i + 1) _ _ _ _ _ o (by omega) ho
theorem bestL_all (s : Int) (l : List S30) (o : Option S45) : bestL s o l = bestIn s o (l.flatMap (fun r => r.f5)) := by
  rw [bestL_fold, bestIn_fold]; rfl
theorem rpick_l0 (s0 : Int) (l : List S30) (hl : okAll l) (ht : (l.flatMap (fun r => r.f5)).length < 1256584717458) : ∀ (d i : Nat) (acc : List S45), d + i = l.length → acc = (l.take i).flatMap (fun r => r.f5) →
    Ev (fun k => catenaryref18_Pick.l0 k s0 acc l (l.length : Int) (i : Int)) (reqOf (bestL s0 none l))
  | 0, i, acc, hd, ha => by
    have e1 : ¬ (i : Int) < (l.length : Int) := by omega
    refine ev_succ ?_
    have ea : acc = l.flatMap (fun r => r.f5) := by rw [ha, List.take_of_length_le (by omega)]
    simp only [catenaryref18_Pick.l0, if_neg e1]
    rw [ea, bestL_all]
    have := rpick_l1 s0 (l.flatMap (fun r => r.f5)) ht (l.flatMap (fun r => r.f5)).length 0 (-1) 0 0 [] [] none (by omega) ⟨rfl, rfl, rfl, rfl, rfl⟩
    rw [List.drop_zero] at this
    exact this
  | d + 1, i, acc, hd, ha => by
    have hi : i < l.length := by omega
    have e1 : (i : Int) < (l.length : Int) := by omega
    have e2 : (0 : Int) ≤ (i : Int) := by omega
    have hl1 := hl.1
    have ew : wrap64 ((i : Int) + 1) = ((i + 1 : Nat) : Int) := w64 i (by omega)
    have hn : acc ++ (l[i]).f5 = (l.take (i + 1)).flatMap (fun r => r.f5) := by
      rw [ha, List.take_succ_eq_append_getElem hi, List.flatMap_append, List.flatMap_singleton]
    have hlen : acc.length + (l[i]).f5.length < 1256584717458 := by
      have h1 : (acc ++ (l[i]).f5).length ≤ (l.flatMap (fun r => r.f5)).length := by
        rw [hn]
        conv => rhs; rw [← List.take_append_drop (i + 1) l, List.flatMap_append, List.length_append]
        omega
      rw [List.length_append] at h1
      omega
    refine ev_succ ?_
    simp only [catenaryref18_Pick.l0, if_pos e1, if_pos e2, rd30 l i hi, if_pos hlen, ew]
    exact rpick_l0 s0 l hl ht d (i + 1) _ (by omega) hn
theorem rpick_ev (s0 : Int) (l : List S30) (hl : okAll l) (ht : (l.flatMap (fun r => r.f5)).length < 1256584717458) : Ev (fun k => catenaryref18_Pick.f k s0 l) (reqOf (bestL s0 none l)) :=
  rpick_l0 s0 l hl ht l.length 0 [] (by omega) rfl
theorem w64i (x : Int) (h0 : 0 ≤ x) (h1 : x ≤ 9223372036854775807) : wrap64 x = x := by unfold wrap64; omega
def reqS (o : Option S45) : S36 := ⟨(reqOf o).1, (reqOf o).2.1, (reqOf o).2.2.1, (reqOf o).2.2.2⟩
/-- the picks from number j on -/
def picksR (l : List S30) (lo : Int) : Nat → Nat → List S36
  | 0, _ => []
  | d + 1, j => reqS (bestL (lo + 1 + (j : Int)) none l) :: picksR l lo d (j + 1)
theorem ppicks_l0 (l : List S30) (hl : okAll l) (lo hi : Int) (h0 : 0 ≤ lo) (h1 : lo ≤ hi) (h2 : hi ≤ 9223372036854775807) (n : Nat) (hn : n ≤ 16) (hn2 : (n : Int) ≤ hi - lo) : ∀ (d j : Nat) (acc : List S36), d + j = n → acc.length = j →
    Ev (fun k => choose_Picks.l0 k l acc lo (n : Int) (j : Int)) (acc ++ picksR l lo d j)
  | 0, j, acc, hd, ha => by
    have e1 : ¬ (j : Int) < (n : Int) := by omega
    refine ev_succ ?_
    simp only [choose_Picks.l0, if_neg e1]
    rw [show picksR l lo 0 j = [] from rfl, List.append_nil]
    exact Ev.now _
  | d + 1, j, acc, hd, ha => by
    have e1 : (j : Int) < (n : Int) := by omega
    have ew : wrap64 ((j : Int) + 1) = ((j + 1 : Nat) : Int) := w64 j (by omega)
    have e2 : wrap64 (wrap64 (lo + 1) + (j : Int)) = lo + 1 + (j : Int) := by
      rw [w64i (lo + 1) (by omega) (by omega), w64i _ (by omega) (by omega)]
    have e3 : acc.length < 2199023255552 := by omega
    refine ev_succ ?_
    simp only [choose_Picks.l0, if_pos e1, e2]
    refine Ev.bind (pick_ev _ l hl) ?_
    simp only [if_pos e3, ew]
    have ih := ppicks_l0 l hl lo hi h0 h1 h2 n hn hn2 d (j + 1) (acc ++ [reqS (bestL (lo + 1 + (j : Int)) none l)]) (by omega) (by rw [List.length_append, ha]; rfl)
    rw [List.append_assoc, List.singleton_append] at ih
    exact ih
theorem rpicks_l0 (l : List S30) (hl : okAll l) (ht : (l.flatMap (fun r => r.f5)).length < 1256584717458) (lo hi : Int) (h0 : 0 ≤ lo) (h1 : lo ≤ hi) (h2 : hi ≤ 9223372036854775807) (n : Nat) (hn : (n : Int) = if 16 < hi - lo then 16 else hi - lo) : ∀ (d j : Nat) (acc : List S36), d + j = n → acc.length = j →
    Ev (fun k => catenaryref18_Picks.l0 k l acc hi (lo + (j : Int))) (acc ++ picksR l lo d j)
  | 0, j, acc, hd, ha => by
    rw [show picksR l lo 0 j = [] from rfl, List.append_nil]
    refine ev_succ ?_
    by_cases e1 : lo + (j : Int) < hi
    · have e2 : ¬ (acc.length : Int) < 16 := by
        split at hn <;> omega
      simp only [catenaryref18_Picks.l0, if_pos e1, decide_eq_false e2]
      refine ev_succ ?_
      simp only [catenaryref18_Picks.j1, Bool.false_eq_true, if_false]
      exact Ev.now _
    · simp only [catenaryref18_Picks.l0, if_neg e1]
      refine ev_succ ?_
      simp only [catenaryref18_Picks.j1, Bool.false_eq_true, if_false]
      exact Ev.now _
  | d + 1, j, acc, hd, ha => by
    have hn16 : (n : Int) ≤ 16 ∧ (n : Int) ≤ hi - lo := by split at hn <;> omega
    have e1 : lo + (j : Int) < hi := by omega
    have e2 : (acc.length : Int) < 16 := by omega
    have e3 : acc.length < 2199023255552 := by omega
    have ew : wrap64 (lo + (j : Int) + 1) = lo + 1 + (j : Int) := by rw [w64i _ (by omega) (by omega)]; omega
    have ew2 : wrap64 (lo + (j : Int) + 1) = lo + ((j + 1 : Nat) : Int) := by rw [w64i _ (by omega) (by omega)]; omega
    refine ev_succ ?_
    simp only [catenaryref18_Picks.l0, if_pos e1, decide_eq_true e2]
    refine ev_succ ?_
    simp only [catenaryref18_Picks.j1, if_true]
    rw [show (fun k => (catenaryref18_Pick.f k (wrap64 (lo + (j : Int) + 1)) l).bind fun bt241 => (if acc.length < 2199023255552 then (catenaryref18_Picks.l0 k l (acc ++ [(⟨bt241.1, bt241.2.1, bt241.2.2.1, bt241.2.2.2⟩ : S36)]) hi (wrap64 (lo + (j : Int) + 1))) else none)) = (fun k => (catenaryref18_Pick.f k (lo + 1 + (j : Int)) l).bind fun bt241 => (if acc.length < 2199023255552 then (catenaryref18_Picks.l0 k l (acc ++ [(⟨bt241.1, bt241.2.1, bt241.2.2.1, bt241.2.2.2⟩ : S36)]) hi (lo + ((j + 1 : Nat) : Int))) else none)) from by
      funext k
      rw [ew2, ← ew2, ew]]
    refine Ev.bind (rpick_ev _ l hl ht) ?_
    simp only [if_pos e3]
    have ih := rpicks_l0 l hl ht lo hi h0 h1 h2 n hn d (j + 1) (acc ++ [reqS (bestL (lo + 1 + (j : Int)) none l)]) (by omega) (by rw [List.length_append, ha]; rfl)
    rw [List.append_assoc, List.singleton_append] at ih
    exact ih
theorem same01 (a : List Int) : catenaryref01_Same.f a a = some true := by
  show some ((strOfNums a).toList == (strOfNums a).toList) = some true
  rw [beq_self_eq_true]
theorem samev_l0 (l : List S57) (hx : l.length < 4398046511104) : ∀ (d i : Nat), d + i = l.length → Ev (fun k => catenaryref05_SameVotes.l0 k l l (l.length : Int) (i : Int)) true
  | 0, i, hd => by
    have e1 : ¬ (i : Int) < (l.length : Int) := by omega
    refine ev_succ ?_
    simp only [catenaryref05_SameVotes.l0, if_neg e1]
    exact Ev.now _
  | d + 1, i, hd => by
    have hi : i < l.length := by omega
    have e1 : (i : Int) < (l.length : Int) := by omega
    have e2 : (0 : Int) ≤ (i : Int) := by omega
    have ew : wrap64 ((i : Int) + 1) = ((i + 1 : Nat) : Int) := w64 i (by omega)
    refine ev_succ ?_
    simp only [catenaryref05_SameVotes.l0, if_pos e1, if_pos e2, same01, Option.bind_some, if_true]
    refine ev_succ ?_
    simp only [catenaryref05_SameVotes.j1, Bool.not_true, Bool.false_eq_true, if_false, ew]
    exact samev_l0 l hx d (i + 1) (by omega)
theorem samev_ev (l : List S57) (h : okVotes l) : Ev (fun k => catenaryref05_SameVotes.f k l l) true := by
  simp only [catenaryref05_SameVotes.f, if_true]
  exact samev_l0 l h.1 l.length 0 (by omega)
theorem sameq_self (a b : Int) (l m : List Int) : catenaryref05_SameReq.f a b l m a b l m = some true := by
  simp only [catenaryref05_SameReq.f, same01, Option.bind_some, if_true]
theorem samer_l0 (r : S30) (h : okPreps r.f5) : ∀ (d i : Nat), d + i = r.f5.length → Ev (fun k => catenaryref05_SameReport.l0 k r.f5 (r.f5.length : Int) (i : Int) r.f0.f0 r.f0.f1 r.f1 r.f2 r.f3 r.f4 r.f5 r.f6) true
  | 0, i, hd => by
    have e1 : ¬ (i : Int) < (r.f5.length : Int) := by omega
    refine ev_succ ?_
    simp only [catenaryref05_SameReport.l0, if_neg e1]
    exact Ev.now _
  | d + 1, i, hd => by
    have hi : i < r.f5.length := by omega
    have e1 : (i : Int) < (r.f5.length : Int) := by omega
    have e2 : (0 : Int) ≤ (i : Int) := by omega
    have hl := h.1
    have ew : wrap64 ((i : Int) + 1) = ((i + 1 : Nat) : Int) := w64 i (by omega)
    obtain ⟨_, hv⟩ := h.2 _ (List.getElem_mem hi)
    refine ev_succ ?_
    simp only [catenaryref05_SameReport.l0, if_pos e1, if_pos e2, rd45 _ i hi, sameq_self, Option.bind_some, if_true, beq_self_eq_true, Bool.not_true, Bool.or_self, Bool.false_eq_true, if_false]
    refine Ev.bind (samev_ev _ hv) ?_
    refine ev_succ ?_
    simp only [catenaryref05_SameReport.j2, Bool.not_true, Bool.false_eq_true, if_false, ew]
    exact samer_l0 r h d (i + 1) (by omega)
theorem samer_ev (r : S30) (h : okRep r) : Ev (fun k => catenaryref05_SameReport.f k r.f0.f0 r.f0.f1 r.f1 r.f2 r.f3 r.f4 r.f5 r.f6 r.f0.f0 r.f0.f1 r.f1 r.f2 r.f3 r.f4 r.f5 r.f6) true := by
  simp only [catenaryref05_SameReport.f, same01, Option.bind_some, if_true, beq_self_eq_true, Bool.not_true, Bool.or_self, Bool.false_eq_true, if_false]
  refine Ev.bind (samev_ev _ h.2.1) ?_
  simp only [if_true]
  refine ev_succ ?_
  simp only [catenaryref05_SameReport.j0, Bool.false_eq_true, if_false]
  exact samer_l0 r h.2.2.1 r.f5.length 0 (by omega)
/-! ### ChoosePicks itself -/
theorem lowF_fold (l : List S30) (hb : ∀ r ∈ l, r.f2 ≤ 9223372036854775807) : ∀ m : Int, m ≤ 9223372036854775807 → m ≤ l.foldl lowF m ∧ l.foldl lowF m ≤ 9223372036854775807 := by
  induction l with
  | nil => intro m hm; exact ⟨Int.le_refl _, hm⟩
  | cons r l ih =>
    intro m hm
    have h1 := hb r List.mem_cons_self
    have h2 : m ≤ lowF m r ∧ lowF m r ≤ 9223372036854775807 := by unfold lowF; split <;> omega
    have h3 := ih (fun x hx => hb x (List.mem_cons_of_mem _ hx)) (lowF m r) h2.2
    exact ⟨Int.le_trans h2.1 h3.1, h3.2⟩
theorem slotF_fold (l : List S45) (hb : ∀ p ∈ l, p.f0 ≤ 9223372036854775807) : ∀ m : Int, m ≤ 9223372036854775807 → m ≤ l.foldl slotF m ∧ l.foldl slotF m ≤ 9223372036854775807 := by
  induction l with
  | nil => intro m hm; exact ⟨Int.le_refl _, hm⟩
  | cons r l ih =>
    intro m hm
    have h1 := hb r List.mem_cons_self
    have h2 : m ≤ slotF m r ∧ slotF m r ≤ 9223372036854775807 := by unfold slotF; split <;> omega
    have h3 := ih (fun x hx => hb x (List.mem_cons_of_mem _ hx)) (slotF m r) h2.2
    exact ⟨Int.le_trans h2.1 h3.1, h3.2⟩
theorem highF_fold (l : List S30) (hb : ∀ r ∈ l, ∀ p ∈ r.f5, p.f0 ≤ 9223372036854775807) : ∀ m : Int, m ≤ 9223372036854775807 → m ≤ l.foldl highF m ∧ l.foldl highF m ≤ 9223372036854775807 := by
  induction l with
  | nil => intro m hm; exact ⟨Int.le_refl _, hm⟩
  | cons r l ih =>
    intro m hm
    have h2 := slotF_fold r.f5 (hb r List.mem_cons_self) m hm
    have h3 := ih (fun x hx => hb x (List.mem_cons_of_mem _ hx)) (highF m r) h2.2
    exact ⟨Int.le_trans h2.1 h3.1, h3.2⟩
def okN (l : List S30) : Prop := ∀ r ∈ l, r.f2 ≤ 9223372036854775807 ∧ ∀ p ∈ r.f5, p.f0 ≤ 9223372036854775807
theorem low_bounds (l : List S30) (hn : okN l) : 0 ≤ lowR l ∧ lowR l ≤ 9223372036854775807 := lowF_fold l (fun r hr => (hn r hr).1) 0 (by omega)
theorem high_bounds (l : List S30) (hn : okN l) : lowR l ≤ highR l ∧ highR l ≤ 9223372036854775807 := highF_fold l (fun r hr => (hn r hr).2) _ (low_bounds l hn).2
theorem picksR_len (l : List S30) (lo : Int) : ∀ d j, (picksR l lo d j).length = d
  | 0, _ => rfl
  | d + 1, j => by
    show (picksR l lo d (j + 1)).length + 1 = d + 1
    rw [picksR_len l lo d (j + 1)]
def nPicks (l : List S30) : Nat := (if 16 < highR l - lowR l then (16 : Int) else highR l - lowR l).toNat
theorem nPicks_is (l : List S30) (hn : okN l) : (nPicks l : Int) = (if 16 < highR l - lowR l then (16 : Int) else highR l - lowR l) := by
  have h1 := (high_bounds l hn).1
  unfold nPicks
  split <;> omega
theorem nPicks_16 (l : List S30) (hn : okN l) : nPicks l ≤ 16 ∧ (nPicks l : Int) ≤ highR l - lowR l := by
  have h := nPicks_is l hn
  split at h <;> omega
theorem ppicks_ev (l : List S30) (hl : okAll l) (hn : okN l) : Ev (fun k => choose_Picks.f k l) (picksR l (lowR l) (nPicks l) 0) := by
  have h1 := low_bounds l hn
  have h2 := high_bounds l hn
  have h3 := nPicks_is l hn
  have h4 := nPicks_16 l hn
  have e1 : mn (wrap64 (highR l - lowR l)) 16 = (nPicks l : Int) := by
    rw [w64i (highR l - lowR l) (by omega) (by omega), h3]
    unfold mn
    split <;> omega
  simp only [choose_Picks.f]
  refine Ev.bind (plow_ev l hl) ?_
  refine Ev.bind (phigh_ev l hl) ?_
  rw [e1]
  exact ppicks_l0 l hl (lowR l) (highR l) h1.1 h2.1 h2.2 (nPicks l) h4.1 h4.2 (nPicks l) 0 [] (by omega) rfl
theorem rpicks_ev (l : List S30) (hl : okAll l) (hn : okN l) (ht : (l.flatMap (fun r => r.f5)).length < 1256584717458) : Ev (fun k => catenaryref18_Picks.f k l) (picksR l (lowR l) (nPicks l) 0) := by
  have h1 := low_bounds l hn
  have h2 := high_bounds l hn
  simp only [catenaryref18_Picks.f]
  refine Ev.bind (rlow_ev l hl) ?_
  refine Ev.bind (rhigh_ev l hl) ?_
  have h := rpicks_l0 l hl ht (lowR l) (highR l) h1.1 h2.1 h2.2 (nPicks l) (nPicks_is l hn) (nPicks l) 0 [] (by omega) rfl
  rw [show lowR l + ((0 : Nat) : Int) = lowR l from by omega] at h
  exact h
theorem rd36 (xs : List S36) (i : Nat) (h : i < xs.length) : rd_T36 xs (i : Int) = xs[i] := by
  unfold rd_T36
  rw [Int.toNat_natCast, List.getD_eq_getElem?_getD, List.getElem?_eq_getElem h]
  rfl
theorem cp_l2 (l : List S30) (hl : okAll l) : ∀ (d i : Nat), d + i = l.length → Ev (fun k => catenarylaw18_ChoosePicks.l2 k l l (l.length : Int) (i : Int)) true
  | 0, i, hd => by
    have e1 : ¬ (i : Int) < (l.length : Int) := by omega
    refine ev_succ ?_
    simp only [catenarylaw18_ChoosePicks.l2, if_neg e1]
    exact Ev.now _
  | d + 1, i, hd => by
    have hi : i < l.length := by omega
    have e1 : (i : Int) < (l.length : Int) := by omega
    have e2 : (0 : Int) ≤ (i : Int) := by omega
    have hl1 := hl.1
    have ew : wrap64 ((i : Int) + 1) = ((i + 1 : Nat) : Int) := w64 i (by omega)
    refine ev_succ ?_
    simp only [catenarylaw18_ChoosePicks.l2, if_pos e1, if_pos e2, rd30 l i hi]
    refine Ev.bind (samer_ev _ (hl.2 _ (List.getElem_mem hi))) ?_
    simp only [if_true, ew]
    exact cp_l2 l hl d (i + 1) (by omega)
theorem cp_l1 (l : List S30) (hl : okAll l) (g : List S36) (hg : g.length ≤ 16) : ∀ (d i : Nat), d + i = g.length → Ev (fun k => catenarylaw18_ChoosePicks.l1 k l l g g (g.length : Int) (i : Int)) true
  | 0, i, hd => by
    have e1 : ¬ (i : Int) < (g.length : Int) := by omega
    refine ev_succ ?_
    simp only [catenarylaw18_ChoosePicks.l1, if_neg e1]
    exact cp_l2 l hl l.length 0 (by omega)
  | d + 1, i, hd => by
    have hi : i < g.length := by omega
    have e1 : (i : Int) < (g.length : Int) := by omega
    have e2 : (0 : Int) ≤ (i : Int) := by omega
    have ew : wrap64 ((i : Int) + 1) = ((i + 1 : Nat) : Int) := w64 i (by omega)
    refine ev_succ ?_
    simp only [catenarylaw18_ChoosePicks.l1, if_pos e1, if_pos e2, rd36 g i hi, sameq_self, Option.bind_some, if_true, ew]
    exact cp_l1 l hl g hg d (i + 1) (by omega)
theorem cp_j1 (l : List S30) (hl : okAll l) (hn : okN l) (ht : (l.flatMap (fun r => r.f5)).length < 1256584717458) : Ev (fun k => catenarylaw18_ChoosePicks.j1 k l l false) true := by
  refine ev_succ ?_
  simp only [catenarylaw18_ChoosePicks.j1, Bool.false_eq_true, if_false]
  refine Ev.bind (ppicks_ev l hl hn) ?_
  refine Ev.bind (rpicks_ev l hl hn ht) ?_
  simp only [if_true]
  exact cp_l1 l hl _ (by rw [picksR_len]; exact (nPicks_16 l hn).1) _ 0 (by rw [Nat.add_zero])
theorem cp_l0 (l : List S30) (hl : okAll l) (hn : okN l) (ht : (l.flatMap (fun r => r.f5)).length < 1256584717458) (s : Int) : ∀ (d i : Nat) (acc : List S30), d + i = l.length → acc = l.take i → Ev (fun k => catenarylaw18_ChoosePicks.l0 k l s acc l (l.length : Int) (i : Int)) true
  | 0, i, acc, hd, ha => by
    have e1 : ¬ (i : Int) < (l.length : Int) := by omega
    have ea : acc = l := by rw [ha, List.take_of_length_le (by omega)]
    subst ea
    refine ev_succ ?_
    simp only [catenarylaw18_ChoosePicks.l0, if_neg e1]
    refine Ev.bind (plow_ev acc hl) ?_
    refine Ev.bind (rlow_ev acc hl) ?_
    simp only [if_true]
    refine Ev.bind (phigh_ev acc hl) ?_
    refine Ev.bind (rhigh_ev acc hl) ?_
    simp only [if_true]
    refine Ev.bind (pick_ev s acc hl) ?_
    refine Ev.bind (rpick_ev s acc hl ht) ?_
    simp only [sameq_self, Option.bind_some, Bool.not_true]
    exact cp_j1 acc hl hn ht
  | d + 1, i, acc, hd, ha => by
    have hi : i < l.length := by omega
    have e1 : (i : Int) < (l.length : Int) := by omega
    have e2 : (0 : Int) ≤ (i : Int) := by omega
    have hl1 := hl.1
    have ew : wrap64 ((i : Int) + 1) = ((i + 1 : Nat) : Int) := w64 i (by omega)
    have e3 : acc.length < 1099511627776 := by rw [ha, List.length_take]; omega
    refine ev_succ ?_
    simp only [catenarylaw18_ChoosePicks.l0, if_pos e1, if_pos e2, rd30 l i hi]
    refine Ev.bind (copyrep_ev _ (hl.2 _ (List.getElem_mem hi))) ?_
    simp only [if_pos e3, ew]
    refine cp_l0 l hl hn ht s d (i + 1) _ (by omega) ?_
    rw [ha, List.take_succ_eq_append_getElem hi]
def PureB : Prop := ∀ (l : List S30) (s : Int), (Kd.gSl 128 g30) l → (Kd.gInt .i64) s → (l.flatMap (fun r => r.f5)).length ≤ 1048576 → ∃ k, catenarylaw18_ChoosePicks.f k l s = some true
theorem calive : Ev (fun k => catenarylaw18_chooseAlive.f k) true := Ev.of (k := 60) (catenarylaw18_chooseAlive.mono) (by kernel_rfl)
theorem inI_of {x : Int} (h : (Kd.gInt .i64) x) : x ≤ 9223372036854775807 := by
  unfold Kd.gInt at h
  have h2 : (decide (IntKind.i64.min ≤ x) && decide (x ≤ IntKind.i64.max)) = true := h
  rw [Bool.and_eq_true, decide_eq_true_iff, decide_eq_true_iff] at h2
  have e2 : IntKind.i64.max = 9223372036854775807 := by decide
  rw [e2] at h2
  exact h2.2
/-- YOURS -/
theorem ChoosePicks : PureB := by
  intro l s hl _ hb
  have hn : okN l := by
    intro r hr
    obtain ⟨_, _, h2, _, _, h5, _⟩ := hl.2.2 r hr
    exact ⟨inI_of h2, fun p hp => inI_of (h5.2.2 p hp).1⟩
  have key : Ev (fun k => catenarylaw18_ChoosePicks.f k l s) true := by
    simp only [catenarylaw18_ChoosePicks.f]
    refine Ev.bind calive ?_
    simp only [if_true]
    exact cp_l0 l (okAll_of l hl) hn (by omega) s l.length 0 [] (by omega) rfl
  obtain ⟨K, hK⟩ := key
  exact ⟨K, hK K (Nat.le_refl _)⟩
end Go.Proofs.Ytllnbmmciejmoaa.Pure
