/- The pure statement. -/
import Derived.Test.YtllnbmmciejmoaaPChooseKeepsx6
import Derived.KernelRfl
import Derived.Lib.Bytes
namespace Go.Proofs.Ytllnbmmciejmoaa.Pure
open Go Go.RowKit Go.Proofs.Ytllnbmmciejmoaa.PChooseKeeps Go.Proofs.YtllnbmmciejmoaaW.PrintWords Go.Proofs.YtllnbmmciejmoaaW.PrintLast Go.Proofs.YtllnbmmciejmoaaW.PrintMore
set_option linter.unusedVariables false
set_option linter.unusedSimpArgs false
theorem w64 (i : Nat) (h : i < 1000000000000000000) : wrap64 ((i : Int) + 1) = ((i + 1 : Nat) : Int) := by unfold wrap64; omega
theorem ev_succ {α : Type} {g : Nat → Option α} {r : α} (h : Ev (fun k => g (k + 1)) r) : Ev g r := Ev.step (fun _ => rfl) h
theorem rd57 (xs : List S57) (i : Nat) (h : i < xs.length) : rd_T57 xs (i : Int) = xs[i] := by
  unfold rd_T57
  rw [Int.toNat_natCast, List.getD_eq_getElem?_getD, List.getElem?_eq_getElem h]; rfl
theorem rd45 (xs : List S45) (i : Nat) (h : i < xs.length) : rd_T45 xs (i : Int) = xs[i] := by
  unfold rd_T45
  rw [Int.toNat_natCast, List.getD_eq_getElem?_getD, List.getElem?_eq_getElem h]; rfl
theorem rd30 (xs : List S30) (i : Nat) (h : i < xs.length) : rd_T30 xs (i : Int) = xs[i] := by
  unfold rd_T30
  rw [Int.toNat_natCast, List.getD_eq_getElem?_getD, List.getElem?_eq_getElem h]; rfl
/-! what a right input is -/
def okReq (q : S36) : Prop := q.f2.length < 140737488355328 ∧ q.f3.length < 140737488355328
def okVotes (l : List S57) : Prop := l.length < 4398046511104 ∧ ∀ x ∈ l, x.f1.length < 140737488355328
def okPreps (l : List S45) : Prop := l.length < 1256584717458 ∧ ∀ x ∈ l, okReq x.f2 ∧ okVotes x.f3
def okRep (r : S30) : Prop := r.f3.length < 140737488355328 ∧ okVotes r.f4 ∧ okPreps r.f5 ∧ r.f6.length < 140737488355328
def okAll (l : List S30) : Prop := l.length < 1099511627776 ∧ ∀ r ∈ l, okRep r
theorem copyv_l0 (l : List S57) (hx : l.length < 4398046511104) (hn : ∀ x ∈ l, x.f1.length < 140737488355328) : ∀ (d i : Nat) (acc : List S57), d + i = l.length → acc.length = i → Ev (fun k => catenaryref05_CopyVotes.l0 k acc l (l.length : Int) (i : Int)) (acc ++ l.drop i)
  | 0, i, acc, hd, ha => by
    have e1 : ¬ (i : Int) < (l.length : Int) := by omega
    refine ev_succ ?_
    simp only [catenaryref05_CopyVotes.l0, if_neg e1]
    rw [List.drop_eq_nil_of_le (by omega), List.append_nil]
    exact Ev.now _
  | d + 1, i, acc, hd, ha => by
    have hi : i < l.length := by omega
    have e1 : (i : Int) < (l.length : Int) := by omega
    have e2 : (0 : Int) ≤ (i : Int) := by omega
    have e3 : acc.length < 4398046511104 := by omega
    have ew : wrap64 ((i : Int) + 1) = ((i + 1 : Nat) : Int) := w64 i (by omega)
    have en : ([] : List Int).length + (l[i]).f1.length < 140737488355328 := by
      have := hn _ (List.getElem_mem hi)
      rw [List.length_nil]; omega
    have ih := copyv_l0 l hx hn d (i + 1) (acc ++ [l[i]]) (by omega) (by rw [List.length_append, ha]; rfl)
    rw [List.append_assoc, List.singleton_append] at ih
    rw [List.drop_eq_getElem_cons hi]
    refine ev_succ ?_
    simp only [catenaryref05_CopyVotes.l0, if_pos e1, if_pos e2, rd57 l i hi, Option.bind_some, if_pos e3, if_pos en, List.nil_append, ew]
    exact ih
theorem copyv_ev (l : List S57) (h : okVotes l) : Ev (fun k => catenaryref05_CopyVotes.f k l) l := by
  simp only [catenaryref05_CopyVotes.f]
  exact copyv_l0 l h.1 h.2 l.length 0 [] (by omega) rfl
theorem copyq (a b : Int) (l m : List Int) (h1 : l.length < 140737488355328) (h2 : m.length < 140737488355328) : catenaryref05_CopyReq.f a b l m = some (a, b, l, m) := by
  have e1 : ([] : List Int).length + l.length < 140737488355328 := by rw [List.length_nil]; omega
  have e2 : ([] : List Int).length + m.length < 140737488355328 := by rw [List.length_nil]; omega
  simp only [catenaryref05_CopyReq.f, Option.bind_some, if_pos e1, if_pos e2, List.nil_append]
theorem copyr_l0 (l : List S45) (h : okPreps l) (a b c d5 : Int) (m : List Int) (v : List S57) (p8 : List S45) (s : List Int) : ∀ (d i : Nat) (acc : List S45), d + i = l.length → acc.length = i →
    Ev (fun k => catenaryref05_CopyReport.l0 k acc l (l.length : Int) (i : Int) a b c d5 m v p8 s) (a, b, c, d5, m, v, acc ++ l.drop i, s)
  | 0, i, acc, hd, ha => by
    have e1 : ¬ (i : Int) < (l.length : Int) := by omega
    refine ev_succ ?_
    simp only [catenaryref05_CopyReport.l0, if_neg e1]
    rw [List.drop_eq_nil_of_le (by omega), List.append_nil]
    exact Ev.now _
  | d + 1, i, acc, hd, ha => by
    have hi : i < l.length := by omega
    have e1 : (i : Int) < (l.length : Int) := by omega
    have e2 : (0 : Int) ≤ (i : Int) := by omega
    have hl := h.1
    have e3 : acc.length < 1256584717458 := by omega
    have ew : wrap64 ((i : Int) + 1) = ((i + 1 : Nat) : Int) := w64 i (by omega)
    obtain ⟨hq, hv⟩ := h.2 _ (List.getElem_mem hi)
    have ih := copyr_l0 l h a b c d5 m v p8 s d (i + 1) (acc ++ [l[i]]) (by omega) (by rw [List.length_append, ha]; rfl)
    rw [List.append_assoc, List.singleton_append] at ih
    rw [List.drop_eq_getElem_cons hi]
    refine ev_succ ?_
    simp only [catenaryref05_CopyReport.l0, if_pos e1, if_pos e2, rd45 l i hi, copyq _ _ _ _ hq.1 hq.2, Option.bind_some, if_pos e3, ew]
    exact Ev.bind (copyv_ev _ hv) ih
theorem copyrep_ev (r : S30) (h : okRep r) : Ev (fun k => catenaryref05_CopyReport.f k r.f0.f0 r.f0.f1 r.f1 r.f2 r.f3 r.f4 r.f5 r.f6) (r.f0.f0, r.f0.f1, r.f1, r.f2, r.f3, r.f4, r.f5, r.f6) := by
  have e1 : ([] : List Int).length + r.f3.length < 140737488355328 := by have := h.1; rw [List.length_nil]; omega
  have e2 : ([] : List Int).length + r.f6.length < 140737488355328 := by have := h.2.2.2; rw [List.length_nil]; omega
  simp only [catenaryref05_CopyReport.f, Option.bind_some, if_pos e1, if_pos e2, List.nil_append]
  refine Ev.bind (copyv_ev _ h.2.1) ?_
  have := copyr_l0 r.f5 h.2.2.1 r.f0.f0 r.f0.f1 r.f1 r.f2 r.f3 r.f4 r.f5 r.f6 r.f5.length 0 [] (by omega) rfl
  exact this
/-! ballots -/
def cmpI (a b : Int) : Int := if a < b then -1 else if a > b then 1 else 0
theorem cmpI_is (a b : Int) : cmp_Compare_int.f a b = some (cmpI a b) := by
  have e : ∀ x : Int, (x != x) = false := fun x => by simp
  simp only [cmp_Compare_int.f, cmp_isNaN_int.f, e, Option.bind_some, Bool.false_eq_true, if_false]
  unfold cmpI
  split
  · rfl
  · split <;> rfl
def cmpB (a b c d : Int) : Int := if cmpI a c = 0 then cmpI b d else cmpI a c
theorem or_ev (x y : Int) : Ev (fun k => cmp_Or_int.f k [x, y]) (if x = 0 then y else x) := by
  simp only [cmp_Or_int.f]
  apply ev_succ
  have r0 : rd [x, y] 0 = x := rfl
  have r1 : rd [x, y] 1 = y := rfl
  have w0 : wrap64 (0 + 1) = 1 := by unfold wrap64; omega
  have w1 : wrap64 (1 + 1) = 2 := by unfold wrap64; omega
  by_cases hx : x = 0
  · subst hx
    simp only [cmp_Or_int.l0, r0, w0]
    apply ev_succ
    by_cases hy : y = 0
    · subst hy
      simp only [cmp_Or_int.l0, r1, w1]
      apply ev_succ
      simp [cmp_Or_int.l0]
      exact Ev.now _
    · simp [cmp_Or_int.l0, r1, hy]
      exact Ev.now _
  · simp [cmp_Or_int.l0, r0, hx]
    exact Ev.now _
theorem cmpB_ev (a b c d : Int) : Ev (fun k => ballot_Compare.f k a b c d) (cmpB a b c d) := by
  simp only [ballot_Compare.f, cmpI_is, Option.bind_some]
  exact Ev.bind (or_ev _ _) (Ev.now _)
def gtP (p q : S45) : Bool := decide (cmpB p.f1.f0 p.f1.f1 q.f1.f0 q.f1.f1 > 0)
theorem gtP_iff (p q : S45) : gtP p q = true ↔ (p.f1.f0 > q.f1.f0 ∨ (p.f1.f0 = q.f1.f0 ∧ p.f1.f1 > q.f1.f1)) := by
  unfold gtP cmpB cmpI
  rw [decide_eq_true_eq]
  constructor
  · intro h
    repeat' split at h
    all_goals omega
  · intro h
    repeat' split
    all_goals omega
/-! choose.best -/
def upR (o : Option S45) (p : S45) : Option S45 := match o with
  | none => some p
  | some q => if gtP p q = true then some p else some q
def bestIn (s : Int) (o : Option S45) (l : List S45) : Option S45 := l.foldl (fun o p => if p.f0 = s then upR o p else o) o
def bestL (s : Int) (o : Option S45) (l : List S30) : Option S45 := l.foldl (fun o r => bestIn s o r.f5) o
theorem up_ev (o : Option S45) (p : S45) : Ev (fun k => choose_best.up k o p) (upR o p) := by
  cases o with
  | none => exact Ev.now _
  | some q =>
    refine Ev.bind (g := fun k => ballot_Compare.f k p.f1.f0 p.f1.f1 q.f1.f0 q.f1.f1) (f := fun _ t => if t > 0 then some (some p) else some (some q)) (cmpB_ev _ _ _ _) ?_
    show Ev (fun _ => if cmpB p.f1.f0 p.f1.f1 q.f1.f0 q.f1.f1 > 0 then some (some p) else some (some q)) (if gtP p q = true then some p else some q)
    unfold gtP
    by_cases h : cmpB p.f1.f0 p.f1.f1 q.f1.f0 q.f1.f1 > 0
    · simp only [if_pos h, decide_eq_true h, if_true]; exact Ev.now _
    · simp only [if_neg h, decide_eq_false h, Bool.false_eq_true, if_false]; exact Ev.now _
theorem best_l1 (s : Int) (l : List S30) (n x12 : Int) (p : List S45) (hp : p.length < 1256584717458) (R : Option S45) : ∀ (d i : Nat) (o : Option S45), d + i = p.length →
    Ev (fun k => choose_best.l0 k s (bestIn s o (p.drop i)) l n (wrap64 (x12 + 1))) R → Ev (fun k => choose_best.l1 k s o l n x12 p (p.length : Int) (i : Int)) R
  | 0, i, o, hd, h => by
    have e1 : ¬ (i : Int) < (p.length : Int) := by omega
    refine ev_succ ?_
    simp only [choose_best.l1, if_neg e1]
    rw [List.drop_eq_nil_of_le (by omega)] at h
    exact h
  | d + 1, i, o, hd, h => by
    have hi : i < p.length := by omega
    have e1 : (i : Int) < (p.length : Int) := by omega
    have e2 : (0 : Int) ≤ (i : Int) := by omega
    have ew : wrap64 ((i : Int) + 1) = ((i + 1 : Nat) : Int) := w64 i (by omega)
    rw [List.drop_eq_getElem_cons hi] at h
    refine ev_succ ?_
    by_cases hs : (p[i]).f0 = s
    · simp only [choose_best.l1, if_pos e1, if_pos e2, rd45 p i hi, if_pos hs, ew]
      refine Ev.bind (up_ev _ _) ?_
      refine best_l1 s l n x12 p hp R d (i + 1) _ (by omega) ?_
      have e : bestIn s o (p[i] :: p.drop (i + 1)) = bestIn s (upR o p[i]) (p.drop (i + 1)) := by
        unfold bestIn; rw [List.foldl_cons, if_pos hs]
      rw [e] at h
      exact h
    · simp only [choose_best.l1, if_pos e1, if_pos e2, rd45 p i hi, if_neg hs, ew]
      refine best_l1 s l n x12 p hp R d (i + 1) _ (by omega) ?_
      have e : bestIn s o (p[i] :: p.drop (i + 1)) = bestIn s o (p.drop (i + 1)) := by
        unfold bestIn; rw [List.foldl_cons, if_neg hs]
      rw [e] at h
      exact h
theorem best_l0 (s : Int) (l : List S30) (hl : okAll l) : ∀ (d i : Nat) (o : Option S45), d + i = l.length → Ev (fun k => choose_best.l0 k s o l (l.length : Int) (i : Int)) (bestL s o (l.drop i))
  | 0, i, o, hd => by
    have e1 : ¬ (i : Int) < (l.length : Int) := by omega
    refine ev_succ ?_
    simp only [choose_best.l0, if_neg e1]
    rw [List.drop_eq_nil_of_le (by omega)]
    exact Ev.now _
  | d + 1, i, o, hd => by
    have hi : i < l.length := by omega
    have e1 : (i : Int) < (l.length : Int) := by omega
    have e2 : (0 : Int) ≤ (i : Int) := by omega
    have hl1 := hl.1
    have ew : wrap64 ((i : Int) + 1) = ((i + 1 : Nat) : Int) := w64 i (by omega)
    rw [List.drop_eq_getElem_cons hi]
    refine ev_succ ?_
    simp only [choose_best.l0, if_pos e1, if_pos e2, rd30 l i hi]
    have ih := best_l0 s l hl d (i + 1) (bestIn s o (l[i]).f5) (by omega)
    have hp := (hl.2 _ (List.getElem_mem hi)).2.2.1.1
    refine best_l1 s l (l.length : Int) (i : Int) (l[i]).f5 hp _ (l[i]).f5.length 0 o (by omega) ?_
    rw [List.drop_zero, ew]
    exact ih
theorem best_ev (s : Int) (l : List S30) (hl : okAll l) : Ev (fun k => choose_best.f k s l) (bestL s none l) := by
  have := best_l0 s l hl l.length 0 none (by omega)
  rw [List.drop_zero] at this
  exact this
def reqOf (o : Option S45) : Int × Int × List Int × List Int := match o with
  | none => (0, 0, [], [])
  | some q => (q.f2.f0, q.f2.f1, q.f2.f2, q.f2.f3)
/-- all preps at a slot -/
def atS (s : Int) (l : List S30) : List S45 := (l.flatMap (fun r => r.f5)).filter (fun p => decide (p.f0 = s))
theorem bestIn_fold (s : Int) (l : List S45) : ∀ o, bestIn s o l = (l.filter (fun p => decide (p.f0 = s))).foldl upR o := by
  induction l with
  | nil => intro o; rfl
  | cons p t ih =>
    intro o
    have e : bestIn s o (p :: t) = bestIn s (if p.f0 = s then upR o p else o) t := rfl
    rw [e, ih]
    by_cases h : p.f0 = s
    · rw [if_pos h, List.filter_cons, if_pos (decide_eq_true h), List.foldl_cons]
    · rw [if_neg h, List.filter_cons, if_neg (by simp [h])]
theorem bestL_fold (s : Int) (l : List S30) : ∀ o, bestL s o l = (atS s l).foldl upR o := by
  induction l with
  | nil => intro o; rfl
  | cons r t ih =>
    intro o
    have e : bestL s o (r :: t) = bestL s (bestIn s o r.f5) t := rfl
    rw [e, ih, bestIn_fold]
    unfold atS
    rw [List.flatMap_cons, List.filter_append, List.foldl_append]
theorem fold_top : ∀ (l : List S45) (q : S45), ∃ b, l.foldl upR (some q) = some b ∧ (b = q ∨ b ∈ l) ∧ gtP q b = false ∧ ∀ x ∈ l, gtP x b = false
  | [], q => ⟨q, rfl, .inl rfl, by
      rw [Bool.eq_false_iff]; intro h; rw [gtP_iff] at h; omega, fun _ h => by cases h⟩
  | p :: t, q => by
    by_cases h : gtP p q = true
    · obtain ⟨b, e, hm, hq, hx⟩ := fold_top t p
      have eu : upR (some q) p = some p := by unfold upR; simp only [h, if_true]
      refine ⟨b, by rw [List.foldl_cons, eu]; exact e, .inr ?_, ?_, ?_⟩
      · rcases hm with rfl | hm
        · exact List.mem_cons_self
        · exact List.mem_cons_of_mem _ hm
      · rw [Bool.eq_false_iff] at hq ⊢
        intro h2
        apply hq
        rw [gtP_iff] at h h2 ⊢
        omega
      · intro x hx2
        rcases List.mem_cons.1 hx2 with rfl | hx2
        · exact hq
        · exact hx x hx2
    · obtain ⟨b, e, hm, hq, hx⟩ := fold_top t q
      have eu : upR (some q) p = some q := by unfold upR; simp only [Bool.eq_false_iff.mpr h, Bool.false_eq_true, if_false]
      refine ⟨b, by rw [List.foldl_cons, eu]; exact e, ?_, hq, ?_⟩
      · rcases hm with rfl | hm
        · exact .inl rfl
        · exact .inr (List.mem_cons_of_mem _ hm)
      · intro x hx2
        rcases List.mem_cons.1 hx2 with rfl | hx2
        · rw [Bool.eq_false_iff] at hq ⊢
          intro h2
          apply hq
          rw [gtP_iff] at h h2 ⊢
          omega
        · exact hx x hx2
theorem pick_ev (s : Int) (l : List S30) (hl : okAll l) : Ev (fun k => choose_Pick.f k s l) (reqOf (bestL s none l)) := by
  refine Ev.bind (g := fun k => choose_best.f k s l) (f := fun _ o => choose_Pick.g o) (best_ev s l hl) ?_
  rw [bestL_fold]
  cases h : (atS s l) with
  | nil => exact Ev.now _
  | cons p t =>
    obtain ⟨b, e, hm, _, _⟩ := fold_top t p
    have eb : List.foldl upR none (p :: t) = some b := e
    rw [eb]
    have hb : b ∈ atS s l := by
      rw [h]
      rcases hm with rfl | hm
      · exact List.mem_cons_self
      · exact List.mem_cons_of_mem _ hm
    unfold atS at hb
    rw [List.mem_filter, List.mem_flatMap] at hb
    obtain ⟨⟨r, hr, hbr⟩, _⟩ := hb
    obtain ⟨h1, h2⟩ := ((hl.2 r hr).2.2.1.2 b hbr).1
    have e1 : slices_Clone_byte_byte.f b.f2.f2 = some b.f2.f2 := by unfold slices_Clone_byte_byte.f; rw [if_pos h1]
    have e2 : slices_Clone_byte_byte.f b.f2.f3 = some b.f2.f3 := by unfold slices_Clone_byte_byte.f; rw [if_pos h2]
    have e3 : choose_Pick.g (some b) = some (reqOf (some b)) := by
      show (slices_Clone_byte_byte.f b.f2.f2).bind _ = _
      rw [e1, Option.bind_some, e2, Option.bind_some]
      rfl
    rw [e3]
    exact Ev.now _
def sameQ (a b : Int) (l m : List Int) (a' b' : Int) (l' m' : List Int) : Bool := (catenaryref05_SameReq.f a b l m a' b' l' m').getD false
theorem sameQ_is (a b : Int) (l m : List Int) (a' b' : Int) (l' m' : List Int) : catenaryref05_SameReq.f a b l m a' b' l' m' = some (sameQ a b l m a' b' l' m') := by
  have es : ∀ a b : List Int, catenaryref01_Same.f a b = some ((strOfNums a).toList == (strOfNums b).toList) := fun _ _ => rfl
  unfold sameQ
  simp only [catenaryref05_SameReq.f, es, Option.bind_some]
  repeat' split
  all_goals rfl
theorem sameQ_self (a b : Int) (l m : List Int) : sameQ a b l m a b l m = true := by
  have es : ∀ a b : List Int, catenaryref01_Same.f a b = some ((strOfNums a).toList == (strOfNums b).toList) := fun _ _ => rfl
  have eb : ∀ a : List Int, ((strOfNums a).toList == (strOfNums a).toList) = true := fun a => beq_self_eq_true _
  unfold sameQ
  simp only [catenaryref05_SameReq.f, es, Option.bind_some, if_true, eb]
  rfl
def bad (x1 : Int) (c q : S45) : Bool := decide (q.f0 = x1) && gtP q c
theorem k_l4 (x0 : List S30) (x1 : Int) (x9 x10 : Bool) (x38 : List S30) (x39 x40 : Int) (x45 : List S45) (x46 x47 : Int) (x55 : List S30) (x56 x57 : Int) (P : List S45) (hP : P.length < 1256584717458) (g0 g1 : Int) (g2 g3 : List Int) (c : S45) (R : Bool) :
    ∀ (d i : Nat) (x15 : Bool), d + i = P.length → Ev (fun k => catenarylaw18_ChooseKeeps.l3 k x0 x1 x9 x10 (x15 && (P.drop i).all (fun q => !bad x1 c q)) x38 x39 x40 x45 x46 x47 x55 x56 (wrap64 (x57 + 1)) g0 g1 g2 g3 c.f0 c.f1.f0 c.f1.f1 c.f2.f0 c.f2.f1 c.f2.f2 c.f2.f3 c.f3) R →
      Ev (fun k => catenarylaw18_ChooseKeeps.l4 k x0 x1 x9 x10 x15 x38 x39 x40 x45 x46 x47 x55 x56 x57 P (P.length : Int) (i : Int) g0 g1 g2 g3 c.f0 c.f1.f0 c.f1.f1 c.f2.f0 c.f2.f1 c.f2.f2 c.f2.f3 c.f3) R
  | 0, i, x15, hd, h => by
    have e1 : ¬ (i : Int) < (P.length : Int) := by omega
    refine ev_succ ?_
    simp only [catenarylaw18_ChooseKeeps.l4, if_neg e1]
    rw [List.drop_eq_nil_of_le (by omega), List.all_nil, Bool.and_true] at h
    exact h
  | d + 1, i, x15, hd, h => by
    have hi : i < P.length := by omega
    have e1 : (i : Int) < (P.length : Int) := by omega
    have e2 : (0 : Int) ≤ (i : Int) := by omega
    have ew : wrap64 ((i : Int) + 1) = ((i + 1 : Nat) : Int) := w64 i (by omega)
    rw [List.drop_eq_getElem_cons hi, List.all_cons] at h
    have go := fun y (hy : Ev (fun k => catenarylaw18_ChooseKeeps.l3 k x0 x1 x9 x10 (y && (P.drop (i + 1)).all (fun q => !bad x1 c q)) x38 x39 x40 x45 x46 x47 x55 x56 (wrap64 (x57 + 1)) g0 g1 g2 g3 c.f0 c.f1.f0 c.f1.f1 c.f2.f0 c.f2.f1 c.f2.f2 c.f2.f3 c.f3) R) => k_l4 x0 x1 x9 x10 x38 x39 x40 x45 x46 x47 x55 x56 x57 P hP g0 g1 g2 g3 c R d (i + 1) y (by omega) hy
    refine ev_succ ?_
    by_cases hs : (P[i]).f0 = x1
    · simp only [catenarylaw18_ChooseKeeps.l4, if_pos e1, if_pos e2, rd45 P i hi, if_pos hs]
      refine Ev.bind (cmpB_ev _ _ _ _) ?_
      rw [show decide (cmpB (P[i]).f1.f0 (P[i]).f1.f1 c.f1.f0 c.f1.f1 > 0) = gtP P[i] c from rfl]
      refine ev_succ ?_
      have eb : bad x1 c P[i] = gtP P[i] c := by unfold bad; rw [decide_eq_true hs, Bool.true_and]
      rw [eb] at h
      cases hg : gtP P[i] c with
      | true =>
        rw [hg, Bool.not_true, Bool.false_and, Bool.and_false] at h
        simp only [catenarylaw18_ChooseKeeps.j5, if_true, ew]
        exact go false (by rw [Bool.false_and]; exact h)
      | false =>
        rw [hg, Bool.not_false, Bool.true_and] at h
        simp only [catenarylaw18_ChooseKeeps.j5, Bool.false_eq_true, if_false, ew]
        exact go x15 h
    · simp only [catenarylaw18_ChooseKeeps.l4, if_pos e1, if_pos e2, rd45 P i hi, if_neg hs]
      refine ev_succ ?_
      have eb : bad x1 c P[i] = false := by unfold bad; rw [decide_eq_false hs, Bool.false_and]
      rw [eb, Bool.not_false, Bool.true_and] at h
      simp only [catenarylaw18_ChooseKeeps.j5, Bool.false_eq_true, if_false, ew]
      exact go x15 h
theorem k_l3 (x0 : List S30) (x1 : Int) (x9 x10 : Bool) (x38 : List S30) (x39 x40 : Int) (x45 : List S45) (x46 x47 : Int) (l : List S30) (hl : okAll l) (g0 g1 : Int) (g2 g3 : List Int) (c : S45) (R : Bool) :
    ∀ (d i : Nat) (x15 : Bool), d + i = l.length → Ev (fun k => catenarylaw18_ChooseKeeps.l2 k x0 x1 (x9 || ((x15 && (l.drop i).all (fun r => r.f5.all (fun q => !bad x1 c q))) && sameQ g0 g1 g2 g3 c.f2.f0 c.f2.f1 c.f2.f2 c.f2.f3)) x10 x38 x39 x40 x45 x46 (wrap64 (x47 + 1)) g0 g1 g2 g3) R →
      Ev (fun k => catenarylaw18_ChooseKeeps.l3 k x0 x1 x9 x10 x15 x38 x39 x40 x45 x46 x47 l (l.length : Int) (i : Int) g0 g1 g2 g3 c.f0 c.f1.f0 c.f1.f1 c.f2.f0 c.f2.f1 c.f2.f2 c.f2.f3 c.f3) R
  | 0, i, x15, hd, h => by
    have e1 : ¬ (i : Int) < (l.length : Int) := by omega
    refine ev_succ ?_
    rw [List.drop_eq_nil_of_le (by omega), List.all_nil, Bool.and_true] at h
    simp only [catenarylaw18_ChooseKeeps.l3, if_neg e1]
    cases x9 with
    | true => simp only [if_true]; rw [Bool.true_or] at h; exact h
    | false =>
      rw [Bool.false_or] at h
      cases x15 with
      | true =>
        simp only [if_true, Bool.false_eq_true, if_false, sameQ_is, Option.bind_some]
        rw [Bool.true_and] at h
        exact h
      | false =>
        simp only [Bool.false_eq_true, if_false]
        rw [Bool.false_and] at h
        exact h
  | d + 1, i, x15, hd, h => by
    have hi : i < l.length := by omega
    have e1 : (i : Int) < (l.length : Int) := by omega
    have e2 : (0 : Int) ≤ (i : Int) := by omega
    have hl1 := hl.1
    have ew : wrap64 ((i : Int) + 1) = ((i + 1 : Nat) : Int) := w64 i (by omega)
    rw [List.drop_eq_getElem_cons hi, List.all_cons, ← Bool.and_assoc] at h
    refine ev_succ ?_
    simp only [catenarylaw18_ChooseKeeps.l3, if_pos e1, if_pos e2, rd30 l i hi]
    refine k_l4 x0 x1 x9 x10 x38 x39 x40 x45 x46 x47 l (l.length : Int) (i : Int) (l[i]).f5 (hl.2 _ (List.getElem_mem hi)).2.2.1.1 g0 g1 g2 g3 c R (l[i]).f5.length 0 x15 (by omega) ?_
    rw [ew, List.drop_zero]
    exact k_l3 x0 x1 x9 x10 x38 x39 x40 x45 x46 x47 l hl g0 g1 g2 g3 c R d (i + 1) _ (by omega) h
def good (l : List S30) (x1 : Int) (g0 g1 : Int) (g2 g3 : List Int) (p : S45) : Bool := decide (p.f0 = x1) && (l.all (fun r => r.f5.all (fun q => !bad x1 p q)) && sameQ g0 g1 g2 g3 p.f2.f0 p.f2.f1 p.f2.f2 p.f2.f3)
def isAt (x1 : Int) (p : S45) : Bool := decide (p.f0 = x1)
theorem k_l2 (l : List S30) (hl : okAll l) (x1 : Int) (x38 : List S30) (x39 x40 : Int) (P : List S45) (hP : P.length < 1256584717458) (g0 g1 : Int) (g2 g3 : List Int) (R : Bool) :
    ∀ (d i : Nat) (x9 x10 : Bool), d + i = P.length → Ev (fun k => catenarylaw18_ChooseKeeps.l1 k l x1 (x9 || (P.drop i).any (good l x1 g0 g1 g2 g3)) (x10 || (P.drop i).any (isAt x1)) x38 x39 (wrap64 (x40 + 1)) g0 g1 g2 g3) R →
      Ev (fun k => catenarylaw18_ChooseKeeps.l2 k l x1 x9 x10 x38 x39 x40 P (P.length : Int) (i : Int) g0 g1 g2 g3) R
  | 0, i, x9, x10, hd, h => by
    have e1 : ¬ (i : Int) < (P.length : Int) := by omega
    refine ev_succ ?_
    rw [List.drop_eq_nil_of_le (by omega), List.any_nil, List.any_nil, Bool.or_false, Bool.or_false] at h
    simp only [catenarylaw18_ChooseKeeps.l2, if_neg e1]
    exact h
  | d + 1, i, x9, x10, hd, h => by
    have hi : i < P.length := by omega
    have e1 : (i : Int) < (P.length : Int) := by omega
    have e2 : (0 : Int) ≤ (i : Int) := by omega
    have ew : wrap64 ((i : Int) + 1) = ((i + 1 : Nat) : Int) := w64 i (by omega)
    rw [List.drop_eq_getElem_cons hi, List.any_cons, List.any_cons, ← Bool.or_assoc, ← Bool.or_assoc] at h
    refine ev_succ ?_
    by_cases hs : (P[i]).f0 = x1
    · simp only [catenarylaw18_ChooseKeeps.l2, if_pos e1, if_pos e2, rd45 P i hi, if_pos hs]
      refine k_l3 l x1 x9 true x38 x39 x40 P (P.length : Int) (i : Int) l hl g0 g1 g2 g3 P[i] R l.length 0 true (by omega) ?_
      rw [ew, List.drop_zero, Bool.true_and]
      refine k_l2 l hl x1 x38 x39 x40 P hP g0 g1 g2 g3 R d (i + 1) _ true (by omega) ?_
      have eg : good l x1 g0 g1 g2 g3 P[i] = (l.all (fun r => r.f5.all (fun q => !bad x1 P[i] q)) && sameQ g0 g1 g2 g3 (P[i]).f2.f0 (P[i]).f2.f1 (P[i]).f2.f2 (P[i]).f2.f3) := by
        unfold good; rw [decide_eq_true hs, Bool.true_and]
      have ea : isAt x1 P[i] = true := decide_eq_true hs
      rw [eg, ea, Bool.or_true] at h
      exact h
    · simp only [catenarylaw18_ChooseKeeps.l2, if_pos e1, if_pos e2, rd45 P i hi, if_neg hs, ew]
      refine k_l2 l hl x1 x38 x39 x40 P hP g0 g1 g2 g3 R d (i + 1) x9 x10 (by omega) ?_
      have eg : good l x1 g0 g1 g2 g3 P[i] = false := by unfold good; rw [decide_eq_false hs, Bool.false_and]
      have ea : isAt x1 P[i] = false := decide_eq_false hs
      rw [eg, ea, Bool.or_false, Bool.or_false] at h
      exact h
def fin (x9 x10 : Bool) (g0 g1 : Int) (g2 g3 : List Int) : Bool := if x10 = true then x9 else sameQ g0 g1 g2 g3 0 0 [] []
theorem k_l1 (l : List S30) (hl : okAll l) (x1 : Int) (g0 g1 : Int) (g2 g3 : List Int) :
    ∀ (d i : Nat) (x9 x10 : Bool), d + i = l.length → Ev (fun k => catenarylaw18_ChooseKeeps.l1 k l x1 x9 x10 l (l.length : Int) (i : Int) g0 g1 g2 g3) (fin (x9 || (l.drop i).any (fun r => r.f5.any (good l x1 g0 g1 g2 g3))) (x10 || (l.drop i).any (fun r => r.f5.any (isAt x1))) g0 g1 g2 g3)
  | 0, i, x9, x10, hd => by
    have e1 : ¬ (i : Int) < (l.length : Int) := by omega
    refine ev_succ ?_
    rw [List.drop_eq_nil_of_le (by omega), List.any_nil, List.any_nil, Bool.or_false, Bool.or_false]
    simp only [catenarylaw18_ChooseKeeps.l1, if_neg e1, sameQ_is, Option.bind_some]
    unfold fin
    cases x10 with
    | true => simp only [if_true]; exact Ev.now _
    | false => simp only [Bool.false_eq_true, if_false]; exact Ev.now _
  | d + 1, i, x9, x10, hd => by
    have hi : i < l.length := by omega
    have e1 : (i : Int) < (l.length : Int) := by omega
    have e2 : (0 : Int) ≤ (i : Int) := by omega
    have hl1 := hl.1
    have ew : wrap64 ((i : Int) + 1) = ((i + 1 : Nat) : Int) := w64 i (by omega)
    rw [List.drop_eq_getElem_cons hi, List.any_cons, List.any_cons, ← Bool.or_assoc, ← Bool.or_assoc]
    refine ev_succ ?_
    simp only [catenarylaw18_ChooseKeeps.l1, if_pos e1, if_pos e2, rd30 l i hi]
    refine k_l2 l hl x1 l (l.length : Int) (i : Int) (l[i]).f5 (hl.2 _ (List.getElem_mem hi)).2.2.1.1 g0 g1 g2 g3 _ (l[i]).f5.length 0 x9 x10 (by omega) ?_
    rw [ew, List.drop_zero]
    exact k_l1 l hl x1 g0 g1 g2 g3 d (i + 1) _ _ (by omega)
theorem fin_true (l : List S30) (s : Int) : fin (false || l.any (fun r => r.f5.any (good l s (reqOf (bestL s none l)).1 (reqOf (bestL s none l)).2.1 (reqOf (bestL s none l)).2.2.1 (reqOf (bestL s none l)).2.2.2))) (false || l.any (fun r => r.f5.any (isAt s))) (reqOf (bestL s none l)).1 (reqOf (bestL s none l)).2.1 (reqOf (bestL s none l)).2.2.1 (reqOf (bestL s none l)).2.2.2 = true := by
  rw [Bool.false_or, Bool.false_or, bestL_fold]
  unfold fin
  cases h : atS s l with
  | nil =>
    have e : l.any (fun r => r.f5.any (isAt s)) = false := by
      rw [Bool.eq_false_iff]
      intro hc
      rw [List.any_eq_true] at hc
      obtain ⟨r, hr, hp⟩ := hc
      rw [List.any_eq_true] at hp
      obtain ⟨p, hp, hq⟩ := hp
      have hm : p ∈ atS s l := by
        unfold atS
        rw [List.mem_filter, List.mem_flatMap]
        exact ⟨⟨r, hr, hp⟩, hq⟩
      rw [h] at hm
      cases hm
    rw [e]
    exact sameQ_self 0 0 [] []
  | cons p t =>
    obtain ⟨b, e, hm, hq, hx⟩ := fold_top t p
    have eb : List.foldl upR none (p :: t) = some b := e
    rw [eb]
    have hb : b ∈ atS s l := by
      rw [h]
      rcases hm with rfl | hm
      · exact List.mem_cons_self
      · exact List.mem_cons_of_mem _ hm
    have htop : ∀ x ∈ atS s l, gtP x b = false := by
      intro x hx2
      rw [h] at hx2
      rcases List.mem_cons.1 hx2 with rfl | hx2
      · exact hq
      · exact hx x hx2
    have hb2 := hb
    unfold atS at hb2
    rw [List.mem_filter, List.mem_flatMap] at hb2
    obtain ⟨⟨r, hr, hbr⟩, hbs⟩ := hb2
    have hg : good l s (reqOf (some b)).1 (reqOf (some b)).2.1 (reqOf (some b)).2.2.1 (reqOf (some b)).2.2.2 b = true := by
      unfold good
      rw [hbs, Bool.true_and, Bool.and_eq_true]
      refine ⟨?_, sameQ_self _ _ _ _⟩
      rw [List.all_eq_true]
      intro r2 hr2
      rw [List.all_eq_true]
      intro q hq2
      unfold bad
      by_cases hs : q.f0 = s
      · have hm2 : q ∈ atS s l := by
          unfold atS
          rw [List.mem_filter, List.mem_flatMap]
          exact ⟨⟨r2, hr2, hq2⟩, decide_eq_true hs⟩
        rw [htop q hm2, Bool.and_false]; rfl
      · rw [decide_eq_false hs, Bool.false_and]; rfl
    have e1 : l.any (fun r => r.f5.any (good l s (reqOf (some b)).1 (reqOf (some b)).2.1 (reqOf (some b)).2.2.1 (reqOf (some b)).2.2.2)) = true := List.any_eq_true.2 ⟨r, hr, List.any_eq_true.2 ⟨b, hbr, hg⟩⟩
    rw [e1]
    split
    · rfl
    · rename_i hn
      exact absurd (List.any_eq_true.2 ⟨r, hr, List.any_eq_true.2 ⟨b, hbr, hbs⟩⟩) hn
theorem k_l0 (l : List S30) (hl : okAll l) (s : Int) : ∀ (d i : Nat) (acc : List S30), d + i = l.length → acc = l.take i → Ev (fun k => catenarylaw18_ChooseKeeps.l0 k l s acc l (l.length : Int) (i : Int)) true
  | 0, i, acc, hd, ha => by
    have e1 : ¬ (i : Int) < (l.length : Int) := by omega
    refine ev_succ ?_
    have ea : acc = l := by rw [ha, List.take_of_length_le (by omega)]
    subst ea
    simp only [catenarylaw18_ChooseKeeps.l0, if_neg e1]
    refine Ev.bind (pick_ev s acc hl) ?_
    have := k_l1 acc hl s (reqOf (bestL s none acc)).1 (reqOf (bestL s none acc)).2.1 (reqOf (bestL s none acc)).2.2.1 (reqOf (bestL s none acc)).2.2.2 acc.length 0 false false (by omega)
    rw [List.drop_zero, fin_true] at this
    exact this
  | d + 1, i, acc, hd, ha => by
    have hi : i < l.length := by omega
    have e1 : (i : Int) < (l.length : Int) := by omega
    have e2 : (0 : Int) ≤ (i : Int) := by omega
    have hl1 := hl.1
    have ew : wrap64 ((i : Int) + 1) = ((i + 1 : Nat) : Int) := w64 i (by omega)
    have e3 : acc.length < 1099511627776 := by rw [ha, List.length_take]; omega
    refine ev_succ ?_
    simp only [catenarylaw18_ChooseKeeps.l0, if_pos e1, if_pos e2, rd30 l i hi]
    refine Ev.bind (copyrep_ev _ (hl.2 _ (List.getElem_mem hi))) ?_
    simp only [if_pos e3, ew]
    exact k_l0 l hl s d (i + 1) _ (by omega) (by rw [ha, List.take_succ_eq_append_getElem hi])
theorem req_of {q : S36} (h : (Kd.gSl 1 (Kd.gInt .u8)) q.f2 ∧ (Kd.gSl 1 (Kd.gInt .u8)) q.f3) : okReq q := by
  have h1 := h.1.2.1
  have h2 := h.2.2.1
  exact ⟨by omega, by omega⟩
theorem okAll_of (l : List S30) (h : (Kd.gSl 128 g30) l) : okAll l := by
  have hv : ∀ v : List S57, (Kd.gSl 32 g57) v → okVotes v := by
    intro v hv
    have h1 := hv.2.1
    refine ⟨by omega, fun x hx => ?_⟩
    have h2 := (hv.2.2 x hx).2.2.1
    omega
  have h1 := h.2.1
  refine ⟨by omega, fun r hr => ?_⟩
  obtain ⟨_, _, _, h3, h4, h5, h6⟩ := h.2.2 r hr
  have a3 := h3.2.1
  have a6 := h6.2.1
  have a5 := h5.2.1
  refine ⟨by omega, hv _ h4, ⟨by omega, fun p hp => ?_⟩, by omega⟩
  obtain ⟨_, _, hq, hc⟩ := h5.2.2 p hp
  exact ⟨req_of hq.2.2, hv _ hc⟩
theorem calive : Ev (fun k => catenarylaw18_chooseAlive.f k) true := Ev.of (k := 60) (catenarylaw18_chooseAlive.mono) (by kernel_rfl)
/-- YOURS -/
theorem ChooseKeeps : catenarylaw18_ChooseKeeps.Pure := by
  intro l s hl _
  have key : Ev (fun k => catenarylaw18_ChooseKeeps.f k l s) true := by
    simp only [catenarylaw18_ChooseKeeps.f]
    refine Ev.bind calive ?_
    simp only [if_true]
    exact k_l0 l (okAll_of l hl) s l.length 0 [] (by omega) rfl
  obtain ⟨K, hK⟩ := key
  exact ⟨K, hK K (Nat.le_refl _)⟩
end Go.Proofs.Ytllnbmmciejmoaa.Pure
