-- Written by a program of this session's (an extension of the kit's print)
/- An element put in at a place, or taken out, by a call of the library's own text (slices.Insert, slices.Delete). -/
import Derived.Test.YtkomibcmpckflaaWWords
import Derived.Test.YtkomibcmpckflaaWApart
import Derived.Test.YtkomibcmpckflaaWLast
import Derived.Test.YtkomibcmpckflaaWMore
import Derived.Test.YtkomibcmpckflaaWMid
import Derived.Test.YtkomibcmpckflaaWShare
import Derived.Lib.SlBytesConst
import Derived.ChangeKeysEq
import Derived.Lib.ConvBytes
namespace Go.Proofs.YtkomibcmpckflaaW.PrintWords
open Go.RowKit
set_option linter.unusedVariables false
theorem Reps.take_ {α : Type} {R : α → List Value → Prop} {size : Nat} {ps : List α} {cs : List Value} (h : Reps R size ps cs) (i : Nat) (hi : i ≤ ps.length) : Reps R size (ps.take i) (cs.take (i * size)) := by
  refine ⟨?_, fun j p hj => ?_⟩
  · rw [List.length_take, List.length_take, h.1, Nat.min_eq_left hi, Nat.min_eq_left (Nat.mul_le_mul_right _ hi)]
  · have hj' : j < i := by
      have := (List.getElem?_eq_some_iff.1 hj).1
      rw [List.length_take] at this
      omega
    rw [List.getElem?_take_of_lt hj'] at hj
    have h2 := h.2 j p hj
    have e : (List.drop (j * size) (cs.take (i * size))).take size = (List.drop (j * size) cs).take size := by
      rw [List.drop_take, List.take_take, Nat.min_eq_left]
      have : (j + 1) * size ≤ i * size := Nat.mul_le_mul_right _ (by omega)
      rw [Nat.add_mul, Nat.one_mul] at this
      omega
    rw [e]
    exact h2
theorem Reps.drop_ {α : Type} {R : α → List Value → Prop} {size : Nat} {ps : List α} {cs : List Value} (h : Reps R size ps cs) (i : Nat) (hi : i ≤ ps.length) : Reps R size (ps.drop i) (cs.drop (i * size)) := by
  refine ⟨?_, fun j p hj => ?_⟩
  · rw [List.length_drop, List.length_drop, h.1, Nat.sub_mul]
  · rw [List.getElem?_drop] at hj
    have h2 := h.2 (i + j) p hj
    rw [List.drop_drop, show i * size + j * size = (i + j) * size by rw [Nat.add_mul]]
    exact h2
theorem reps_sole {α : Type} {R : α → List Value → Prop} {size : Nat} {p : α} {cs : List Value} (h : R p cs) (hl : cs.length = size) : Reps R size [p] cs := by
  have := (Reps.none R size).snoc h hl
  simpa using this
namespace Kd
theorem C_past {α : Type} {d : Kd α} {w w1 : World} {A : Option Addr} {n m : Nat} {xs : List α} (h : d.C w A n xs) (hb : Below (w.drewN m).heap.size (w.drewN m) w1) : d.C w1 A n xs := C_below (C_drewN h m) hb
theorem V_bytes {P : Program} {ops : Array Oper} {rest : List Oper} {o : Oper} {a : Act} {Q : Exit → Act → World → Prop} {W : World} (hgd : o.guard = none) {N : Tmp} (hd : o.dst = some N) (t : TypeId) (x : Operand) (ho : o.op = .convert t t x) {e : TypeId} (ht : P.underlying t = some (.slice e)) (he : P.underlying e = some (.int .u8))
    {xs : List Int} {cs : List Value} (hcs : cs = xs.map (Value.int .u8)) {n : Nat} (hn : n = xs.length) (_hl : xs.length ≤ 9223372036854775807) (hx : a.eval x = .slice (some ⟨W.heap.size, 0, none⟩) n n)
    (h : ∀ (v : Value) (w1 : World), Kd.V (Kd.int .u8) e w1 W.heap.size (fun k_ => W.heap.size ≤ k_) v xs → Below W.heap.size W w1 → True → True → wpList P ops Q rest (a.put o.dst v) w1) : wpList P ops Q (o :: rest) a (W.alloc (.cells cs.toArray e)) := by
  subst hn
  have hrun := Lib.run_convert_bytes_const (P := P) W t e cs.toArray xs.length xs.length ht he
  have hrun2 : (execOp a.eval o).run P (W.alloc (.cells cs.toArray e)) = .ok (.value (.slice (some ⟨W.heap.size, 0, none⟩) xs.length xs.length)) (W.alloc (.cells cs.toArray e (cs.toArray.size, cs.toArray.size + 1))) := by
    unfold execOp
    simp [ho, hx, hrun]
  refine wpList_plain hgd fun K hK => ?_
  unfold Oper.wp
  rw [hrun2]
  have hcell : ∀ j v, cs[j]? = some v → (W.alloc (.cells cs.toArray e (cs.toArray.size, cs.toArray.size + 1))).cell? ⟨W.heap.size, j, none⟩ = some v := fun j v hj => by
    rw [World.cell?_alloc_mark]
    simpa using hj
  have hC : Kd.F (Kd.int .u8) (W.alloc (.cells cs.toArray e (cs.toArray.size, cs.toArray.size + 1))) (fun k_ => W.heap.size ≤ k_) (some ⟨W.heap.size, 0, none⟩) xs.length xs := by
    intro W' hW
    refine Kd.C_of_reads (enc := Value.int .u8) (d := (0 : Int)) (h1 := fun _ => rfl) ⟨rfl, by omega, fun _ => ⟨_, rfl, fun j hj => ?_⟩⟩
    rw [show (⟨W.heap.size, 0, none⟩ : Addr).add j = ⟨W.heap.size, j, none⟩ from add_plain _ _]
    have h1 : W'.cell? ⟨W.heap.size, j, none⟩ = (W.alloc (.cells cs.toArray e (cs.toArray.size, cs.toArray.size + 1))).cell? ⟨W.heap.size, j, none⟩ := by
      unfold World.cell?
      rw [hW W.heap.size (Nat.le_refl _) (by simp)]
    rw [h1]
    refine hcell j _ ?_
    rw [hcs, List.getElem?_map, List.getElem?_eq_getElem (by omega)]
    simp [hj]
  exact hK _ _ (h _ _ (Kd.V_mk (Nat.le_refl _) hC) (below_alloc (Below.refl _ _) _) trivial trivial)
theorem R_inserted {α : Type} {d : Kd α} {e base : Nat} {ok okp : Nat → Prop} {W w1 : World} {v v1 : Value} {xs : List α} {p : α} {inner cs : List Value} (i : Nat) (hi : i ≤ xs.length) (h0 : ∀ k, v.ownBlock = some k → ok k) (hr : Reps (d.M W base (fun k => ok k ∧ some k ≠ v.ownBlock)) d.sz xs inner) (hp : d.M W base okp p cs) (hokp : ∀ k, okp k → ok k ∧ some k ≠ v.ownBlock) (hfresh : ∀ k, W.heap.size ≤ k → ok k)
    (hown : w1.ownsRow base e d.sz v1 (xs.length + 1) (inner.take (i * d.sz) ++ cs ++ inner.drop (i * d.sz))) (hg : W.grownBy w1 v.ownBlock) (hat : v1.ownBlock = v.ownBlock ∨ ∃ b, v1.ownBlock = some b ∧ W.heap.size ≤ b) : d.R e w1 base ok v1 (xs.take i ++ [p] ++ xs.drop i) := by
  have hne : ∀ k, some k ≠ v.ownBlock → k < W.heap.size → some k ≠ v1.ownBlock := by
    intro k hk hlt
    rcases hat with hat | ⟨b, hb, hle⟩
    · rw [hat]; exact hk
    · rw [hb]
      intro he
      injection he with he
      omega
  have step : ∀ {q : α} {c : List Value} {o : Nat → Prop}, d.M W base o q c → (∀ k, o k → ok k ∧ some k ≠ v.ownBlock) → d.M w1 base (fun k => ok k ∧ some k ≠ v1.ownBlock) q c := by
    intro q c o hq ho
    have h1 := d.M_move (w1 := w1) (fun k hk => hg.block k hk.2.2.1 (ho k hk.1).2) (d.M_bound hq)
    exact d.M_mono (fun k hk => ⟨(ho k hk.1).1, hne k (ho k hk.1).2 hk.2.2.1⟩) h1
  have hr1 := hr.imp_ (R' := d.M w1 base (fun k => ok k ∧ some k ≠ v1.ownBlock)) (fun _ _ hq => step hq (fun _ hk => hk))
  have hl : (xs.take i ++ [p] ++ xs.drop i).length = xs.length + 1 := by simp; omega
  refine ⟨fun k hk => ?_, inner.take (i * d.sz) ++ cs ++ inner.drop (i * d.sz), by rw [hl]; exact hown, ?_⟩
  · rcases hat with hat | ⟨b, hb, hle⟩
    · exact h0 k (hat ▸ hk)
    · rw [hb] at hk
      injection hk with hk
      exact hfresh k (by omega)
  · exact reps_append (reps_append (hr1.take_ i hi) (reps_sole (step hp hokp) (d.K_len (d.K_of_M hp)))) (hr1.drop_ i hi)
/-- Behind an element put in the others move up. -/
theorem S_put_in {α : Type} {d : Kd α} {e base : Nat} {ok : Nat → Prop} {w : World} {v : Value} {xs : List α} {p : α} {f : Nat → Nat} (i : Nat) (hi : i ≤ xs.length) (h : (tag f d).R e w base ok v (xs.zipIdx.take i ++ [(p, xs.length)] ++ xs.zipIdx.drop i)) : S d e w base ok v (xs.take i ++ [p] ++ xs.drop i) := by
  obtain ⟨h0, inner, ho, hr⟩ := h
  have hl : (xs.zipIdx.take i ++ [(p, xs.length)] ++ xs.zipIdx.drop i).length = (xs.take i ++ [p] ++ xs.drop i).length := by simp
  rw [hl] at ho
  refine ⟨fun b => if f b = xs.length then i else if f b < i then f b else f b + 1, h0, inner, by rw [List.length_zipIdx]; exact ho, by rw [List.length_zipIdx, ← hl]; exact hr.1, fun j q hj => ?_⟩
  rw [List.getElem?_zipIdx, Nat.zero_add] at hj
  obtain ⟨x, hx, rfl⟩ := Option.map_eq_some_iff.1 hj
  have ht : (xs.take i).length = i := by rw [List.length_take, Nat.min_eq_left hi]
  have hzt : (xs.zipIdx.take i).length = i := by rw [List.length_take, List.length_zipIdx, Nat.min_eq_left hi]
  rcases Nat.lt_trichotomy j i with hlt | rfl | hgt
  · rw [List.append_assoc, List.getElem?_append_left (by omega), List.getElem?_take_of_lt hlt] at hx
    have h1 := hr.2 j (x, j) (by rw [List.append_assoc, List.getElem?_append_left (by omega), List.getElem?_take_of_lt hlt]; exact zip_at hx)
    refine d.M_mono (fun b hb => ⟨hb.1, ?_⟩) h1
    have h2 : f b = j := hb.2
    show (if f b = xs.length then i else if f b < i then f b else f b + 1) = j
    rw [if_neg (by omega), if_pos (by omega)]; exact h2
  · rw [List.append_assoc, List.getElem?_append_right (by omega), ht, Nat.sub_self] at hx
    have hx' : p = x := by simpa using hx
    subst hx'
    have h1 := hr.2 j (p, xs.length) (by rw [List.append_assoc, List.getElem?_append_right (by omega), hzt, Nat.sub_self]; rfl)
    refine d.M_mono (fun b hb => ⟨hb.1, ?_⟩) h1
    have h2 : f b = xs.length := hb.2
    show (if f b = xs.length then j else if f b < j then f b else f b + 1) = j
    rw [if_pos h2]
  · have hx1 : xs[j - 1]? = some x := by
      rw [List.getElem?_append_right (by simp; omega)] at hx
      rw [List.length_append, ht, List.length_singleton, List.getElem?_drop, show i + (j - (i + 1)) = j - 1 by omega] at hx
      exact hx
    have h1 := hr.2 j (x, j - 1) (by
      rw [List.getElem?_append_right (by simp; omega), List.length_append, hzt, List.length_singleton, List.getElem?_drop, show i + (j - (i + 1)) = j - 1 by omega]
      exact zip_at hx1)
    refine d.M_mono (fun b hb => ⟨hb.1, ?_⟩) h1
    have h2 : f b = j - 1 := hb.2
    have h3 : j - 1 < xs.length := (List.getElem?_eq_some_iff.1 hx1).1
    show (if f b = xs.length then i else if f b < i then f b else f b + 1) = j
    rw [if_neg (by omega), if_neg (by omega)]; omega
/-- What a call that puts one element's cells in at a place comes to (slices.Insert with one value, its box the newest block). -/
def InsCall (P : Program) (F : FuncId) (e sz bytes : Nat) : Prop :=
  ∀ (base : Nat) (v : Value) (n i : Nat) (inner c : List Value) (W : World), W.ownsRow base e sz v n inner → c.length = sz → (∀ u ∈ c, u.oneCell' = true) → (∀ u ∈ inner, u.oneCell' = true) → i ≤ n → (n + 1) * bytes ≤ 140737488355328 → base ≤ W.heap.size →
    Calls P F #[v, .int .i64 (i : Int), .slice (some ⟨W.heap.size, 0, none⟩) 1 1] (W.alloc (.cells c.toArray e)) fun r w' => ∃ v', r = .returned v' ∧ w'.ownsRow base e sz v' (n + 1) (inner.take (i * sz) ++ c ++ inner.drop (i * sz)) ∧ W.grownBy w' v.ownBlock ∧ (v'.ownBlock = v.ownBlock ∨ ∃ b, v'.ownBlock = some b ∧ W.heap.size ≤ b)
theorem reps_one_cells {α : Type} {d : Kd α} {W : World} {base : Nat} {ok : Nat → Prop} {xs : List α} {inner : List Value} (hs0 : 0 < d.sz) (hr : Reps (d.M W base ok) d.sz xs inner) : ∀ u ∈ inner, u.oneCell' = true := by
  intro u hu
  obtain ⟨k, hk, rfl⟩ := List.getElem_of_mem hu
  have hj : k / d.sz < xs.length := by
    rw [Nat.div_lt_iff_lt_mul hs0]
    rw [← hr.1]
    exact hk
  have h1 := hr.2 (k / d.sz) _ (List.getElem?_eq_getElem hj)
  refine d.K_one (d.K_of_M h1) _ ?_
  rw [List.mem_take_iff_getElem]
  refine ⟨k % d.sz, ?_, ?_⟩
  · have := Nat.mod_lt k hs0
    have h3 := Nat.div_add_mod k d.sz
    rw [List.length_drop]
    have : k / d.sz * d.sz = d.sz * (k / d.sz) := Nat.mul_comm _ _
    omega
  · have h3 := Nat.div_add_mod k d.sz
    have : k / d.sz * d.sz = d.sz * (k / d.sz) := Nat.mul_comm _ _
    simp only [List.getElem_drop]
    congr 1
    omega
section
variable {P : Program} {ops : Array Oper} {rest : List Oper} {o : Oper} {a : Act} {Q : Exit → Act → World → Prop} {Kc : Act → World → Prop} {α : Type}
theorem R_small {α : Type} {d : Kd α} {e : Nat} {w : World} {base : Nat} {ok : Nat → Prop} {v : Value} {xs : List α} (h : d.R e w base ok v xs) : xs.length ≤ 9223372036854775807 := by
  obtain ⟨inner, ho⟩ := R_own h
  rcases ho.2 with ⟨_, h0⟩ | ⟨g, cap, cur, _, _, _, h3, h4, _⟩
  · omega
  · unfold maxLen at h4
    omega
theorem S_small {α : Type} {d : Kd α} {e : Nat} {w : World} {base : Nat} {ok : Nat → Prop} {v : Value} {xs : List α} (h : S d e w base ok v xs) : xs.length ≤ 9223372036854775807 := R_small (S_R h)
/-- What a call that takes one element out in place comes to (slices.Delete(s, i, i+1)). -/
def DelCall (P : Program) (F : FuncId) (e sz : Nat) : Prop :=
  ∀ (β : Type) (d : Kd β), d.sz = sz → ∀ (base : Nat) (ok : Nat → Prop) (v : Value) (xs : List β) (i : Nat) (w : World), d.R e w base ok v xs → i < xs.length → base ≤ w.heap.size →
    Calls P F #[v, .int .i64 (i : Int), .int .i64 ((i : Int) + 1)] w fun r w' => ∃ v', r = .returned v' ∧ d.R e w' base ok v' (xs.eraseIdx i) ∧ w.grownBy w' v.ownBlock ∧ v'.ownBlock = v.ownBlock
theorem R_take_out (F : FuncId) (fn : Func) (d : Kd α) {w0 W : World} (base : Nat) (hgd : o.guard = none) (s ix jx : Operand) (ts : Array TypeId) (e : Nat) (hF : DelCall P F e d.sz) (hf : P.funcs[F]? = some fn) (hname : (fn.name == "runtime.NumGoroutine") = false) (hb : fn.body.isSome = true)
    (ho : o.op = .call { callee := .value (.func F), args := #[s, ix, jx], argTypes := ts }) (v : Value) (xs : List α) (ok : Nat → Prop) (z z2 : Int) (hs : a.eval s = v) (hz : a.eval ix = .int .i64 z) (hz2 : a.eval jx = .int .i64 z2) (h0 : 0 ≤ z) (h1 : z < xs.length) (h2 : z2 = z + 1)
    (HO : d.R e W base ok v xs) (HB : Below base w0 W) (hbase : base ≤ W.heap.size)
    (h : ∀ v1 w1, d.R e w1 base ok v1 (xs.eraseIdx z.toNat) → Below base w0 w1 → W.grownBy w1 v.ownBlock → (v1.ownBlock = v.ownBlock ∨ ∃ b, v1.ownBlock = some b ∧ W.heap.size ≤ b) → wpList P ops Q rest (a.put o.dst v1) w1) : wpList P ops Q (o :: rest) a W := by
  have hz' : (z.toNat : Int) = z := Int.toNat_of_nonneg h0
  subst h2
  refine PrintLast.goesL_ o.dst rfl hgd hf hname hb #[v, .int .i64 (z.toNat : Int), .int .i64 ((z.toNat : Int) + 1)] ho (by simp [hs, hz, hz2, hz']) ?_
  obtain ⟨inner, hown⟩ := R_own HO
  refine (hF α d rfl base ok v xs z.toNat W HO (by omega) hbase).mono ?_
  rintro e1 w1 ⟨v1, rfl, hr1, hg1, hat1⟩
  exact ⟨v1, rfl, h v1 w1 hr1 (HB.grown hg1 hbase (fun k hk => own_base hown k hk)) hg1 (.inl hat1)⟩
theorem S_take_out (F : FuncId) (fn : Func) (d : Kd α) {w0 W : World} (base : Nat) (hgd : o.guard = none) (s ix jx : Operand) (ts : Array TypeId) (e : Nat) (hF : DelCall P F e d.sz) (hf : P.funcs[F]? = some fn) (hname : (fn.name == "runtime.NumGoroutine") = false) (hb : fn.body.isSome = true)
    (ho : o.op = .call { callee := .value (.func F), args := #[s, ix, jx], argTypes := ts }) (v : Value) (xs : List α) (ok : Nat → Prop) (z z2 : Int) (hs : a.eval s = v) (hz : a.eval ix = .int .i64 z) (hz2 : a.eval jx = .int .i64 z2) (h0 : 0 ≤ z) (h1 : z < xs.length) (h2 : z2 = z + 1)
    (HO : S d e W base ok v xs) (HB : Below base w0 W) (hbase : base ≤ W.heap.size)
    (h : ∀ v1 w1, S d e w1 base ok v1 (xs.eraseIdx z.toNat) → Below base w0 w1 → W.grownBy w1 v.ownBlock → (v1.ownBlock = v.ownBlock ∨ ∃ b, v1.ownBlock = some b ∧ W.heap.size ≤ b) → wpList P ops Q rest (a.put o.dst v1) w1) : wpList P ops Q (o :: rest) a W := by
  obtain ⟨f, HR⟩ := HO
  refine R_take_out F fn (tag f d) base hgd s ix jx ts e hF hf hname hb ho v xs.zipIdx ok z z2 hs hz hz2 h0 (by rw [List.length_zipIdx]; exact h1) h2 HR HB hbase ?_
  intro v1 w1 hr
  exact h v1 w1 (S_erase hr)
theorem R_insert_step (F : FuncId) (fn : Func) (d : Kd α) {w0 W : World} (base : Nat) (hw : Region.wanted o (yielded ops a.tmps) = true) (s ix x : Operand) (ts : Array TypeId) (e bytes : Nat) (hF : InsCall P F e d.sz bytes) (hf : P.funcs[F]? = some fn) (hname : (fn.name == "runtime.NumGoroutine") = false) (hb : fn.body.isSome = true)
    (ho : o.op = .call { callee := .value (.func F), args := #[s, ix, x], argTypes := ts }) (hs0 : 0 < d.sz)
    (v : Value) (xs : List α) (p : α) (cs : List Value) (ok okp : Nat → Prop) (z : Int) (hs : a.eval s = v) (hz : a.eval ix = .int .i64 z) (hx : a.eval x = .slice (some ⟨W.heap.size, 0, none⟩) 1 1) (h0 : 0 ≤ z) (h1 : z ≤ xs.length) (hp : d.M W base okp p cs) (hokp : ∀ k, okp k → ok k ∧ some k ≠ v.ownBlock) (hfresh : ∀ k, W.heap.size ≤ k → ok k)
    (HO : d.R e W base ok v xs) (HB : Below base w0 W) (hbase : base ≤ W.heap.size) (hl : (xs.length + 1) * bytes ≤ 140737488355328)
    (h : ∀ v1 w1, d.R e w1 base ok v1 (xs.take z.toNat ++ [p] ++ xs.drop z.toNat) → Below base w0 w1 → W.grownBy w1 v.ownBlock → (v1.ownBlock = v.ownBlock ∨ ∃ b, v1.ownBlock = some b ∧ W.heap.size ≤ b) → Kc (a.put o.dst v1) w1) :
    if Region.wanted o (yielded ops a.tmps) = true then Oper.wp P o a (W.alloc (.cells cs.toArray e)) Kc Q else Kc (a.put o.dst undef) (W.alloc (.cells cs.toArray e)) := by
  obtain ⟨g0, inner, hown, hr⟩ := HO
  have hz' : (z.toNat : Int) = z := Int.toNat_of_nonneg h0
  have hi : z.toNat ≤ xs.length := by omega
  refine PrintLast.goes_ (N := o.dst) hf hname hb #[v, .int .i64 (z.toNat : Int), .slice (some ⟨W.heap.size, 0, none⟩) 1 1] hw rfl ho (by simp [hs, hz, hx, hz']) ?_
  refine (hF base v xs.length z.toNat inner cs W hown (d.K_len (d.K_of_M hp)) (d.K_one (d.K_of_M hp)) (reps_one_cells hs0 hr) hi hl hbase).mono ?_
  rintro e1 w1 ⟨v1, rfl, hown1, hg1, hat1⟩
  exact ⟨v1, rfl, h v1 w1 (R_inserted z.toNat hi g0 hr hp hokp hfresh hown1 hg1 hat1) (HB.grown hg1 hbase (fun k hk => own_base hown k hk)) hg1 hat1⟩
theorem S_insert_step (F : FuncId) (fn : Func) (d : Kd α) {w0 W : World} (base : Nat) (hw : Region.wanted o (yielded ops a.tmps) = true) (s ix x : Operand) (ts : Array TypeId) (e bytes : Nat) (hF : InsCall P F e d.sz bytes) (hf : P.funcs[F]? = some fn) (hname : (fn.name == "runtime.NumGoroutine") = false) (hb : fn.body.isSome = true)
    (ho : o.op = .call { callee := .value (.func F), args := #[s, ix, x], argTypes := ts }) (hs0 : 0 < d.sz)
    (v : Value) (xs : List α) (p : α) (cs : List Value) (ok okp : Nat → Prop) (z : Int) (hs : a.eval s = v) (hz : a.eval ix = .int .i64 z) (hx : a.eval x = .slice (some ⟨W.heap.size, 0, none⟩) 1 1) (h0 : 0 ≤ z) (h1 : z ≤ xs.length) (hp : d.M W base okp p cs) (hokp : ∀ k, okp k → ok k ∧ some k ≠ v.ownBlock) (hfresh : ∀ k, W.heap.size ≤ k → ok k)
    (HO : S d e W base (fun k => ok k ∧ ¬ okp k) v xs) (HB : Below base w0 W) (hbase : base ≤ W.heap.size) (hl : (xs.length + 1) * bytes ≤ 140737488355328)
    (h : ∀ v1 w1, S d e w1 base ok v1 (xs.take z.toNat ++ [p] ++ xs.drop z.toNat) → Below base w0 w1 → W.grownBy w1 v.ownBlock → (v1.ownBlock = v.ownBlock ∨ ∃ b, v1.ownBlock = some b ∧ W.heap.size ≤ b) → Kc (a.put o.dst v1) w1) :
    if Region.wanted o (yielded ops a.tmps) = true then Oper.wp P o a (W.alloc (.cells cs.toArray e)) Kc Q else Kc (a.put o.dst undef) (W.alloc (.cells cs.toArray e)) := by
  obtain ⟨f, hf2, hR⟩ := S_tag HO xs.length okp (fun _ hk h2 => h2.2 hk)
  refine R_insert_step F fn (tag f d) base hw s ix x ts e bytes hF hf hname hb ho hs0 v xs.zipIdx (p, xs.length) cs ok okp z hs hz hx h0 (by rw [List.length_zipIdx]; exact h1) (d.M_mono (fun k hk => ⟨hk, hf2 k hk⟩) hp) hokp hfresh (R_mono hR (fun _ hk => hk.1)) HB hbase (by rw [List.length_zipIdx]; exact hl) ?_
  intro v1 w1 hr
  exact h v1 w1 (S_put_in z.toNat (by omega) hr)
end
end Kd
/-- The later of two worlds: what stood in the first stands in it as it was (found by itself: blocks laid, draws). -/
abbrev BelC (w w' : World) : Prop := Nonempty (PLift (Below w.heap.size w w'))
theorem BelC.out {w w' : World} (h : BelC w w') : Below w.heap.size w w' := h.elim (fun x => x.down)
instance belC_refl (w : World) : BelC w w := ⟨⟨Below.refl _ _⟩⟩
instance belC_alloc (w w' : World) (o : Obj) [h : BelC w w'] : BelC w (w'.alloc o) := ⟨⟨below_alloc h.out o⟩⟩
instance belC_drewN (w w' : World) (m : Nat) [h : BelC w w'] : BelC w (w'.drewN m) := ⟨⟨pw_below_drewN h.out m⟩⟩
instance belC_drew (w w' : World) [h : BelC w w'] : BelC w w'.drew := ⟨⟨below_drew h.out⟩⟩
theorem blk_u {w w' : World} [h' : BelC w w'] {g : Nat} {o : Obj} (h : w.heap[g]? = some o) : w'.heap[g]? = some o := (h'.out.block g (blk_lt h)).trans h
theorem below_u {w W W1 : World} [h' : BelC W1 W] (h : Below w.heap.size w W1) : Below w.heap.size w W :=
  ⟨h'.out.os.trans h.os, h'.out.tape.trans h.tape, h'.out.output.trans h.output, Nat.le_trans h.size h'.out.size, fun k hk => (h'.out.block k (Nat.lt_of_lt_of_le hk h.size)).trans (h.block k hk)⟩
namespace Kd
theorem Ru {α : Type} {d : Kd α} {e base : Nat} {ok : Nat → Prop} {w w' : World} {v : Value} {xs : List α} [h' : BelC w w'] (h : d.R e w base ok v xs) : d.R e w' base ok v xs := R_below h h'.out
theorem Su {α : Type} {d : Kd α} {e base : Nat} {ok : Nat → Prop} {w w' : World} {v : Value} {xs : List α} [h' : BelC w w'] (h : d.S e w base ok v xs) : d.S e w' base ok v xs := S_below h h'.out
theorem Cu {α : Type} {d : Kd α} {w w' : World} {A : Option Addr} {n : Nat} {xs : List α} [h' : BelC w w'] (h : d.C w A n xs) : d.C w' A n xs := C_below h h'.out
theorem Vu {α : Type} {d : Kd α} {e base : Nat} {ok : Nat → Prop} {w w' : World} {v : Value} {xs : List α} [h' : BelC w w'] (h : V d e w base ok v xs) : V d e w' base ok v xs := V_below h h'.out
theorem V_blk {α : Type} {d : Kd α} {e base n c g : Nat} {W : World} {ok : Nat → Prop} {ad : Addr} {xs : List α} (h : V d e W base ok (.slice (some ad) n c) xs) (hp : 0 < n) (hs : 0 < d.sz) (hok : ∀ k, ok k → k ≠ g) : ad.block ≠ g := by
  obtain ⟨A, c', e1, _, hF⟩ := h
  injection e1 with ea en _
  subst ea
  obtain ⟨ad', c2, e2, _, _, _, hin⟩ := F_get hF (xs[0]'(by omega)) 0 (by omega) (by omega)
  injection e2 with e2
  subst e2
  exact hok _ (hin hs)
end Kd
/-! #### a world behind stores into the call's own boxes: what is below m stays (small2.py writes below_v and GeB) -/
abbrev GeB (m g : Nat) : Prop := Nonempty (PLift (m ≤ g))
theorem GeB.out {m g : Nat} (h : GeB m g) : m ≤ g := h.elim (fun x => x.down)
abbrev BelV (w W W' : World) : Prop := Nonempty (PLift (Below w.heap.size w W → Below w.heap.size w W'))
theorem BelV.out {w W W' : World} (h : BelV w W W') : Below w.heap.size w W → Below w.heap.size w W' := h.elim (fun x => x.down)
instance belV_refl (w W : World) : BelV w W W := ⟨⟨fun h => h⟩⟩
instance belV_alloc (w W W' : World) (o : Obj) [h : BelV w W W'] : BelV w W (W'.alloc o) := ⟨⟨fun hW => below_alloc (h.out hW) o⟩⟩
instance belV_drewN (w W W' : World) (n : Nat) [h : BelV w W W'] : BelV w W (W'.drewN n) := ⟨⟨fun hW => pw_below_drewN (h.out hW) n⟩⟩
instance belV_drew (w W W' : World) [h : BelV w W W'] : BelV w W W'.drew := ⟨⟨fun hW => below_drew1 (h.out hW)⟩⟩
instance belV_set (w W W' : World) (g i : Nat) (u : Value) [h : BelV w W W'] [h2 : GeB w.heap.size g] : BelV w W (W'.setCell ⟨g, i, none⟩ u) := ⟨⟨fun hW => below_set (h.out hW) h2.out⟩⟩
theorem below_v {w W W' : World} [h' : BelV w W W'] (h : Below w.heap.size w W) : Below w.heap.size w W' := h'.out h
theorem blk_p1 {w : World} {g t : Nat} {cs cs' : Array Value} {i : Nat} {a : Value} (h : w.heap[g]? = some (.cells cs t (0, 0))) (e : cs.setIfInBounds i a = cs') : (w.setCell ⟨g, i, none⟩ a).heap[g]? = some (.cells cs' t (0, 0)) := blk_put h i a e
theorem blk_p2 {w : World} {g t : Nat} {cs cs' : Array Value} {i j : Nat} {a b : Value} (h : w.heap[g]? = some (.cells cs t (0, 0))) (e : (cs.setIfInBounds i a).setIfInBounds j b = cs') : ((w.setCell ⟨g, i, none⟩ a).setCell ⟨g, j, none⟩ b).heap[g]? = some (.cells cs' t (0, 0)) := blk_p1 (blk_p1 h rfl) e
theorem blk_p3 {w : World} {g t : Nat} {cs cs' : Array Value} {i j k : Nat} {a b c : Value} (h : w.heap[g]? = some (.cells cs t (0, 0))) (e : ((cs.setIfInBounds i a).setIfInBounds j b).setIfInBounds k c = cs') : (((w.setCell ⟨g, i, none⟩ a).setCell ⟨g, j, none⟩ b).setCell ⟨g, k, none⟩ c).heap[g]? = some (.cells cs' t (0, 0)) := blk_p1 (blk_p2 h rfl) e
theorem blk_p4 {w : World} {g t : Nat} {cs cs' : Array Value} {i j k l : Nat} {a b c d : Value} (h : w.heap[g]? = some (.cells cs t (0, 0))) (e : (((cs.setIfInBounds i a).setIfInBounds j b).setIfInBounds k c).setIfInBounds l d = cs') : ((((w.setCell ⟨g, i, none⟩ a).setCell ⟨g, j, none⟩ b).setCell ⟨g, k, none⟩ c).setCell ⟨g, l, none⟩ d).heap[g]? = some (.cells cs' t (0, 0)) := blk_p1 (blk_p3 h rfl) e
theorem blk_p5 {w : World} {g t : Nat} {cs cs' : Array Value} {i j k l m : Nat} {a b c d f : Value} (h : w.heap[g]? = some (.cells cs t (0, 0))) (e : ((((cs.setIfInBounds i a).setIfInBounds j b).setIfInBounds k c).setIfInBounds l d).setIfInBounds m f = cs') : (((((w.setCell ⟨g, i, none⟩ a).setCell ⟨g, j, none⟩ b).setCell ⟨g, k, none⟩ c).setCell ⟨g, l, none⟩ d).setCell ⟨g, m, none⟩ f).heap[g]? = some (.cells cs' t (0, 0)) := blk_p1 (blk_p4 h rfl) e
end Go.Proofs.YtkomibcmpckflaaW.PrintWords
