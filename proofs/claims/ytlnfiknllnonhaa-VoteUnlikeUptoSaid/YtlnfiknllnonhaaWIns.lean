-- Written by a program of this session's (an extension of the kit's print)
/- An element put in at a place, or taken out, by a call of the library's own text (slices.Insert, slices.Delete). -/
import Derived.Test.YtlnfiknllnonhaaWWords
import Derived.Test.YtlnfiknllnonhaaWApart
import Derived.Test.YtlnfiknllnonhaaWLast
import Derived.Test.YtlnfiknllnonhaaWMore
import Derived.Test.YtlnfiknllnonhaaWMid
import Derived.Test.YtlnfiknllnonhaaWShare
import Derived.Lib.SlBytesConst
import Derived.ChangeKeysEq
import Derived.Lib.ConvBytes
namespace Go.Proofs.YtlnfiknllnonhaaW.PrintWords
open Go.RowKit
set_option linter.unusedVariables false
theorem Reps.take_ {α : Type} {R : α → List Value → Prop} {size : Nat} {ps : List α} {cs : List Value} (h : Reps R size ps cs) (i : Nat) (hi : i ≤ ps.length) : Reps R size (ps.take i) (cs.take (i * size)) := by
  refine ⟨?_, fun j p hj => ?_⟩
  · rw [List.length_take, List.length_take, h.1, Nat.min_eq_left hi, Nat.min_eq_left (Nat.mul_le_mul_right _ hi)]
  · have hj' : j < i := by
      have := (List.getElem?_eq_some_iff.1 hj).1
      rw [List.length_take] at this
      omega
    rw [List.getElem?_take_of_lt hj'] at hj
    have h2 := h.2 j p hj
    have e : (List.drop (j * size) (cs.take (i * size))).take size = (List.drop (j * size) cs).take size := by
      rw [List.drop_take, List.take_take, Nat.min_eq_left]
      have : (j + 1) * size ≤ i * size := Nat.mul_le_mul_right _ (by omega)
      rw [Nat.add_mul, Nat.one_mul] at this
      omega
    rw [e]
    exact h2
namespace Kd
theorem V_bytes {P : Program} {ops : Array Oper} {rest : List Oper} {o : Oper} {a : Act} {Q : Exit → Act → World → Prop} {W : World} (hgd : o.guard = none) {N : Tmp} (hd : o.dst = some N) (t : TypeId) (x : Operand) (ho : o.op = .convert t t x) {e : TypeId} (ht : P.underlying t = some (.slice e)) (he : P.underlying e = some (.int .u8))
    {xs : List Int} {cs : List Value} (hcs : cs = xs.map (Value.int .u8)) {n : Nat} (hn : n = xs.length) (_hl : xs.length ≤ 9223372036854775807) (hx : a.eval x = .slice (some ⟨W.heap.size, 0, none⟩) n n)
    (h : ∀ (v : Value) (w1 : World), Kd.V (Kd.int .u8) e w1 W.heap.size (fun k_ => W.heap.size ≤ k_) v xs → Below W.heap.size W w1 → True → True → wpList P ops Q rest (a.put o.dst v) w1) : wpList P ops Q (o :: rest) a (W.alloc (.cells cs.toArray e)) := by
  subst hn
  have hrun := Lib.run_convert_bytes_const (P := P) W t e cs.toArray xs.length xs.length ht he
  have hrun2 : (execOp a.eval o).run P (W.alloc (.cells cs.toArray e)) = .ok (.value (.slice (some ⟨W.heap.size, 0, none⟩) xs.length xs.length)) (W.alloc (.cells cs.toArray e (cs.toArray.size, cs.toArray.size + 1))) := by
    unfold execOp
    simp [ho, hx, hrun]
  refine wpList_plain hgd fun K hK => ?_
  unfold Oper.wp
  rw [hrun2]
  have hcell : ∀ j v, cs[j]? = some v → (W.alloc (.cells cs.toArray e (cs.toArray.size, cs.toArray.size + 1))).cell? ⟨W.heap.size, j, none⟩ = some v := fun j v hj => by
    rw [World.cell?_alloc_mark]
    simpa using hj
  have hC : Kd.F (Kd.int .u8) (W.alloc (.cells cs.toArray e (cs.toArray.size, cs.toArray.size + 1))) (fun k_ => W.heap.size ≤ k_) (some ⟨W.heap.size, 0, none⟩) xs.length xs := by
    intro W' hW
    refine Kd.C_of_reads (enc := Value.int .u8) (d := (0 : Int)) (h1 := fun _ => rfl) ⟨rfl, by omega, fun _ => ⟨_, rfl, fun j hj => ?_⟩⟩
    rw [show (⟨W.heap.size, 0, none⟩ : Addr).add j = ⟨W.heap.size, j, none⟩ from add_plain _ _]
    have h1 : W'.cell? ⟨W.heap.size, j, none⟩ = (W.alloc (.cells cs.toArray e (cs.toArray.size, cs.toArray.size + 1))).cell? ⟨W.heap.size, j, none⟩ := by
      unfold World.cell?
      rw [hW W.heap.size (Nat.le_refl _) (by simp)]
    rw [h1]
    refine hcell j _ ?_
    rw [hcs, List.getElem?_map, List.getElem?_eq_getElem (by omega)]
    simp [hj]
  exact hK _ _ (h _ _ (Kd.V_mk (Nat.le_refl _) hC) (below_alloc (Below.refl _ _) _) trivial trivial)
theorem below_bytesWorld (W : World) (e : TypeId) (s : ByteArray) : Below W.heap.size W (Lib.bytesWorld W e s) :=
  ⟨rfl, rfl, rfl, by rw [Lib.bytesWorld_size]; omega, fun k hk => Lib.bytesWorld_at_old W e s k hk⟩
theorem V_bytesof {P : Program} {ops : Array Oper} {rest : List Oper} {o : Oper} {a : Act} {Q : Exit → Act → World → Prop} {W : World} (hgd : o.guard = none) {N : Tmp} (hd : o.dst = some N) (src t : TypeId) (x : Operand) (ho : o.op = .convert src t x) {u : TypeDesc} (hs : P.underlying src = some u) {e : TypeId} (ht : P.underlying t = some (.slice e)) (he : P.underlying e = some (.int .u8))
    (s : ByteArray) (hl : (bytesOf s).length ≤ 9223372036854775807) (hx : a.eval x = .string s)
    (h : ∀ (v : Value) (w1 : World), Kd.V (Kd.int .u8) e w1 W.heap.size (fun k_ => W.heap.size ≤ k_) v (bytesOf s) → Below W.heap.size W w1 → True → True → wpList P ops Q rest (a.put o.dst v) w1) : wpList P ops Q (o :: rest) a W := by
  have hsz : s.size = (bytesOf s).length := by unfold bytesOf; rw [List.length_map, Array.length_toList]; rfl
  have hrun2 : (execOp a.eval o).run P W = .ok (.value (.slice (some ⟨W.heap.size, 0, none⟩) s.size (grownCap W s.size 0 e))) (Lib.bytesWorld W e s) := by
    have hrun := Lib.run_convert_string_bytes (P := P) W src t e s hs ht he
    unfold execOp
    simp [ho, hx, hrun]
  refine wpList_plain hgd fun K hK => ?_
  unfold Oper.wp
  rw [hrun2]
  have hcap := grownCap_ge W s.size 0 e
  generalize grownCap W s.size 0 e = cap at hcap
  rw [hsz] at hcap ⊢
  have hC : Kd.F (Kd.int .u8) (Lib.bytesWorld W e s) (fun k_ => W.heap.size ≤ k_) (some ⟨W.heap.size, 0, none⟩) (bytesOf s).length (bytesOf s) := by
    intro W' hW
    refine Kd.C_of_reads (enc := Value.int .u8) (d := (0 : Int)) (h1 := fun _ => rfl) ⟨rfl, hl, fun _ => ⟨_, rfl, fun j hj => ?_⟩⟩
    rw [show (⟨W.heap.size, 0, none⟩ : Addr).add j = ⟨W.heap.size, j, none⟩ from add_plain _ _]
    have h1 : W'.cell? ⟨W.heap.size, j, none⟩ = (Lib.bytesWorld W e s).cell? ⟨W.heap.size, j, none⟩ := by
      unfold World.cell?
      rw [hW W.heap.size (Nat.le_refl _) (by rw [Lib.bytesWorld_size]; omega)]
    rw [h1, Lib.bytesWorld_cell W e s j (by omega)]
    have hj' : j < s.data.toList.length := by simpa [bytesOf] using hj
    unfold bytesOf
    rw [List.getD_eq_getElem?_getD, List.getD_eq_getElem?_getD, List.getElem?_map, List.getElem?_eq_getElem hj']
    rfl
  exact hK _ _ (h _ _ (Kd.V_mk hcap hC) (below_bytesWorld W e s) trivial trivial)
end Kd
end Go.Proofs.YtlnfiknllnonhaaW.PrintWords
