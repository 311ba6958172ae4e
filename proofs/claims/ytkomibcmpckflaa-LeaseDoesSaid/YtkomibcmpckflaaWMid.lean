-- Written by a program of this session's (an extension of the kit's print)
/- Rows of the call's own whose spare cells are written: what 'clear' of the tail leaves. -/
import Derived.Test.YtkomibcmpckflaaWWords
import Derived.Laws.IdiomCopy
import Derived.Lib.SliceRun
import Derived.Lib.Overlaps
namespace Go.Proofs.YtkomibcmpckflaaW.PrintWords
open Go.RowKit
theorem grown_trans {w w1 w2 : World} {row : Option Nat} (h : w.grownBy w1 row) (k : w1.grownBy w2 row) : w.grownBy w2 row :=
  ⟨k.os.trans h.os, k.tape.trans h.tape, k.output.trans h.output, Nat.le_trans h.size k.size, fun i hi hn => (k.block i (Nat.lt_of_lt_of_le hi h.size) hn).trans (h.block i hi hn)⟩
theorem grown_drew {w w1 : World} {row : Option Nat} (h : w.drew.grownBy w1 row) : w.grownBy w1 row := ⟨h.os, h.tape, h.output, h.size, h.block⟩
theorem zeroCells_one (z : Array Value) : (Builtin.zeroCells z 1).toList = z.toList := by
  unfold Builtin.zeroCells
  apply List.ext_getElem
  · simp
  · intro i h1 h2
    simp at h1 h2
    simp [Nat.mod_eq_of_lt h1, h1]
theorem run_clear_cells {P : Program} (w : World) (t e ty : TypeId) (z : Value) (ht : P.underlying t = some (.slice e)) (hz : ∀ w, (zeroValue e).run P w = .ok z w) (g o n c : Nat) (cur : Array Value) (q : TypeId)
    (hb : w.heap[g]? = some (.cells cur q (0, 0))) (hn : n = 1) (hfit : o + z.cells.size ≤ cur.size) (h1 : ∀ u ∈ z.cells.toList, u.oneCell' = true) :
    (Builtin.clear_ #[t] ty #[.slice (some ⟨g, o, none⟩) n c]).run P w = .ok (.tuple #[]) (w.setCells g o z.cells.toList) := by
  subst hn
  have hst := run_storeCells_cells (P := P) g o z.cells.toList 0 w (fun j hj => by
    rw [cell_of_row w g _ cur q (0, 0) hb]
    rw [Array.length_toList] at hj
    simp
    omega) (fun j hj => blk_frozen hb _) h1
  simp only [Nat.add_zero] at hst
  simp [Builtin.clear_, run_underlying ht, hz, zeroCells_one, hst]
theorem run_copy_any {P : Program} (w : World) (dT sT ty e : TypeId) (size : Nat) (ht : P.underlying dT = some (.slice e)) (hsz : ∀ w, (sizeOf e).run P w = .ok size w) (g off dl dc : Nat) (ad : Addr) (sl sc n : Nat) (hn : Nat.min sl dl = n) (cs : List Value)
    (hcs : cs.length = n * size) (hsrc : ∀ j v, cs[j]? = some v → w.cell? (ad.add j) = some v) (cur : Array Value) (q : TypeId) (hg : w.heap[g]? = some (.cells cur q (0, 0))) (hfit : off + cs.length ≤ cur.size) (h1 : ∀ u ∈ cs, u.oneCell' = true) :
    (Builtin.copy_ #[dT, sT] ty #[.slice (some ⟨g, off, none⟩) dl dc, .slice (some ad) sl sc]).run P w = .ok (.int .i64 n) (w.setCells g off cs) := by
  subst hn
  have hst := run_storeCells_cells (P := P) g off cs 0 w (fun j hj => by
    rw [cell_of_row w g _ cur q (0, 0) hg]
    simp
    omega) (fun j hj => blk_frozen hg _) h1
  simp only [Nat.add_zero] at hst
  have hf := run_firstCells_some (P := P) w size (Nat.min sl dl) ad sl sc cs hcs hsrc
  simp [Builtin.copy_, run_underlying ht, Builtin.lenOf, hsz, hf, hst, goInt]
/-- What stands in a block's cells. -/
theorem cells_of_block {w : World} {g : Nat} {cur : Array Value} {q : TypeId} (hg : w.heap[g]? = some (.cells cur q (0, 0))) (o : Nat) (cs : List Value) (h : cs <+: cur.toList.drop o) : ∀ j v, cs[j]? = some v → w.cell? ((⟨g, o, none⟩ : Addr).add j) = some v := by
  intro j v hv
  obtain ⟨r, hr⟩ := h
  have hj : j < cs.length := (List.getElem?_eq_some_iff.1 hv).1
  have hadd : (⟨g, o, none⟩ : Addr).add j = ⟨g, o + j, none⟩ := by unfold Addr.add; split <;> simp_all
  rw [hadd, cell_of_row w g _ cur q (0, 0) hg]
  have h2 : (cur.toList.drop o)[j]? = some v := by rw [← hr, List.getElem?_append_left hj]; exact hv
  rw [List.getElem?_drop] at h2
  simpa using h2
theorem setCells_drew (g : Nat) : ∀ (vs : List Value) (o : Nat) (w : World), w.drew.setCells g o vs = (w.setCells g o vs).drew
  | [], _, _ => rfl
  | v :: r, o, w => by
    rw [World.setCells, World.setCells, ← setCells_drew g r (o + 1)]
    rfl
theorem owns_drew {w : World} {base : Nat} {e : TypeId} {sz : Nat} {v : Value} {n : Nat} {xs : List Value} (h : w.ownsRow base e sz v n xs) : w.drew.ownsRow base e sz v n xs := h
theorem grown_to_drew {w w1 : World} {row : Option Nat} (h : w.grownBy w1 row) : w.grownBy w1.drew row := ⟨h.os, h.tape, h.output, h.size, h.block⟩
/-- One element's cells put in at place i of a row with room: what two copies leave. -/
theorem row_insert {w : World} {base g n i cap sz : Nat} {e : TypeId} {inner c : List Value} {cur : Array Value} (hb : base ≤ g) (hh : w.heap[g]? = some (.cells cur e (0, 0))) (hcm : cap ≤ maxLen) (hcs : cur.size = cap * sz) (hil : inner.length = n * sz) (ht : cur.toList.take (n * sz) = inner)
    (hin : i ≤ n) (hroom : n + 1 ≤ cap) (hc : c.length = sz) :
    ((w.setCells g ((i + 1) * sz) (inner.drop (i * sz))).setCells g (i * sz) c).ownsRow base e sz (.slice (some ⟨g, 0, none⟩) (n + 1) cap) (n + 1) (inner.take (i * sz) ++ c ++ inner.drop (i * sz)) ∧
    w.grownBy ((w.setCells g ((i + 1) * sz) (inner.drop (i * sz))).setCells g (i * sz) c) (some g) := by
  have h1 : i * sz ≤ n * sz := Nat.mul_le_mul_right _ hin
  have h2 : (i + 1) * sz = i * sz + sz := by rw [Nat.add_mul, Nat.one_mul]
  have h3 : (n + 1) * sz = n * sz + sz := by rw [Nat.add_mul, Nat.one_mul]
  have h4 : (n + 1) * sz ≤ cap * sz := Nat.mul_le_mul_right _ hroom
  have hdl : (inner.drop (i * sz)).length = n * sz - i * sz := by rw [List.length_drop, hil]
  obtain ⟨cur1, e1, e2, e3⟩ := setCells_row (inner.drop (i * sz)) ((i + 1) * sz) w cur hh (by omega)
  obtain ⟨cur2, f1, f2, f3⟩ := setCells_row c (i * sz) _ cur1 e1 (by omega)
  have hcl : cur.toList.length = cap * sz := by rw [Array.length_toList, hcs]
  have k1 : cur1.toList.take (i * sz) = inner.take (i * sz) := by
    rw [e3, List.append_assoc, List.take_append_of_le_length (by rw [List.length_take]; omega), List.take_take, ← ht, List.take_take]
    congr 1
    omega
  have k2 : cur1.toList.drop (i * sz + c.length) = inner.drop (i * sz) ++ cur.toList.drop ((i + 1) * sz + (inner.drop (i * sz)).length) := by
    rw [e3, List.append_assoc, hc, List.drop_append_of_le_length (by rw [List.length_take]; omega), List.drop_of_length_le (by rw [List.length_take]; omega), List.nil_append]
  obtain ⟨s1, s2, s3, s4⟩ := setCells_same g (inner.drop (i * sz)) ((i + 1) * sz) w
  obtain ⟨u1, u2, u3, u4⟩ := setCells_same g c (i * sz) (w.setCells g ((i + 1) * sz) (inner.drop (i * sz)))
  refine ⟨⟨?_, .inr ⟨g, cap, cur2, rfl, hb, f1, hroom, hcm, by omega, ?_⟩⟩, ⟨u1.trans s1, u2.trans s2, u3.trans s3, by rw [u4, s4]; exact Nat.le_refl _, fun k' _ hk' => ?_⟩⟩
  · rw [List.length_append, List.length_append, List.length_take, hil, hc, hdl]
    omega
  · rw [f3, k1, k2, ← List.append_assoc]
    refine List.take_left' ?_
    rw [List.length_append, List.length_append, List.length_take, hil, hc, hdl]
    omega
  · have hne : k' ≠ g := fun he => hk' (by rw [he])
    rw [setCells_far _ _ k' hne, setCells_far _ _ k' hne]
/-- .. and without room: what two copies leave in a new row that holds the head and zeros. -/
theorem row_insert_new {w : World} {base n i cap sz : Nat} {e : TypeId} {inner c zs : List Value} (hbase : base ≤ w.heap.size) (hcm : cap ≤ maxLen) (hil : inner.length = n * sz) (hin : i ≤ n) (hroom : n + 1 ≤ cap) (hc : c.length = sz) (hz : (inner.take (i * sz) ++ zs).length = cap * sz) :
    (((w.alloc (.cells (inner.take (i * sz) ++ zs).toArray e)).setCells w.heap.size (i * sz) c).setCells w.heap.size ((i + 1) * sz) (inner.drop (i * sz))).ownsRow base e sz (.slice (some ⟨w.heap.size, 0, none⟩) (n + 1) cap) (n + 1) (inner.take (i * sz) ++ c ++ inner.drop (i * sz)) ∧
    ∀ row, w.grownBy (((w.alloc (.cells (inner.take (i * sz) ++ zs).toArray e)).setCells w.heap.size (i * sz) c).setCells w.heap.size ((i + 1) * sz) (inner.drop (i * sz))) row := by
  have h1 : i * sz ≤ n * sz := Nat.mul_le_mul_right _ hin
  have h2 : (i + 1) * sz = i * sz + sz := by rw [Nat.add_mul, Nat.one_mul]
  have h3 : (n + 1) * sz = n * sz + sz := by rw [Nat.add_mul, Nat.one_mul]
  have h4 : (n + 1) * sz ≤ cap * sz := Nat.mul_le_mul_right _ hroom
  have hdl : (inner.drop (i * sz)).length = n * sz - i * sz := by rw [List.length_drop, hil]
  have htl : (inner.take (i * sz)).length = i * sz := by rw [List.length_take, hil]; omega
  have hsz : (inner.take (i * sz) ++ zs).toArray.size = cap * sz := by simpa using hz
  have hh : (w.alloc (.cells (inner.take (i * sz) ++ zs).toArray e)).heap[w.heap.size]? = some (.cells (inner.take (i * sz) ++ zs).toArray e (0, 0)) := by
    show (w.heap.push _)[w.heap.size]? = _
    simp
  obtain ⟨cur1, e1, e2, e3⟩ := setCells_row c (i * sz) _ _ hh (by omega)
  obtain ⟨cur2, f1, f2, f3⟩ := setCells_row (inner.drop (i * sz)) ((i + 1) * sz) _ cur1 e1 (by omega)
  obtain ⟨s1, s2, s3, s4⟩ := setCells_same w.heap.size c (i * sz) (w.alloc (.cells (inner.take (i * sz) ++ zs).toArray e))
  obtain ⟨u1, u2, u3, u4⟩ := setCells_same w.heap.size (inner.drop (i * sz)) ((i + 1) * sz) ((w.alloc (.cells (inner.take (i * sz) ++ zs).toArray e)).setCells w.heap.size (i * sz) c)
  refine ⟨⟨?_, .inr ⟨w.heap.size, cap, cur2, rfl, hbase, f1, hroom, hcm, by omega, ?_⟩⟩, fun row => ⟨u1.trans s1, u2.trans s2, u3.trans s3, by rw [u4, s4]; simp, fun k' hk _ => ?_⟩⟩
  · rw [List.length_append, List.length_append, htl, hc, hdl]
    omega
  · have k1 : cur1.toList.take ((i + 1) * sz) = inner.take (i * sz) ++ c := by
      rw [e3]
      have : ((inner.take (i * sz) ++ zs).toArray.toList).take (i * sz) = inner.take (i * sz) := by
        show (inner.take (i * sz) ++ zs).take (i * sz) = _
        exact List.take_left' htl
      rw [this]
      exact List.take_left' (by rw [List.length_append, htl, hc]; omega)
    rw [f3, k1]
    exact List.take_left' (by rw [List.length_append, List.length_append, htl, hc, hdl]; omega)
  · rw [setCells_far _ _ k' (by omega), setCells_far _ _ k' (by omega), Below.heap_alloc _ _ _ hk]
namespace Kd
section
variable {α : Type} {d : Kd α} {e base : Nat} {ok : Nat → Prop} {w w1 : World} {xs : List α} {g n c : Nat}
theorem R_room (h : d.R e w base ok (.slice (some ⟨g, 0, none⟩) n c) xs) : ∃ cur, w.heap[g]? = some (.cells cur e (0, 0)) ∧ cur.size = c * d.sz ∧ n = xs.length ∧ n ≤ c ∧ c ≤ maxLen ∧ base ≤ g := by
  obtain ⟨h0, inner, ho, hr⟩ := h
  rcases ho.2 with ⟨he, _⟩ | ⟨g', cap, cur, he, hb, hh, hnc, hcm, hcs, ht⟩
  · cases he
  · injection he with h1 h2 h3
    injection h1 with h1
    injection h1 with h1
    subst h1
    subst h3
    exact ⟨cur, hh, hcs, h2, by omega, hcm, hb⟩
/-- Cells behind the row's length are written: the row reads as it did. -/
theorem R_spare (h : d.R e w base ok (.slice (some ⟨g, 0, none⟩) n c) xs) (vs : List Value) (o : Nat) (ho : n * d.sz ≤ o) (hfit : o + vs.length ≤ c * d.sz) : d.R e (w.setCells g o vs) base ok (.slice (some ⟨g, 0, none⟩) n c) xs ∧ w.grownBy (w.setCells g o vs) (some g) := by
  obtain ⟨s1, s2, s3, s4⟩ := setCells_same g vs o w
  have hfar : ∀ k', k' ≠ g → (w.setCells g o vs).heap[k']? = w.heap[k']? := fun k' hk' => setCells_far vs _ k' hk'
  refine ⟨?_, ⟨s1, s2, s3, by rw [s4]; exact Nat.le_refl _, fun k' _ hk' => hfar k' (fun he => hk' (by rw [he]))⟩⟩
  obtain ⟨h0, inner, hown, hr⟩ := h
  refine ⟨h0, inner, ?_, hr.imp_ (fun p q hp => d.M_move (fun k' hk' => hfar k' (fun he => hk'.2 (by rw [he]; simp [Value.ownBlock]))) hp)⟩
  obtain ⟨hil, hown⟩ := hown
  refine ⟨hil, ?_⟩
  rcases hown with ⟨he, _⟩ | ⟨g', cap, cur, he, hb, hh, hnc, hcm, hcs, ht⟩
  · cases he
  · injection he with h1 h2 h3
    injection h1 with h1
    injection h1 with h1
    subst h1
    subst h3
    obtain ⟨cur', h5, h6, h7⟩ := setCells_row vs o w cur hh (by omega)
    refine .inr ⟨g, c, cur', by rw [h2], hb, h5, hnc, hcm, by rw [h6, hcs], ?_⟩
    have hle : xs.length * d.sz ≤ o := by rw [← h2]; exact ho
    have hol : o ≤ cur.toList.length := by rw [Array.length_toList]; omega
    rw [h7, List.append_assoc, List.take_append_of_le_length (by rw [List.length_take]; omega), List.take_take, Nat.min_eq_left hle, ht]
end
end Kd
end Go.Proofs.YtkomibcmpckflaaW.PrintWords
