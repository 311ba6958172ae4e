-- Written by a program of this session's (an extension of the kit's print)
/- An argument's data as a row reads it, opened into the print's kinds: for every kind of whole numbers, bools, strings, slices, structs, arrays. -/
import Derived.Test.YtkomibcmpckflaaWWords
import Derived.SizedLaws
import Derived.OpenShut
import Derived.Deep.Slices
namespace Go.Proofs.YtkomibcmpckflaaW.PrintWords
theorem okWide_arrayx {P : Program} {w : World} {r : Reach} {base : Nat} {t : TypeId} {v : Value} {n : Nat} {e : TypeId} (ht : P.underlying t = some (.array n e)) (h : Value.okWide P w r base t v) : ∃ cs, v = .agg cs ∧ cs.size = P.cellsOf t := by
  simp only [Value.okWide, ht] at h
  obtain ⟨cs, h1, h2, _⟩ := h
  exact ⟨cs, h1, h2⟩
namespace Kd
/-- Whatever can be read at type t is a value of the kind, and a good one. -/
def Opens {α : Type} (P : Program) (t : TypeId) (d : Kd α) (G : α → Prop) : Prop :=
  ∀ (H : Type) (enc : TypeId × Value → H) (W : World) (fuel : Nat) (cs : List Value) (x : DataW H × List MemPlace),
    DataW.trod enc P W 0 (fun _ => true) true fuel t cs = some x → (∀ n ∈ x.1.weights P t, n ≤ reachBytes) → ∃ a, d.K W a cs ∧ G a
def gInt (k : IntKind) (n : Int) : Prop := (Lit.int k n).wf = true
def gSl {α : Type} (B : Nat) (G : α → Prop) (l : List α) : Prop := l.length ≤ maxLen ∧ l.length * B ≤ 140737488351232 ∧ ∀ x ∈ l, G x
theorem opens_int {P : Program} {t : TypeId} {k : IntKind} (ht : P.underlying t = some (.int k)) : Opens P t (Kd.int k) (gInt k) := by
  intro H enc W fuel cs x h _
  obtain ⟨n, rfl, rfl, hw⟩ := DataW.trod_int ht h
  exact ⟨n, rfl, hw⟩
theorem weightsAll_mem {H : Type} {P : Program} {e : TypeId} : ∀ {l : List (DataW H)} {d : DataW H}, d ∈ l → ∀ n ∈ d.weights P e, n ∈ DataW.weightsAll P e l
  | d0 :: l, d, hd, n, hn => by
    simp only [DataW.weightsAll, List.mem_append]
    rcases List.mem_cons.1 hd with rfl | hd
    · exact .inl hn
    · exact .inr (weightsAll_mem hd n hn)
theorem choose_list {β : Type} {n : Nat} {p : Nat → β → Prop} {G : β → Prop} (h : ∀ i, i < n → ∃ x, p i x ∧ G x) : ∃ l : List β, l.length = n ∧ (∀ i x, l[i]? = some x → p i x) ∧ ∀ x ∈ l, G x := by
  induction n with
  | zero => exact ⟨[], rfl, fun i x hx => by simp at hx, fun x hx => by simp at hx⟩
  | succ n ih =>
    obtain ⟨l, hl, hp, hg⟩ := ih (fun i hi => h i (by omega))
    obtain ⟨x, hx, hgx⟩ := h n (by omega)
    refine ⟨l ++ [x], by simp [hl], fun i y hy => ?_, fun y hy => ?_⟩
    · rcases Nat.lt_or_ge i l.length with hi | hi
      · rw [List.getElem?_append_left hi] at hy
        exact hp i y hy
      · rw [List.getElem?_append_right hi] at hy
        have hi0 : i - l.length = 0 := by
          rcases Nat.eq_zero_or_pos (i - l.length) with h0 | h0
          · exact h0
          · rw [List.getElem?_eq_none (by simp; omega)] at hy
            cases hy
        rw [hi0] at hy
        have hy' : x = y := by simpa using hy
        have : i = n := by omega
        subst this
        subst hy'
        exact hx
    · rcases List.mem_append.1 hy with hy | hy
      · exact hg y hy
      · rw [List.mem_singleton.1 hy]
        exact hgx
theorem opens_slice {α : Type} {P : Program} {t e : TypeId} {d : Kd α} {G : α → Prop} {B : Nat} (ht : P.underlying t = some (.slice e)) (hsz : P.cellsOf e = d.sz) (hB : P.bytesOf e = B) (he : Opens P e d G) : Opens P t (Kd.slice e d) (gSl B G) := by
  intro H enc W fuel cs x h hw
  rcases DataW.trod_slice ht h with ⟨rfl, rfl⟩ | ⟨a, len, cap, elems, rest, n, rfl, rfl, rfl, _, hl, hm, hlen, hel, _, _⟩
  · exact ⟨[], ⟨none, 0, rfl, Nat.le_refl _, rfl, by simp, fun h0 => absurd h0 (Nat.lt_irrefl _)⟩, by unfold maxLen; simp, by simp, fun x hx => by simp at hx⟩
  · have hwt : (elems.length + rest.length) * B ≤ reachBytes := by
      have := hw ((elems.map (·.1)).length + (rest.map (·.1)).length |>.mul (P.bytesOf e)) (by simp [DataW.weights, ht])
      simpa [hB] using this
    have hwe : ∀ y ∈ elems, ∀ n ∈ y.1.weights P e, n ≤ reachBytes := fun y hy n hn => hw n (by
      simp only [DataW.weights, ht]
      exact List.mem_cons_of_mem _ (List.mem_append_left _ (weightsAll_mem (List.mem_map_of_mem hy) n hn)))
    obtain ⟨l, hll, hp, hg⟩ := choose_list (n := len) (p := fun i x => ∃ c, c.length = d.sz ∧ d.K W x c ∧ ∀ j u, c[j]? = some u → W.cell? (a.add (i * d.sz + j)) = some u) (G := G) (fun i hi => by
      have h1 := hel i hi
      rw [List.getElem?_eq_getElem (by omega)] at h1
      obtain ⟨cs', h2, h3⟩ := Option.bind_eq_some_iff.1 h1
      obtain ⟨_, h4, h5⟩ := World.cells?_some h2
      obtain ⟨x, hx, hgx⟩ := he H enc W n cs' _ h3 (hwe _ (List.getElem_mem _))
      refine ⟨x, ⟨cs', by rw [h4, hsz], hx, fun j u hu => ?_⟩, hgx⟩
      have hj : j < cs'.length := (List.getElem?_eq_some_iff.1 hu).1
      have h6 := h5 j (by omega)
      rw [Go.Deep.add_add, hu] at h6
      rw [← hsz]
      exact h6)
    have hml : len ≤ maxLen := by omega
    refine ⟨l, ⟨some a, cap, by rw [hll], by omega, rfl, by unfold maxLen at hml; omega, fun _ => ⟨a, rfl, hp⟩⟩, by omega, ?_, hg⟩
    have h7 : len * B ≤ (elems.length + rest.length) * B := Nat.mul_le_mul_right _ (by omega)
    rw [hll]
    exact Nat.le_trans h7 hwt
/-- Parts in line: their types, where each begins. -/
def OpensF {α : Type} (P : Program) (fs : List (TypeId × Nat)) (o : Nat) (d : Kd α) (G : α → Prop) : Prop :=
  ∀ (H : Type) (enc : TypeId × Value → H) (W : World) (n : Nat) (cs : List Value) (xs : List (DataW H × List MemPlace)), o + d.sz ≤ cs.length → xs.length = fs.length →
    (∀ (i : Nat) (f : TypeId × Nat), fs[i]? = some f → DataW.trod enc P W 0 (fun _ => true) true n f.1 ((cs.drop f.2).take (P.cellsOf f.1)) = xs[i]?) →
    (∀ (i : Nat) (f : TypeId × Nat) (x : DataW H × List MemPlace), fs[i]? = some f → xs[i]? = some x → ∀ n ∈ x.1.weights P f.1, n ≤ reachBytes) → ∃ a, d.K W a ((cs.drop o).take d.sz) ∧ G a
theorem opensF_one {α : Type} {P : Program} {t : TypeId} {o : Nat} {d : Kd α} {G : α → Prop} (hsz : P.cellsOf t = d.sz) (h : Opens P t d G) : OpensF P [(t, o)] o d G := by
  intro H enc W n cs xs hl hx ht hw
  have h1 := ht 0 (t, o) rfl
  rw [List.getElem?_eq_getElem (by rw [hx]; simp)] at h1
  obtain ⟨a, hK, hG⟩ := h H enc W n _ _ h1 (hw 0 (t, o) _ rfl (List.getElem?_eq_getElem (by rw [hx]; simp)))
  exact ⟨a, by rw [← hsz]; exact hK, hG⟩
theorem opensF_cons {α β : Type} {P : Program} {t : TypeId} {o : Nat} {fs : List (TypeId × Nat)} {a : Kd α} {b : Kd β} {Ga : α → Prop} {Gb : β → Prop} (hsz : P.cellsOf t = a.sz) (ha : Opens P t a Ga) (hb : OpensF P fs (o + a.sz) b Gb) :
    OpensF P ((t, o) :: fs) o (Kd.pair a b) (fun x => Ga x.1 ∧ Gb x.2) := by
  intro H enc W n cs xs hl hx ht hw
  have hl' : o + (a.sz + b.sz) ≤ cs.length := hl
  obtain ⟨u, hKu, hGu⟩ := opensF_one (o := o) hsz ha H enc W n cs (xs.take 1) (by omega) (by rw [List.length_take, hx]; simp) (fun i f hf => by
    cases i with
    | zero =>
      have hf' : (t, o) = f := by simpa using hf
      subst hf'
      rw [ht 0 (t, o) rfl, List.getElem?_take_of_lt (by omega)]
    | succ i => simp at hf) (fun i f x hf hxi => by
    cases i with
    | zero =>
      have hf' : (t, o) = f := by simpa using hf
      subst hf'
      rw [List.getElem?_take_of_lt (by omega)] at hxi
      exact hw 0 (t, o) x rfl hxi
    | succ i => simp at hf)
  obtain ⟨v, hKv, hGv⟩ := hb H enc W n cs (xs.drop 1) (by omega) (by rw [List.length_drop, hx]; simp) (fun i f hf => by
    rw [ht (i + 1) f (by simpa using hf), List.getElem?_drop, Nat.add_comm 1 i]) (fun i f x hf hxi => by
    rw [List.getElem?_drop, Nat.add_comm 1 i] at hxi
    exact hw (i + 1) f x (by simpa using hf) hxi)
  refine ⟨(u, v), ⟨_, _, ?_, hKu, hKv⟩, hGu, hGv⟩
  show (cs.drop o).take (a.sz + b.sz) = _
  rw [← List.drop_drop, ← List.take_append_drop a.sz ((cs.drop o).take (a.sz + b.sz)), List.take_take, List.drop_take]
  congr 2
  · omega
  · omega
theorem opens_struct {α : Type} {P : Program} {t : TypeId} {fs : Array Field} {l : List (TypeId × Nat)} {d : Kd α} {G : α → Prop} (ht : P.underlying t = some (.struct fs)) (hl : fs.toList.map (fun f => (f.type, f.offset)) = l) (hsz : P.cellsOf t = d.sz) (h : OpensF P l 0 d G) : Opens P t d G := by
  intro H enc W fuel cs x hx hw
  obtain ⟨xs, n, rfl, rfl, hlen, hxl, hf⟩ := DataW.trod_struct ht hx
  subst hl
  obtain ⟨a, hK, hG⟩ := h H enc W n cs xs (by omega) (by simp [hxl]) (fun i f hi => by
    rw [List.getElem?_map] at hi
    obtain ⟨f', hf', rfl⟩ := Option.map_eq_some_iff.1 hi
    exact hf i f' (by simpa using hf')) (fun i f x hi hxi m hm => by
    rw [List.getElem?_map] at hi
    obtain ⟨f', hf', rfl⟩ := Option.map_eq_some_iff.1 hi
    refine hw m ?_
    simp only [DataW.weights, ht]
    exact DataW.weights_mem_each (j := i) (t := f'.type) (d := x.1) (by rw [List.getElem?_map, hf']; rfl) (by rw [List.getElem?_map, hxi]; rfl) m hm)
  refine ⟨a, ?_, hG⟩
  rw [List.drop_zero, List.take_of_length_le (by omega)] at hK
  exact hK
theorem opens_array {α : Type} {P : Program} {t e : TypeId} {n : Nat} {l : List (TypeId × Nat)} {d : Kd α} {G : α → Prop} (ht : P.underlying t = some (.array n e)) (hl : (List.range n).map (fun i => (e, i * P.cellsOf e)) = l) (hsz : P.cellsOf t = d.sz) (h : OpensF P l 0 d G) : Opens P t d G := by
  intro H enc W fuel cs x hx hw
  obtain ⟨xs, m, rfl, rfl, hlen, hxl, hf⟩ := DataW.trod_array ht hx
  subst hl
  obtain ⟨a, hK, hG⟩ := h H enc W m cs xs (by omega) (by simp [hxl]) (fun i f hi => by
    rw [List.getElem?_map] at hi
    obtain ⟨j, hj, rfl⟩ := Option.map_eq_some_iff.1 hi
    have hj' := List.getElem?_eq_some_iff.1 hj
    obtain ⟨h1, h2⟩ := hj'
    rw [List.getElem_range] at h2
    subst h2
    exact hf i (by simpa using h1)) (fun i f x hi hxi m' hm => by
    rw [List.getElem?_map] at hi
    obtain ⟨j, hj, rfl⟩ := Option.map_eq_some_iff.1 hi
    refine hw m' ?_
    simp only [DataW.weights, ht]
    exact weightsAll_mem (List.mem_map_of_mem (List.mem_of_getElem? hxi)) m' hm)
  refine ⟨a, ?_, hG⟩
  rw [List.drop_zero, List.take_of_length_le (by omega)] at hK
  exact hK
theorem opens_iso {α β : Type} {P : Program} {t : TypeId} {d : Kd α} {f : β → α} (g : α → β) (hg : ∀ a, f (g a) = a) {G : α → Prop} {G' : β → Prop} (hG : ∀ b, G (f b) → G' b) (h : Opens P t d G) : Opens P t (Kd.iso d f) G' := by
  intro H enc W fuel cs x hx hw
  obtain ⟨a, hK, ha⟩ := h H enc W fuel cs x hx hw
  refine ⟨g a, ?_, hG _ (by rw [hg]; exact ha)⟩
  show d.K W (f (g a)) cs
  rw [hg]
  exact hK
end Kd
end Go.Proofs.YtkomibcmpckflaaW.PrintWords
