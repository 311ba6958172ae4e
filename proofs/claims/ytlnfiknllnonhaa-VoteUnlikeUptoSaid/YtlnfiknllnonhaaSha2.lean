/- The hash SHA-256: the walks of the program's text and of the document's. -/
import Derived.Test.YtlnfiknllnonhaaSha1
import Derived.Test.YtlnfiknllnonhaaSha0
namespace Go.Proofs.Ytlnfiknllnonhaa.Sha
open Go Go.RowKit Go.Proofs.YtlnfiknllnonhaaW.PrintWords Go.Proofs.YtlnfiknllnonhaaW.PrintLast Go.Proofs.YtlnfiknllnonhaaW.PrintMore
set_option linter.unusedVariables false
set_option linter.unusedSimpArgs false
def v32 (l : List Nat) : List Value := l.map fun x : Nat => Value.int .u32 (x : Int)
theorem v32_len (l : List Nat) : (v32 l).length = l.length := by simp [v32]
theorem v32_at (l tl : List Nat) (j : Nat) : True := trivial
theorem get32 {W : World} {g e : Nat} {ws : List Nat} {tl : List Value} (h : W.heap[g]? = some (.cells (v32 ws ++ tl).toArray e (0, 0))) (j : Nat) (hj : j < ws.length) : W.cell? ⟨g, j, none⟩ = some (.int .u32 ((ws.getD j 0 : Nat) : Int)) := by
 rw [blk_cell h j]
 simp [v32, hj, List.getElem?_append_left]
theorem set32_ {W : World} {g e : Nat} {ws : List Nat} {tl : List Value} (h : W.heap[g]? = some (.cells (v32 ws ++ tl).toArray e (0, 0))) (j : Nat) (x : Nat) (hj : j < ws.length) : (W.setCell ⟨g, j, none⟩ (.int .u32 (x : Int))).heap[g]? = some (.cells (v32 (ws.set j x) ++ tl).toArray e (0, 0)) := by
 rw [blk_set h j (.int .u32 (x : Int))]
 congr 2
 simp only [v32, List.setIfInBounds_toArray, List.map_set]
 rw [List.set_append_left _ _ (by simpa using hj)]
theorem other_set {W : World} {g g' j : Nat} {o : Obj} {u : Value} (h : W.heap[g]? = some o) (hn : g ≠ g') : (W.setCell ⟨g', j, none⟩ u).heap[g]? = some o := by
 rw [Below.heap_setCell W ⟨g', j, none⟩ u g hn]; exact h
theorem nil_tl (ws : List Nat) : (v32 ws ++ ([] : List Value)).toArray = (v32 ws).toArray := by rw [List.append_nil]
theorem set_all {W : World} {gb e : Nat} {cur : Array Value} {seg : List Value} (h : W.heap[gb]? = some (.cells cur e (0, 0))) (hl : cur.size = seg.length) : (W.setCells gb 0 seg).heap[gb]? = some (.cells seg.toArray e (0, 0)) := by
 obtain ⟨cur', h1, h2, h3⟩ := setCells_row seg 0 W _ h (by omega)
 rw [h1]
 have : cur' = seg.toArray := by
  apply Array.toList_inj.1
  rw [h3]
  have : cur.toList.drop seg.length = [] := List.drop_eq_nil_of_le (by simp; omega)
  simp [this]
 rw [this]
theorem below_cells {w W : World} {gb : Nat} (h : Below w.heap.size w W) (hg : w.heap.size ≤ gb) (o : Nat) (vs : List Value) : Below w.heap.size w (W.setCells gb o vs) := by
 obtain ⟨s1, s2, s3, s4⟩ := setCells_same gb vs o W
 exact h.trans ⟨s1, s2, s3, by rw [s4]; exact Nat.le_refl _, fun k hk => setCells_far vs o k (by omega)⟩
theorem far_cells {W : World} {g gb o : Nat} {vs : List Value} {ob : Obj} (h : W.heap[g]? = some ob) (hn : g ≠ gb) : (W.setCells gb o vs).heap[g]? = some ob := by
 rw [setCells_far vs o g hn]; exact h
/-- A store of a whole value into a block of one's own. -/
theorem store_whole {P : Program} {ops : Array Oper} {rest : List Oper} {o : Oper} {a : Act} {Q : Exit → Act → World → Prop} {W : World} (hgd : o.guard = none) (hN : o.dst = none) (t : TypeId) (p x : Operand) (ho : o.op = .store t p x) {g off : Nat} {e : TypeId} {cur : Array Value} (u : Value) (seg : List Value)
  (haddr : a.eval p = .pointer (some ⟨g, off, none⟩)) (hx : a.eval x = u) (hh : W.heap[g]? = some (.cells cur e (0, 0))) (hu : u.cells.toList = seg) (ht : (P.info? t).map (·.size) = some seg.length) (hfit : off + seg.length ≤ cur.size) (h1 : ∀ q ∈ seg, q.oneCell' = true)
  (h : ∀ w1, w1 = W.setCells g off seg → wpList P ops Q rest a w1) : wpList P ops Q (o :: rest) a W := by
 have hrun := run_store_run (P := P) t u seg hh hu ht hfit h1
 refine wpList_plain hgd fun K hK => ?_
 unfold Oper.wp execOp
 simp only [ho, haddr, hx, Sem.run_bind, Sem.run_pure, Result.andThen_ok, hrun]
 show K (a.put o.dst undef) _
 rw [hN]
 exact hK a _ (h _ rfl)
theorem one32 (l : List Nat) : ∀ q ∈ v32 l, q.oneCell' = true := by
 intro q hq
 obtain ⟨x, _, rfl⟩ := List.mem_map.1 hq
 rfl
theorem get0 {W : World} {g e : Nat} {ws : List Nat} (h : W.heap[g]? = some (.cells (v32 ws).toArray e (0, 0))) (j : Nat) (hj : j < ws.length) : W.cell? ⟨g, j, none⟩ = some (.int .u32 ((ws.getD j 0 : Nat) : Int)) :=
 get32 (tl := []) (by rw [nil_tl]; exact h) j hj
theorem set0 {W : World} {g e : Nat} {ws : List Nat} (h : W.heap[g]? = some (.cells (v32 ws).toArray e (0, 0))) (j : Nat) (x : Nat) (hj : j < ws.length) : (W.setCell ⟨g, j, none⟩ (.int .u32 (x : Int))).heap[g]? = some (.cells (v32 (ws.set j x)).toArray e (0, 0)) := by
 have := set32_ (tl := []) (by rw [nil_tl]; exact h) j x hj
 rw [nil_tl] at this
 exact this
theorem add_succ (ad : Addr) (n : Nat) : ad.add (n + 1) = ⟨ad.block, ad.off + (n + 1), none⟩ := by unfold Addr.add; rw [if_neg (by omega)]
theorem or_add (a b i : Nat) (hb : b < 2 ^ i) : a * 2 ^ i ||| b = a * 2 ^ i + b := by
 rw [Nat.mul_comm a (2 ^ i)]
 exact (Nat.two_pow_add_eq_or_of_lt hb a).symm
theorem word_or (b0 b1 b2 b3 : Nat) (h0 : b0 < 256) (h1 : b1 < 256) (h2 : b2 < 256) (h3 : b3 < 256) :
  bits .or .u32 (bits .or .u32 (bits .or .u32 ((b0 : Int) * 16777216) ((b1 : Int) * 65536)) ((b2 : Int) * 256)) (b3 : Int) = ((((b0 * 256 + b1) * 256 + b2) * 256 + b3 : Nat) : Int) := by
 have e0 : ((b0 : Int) * 16777216) = ((b0 * 16777216 : Nat) : Int) := by omega
 have e1 : ((b1 : Int) * 65536) = ((b1 * 65536 : Nat) : Int) := by omega
 have e2 : ((b2 : Int) * 256) = ((b2 * 256 : Nat) : Int) := by omega
 have o1 : b0 * 16777216 ||| b1 * 65536 = b0 * 16777216 + b1 * 65536 := or_add b0 (b1 * 65536) 24 (by omega)
 have o2 : (b0 * 16777216 + b1 * 65536) ||| b2 * 256 = b0 * 16777216 + b1 * 65536 + b2 * 256 := by
  have := or_add (b0 * 256 + b1) (b2 * 256) 16 (by omega)
  rw [show b0 * 16777216 + b1 * 65536 = (b0 * 256 + b1) * 2 ^ 16 by omega]; exact this
 have o3 : (b0 * 16777216 + b1 * 65536 + b2 * 256) ||| b3 = b0 * 16777216 + b1 * 65536 + b2 * 256 + b3 := by
  have := or_add ((b0 * 256 + b1) * 256 + b2) b3 8 (by omega)
  rw [show b0 * 16777216 + b1 * 65536 + b2 * 256 = ((b0 * 256 + b1) * 256 + b2) * 2 ^ 8 by omega]; exact this
 rw [e0, e1, e2, or32 _ _ (by omega) (by omega), o1, or32 _ _ (by omega) (by omega), o2, or32 _ _ (by omega) (by omega), o3]
 omega
theorem getw {W : World} {g : Nat} {l : List Nat} {n t : Nat} (hl : l.length = t) (h : W.heap[g]? = some (.cells (v32 (l ++ List.replicate n 0)).toArray 89 (0, 0))) (j : Nat) (hj : j < t) : W.cell? ⟨g, j, none⟩ = some (.int .u32 ((l.getD j 0 : Nat) : Int)) := by
 have := get0 h j (by rw [List.length_append]; omega)
 rw [this]
 congr 3
 rw [List.getD_eq_getElem?_getD, List.getD_eq_getElem?_getD, List.getElem?_append_left (by omega)]
theorem set_mid32 (l : List Nat) (t n x : Nat) (hl : l.length = t) (hn : 0 < n) : (l ++ List.replicate n 0).set t x = (l ++ [x]) ++ List.replicate (n - 1) 0 := by
 subst hl
 obtain ⟨m, rfl⟩ : ∃ m, n = m + 1 := ⟨n - 1, by omega⟩
 rw [List.set_append_right _ _ (Nat.le_refl _), Nat.sub_self, List.replicate_succ, List.set_cons_zero, List.append_assoc]
 rfl
theorem xor3 (a b c : Nat) (ha : a < 4294967296) (hb : b < 4294967296) (hc : c < 4294967296) : bits .xor .u32 (bits .xor .u32 (a : Int) (b : Int)) (c : Int) = (((a ^^^ b) ^^^ c : Nat) : Int) := by
 rw [xor32 _ _ ha hb, xor32 _ _ (xor_lt _ _ ha hb) hc]
theorem nxt_or (x y z v : Nat) (lx : x < 4294967296) (ly : y < 4294967296) :
  (((bits .xor .u32 (bits .xor .u32 ((rorN y 17 : Nat) : Int) ((rorN y 19 : Nat) : Int)) ((y : Int) / 1024) + (z : Int)) % 4294967296 + bits .xor .u32 (bits .xor .u32 ((rorN x 7 : Nat) : Int) ((rorN x 18 : Nat) : Int)) ((x : Int) / 8)) % 4294967296 + (v : Int)) % 4294967296 = (((((sg1 y + z) % 4294967296 + sg0 x) % 4294967296 + v) % 4294967296 : Nat) : Int) := by
 rw [show (y : Int) / 1024 = ((y / 1024 : Nat) : Int) by omega, show (x : Int) / 8 = ((x / 8 : Nat) : Int) by omega]
 rw [xor3 _ _ _ (ror_lt _ _ ly) (ror_lt _ _ ly) (Nat.lt_of_le_of_lt (Nat.div_le_self _ _) ly), xor3 _ _ _ (ror_lt _ _ lx) (ror_lt _ _ lx) (Nat.lt_of_le_of_lt (Nat.div_le_self _ _) lx)]
 have e : ∀ a b : Nat, ((((a : Int) + (z : Int)) % 4294967296 + (b : Int)) % 4294967296 + (v : Int)) % 4294967296 = (((((a + z) % 4294967296 + b) % 4294967296 + v) % 4294967296 : Nat) : Int) := by intro a b; omega
 exact e _ _
theorem nxt_or2 (x y z v : Nat) (lx : x < 4294967296) (ly : y < 4294967296) :
  (bits .xor .u32 (bits .xor .u32 ((rorN y 17 : Nat) : Int) ((rorN y 19 : Nat) : Int)) ((y : Int) / 1024) + (z : Int) + bits .xor .u32 (bits .xor .u32 ((rorN x 7 : Nat) : Int) ((rorN x 18 : Nat) : Int)) ((x : Int) / 8) + (v : Int)) % 4294967296 = (((((sg1 y + z) % 4294967296 + sg0 x) % 4294967296 + v) % 4294967296 : Nat) : Int) := by
 rw [← nxt_or x y z v lx ly]
 omega
theorem ch_or (e f g : Nat) (le : e < 4294967296) (lf : f < 4294967296) (lg : g < 4294967296) : bits .xor .u32 (bits .and .u32 (e : Int) (f : Int)) (bits .and .u32 (bits .xor .u32 IntKind.u32.max (e : Int)) (g : Int)) = ((chN e f g : Nat) : Int) := by
 have hm : IntKind.u32.max = ((4294967295 : Nat) : Int) := by decide
 rw [hm, xor32 _ _ (by decide) le, and32 _ _ le lf, and32 _ _ (xor_lt _ _ (by decide) le) lg, xor32 _ _ (and_lt _ _ lf) (and_lt _ _ lg), Nat.xor_comm 4294967295 e]
 rfl
theorem maj_or (a b c : Nat) (la : a < 4294967296) (lb : b < 4294967296) (lc : c < 4294967296) : bits .xor .u32 (bits .xor .u32 (bits .and .u32 (a : Int) (b : Int)) (bits .and .u32 (a : Int) (c : Int))) (bits .and .u32 (b : Int) (c : Int)) = ((majN a b c : Nat) : Int) := by
 rw [and32 _ _ la lb, and32 _ _ la lc, and32 _ _ lb lc, xor3 _ _ _ (and_lt _ _ lb) (and_lt _ _ lc) (and_lt _ _ lc)]
 rfl
theorem t1_or (k w e f g h : Nat) (le : e < 4294967296) (lf : f < 4294967296) (lg : g < 4294967296) :
  ((h : Int) + bits .xor .u32 (bits .xor .u32 ((rorN e 6 : Nat) : Int) ((rorN e 11 : Nat) : Int)) ((rorN e 25 : Nat) : Int) + bits .xor .u32 (bits .and .u32 (e : Int) (f : Int)) (bits .and .u32 (bits .xor .u32 IntKind.u32.max (e : Int)) (g : Int)) + (k : Int) + (w : Int)) % 4294967296 = ((t1N k w e f g h : Nat) : Int) := by
 rw [ch_or e f g le lf lg, xor3 _ _ _ (ror_lt _ _ le) (ror_lt _ _ le) (ror_lt _ _ le)]
 have e1 : ∀ a b : Nat, ((h : Int) + (a : Int) + (b : Int) + (k : Int) + (w : Int)) % 4294967296 = (((((h + a) % 4294967296 + b) % 4294967296 + k) % 4294967296 + w) % 4294967296 : Nat) := by intro a b; omega
 exact e1 _ _
theorem t2_or (a b c : Nat) (la : a < 4294967296) (lb : b < 4294967296) (lc : c < 4294967296) :
  (bits .xor .u32 (bits .xor .u32 ((rorN a 2 : Nat) : Int) ((rorN a 13 : Nat) : Int)) ((rorN a 22 : Nat) : Int) + bits .xor .u32 (bits .xor .u32 (bits .and .u32 (a : Int) (b : Int)) (bits .and .u32 (a : Int) (c : Int))) (bits .and .u32 (b : Int) (c : Int))) % 4294967296 = ((t2N a b c : Nat) : Int) := by
 rw [maj_or a b c la lb lc, xor3 _ _ _ (ror_lt _ _ la) (ror_lt _ _ la) (ror_lt _ _ la)]
 have e1 : ∀ a b : Nat, ((a : Int) + (b : Int)) % 4294967296 = (((a + b) % 4294967296 : Nat) : Int) := by intro a b; omega
 exact e1 _ _
theorem grown_set {w w1 : World} {g j : Nat} {u : Value} (h : w.grownBy w1 (some g)) : w.grownBy (w1.setCell ⟨g, j, none⟩ u) (some g) :=
 ⟨h.os, h.tape, h.output, by simpa [World.setCell] using h.size, fun i hi hn => (Below.heap_setCell w1 ⟨g, j, none⟩ u i (fun e => hn (by rw [e]))).trans (h.block i hi hn)⟩
theorem grown_drew {w w1 : World} {r : Option Nat} (h : w.grownBy w1 r) : w.grownBy w1.drew r := ⟨h.os, h.tape, h.output, h.size, h.block⟩
def LL (st rn : List Nat) (i : Nat) : List Nat := (List.zipWith (fun x y => (x + y) % 4294967296) st rn).take i ++ st.drop i
theorem LL_len {st rn : List Nat} (hs : st.length = 8) (hr : rn.length = 8) (i : Nat) (hi : i ≤ 8) : (LL st rn i).length = 8 := by
 unfold LL
 rw [List.length_append, List.length_take, List.length_zipWith, List.length_drop]; omega
theorem LL_get {st rn : List Nat} (hs : st.length = 8) (hr : rn.length = 8) (i : Nat) (hi : i < 8) : (LL st rn i).getD i 0 = st.getD i 0 := by
 unfold LL
 have h1 : ((List.zipWith (fun x y => (x + y) % 4294967296) st rn).take i).length = i := by rw [List.length_take, List.length_zipWith]; omega
 rw [List.getD_eq_getElem?_getD, List.getElem?_append_right (by omega), h1, Nat.sub_self, List.getElem?_drop, Nat.add_zero, List.getD_eq_getElem?_getD]
theorem LL_set {st rn : List Nat} (hs : st.length = 8) (hr : rn.length = 8) (i : Nat) (hi : i < 8) : (LL st rn i).set i ((st.getD i 0 + rn.getD i 0) % 4294967296) = LL st rn (i + 1) := by
 unfold LL
 have hz : (List.zipWith (fun x y => (x + y) % 4294967296) st rn).length = 8 := by rw [List.length_zipWith]; omega
 have h1 : ((List.zipWith (fun x y => (x + y) % 4294967296) st rn).take i).length = i := by rw [List.length_take]; omega
 rw [List.set_append_right _ _ (by omega), h1, Nat.sub_self, List.drop_eq_getElem_cons (show i < st.length by omega), List.set_cons_zero]
 rw [List.take_succ_eq_append_getElem (show i < (List.zipWith (fun x y => (x + y) % 4294967296) st rn).length by omega), List.append_assoc, List.singleton_append, List.getElem_zipWith]
 rw [List.getD_eq_getElem?_getD, List.getElem?_eq_getElem (show i < st.length by omega), List.getD_eq_getElem?_getD, List.getElem?_eq_getElem (show i < rn.length by omega)]
 rfl
theorem LL_end {st rn : List Nat} (hs : st.length = 8) (hr : rn.length = 8) : LL st rn 8 = List.zipWith (fun x y => (x + y) % 4294967296) st rn := by
 unfold LL
 rw [List.take_of_length_le (by rw [List.length_zipWith]; omega), List.drop_of_length_le (by omega), List.append_nil]
set_option maxHeartbeats 8000000 in
set_option maxRecDepth 100000 in
theorem block (w : World) (gs e : Nat) (st : List Nat) (tl : List Value) (hl : st.length = 8) (hst : W32 st) (hg : w.heap[gs]? = some (.cells (v32 st ++ tl).toArray e (0, 0))) (A : Option Addr) (cap : Nat) (p : List Int) (hp : p.length = 64) (hb : ∀ b ∈ p, 0 ≤ b ∧ b < 256) (hr : Kd.C (Kd.int .u8) w A 64 p) :
  Calls Try.prog 82 #[.pointer (some ⟨gs, 0, none⟩), .slice A 64 cap] w fun e' w' => e' = .returned (.tuple #[]) ∧ w'.heap[gs]? = some (.cells (v32 (comp st (fun i => (rd p i).toNat)) ++ tl).toArray e (0, 0)) ∧ w.grownBy w' (some gs) := by
 obtain ⟨a0, a1, a2, a3, a4, a5, a6, a7, rfl⟩ := len8 hl
 clear hl
 have HG := Aside0.mk hg
 have HR := Aside0.mk hr
 have HST := Aside0.mk hst
 have HP := Aside0.mk hp
 have HBY := Aside0.mk hb
 clear hg hr hst hp hb
 go_enter Try.func82, Try.ntmps82
 go_upto_region 0 with (fail)
 go_cut [4] (fun v4 wc => ∃ gq : Nat, v4 = .pointer (some ⟨gq, 0, none⟩) ∧ Aside0 (wc.heap[gq]? = some (.cells (v32 KS).toArray 89 (0, 0))) ∧ Aside0 (w.heap.size ≤ gq) ∧ Aside0 (Below w.heap.size w wc))
 case first =>
  go_wp2_with (first | ((with_reducible refine gate_dst (N := 4) rfl ?_); refine box_event ?hg (N := 4) ?hd (cs := (v32 (List.replicate 64 0)).toArray) (t := 89) ?hr ?_; (case hd => rfl); (case hg => rfl); (case hr => first | (go_simp; done) | (go_simp; rfl)); intro gq hgk w3 hbox hb3; have HB := Aside0.mk hb3; have HGK0 := Aside0.mk hbox; have HGEK := Aside0.mk (show w.heap.size ≤ gq from Nat.le_of_eq hgk.symm); clear hbox hb3 hgk) | ((with_reducible refine gate_store (t := 89) (p := 4) rfl ?_); refine store_whole rfl rfl 89 (.tmp 4) (.tmp 16) rfl _ (v32 KS) rfl rfl HGK0.out (by kernel_rfl) (by kernel_rfl) (by decide) (one32 KS) ?_; intro w4 hw4; have HGK := Aside0.mk (show w4.heap[gq]? = some (.cells (v32 KS).toArray 89 (0, 0)) from hw4 ▸ set_all HGK0.out rfl); have HB4 := Aside0.mk (show Below w.heap.size w w4 from hw4 ▸ below_cells HB.out HGEK.out _ _); clear hw4 HGK0 HB))
  go_meet
  case rel => exact ⟨gq, rfl, HGK, HGEK, HB4⟩
 case rest =>
 obtain ⟨gq, rfl, HGK, HGEK, HB4⟩ := hcut
 go_wp2_with (first | ((with_reducible refine gate_dst (N := 5) rfl ?_); refine box_event ?hg (N := 5) ?hd (cs := (v32 (List.replicate 64 0)).toArray) (t := 89) ?hr ?_; (case hd => rfl); (case hg => rfl); (case hr => first | (go_simp; done) | (go_simp; rfl)); intro gw hgw w5 hbox hb5; have HB := Aside0.mk (below_step HB4.out hb5); have HGW := Aside0.mk hbox; have HGEW := Aside0.mk (show w.heap.size ≤ gw from hgw ▸ below_size HB4.out); have HK2 := Aside0.mk (blk_below HGK.out hb5); have HKW := Aside0.mk (show gq ≠ gw from by have := blk_lt HGK.out; omega); clear hbox hb5 hgw HB4 HGK))
 go_loopg [17] 65 (fun kq v wr => ∃ t : Nat, t ≤ 64 ∧ v = .int .i64 t ∧ Aside0 (kq + t = 65) ∧ Aside0 (wr.heap[gw]? = some (.cells (v32 (sched (fun i => (rd p i).toNat) t ++ List.replicate (64 - t) 0)).toArray 89 (0, 0))) ∧ Aside0 (wr.heap[gq]? = some (.cells (v32 KS).toArray 89 (0, 0))) ∧ Aside0 (Below w.heap.size w wr))
 case atStart => exact ⟨0, by omega, rfl, ⟨rfl⟩, HGW, HK2, HB⟩
 case round =>
  obtain ⟨t, ht, rfl, HKQ, HGW1, HK1, HB1⟩ := hrel
  obtain ⟨k1, rfl⟩ : ∃ k1, gk = k1 + 1 := ⟨gk - 1, by have := HKQ.out; omega⟩
  clear HGW HK2 HB
  have hw : wrap64 ((t : Int) + 1) = ((t + 1 : Nat) : Int) := by unfold wrap64; omega
  by_cases hlt : t < 64
  ·by_cases h16 : t < 16
   ·have e4 : wrap64 (4 * (t : Int)) = 4 * (t : Int) := by unfold wrap64; omega
    have rb : ∀ j : Int, 0 ≤ j → j < 64 → ∃ b : Nat, rd p j = b ∧ b < 256 ∧ (rd p j).toNat = b := by
     intro j h0 h1
     have := HBY.out (rd p j) (by unfold rd; rw [List.getD_eq_getElem?_getD, List.getElem?_eq_getElem (by rw [HP.out]; omega)]; exact List.getElem_mem _)
     exact ⟨(rd p j).toNat, by omega, by omega, rfl⟩
    obtain ⟨b0, r0, l0, q0⟩ := rb (4 * (t : Int)) (by omega) (by omega)
    obtain ⟨b1, r1, l1, q1⟩ := rb (4 * (t : Int) + 1) (by omega) (by omega)
    obtain ⟨b2, r2, l2, q2⟩ := rb (4 * (t : Int) + 2) (by omega) (by omega)
    obtain ⟨b3, r3, l3, q3⟩ := rb (4 * (t : Int) + 3) (by omega) (by omega)
    obtain ⟨ad, eA, hx0⟩ := Kd.at_int (Kd.C_below HR.out HB1.out) (4 * (t : Int)) (by omega) (by omega)
    subst eA
    obtain ⟨ad1, e1, hx1⟩ := Kd.at_int (Kd.C_below HR.out HB1.out) (4 * (t : Int) + 1) (by omega) (by omega)
    cases e1
    obtain ⟨ad1, e1, hx2⟩ := Kd.at_int (Kd.C_below HR.out HB1.out) (4 * (t : Int) + 2) (by omega) (by omega)
    cases e1
    obtain ⟨ad1, e1, hx3⟩ := Kd.at_int (Kd.C_below HR.out HB1.out) (4 * (t : Int) + 3) (by omega) (by omega)
    cases e1
    rw [r0] at hx0
    rw [r1] at hx1
    rw [r2] at hx2
    rw [r3] at hx3
    have HQ0 := Aside0.mk q0
    have HQ1 := Aside0.mk q1
    have HQ2 := Aside0.mk q2
    have HQ3 := Aside0.mk q3
    clear q0 q1 q2 q3 r0 r1 r2 r3 rb
    have hc := get0 HGW1.out t (by rw [List.length_append, sched_len, List.length_replicate]; omega)
    have hf := blk_frozen HGW1.out t
    rw [show (4 * (t : Int)).toNat = 4 * t by omega] at hx0
    rw [show (4 * (t : Int) + 1).toNat = 4 * t + 1 by omega, add_succ] at hx1
    rw [show (4 * (t : Int) + 2).toNat = 4 * t + 2 by omega, add_succ] at hx2
    rw [show (4 * (t : Int) + 3).toNat = 4 * t + 3 by omega, add_succ] at hx3
    have f0 : IntKind.i64.wrap (4 * (t : Int)) = 4 * (t : Int) := Go.IntWalk.i64_in _ (by omega)
    have f1 : IntKind.i64.wrap (4 * (t : Int) + 1) = 4 * (t : Int) + 1 := Go.IntWalk.i64_in _ (by omega)
    have f2 : IntKind.i64.wrap (4 * (t : Int) + 2) = 4 * (t : Int) + 2 := Go.IntWalk.i64_in _ (by omega)
    have f3 : IntKind.i64.wrap (4 * (t : Int) + 3) = 4 * (t : Int) + 3 := Go.IntWalk.i64_in _ (by omega)
    have p0 : 0 ≤ 4 * (t : Int) := by omega
    have p1 : 0 ≤ 4 * (t : Int) + 1 := by omega
    have p2 : 0 ≤ 4 * (t : Int) + 2 := by omega
    have p3 : 0 ≤ 4 * (t : Int) + 3 := by omega
    have n0 : (4 * (t : Int)) < 64 := by omega
    have n1 : (4 * (t : Int) + 1) < 64 := by omega
    have n2 : (4 * (t : Int) + 2) < 64 := by omega
    have n3 : (4 * (t : Int) + 3) < 64 := by omega
    have m0 : (4 * (t : Int)).toNat = 4 * t := by omega
    have m1 : (4 * (t : Int) + 1).toNat = 4 * t + 1 := by omega
    have m2 : (4 * (t : Int) + 2).toNat = 4 * t + 2 := by omega
    have m3 : (4 * (t : Int) + 3).toNat = 4 * t + 3 := by omega
    go_wp2
    go_still_tail 35, (by kernel_rfl)
    change wpList _ _ _ _ _ wr.drew
    have HGW2 := Aside0.mk (blk_drew HGW1.out)
    have HKK2 := Aside0.mk (blk_drew HK1.out)
    have HB2 := Aside0.mk (below_drew1 HB1.out)
    clear hc hf HGW1 HK1 HB1 hx0 hx1 hx2 hx3 f0 f1 f2 f3 p0 p1 p2 p3 n0 n1 n2 n3 m0 m1 m2 m3
    generalize wr.drew = w2 at HGW2 HKK2 HB2 ⊢
    have hlen : t < (sched (fun i => (rd p i).toNat) t ++ List.replicate (64 - t) 0).length := by rw [List.length_append, sched_len, List.length_replicate]; omega
    have hc := get0 HGW2.out t hlen
    have hf := blk_frozen HGW2.out t
    go_wp2
    go_roundg k1
    case rel =>
     refine ⟨t + 1, by omega, (by first | exact congrArg (Value.int IntKind.i64) hw | simp), ⟨by have := HKQ.out; omega⟩, ⟨?_⟩, ⟨other_set HKK2.out HKW.out⟩, ⟨by first | exact below_set HB2.out HGEW.out | exact below_set HB2.out HGEW.out _⟩⟩
     rw [word_or b0 b1 b2 b3 l0 l1 l2 l3]
     have h := set0 HGW2.out t (((b0 * 256 + b1) * 256 + b2) * 256 + b3) hlen
     rw [set_mid32 _ t (64 - t) _ (sched_len _ _) (by omega)] at h
     have e : sched (fun i => (rd p i).toNat) (t + 1) = sched (fun i => (rd p i).toNat) t ++ [((b0 * 256 + b1) * 256 + b2) * 256 + b3] := by
      show sched _ t ++ [if t < 16 then wordN _ t else _] = _
      rw [if_pos h16]
      unfold wordN
      dsimp only
      have a0 := HQ0.out; have a1 := HQ1.out; have a2 := HQ2.out; have a3 := HQ3.out
      rw [show ((4 * t : Nat) : Int) = 4 * (t : Int) by omega, show ((4 * t + 1 : Nat) : Int) = 4 * (t : Int) + 1 by omega, show ((4 * t + 2 : Nat) : Int) = 4 * (t : Int) + 2 by omega, show ((4 * t + 3 : Nat) : Int) = 4 * (t : Int) + 3 by omega, a0, a1, a2, a3]
     rw [e, show 64 - (t + 1) = 64 - t - 1 by omega]
     exact h
    case measure => have := HKQ.out; omega
   ·have h16' : 16 ≤ t := by omega
    obtain ⟨y, hy⟩ : ∃ y, (sched (fun i => (rd p i).toNat) t).getD (t - 2) 0 = y := ⟨_, rfl⟩
    obtain ⟨x, hx⟩ : ∃ y, (sched (fun i => (rd p i).toNat) t).getD (t - 15) 0 = y := ⟨_, rfl⟩
    obtain ⟨z, hz⟩ : ∃ y, (sched (fun i => (rd p i).toNat) t).getD (t - 7) 0 = y := ⟨_, rfl⟩
    obtain ⟨v, hv⟩ : ∃ y, (sched (fun i => (rd p i).toNat) t).getD (t - 16) 0 = y := ⟨_, rfl⟩
    have ws := W32_sched (fun i => (rd p i).toNat) (fun i => by
     show (rd p i).toNat < 256
     unfold rd
     rw [List.getD_eq_getElem?_getD]
     by_cases h : (i : Int).toNat < p.length
     ·rw [List.getElem?_eq_getElem h]
      have := HBY.out _ (List.getElem_mem h)
      simp only [Option.getD_some]; omega
     ·rw [List.getElem?_eq_none (by omega)]; decide) t
    have ly : y < 4294967296 := hy ▸ W32_get ws _
    have lx : x < 4294967296 := hx ▸ W32_get ws _
    have lz : z < 4294967296 := hz ▸ W32_get ws _
    have lv : v < 4294967296 := hv ▸ W32_get ws _
    have hcx := getw (sched_len _ _) HGW1.out (t - 15) (by omega)
    have hcy := getw (sched_len _ _) HGW1.out (t - 2) (by omega)
    rw [hx] at hcx
    rw [hy] at hcy
    have HX := Aside0.mk hx
    have HY := Aside0.mk hy
    have HZ := Aside0.mk hz
    have HV := Aside0.mk hv
    clear hx hy hz hv ws
    have f15 : IntKind.i64.wrap ((t : Int) - 15) = (t : Int) - 15 := Go.IntWalk.i64_in _ (by omega)
    have f2 : IntKind.i64.wrap ((t : Int) - 2) = (t : Int) - 2 := Go.IntWalk.i64_in _ (by omega)
    have p15 : 0 ≤ (t : Int) - 15 := by omega
    have p15' : 15 ≤ (t : Int) := by omega
    have p2 : 0 ≤ (t : Int) - 2 := by omega
    have p2' : 2 ≤ (t : Int) := by omega
    have n15 : (t : Int) - 15 < 64 := by omega
    have n2 : (t : Int) - 2 < 64 := by omega
    have m15 : ((t : Int) - 15).toNat = t - 15 := by omega
    have m2 : ((t : Int) - 2).toNat = t - 2 := by omega
    go_wp2
    go_quiet (fail)
    have HGW2 := Aside0.mk (blk_drewN HGW1.out nq)
    have HKK2 := Aside0.mk (blk_drewN HK1.out nq)
    have HB2 := Aside0.mk (pw_below_drewN HB1.out nq)
    clear hcx hcy HGW1 HK1 HB1 f15 f2 p15 p15' p2 p2' n15 n2 m15 m2
    generalize wr.drewN nq = w2 at HGW2 HKK2 HB2 ⊢
    have hcz := getw (sched_len _ _) HGW2.out (t - 7) (by omega)
    have hcv := getw (sched_len _ _) HGW2.out (t - 16) (by omega)
    rw [HZ.out] at hcz
    rw [HV.out] at hcv
    have f7 : IntKind.i64.wrap ((t : Int) - 7) = (t : Int) - 7 := Go.IntWalk.i64_in _ (by omega)
    have f16 : IntKind.i64.wrap ((t : Int) - 16) = (t : Int) - 16 := Go.IntWalk.i64_in _ (by omega)
    have p7 : 0 ≤ (t : Int) - 7 := by omega
    have p7' : 7 ≤ (t : Int) := by omega
    have p16 : 0 ≤ (t : Int) - 16 := by omega
    have p16' : 16 ≤ (t : Int) := by omega
    have n7 : (t : Int) - 7 < 64 := by omega
    have n16 : (t : Int) - 16 < 64 := by omega
    have m7 : ((t : Int) - 7).toNat = t - 7 := by omega
    have m16 : ((t : Int) - 16).toNat = t - 16 := by omega
    go_wp2
    refine wp_region_still_tail 29 (by kernel_rfl) (by kernel_rfl) ?_
    simp only [List.take_succ_cons, List.take_zero, List.drop_succ_cons, List.drop_zero]
    repeat still_step
    still_call (ror_17s y _ ly)
    repeat still_step
    still_call (ror_19s y _ ly)
    repeat still_step
    still_call (ror_7s x _ lx)
    repeat still_step
    still_call (ror_18s x _ lx)
    repeat still_step
    try refine wpStill_nil ?_
    change wpList _ _ _ _ _ w2.drew
    have HGW3 := Aside0.mk (blk_drew HGW2.out)
    have HKK3 := Aside0.mk (blk_drew HKK2.out)
    have HB3 := Aside0.mk (below_drew1 HB2.out)
    clear hcz hcv HGW2 HKK2 HB2 f7 f16 p7 p7' p16 p16' n7 n16 m7 m16
    generalize w2.drew = w3 at HGW3 HKK3 HB3 ⊢
    have hlen : t < (sched (fun i => (rd p i).toNat) t ++ List.replicate (64 - t) 0).length := by rw [List.length_append, sched_len, List.length_replicate]; omega
    have hc := get0 HGW3.out t hlen
    have hf := blk_frozen HGW3.out t
    go_wp2
    go_roundg k1
    case rel =>
     refine ⟨t + 1, by omega, (by first | exact congrArg (Value.int IntKind.i64) hw | simp), ⟨by have := HKQ.out; omega⟩, ⟨?_⟩, ⟨other_set HKK3.out HKW.out⟩, ⟨by first | exact below_set HB3.out HGEW.out | exact below_set HB3.out HGEW.out _⟩⟩
     rw [nxt_or2 x y z v lx ly]
     have h := set0 HGW3.out t ((((sg1 y + z) % 4294967296 + sg0 x) % 4294967296 + v) % 4294967296) hlen
     rw [set_mid32 _ t (64 - t) _ (sched_len _ _) (by omega)] at h
     have e : sched (fun i => (rd p i).toNat) (t + 1) = sched (fun i => (rd p i).toNat) t ++ [(((sg1 y + z) % 4294967296 + sg0 x) % 4294967296 + v) % 4294967296] := by
      show sched _ t ++ [if t < 16 then wordN _ t else nxt _ t] = _
      rw [if_neg h16]
      unfold nxt
      rw [HX.out, HY.out, HZ.out, HV.out]
     rw [e, show 64 - (t + 1) = 64 - t - 1 by omega]
     exact h
    case measure => have := HKQ.out; omega
  ·obtain rfl : t = 64 := by omega
   have hgs : gs < w.heap.size := blk_lt HG.out
   have HGS := Aside0.mk (blk_below HG.out HB1.out)
   have g0 : wr.cell? ⟨gs, 0, none⟩ = some (.int .u32 (a0 : Int)) := (blk_cell HGS.out 0).trans rfl
   have g1 : wr.cell? ⟨gs, 1, none⟩ = some (.int .u32 (a1 : Int)) := (blk_cell HGS.out 1).trans rfl
   have g2 : wr.cell? ⟨gs, 2, none⟩ = some (.int .u32 (a2 : Int)) := (blk_cell HGS.out 2).trans rfl
   have g3 : wr.cell? ⟨gs, 3, none⟩ = some (.int .u32 (a3 : Int)) := (blk_cell HGS.out 3).trans rfl
   have g4 : wr.cell? ⟨gs, 4, none⟩ = some (.int .u32 (a4 : Int)) := (blk_cell HGS.out 4).trans rfl
   have g5 : wr.cell? ⟨gs, 5, none⟩ = some (.int .u32 (a5 : Int)) := (blk_cell HGS.out 5).trans rfl
   have g6 : wr.cell? ⟨gs, 6, none⟩ = some (.int .u32 (a6 : Int)) := (blk_cell HGS.out 6).trans rfl
   have g7 : wr.cell? ⟨gs, 7, none⟩ = some (.int .u32 (a7 : Int)) := (blk_cell HGS.out 7).trans rfl
   have HGW2 := Aside0.mk (show wr.heap[gw]? = some (.cells (v32 (sched (fun i => (rd p i).toNat) 64)).toArray 89 (0, 0)) from by have := HGW1.out; rw [show 64 - 64 = 0 from rfl, List.replicate_zero, List.append_nil] at this; exact this)
   clear HGW1
   go_wp2_with (first | ((with_reducible refine gate_dst (N := 9) rfl ?_); refine box_event ?hg (N := 9) ?hd (cs := (v32 [0, 0, 0, 0, 0, 0, 0, 0]).toArray) (t := 93) ?hr ?_; (case hd => rfl); (case hg => rfl); (case hr => first | (go_simp; done) | (go_simp; rfl)); intro gv hgv w3 hbox hb3; have HB := Aside0.mk (below_step HB1.out hb3); have HV0 := Aside0.mk hbox; have HGEV := Aside0.mk (show w.heap.size ≤ gv from hgv ▸ below_size HB1.out); have HGW3 := Aside0.mk (blk_below HGW2.out hb3); have HK3 := Aside0.mk (blk_below HK1.out hb3); have HWV := Aside0.mk (show gw < gv from by have := blk_lt HGW2.out; omega); have HKV := Aside0.mk (show gq < gv from by have := blk_lt HK1.out; omega); clear hbox hb3 hgv HB1 HGW2 HK1 g0 g1 g2 g3 g4 g5 g6 g7 HGS) | ((with_reducible refine gate_store (t := 93) (p := 9) rfl ?_); refine store_whole rfl rfl 93 (.tmp 9) (.tmp 97) rfl _ (v32 [a0, a1, a2, a3, a4, a5, a6, a7]) rfl rfl HV0.out (by rfl) (show _ = some 8 from by kernel_rfl) (by simp [v32]) (one32 _) ?_; intro w4 hw4; have HV4 := Aside0.mk (show w4.heap[gv]? = some (.cells (v32 [a0, a1, a2, a3, a4, a5, a6, a7]).toArray 93 (0, 0)) from hw4 ▸ set_all HV0.out rfl); have HB4 := Aside0.mk (show Below w.heap.size w w4 from hw4 ▸ below_cells HB.out HGEV.out _ _); have HGW4 := Aside0.mk (show w4.heap[gw]? = _ from hw4 ▸ far_cells HGW3.out (Nat.ne_of_lt HWV.out)); have HK4 := Aside0.mk (show w4.heap[gq]? = _ from hw4 ▸ far_cells HK3.out (Nat.ne_of_lt HKV.out)); clear hw4 HV0 HB HGW3 HK3))
   go_loopg [98] 65 (fun kq v wr => ∃ t : Nat, t ≤ 64 ∧ v = .int .i64 t ∧ Aside0 (kq + t = 65) ∧ Aside0 (wr.heap[gv]? = some (.cells (v32 (rnds (sched (fun i => (rd p i).toNat) 64) t [a0, a1, a2, a3, a4, a5, a6, a7])).toArray 93 (0, 0))) ∧ Aside0 (wr.heap[gw]? = some (.cells (v32 (sched (fun i => (rd p i).toNat) 64)).toArray 89 (0, 0))) ∧ Aside0 (wr.heap[gq]? = some (.cells (v32 KS).toArray 89 (0, 0))) ∧ Aside0 (Below w.heap.size w wr))
   case atStart => exact ⟨0, by omega, rfl, ⟨rfl⟩, HV4, HGW4, HK4, HB4⟩
   case round =>
    clear HV4 HGW4 HK4 HB4
    obtain ⟨t, ht, rfl, HKQ2, HV1, HW1, HK1, HB1⟩ := hrel
    obtain ⟨k1, rfl⟩ : ∃ k1, gk = k1 + 1 := ⟨gk - 1, by have := HKQ2.out; omega⟩
    have hw : wrap64 ((t : Int) + 1) = ((t + 1 : Nat) : Int) := by unfold wrap64; omega
    by_cases hlt : t < 64
    ·obtain ⟨a, b, c, d, e5, f, g, h8, hrn⟩ := len8 (rnds_len (sched (fun i => (rd p i).toNat) 64) [a0, a1, a2, a3, a4, a5, a6, a7] rfl t)
     have hw8 := W32_rnds (sched (fun i => (rd p i).toNat) 64) [a0, a1, a2, a3, a4, a5, a6, a7] rfl HST.out t
     rw [hrn] at HV1 hw8
     have HRN := Aside0.mk hrn
     clear hrn
     have la : a < 4294967296 := hw8 _ (by simp)
     have lb : b < 4294967296 := hw8 _ (by simp)
     have lc : c < 4294967296 := hw8 _ (by simp)
     have le : e5 < 4294967296 := hw8 _ (by simp)
     have lf : f < 4294967296 := hw8 _ (by simp)
     have lg : g < 4294967296 := hw8 _ (by simp)
     clear hw8
     obtain ⟨kt, hkt⟩ : ∃ y, KS.getD t 0 = y := ⟨_, rfl⟩
     obtain ⟨wt, hwt⟩ : ∃ y, (sched (fun i => (rd p i).toNat) 64).getD t 0 = y := ⟨_, rfl⟩
     have HKT := Aside0.mk hkt
     have HWT := Aside0.mk hwt
     clear hkt hwt
     have q0 : wr.cell? ⟨gv, 0, none⟩ = some (.int .u32 (a : Int)) := (blk_cell HV1.out 0).trans rfl
     have q4 : wr.cell? ⟨gv, 4, none⟩ = some (.int .u32 (e5 : Int)) := (blk_cell HV1.out 4).trans rfl
     go_upto_region 15 with (fail)
     go_quiet (fail)
     have HV2 := Aside0.mk (blk_drewN HV1.out nq)
     have HW2 := Aside0.mk (blk_drewN HW1.out nq)
     have HK2 := Aside0.mk (blk_drewN HK1.out nq)
     have HB2 := Aside0.mk (pw_below_drewN HB1.out nq)
     clear q0 q4 HV1 HW1 HK1 HB1
     generalize wr.drewN nq = w2 at HV2 HW2 HK2 HB2 ⊢
     go_upto_region 15 with (fail)
     go_cut [13] (fun v13 wc => v13 = .int .u32 ((t1N kt wt e5 f g h8 : Nat) : Int) ∧ Aside0 (wc.heap[gv]? = some (.cells (v32 [a, b, c, d, e5, f, g, h8]).toArray 93 (0, 0))) ∧ Aside0 (wc.heap[gw]? = some (.cells (v32 (sched (fun i => (rd p i).toNat) 64)).toArray 89 (0, 0))) ∧ Aside0 (wc.heap[gq]? = some (.cells (v32 KS).toArray 89 (0, 0))) ∧ Aside0 (Below w.heap.size w wc))
     case first =>
      have q1 : w2.cell? ⟨gv, 1, none⟩ = some (.int .u32 (b : Int)) := (blk_cell HV2.out 1).trans rfl
      have q2 : w2.cell? ⟨gv, 2, none⟩ = some (.int .u32 (c : Int)) := (blk_cell HV2.out 2).trans rfl
      have q5 : w2.cell? ⟨gv, 5, none⟩ = some (.int .u32 (f : Int)) := (blk_cell HV2.out 5).trans rfl
      have q6 : w2.cell? ⟨gv, 6, none⟩ = some (.int .u32 (g : Int)) := (blk_cell HV2.out 6).trans rfl
      have q7 : w2.cell? ⟨gv, 7, none⟩ = some (.int .u32 (h8 : Int)) := (blk_cell HV2.out 7).trans rfl
      have qk := get0 HK2.out t (show t < KS.length from hlt)
      have qw := get0 HW2.out t (by rw [sched_len]; exact hlt)
      rw [HKT.out] at qk
      rw [HWT.out] at qw
      have hsg : IntKind.u32.signed = false := rfl
      go_quiet ((go_at_call 86; first | (with_reducible exact Calls.quiet_of_same (ror_6s e5 _ le)) | (with_reducible exact Calls.quiet_of_same (ror_11s e5 _ le)) | (with_reducible exact Calls.quiet_of_same (ror_25s e5 _ le))))
      go_wp2
      go_meet
      case rel => exact ⟨congrArg (Value.int IntKind.u32) (by rw [← t1_or kt wt e5 f g h8 le lf lg]; omega), ⟨blk_drewN HV2.out nq⟩, ⟨blk_drewN HW2.out nq⟩, ⟨blk_drewN HK2.out nq⟩, ⟨pw_below_drewN HB2.out nq⟩⟩
     case rest =>
     clear HV2 HW2 HK2 HB2
     obtain ⟨rfl, HV2, HW2, HK2, HB2⟩ := hcut
     obtain ⟨wx, hwx⟩ : ∃ x, x = wc := ⟨_, rfl⟩
     subst hwx
     generalize hT1 : t1N kt wt e5 f g h8 = T1
     have HT1 := Aside0.mk hT1
     clear hT1
     go_upto_region 16 with (fail)
     go_cut [14] (fun v14 wd => v14 = .int .u32 ((t2N a b c : Nat) : Int) ∧ Aside0 (wd.heap[gv]? = some (.cells (v32 [a, b, c, d, e5, f, g, h8]).toArray 93 (0, 0))) ∧ Aside0 (wd.heap[gw]? = some (.cells (v32 (sched (fun i => (rd p i).toNat) 64)).toArray 89 (0, 0))) ∧ Aside0 (wd.heap[gq]? = some (.cells (v32 KS).toArray 89 (0, 0))) ∧ Aside0 (Below w.heap.size w wd))
     case first =>
      have q1 : wx.cell? ⟨gv, 1, none⟩ = some (.int .u32 (b : Int)) := (blk_cell HV2.out 1).trans rfl
      have q2 : wx.cell? ⟨gv, 2, none⟩ = some (.int .u32 (c : Int)) := (blk_cell HV2.out 2).trans rfl
      go_quiet ((go_at_call 86; first | (with_reducible exact Calls.quiet_of_same (ror_2s a _ la)) | (with_reducible exact Calls.quiet_of_same (ror_13s a _ la)) | (with_reducible exact Calls.quiet_of_same (ror_22s a _ la))))
      go_wp2
      go_meet
      case rel => exact ⟨congrArg (Value.int IntKind.u32) (t2_or a b c la lb lc), ⟨blk_drewN HV2.out nq⟩, ⟨blk_drewN HW2.out nq⟩, ⟨blk_drewN HK2.out nq⟩, ⟨pw_below_drewN HB2.out nq⟩⟩
     case rest =>
     clear HV2 HW2 HK2 HB2
     obtain ⟨rfl, HV2, HW2, HK2, HB2⟩ := hcut
     generalize hT2 : t2N a b c = T2
     have HT2 := Aside0.mk hT2
     clear hT2
     go_wp2
     refine wp_region_still_tail 2 (by kernel_rfl) (by kernel_rfl) ?_
     simp only [List.take_succ_cons, List.take_zero, List.drop_succ_cons, List.drop_zero]
     repeat still_step
     try refine wpStill_nil ?_
     change wpList _ _ _ _ _ wc.drew
     have HV3 := Aside0.mk (blk_drew HV2.out)
     have HW3 := Aside0.mk (blk_drew HW2.out)
     have HK3 := Aside0.mk (blk_drew HK2.out)
     have HB3 := Aside0.mk (below_drew1 HB2.out)
     clear HV2 HW2 HK2 HB2
     generalize wc.drew = w3 at HV3 HW3 HK3 HB3 ⊢
     refine wpList_copy_splice rfl (.tmp 159) (.tmp 160) 100 100 rfl 76 (by kernel_rfl) (by kernel_rfl) (some ⟨gv, 1, none⟩) (some ⟨gv, 0, none⟩) 7 7 7 8 rfl rfl gv 1 (v32 [a, b, c, d, e5, f, g, h8]) 93 HV3.out (v32 [a, b, c, d, e5, f, g]) rfl (fun _ => ⟨rfl, _, rfl, fun j v hv => ?_⟩) (by simp [v32]) (one32 _) gv w3 (Below.refl _ _) (Nat.le_refl _) ?_
     ·rw [add_plain, blk_cell HV3.out j]
      rw [← hv]
      have hj : j < 7 := by
       have := (List.getElem?_eq_some_iff.1 hv).1
       simpa [v32] using this
      rcases (show j = 0 ∨ j = 1 ∨ j = 2 ∨ j = 3 ∨ j = 4 ∨ j = 5 ∨ j = 6 by omega) with rfl | rfl | rfl | rfl | rfl | rfl | rfl <;> rfl
     ·intro w4 hv4 hb4
      have HV4 := Aside0.mk (show w4.heap[gv]? = some (.cells (v32 [a, a, b, c, d, e5, f, g]).toArray 93 (0, 0)) from hv4)
      have HW4 := Aside0.mk ((hb4.block gw HWV.out).trans HW3.out)
      have HK4 := Aside0.mk ((hb4.block gq HKV.out).trans HK3.out)
      have HB4 := Aside0.mk (HB3.out.trans (hb4.mono HGEV.out))
      clear hv4 hb4 HV3 HW3 HK3 HB3
      have c4 : w4.cell? ⟨gv, 4, none⟩ = some (.int .u32 (d : Int)) := (blk_cell HV4.out 4).trans rfl
      have c0 : w4.cell? ⟨gv, 0, none⟩ = some (.int .u32 (a : Int)) := (blk_cell HV4.out 0).trans rfl
      have f4 := blk_frozen HV4.out 4
      have f0 := blk_frozen HV4.out 0
      go_wp2
      go_roundg k1
      case rel =>
       refine ⟨t + 1, by omega, (by first | exact congrArg (Value.int IntKind.i64) hw | simp), ⟨by have := HKQ2.out; omega⟩, ⟨?_⟩, ⟨other_set (other_set HW4.out (Nat.ne_of_lt HWV.out)) (Nat.ne_of_lt HWV.out)⟩, ⟨other_set (other_set HK4.out (Nat.ne_of_lt HKV.out)) (Nat.ne_of_lt HKV.out)⟩, ⟨below_set (below_set HB4.out HGEV.out) HGEV.out⟩⟩
       have e1 : ((d : Int) + (T1 : Int)) % 4294967296 = (((d + T1) % 4294967296 : Nat) : Int) := by omega
       have e2 : ((T1 : Int) + (T2 : Int)) % 4294967296 = (((T1 + T2) % 4294967296 : Nat) : Int) := by omega
       rw [e1, e2]
       have h1 := set0 HV4.out 4 ((d + T1) % 4294967296) (show 4 < 8 by decide)
       have h2 := set0 h1 0 ((T1 + T2) % 4294967296) (by simp)
       have er : rnds (sched (fun i => (rd p i).toNat) 64) (t + 1) [a0, a1, a2, a3, a4, a5, a6, a7] = [(T1 + T2) % 4294967296, a, b, c, (d + T1) % 4294967296, e5, f, g] := by
        show rnd (KS.getD t 0) ((sched _ 64).getD t 0) (rnds _ t _) = _
        rw [HRN.out, HKT.out, HWT.out]
        show [(t1N kt wt e5 f g h8 + t2N a b c) % 4294967296, a, b, c, (d + t1N kt wt e5 f g h8) % 4294967296, e5, f, g] = _
        rw [HT1.out, HT2.out]
       rw [er]
       exact h2
      case measure => have := HKQ2.out; omega
    ·obtain rfl : t = 64 := by omega
     have HL8 := rnds_len (sched (fun i => (rd p i).toNat) 64) [a0, a1, a2, a3, a4, a5, a6, a7] rfl 64
     have HS8 : [a0, a1, a2, a3, a4, a5, a6, a7].length = 8 := rfl
     generalize hR : rnds (sched (fun i => (rd p i).toNat) 64) 64 [a0, a1, a2, a3, a4, a5, a6, a7] = RN at HV1 HL8
     have HRR := Aside0.mk hR
     clear hR
     have HGS := Aside0.mk (blk_below HG.out HB1.out)
     have hgs := blk_lt HG.out
     have HGA := Aside0.mk (grown_of_below HB1.out (some gs))
     have hne : gs ≠ gv := by have := HGEV.out; omega
     generalize hS : [a0, a1, a2, a3, a4, a5, a6, a7] = ST at HGS HS8 HRR ⊢
     have HST8 := Aside0.mk hS
     clear hS HW1 HK1 HB1
     go_wp2
     go_loopg [172] 9 (fun kq v wr => ∃ i : Nat, i ≤ 8 ∧ v = .int .i64 i ∧ Aside0 (kq + i = 9) ∧ Aside0 (wr.heap[gs]? = some (.cells (v32 (LL ST RN i) ++ tl).toArray e (0, 0))) ∧ Aside0 (wr.heap[gv]? = some (.cells (v32 RN).toArray 93 (0, 0))) ∧ Aside0 (w.grownBy wr (some gs)))
     case atStart => exact ⟨0, by omega, rfl, ⟨rfl⟩, ⟨by have := HGS.out; simpa [LL] using this⟩, HV1, HGA⟩
     case round =>
      clear HGS HV1 HGA
      obtain ⟨i, hi, rfl, HKQ3, HGS1, HV2, HGA1⟩ := hrel
      obtain ⟨k2, rfl⟩ : ∃ k2, gk = k2 + 1 := ⟨gk - 1, by have := HKQ3.out; omega⟩
      have hw3 : wrap64 ((i : Int) + 1) = ((i + 1 : Nat) : Int) := by unfold wrap64; omega
      by_cases hlt3 : i < 8
      ·obtain ⟨sx, hsx⟩ : ∃ y, ST.getD i 0 = y := ⟨_, rfl⟩
       obtain ⟨rx, hrx⟩ : ∃ y, RN.getD i 0 = y := ⟨_, rfl⟩
       have d1 := get32 HGS1.out i (by rw [LL_len HS8 HL8 i hi]; exact hlt3)
       rw [LL_get HS8 HL8 i hlt3, hsx] at d1
       have d2 := get0 HV2.out i (by rw [HL8]; exact hlt3)
       rw [hrx] at d2
       have HSX := Aside0.mk hsx
       have HRX := Aside0.mk hrx
       clear hsx hrx
       go_wp2
       refine wp_region_still_tail 11 (by kernel_rfl) (by kernel_rfl) ?_
       simp only [List.take_succ_cons, List.take_zero, List.drop_succ_cons, List.drop_zero]
       repeat still_step
       try refine wpStill_nil ?_
       change wpList _ _ _ _ _ wr.drew
       have HGS2 := Aside0.mk (blk_drew HGS1.out)
       have HV3 := Aside0.mk (blk_drew HV2.out)
       have HGA2 := Aside0.mk (grown_drew HGA1.out)
       clear d1 d2 HGS1 HV2 HGA1
       generalize wr.drew = w2 at HGS2 HV3 HGA2 ⊢
       have c1 := get32 HGS2.out i (by rw [LL_len HS8 HL8 i hi]; exact hlt3)
       have f1 := blk_frozen HGS2.out i
       go_wp2
       go_roundg k2
       case rel =>
        refine ⟨i + 1, by omega, (by first | exact congrArg (Value.int IntKind.i64) hw3 | simp), ⟨by have := HKQ3.out; omega⟩, ⟨?_⟩, ⟨other_set HV3.out (Ne.symm hne)⟩, ⟨grown_set HGA2.out⟩⟩
        have e1 : ((sx : Int) + (rx : Int)) % 4294967296 = (((sx + rx) % 4294967296 : Nat) : Int) := by omega
        rw [e1]
        have h1 := set32_ HGS2.out i ((sx + rx) % 4294967296) (by rw [LL_len HS8 HL8 i hi]; exact hlt3)
        rw [← HSX.out, ← HRX.out, LL_set HS8 HL8 i hlt3] at h1
        rw [← HSX.out, ← HRX.out]
        exact h1
       case measure => have := HKQ3.out; omega
      ·obtain rfl : i = 8 := by omega
       go_wp2
       first | go_end0 | ((try simp only [Exit.inBlock, Exit.then]); refine bodyPost_ret (results_none rfl _ _ _) rfl ?_)
       refine ⟨rfl, ?_, HGA1.out⟩
       have := HGS1.out
       rw [LL_end HS8 HL8] at this
       show _ = some (Obj.cells (v32 (List.zipWith (fun x y => (x + y) % 4294967296) _ (rnds (sched (fun i => (rd p i).toNat) 64) 64 _)) ++ tl).toArray e (0, 0))
       rw [HST8.out, HRR.out]
       exact this
end Go.Proofs.Ytlnfiknllnonhaa.Sha
