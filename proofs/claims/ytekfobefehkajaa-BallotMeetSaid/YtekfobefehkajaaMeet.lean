/- Ballots: quorums meet in one that isn't faulty: the walk of the statement's own text. -/
import Derived.Test.YtekfobefehkajaaPBallotNamesx2
namespace Go.Proofs.Ytekfobefehkajaa.PBallotNames
open Go.RowKit Go.Proofs.YtekfobefehkajaaW.PrintWords Go.Proofs.YtekfobefehkajaaW.PrintLast Go.Proofs.YtekfobefehkajaaW.PrintMore
set_option linter.unusedVariables false
set_option linter.unusedSimpArgs false
def z32 : List Bool := List.replicate 32 false
def mark (n : Int) (i : Nat) (bl : List Bool) (l : List Int) : List Bool := l.foldl (fun bl r => if 0 ≤ r ∧ r < n then bl.set (16 * i + r.toNat) true else bl) bl
theorem mark_len (n : Int) (i : Nat) (l : List Int) : ∀ bl, (mark n i bl l).length = bl.length := by
  unfold mark
  induction l with
  | nil => intro bl; rfl
  | cons r l ih =>
    intro bl
    rw [List.foldl_cons, ih]
    split
    · exact List.length_set
    · rfl
theorem mark_snoc (n : Int) (i : Nat) (bl : List Bool) (l : List Int) (r : Int) : mark n i bl (l ++ [r]) = if 0 ≤ r ∧ r < n then (mark n i bl l).set (16 * i + r.toNat) true else mark n i bl l := by
  unfold mark
  rw [List.foldl_append]
  rfl
def stage (n : Int) (a b : List Int) : Nat → List Bool
  | 0 => z32
  | 1 => mark n 0 z32 a
  | _ => mark n 1 (mark n 0 z32 a) b
theorem set32 {W : World} {gb : Nat} (h : W.heap[gb]? = some (.cells #[.bool false, .bool false, .bool false, .bool false, .bool false, .bool false, .bool false, .bool false, .bool false, .bool false, .bool false, .bool false, .bool false, .bool false, .bool false, .bool false, .bool false, .bool false, .bool false, .bool false, .bool false, .bool false, .bool false, .bool false, .bool false, .bool false, .bool false, .bool false, .bool false, .bool false, .bool false, .bool false] 36 (0, 0))) : (W.setCells gb 0 [.bool false, .bool false, .bool false, .bool false, .bool false, .bool false, .bool false, .bool false, .bool false, .bool false, .bool false, .bool false, .bool false, .bool false, .bool false, .bool false, .bool false, .bool false, .bool false, .bool false, .bool false, .bool false, .bool false, .bool false, .bool false, .bool false, .bool false, .bool false, .bool false, .bool false, .bool false, .bool false]).heap[gb]? = some (.cells (z32.map Value.bool).toArray 36 (0, 0)) := by
  obtain ⟨cur, h1, h2, h3⟩ := setCells_row [.bool false, .bool false, .bool false, .bool false, .bool false, .bool false, .bool false, .bool false, .bool false, .bool false, .bool false, .bool false, .bool false, .bool false, .bool false, .bool false, .bool false, .bool false, .bool false, .bool false, .bool false, .bool false, .bool false, .bool false, .bool false, .bool false, .bool false, .bool false, .bool false, .bool false, .bool false, .bool false] 0 W _ h (by decide)
  rw [h1]
  have : cur = (z32.map Value.bool).toArray := by
    apply Array.toList_inj.1
    rw [h3]
    rfl
  rw [this]
theorem set2 {W : World} {gb : Nat} (h : W.heap[gb]? = some (.cells #[.int .i64 0, .int .i64 0] 38 (0, 0))) : (W.setCells gb 0 [.int .i64 0, .int .i64 0]).heap[gb]? = some (.cells #[.int .i64 0, .int .i64 0] 38 (0, 0)) := by
  obtain ⟨cur, h1, h2, h3⟩ := setCells_row [.int .i64 0, .int .i64 0] 0 W _ h (by decide)
  rw [h1]
  have : cur = #[.int .i64 0, .int .i64 0] := by
    apply Array.toList_inj.1
    rw [h3]
    rfl
  rw [this]
def c0 (bl : List Bool) (r : Nat) : Nat := (List.range r).countP (fun x => bl.getD x false)
def c1_ (bl : List Bool) (r : Nat) : Nat := (List.range r).countP (fun x => bl.getD (16 + x) false)
def cb (bl : List Bool) (r : Nat) : Nat := (List.range r).countP (fun x => bl.getD x false && bl.getD (16 + x) false)
theorem c_le (p : Nat → Bool) (r : Nat) : (List.range r).countP p ≤ r := by
  have := List.countP_le_length (p := p) (l := List.range r)
  simpa using this
theorem c0_s (bl : List Bool) (r : Nat) : c0 bl (r + 1) = c0 bl r + if bl.getD r false = true then 1 else 0 := by
  unfold c0; rw [List.range_succ, List.countP_append, List.countP_singleton]
theorem c1_s (bl : List Bool) (r : Nat) : c1_ bl (r + 1) = c1_ bl r + if bl.getD (16 + r) false = true then 1 else 0 := by
  unfold c1_; rw [List.range_succ, List.countP_append, List.countP_singleton]
theorem cb_s (bl : List Bool) (r : Nat) : cb bl (r + 1) = cb bl r + if (bl.getD r false && bl.getD (16 + r) false) = true then 1 else 0 := by
  unfold cb; rw [List.range_succ, List.countP_append, List.countP_singleton]
theorem below_cells {w W : World} {gb : Nat} (h : Below w.heap.size w W) (hg : w.heap.size ≤ gb) (o : Nat) (vs : List Value) : Below w.heap.size w (W.setCells gb o vs) := by
  obtain ⟨s1, s2, s3, s4⟩ := setCells_same gb vs o W
  exact h.trans ⟨s1, s2, s3, by rw [s4]; exact Nat.le_refl _, fun k hk => setCells_far vs o k (by omega)⟩
theorem set_bit {W : World} {gb : Nat} {bl : List Bool} (h : W.heap[gb]? = some (.cells (bl.map Value.bool).toArray 36 (0, 0))) (o : Nat) : (W.setCell ⟨gb, o, none⟩ (.bool true)).heap[gb]? = some (.cells ((bl.set o true).map Value.bool).toArray 36 (0, 0)) := by
  rw [blk_set h o (.bool true)]
  congr 2
  simp
theorem get_bit {W : World} {gb : Nat} {bl : List Bool} (h : W.heap[gb]? = some (.cells (bl.map Value.bool).toArray 36 (0, 0))) (o : Nat) (ho : o < bl.length) : W.cell? ⟨gb, o, none⟩ = some (.bool (bl.getD o false)) := by
  rw [blk_cell h o]
  simp [ho]
/-- A store of a whole value into a block of one's own. -/
theorem store_whole {P : Program} {ops : Array Oper} {rest : List Oper} {o : Oper} {a : Act} {Q : Exit → Act → World → Prop} {W : World} (hgd : o.guard = none) (hN : o.dst = none) (t : TypeId) (p x : Operand) (ho : o.op = .store t p x) {g off : Nat} {e : TypeId} {cur : Array Value} (u : Value) (seg : List Value)
    (haddr : a.eval p = .pointer (some ⟨g, off, none⟩)) (hx : a.eval x = u) (hh : W.heap[g]? = some (.cells cur e (0, 0))) (hu : u.cells.toList = seg) (ht : (P.info? t).map (·.size) = some seg.length) (hfit : off + seg.length ≤ cur.size) (h1 : ∀ q ∈ seg, q.oneCell' = true)
    (h : ∀ w1, w1 = W.setCells g off seg → wpList P ops Q rest a w1) : wpList P ops Q (o :: rest) a W := by
  have hrun := run_store_run (P := P) t u seg hh hu ht hfit h1
  refine wpList_plain hgd fun K hK => ?_
  unfold Oper.wp execOp
  simp only [ho, haddr, hx, Sem.run_bind, Sem.run_pure, Result.andThen_ok, hrun]
  show K (a.put o.dst undef) _
  rw [hN]
  exact hK a _ (h _ rfl)
set_option maxHeartbeats 8000000 in
set_option maxRecDepth 100000 in
theorem meet (k : Nat) (n : Int) (A1 A2 : Option Addr) (c1 c2 : Nat) (a b : List Int) (w : World) (hr1 : Kd.C (Kd.int .i64) w A1 a.length a) (hr2 : Kd.C (Kd.int .i64) w A2 b.length b) (hal : catenarylaw04_ballotAlive.f k = some true) (hR : ballot_Right.f n = some true) (q wk fa : Int) (hq : ballot_Quorum.f n = some q) (hwk : ballot_Weak.f n = some wk) (hfa : ballot_Faults.f n = some fa) (hf : (c0 (stage n a b 2) n.toNat : Int) < q ∨ (c1_ (stage n a b 2) n.toNat : Int) < q ∨ (wk ≤ (cb (stage n a b 2) n.toNat : Int) ∧ fa < (cb (stage n a b 2) n.toNat : Int))) (h4 : 4 ≤ n) (h16 : n ≤ 16) (hll : a.length < 9223372036854775807 ∧ b.length < 9223372036854775807) :
    Calls Try.prog 7 #[.int .i64 n, .slice A1 a.length c1, .slice A2 b.length c2] w fun e w' => e = .returned (.bool true) ∧ Below w.heap.size w w' := by
  have HA := Aside0.mk hal
  have HR := Aside0.mk hR
  have HC1 := Aside0.mk hr1
  have HC2 := Aside0.mk hr2
  have H16 := Aside0.mk h16
  have H4 := Aside0.mk h4
  have HQ := Aside0.mk hq
  have HWK := Aside0.mk hwk
  have HFA := Aside0.mk hfa
  have HF0 := Aside0.mk hf
  have HLL := Aside0.mk hll
  clear hal hR hr1 hr2 h4 h16 hll hq hwk hfa hf
  go_enter Try.func7, Try.ntmps7
  go_wp2_with (first | ((with_reducible refine gate_callee (f := 11) rfl ?_); refine goesL_ (some 16) rfl rfl Try.func11 (by kernel_rfl) rfl #[] rfl (by (try simp only [List.map_toArray, List.map_cons, List.map_nil]); first | done | rfl | (simp only [List.length_drop, List.length_take]; rfl)) ?_; (with_reducible refine (catenarylaw04_ballotAlive.calls k true _ HA.out).mono ?_); rintro e w1 ⟨rfl, hb⟩; refine ⟨_, rfl, ?_⟩; have HB := Aside0.mk hb; clear hb) | ((with_reducible refine gate_callee (f := 19) rfl ?_); refine goesL_ (some 19) rfl rfl Try.func19 (by kernel_rfl) rfl #[.int .i64 n] rfl (by (try simp only [List.map_toArray, List.map_cons, List.map_nil]); first | done | rfl) ?_; (with_reducible refine (ballot_Right.calls n true _ HR.out).mono ?_); rintro e w2 ⟨rfl, ⟨nd2, rfl⟩⟩; refine ⟨_, rfl, ?_⟩) | ((with_reducible refine gate_dst (N := 7) rfl ?_); refine box_event ?hg (N := 7) ?hd (cs := #[.bool false, .bool false, .bool false, .bool false, .bool false, .bool false, .bool false, .bool false, .bool false, .bool false, .bool false, .bool false, .bool false, .bool false, .bool false, .bool false, .bool false, .bool false, .bool false, .bool false, .bool false, .bool false, .bool false, .bool false, .bool false, .bool false, .bool false, .bool false, .bool false, .bool false, .bool false, .bool false]) (t := 36) ?hr ?_; (case hd => rfl); (case hg => rfl); (case hr => first | (go_simp; done) | (go_simp; rfl)); intro gb hgb w3 hbox hb3; have HB3 := Aside0.mk (below_step (by repeat (first | exact HB.out | apply pw_below_drewN | apply below_drew1)) hb3); have HB0 := HB; clear HB hb3; have HB := HB3; have HG := Aside0.mk hbox; have HGE := Aside0.mk (show w.heap.size ≤ gb from hgb ▸ below_size (by repeat (first | exact HB0.out | apply pw_below_drewN | apply below_drew1))); clear hbox HB3 hgb) | ((with_reducible refine gate_store (p := 7) rfl ?_); refine store_whole rfl rfl 36 (.tmp 7) (.tmp 21) rfl (.agg #[.bool false, .bool false, .bool false, .bool false, .bool false, .bool false, .bool false, .bool false, .bool false, .bool false, .bool false, .bool false, .bool false, .bool false, .bool false, .bool false, .bool false, .bool false, .bool false, .bool false, .bool false, .bool false, .bool false, .bool false, .bool false, .bool false, .bool false, .bool false, .bool false, .bool false, .bool false, .bool false]) [.bool false, .bool false, .bool false, .bool false, .bool false, .bool false, .bool false, .bool false, .bool false, .bool false, .bool false, .bool false, .bool false, .bool false, .bool false, .bool false, .bool false, .bool false, .bool false, .bool false, .bool false, .bool false, .bool false, .bool false, .bool false, .bool false, .bool false, .bool false, .bool false, .bool false, .bool false, .bool false] rfl rfl HG.out rfl (by kernel_rfl) (by decide) (by intro q hq; simp at hq; subst hq; rfl) ?_; intro w4 hw4; have hl4 := set32 HG.out; have n0_ := Aside0.mk (hw4 ▸ hl4); have n1_ := Aside0.mk (hw4 ▸ below_cells (by repeat (first | exact HB.out | apply pw_below_drewN | apply below_drew1)) HGE.out 0 _); clear hw4 hl4 HG HB; have HG := n0_; have HB := n1_; clear n0_ n1_))
  have HL : Aside0 (a.length < 9223372036854775807 ∧ b.length < 9223372036854775807) := HLL
  go_loopg [25] 3 (fun kq v wr => ∃ i : Nat, i ≤ 2 ∧ v = .int .i64 i ∧ Aside0 (kq + i = 3) ∧ Aside0 (wr.heap[gb]? = some (.cells ((stage n a b i).map Value.bool).toArray 36 (0, 0))) ∧ Aside0 (Below w.heap.size w wr))
  case atStart => exact ⟨0, by omega, rfl, ⟨rfl⟩, HG, HB⟩
  case round =>
    obtain ⟨i, hi, rfl, HK, HG1, HB1⟩ := hrel
    obtain ⟨k1, rfl⟩ : ∃ k1, gk = k1 + 1 := ⟨gk - 1, by have := HK.out; omega⟩
    clear HG HB
    rcases (show i = 0 ∨ i = 1 ∨ i = 2 by omega) with rfl | rfl | rfl
    ·
      have hix : ∀ W : World, Sem.run Try.prog (Instr.index 37 (.agg #[.slice A1 a.length c1, .slice A2 b.length c2]) (.int .i64 0)) W = .ok (.slice A1 a.length c1) W := fun W => by kernel_rfl
      go_wp2
      go_loopg [31] (a.length + 1) (fun kq v wr => ∃ j : Nat, j ≤ a.length ∧ v = .int .i64 j ∧ Aside0 (kq + j = a.length + 1) ∧ Aside0 (wr.heap[gb]? = some (.cells ((mark n 0 (stage n a b 0) (a.take j)).map Value.bool).toArray 36 (0, 0))) ∧ Aside0 (Below w.heap.size w wr))
      case atStart => exact ⟨0, Nat.zero_le _, rfl, ⟨rfl⟩, ⟨by (first | exact HG1.out | simpa [mark] using HG1.out)⟩, ⟨by repeat (first | exact HB1.out | apply pw_below_drewN | apply below_drew1)⟩⟩
      case round =>
        obtain ⟨j, hj, rfl, HK2, HG2, HB2⟩ := hrel
        obtain ⟨k2, rfl⟩ : ∃ k2, gk = k2 + 1 := ⟨gk - 1, by have := HK2.out; omega⟩
        clear HG1 HB1
        have hw : wrap64 ((j : Int) + 1) = ((j + 1 : Nat) : Int) := by have := HL.out.1; unfold wrap64; omega
        by_cases hlt : j < a.length
        · obtain ⟨ad, eA, hx⟩ := Kd.at_int (Kd.C_below HC1.out HB2.out) (j : Int) (by omega) (by omega)
          cases eA
          rw [Int.toNat_natCast] at hx
          have htk : a.take (j + 1) = a.take j ++ [rd a (j : Int)] := by rw [List.take_succ_eq_append_getElem hlt]; unfold rd; simp [hlt]
          have HT := Aside0.mk htk
          clear htk
          generalize rd a (j : Int) = r at hx HT
          by_cases h0 : 0 ≤ r
          · by_cases h1 : r < n
            · have h16 : r < 16 := by have := H16.out; omega
              have d0 : decide (0 ≤ r) = true := decide_eq_true h0
              have d1 : decide (r < n) = true := decide_eq_true h1
              have ml : (mark n 0 (stage n a b 0) (a.take j)).length = 32 := by rw [mark_len]; first | rfl | (show (mark _ _ _ _).length = 32; rw [mark_len]; rfl)
              have hc := get_bit HG2.out (r.toNat) (by rw [ml]; omega)
              have hf := blk_frozen HG2.out (r.toNat)
              go_wp2
              go_roundg k2
              case rel => exact ⟨j + 1, hlt, (by first | exact congrArg (Value.int IntKind.i64) hw | simp), ⟨by have := HK2.out; omega⟩, ⟨by rw [HT.out, mark_snoc, if_pos ⟨by omega, by omega⟩]; have h := set_bit HG2.out (r.toNat); first | exact h | (simp at h ⊢; exact h)⟩, ⟨by repeat (first | exact HB2.out | apply pw_below_drewN | apply below_drew1 | refine below_set ?_ HGE.out)⟩⟩
              case measure => have := HK2.out; omega
            · have d0 : decide (0 ≤ r) = true := decide_eq_true h0
              have d1 : decide (r < n) = false := decide_eq_false h1
              go_wp2
              go_roundg k2
              case rel => exact ⟨j + 1, hlt, (by first | exact congrArg (Value.int IntKind.i64) hw | simp), ⟨by have := HK2.out; omega⟩, ⟨by rw [HT.out, mark_snoc, if_neg (fun h => by omega)]; exact HG2.out⟩, ⟨by repeat (first | exact HB2.out | apply pw_below_drewN | apply below_drew1)⟩⟩
              case measure => have := HK2.out; omega
          · have d0 : decide (0 ≤ r) = false := decide_eq_false h0
            go_wp2
            go_roundg k2
            case rel => exact ⟨j + 1, hlt, (by first | exact congrArg (Value.int IntKind.i64) hw | simp), ⟨by have := HK2.out; omega⟩, ⟨by rw [HT.out, mark_snoc, if_neg (fun h => by omega)]; exact HG2.out⟩, ⟨by repeat (first | exact HB2.out | apply pw_below_drewN | apply below_drew1)⟩⟩
            case measure => have := HK2.out; omega
        · obtain rfl : j = a.length := by omega
          go_wp2
          go_roundg k1
          case rel => exact ⟨0 + 1, by omega, (by first | rfl | exact congrArg (Value.int IntKind.i64) (by kernel_rfl)), ⟨by have := HK.out; omega⟩, ⟨by have h := HG2.out; rw [List.take_length] at h; exact h⟩, ⟨by repeat (first | exact HB2.out | apply pw_below_drewN | apply below_drew1)⟩⟩
          case measure => have := HK.out; omega
    ·
      have hix : ∀ W : World, Sem.run Try.prog (Instr.index 37 (.agg #[.slice A1 a.length c1, .slice A2 b.length c2]) (.int .i64 1)) W = .ok (.slice A2 b.length c2) W := fun W => by kernel_rfl
      go_wp2
      go_loopg [31] (b.length + 1) (fun kq v wr => ∃ j : Nat, j ≤ b.length ∧ v = .int .i64 j ∧ Aside0 (kq + j = b.length + 1) ∧ Aside0 (wr.heap[gb]? = some (.cells ((mark n 1 (stage n a b 1) (b.take j)).map Value.bool).toArray 36 (0, 0))) ∧ Aside0 (Below w.heap.size w wr))
      case atStart => exact ⟨0, Nat.zero_le _, rfl, ⟨rfl⟩, ⟨by (first | exact HG1.out | simpa [mark] using HG1.out)⟩, ⟨by repeat (first | exact HB1.out | apply pw_below_drewN | apply below_drew1)⟩⟩
      case round =>
        obtain ⟨j, hj, rfl, HK2, HG2, HB2⟩ := hrel
        obtain ⟨k2, rfl⟩ : ∃ k2, gk = k2 + 1 := ⟨gk - 1, by have := HK2.out; omega⟩
        clear HG1 HB1
        have hw : wrap64 ((j : Int) + 1) = ((j + 1 : Nat) : Int) := by have := HL.out.2; unfold wrap64; omega
        by_cases hlt : j < b.length
        · obtain ⟨ad, eA, hx⟩ := Kd.at_int (Kd.C_below HC2.out HB2.out) (j : Int) (by omega) (by omega)
          cases eA
          rw [Int.toNat_natCast] at hx
          have htk : b.take (j + 1) = b.take j ++ [rd b (j : Int)] := by rw [List.take_succ_eq_append_getElem hlt]; unfold rd; simp [hlt]
          have HT := Aside0.mk htk
          clear htk
          generalize rd b (j : Int) = r at hx HT
          by_cases h0 : 0 ≤ r
          · by_cases h1 : r < n
            · have h16 : r < 16 := by have := H16.out; omega
              have d0 : decide (0 ≤ r) = true := decide_eq_true h0
              have d1 : decide (r < n) = true := decide_eq_true h1
              have ml : (mark n 1 (stage n a b 1) (b.take j)).length = 32 := by rw [mark_len]; first | rfl | (show (mark _ _ _ _).length = 32; rw [mark_len]; rfl)
              have hc := get_bit HG2.out (16 + r.toNat) (by rw [ml]; omega)
              have hf := blk_frozen HG2.out (16 + r.toNat)
              go_wp2
              go_roundg k2
              case rel => exact ⟨j + 1, hlt, (by first | exact congrArg (Value.int IntKind.i64) hw | simp), ⟨by have := HK2.out; omega⟩, ⟨by rw [HT.out, mark_snoc, if_pos ⟨by omega, by omega⟩]; have h := set_bit HG2.out (16 + r.toNat); first | exact h | (simp at h ⊢; exact h)⟩, ⟨by repeat (first | exact HB2.out | apply pw_below_drewN | apply below_drew1 | refine below_set ?_ HGE.out)⟩⟩
              case measure => have := HK2.out; omega
            · have d0 : decide (0 ≤ r) = true := decide_eq_true h0
              have d1 : decide (r < n) = false := decide_eq_false h1
              go_wp2
              go_roundg k2
              case rel => exact ⟨j + 1, hlt, (by first | exact congrArg (Value.int IntKind.i64) hw | simp), ⟨by have := HK2.out; omega⟩, ⟨by rw [HT.out, mark_snoc, if_neg (fun h => by omega)]; exact HG2.out⟩, ⟨by repeat (first | exact HB2.out | apply pw_below_drewN | apply below_drew1)⟩⟩
              case measure => have := HK2.out; omega
          · have d0 : decide (0 ≤ r) = false := decide_eq_false h0
            go_wp2
            go_roundg k2
            case rel => exact ⟨j + 1, hlt, (by first | exact congrArg (Value.int IntKind.i64) hw | simp), ⟨by have := HK2.out; omega⟩, ⟨by rw [HT.out, mark_snoc, if_neg (fun h => by omega)]; exact HG2.out⟩, ⟨by repeat (first | exact HB2.out | apply pw_below_drewN | apply below_drew1)⟩⟩
            case measure => have := HK2.out; omega
        · obtain rfl : j = b.length := by omega
          go_wp2
          go_roundg k1
          case rel => exact ⟨1 + 1, by omega, (by first | rfl | exact congrArg (Value.int IntKind.i64) (by kernel_rfl)), ⟨by have := HK.out; omega⟩, ⟨by have h := HG2.out; rw [List.take_length] at h; exact h⟩, ⟨by repeat (first | exact HB2.out | apply pw_below_drewN | apply below_drew1)⟩⟩
          case measure => have := HK.out; omega
    · go_wp2
      have hgc0 : (wr.alloc (.cells #[.int .i64 0, .int .i64 0] 38)).heap[wr.heap.size]? = some (.cells #[.int .i64 0, .int .i64 0] 38 (0, 0)) := blk_new wr _
      have hne0 : gb < wr.heap.size := blk_lt HG1.out
      have hge0 : w.heap.size ≤ wr.heap.size := HB1.out.size
      have hb0 : Below w.heap.size w (wr.alloc (.cells #[.int .i64 0, .int .i64 0] 38)) := HB1.out.alloc hge0 _
      have hg0 : (wr.alloc (.cells #[.int .i64 0, .int .i64 0] 38)).heap[gb]? = some (.cells ((stage n a b 2).map Value.bool).toArray 36 (0, 0)) := (Below.heap_alloc wr _ gb hne0).trans HG1.out
      generalize wr.alloc (.cells #[.int .i64 0, .int .i64 0] 38) = W5 at *
      generalize wr.heap.size = gc at *
      have sl : (stage n a b 2).length = 32 := by show (mark _ _ (mark _ _ _ _) _).length = 32; rw [mark_len, mark_len]; rfl
      have hf' := HF0.out
      clear HF0
      generalize stage n a b 2 = bl at *
      have HF := Aside0.mk hf'
      clear hf'
      have HGC := Aside0.mk hgc0
      have HG2 := Aside0.mk hg0
      have HB2 := Aside0.mk hb0
      have HNE := Aside0.mk hne0
      have HGE2 := Aside0.mk hge0
      have HSL := Aside0.mk sl
      clear hgc0 hg0 hb0 hne0 hge0 sl HG1 HB1
      go_loopg [13, 14] (n.toNat + 1) (fun kq v13 v14 w' => ∃ r : Nat, (r : Int) ≤ n ∧ v13 = .int .i64 (cb bl r : Nat) ∧ v14 = .int .i64 r ∧ Aside0 (kq + r = n.toNat + 1) ∧ Aside0 (w'.heap[gc]? = some (.cells #[.int .i64 (c0 bl r : Nat), .int .i64 (c1_ bl r : Nat)] 38 (0, 0))) ∧ Aside0 (w'.heap[gb]? = some (.cells (bl.map Value.bool).toArray 36 (0, 0))) ∧ Aside0 (Below w.heap.size w w'))
      case atStart => exact ⟨0, by have := H4.out; omega, rfl, rfl, ⟨rfl⟩, HGC, HG2, HB2⟩
      case round =>
        obtain ⟨r, hr, rfl, rfl, HK3, HGC3, HG3, HB3⟩ := hrel
        obtain ⟨k3, rfl⟩ : ∃ k3, gk = k3 + 1 := ⟨gk - 1, by have := HK3.out; have := H4.out; omega⟩
        clear HGC HG2 HB2
        by_cases hlt : (r : Int) < n
        · trace "ROUND"
          have h16 : (r : Int) < 16 := by have := H16.out; omega
          have b0 := get_bit HG3.out r (by rw [HSL.out]; omega)
          have b1 := get_bit HG3.out (16 + r) (by rw [HSL.out]; omega)
          have l0 : wr.cell? ⟨gc, 0, none⟩ = some (.int .i64 (c0 bl r : Nat)) := (blk_cell HGC3.out 0).trans rfl
          have l1 : wr.cell? ⟨gc, 1, none⟩ = some (.int .i64 (c1_ bl r : Nat)) := (blk_cell HGC3.out 1).trans rfl
          have z0 := blk_frozen HGC3.out 0
          have z1 := blk_frozen HGC3.out 1
          have l1u : ∀ u, (wr.setCell ⟨gc, 0, none⟩ u).cell? ⟨gc, 1, none⟩ = some (.int .i64 (c1_ bl r : Nat)) := fun u => (blk_cell (blk_set HGC3.out 0 u) 1).trans rfl
          have z1u : ∀ u, (wr.setCell ⟨gc, 0, none⟩ u).frozen? ⟨gc, 1, none⟩ = false := fun u => blk_frozen (blk_set HGC3.out 0 u) 1
          have HNE2 := Aside0.mk (show gb ≠ gc from Nat.ne_of_lt HNE.out)
          have f0 : ∀ o' u, (wr.setCell ⟨gc, o', none⟩ u).cell? ⟨gb, r, none⟩ = some (.bool (bl.getD r false)) := fun o' u => get_bit (blk_far HG3.out (p := ⟨gc, o', none⟩) HNE2.out u) r (by rw [HSL.out]; omega)
          have f1 : ∀ o' u, (wr.setCell ⟨gc, o', none⟩ u).cell? ⟨gb, 16 + r, none⟩ = some (.bool (bl.getD (16 + r) false)) := fun o' u => get_bit (blk_far HG3.out (p := ⟨gc, o', none⟩) HNE2.out u) (16 + r) (by rw [HSL.out]; omega)
          have g0 : ∀ o1 u1 o' u, ((wr.setCell ⟨gc, o1, none⟩ u1).setCell ⟨gc, o', none⟩ u).cell? ⟨gb, r, none⟩ = some (.bool (bl.getD r false)) := fun o1 u1 o' u => get_bit (blk_far (blk_far HG3.out (p := ⟨gc, o1, none⟩) HNE2.out u1) (p := ⟨gc, o', none⟩) HNE2.out u) r (by rw [HSL.out]; omega)
          have g1 : ∀ o1 u1 o' u, ((wr.setCell ⟨gc, o1, none⟩ u1).setCell ⟨gc, o', none⟩ u).cell? ⟨gb, 16 + r, none⟩ = some (.bool (bl.getD (16 + r) false)) := fun o1 u1 o' u => get_bit (blk_far (blk_far HG3.out (p := ⟨gc, o1, none⟩) HNE2.out u1) (p := ⟨gc, o', none⟩) HNE2.out u) (16 + r) (by rw [HSL.out]; omega)
          have p0 : bl.getD r false = bl.getD r false := rfl
          have p1 : bl.getD (16 + r) false = bl.getD (16 + r) false := rfl
          have m0 : c0 bl r ≤ r := c_le _ r
          have m1 : c1_ bl r ≤ r := c_le _ r
          have m2 : cb bl r ≤ r := c_le _ r
          have w0 : wrap64 ((c0 bl r : Int) + 1) = (c0 bl r : Int) + 1 := by unfold wrap64; omega
          have w1 : wrap64 ((c1_ bl r : Int) + 1) = (c1_ bl r : Int) + 1 := by unfold wrap64; omega
          have w2 : wrap64 ((cb bl r : Int) + 1) = (cb bl r : Int) + 1 := by unfold wrap64; omega
          have w3 : wrap64 ((r : Int) + 1) = (r : Int) + 1 := by unfold wrap64; omega
          cases e0 : bl.getD r false <;> cases e1 : bl.getD (16 + r) false
          · rw [e0] at b0 f0 g0 p0
            rw [e1] at b1 f1 g1 p1
            go_wp2
            go_roundg k3
            case rel => exact ⟨r + 1, by omega, (by rw [cb_s, e0, e1]; simp), (by simp), ⟨by have := HK3.out; omega⟩, ⟨by rw [c0_s, c1_s, e0, e1]; refine (HGC3.out).trans ?_; simp⟩, ⟨HG3.out⟩, ⟨by repeat (first | exact HB3.out | apply pw_below_drewN | apply below_drew1 | refine below_set ?_ HGE2.out)⟩⟩
            case measure => have := HK3.out; omega
          · rw [e0] at b0 f0 g0 p0
            rw [e1] at b1 f1 g1 p1
            go_wp2
            go_roundg k3
            case rel => exact ⟨r + 1, by omega, (by rw [cb_s, e0, e1]; simp), (by simp), ⟨by have := HK3.out; omega⟩, ⟨by rw [c0_s, c1_s, e0, e1]; refine ((blk_set HGC3.out 1 _)).trans ?_; simp⟩, ⟨(blk_far HG3.out HNE2.out _)⟩, ⟨by repeat (first | exact HB3.out | apply pw_below_drewN | apply below_drew1 | refine below_set ?_ HGE2.out)⟩⟩
            case measure => have := HK3.out; omega
          · rw [e0] at b0 f0 g0 p0
            rw [e1] at b1 f1 g1 p1
            go_wp2
            go_roundg k3
            case rel => exact ⟨r + 1, by omega, (by rw [cb_s, e0, e1]; simp), (by simp), ⟨by have := HK3.out; omega⟩, ⟨by rw [c0_s, c1_s, e0, e1]; refine ((blk_set HGC3.out 0 _)).trans ?_; simp⟩, ⟨(blk_far HG3.out HNE2.out _)⟩, ⟨by repeat (first | exact HB3.out | apply pw_below_drewN | apply below_drew1 | refine below_set ?_ HGE2.out)⟩⟩
            case measure => have := HK3.out; omega
          · rw [e0] at b0 f0 g0 p0
            rw [e1] at b1 f1 g1 p1
            go_wp2
            go_roundg k3
            case rel => exact ⟨r + 1, by omega, (by rw [cb_s, e0, e1]; simp), (by simp), ⟨by have := HK3.out; omega⟩, ⟨by rw [c0_s, c1_s, e0, e1]; refine ((blk_set (blk_set HGC3.out 0 _) 1 _)).trans ?_; simp⟩, ⟨(blk_far (blk_far HG3.out HNE2.out _) HNE2.out _)⟩, ⟨by repeat (first | exact HB3.out | apply pw_below_drewN | apply below_drew1 | refine below_set ?_ HGE2.out)⟩⟩
            case measure => have := HK3.out; omega
        · obtain rfl : r = n.toNat := by omega
          have hf := HF.out
          generalize n.toNat = r at *
          have l0 : ∀ nd, (wr.drewN nd).cell? ⟨gc, 0, none⟩ = some (.int .i64 (c0 bl r : Nat)) := fun nd => (blk_cell HGC3.out 0).trans rfl
          have l1 : ∀ nd, (wr.drewN nd).cell? ⟨gc, 1, none⟩ = some (.int .i64 (c1_ bl r : Nat)) := fun nd => (blk_cell HGC3.out 1).trans rfl
          have l0' : wr.cell? ⟨gc, 0, none⟩ = some (.int .i64 (c0 bl r : Nat)) := (blk_cell HGC3.out 0).trans rfl
          have l1' : wr.cell? ⟨gc, 1, none⟩ = some (.int .i64 (c1_ bl r : Nat)) := (blk_cell HGC3.out 1).trans rfl
          by_cases f0 : (c0 bl r : Int) < q
          · have d0 : decide ((c0 bl r : Int) < q) = true := decide_eq_true f0
            go_wp2_with (first | ((with_reducible refine gate_callee (f := 16) rfl ?_); refine goesL_ (some 83) rfl rfl Try.func16 (by kernel_rfl) rfl #[.int .i64 n] rfl (by (try simp only [List.map_toArray, List.map_cons, List.map_nil]); first | done | rfl) ?_; (with_reducible refine (ballot_Quorum.calls n q _ HQ.out).mono ?_); rintro e w' ⟨rfl, ⟨nd, rfl⟩⟩; refine ⟨_, rfl, ?_⟩) | ((with_reducible refine gate_callee (f := 23) rfl ?_); refine goesL_ (some 97) rfl rfl Try.func23 (by kernel_rfl) rfl #[.int .i64 n] rfl (by (try simp only [List.map_toArray, List.map_cons, List.map_nil]); first | done | rfl) ?_; (with_reducible refine (ballot_Weak.calls n wk _ HWK.out).mono ?_); rintro e w' ⟨rfl, ⟨nd, rfl⟩⟩; refine ⟨_, rfl, ?_⟩) | ((with_reducible refine gate_callee (f := 18) rfl ?_); refine goesL_ (some 102) rfl rfl Try.func18 (by kernel_rfl) rfl #[.int .i64 n] rfl (by (try simp only [List.map_toArray, List.map_cons, List.map_nil]); first | done | rfl) ?_; (with_reducible refine (ballot_Faults.calls n fa _ HFA.out).mono ?_); rintro e w' ⟨rfl, ⟨nd, rfl⟩⟩; refine ⟨_, rfl, ?_⟩))
            go_ret
            exact ⟨rfl, by repeat (first | exact HB3.out | apply pw_below_drewN | apply below_drew1)⟩
          have d0 : decide ((c0 bl r : Int) < q) = false := decide_eq_false f0
          by_cases f1 : (c1_ bl r : Int) < q
          · have d1 : decide ((c1_ bl r : Int) < q) = true := decide_eq_true f1
            go_wp2_with (first | ((with_reducible refine gate_callee (f := 16) rfl ?_); refine goesL_ (some 83) rfl rfl Try.func16 (by kernel_rfl) rfl #[.int .i64 n] rfl (by (try simp only [List.map_toArray, List.map_cons, List.map_nil]); first | done | rfl) ?_; (with_reducible refine (ballot_Quorum.calls n q _ HQ.out).mono ?_); rintro e w' ⟨rfl, ⟨nd, rfl⟩⟩; refine ⟨_, rfl, ?_⟩) | ((with_reducible refine gate_callee (f := 23) rfl ?_); refine goesL_ (some 97) rfl rfl Try.func23 (by kernel_rfl) rfl #[.int .i64 n] rfl (by (try simp only [List.map_toArray, List.map_cons, List.map_nil]); first | done | rfl) ?_; (with_reducible refine (ballot_Weak.calls n wk _ HWK.out).mono ?_); rintro e w' ⟨rfl, ⟨nd, rfl⟩⟩; refine ⟨_, rfl, ?_⟩) | ((with_reducible refine gate_callee (f := 18) rfl ?_); refine goesL_ (some 102) rfl rfl Try.func18 (by kernel_rfl) rfl #[.int .i64 n] rfl (by (try simp only [List.map_toArray, List.map_cons, List.map_nil]); first | done | rfl) ?_; (with_reducible refine (ballot_Faults.calls n fa _ HFA.out).mono ?_); rintro e w' ⟨rfl, ⟨nd, rfl⟩⟩; refine ⟨_, rfl, ?_⟩))
            go_ret
            exact ⟨rfl, by repeat (first | exact HB3.out | apply pw_below_drewN | apply below_drew1)⟩
          have d1 : decide ((c1_ bl r : Int) < q) = false := decide_eq_false f1
          · have f2 : wk ≤ (cb bl r : Int) ∧ fa < (cb bl r : Int) := by rcases hf with h | h | h; exact absurd h f0; exact absurd h f1; exact h
            have d2 : decide (wk ≤ (cb bl r : Int)) = true := decide_eq_true f2.1
            have d3 : decide (fa < (cb bl r : Int)) = true := decide_eq_true f2.2
            go_wp2_with (first | ((with_reducible refine gate_callee (f := 16) rfl ?_); refine goesL_ (some 83) rfl rfl Try.func16 (by kernel_rfl) rfl #[.int .i64 n] rfl (by (try simp only [List.map_toArray, List.map_cons, List.map_nil]); first | done | rfl) ?_; (with_reducible refine (ballot_Quorum.calls n q _ HQ.out).mono ?_); rintro e w' ⟨rfl, ⟨nd, rfl⟩⟩; refine ⟨_, rfl, ?_⟩) | ((with_reducible refine gate_callee (f := 23) rfl ?_); refine goesL_ (some 97) rfl rfl Try.func23 (by kernel_rfl) rfl #[.int .i64 n] rfl (by (try simp only [List.map_toArray, List.map_cons, List.map_nil]); first | done | rfl) ?_; (with_reducible refine (ballot_Weak.calls n wk _ HWK.out).mono ?_); rintro e w' ⟨rfl, ⟨nd, rfl⟩⟩; refine ⟨_, rfl, ?_⟩) | ((with_reducible refine gate_callee (f := 18) rfl ?_); refine goesL_ (some 102) rfl rfl Try.func18 (by kernel_rfl) rfl #[.int .i64 n] rfl (by (try simp only [List.map_toArray, List.map_cons, List.map_nil]); first | done | rfl) ?_; (with_reducible refine (ballot_Faults.calls n fa _ HFA.out).mono ?_); rintro e w' ⟨rfl, ⟨nd, rfl⟩⟩; refine ⟨_, rfl, ?_⟩))
            refine (ballot_Weak.calls n wk _ HWK.out).mono ?_
            rintro e w' ⟨rfl, ⟨nd1, rfl⟩⟩
            go_wp2_with (go_at_call 18; refine (ballot_Faults.calls n fa _ HFA.out).mono ?_; rintro e w' ⟨rfl, ⟨nd2, rfl⟩⟩)
            go_ret
            exact ⟨rfl, by repeat (first | exact HB3.out | apply pw_below_drewN | apply below_drew1)⟩
theorem incl (bl : List Bool) : ∀ r : Nat, c0 bl r + c1_ bl r ≤ r + cb bl r
  | 0 => by simp [c0, c1_, cb]
  | r + 1 => by
    have ih := incl bl r
    rw [c0_s, c1_s, cb_s]
    cases bl.getD r false <;> cases bl.getD (16 + r) false <;> simp <;> omega
set_option maxHeartbeats 8000000 in
set_option maxRecDepth 100000 in
theorem meet_no (k : Nat) (n : Int) (A1 A2 : Option Addr) (c1 c2 : Nat) (a b : List Int) (w : World) (hal : catenarylaw04_ballotAlive.f k = some true) (hR : ballot_Right.f n = some false) :
    Calls Try.prog 7 #[.int .i64 n, .slice A1 a.length c1, .slice A2 b.length c2] w fun e w' => e = .returned (.bool true) ∧ Below w.heap.size w w' := by
  have HA := Aside0.mk hal
  have HR := Aside0.mk hR
  clear hal hR
  go_enter Try.func7, Try.ntmps7
  go_wp2_with (first | ((with_reducible refine gate_callee (f := 11) rfl ?_); refine goesL_ (some 16) rfl rfl Try.func11 (by kernel_rfl) rfl #[] rfl (by (try simp only [List.map_toArray, List.map_cons, List.map_nil]); first | done | rfl | (simp only [List.length_drop, List.length_take]; rfl)) ?_; (with_reducible refine (catenarylaw04_ballotAlive.calls k true _ HA.out).mono ?_); rintro e w1 ⟨rfl, hb⟩; refine ⟨_, rfl, ?_⟩; have HB := Aside0.mk hb; clear hb) | ((with_reducible refine gate_callee (f := 19) rfl ?_); refine goesL_ (some 19) rfl rfl Try.func19 (by kernel_rfl) rfl #[.int .i64 n] rfl (by (try simp only [List.map_toArray, List.map_cons, List.map_nil]); first | done | rfl) ?_; (with_reducible refine (ballot_Right.calls n false _ HR.out).mono ?_); rintro e w2 ⟨rfl, ⟨nd2, rfl⟩⟩; refine ⟨_, rfl, ?_⟩))
  go_ret
  exact ⟨rfl, by repeat (first | exact HB.out | apply pw_below_drewN | apply below_drew1)⟩
/-- Any two quorums meet in one that isn't faulty. -/
theorem meets (n : Int) (A1 A2 : Option Addr) (c1 c2 : Nat) (a b : List Int) (w : World) (k : Nat) (hal : catenarylaw04_ballotAlive.f k = some true) (hr1 : Kd.C (Kd.int .i64) w A1 a.length a) (hr2 : Kd.C (Kd.int .i64) w A2 b.length b) (hll : a.length < 9223372036854775807 ∧ b.length < 9223372036854775807) :
    Calls Try.prog 7 #[.int .i64 n, .slice A1 a.length c1, .slice A2 b.length c2] w fun e w' => e = .returned (.bool true) ∧ Below w.heap.size w w' := by
  have hq : ∀ r : Nat, (n = 4 ∧ r = 4 ∨ n = 7 ∧ r = 7 ∨ n = 10 ∧ r = 10 ∨ n = 13 ∧ r = 13 ∨ n = 16 ∧ r = 16) → ballot_Right.f n = some true ∧ ∃ f : Nat, ballot_Quorum.f n = some (2 * f + 1 : Nat) ∧ ballot_Weak.f n = some (f + 1 : Nat) ∧ ballot_Faults.f n = some (f : Nat) ∧ r = 3 * f + 1 := by
    intro r h
    rcases h with ⟨rfl, rfl⟩ | ⟨rfl, rfl⟩ | ⟨rfl, rfl⟩ | ⟨rfl, rfl⟩ | ⟨rfl, rfl⟩
    · exact ⟨by kernel_rfl, 1, by kernel_rfl, by kernel_rfl, by kernel_rfl, rfl⟩
    · exact ⟨by kernel_rfl, 2, by kernel_rfl, by kernel_rfl, by kernel_rfl, rfl⟩
    · exact ⟨by kernel_rfl, 3, by kernel_rfl, by kernel_rfl, by kernel_rfl, rfl⟩
    · exact ⟨by kernel_rfl, 4, by kernel_rfl, by kernel_rfl, by kernel_rfl, rfl⟩
    · exact ⟨by kernel_rfl, 5, by kernel_rfl, by kernel_rfl, by kernel_rfl, rfl⟩
  by_cases hn : n = 4 ∨ n = 7 ∨ n = 10 ∨ n = 13 ∨ n = 16
  · obtain ⟨hR, f, h1, h2, h3, h4⟩ := hq n.toNat (by omega)
    have hi := incl (stage n a b 2) n.toNat
    refine meet k n A1 A2 c1 c2 a b w hr1 hr2 hal hR _ _ _ h1 h2 h3 ?_ (by omega) (by omega) hll
    omega
  · refine meet_no k n A1 A2 c1 c2 a b w hal ?_
    unfold ballot_Right.f
    split
    · split
      · have : Int.tmod n 3 = n % 3 := Int.tmod_eq_emod_of_nonneg (by omega)
        rw [this, show (n % 3 == 1) = false from beq_eq_false_iff_ne.2 (by omega)]
      · rfl
    · rfl
end Go.Proofs.Ytekfobefehkajaa.PBallotNames
