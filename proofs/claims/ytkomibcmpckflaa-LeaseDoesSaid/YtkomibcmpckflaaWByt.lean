-- Written by a program of this session's (an extension of the kit's print)
/- Bytes that the library's own machine code reads: bytes.Compare. -/
import Derived.Test.YtkomibcmpckflaaWWords
import Derived.Lib.Bytealg
import Derived.Laws.Externs
namespace Go.Proofs.YtkomibcmpckflaaW.PrintWords
open Go.RowKit
theorem run_loadBytes_ {P : Program} (w : World) : ∀ (xs : List Int) (a : Addr) (acc : ByteArray), (∀ j v, xs[j]? = some v → w.cell? (a.add j) = some (.int .u8 v)) → (Extern.Bytes.loadBytes a xs.length acc).run P w = .ok (xs.foldl (fun b x => b.push x.toNat.toUInt8) acc) w
  | [], a, acc, _ => rfl
  | x :: xs, a, acc, h => by
    have h0 := h 0 x rfl
    have ha : a.add 0 = a := by unfold Addr.add; split <;> simp_all
    rw [ha] at h0
    have ih := run_loadBytes_ (P := P) w xs (a.add 1) (acc.push x.toNat.toUInt8) (fun j v hj => by
      rw [add_add, Nat.add_comm 1 j]
      exact h (j + 1) v hj)
    show Sem.run P (Extern.Bytes.loadBytes a (xs.length + 1) acc) w = _
    unfold Extern.Bytes.loadBytes
    simp only [Sem.run_bind]
    simp only [run_load, h0, Result.andThen]
    exact ih
theorem push_foldl (xs : List Int) : ∀ acc : ByteArray, xs.foldl (fun b x => b.push x.toNat.toUInt8) acc = ⟨acc.data ++ (xs.map fun n => UInt8.ofNat n.toNat).toArray⟩ := by
  induction xs with
  | nil => intro acc; simp
  | cons x xs ih =>
    intro acc
    rw [List.foldl_cons, ih]
    congr 1
    simp [ByteArray.push, Nat.toUInt8]
theorem run_bytesOf_ {P : Program} {w : World} {A : Option Addr} {n c : Nat} {xs : List Int} (h : (Kd.int .u8).C w A n xs) : (Extern.Bytes.bytesOf (.slice A n c)).run P w = .ok (strOfNums xs) w := by
  have h := Kd.reads_of_C (enc := Value.int .u8) (d := (0 : Int)) (h1 := fun _ => rfl) h
  have hn : xs.length = n := h.1
  rcases A with _ | ad
  · have h0 : n = 0 := by
      rcases Nat.eq_zero_or_pos n with h0 | h0
      · exact h0
      · obtain ⟨ad, h', _⟩ := h.2.2 h0
        cases h'
    subst h0
    obtain rfl : xs = [] := List.eq_nil_of_length_eq_zero hn
    rfl
  · show (Extern.Bytes.loadBytes ad n .empty).run P w = _
    rw [← hn, run_loadBytes_ w xs ad .empty (fun j v hj => by
      have hjl : j < xs.length := (List.getElem?_eq_some_iff.1 hj).1
      obtain ⟨ad', he', hc⟩ := h.2.2 (by omega)
      injection he' with he'
      subst he'
      rw [hc j (by omega)]
      simp [List.getD_eq_getElem?_getD, hj])]
    rw [push_foldl]
    simp [strOfNums, ByteArray.empty, ByteArray.emptyWithCapacity]
    rfl
theorem run_compare_ {P : Program} {w : World} {A B : Option Addr} {n m c d : Nat} {xs ys : List Int} (h : (Kd.int .u8).C w A n xs) (h' : (Kd.int .u8).C w B m ys) :
    (Extern.BytealgCompare.compare #[.slice A n c, .slice B m d]).run P w = .ok (.int .i64 (Lib.compareBytes (strOfNums xs).data.toList (strOfNums ys).data.toList)) w := by
  change Sem.run P (do pure (goInt (Extern.BytealgCompare.cmp (← Extern.Bytes.bytesOf (.slice A n c)) (← Extern.Bytes.bytesOf (.slice B m d))))) w = _
  simp only [Sem.run_bind, Sem.run_pure]
  rw [run_bytesOf_ h]
  simp only [Result.andThen]
  rw [run_bytesOf_ h']
  simp only [Lib.cmp_eq]
  rfl
end Go.Proofs.YtkomibcmpckflaaW.PrintWords
