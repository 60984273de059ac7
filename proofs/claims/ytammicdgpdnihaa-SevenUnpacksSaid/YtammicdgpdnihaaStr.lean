/- string(b) of bytes, and strings against strings. -/
import Derived.Test.YtammicdgpdnihaaBase
namespace Go.Proofs.Ytammicdgpdnihaa
open Go.RowKit

def strB (l : List UInt8) : ByteArray := ⟨l.toArray⟩
theorem byteArray_toList (b : ByteArray) : b.toList = b.data.toList := by
  have h : ∀ (k i : Nat) (r : List UInt8), b.size - i = k → ByteArray.toList.loop b i r = r.reverse ++ b.data.toList.drop i := by
    intro k
    induction k with
    | zero =>
      intro i r hk
      unfold ByteArray.toList.loop
      have hs : b.data.toList.length = b.size := Array.length_toList
      rw [if_neg (by omega), List.drop_eq_nil_of_le (by omega), List.append_nil]
    | succ k ih =>
      intro i r hk
      have hs : b.data.toList.length = b.size := Array.length_toList
      unfold ByteArray.toList.loop
      rw [if_pos (by omega), ih (i + 1) _ (by omega)]
      have hi : i < b.data.toList.length := by omega
      rw [List.drop_eq_getElem_cons hi]
      simp [ByteArray.get!, getElem!_def]
      have : b.data[i]? = some b.data[i] := Array.getElem?_eq_getElem (by simpa using hi)
      simp [this]
  unfold ByteArray.toList
  rw [h _ 0 [] rfl]; simp
theorem strB_toList (l : List UInt8) : (strB l).toList = l := by rw [byteArray_toList]; rfl

theorem run_str {w : World} {a : Option Addr} {cap n : Nat} {l : List UInt8} (hn : n = l.length) (hb : Bs w a cap l) :
    (convert 24 9 (.slice a n cap)).run Try.prog w = .ok (.string (strB l)) w := by
  subst hn
  have hnil : ∀ a : Addr, ∀ c : Nat, (convert 24 9 (.slice (some a) 0 c)).run Try.prog w = .ok (.string (strB [])) w := by
    intro a c
    rw [run_convert_bytes_string w _ _ 5 _ _ _ Try.underlying24 Try.underlying5 Try.underlying9,
      run_bytesToString w a 0 c [] (by
        have := run_loadCells_list (P := Try.prog) w a [] (fun j v hj => by simp at hj)
        simpa using this)]
    rfl
  rcases hb.cells with h | ⟨b, off, ha, h⟩
  · subst h
    cases a with
    | none =>
      rw [run_convert_bytes_nil w 24 5 Try.underlying24 Try.underlying5 _ _ _ Try.underlying9]
      rfl
    | some a => exact hnil a cap
  · subst ha
    rw [run_convert_bytes_arg w 24 5 Try.underlying24 Try.underlying5 b off _ cap (l.map fun c => (c.toNat : Int)) (by simp) ?_ _ Try.underlying9]
    · congr 2
      have : (l.map fun c => (c.toNat : Int)).map (fun n => UInt8.ofNat n.toNat) = l := by
        rw [List.map_map]
        conv => rhs; rw [← List.map_id l]
        exact List.map_congr_left fun c _ => by simp
      unfold strOfNums strB
      rw [this]
    · intro i hi
      rw [h i hi]
      simp [u8v, List.getD, hi]
end Go.Proofs.Ytammicdgpdnihaa
