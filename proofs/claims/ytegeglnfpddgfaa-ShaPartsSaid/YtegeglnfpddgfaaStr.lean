/- string(b) of bytes, and strings against strings. -/
import Derived.Test.YtegeglnfpddgfaaBase
namespace Go.Proofs.Ytegeglnfpddgfaa
open Go.RowKit

def strB (l : List UInt8) : ByteArray := ⟨l.toArray⟩
theorem byteArray_toList (b : ByteArray) : b.toList = b.data.toList := by
  have h : ∀ (k i : Nat) (r : List UInt8), b.size - i = k → ByteArray.toList.loop b i r = r.reverse ++ b.data.toList.drop i := by
    intro k
    induction k with
    | zero =>
      intro i r hk
      unfold ByteArray.toList.loop
      have hs : b.data.toList.length = b.size := Array.length_toList
      rw [if_neg (by omega), List.drop_eq_nil_of_le (by omega), List.append_nil]
    | succ k ih =>
      intro i r hk
      have hs : b.data.toList.length = b.size := Array.length_toList
      unfold ByteArray.toList.loop
      rw [if_pos (by omega), ih (i + 1) _ (by omega)]
      have hi : i < b.data.toList.length := by omega
      rw [List.drop_eq_getElem_cons hi]
      simp [ByteArray.get!, getElem!_def]
      have : b.data[i]? = some b.data[i] := Array.getElem?_eq_getElem (by simpa using hi)
      simp [this]
  unfold ByteArray.toList
  rw [h _ 0 [] rfl]; simp
theorem strB_toList (l : List UInt8) : (strB l).toList = l := by rw [byteArray_toList]; rfl

theorem run_str {w : World} {a : Option Addr} {cap n : Nat} {l : List UInt8} (hn : n = l.length) (hb : Bs w a cap l) :
    (convert 22 9 (.slice a n cap)).run Try.prog w = .ok (.string (strB l)) w := by
  subst hn
  have hnil : ∀ a : Addr, ∀ c : Nat, (convert 22 9 (.slice (some a) 0 c)).run Try.prog w = .ok (.string (strB [])) w := by
    intro a c
    rw [run_convert_bytes_string w _ _ 5 _ _ _ Try.underlying22 Try.underlying5 Try.underlying9,
      run_bytesToString w a 0 c [] (by
        have := run_loadCells_list (P := Try.prog) w a [] (fun j v hj => by simp at hj)
        simpa using this)]
    rfl
  rcases hb.cells with h | ⟨b, off, ha, h⟩
  · subst h
    cases a with
    | none =>
      rw [run_convert_bytes_nil w 22 5 Try.underlying22 Try.underlying5 _ _ _ Try.underlying9]
      rfl
    | some a => exact hnil a cap
  · subst ha
    rw [run_convert_bytes_arg w 22 5 Try.underlying22 Try.underlying5 b off _ cap (l.map fun c => (c.toNat : Int)) (by simp) ?_ _ Try.underlying9]
    · congr 2
      have : (l.map fun c => (c.toNat : Int)).map (fun n => UInt8.ofNat n.toNat) = l := by
        rw [List.map_map]
        conv => rhs; rw [← List.map_id l]
        exact List.map_congr_left fun c _ => by simp
      unfold strOfNums strB
      rw [this]
    · intro i hi
      rw [h i hi]
      simp [u8v, List.getD, hi]
/-- Where b[lo:..] begins. -/
def cutA (a : Option Addr) (cap lo : Nat) : Option Addr := if cap = lo then a else a.map (·.add lo)

theorem Bs.cut {w : World} {a : Option Addr} {cap : Nat} {l : List UInt8} (h : Bs w a cap l) {lo hi : Nat} (h1 : lo ≤ hi) (h2 : hi ≤ l.length) : Bs w (cutA a cap lo) (cap - lo) ((l.take hi).drop lo) := by
  have hle := h.le
  have htop := h.top
  refine ⟨by simp; omega, by omega, ?_, ?_⟩
  · intro hn
    unfold cutA at hn
    split at hn
    · omega
    · have : a = none := by simpa using hn
      have := h.nil this; omega
  · by_cases he : lo = hi
    · left
      apply List.eq_nil_of_length_eq_zero
      simp; omega
    right
    rcases h.cells with h0 | ⟨b, off, ha, hc⟩
    · subst h0; simp at h2; omega
    · refine ⟨b, off + lo, ?_, fun i hi' => ?_⟩
      · unfold cutA
        rw [if_neg (by omega), ha]
        simp only [Option.map_some, addr_add]
      · have hi2 : i < hi - lo := by
          simp only [List.length_drop, List.length_take] at hi'; omega
        rw [Nat.add_assoc, hc (lo + i) (by omega)]
        congr 2
        simp only [List.getD, List.getElem?_drop, List.getElem?_take]
        rw [if_pos (by omega)]

theorem run_cut (w : World) (a : Option Addr) (n cap lo hi : Nat) (h1 : lo ≤ hi) (h2 : hi ≤ cap) :
    (Instr.sliceAt 22 (.slice a n cap) (some (.int .i64 (lo : Int))) (some (.int .i64 (hi : Int))) none).run Try.prog w = .ok (.slice (cutA a cap lo) (hi - lo) (cap - lo)) w := by
  obtain ⟨i0, hi0, hz0, hz1, hz2⟩ := info_parts info_u8
  simp [Instr.sliceAt, Instr.slice, run_underlying Try.underlying22, Instr.sliceBounds, Instr.sliceBound, asIntOf, sizeOf, typeInfo, hi0, hz1, h1, h2, cutA]

theorem run_cutTo (w : World) (a : Option Addr) (n cap hi : Nat) (h2 : hi ≤ cap) :
    (Instr.sliceAt 22 (.slice a n cap) none (some (.int .i64 (hi : Int))) none).run Try.prog w = .ok (.slice (cutA a cap 0) hi cap) w := by
  obtain ⟨i0, hi0, hz0, hz1, hz2⟩ := info_parts info_u8
  simp [Instr.sliceAt, Instr.slice, run_underlying Try.underlying22, Instr.sliceBounds, Instr.sliceBound, asIntOf, sizeOf, typeInfo, hi0, h2, cutA]
  try (split <;> simp_all)

theorem run_cutFrom (w : World) (a : Option Addr) (n cap lo : Nat) (h1 : lo ≤ n) :
    (Instr.sliceAt 22 (.slice a n cap) (some (.int .i64 (lo : Int))) none none).run Try.prog w = .ok (.slice (cutA a cap lo) (n - lo) (cap - lo)) w := by
  obtain ⟨i0, hi0, hz0, hz1, hz2⟩ := info_parts info_u8
  simp [Instr.sliceAt, Instr.slice, run_underlying Try.underlying22, Instr.sliceBounds, Instr.sliceBound, asIntOf, sizeOf, typeInfo, hi0, hz1, h1, cutA]

theorem Bs.cutTo {w : World} {a : Option Addr} {cap : Nat} {l : List UInt8} (h : Bs w a cap l) {hi : Nat} (h2 : hi ≤ l.length) : Bs w (cutA a cap 0) cap (l.take hi) := by
  have := h.cut (Nat.zero_le _) h2
  simpa using this

theorem Bs.cutFrom {w : World} {a : Option Addr} {cap : Nat} {l : List UInt8} (h : Bs w a cap l) {lo : Nat} (h2 : lo ≤ l.length) : Bs w (cutA a cap lo) (cap - lo) (l.drop lo) := by
  have := h.cut h2 (Nat.le_refl _)
  simpa using this

end Go.Proofs.Ytegeglnfpddgfaa
