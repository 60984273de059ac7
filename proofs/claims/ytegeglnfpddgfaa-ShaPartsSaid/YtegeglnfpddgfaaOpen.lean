/- From the readings of a law's arguments as data to what the walks ask: bytes, parts, numbers. -/
import Derived.Test.YtegeglnfpddgfaaBase
import Derived.ProofKit
import Derived.OpenShut
import Derived.ShutString
import Derived.ChangeOld
import Derived.Deep.Slices
import Derived.Lib.SmallJoins
namespace Go.Proofs.Ytegeglnfpddgfaa
open Go.ChangeShapes Go.WideShapes Go.ChangeAt Go.RowKit Go.Deep

theorem own : ownKnob Try.prog.godebug = none := by kernel_rfl
theorem laidOut : laidOutB Try.prog = true := by kernel_rfl
theorem cells_u8 : Try.prog.cellsOf 5 = 1 := by kernel_rfl
theorem cells_bytes : Try.prog.cellsOf 22 = 1 := by kernel_rfl

theorem wf_u8 {a : Int} (h : (Lit.int .u8 a).wf = true) : ∃ c : UInt8, a = (c.toNat : Int) := by
  have h1 := bounds_u8 h
  exact ⟨UInt8.ofNat a.toNat, by simp; omega⟩
theorem wf_u32 {a : Int} (h : (Lit.int .u32 a).wf = true) : ∃ t : Nat, a = (t : Int) ∧ t < 4294967296 := by
  have h1 := bounds_u32 h
  exact ⟨a.toNat, by omega, by omega⟩
theorem wf_u64 {a : Int} (h : (Lit.int .u64 a).wf = true) : ∃ t : Nat, a = (t : Int) ∧ t < 18446744073709551616 := by
  have h1 := bounds_u64 h
  exact ⟨a.toNat, by omega, by omega⟩

/-! The closed facts on the whole program, once for all claims of the seat. -/
theorem fact_stops : (Try.prog.stops == []) = true := by kernel_rfl
theorem fact_knobs : (Try.prog.stopKnobs == []) = true := by kernel_rfl
theorem fact_maps : mapsRowed Try.prog = true := by kernel_rfl
theorem fact_keys : (true == Try.prog.plainKeys) = true := by kernel_rfl
theorem fact_heard : Try.prog.stopsHeard = true := by kernel_rfl
theorem fact_enter : Try.prog.mayEnter = true := by kernel_rfl
theorem fact_lifts : (false == Try.prog.liftsFinal) = true := by kernel_rfl
theorem fact_make : (Try.prog.make == some Make.cut) = true := by kernel_rfl
theorem and_mk {a b : Bool} (h1 : a = true) (h2 : b = true) : (a && b) = true := by rw [h1, h2]; rfl

section
variable {H : Type} {enc : TypeId × Value → H} {W : World} {base : Nat} {spare : Nat → Bool} {held : Bool}

theorem open_bytes {fuel : Nat} {a : Option Addr} {len cap : Nat} {x : DataW H × List MemPlace} (h : DataW.trod enc Try.prog W base spare held fuel 22 [.slice a len cap] = some x) :
    ∃ l : List UInt8, len = l.length ∧ Bs W a cap l := by
  rcases open_ints Try.underlying22 Try.underlying5 cells_u8 h with ⟨hcs, _⟩ | ⟨x, l, c, zs, hcs, _, hl, hm, hz, _, hcell, hwz⟩
  · simp at hcs
    obtain ⟨rfl, rfl, rfl⟩ := hcs
    exact ⟨[], rfl, Bs.empty W⟩
  · simp at hcs
    obtain ⟨rfl, rfl, rfl⟩ := hcs
    have hzl : len ≤ zs.length := by rw [hz]; split <;> omega
    have hlen : ((zs.take len).map fun z => UInt8.ofNat z.toNat).length = len := by simp; omega
    refine ⟨(zs.take len).map fun z => UInt8.ofNat z.toNat, hlen.symm, ⟨by rw [hlen]; exact hl, by unfold maxLen at hm; omega, by simp, ?_⟩⟩
    by_cases h0 : len = 0
    · left; subst h0; rfl
    right
    obtain ⟨b, off, spot⟩ := x
    have hc0 := hcell 0 (by omega)
    have hspot : spot = none := by simpa [Addr.add] using World.cell?_spot hc0
    subst hspot
    refine ⟨b, off, rfl, fun i hi => ?_⟩
    rw [hlen] at hi
    have hc := hcell i (by omega)
    rw [addr_add] at hc
    rw [hc]
    have hi2 : i < zs.length := by omega
    have hw := bounds_u8 (hwz zs[i] (List.getElem_mem hi2))
    simp only [u8v, Option.some.injEq, Value.int.injEq, true_and]
    simp [List.getD, hi, hi2]
    omega

theorem open_parts {fuel : Nat} {a : Option Addr} {len cap : Nat} {x : DataW H × List MemPlace} (h : DataW.trod enc Try.prog W base spare held fuel 37 [.slice a len cap] = some x) :
    ∃ ls : List (List UInt8), len = ls.length ∧ Bss W a cap ls := by
  rcases open_slice1 Try.underlying37 cells_bytes h with ⟨hcs, _⟩ | ⟨x, l, c, m, n, V, D, Pl, hcs, _, hl, hm, hmm, _, hcell⟩
  · simp at hcs
    obtain ⟨rfl, rfl, rfl⟩ := hcs
    exact ⟨[], rfl, Bss.none W _ _ (by omega)⟩
  · simp at hcs
    obtain ⟨rfl, rfl, rfl⟩ := hcs
    have hlm : len ≤ m := by rw [hmm]; split <;> omega
    have each : ∀ i, i < len → ∃ p : List UInt8, ∃ ai ci, V i = .slice ai p.length ci ∧ Bs W ai ci p := by
      intro i hi
      have h1 := (hcell i (by omega)).2
      obtain ⟨ai, li, ci, hv⟩ := Joins.slice_form Try.underlying22 h1
      simp at hv
      rw [hv] at h1
      obtain ⟨p, hp, hb⟩ := open_bytes h1
      exact ⟨p, ai, ci, by rw [hv, hp], hb⟩
    obtain ⟨F, hF⟩ := choose_lt each
    have hlen : ((List.range len).map F).length = len := by simp
    refine ⟨(List.range len).map F, hlen.symm, ⟨by rw [hlen]; exact hl, by unfold maxLen at hm; omega, ?_⟩⟩
    by_cases h0 : len = 0
    · left; subst h0; rfl
    right
    obtain ⟨b, off, spot⟩ := x
    have hc0 := (hcell 0 (by omega)).1
    have hspot : spot = none := by simpa [Addr.add] using World.cell?_spot hc0
    subst hspot
    refine ⟨b, off, rfl, fun i hi => ?_⟩
    rw [hlen] at hi
    obtain ⟨ai, ci, hv, hb⟩ := hF i hi
    have hc := (hcell i (by omega)).1
    rw [addr_add, hv] at hc
    have e : ((List.range len).map F).getD i [] = F i := by simp [List.getD, hi]
    rw [e]
    exact ⟨ai, ci, hc, hb⟩
end
end Go.Proofs.Ytegeglnfpddgfaa
