/- The walk of crc.half: four rounds of the register at once, by a table of sixteen. -/
import Derived.Test.YtammicdgpdnihaaBase
import Derived.Test.YtammicdgpdnihaaCrcMath
namespace Go.Proofs.Ytammicdgpdnihaa
open Go.RowKit

theorem half_cell (w : World) (i : Nat) (h : i < 16) :
    (w.alloc (Obj.cells #[Value.int IntKind.u32 0, Value.int IntKind.u32 498536548, Value.int IntKind.u32 997073096,
                Value.int IntKind.u32 651767980, Value.int IntKind.u32 1994146192, Value.int IntKind.u32 1802195444,
                Value.int IntKind.u32 1303535960, Value.int IntKind.u32 1342533948, Value.int IntKind.u32 3988292384,
                Value.int IntKind.u32 4027552580, Value.int IntKind.u32 3604390888, Value.int IntKind.u32 3412177804,
                Value.int IntKind.u32 2607071920, Value.int IntKind.u32 2262029012, Value.int IntKind.u32 2685067896,
                Value.int IntKind.u32 3183342108] 77)).cell? ⟨w.heap.size, i, none⟩ = some (.int .u32 ((halfRows.getD i 0 : Nat) : Int)) := by
  rw [World.cell?_alloc_at _ _ _ _ rfl]
  have : ∀ i, i < 16 → (#[Value.int IntKind.u32 0, Value.int IntKind.u32 498536548, Value.int IntKind.u32 997073096,
                Value.int IntKind.u32 651767980, Value.int IntKind.u32 1994146192, Value.int IntKind.u32 1802195444,
                Value.int IntKind.u32 1303535960, Value.int IntKind.u32 1342533948, Value.int IntKind.u32 3988292384,
                Value.int IntKind.u32 4027552580, Value.int IntKind.u32 3604390888, Value.int IntKind.u32 3412177804,
                Value.int IntKind.u32 2607071920, Value.int IntKind.u32 2262029012, Value.int IntKind.u32 2685067896,
                Value.int IntKind.u32 3183342108])[i]? = some (.int .u32 ((halfRows.getD i 0 : Nat) : Int)) := by
    intro i h
    rcases i with _ | _ | _ | _ | _ | _ | _ | _ | _ | _ | _ | _ | _ | _ | _ | _ | i
    all_goals first | rfl | omega
  exact this i h

theorem halfRows_lt (i : Nat) : halfRows.getD i 0 < 4294967296 := by
  by_cases h : i < 16
  · have : ∀ i, i < 16 → halfRows.getD i 0 < 4294967296 := by decide
    exact this i h
  · have : halfRows.length = 16 := rfl
    simp [List.getD, List.getElem?_eq_none (l := halfRows) (i := i) (by omega)]

set_option maxHeartbeats 400000 in
theorem half_any (r : Nat) (hr : r < 4294967296) (w : World) :
    Calls Try.prog 41 #[.int .u32 r] w fun e w' => e = .returned (.int .u32 (halfN r)) ∧ Below w.heap.size w w' := by
  have hb : bits BinOp.and IntKind.u32 (↑r) 15 = ((r % 16 : Nat) : Int) := by
    rw [show (15 : Int) = ((15 : Nat) : Int) from rfl, u32_and_nat r 15 hr (by omega), nat_mask4]
  have hc := half_cell w (r % 16) (by omega)
  have hx : bits BinOp.xor IntKind.u32 (↑r / 16) ↑(halfRows.getD (r % 16) 0) = ((halfN r : Nat) : Int) := by
    rw [show ((r : Int) / 16) = ((r / 16 : Nat) : Int) from by omega, u32_xor_nat _ _ (by omega) (halfRows_lt _)]; rfl
  have hx' := Lib.hid hx
  clear hx
  generalize halfRows.getD (r % 16) 0 = z at hc hx'
  go_enter Try.func41, Try.ntmps41
  go_wp2
  go_ret
  exact ⟨ret_int hx'.out, (Below.refl _ _).alloc (Nat.le_refl _) _⟩

end Go.Proofs.Ytammicdgpdnihaa
