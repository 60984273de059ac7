/- The walk of the law CrcSteps: it returns true, and leaves what was there as it was. -/
import Derived.Test.YtammicdgpdnihaaAwake3
import Derived.Test.YtammicdgpdnihaaTable
import Derived.Deep.RegionHeld3
import Derived.BigRegion
namespace Go.Proofs.Ytammicdgpdnihaa
open Go.RowKit

theorem step_zero (r : Nat) : stepN r [0] = bsteps 8 r := by
  show byteN r 0 = _
  rw [byteN_eq]; simp

set_option maxRecDepth 100000 in
set_option maxHeartbeats 1000000 in
theorem CrcSteps_walk (r : Nat) (a : Option Addr) (l : List UInt8) (n cap : Nat) (c : UInt8) (w : World) (hr : r < 4294967296) (hn : n = l.length) (hb : Bs w a cap l) :
    Calls Try.prog 6 #[.int .u32 r, .slice a n cap, .int .u8 (c.toNat : Int)] w fun e w' => e = .returned (.bool true) ∧ Below w.heap.size w w' := by
  have hl := hb.fits hn
  have HN := Lib.hid hn
  have HB := Lib.hid hb
  clear hb hn
  by_cases h1 : 500 < n
  · go_enter Try.func6, Try.ntmps6
    go_wp2_with (go_at_call 14; refine (awake3 _).mono ?_; rintro e w1 ⟨rfl, hb1⟩)
    go_ret
    exact ⟨rfl, hb1⟩
  have hc := c.toNat_lt
  have hz := Lib.hid (step_zero c.toNat)
  generalize c.toNat = i at *
  have hi0 : (0 : Int) ≤ (i : Int) := by omega
  have hi1 : (i : Int) < 256 := by omega
  go_enter Try.func6, Try.ntmps6
  go_wp2_with fail
  refine (Step_any r hr a l n cap _ HN.out HB.out).mono ?_; rintro e w1 ⟨rfl, hb1⟩
  have HB1 := Lib.hid (HB.out.below hb1)
  go_wp2_with fail
  refine (refStep_any r hr a l n cap _ HN.out HB1.out).mono ?_; rintro e w2 ⟨rfl, rfl⟩
  have he : (((stepN r l : Nat) : Int) != ((stepN r l : Nat) : Int)) = false := by rw [bne_eq_false_iff_eq]
  have he2 : (((4294967295 - r : Nat) : Int) != 4294967295 - (r : Int)) = false := by rw [bne_eq_false_iff_eq]; omega
  go_wp2_with (first | (go_at_call 17; refine (CrcEnd_any r hr _).mono ?_; rintro e w2 ⟨rfl, rfl⟩) | (go_at_call 15; refine (CrcBegin_any _).mono ?_; rintro e w2 ⟨rfl, rfl⟩))
  refine (Table_any _).mono ?_; rintro e w2 ⟨cur, rfl, hsz, hcur, hb2⟩
  have hi36 : (Try.prog.info? 36).map (·.size) = some cur.size := by rw [hsz]; exact info_tab
  have HI := Lib.hid hi36
  have HS : Hid (tab0.size = cur.size) := by show _ = _; rw [hsz]; simp [tab0]
  have HA : Hid (cur.all (·.oneCell') = true) := (TabAt.all (w := w2.alloc (.cells cur 36)) (g := w2.heap.size) (k := 256) ⟨heap_alloc_new _ _, hsz, hcur, fun j hj => ⟨_, hcur j hj⟩⟩ (Nat.le_refl _))
  have HC := Lib.hid (hcur i hc)
  clear hi36 hsz hcur
  go_wp2_with (first | (with_reducible refine wpList_alloc_tab rfl rfl ?_) | (with_reducible refine wpList_store_row rfl 36 _ _ rfl w2.heap.size cur rfl rfl 36 tab0 (heap_alloc_new _ _) HI.out HS.out HA.out ?_))
  have hb3 : Below w2.heap.size w2 ((w2.alloc (.cells tab0 36)).setRow w2.heap.size cur) := below_setRow ((Below.refl _ _).alloc (Nat.le_refl _) _) (Nat.le_refl _) cur
  have hcell : ((w2.alloc (.cells tab0 36)).setRow w2.heap.size cur).cell? ⟨w2.heap.size, i, none⟩ = some (.int .u32 ((bsteps 8 i : Nat) : Int)) := by
    rw [cell_setRow_same _ _ _ _ _ _ _ (heap_alloc_new w2 _)]; exact HC.out
  have hsz3 : ((w2.alloc (.cells tab0 36)).setRow w2.heap.size cur).heap.size = w2.heap.size + 1 := by simp
  generalize (w2.alloc (.cells tab0 36)).setRow w2.heap.size cur = w3 at *
  have hlt3 : w2.heap.size < w3.heap.size := by omega
  clear hsz3
  simp only [Act.put]
  have he3 : (((bsteps 8 i : Nat) : Int) == ((bsteps 8 i : Nat) : Int)) = true := by rw [beq_iff_eq]
  have hbel3 : Below w.heap.size w w3 := (hb1.trans (hb2.mono hb1.size)).trans (hb3.mono (Nat.le_trans hb1.size hb2.size))
  have HB0 := Lib.hid (show Bs (w3.alloc (.cells #[.int .u8 0] 5)).drew (some ⟨w3.heap.size, 0, none⟩) 1 [0] from (Bs.one w3 0 5).below ((Below.refl _ _).drew))
  have hne := World.new_ne w3 _ hcell
  have hi2 : i < 4294967296 := by omega
  have hwi : IntKind.u32.wrap (i : Int) = (i : Int) := by rw [IntKind.wrap_u32']; omega
  go_region_held3 (fun w' => w'.cell? ⟨w2.heap.size, i, none⟩ = some (.int .u32 ((bsteps 8 i : Nat) : Int))) (first | go_keep | (refine Eq.trans (hb4.cell (by simp; omega)) ?_; go_keep))
    (first
      | (go_at_call 21; refine (refStep_any i hi2 _ [0] 1 1 _ rfl HB0.out).mono ?_; rintro e w4 ⟨rfl, rfl⟩; rw [hz.out])
      | (go_at_call 14; refine (awake3 _).mono ?_; rintro e w4 ⟨rfl, hb4⟩))
  clear hwi
  go_wp2
  go_ret
  exact ⟨rfl, hbel3.trans (((((Below.refl _ _).alloc (Nat.le_refl _) _).drew).trans (hb4.mono (by simp))).mono hbel3.size)⟩

end Go.Proofs.Ytammicdgpdnihaa
