/- octet's Reader: what a reader is in memory, and its methods. -/
import Derived.Test.YtammicdgpdnihaaOwn
import Derived.Test.YtammicdgpdnihaaStr
import Derived.Test.YtammicdgpdnihaaRegion
namespace Go.Proofs.Ytammicdgpdnihaa
open Go.RowKit

/-- The reader at block p stands at byte i of the bytes l, which lie in its block g; s: it is spent. -/
structure Rd (w : World) (p g : Nat) (l : List UInt8) (i : Nat) (s : Bool) : Prop where
  cell : w.heap[p]? = some (.cells #[.slice (some ⟨g, 0, none⟩) l.length l.length, .int .i64 (i : Int), .bool s] 86 (0, 0))
  bs : Bs w (some ⟨g, 0, none⟩) l.length l
  le : i ≤ l.length
  ne : g ≠ p
  small : l.length ≤ 100000000

theorem Rd.kept {w w' : World} {p g : Nat} {l : List UInt8} {i : Nat} {s : Bool} (h : Rd w p g l i s) {T : Nat → Prop} (hk : Kept T w w') (h1 : ¬ T p) (h2 : ¬ T g) : Rd w' p g l i s :=
  ⟨by rw [hk.block p (Array.getElem?_eq_some_iff.1 h.cell).1 h1]; exact h.cell, h.bs.kept hk (by rintro x hx; cases hx; exact h2), h.le, h.ne, h.small⟩
theorem Rd.below {w w' : World} {p g : Nat} {l : List UInt8} {i : Nat} {s : Bool} (h : Rd w p g l i s) (hb : Below w.heap.size w w') : Rd w' p g l i s :=
  h.kept (T := fun _ => False) (Kept.ofBelow hb _) (fun h => h) (fun h => h)
theorem Rd.lt {w : World} {p g : Nat} {l : List UInt8} {i : Nat} {s : Bool} (h : Rd w p g l i s) : p < w.heap.size := (Array.getElem?_eq_some_iff.1 h.cell).1
theorem Rd.at0 {w : World} {p g : Nat} {l : List UInt8} {i : Nat} {s : Bool} (h : Rd w p g l i s) : w.cell? ⟨p, 0, none⟩ = some (.slice (some ⟨g, 0, none⟩) l.length l.length) := by rw [cell_of_row w p 0 _ _ _ h.cell]; rfl
theorem Rd.at1 {w : World} {p g : Nat} {l : List UInt8} {i : Nat} {s : Bool} (h : Rd w p g l i s) : w.cell? ⟨p, 1, none⟩ = some (.int .i64 (i : Int)) := by rw [cell_of_row w p 1 _ _ _ h.cell]; rfl
theorem Rd.at2 {w : World} {p g : Nat} {l : List UInt8} {i : Nat} {s : Bool} (h : Rd w p g l i s) : w.cell? ⟨p, 2, none⟩ = some (.bool s) := by rw [cell_of_row w p 2 _ _ _ h.cell]; rfl
theorem Rd.free {w : World} {p g : Nat} {l : List UInt8} {i : Nat} {s : Bool} (h : Rd w p g l i s) (j : Nat) : w.frozen? ⟨p, j, none⟩ = false := by simp [World.frozen?, h.cell]
theorem Rd.set {w : World} {p g : Nat} {l : List UInt8} {i : Nat} {s : Bool} (h : Rd w p g l i s) : Rd (w.setCell ⟨p, 2, none⟩ (.bool true)) p g l i true :=
  ⟨by rw [heap_setCell_same w p 2 _ _ _ h.cell]; rfl, h.bs.kept (T := (· = p)) (Kept.setCell _ _ _ rfl) (by rintro x hx; cases hx; exact h.ne), h.le, h.ne, h.small⟩
theorem Rd.move {w : World} {p g : Nat} {l : List UInt8} {i : Nat} {s : Bool} (h : Rd w p g l i s) {j : Nat} (hj : j ≤ l.length) : Rd (w.setCell ⟨p, 1, none⟩ (.int .i64 (j : Int))) p g l j s :=
  ⟨by rw [heap_setCell_same w p 1 _ _ _ h.cell]; rfl, h.bs.kept (T := (· = p)) (Kept.setCell _ _ _ rfl) (by rintro x hx; cases hx; exact h.ne), hj, h.ne, h.small⟩

theorem octetRead_any (a : Option Addr) (l : List UInt8) (n cap : Nat) (w : World) (hn : n = l.length) (hmax : n ≤ 100000000) (hb : Bs w a cap l) :
    Calls Try.prog 51 #[.slice a n cap] w fun e w' => ∃ p g, e = .returned (.pointer (some ⟨p, 0, none⟩)) ∧ Rd w' p g l 0 false ∧ w.heap.size ≤ p ∧ w.heap.size ≤ g ∧ Below w.heap.size w w' := by
  have HN := Lib.hid hn
  have HB := Lib.hid hb
  clear hn hb
  go_enter Try.func51, Try.ntmps51
  go_wp2_with (first
    | (refine wpList_copy_u8 rfl (.tmp 7) (.tmp 8) rfl w.heap.size w.heap.size n _ rfl (by simp) hown1.out a n cap l rfl HN.out (HB.out.below hb1) (Nat.le_refl _) ?_; intro w2 hown2 hk2; have hown2 := Lib.hid hown2)
    | (refine wpList_make_u8 rfl (.tmp 5) (.tmp 5) rfl n rfl rfl (by omega) ?_; intro w1 hown1 hb1))
  have h2 := hown2.out
  rw [List.take_of_length_le (by rw [← HN.out]; exact Nat.le_refl _)] at h2
  have hb2 : Below w.heap.size w w2 := hb1.trans (hk2.below hb1.size (by rintro i rfl; exact Nat.le_refl _))
  go_ret
  obtain ⟨a2, c2, hv2, hbs2, hob2, hin2⟩ := h2.bs
  cases hv2
  have hg : w.heap.size < w2.heap.size := (hin2 _ rfl).2
  have h3 := hbs2
  refine ⟨_, w.heap.size, rfl, ⟨?_, ?_, Nat.zero_le _, by omega, by rw [← HN.out]; exact hmax⟩, ?_, Nat.le_refl _, hb2.alloc (by omega) _⟩
  · rw [← HN.out]; exact heap_alloc_new w2 _
  · rw [← HN.out]; exact hbs2.below ((Below.refl _ _).alloc (Nat.le_refl _) _)
  · exact hb2.size

theorem RSpent_any {p g : Nat} {l : List UInt8} {i : Nat} {s : Bool} (w : World) (h : Rd w p g l i s) :
    Calls Try.prog 54 #[.pointer (some ⟨p, 0, none⟩)] w fun e w' => e = .returned (.bool s) ∧ w = w' := by
  have h2 := h.at2
  clear h
  cases s
  all_goals
    go_enter Try.func54, Try.ntmps54
    go_wp2
    go_ret
    exact ⟨rfl, rfl⟩

def leftN (l : List UInt8) (i : Nat) (s : Bool) : Nat := if s then 0 else l.length - i

theorem RLeft_any {p g : Nat} {l : List UInt8} {i : Nat} {s : Bool} (w : World) (h : Rd w p g l i s) :
    Calls Try.prog 57 #[.pointer (some ⟨p, 0, none⟩)] w fun e w' => e = .returned (.int .i64 (leftN l i s : Nat)) ∧ Below w.heap.size w w' := by
  have H := Lib.hid h
  have h0 := h.at0
  have h1 := h.at1
  have hle := h.le
  have hsm := h.small
  generalize hn : l.length = n at *
  clear h
  cases s
  · have HL : Hid (leftN l i false = n - i) := by unfold leftN; rw [hn]; rfl
    clear hn
    go_enter Try.func57, Try.ntmps57
    go_wp2_with fail
    refine (RSpent_any _ H.out).mono ?_
    rintro e w1 ⟨rfl, rfl⟩
    go_wp2
    go_region
    go_wp2
    go_ret
    refine ⟨ret_int ?_, (Below.refl _ _).drew⟩
    rw [HL.out]; omega
  · go_enter Try.func57, Try.ntmps57
    go_wp2_with fail
    refine (RSpent_any _ H.out).mono ?_
    rintro e w1 ⟨rfl, rfl⟩
    go_wp2
    go_ret
    exact ⟨rfl, Below.refl _ _⟩


def hasN (l : List UInt8) (i : Nat) (s : Bool) (n : Int) : Bool := !s && decide (0 ≤ n ∧ n ≤ ((l.length - i : Nat) : Int))

theorem Rhas_any {p g : Nat} {l : List UInt8} {i : Nat} {s : Bool} (n : Int) (w : World) (h : Rd w p g l i s) (hn1 : -9223372036854775808 ≤ n) (hn2 : n ≤ 9223372036854775807) :
    Calls Try.prog 61 #[.pointer (some ⟨p, 0, none⟩), .int .i64 n] w fun e w' =>
      e = .returned (.bool (hasN l i s n)) ∧ Rd w' p g l i (!hasN l i s n) ∧ Kept (· = p) w w' := by
  have H := Lib.hid h
  clear h
  cases s
  · by_cases hneg : n < 0
    · have HF : Hid (hasN l i false n = false) := by unfold hasN; rw [decide_eq_false (by omega)]; rfl
      rw [HF.out]
      have h2 := H.out.at2
      have hf2 := H.out.free 2
      go_enter Try.func61, Try.ntmps61
      go_wp2_with fail
      refine (RSpent_any _ H.out).mono ?_
      rintro e w1 ⟨rfl, rfl⟩
      go_wp2
      go_ret
      exact ⟨rfl, H.out.set, Kept.setCell _ _ _ rfl⟩
    have hle := H.out.le
    obtain ⟨N, hN⟩ : ∃ N, N = leftN l i false := ⟨_, rfl⟩
    have HNN : Hid (N = l.length - i) := by rw [hN]; rfl
    by_cases hbig : (N : Int) < n
    · have HF : Hid (hasN l i false n = false) := by unfold hasN; rw [decide_eq_false (by have h1 := HNN.out; omega)]; rfl
      rw [HF.out]
      go_enter Try.func61, Try.ntmps61
      go_wp2_with fail
      refine (RSpent_any _ H.out).mono ?_
      rintro e w1 ⟨rfl, rfl⟩
      go_wp2_with fail
      refine (RLeft_any _ H.out).mono ?_
      rintro e w1 ⟨rfl, hb⟩
      rw [← hN]
      have H1 := Lib.hid (H.out.below hb)
      have h2 := H1.out.at2
      have hf2 := H1.out.free 2
      go_wp2
      go_ret
      exact ⟨rfl, H1.out.set, (Kept.ofBelow hb _).trans (Kept.setCell (T := (· = p)) _ _ _ rfl) fun i hi => .inl hi⟩
    · have HF : Hid (hasN l i false n = true) := by unfold hasN; rw [decide_eq_true (by have h1 := HNN.out; omega)]; rfl
      rw [HF.out]
      go_enter Try.func61, Try.ntmps61
      go_wp2_with fail
      refine (RSpent_any _ H.out).mono ?_
      rintro e w1 ⟨rfl, rfl⟩
      go_wp2_with fail
      refine (RLeft_any _ H.out).mono ?_
      rintro e w1 ⟨rfl, hb⟩
      rw [← hN]
      have H1 := Lib.hid (H.out.below hb)
      go_wp2
      go_ret
      exact ⟨rfl, H1.out, Kept.ofBelow hb _⟩
  · have HF : Hid (hasN l i true n = false) := rfl
    rw [HF.out]
    go_enter Try.func61, Try.ntmps61
    go_wp2_with fail
    refine (RSpent_any _ H.out).mono ?_
    rintro e w1 ⟨rfl, rfl⟩
    go_wp2
    go_ret
    exact ⟨rfl, H.out, Kept.refl _ _⟩

def takenN (l : List UInt8) (i : Nat) (s : Bool) (n : Int) : List UInt8 := if hasN l i s n then (l.drop i).take n.toNat else []
def nextN (l : List UInt8) (i : Nat) (s : Bool) (n : Int) : Nat := if hasN l i s n then i + n.toNat else i

set_option maxRecDepth 100000 in
theorem RTake_any {p g : Nat} {l : List UInt8} {i : Nat} {s : Bool} (n : Int) (w : World) (h : Rd w p g l i s) (hn1 : -9223372036854775808 ≤ n) (hn2 : n ≤ 9223372036854775807) :
    Calls Try.prog 56 #[.pointer (some ⟨p, 0, none⟩), .int .i64 n] w fun e w' =>
      ∃ v, e = .returned v ∧ OwnB w.heap.size w' v (takenN l i s n) ∧ Rd w' p g l (nextN l i s n) (!hasN l i s n) ∧ Kept (· = p) w w' := by
  have H := Lib.hid h
  clear h
  by_cases hh : hasN l i s n = false
  · have HF := Lib.hid hh
    unfold takenN nextN
    rw [hh]
    clear hh
    show Calls _ _ _ _ fun e w' => ∃ v, e = .returned v ∧ OwnB w.heap.size w' v [] ∧ Rd w' p g l i true ∧ Kept (· = p) w w'
    go_enter Try.func56, Try.ntmps56
    go_wp2_with fail
    refine (Rhas_any n _ H.out hn1 hn2).mono ?_
    rintro e w1 ⟨rfl, hR, hK⟩
    rw [HF.out] at hR ⊢
    have HR : Hid (Rd w1 p g l i true) := hR
    clear hR
    go_wp2
    go_ret
    exact ⟨_, rfl, OwnB.start _ _, HR.out, hK⟩
  have hh' : hasN l i s n = true := by simpa using hh
  have hs : s = false := by cases s; rfl; exact absurd hh' (by unfold hasN; simp)
  subst hs
  obtain ⟨hn0, hnL⟩ : 0 ≤ n ∧ n ≤ ((l.length - i : Nat) : Int) := by unfold hasN at hh'; simpa using hh'
  obtain ⟨m, rfl⟩ := Int.eq_ofNat_of_zero_le hn0
  have HF := Lib.hid hh'
  unfold takenN nextN
  rw [hh']
  have hle := H.out.le
  have hsm := H.out.small
  have hmL : m ≤ l.length - i := by omega
  clear hh hh' hnL hn0
  show Calls _ _ _ _ fun e w' => ∃ v, e = .returned v ∧ OwnB w.heap.size w' v ((l.drop i).take m) ∧ Rd w' p g l (i + m) false ∧ Kept (· = p) w w'
  go_enter Try.func56, Try.ntmps56
  go_wp2_with fail
  refine (Rhas_any (m : Int) _ H.out hn1 hn2).mono ?_
  rintro e w1 ⟨rfl, hR, hK⟩
  rw [HF.out] at hR ⊢
  have HR1 : Hid (Rd w1 p g l i false) := hR
  have hK1 := hK
  clear hR hK
  go_wp2_with (refine wpList_make_u8 rfl (.tmp 10) (.tmp 10) rfl m rfl rfl (by omega) ?_; intro w2 hown2 hb2)
  have HR2 := Lib.hid (HR1.out.below hb2)
  obtain ⟨L, hL⟩ : ∃ L, L = l.length := ⟨_, rfl⟩
  have HL := Lib.hid hL
  have h0 := HR2.out.at0
  have h1 := HR2.out.at1
  rw [← hL] at h0 hle hsm hmL
  clear hL
  refine hStart (fun w' => w'.cell? ⟨p, 0, none⟩ = some (.slice (some ⟨g, 0, none⟩) L L) ∧ w'.cell? ⟨p, 1, none⟩ = some (.int .i64 (i : Int))) (by kernel_rfl) ?_
  have hHeld : w2.drew.cell? ⟨p, 0, none⟩ = some (.slice (some ⟨g, 0, none⟩) L L) ∧ w2.drew.cell? ⟨p, 1, none⟩ = some (.int .i64 (i : Int)) := ⟨h0, h1⟩
  refine hTake 0 (v := ?_) rfl (by kernel_rfl) (by kernel_rfl) (by kernel_rfl) (fun _ _ _ h => h) (by rfl) ?_ hHeld ?_
  rotate_left
  · intro w hSw; (try dsimp only at hSw); go_simp; (try with_reducible rfl)
  try simp only [Act.put, List.setIfInBounds_toArray, List.set_cons_zero, List.set_cons_succ]
  refine hTake 1 (v := ?_) rfl (by kernel_rfl) (by kernel_rfl) (by kernel_rfl) (fun _ _ _ h => h) (by rfl) ?_ hHeld ?_
  rotate_left
  · intro w hSw; (try dsimp only at hSw); go_simp; (try with_reducible rfl)
  try simp only [Act.put, List.setIfInBounds_toArray, List.set_cons_zero, List.set_cons_succ]
  refine hTake 2 (v := ?_) rfl (by kernel_rfl) (by kernel_rfl) (by kernel_rfl) (fun _ _ _ h => h) (by rfl) ?_ hHeld ?_
  rotate_left
  · intro w hSw; (try dsimp only at hSw); go_simp; (try with_reducible rfl)
  try simp only [Act.put, List.setIfInBounds_toArray, List.set_cons_zero, List.set_cons_succ]
  refine hTake 3 (v := ?_) rfl (by kernel_rfl) (by kernel_rfl) (by kernel_rfl) (fun _ _ _ h => h) (by rfl) ?_ hHeld ?_
  rotate_left
  · intro w hSw; (try dsimp only at hSw); go_simp; (try with_reducible rfl)
  try simp only [Act.put, List.setIfInBounds_toArray, List.set_cons_zero, List.set_cons_succ]
  refine hTake 4 (v := ?_) rfl (by kernel_rfl) (by kernel_rfl) (by kernel_rfl) (fun _ _ _ h => h) (by rfl) ?_ hHeld ?_
  rotate_left
  · intro w hSw; (try dsimp only at hSw); go_simp; (try with_reducible rfl)
  try simp only [Act.put, List.setIfInBounds_toArray, List.set_cons_zero, List.set_cons_succ]
  refine hTake 5 (v := ?_) rfl (by kernel_rfl) (by kernel_rfl) (by kernel_rfl) (fun _ _ _ h => h) (by rfl) ?_ hHeld ?_
  rotate_left
  · intro w hSw; (try dsimp only at hSw); go_simp; (try with_reducible rfl)
  try simp only [Act.put, List.setIfInBounds_toArray, List.set_cons_zero, List.set_cons_succ]
  refine hTake 6 (v := ?_) rfl (by kernel_rfl) (by kernel_rfl) (by kernel_rfl) (fun _ _ _ h => h) (by rfl) ?_ hHeld ?_
  rotate_left
  · intro w hSw; (try dsimp only at hSw); go_simp; (try with_reducible rfl)
  try simp only [Act.put, List.setIfInBounds_toArray, List.set_cons_zero, List.set_cons_succ]
  refine hTake 7 (v := ?_) rfl (by kernel_rfl) (by kernel_rfl) (by kernel_rfl) (fun _ _ _ h => h) (by rfl) ?_ hHeld ?_
  rotate_left
  · intro w hSw; (try dsimp only at hSw); go_simp; (try with_reducible rfl)
  try simp only [Act.put, List.setIfInBounds_toArray, List.set_cons_zero, List.set_cons_succ]
  refine hTake 8 (v := ?_) rfl (by kernel_rfl) (by kernel_rfl) (by kernel_rfl) (fun _ _ _ h => h) (by rfl) ?_ hHeld ?_
  rotate_left
  · intro w hSw; (try dsimp only at hSw); go_simp; (try with_reducible rfl)
  try simp only [Act.put, List.setIfInBounds_toArray, List.set_cons_zero, List.set_cons_succ]
  refine hTake 9 (v := (.slice (cutA (some ⟨g, 0, none⟩) L i) (L - i) (L - i))) rfl (by kernel_rfl) (by kernel_rfl) (by kernel_rfl) (fun _ _ _ h => h) (by rfl) ?_ hHeld ?_
  · intro w hSw; have h1 := run_cutFrom w (some ⟨g, 0, none⟩) L L i hle; go_simp; (try with_reducible rfl)
  try simp only [Act.put, List.setIfInBounds_toArray, List.set_cons_zero, List.set_cons_succ]
  refine hStep 10 rfl (by kernel_rfl) (by rfl) (fun K hK => ?_)
  have HK := Lib.hid hK
  clear hK
  have hown2' : OwnB w1.heap.size w2.drew (.slice (some ⟨w1.heap.size, 0, none⟩) m m) (List.replicate m 0) := hown2.out.keptT (T := fun _ => False) (Kept.drew _ _) (fun _ _ h => h)
  refine wp_copy_u8 (.tmp 12) (.tmp 21) rfl w1.heap.size w1.heap.size m _ rfl (by simp) hown2' (cutA (some ⟨g, 0, none⟩) L i) (L - i) (L - i) (l.drop i) rfl ?_ ?_ hmL ?_
  · rw [List.length_drop, ← HL.out]
  · have hc := HR2.out.bs.cutFrom (lo := i) (by rw [← HL.out]; exact hle)
    rw [← HL.out] at hc
    exact hc.below (Below.refl _ _).drew
  intro w3 hown3 hk3
  have hpg : p < w1.heap.size := HR1.out.lt
  have hgg : l ≠ [] → g < w1.heap.size := fun hne => HR1.out.bs.block_lt rfl hne
  have HR3 : Hid (Rd w3 p g l i false) := by
    refine ⟨?_, ?_, HR2.out.le, HR2.out.ne, HR2.out.small⟩
    · rw [hk3.block p HR2.out.lt (by omega)]; exact HR2.out.cell
    · by_cases hl0 : l = []
      · subst hl0; exact ⟨Nat.le_refl _, by simp, by simp, .inl rfl⟩
      · refine (HR2.out.bs.below ((Below.refl w2.heap.size w2).drew)).kept hk3 ?_
        rintro x hx; cases hx
        have := hgg hl0
        show g ≠ _
        omega
  have h30 := HR3.out.at0
  rw [← HL.out] at h30
  have hHeldN := (show w3.cell? ⟨p, 0, none⟩ = some (.slice (some ⟨g, 0, none⟩) L L) ∧ w3.cell? ⟨p, 1, none⟩ = some (.int .i64 (i : Int)) from ⟨h30, HR3.out.at1⟩)
  refine HK.out _ _ hHeldN ?_
  clear HK K hHeld
  have hHeld := hHeldN
  clear hHeldN
  try simp only [Act.put, List.setIfInBounds_toArray, List.set_cons_zero, List.set_cons_succ]
  refine hDone (by kernel_rfl) ?_
  show NoPanic _ _ _ _
  refine NoPanic.normal ?_
  have h31 := HR3.out.at1
  have hf1 := HR3.out.free 1
  go_wp2
  go_ret
  refine ⟨_, rfl, ?_, ?_, ?_⟩
  · refine (hown3.rebase (base' := w.heap.size) ?_).keptT (T := (· = p)) (Kept.setCell _ _ _ rfl) ?_
    · intro k hk
      cases hk
      exact hK1.size
    · intro k hk
      cases hk
      show ¬ (w1.heap.size = p)
      omega
  · have := HR3.out.move (j := i + m) (by rw [← HL.out]; omega)
    rw [Int.natCast_add] at this
    exact this
  · refine hK1.trans (U := fun k => k = p ∨ w1.heap.size ≤ k) ?_ fun k hk => hk.imp id fun h => Nat.le_trans hK1.size h
    refine (Kept.ofBelow hb2 _).trans (U := fun k => k = p ∨ w1.heap.size ≤ k) ?_ fun k hk => .inl hk
    refine (Kept.drew _ _).trans (U := fun k => k = p ∨ w1.heap.size ≤ k) ?_ fun k hk => .inl hk
    refine (hk3.mono fun k hk => .inr (by omega)).trans (U := (· = p)) (Kept.setCell _ _ _ rfl) fun k hk => .inl (.inl hk)

/-- The number of bytes, the higher ahead. -/
def beV (l : List UInt8) : Nat := l.foldl (fun v c => v * 256 + c.toNat) 0
theorem beV_snoc (l : List UInt8) (c : UInt8) : beV (l ++ [c]) = beV l * 256 + c.toNat := by simp [beV]
theorem beV_from (l : List UInt8) : ∀ v, l.foldl (fun v c => v * 256 + c.toNat) v < (v + 1) * 256 ^ l.length := by
  induction l with
  | nil => intro v; simp
  | cons c l ih =>
    intro v
    have h := ih (v * 256 + c.toNat)
    have hc := c.toNat_lt
    have h2 : (v * 256 + c.toNat + 1) * 256 ^ l.length ≤ ((v + 1) * 256) * 256 ^ l.length := Nat.mul_le_mul_right _ (by omega)
    rw [List.length_cons, Nat.pow_succ, Nat.mul_comm (256 ^ l.length), ← Nat.mul_assoc]
    exact Nat.lt_of_lt_of_le h h2
theorem beV_lt (l : List UInt8) : beV l < 256 ^ l.length := by have := beV_from l 0; simpa [beV] using this
theorem or_bytes (V c : Nat) (hV : V < 72057594037927936) (hc : c < 256) : bits BinOp.or IntKind.u64 ((V : Int) * 256) (c : Int) = ((V * 256 + c : Nat) : Int) := by
  have e : (V : Int) * 256 = ((V * 256 : Nat) : Int) := by omega
  rw [e, u64_or_nat _ _ (by omega) (by omega)]
  congr 1
  rw [show V * 256 = 2 ^ 8 * V by omega, Nat.two_pow_add_eq_or_of_lt (by omega) V]

/-- how many bytes Num asks for -/
def askN (n : Int) : Int := if n < 1 ∨ 8 < n then -1 else n

set_option maxRecDepth 100000 in
theorem RNum_any {p g : Nat} {l : List UInt8} {i : Nat} {s : Bool} (n : Int) (w : World) (h : Rd w p g l i s) (hn1 : -9223372036854775808 ≤ n) (hn2 : n ≤ 9223372036854775807) :
    Calls Try.prog 52 #[.pointer (some ⟨p, 0, none⟩), .int .i64 n] w fun e w' =>
      e = .returned (.int .u64 (beV (takenN l i s (askN n)))) ∧ Rd w' p g l (nextN l i s (askN n)) (!hasN l i s (askN n)) ∧ Kept (· = p) w w' := by
  have H := Lib.hid h
  clear h
  have hlen : (takenN l i s (askN n)).length ≤ 8 := by
    unfold takenN
    split
    · rename_i h1
      have : askN n ≤ 8 := by unfold askN; split <;> omega
      rw [List.length_take]; omega
    · simp
  obtain ⟨T, hT⟩ : ∃ T, T = takenN l i s (askN n) := ⟨_, rfl⟩
  have HT0 := Lib.hid hT
  rw [← hT] at hlen ⊢
  clear hT
  by_cases ha : n < 1
  · have HA : Hid (askN n = -1) := if_pos (.inl ha)
    go_enter Try.func52, Try.ntmps52
    go_wp2_with fail
    refine (RTake_any (-1) _ H.out (by omega) (by omega)).mono ?_
    rintro e w1 ⟨v, rfl, hown, hR, hK⟩
    rw [← HA.out, ← HT0.out] at hown
    rw [← HA.out] at hR
    obtain ⟨a, c, m, hv, hm, hbs, -, -⟩ := hown.bsn
    rw [hv]
    have HM := Lib.hid hm
    have HB := Lib.hid hbs
    have hm8 : m ≤ 8 := by omega
    have HF := Lib.hid (And.intro hR hK)
    clear hv hm hbs hown hR hK hlen
    go_wp2
    go_loop [5, 18] (fun x k => ∃ j : Nat, j ≤ m ∧ k = .int .i64 j ∧ x = .int .u64 (beV (T.take j))) (fun _ k => m - (intOf k).toNat)
    case atStart => exact ⟨0, Nat.zero_le _, rfl, rfl⟩
    case round =>
      obtain ⟨j, hj, rfl, rfl⟩ := hrel
      by_cases hlt : j < m
      · obtain ⟨b, off, rfl, hcell, hbk⟩ := HB.out.at (k := j) (by have h1 := HM.out; omega)
        have hV : beV (T.take j) < 72057594037927936 := by
          have h1 := beV_lt (T.take j)
          have h2 : 256 ^ (T.take j).length ≤ 256 ^ 7 := Nat.pow_le_pow_right (by decide) (by rw [List.length_take]; omega)
          omega
        have HT : Hid (beV (T.take (j + 1)) = beV (T.take j) * 256 + (T.getD j 0).toNat) := by
          show _ = _
          rw [take_snoc T 0 j (by have h1 := HM.out; omega), beV_snoc]
        have hcl := (T.getD j 0).toNat_lt
        generalize (T.getD j 0).toNat = d at *
        generalize beV (T.take j) = V at *
        have hcl' : d < 256 := hcl
        obtain ⟨U, hU⟩ : ∃ U, U = V * 256 + d := ⟨_, rfl⟩
        have HOR := or_bytes V d hV hcl'
        rw [← hU] at HOR HT
        clear hU
        go_wp2
        go_round
        case rel => exact ⟨j + 1, by omega, by go_num, by rw [HT.out]⟩
        case measure => simp [intOf]; omega
      · obtain rfl : j = m := by omega
        have HE : Hid (beV (T.take j) = beV T) := by show _ = _; rw [List.take_of_length_le (by have h1 := HM.out; omega)]
        rw [HE.out]
        go_wp2
        go_ret
        exact ⟨rfl, HF.out.1, HF.out.2⟩
  by_cases hb : 8 < n
  · have HA : Hid (askN n = -1) := if_pos (.inr hb)
    go_enter Try.func52, Try.ntmps52
    go_wp2_with fail
    refine (RTake_any (-1) _ H.out (by omega) (by omega)).mono ?_
    rintro e w1 ⟨v, rfl, hown, hR, hK⟩
    rw [← HA.out, ← HT0.out] at hown
    rw [← HA.out] at hR
    obtain ⟨a, c, m, hv, hm, hbs, -, -⟩ := hown.bsn
    rw [hv]
    have HM := Lib.hid hm
    have HB := Lib.hid hbs
    have hm8 : m ≤ 8 := by omega
    have HF := Lib.hid (And.intro hR hK)
    clear hv hm hbs hown hR hK hlen
    go_wp2
    go_loop [5, 18] (fun x k => ∃ j : Nat, j ≤ m ∧ k = .int .i64 j ∧ x = .int .u64 (beV (T.take j))) (fun _ k => m - (intOf k).toNat)
    case atStart => exact ⟨0, Nat.zero_le _, rfl, rfl⟩
    case round =>
      obtain ⟨j, hj, rfl, rfl⟩ := hrel
      by_cases hlt : j < m
      · obtain ⟨b, off, rfl, hcell, hbk⟩ := HB.out.at (k := j) (by have h1 := HM.out; omega)
        have hV : beV (T.take j) < 72057594037927936 := by
          have h1 := beV_lt (T.take j)
          have h2 : 256 ^ (T.take j).length ≤ 256 ^ 7 := Nat.pow_le_pow_right (by decide) (by rw [List.length_take]; omega)
          omega
        have HT : Hid (beV (T.take (j + 1)) = beV (T.take j) * 256 + (T.getD j 0).toNat) := by
          show _ = _
          rw [take_snoc T 0 j (by have h1 := HM.out; omega), beV_snoc]
        have hcl := (T.getD j 0).toNat_lt
        generalize (T.getD j 0).toNat = d at *
        generalize beV (T.take j) = V at *
        have hcl' : d < 256 := hcl
        obtain ⟨U, hU⟩ : ∃ U, U = V * 256 + d := ⟨_, rfl⟩
        have HOR := or_bytes V d hV hcl'
        rw [← hU] at HOR HT
        clear hU
        go_wp2
        go_round
        case rel => exact ⟨j + 1, by omega, by go_num, by rw [HT.out]⟩
        case measure => simp [intOf]; omega
      · obtain rfl : j = m := by omega
        have HE : Hid (beV (T.take j) = beV T) := by show _ = _; rw [List.take_of_length_le (by have h1 := HM.out; omega)]
        rw [HE.out]
        go_wp2
        go_ret
        exact ⟨rfl, HF.out.1, HF.out.2⟩
  have HA : Hid (askN n = n) := if_neg (by omega)
  go_enter Try.func52, Try.ntmps52
  go_wp2_with fail
  refine (RTake_any n _ H.out (by omega) (by omega)).mono ?_
  rintro e w1 ⟨v, rfl, hown, hR, hK⟩
  rw [← HA.out, ← HT0.out] at hown
  rw [← HA.out] at hR
  obtain ⟨a, c, m, hv, hm, hbs, -, -⟩ := hown.bsn
  rw [hv]
  have HM := Lib.hid hm
  have HB := Lib.hid hbs
  have hm8 : m ≤ 8 := by omega
  have HF := Lib.hid (And.intro hR hK)
  clear hv hm hbs hown hR hK hlen
  go_wp2
  go_loop [5, 18] (fun x k => ∃ j : Nat, j ≤ m ∧ k = .int .i64 j ∧ x = .int .u64 (beV (T.take j))) (fun _ k => m - (intOf k).toNat)
  case atStart => exact ⟨0, Nat.zero_le _, rfl, rfl⟩
  case round =>
    obtain ⟨j, hj, rfl, rfl⟩ := hrel
    by_cases hlt : j < m
    · obtain ⟨b, off, rfl, hcell, hbk⟩ := HB.out.at (k := j) (by have h1 := HM.out; omega)
      have hV : beV (T.take j) < 72057594037927936 := by
        have h1 := beV_lt (T.take j)
        have h2 : 256 ^ (T.take j).length ≤ 256 ^ 7 := Nat.pow_le_pow_right (by decide) (by rw [List.length_take]; omega)
        omega
      have HT : Hid (beV (T.take (j + 1)) = beV (T.take j) * 256 + (T.getD j 0).toNat) := by
        show _ = _
        rw [take_snoc T 0 j (by have h1 := HM.out; omega), beV_snoc]
      have hcl := (T.getD j 0).toNat_lt
      generalize (T.getD j 0).toNat = d at *
      generalize beV (T.take j) = V at *
      have hcl' : d < 256 := hcl
      obtain ⟨U, hU⟩ : ∃ U, U = V * 256 + d := ⟨_, rfl⟩
      have HOR := or_bytes V d hV hcl'
      rw [← hU] at HOR HT
      clear hU
      go_wp2
      go_round
      case rel => exact ⟨j + 1, by omega, by go_num, by rw [HT.out]⟩
      case measure => simp [intOf]; omega
    · obtain rfl : j = m := by omega
      have HE : Hid (beV (T.take j) = beV T) := by show _ = _; rw [List.take_of_length_le (by have h1 := HM.out; omega)]
      rw [HE.out]
      go_wp2
      go_ret
      exact ⟨rfl, HF.out.1, HF.out.2⟩
end Go.Proofs.Ytammicdgpdnihaa
