/- Walks of layer 7: frame.Read, and the stream's Left and Next. -/
import Derived.Test.YtammicdgpdnihaaFrameFront
import Derived.BigRegion
namespace Go.Proofs.Ytammicdgpdnihaa
open Go.RowKit

theorem run_cut3 (w : World) (a : Option Addr) (n cap lo : Nat) (h1 : lo ≤ n) (h2 : n ≤ cap) :
    (Instr.sliceAt 24 (.slice a n cap) (some (.int .i64 (lo : Int))) (some (.int .i64 (n : Int))) (some (.int .i64 (n : Int)))).run Try.prog w = .ok (.slice (cutA a n lo) (n - lo) (n - lo)) w := by
  obtain ⟨i0, hi0, hz0, hz1, hz2⟩ := info_parts info_u8
  simp [Instr.sliceAt, Instr.slice, run_underlying Try.underlying24, Instr.sliceBounds, Instr.sliceBound, asIntOf, sizeOf, typeInfo, hi0, hz1, h1, h2, cutA]
theorem Bs.shrink {w : World} {a : Option Addr} {cap : Nat} {l : List UInt8} (h : Bs w a cap l) : Bs w a l.length l :=
  ⟨Nat.le_refl _, Nat.le_trans h.le h.top, fun ha => by have := h.nil ha; have := h.le; omega, h.cells⟩
theorem cutA_block {a : Option Addr} {cap lo g : Nat} (h : ∀ x, a = some x → x.block = g) : ∀ x, cutA a cap lo = some x → x.block = g := by
  intro x hx
  unfold cutA at hx
  split at hx
  · exact h x hx
  · obtain ⟨y, hy, rfl⟩ := Option.map_eq_some_iff.1 hx
    rw [← h y hy]
    unfold Addr.add
    split <;> rfl

/-- The stream at block p has the bytes L left, which lie in the block g. -/
structure St (w : World) (p g : Nat) (L : List UInt8) : Prop where
  ex : ∃ a n c, w.heap[p]? = some (.cells #[.slice a n c] 76 (0, 0)) ∧ n = L.length ∧ Bs w a c L ∧ ∀ x, a = some x → x.block = g
  ne : g ≠ p
theorem St.lt {w : World} {p g : Nat} {L : List UInt8} (h : St w p g L) : p < w.heap.size := by
  obtain ⟨a, n, c, hc, _⟩ := h.ex
  exact (Array.getElem?_eq_some_iff.1 hc).1
theorem St.below {w w' : World} {p g : Nat} {L : List UInt8} (h : St w p g L) (hb : Below w.heap.size w w') : St w' p g L := by
  obtain ⟨a, n, c, hc, hn, hbs, hg⟩ := h.ex
  exact ⟨⟨a, n, c, by rw [hb.block p h.lt]; exact hc, hn, hbs.below hb, hg⟩, h.ne⟩

set_option maxRecDepth 100000 in
theorem streamRead_any (a : Option Addr) (l : List UInt8) (n cap : Nat) (w : World) (hn : n = l.length) (hmax : n ≤ 100000000) (hb : Bs w a cap l) :
    Calls Try.prog 38 #[.slice a n cap] w fun e w' => ∃ p g, e = .returned (.pointer (some ⟨p, 0, none⟩)) ∧ St w' p g l ∧ w.heap.size ≤ p ∧ w.heap.size ≤ g ∧ Below w.heap.size w w' := by
  have HN := Lib.hid hn
  have HB := Lib.hid hb
  clear hn hb
  go_enter Try.func38, Try.ntmps38
  go_wp2_with (first
    | (refine wpList_copy_u8 rfl (.tmp 7) (.tmp 8) rfl w.heap.size w.heap.size n _ rfl (by simp) hown1.out a n cap l rfl HN.out (HB.out.below hb1) (Nat.le_refl _) ?_; intro w2 hown2 hk2; have hown2 := Lib.hid hown2)
    | (refine wpList_make_u8 rfl (.tmp 5) (.tmp 5) rfl n rfl rfl (by omega) ?_; intro w1 hown1 hb1))
  have h2 := hown2.out
  rw [List.take_of_length_le (by rw [← HN.out]; exact Nat.le_refl _)] at h2
  have hb2 : Below w.heap.size w w2 := hb1.trans (hk2.below hb1.size (by rintro i rfl; exact Nat.le_refl _))
  go_ret
  obtain ⟨a2, c2, hv2, hbs2, hob2, hin2⟩ := h2.bs
  cases hv2
  have hg : w.heap.size < w2.heap.size := (hin2 _ rfl).2
  refine ⟨_, w.heap.size, rfl, ⟨⟨_, _, _, heap_alloc_new w2 _, HN.out, ?_, by rintro x hx; cases hx; rfl⟩, by omega⟩, ?_, Nat.le_refl _, hb2.alloc (by omega) _⟩
  · exact hbs2.below ((Below.refl _ _).alloc (Nat.le_refl _) _)
  · exact hb2.size

theorem SLeft_any {p g : Nat} {L : List UInt8} (w : World) (h : St w p g L) :
    Calls Try.prog 39 #[.pointer (some ⟨p, 0, none⟩)] w fun e w' => e = .returned (.int .i64 (L.length : Nat)) ∧ w = w' := by
  obtain ⟨a, n, c, hc, hn, hbs, hg⟩ := h.ex
  have hcell : w.cell? ⟨p, 0, none⟩ = some (.slice a n c) := by rw [cell_of_row w p 0 _ _ _ hc]; rfl
  have hfit := hbs.fits hn
  rw [← hn]
  clear h hc hn hbs hg
  go_enter Try.func39, Try.ntmps39
  go_wp2
  go_ret
  exact ⟨rfl, rfl⟩

/-- What is left behind Next. -/
def nextF (L : List UInt8) : List UInt8 := if (frontF L).why = 0 then L.drop (frontF L).n else L
def NextP (base : Nat) (L : List UInt8) (e : Ending) (w' : World) : Prop :=
  ∃ x, e = .returned (.tuple #[.int .u8 ((frontF L).kind.toNat : Int), x, .int .i64 (((frontF L).why : Nat) : Int)]) ∧ OwnB base w' x (frontF L).load

set_option maxRecDepth 100000 in
theorem SNext_none {p g : Nat} (w : World) (h : St w p g []) :
    Calls Try.prog 40 #[.pointer (some ⟨p, 0, none⟩)] w fun e w' => e = .returned (.tuple #[.int .u8 0, .slice none 0 0, .int .i64 7]) ∧ w = w' := by
  have H := Lib.hid h
  clear h
  go_enter Try.func40, Try.ntmps40
  go_wp2_with fail
  refine (SLeft_any _ H.out).mono ?_
  rintro e w1 ⟨rfl, rfl⟩
  go_wp2
  go_ret3
  exact ⟨rfl, rfl⟩

set_option maxRecDepth 100000 in
set_option maxHeartbeats 2000000 in
theorem SNext_any {p g : Nat} {L : List UInt8} (w : World) (h : St w p g L) (hne : L ≠ []) (hmax : L.length ≤ 10000000) :
    Calls Try.prog 40 #[.pointer (some ⟨p, 0, none⟩)] w fun e w' => NextP w.heap.size L e w' ∧ St w' p g (nextF L) ∧ Kept (· = p) w w' := by
  have H := Lib.hid h
  obtain ⟨a, n, c, hc, hn, hbs, hg⟩ := h.ex
  have hcell : w.cell? ⟨p, 0, none⟩ = some (.slice a n c) := by rw [cell_of_row w p 0 _ _ _ hc]; rfl
  have hp := h.lt
  have hgp := h.ne
  have hn0 : n ≠ 0 := fun h0 => hne (List.eq_nil_of_length_eq_zero (by omega))
  have hnz : ((n : Int) == 0) = false := by rw [beq_eq_false_iff_ne]; omega
  have hnm : n ≤ 10000000 := by omega
  have HN := Lib.hid hn
  have HB := Lib.hid hbs
  have HG := Lib.hid hg
  have HC := Lib.hid hc
  clear h hc hn hbs hg hmax
  go_enter Try.func40, Try.ntmps40
  go_wp2_with fail
  refine (SLeft_any _ H.out).mono ?_
  rintro e w1 ⟨rfl, rfl⟩
  rw [← HN.out]
  go_wp2_with fail
  refine (front_any a L n c _ HN.out hnm HB.out).mono ?_
  rintro e w1 ⟨⟨x, rfl, hox⟩, hb1⟩
  obtain ⟨ax, cx, nx, hvx, -, -, -, -⟩ := hox.bsn
  subst hvx
  have HOX := Lib.hid hox
  have hsz := hb1.size
  have HC1 : Hid (w1.heap[p]? = some (.cells #[.slice a n c] 76 (0, 0))) := by show _ = _; rw [hb1.block p hp]; exact HC.out
  have HF : Hid (w1.frozen? ⟨p, 0, none⟩ = false) := by show _ = _; simp [World.frozen?, HC1.out]
  have HS1 := Lib.hid (H.out.below hb1)
  have HB1 := Lib.hid (HB.out.below hb1)
  have hnc : n ≤ c := by have h5 := HN.out; have h6 := HB.out.le; omega
  clear hox
  by_cases hy : (frontF L).why = 0
  · have hX : nextF L = L.drop (frontF L).n := if_pos hy
    have HSO := Lib.hid (frontF_sound hy)
    have HP : Hid (∀ e w', e = .returned (.tuple #[.int .u8 ((frontF L).kind.toNat : Int), .slice ax nx cx, .int .i64 0]) → OwnB w.heap.size w' (.slice ax nx cx) (frontF L).load → NextP w.heap.size L e w') := fun e w' he ho => ⟨_, by rw [he, hy]; rfl, ho⟩
    rw [hy]
    obtain ⟨m, hm⟩ : ∃ m, m = (frontF L).n := ⟨_, rfl⟩
    obtain ⟨kd, hkd⟩ : ∃ d, d = (frontF L).kind.toNat := ⟨_, rfl⟩
    rw [← hkd] at HP
    have hmn : m ≤ n := by rw [hm, HN.out]; exact HSO.out.2.1
    rw [← hm] at hX
    rw [← hm, ← hkd]
    have HX := Lib.hid hX
    clear hy hX hm hkd
    obtain ⟨A2, hA2⟩ : ∃ A2, A2 = cutA a n m := ⟨_, rfl⟩
    obtain ⟨c2, hc2⟩ : ∃ c2, c2 = n - m := ⟨_, rfl⟩
    have HCUT : Hid (∀ w' : World, (Instr.sliceAt 24 (.slice a n c) (some (.int .i64 (m : Int))) (some (.int .i64 (n : Int))) (some (.int .i64 (n : Int)))).run Try.prog w' = .ok (.slice A2 c2 c2) w') := fun w' => by
      rw [hA2, hc2]; exact run_cut3 w' a n c m hmn hnc
    have HA2 : Hid (∀ w', Kept (· = p) w1 w' → Bs w' A2 c2 (L.drop m) ∧ c2 = (L.drop m).length ∧ ∀ x, A2 = some x → x.block = g) := fun w' hk => by
      have hb' : Bs w1 (cutA a n m) (n - m) (L.drop m) := by
        have h9 := HB1.out.shrink.cutFrom (lo := m) (by have := HN.out; omega)
        rw [← HN.out] at h9
        exact h9
      have hcb := cutA_block (cap := n) (lo := m) HG.out
      refine ⟨?_, by rw [hc2, List.length_drop, HN.out], by rw [hA2]; exact hcb⟩
      rw [hA2, hc2]
      exact hb'.kept hk (fun x hx e => hgp (by rw [← hcb x hx]; exact e))
    have HLD : Hid (∀ w', Below w1.heap.size w1 w' → w'.cell? ⟨p, 0, none⟩ = some (.slice a n c)) := fun w' h => by
      rw [h.cell (show p < w1.heap.size by omega), cell_of_row w1 p 0 _ _ _ HC1.out]; rfl
    clear hA2 hc2
    have hld := HLD.out w1 (Below.refl _ _)
    have hfr := HF.out
    have hcut := HCUT.out
    go_wp2_with fail
    go_region
    clear hld hfr hcut
    have hK : Kept (· = p) w1 (w1.setCell ⟨p, 0, none⟩ (.slice A2 c2 c2)).drew := (Kept.setCell (T := (· = p)) _ _ _ rfl).trans (Kept.drew (· = p) _) (fun i hi => .inl hi)
    obtain ⟨ha1, ha2, ha3⟩ := HA2.out _ hK
    have HST : Hid (St (w1.setCell ⟨p, 0, none⟩ (.slice A2 c2 c2)).drew p g (L.drop m)) := ⟨⟨A2, c2, c2, by
      show (w1.setCell ⟨p, 0, none⟩ (.slice A2 c2 c2)).heap[p]? = _
      rw [heap_setCell_same w1 p 0 _ _ _ HC1.out]; rfl, ha2, ha1, ha3⟩, hgp⟩
    have HOXF : Hid (OwnB w.heap.size (w1.setCell ⟨p, 0, none⟩ (.slice A2 c2 c2)).drew (.slice ax nx cx) (frontF L).load) := HOX.out.keptT hK (fun z hz e => by have := (HOX.out.lt z hz).1; omega)
    have HKF : Hid (Kept (· = p) w (w1.setCell ⟨p, 0, none⟩ (.slice A2 c2 c2)).drew) := (Kept.ofBelow hb1 _).trans hK (fun i hi => .inl hi)
    clear hK ha1 ha2 ha3
    go_wp2
    go_ret3
    exact ⟨HP.out _ _ rfl HOXF.out, by rw [HX.out]; exact HST.out, HKF.out⟩
  · have hX : nextF L = L := if_neg hy
    have HX := Lib.hid hX
    have HP : Hid (∀ e w', e = .returned (.tuple #[.int .u8 ((frontF L).kind.toNat : Int), .slice ax nx cx, .int .i64 (((frontF L).why : Nat) : Int)]) → OwnB w.heap.size w' (.slice ax nx cx) (frontF L).load → NextP w.heap.size L e w') := fun e w' he ho => ⟨_, by rw [he], ho⟩
    obtain ⟨y, hyd⟩ : ∃ y, y = (frontF L).why := ⟨_, rfl⟩
    obtain ⟨m, hm⟩ : ∃ m, m = (frontF L).n := ⟨_, rfl⟩
    obtain ⟨kd, hkd⟩ : ∃ d, d = (frontF L).kind.toNat := ⟨_, rfl⟩
    rw [← hkd, ← hyd] at HP
    rw [← hyd] at hy
    rw [← hm, ← hkd, ← hyd]
    have hy3 : ((y : Int) == 0) = false := by rw [beq_eq_false_iff_ne]; omega
    clear hyd hm hkd hX hy
    go_wp2
    go_ret3
    exact ⟨HP.out _ _ rfl HOX.out, by rw [HX.out]; exact HS1.out, Kept.ofBelow hb1 _⟩
end Go.Proofs.Ytammicdgpdnihaa
