/- octet's Writer: what a writer is in memory, and its methods. -/
import Derived.Test.YtammicdgpdnihaaOwn
import Derived.Test.YtammicdgpdnihaaStr
import Derived.Test.YtammicdgpdnihaaRegion
namespace Go.Proofs.Ytammicdgpdnihaa
open Go.RowKit

/-- The writer at block p holds the bytes l, in the row of the slice v. -/
structure Wr (base : Nat) (w : World) (p : Nat) (v : Value) (l : List UInt8) : Prop where
  cell : w.heap[p]? = some (.cells #[v] 84 (0, 0))
  own : OwnB base w v l
  ge : base ≤ p
  ne : v.ownBlock ≠ some p

/-- The blocks that a writer's method may write to. -/
def WFoot (p : Nat) (v : Value) (k : Nat) : Prop := k = p ∨ v.ownBlock = some k

theorem Wr.kept {base : Nat} {w w' : World} {p : Nat} {v : Value} {l : List UInt8} (h : Wr base w p v l) {T : Nat → Prop} (hk : Kept T w w') (h1 : ¬ T p) (h2 : ∀ k, v.ownBlock = some k → ¬ T k) : Wr base w' p v l :=
  ⟨by rw [hk.block p (Array.getElem?_eq_some_iff.1 h.cell).1 h1]; exact h.cell, h.own.keptT hk h2, h.ge, h.ne⟩
theorem Wr.below {base : Nat} {w w' : World} {p : Nat} {v : Value} {l : List UInt8} (h : Wr base w p v l) (hb : Below w.heap.size w w') : Wr base w' p v l :=
  h.kept (T := fun _ => False) (Kept.ofBelow hb _) (fun h => h) (fun _ _ h => h)
theorem Wr.lt {base : Nat} {w : World} {p : Nat} {v : Value} {l : List UInt8} (h : Wr base w p v l) : p < w.heap.size := (Array.getElem?_eq_some_iff.1 h.cell).1
theorem Wr.foot {base : Nat} {w : World} {p : Nat} {v : Value} {l : List UInt8} (h : Wr base w p v l) : ∀ k, WFoot p v k → base ≤ k := by
  intro k hk
  rcases hk with rfl | hk
  · exact h.ge
  · exact (h.own.lt k hk).1
theorem WFoot.next {p : Nat} {v v' : Value} {w : World} {B : Nat} (hn : Near w v v') (hB : B ≤ w.heap.size) : ∀ k, WFoot p v' k → WFoot p v k ∨ B ≤ k := by
  intro k hk
  rcases hk with rfl | hk
  · exact .inl (.inl rfl)
  · exact (hn k hk).imp .inr (fun h => by omega)

/-- The world behind 'w.b = append(w.b, ..)'. -/
theorem Wr.store {base : Nat} {w w' : World} {p : Nat} {x x' : Value} {l l' : List UInt8} (h : Wr base w p x l) (hg : w.grownBy w' x.ownBlock) (hown : OwnB base w' x' l') (hn : Near w x x') :
    Wr base (w'.setCell ⟨p, 0, none⟩ x') p x' l' ∧ Kept (WFoot p x) w (w'.setCell ⟨p, 0, none⟩ x') := by
  have hp : w'.heap[p]? = some (.cells #[x] 84 (0, 0)) := by rw [hg.block p h.lt (fun e => h.ne e.symm)]; exact h.cell
  have hne : x'.ownBlock ≠ some p := by
    intro e
    rcases hn p e with h1 | h1
    · exact h.ne h1
    · have := h.lt; omega
  refine ⟨⟨?_, ?_, h.ge, hne⟩, ?_⟩
  · rw [heap_setCell_same w' p 0 _ _ _ hp]; rfl
  · exact hown.keptT (T := (· = p)) (Kept.setCell _ _ _ rfl) fun k hk e => hne (e ▸ hk)
  · exact (Kept.grown hg fun k hk => .inr hk).trans (Kept.setCell (T := (· = p)) _ _ _ rfl) fun i hi => .inl (.inl hi)
theorem Wr.near {w w1 w2 : World} {p : Nat} {x x1 : Value} (hk : Kept (WFoot p x) w w1) (hn : Near w x x1) (hk2 : Kept (WFoot p x1) w1 w2) : Kept (WFoot p x) w w2 :=
  hk.trans hk2 (WFoot.next hn (Nat.le_refl _))

theorem octetWrite_any (w : World) : Calls Try.prog 44 #[] w fun e w' => ∃ p, e = .returned (.pointer (some ⟨p, 0, none⟩)) ∧ Wr w.heap.size w' p (.slice none 0 0) [] ∧ Below w.heap.size w w' := by
  go_enter Try.func44, Try.ntmps44
  go_wp2
  go_ret
  exact ⟨w.heap.size, rfl, ⟨heap_alloc_new w _, OwnB.start _ _, Nat.le_refl _, by simp [Value.ownBlock]⟩, (Below.refl _ _).alloc (Nat.le_refl _) _⟩


def fitsN (n : Int) (v : Nat) : Bool := decide (1 ≤ n ∧ n ≤ 8 ∧ v < 2 ^ (8 * n.toNat))

set_option maxRecDepth 100000 in
theorem fits_any (n : Int) (v : Nat) (w : World) (hn1 : -9223372036854775808 ≤ n) (hn2 : n ≤ 9223372036854775807) (hv : v < 18446744073709551616) :
    Calls Try.prog 59 #[.int .i64 n, .int .u64 v] w fun e w' => e = .returned (.bool (fitsN n v)) ∧ w = w' := by
  by_cases h1 : n < 1
  · have hf : fitsN n v = false := decide_eq_false (by omega)
    rw [hf]
    go_enter Try.func59, Try.ntmps59
    go_wp2
    go_ret
    exact ⟨rfl, rfl⟩
  by_cases h8 : 8 < n
  · have hf : fitsN n v = false := decide_eq_false (by omega)
    rw [hf]
    go_enter Try.func59, Try.ntmps59
    go_wp2
    go_ret
    exact ⟨rfl, rfl⟩
  by_cases h7 : n = 8
  · subst h7
    have hf : fitsN 8 v = true := decide_eq_true ⟨by omega, by omega, hv⟩
    rw [hf]
    go_enter Try.func59, Try.ntmps59
    go_wp2
    go_ret
    exact ⟨rfl, rfl⟩
  have key : ∀ m : Nat, 1 ≤ m → m ≤ 7 → Calls Try.prog 59 #[.int .i64 (m : Int), .int .u64 v] w fun e w' => e = .returned (.bool (fitsN m v)) ∧ w = w' := by
    intro m hm1 hm7
    go_enter Try.func59, Try.ntmps59
    go_wp2
    go_ret
    refine ⟨ret_bool ?_, rfl⟩
    have e1 : ((m : Int) == 8) = false := by rw [beq_eq_false_iff_ne]; omega
    rw [e1, Bool.false_or]
    unfold fitsN
    rw [Bool.eq_iff_iff, decide_eq_true_eq, beq_iff_eq, Int.toNat_natCast]
    have e2 : ((v : Int) / 2 ^ (8 * m)) = ((v / 2 ^ (8 * m) : Nat) : Int) := by simp
    rw [e2]
    have hp : 0 < 2 ^ (8 * m) := Nat.pow_pos (by decide)
    constructor
    · intro h
      exact ⟨by omega, by omega, (Nat.div_eq_zero_iff_lt hp).1 (by omega)⟩
    · intro h
      have := (Nat.div_eq_zero_iff_lt hp).2 h.2.2
      omega
  obtain ⟨m, rfl⟩ : ∃ m : Nat, n = m := ⟨n.toNat, by omega⟩
  exact key m (by omega) (by omega)
/-- The last bytes of a number, the higher ahead: n bytes. -/
def beN (v : Nat) (n : Nat) : List UInt8 := (List.range n).map fun i => UInt8.ofNat (v / 2 ^ (8 * (n - 1 - i)) % 256)

theorem beN_length (v n : Nat) : (beN v n).length = n := by simp [beN]
theorem beN_take (v m k : Nat) (h : k + 1 ≤ m) : (beN v m).take (m - k) = (beN v m).take (m - (k + 1)) ++ [UInt8.ofNat (v / 2 ^ (8 * k) % 256)] := by
  have h1 : m - k = (m - (k + 1)) + 1 := by omega
  rw [h1, take_snoc _ 0 _ (by rw [beN_length]; omega)]
  congr 2
  unfold beN
  simp [List.getD, show m - (k + 1) < m by omega, show m - 1 - (m - (k + 1)) = k by omega]

set_option maxRecDepth 100000 in
theorem WNum_any (base : Nat) (p : Nat) (x : Value) (l : List UInt8) (n : Int) (v : Nat) (w : World) (h : Wr base w p x l) (hlen : l.length ≤ 100000000) (hn1 : -9223372036854775808 ≤ n) (hn2 : n ≤ 9223372036854775807) (hv : v < 18446744073709551616) :
    Calls Try.prog 45 #[.pointer (some ⟨p, 0, none⟩), .int .i64 n, .int .u64 v] w fun e w' =>
      e = .returned (.bool (fitsN n v)) ∧ ∃ x', Wr base w' p x' (if fitsN n v then l ++ beN v n.toNat else l) ∧ Kept (WFoot p x) w w' ∧ Near w x x' := by
  by_cases hf : fitsN n v = false
  · rw [hf]
    have HF := Lib.hid hf
    have h0 : Hid (Wr base w p x l) := h
    clear hf h
    show Calls _ _ _ _ fun e w' => e = .returned (.bool false) ∧ ∃ x', Wr base w' p x' l ∧ Kept (WFoot p x) w w' ∧ Near w x x'
    go_enter Try.func45, Try.ntmps45
    go_wp2_with fail
    refine (fits_any n v _ hn1 hn2 hv).mono ?_
    rintro e w1 ⟨rfl, rfl⟩
    rw [HF.out]
    go_wp2
    go_ret
    exact ⟨rfl, x, h0.out, Kept.refl _ _, Near.refl _ _⟩
  have hf' : fitsN n v = true := by simpa using hf
  rw [hf']
  obtain ⟨hm1, hm8, hvm⟩ := of_decide_eq_true hf'
  obtain ⟨m, rfl⟩ : ∃ m : Nat, n = m := ⟨n.toNat, by omega⟩
  have HF := Lib.hid hf'
  have H := Lib.hid h
  have hbase : base ≤ w.heap.size := by have := h.lt; have := h.ge; omega
  clear hf hf' h hvm
  go_enter Try.func45, Try.ntmps45
  go_wp2_with fail
  refine (fits_any m v _ hn1 hn2 hv).mono ?_
  rintro e w1 ⟨rfl, rfl⟩
  rw [HF.out]
  go_wp2
  go_loopw [7] (fun i wr => ∃ (k : Nat) (x' : Value), k ≤ m ∧ i = .int .i64 ((k : Int) - 1) ∧ Wr base wr p x' (l ++ (beN v m).take (m - k)) ∧ Kept (WFoot p x) w wr ∧ Near w x x') (fun i _ => (intOf i + 1).toNat)
  case atStart => exact ⟨m, x, Nat.le_refl _, rfl, by simpa using H.out, Kept.refl _ _, Near.refl _ _⟩
  case round =>
    obtain ⟨k, x', hk, rfl, hw, hkp, hnr⟩ := hrel
    by_cases hlt : 0 < k
    · obtain ⟨k, rfl⟩ : ∃ j, k = j + 1 := ⟨k - 1, by omega⟩
      rw [show (((k + 1 : Nat) : Int) - 1) = (k : Int) by omega]
      have HT := Lib.hid (beN_take v m k hk)
      have HW := Lib.hid hw
      obtain ⟨V, hV⟩ : ∃ V, V = v / 2 ^ (8 * k) := ⟨_, rfl⟩
      obtain ⟨d, hd⟩ : ∃ d, d = UInt8.ofNat (V % 256) := ⟨_, rfl⟩
      have HSH : (v : Int) / 2 ^ (8 * (k : Int)).toNat = (V : Int) := by
        rw [show (8 * (k : Int)).toNat = 8 * k by omega, hV]
        simp
      have HD : IntKind.u8.wrap (V : Int) = (d.toNat : Int) := by
        rw [IntKind.wrap_u8', hd]
        simp
      rw [← hV, ← hd] at HT
      clear hV hd
      have hw8 : IntKind.i64.wrap (8 * (k : Int)) = 8 * (k : Int) := by rw [IntKind.wrap_i64]; omega
      have hc : wr.cell? ⟨p, 0, none⟩ = some x' := by rw [cell_of_row wr p 0 _ _ _ hw.cell]; rfl
      have HC : Hid (∀ w', wr.drew.grownBy w' x'.ownBlock → w'.cell? ⟨p, 0, none⟩ = some x' ∧ w'.frozen? ⟨p, 0, none⟩ = false) := fun w' hg => by
        have hb : w'.heap[p]? = some (.cells #[x'] 84 (0, 0)) := by rw [hg.block p hw.lt (fun e => hw.ne e.symm)]; exact hw.cell
        refine ⟨by rw [cell_of_row w' p 0 _ _ _ hb]; rfl, ?_⟩
        simp [World.frozen?, hb]
      clear hw
      go_wp2
      refine hStart (fun _ => True) (by kernel_rfl) ?_
      have hHeld := True.intro
      have hcA : (wr.alloc (.cells #[.int .u8 (d.toNat : Int)] 5)).drew.cell? ⟨p, 0, none⟩ = some x' := (HC.out _ (World.grownBy_alloc wr.drew _ _)).1
      refine hTake 0 (v := ?_) rfl (by kernel_rfl) (by kernel_rfl) (by kernel_rfl) (fun _ _ _ h => h) (by rfl) ?_ hHeld ?_
      rotate_left
      · intro w hSw; (try dsimp only at hSw); go_simp; (try with_reducible rfl)
      try simp only [Act.put, List.setIfInBounds_toArray, List.set_cons_zero, List.set_cons_succ]
      refine hTake 1 (v := ?_) rfl (by kernel_rfl) (by kernel_rfl) (by kernel_rfl) (fun _ _ _ h => h) (by rfl) ?_ hHeld ?_
      rotate_left
      · intro w hSw; (try dsimp only at hSw); go_simp; (try with_reducible rfl)
      try simp only [Act.put, List.setIfInBounds_toArray, List.set_cons_zero, List.set_cons_succ]
      refine hTake 2 (v := ?_) rfl (by kernel_rfl) (by kernel_rfl) (by kernel_rfl) (fun _ _ _ h => h) (by rfl) ?_ hHeld ?_
      rotate_left
      · intro w hSw; (try dsimp only at hSw); go_simp; (try with_reducible rfl)
      try simp only [Act.put, List.setIfInBounds_toArray, List.set_cons_zero, List.set_cons_succ]
      refine hTake 3 (v := ?_) rfl (by kernel_rfl) (by kernel_rfl) (by kernel_rfl) (fun _ _ _ h => h) (by rfl) ?_ hHeld ?_
      rotate_left
      · intro w hSw; (try dsimp only at hSw); go_simp; (try with_reducible rfl)
      try simp only [Act.put, List.setIfInBounds_toArray, List.set_cons_zero, List.set_cons_succ]
      refine hTake 5 (v := ?_) rfl (by kernel_rfl) (by kernel_rfl) (by kernel_rfl) (fun _ _ _ h => h) (by rfl) ?_ hHeld ?_
      rotate_left
      · intro w hSw; (try dsimp only at hSw); go_simp; (try with_reducible rfl)
      try simp only [Act.put, List.setIfInBounds_toArray, List.set_cons_zero, List.set_cons_succ]
      refine hTake 6 (v := ?_) rfl (by kernel_rfl) (by kernel_rfl) (by kernel_rfl) (fun _ _ _ h => h) (by rfl) ?_ hHeld ?_
      rotate_left
      · intro w hSw; (try dsimp only at hSw); go_simp; (try with_reducible rfl)
      try simp only [Act.put, List.setIfInBounds_toArray, List.set_cons_zero, List.set_cons_succ]
      refine hTake 7 (v := (.int .i64 (8 * (k : Int)))) rfl (by kernel_rfl) (by kernel_rfl) (by kernel_rfl) (fun _ _ _ h => h) (by rfl) ?_ hHeld ?_
      · intro w hSw; have h1 := hw8; go_simp; (try with_reducible rfl)
      try simp only [Act.put, List.setIfInBounds_toArray, List.set_cons_zero, List.set_cons_succ]
      refine hTake 8 (v := (.int .u64 (V : Int))) rfl (by kernel_rfl) (by kernel_rfl) (by kernel_rfl) (fun _ _ _ h => h) (by rfl) ?_ hHeld ?_
      · intro w hSw; have h1 := HSH; go_simp; (try with_reducible rfl)
      try simp only [Act.put, List.setIfInBounds_toArray, List.set_cons_zero, List.set_cons_succ]
      refine hTake 9 (v := (.int .u8 (d.toNat : Int))) rfl (by kernel_rfl) (by kernel_rfl) (by kernel_rfl) (fun _ _ _ h => h) (by rfl) ?_ hHeld ?_
      · intro w hSw; have h1 := HD; go_simp; (try with_reducible rfl)
      try simp only [Act.put, List.setIfInBounds_toArray, List.set_cons_zero, List.set_cons_succ]
      have hc' : wr.drew.cell? ⟨p, 0, none⟩ = some x' := hc
      refine hAll2 4 10 rfl rfl (by kernel_rfl) (by rfl) (by rfl) (fun K hK => ?_) (fun K hK => ?_)
      · have HK := Lib.hid hK
        clear hK
        go_simp
        have hHeldN := True.intro
        refine HK.out _ _ hHeldN ?_
        clear HK K hHeld
        have hHeld := hHeldN
        clear hHeldN
        try simp only [Act.put, List.setIfInBounds_toArray, List.set_cons_zero, List.set_cons_succ]
        refine hStep 10 rfl (by kernel_rfl) (by rfl) (fun K hK => ?_)
        have HK := Lib.hid hK
        clear hK
        go_simp
        have hHeldN := True.intro
        refine HK.out _ _ hHeldN ?_
        clear HK K hHeld
        have hHeld := hHeldN
        clear hHeldN
        try simp only [Act.put, List.setIfInBounds_toArray, List.set_cons_zero, List.set_cons_succ]
        refine hStep 11 rfl (by kernel_rfl) (by rfl) (fun K hK => ?_)
        have HK := Lib.hid hK
        clear hK
        refine wp_append_u8_at (w := wr.drew) (.tmp 26) (.tmp 32) rfl base x' _ rfl HW.out.own _ d rfl rfl ?_ ?_ ?_
        · have h1 : ((beN v m).take (m - (k + 1))).length ≤ 8 := by rw [List.length_take, beN_length]; omega
          rw [List.length_append]; omega
        · have h1 := HW.out.lt; have h2 := HW.out.ge; show base ≤ wr.heap.size; omega
        intro x2 w2 hown2 hg2 hnear2
        obtain ⟨hc2, hf2⟩ := HC.out w2 hg2
        obtain ⟨xa, xc, xn, hxv, -, -, -, -⟩ := hown2.bsn
        subst hxv
        have hHeldN := True.intro
        refine HK.out _ _ hHeldN ?_
        clear HK K hHeld
        have hHeld := hHeldN
        clear hHeldN
        try simp only [Act.put, List.setIfInBounds_toArray, List.set_cons_zero, List.set_cons_succ]
        refine hTake 12 (v := ?_) rfl (by kernel_rfl) (by kernel_rfl) (by kernel_rfl) (fun _ _ _ h => h) (by rfl) ?_ hHeld ?_
        rotate_left
        · intro w hSw; (try dsimp only at hSw); go_simp; (try with_reducible rfl)
        try simp only [Act.put, List.setIfInBounds_toArray, List.set_cons_zero, List.set_cons_succ]
        refine hTake 13 (v := ?_) rfl (by kernel_rfl) (by kernel_rfl) (by kernel_rfl) (fun _ _ _ h => h) (by rfl) ?_ hHeld ?_
        rotate_left
        · intro w hSw; (try dsimp only at hSw); go_simp; (try with_reducible rfl)
        try simp only [Act.put, List.setIfInBounds_toArray, List.set_cons_zero, List.set_cons_succ]
        refine hStep 14 rfl (by kernel_rfl) (by rfl) (fun K hK => ?_)
        have HK := Lib.hid hK
        clear hK
        go_simp
        obtain ⟨hW2, hK2⟩ := Wr.store (w := wr.drew) (w' := w2) ⟨HW.out.cell, HW.out.own, HW.out.ge, HW.out.ne⟩ hg2 hown2 hnear2
        have hHeldN := True.intro
        refine HK.out _ _ hHeldN ?_
        clear HK K hHeld
        have hHeld := hHeldN
        clear hHeldN
        try simp only [Act.put, List.setIfInBounds_toArray, List.set_cons_zero, List.set_cons_succ]
        refine hDone (by kernel_rfl) ?_
        show NoPanic _ _ _ _
        refine NoPanic.normal ?_
        go_wp2
        go_roundw
        case rel => exact ⟨k, _, by omega, by go_num, by rw [HT.out, ← List.append_assoc]; exact hW2, Wr.near hkp hnr ((Kept.drew _ _).trans hK2 fun i hi => .inl hi), hnr.trans hnear2 hkp.size⟩
        case measure => simp [intOf] <;> omega
      · have HK := Lib.hid hK
        clear hK
        go_simp
        have hHeldN := True.intro
        refine HK.out _ _ hHeldN ?_
        clear HK K hHeld
        have hHeld := hHeldN
        clear hHeldN
        try simp only [Act.put, List.setIfInBounds_toArray, List.set_cons_zero, List.set_cons_succ]
        refine hStep 4 rfl (by kernel_rfl) (by rfl) (fun K hK => ?_)
        have HK := Lib.hid hK
        clear hK
        go_simp
        have hHeldN := True.intro
        refine HK.out _ _ hHeldN ?_
        clear HK K hHeld
        have hHeld := hHeldN
        clear hHeldN
        try simp only [Act.put, List.setIfInBounds_toArray, List.set_cons_zero, List.set_cons_succ]
        refine hStep 11 rfl (by kernel_rfl) (by rfl) (fun K hK => ?_)
        have HK := Lib.hid hK
        clear hK
        refine wp_append_u8_at (w := wr.drew) (.tmp 26) (.tmp 32) rfl base x' _ rfl HW.out.own _ d rfl rfl ?_ ?_ ?_
        · have h1 : ((beN v m).take (m - (k + 1))).length ≤ 8 := by rw [List.length_take, beN_length]; omega
          rw [List.length_append]; omega
        · have h1 := HW.out.lt; have h2 := HW.out.ge; show base ≤ wr.heap.size; omega
        intro x2 w2 hown2 hg2 hnear2
        obtain ⟨hc2, hf2⟩ := HC.out w2 hg2
        obtain ⟨xa, xc, xn, hxv, -, -, -, -⟩ := hown2.bsn
        subst hxv
        have hHeldN := True.intro
        refine HK.out _ _ hHeldN ?_
        clear HK K hHeld
        have hHeld := hHeldN
        clear hHeldN
        try simp only [Act.put, List.setIfInBounds_toArray, List.set_cons_zero, List.set_cons_succ]
        refine hTake 12 (v := ?_) rfl (by kernel_rfl) (by kernel_rfl) (by kernel_rfl) (fun _ _ _ h => h) (by rfl) ?_ hHeld ?_
        rotate_left
        · intro w hSw; (try dsimp only at hSw); go_simp; (try with_reducible rfl)
        try simp only [Act.put, List.setIfInBounds_toArray, List.set_cons_zero, List.set_cons_succ]
        refine hTake 13 (v := ?_) rfl (by kernel_rfl) (by kernel_rfl) (by kernel_rfl) (fun _ _ _ h => h) (by rfl) ?_ hHeld ?_
        rotate_left
        · intro w hSw; (try dsimp only at hSw); go_simp; (try with_reducible rfl)
        try simp only [Act.put, List.setIfInBounds_toArray, List.set_cons_zero, List.set_cons_succ]
        refine hStep 14 rfl (by kernel_rfl) (by rfl) (fun K hK => ?_)
        have HK := Lib.hid hK
        clear hK
        go_simp
        obtain ⟨hW2, hK2⟩ := Wr.store (w := wr.drew) (w' := w2) ⟨HW.out.cell, HW.out.own, HW.out.ge, HW.out.ne⟩ hg2 hown2 hnear2
        have hHeldN := True.intro
        refine HK.out _ _ hHeldN ?_
        clear HK K hHeld
        have hHeld := hHeldN
        clear hHeldN
        try simp only [Act.put, List.setIfInBounds_toArray, List.set_cons_zero, List.set_cons_succ]
        refine hDone (by kernel_rfl) ?_
        show NoPanic _ _ _ _
        refine NoPanic.normal ?_
        go_wp2
        go_roundw
        case rel => exact ⟨k, _, by omega, by go_num, by rw [HT.out, ← List.append_assoc]; exact hW2, Wr.near hkp hnr ((Kept.drew _ _).trans hK2 fun i hi => .inl hi), hnr.trans hnear2 hkp.size⟩
        case measure => simp [intOf] <;> omega
    · obtain rfl : k = 0 := by omega
      go_wp2
      go_ret
      refine ⟨rfl, x', ?_, hkp, hnr⟩
      have h2 := hw
      rw [List.take_of_length_le (by rw [beN_length]; omega)] at h2
      simpa using h2

theorem WRaw_any (base : Nat) (p : Nat) (x : Value) (l : List UInt8) (a : Option Addr) (n cap : Nat) (ls : List (List UInt8)) (w : World) (h : Wr base w p x l) (hn : n = ls.length) (hb : ∀ w', Kept (WFoot p x) w w' → Bss w' a cap ls)
    (hlen : (l ++ ls.flatten).length ≤ 100000000) :
    Calls Try.prog 47 #[.pointer (some ⟨p, 0, none⟩), .slice a n cap] w fun e w' =>
      e = .returned (.tuple #[]) ∧ ∃ x', Wr base w' p x' (l ++ ls.flatten) ∧ Kept (WFoot p x) w w' ∧ Near w x x' := by
  have hfit := (hb w (Kept.refl _ _)).fits hn
  have HN := Lib.hid hn
  have HB := Lib.hid hb
  have H := Lib.hid h
  have HL := Lib.hid hlen
  have hbase : base ≤ w.heap.size := by have := h.lt; have := h.ge; omega
  clear hn hb h hlen
  go_enter Try.func47, Try.ntmps47
  go_wp2
  go_loopw [10] (fun i wr => ∃ (k : Nat) (x' : Value), k ≤ n ∧ i = .int .i64 k ∧ Wr base wr p x' (l ++ (ls.take k).flatten) ∧ Kept (WFoot p x) w wr ∧ Near w x x') (fun i _ => n - (intOf i).toNat)
  case atStart => exact ⟨0, x, Nat.zero_le _, rfl, by simpa using H.out, Kept.refl _ _, Near.refl _ _⟩
  case round =>
    obtain ⟨k, x', hk, rfl, hw, hkp, hnr⟩ := hrel
    by_cases hlt : k < n
    · obtain ⟨b, off, ai, ci, rfl, hcell, hbs, hbi⟩ := (HB.out wr hkp).at (k := k) (by have h1 := HN.out; omega)
      have hc : wr.cell? ⟨p, 0, none⟩ = some x' := by rw [cell_of_row wr p 0 _ _ _ hw.cell]; rfl
      have HF := Lib.hid (flat_take_succ ls k (by have h1 := HN.out; omega))
      have HF2 := Lib.hid (flat_le ls (k + 1))
      generalize hP : ls.getD k [] = P at *
      obtain ⟨np, hnp⟩ : ∃ np, np = P.length := ⟨_, rfl⟩
      rw [← hnp] at hcell
      have HNP := Lib.hid hnp
      have HW := Lib.hid hw
      clear hnp hw
      have hroom : (l ++ (ls.take k).flatten).length + np ≤ 140737488355328 := by
        have h1 := HL.out; have h2 := HF2.out; have h3 := HF.out; have h4 := HNP.out
        rw [h3] at h2
        simp at h1 h2 ⊢; omega
      have HR := Lib.hid hroom
      have HBS : Hid (base ≤ wr.heap.size) := by have h1 := HW.out.lt; have h2 := HW.out.ge; show base ≤ wr.heap.size; omega
      have HC : Hid (∀ w', wr.grownBy w' x'.ownBlock → w'.cell? ⟨p, 0, none⟩ = some x' ∧ w'.frozen? ⟨p, 0, none⟩ = false) := fun w' hg => by
        have hb : w'.heap[p]? = some (.cells #[x'] 84 (0, 0)) := by rw [hg.block p HW.out.lt (fun e => HW.out.ne e.symm)]; exact HW.out.cell
        refine ⟨by rw [cell_of_row w' p 0 _ _ _ hb]; rfl, ?_⟩
        simp [World.frozen?, hb]
      clear hroom
      go_wp2_with (at_builtin; refine wpList_append_bs_at rfl (.tmp 18) (.tmp 19) rfl base x' _ rfl HW.out.own ai np ci P rfl HNP.out hbi HR.out HBS.out ?_; intro x2 w2 hown2 hg2 hnear2; obtain ⟨hc2, hf2⟩ := HC.out w2 hg2; obtain ⟨xa, xc, xn, hxv, -, -, -, -⟩ := hown2.bsn; subst hxv)
      obtain ⟨hW2, hK2⟩ := HW.out.store hg2 hown2 hnear2
      go_roundw
      case rel => exact ⟨k + 1, _, by omega, by go_num, by rw [HF.out, ← List.append_assoc]; exact hW2, Wr.near hkp hnr hK2, hnr.trans hnear2 hkp.size⟩
      case measure => simp [intOf]; omega
    · obtain rfl : k = n := by omega
      go_wp2
      refine bodyPost_end (results_none rfl _ _ _) rfl ?_
      refine ⟨rfl, x', ?_, hkp, hnr⟩
      have h2 := hw
      rw [List.take_of_length_le (by have h1 := HN.out; omega)] at h2
      exact h2

theorem WBytes_any (base : Nat) (p : Nat) (x : Value) (l : List UInt8) (w : World) (h : Wr base w p x l) (hlen : l.length ≤ 100000000) :
    Calls Try.prog 49 #[.pointer (some ⟨p, 0, none⟩)] w fun e w' =>
      ∃ v, e = .returned v ∧ OwnB w.heap.size w' v l ∧ Below w.heap.size w w' := by
  have hc : w.cell? ⟨p, 0, none⟩ = some x := by rw [cell_of_row w p 0 _ _ _ h.cell]; rfl
  have HC : Hid (∀ w', Below w.heap.size w w' → w'.cell? ⟨p, 0, none⟩ = some x) := fun w' hb => by rw [hb.cell h.lt]; exact hc
  obtain ⟨a, c, n, hv, hn, hb, -, hbl⟩ := h.own.bsn
  subst hv
  have HN := Lib.hid hn
  have HB := Lib.hid hb
  have hn100 : n ≤ 100000000 := by omega
  clear hn hb hlen hbl h
  go_enter Try.func49, Try.ntmps49
  go_wp2_with (first
    | (refine wpList_copy_u8 rfl (.tmp 12) (.tmp 16) rfl w.heap.size w.heap.size n _ rfl (by simp) hown1.out a n c l rfl HN.out (HB.out.below hb1) (Nat.le_refl _) ?_; intro w2 hown2 hk2; have hown2 := Lib.hid hown2)
    | (refine wpList_make_u8 rfl (.tmp 10) (.tmp 10) rfl n rfl rfl (by omega) ?_; intro w1 hown1 hb1; have hc1 := HC.out w1 hb1))
  have h2 := hown2.out
  rw [List.take_of_length_le (by rw [← HN.out]; exact Nat.le_refl _)] at h2
  go_ret
  exact ⟨_, rfl, h2, hb1.trans (hk2.below hb1.size (by rintro i rfl; exact Nat.le_refl _))⟩
end Go.Proofs.Ytammicdgpdnihaa
