/- The walk of the law OctetWrites: it returns true, and leaves what was there as it was. -/
import Derived.Test.YthicaomghefedaaLaw1Bytes
import Derived.Test.YthicaomghefedaaLaw1Awake
namespace Go.Proofs.Ythicaomghefedaa
open Go.RowKit

/-- The row of va is neither the writer's block p nor its row (that of x). -/
def Sep (va : Value) (p : Nat) (x : Value) : Prop := ∀ k, va.ownBlock = some k → k ≠ p ∧ x.ownBlock ≠ some k

theorem Sep.writer {va : Value} {p : Nat} {x x' : Value} {w : World} (h : Sep va p x) (hn : Near w x x') (hlt : ∀ k, va.ownBlock = some k → k < w.heap.size) : Sep va p x' := fun k hk => by
  refine ⟨(h k hk).1, fun e => ?_⟩
  rcases hn k e with h1 | h1
  · exact (h k hk).2 h1
  · have := hlt k hk; omega
theorem Sep.grow {va va' : Value} {p : Nat} {x : Value} {w : World} (h : Sep va p x) (hn : Near w va va') (hp : p < w.heap.size) (hx : ∀ k, x.ownBlock = some k → k < w.heap.size) : Sep va' p x := fun k hk => by
  rcases hn k hk with h1 | h1
  · exact h k h1
  · exact ⟨by omega, fun e => by have := hx k e; omega⟩

def numB (n : Int) (v : Nat) : List UInt8 := if 1 ≤ n ∧ n ≤ 8 then beN v n.toNat else []
theorem Sep.foot {va : Value} {p : Nat} {x : Value} (h : Sep va p x) : ∀ k, va.ownBlock = some k → ¬ WFoot p x k := fun k hk hf => by
  rcases hf with rfl | hf
  · exact (h _ hk).1 rfl
  · exact (h k hk).2 hf
theorem Wr.grow {base : Nat} {w w' : World} {p : Nat} {x va : Value} {B : List UInt8} (h : Wr base w p x B) (hs : Sep va p x) (hg : w.grownBy w' va.ownBlock) : Wr base w' p x B :=
  h.kept (T := fun k => va.ownBlock = some k) (Kept.grown hg fun _ hk => hk) (fun e => (hs p e).1 rfl) (fun k' hk e => (hs k' e).2 hk)

set_option maxRecDepth 100000 in
set_option maxHeartbeats 4000000 in
theorem OctetWrites_walk (a : Option Addr) (ls : List PutN) (n cap : Nat) (w : World) (hn : n = ls.length) (hb : Ps w a cap ls) :
    Calls Try.prog 4 #[.slice a n cap] w fun e w' => e = .returned (.bool true) ∧ Below w.heap.size w w' := by
  have hf := hb.fits hn
  have HN := Lib.hid hn
  have HB := Lib.hid hb
  clear hn hb
  by_cases hfew : fewN ls = false
  · have HF := Lib.hid hfew
    clear hfew
    go_enter Try.func4, Try.ntmps4
    go_wp2_with fail
    refine (few_any a ls n cap _ HN.out HB.out).mono ?_
    rintro e w1 ⟨rfl, rfl⟩
    rw [HF.out]
    go_wp2_with (go_at_call 11; refine (awake1 _).mono ?_; rintro e w1 ⟨rfl, hb1⟩)
    go_ret
    exact ⟨rfl, hb1⟩
  have hfew' : fewN ls = true := by simpa using hfew
  have hn60 : n ≤ 60 := by
    have h2 := HN.out
    unfold fewN at hfew'
    simp only [Bool.and_eq_true, decide_eq_true_eq] at hfew'
    omega
  have HLEN : Hid (∀ k, k < n → (ls.getD k PutN.zero).b.length ≤ 100) := fun k hk => by
    have h2 := HN.out
    unfold fewN at hfew'
    simp only [Bool.and_eq_true, decide_eq_true_eq, List.all_eq_true] at hfew'
    have hk' : k < ls.length := by omega
    have e : ls.getD k PutN.zero = ls[k] := by simp [List.getD, hk']
    rw [e]
    exact hfew'.2 _ (List.getElem_mem hk')
  have HF := Lib.hid hfew'
  clear hfew hfew'
  go_enter Try.func4, Try.ntmps4
  go_wp2_with fail
  refine (few_any a ls n cap _ HN.out HB.out).mono ?_
  rintro e w1 ⟨rfl, rfl⟩
  rw [HF.out]
  go_wp2_with fail
  refine (octetWrite_any _).mono ?_
  rintro e w1 ⟨p, rfl, hW1, hb1⟩
  have HW1 := Lib.hid hW1
  clear hW1
  go_wp2
  go_loopw [4, 5, 6, 7] (fun va i _ _ wr => ∃ (k : Nat) (x : Value) (B : List UInt8), k ≤ n ∧ i = .int .i64 (k : Int) ∧ Wr w.heap.size wr p x B ∧ OwnB w.heap.size wr va B ∧ Sep va p x ∧ B.length ≤ 108 * k ∧ Below w.heap.size w wr) (fun _ i _ _ _ => n - (intOf i).toNat)
  case atStart => exact ⟨0, _, [], Nat.zero_le _, rfl, HW1.out, OwnB.start _ _, (fun k hk => by cases hk), Nat.le_refl _, hb1⟩
  case round =>
    obtain ⟨k, x, B, hk, rfl, hW, hO, hsep, hlen, hbr⟩ := hrel
    obtain ⟨a4, c4, n4, hv4, hn4, hb4, -, -⟩ := hO.bsn
    subst hv4
    have HW := Lib.hid hW
    have HO := Lib.hid hO
    have HSEP := Lib.hid hsep
    have hwlt := hW.lt
    have hwge := hW.ge
    have HN4 := Lib.hid hn4
    have HB4 := Lib.hid hb4
    clear hW hO hsep hn4 hb4
    by_cases hlt : k < n
    · obtain ⟨b, off, ai, ci, rfl, hc0, hc1, hc2, hbs, hy1, hy2, hy3⟩ := HB.out.at (k := k) (by have h2 := HN.out; omega)
      have hy4 := HLEN.out k hlt
      generalize ls.getD k PutN.zero = y at *
      obtain ⟨yn, yv, yb⟩ := y
      dsimp only at hc0 hc1 hc2 hbs hy1 hy2 hy3 hy4
      have hbl : b < w.heap.size := World.block_lt_of_cell? w _ hc0
      obtain ⟨nb, hnb⟩ : ∃ nb, nb = yb.length := ⟨_, rfl⟩
      rw [← hnb] at hc2 hy4
      have HC0 : Hid (∀ w', Below w.heap.size w w' → w'.cell? ⟨b, off + k * 3, none⟩ = some (.int .i64 yn)) := fun w' h => by rw [h.cell hbl]; exact hc0
      have HC1 : Hid (∀ w', Below w.heap.size w w' → w'.cell? ⟨b, off + k * 3 + 1, none⟩ = some (.int .u64 (yv : Nat))) := fun w' h => by rw [h.cell hbl]; exact hc1
      have HC2 : Hid (∀ w', Below w.heap.size w w' → w'.cell? ⟨b, off + k * 3 + 2, none⟩ = some (.slice ai nb ci)) := fun w' h => by rw [h.cell hbl]; exact hc2
      have HNB := Lib.hid hnb
      have HBS := Lib.hid hbs
      clear hc0 hc1 hc2 hbs hnb
      have h0 := HC0.out wr hbr
      have h2 := HC2.out wr hbr
      by_cases hneg : yn < 0
      · go_wp2_with fail
        have hWA : Wr w.heap.size (wr.alloc (.cells #[.slice ai nb ci] 22)) p x B := HW.out.below ((Below.refl _ _).alloc (Nat.le_refl _) _)
        have hbA : Below w.heap.size w (wr.alloc (.cells #[.slice ai nb ci] 22)) := hbr.alloc hbr.size _
        have hOA : OwnB w.heap.size (wr.alloc (.cells #[.slice ai nb ci] 22)) (.slice a4 n4 c4) B := HO.out.below ((Below.refl _ _).alloc (Nat.le_refl _) _)
        refine (WRaw_any _ p x B _ 1 1 [yb] _ hWA rfl ?_ ?_).mono ?_
        · intro w' hk'
          have hbel : Below w.heap.size w w' := hbA.trans (hk'.below hbA.size hWA.foot)
          refine Bss.one yb HNB.out (g := wr.heap.size) (e := 22) (fr := (0, 0)) ?_ (HBS.out.below hbel)
          rw [hk'.block _ (by simp) (by
            rintro (h | h)
            · omega
            · have := (HW.out.own.lt _ h).2; omega)]
          exact heap_alloc_new wr _
        · have h3 := HNB.out; simp; omega
        rintro e w3 ⟨rfl, x3, hW3, hK3, hN3⟩
        rw [show ([yb].flatten : List UInt8) = yb by simp] at hW3
        have hbw3 : Below w.heap.size w w3 := hbA.trans (hK3.below hbA.size hWA.foot)
        have HO3 := Lib.hid (hOA.keptT hK3 HSEP.out.foot)
        have HW3 := Lib.hid hW3
        have hSep3 : Sep (.slice a4 n4 c4) p x3 := HSEP.out.writer hN3 (fun k hk => (hOA.lt k hk).2)
        have HSEP3 := Lib.hid hSep3
        have h23 := HC2.out w3 hbw3
        have HBS3 := Lib.hid (HBS.out.below hbw3)
        have hbase3 := hbw3.size
        have hp3 := hW3.lt
        have HX3 := Lib.hid (fun k (hk : x3.ownBlock = some k) => (HW3.out.own.lt k hk).2)
        have hroom : B.length + nb ≤ 140737488355328 := by omega
        have HROOM := Lib.hid hroom
        clear hWA hbA hOA hW3 hK3 hN3 hSep3 h0 h2 hroom
        go_wp2_with (at_builtin; refine wpList_append_bs_at rfl (.tmp 33) (.tmp 38) rfl w.heap.size (.slice a4 n4 c4) B rfl HO3.out ai nb ci yb rfl HNB.out HBS3.out HROOM.out hbase3 ?_; intro va2 w4 hown4 hg4 hnear4; obtain ⟨a5, c5, n5, hv5, -, -, -, -⟩ := hown4.bsn; subst hv5)
        have hW4 := HW3.out.grow HSEP3.out hg4
        go_roundw
        case rel => exact ⟨k + 1, x3, B ++ yb, by omega, by go_num, hW4, hown4, HSEP3.out.grow hnear4 hp3 HX3.out, by have := HNB.out; rw [List.length_append]; omega, hbw3.trans (HO3.out.belowOf hg4 hbase3)⟩
        case measure => simp [intOf] <;> omega
      · go_wp2_with fail
        refine hStart (fun w' => Below w.heap.size w w') (by kernel_rfl) ?_
        have hHeld := hbr.drew
        refine hTake 0 (v := ?_) rfl (by kernel_rfl) (by kernel_rfl) (by kernel_rfl) (fun _ _ _ h => h) (by rfl) ?_ hHeld ?_
        rotate_left
        · intro w hSw; (try dsimp only at hSw); go_simp; (try with_reducible rfl)
        try simp only [Act.put, List.setIfInBounds_toArray, List.set_cons_zero, List.set_cons_succ]
        refine hTake 1 (v := ?_) rfl (by kernel_rfl) (by kernel_rfl) (by kernel_rfl) (fun _ _ _ h => h) (by rfl) ?_ hHeld ?_
        rotate_left
        · intro w hSw; (try dsimp only at hSw); go_simp; (try with_reducible rfl)
        try simp only [Act.put, List.setIfInBounds_toArray, List.set_cons_zero, List.set_cons_succ]
        refine hTake 2 (v := ?_) rfl (by kernel_rfl) (by kernel_rfl) (by kernel_rfl) (fun _ _ _ h => h) (by rfl) ?_ hHeld ?_
        rotate_left
        · intro w hSw; (try dsimp only at hSw); go_simp; (try with_reducible rfl)
        try simp only [Act.put, List.setIfInBounds_toArray, List.set_cons_zero, List.set_cons_succ]
        refine hTake 3 (v := ?_) rfl (by kernel_rfl) (by kernel_rfl) (by kernel_rfl) (fun _ _ _ h => h) (by rfl) ?_ hHeld ?_
        rotate_left
        · intro w hSw; (try dsimp only at hSw); go_simp; (try with_reducible rfl)
        try simp only [Act.put, List.setIfInBounds_toArray, List.set_cons_zero, List.set_cons_succ]
        refine hTake 4 (v := (.int .i64 yn)) rfl (by kernel_rfl) (by kernel_rfl) (by kernel_rfl) (fun _ _ _ h => h) (by rfl) ?_ hHeld ?_
        · intro w hSw; have h1 := HC0.out w hSw; go_simp; (try with_reducible rfl)
        try simp only [Act.put, List.setIfInBounds_toArray, List.set_cons_zero, List.set_cons_succ]
        refine hTake 5 (v := ?_) rfl (by kernel_rfl) (by kernel_rfl) (by kernel_rfl) (fun _ _ _ h => h) (by rfl) ?_ hHeld ?_
        rotate_left
        · intro w hSw; (try dsimp only at hSw); go_simp; (try with_reducible rfl)
        try simp only [Act.put, List.setIfInBounds_toArray, List.set_cons_zero, List.set_cons_succ]
        refine hTake 6 (v := ?_) rfl (by kernel_rfl) (by kernel_rfl) (by kernel_rfl) (fun _ _ _ h => h) (by rfl) ?_ hHeld ?_
        rotate_left
        · intro w hSw; (try dsimp only at hSw); go_simp; (try with_reducible rfl)
        try simp only [Act.put, List.setIfInBounds_toArray, List.set_cons_zero, List.set_cons_succ]
        refine hTake 7 (v := ?_) rfl (by kernel_rfl) (by kernel_rfl) (by kernel_rfl) (fun _ _ _ h => h) (by rfl) ?_ hHeld ?_
        rotate_left
        · intro w hSw; (try dsimp only at hSw); go_simp; (try with_reducible rfl)
        try simp only [Act.put, List.setIfInBounds_toArray, List.set_cons_zero, List.set_cons_succ]
        refine hTake 8 (v := ?_) rfl (by kernel_rfl) (by kernel_rfl) (by kernel_rfl) (fun _ _ _ h => h) (by rfl) ?_ hHeld ?_
        rotate_left
        · intro w hSw; (try dsimp only at hSw); go_simp; (try with_reducible rfl)
        try simp only [Act.put, List.setIfInBounds_toArray, List.set_cons_zero, List.set_cons_succ]
        refine hTake 9 (v := (.int .u64 (yv : Nat))) rfl (by kernel_rfl) (by kernel_rfl) (by kernel_rfl) (fun _ _ _ h => h) (by rfl) ?_ hHeld ?_
        · intro w hSw; have h1 := HC1.out w hSw; go_simp; (try with_reducible rfl)
        try simp only [Act.put, List.setIfInBounds_toArray, List.set_cons_zero, List.set_cons_succ]
        refine hStep 10 rfl (by kernel_rfl) (by rfl) (fun K hK => ?_)
        have HK := Lib.hid hK
        clear hK
        go_simp
        refine (bytes_any yn yv _ hy1 hy2 hy3).mono ?_
        rintro e w3 ⟨xb, rfl, hown3, hb3⟩
        obtain ⟨ok, hok⟩ : ∃ ok, ok = fitsN yn yv := ⟨_, rfl⟩
        rw [← hok]
        obtain ⟨LB, hLB⟩ : ∃ LB, LB = numB yn yv := ⟨_, rfl⟩
        have hown3 : OwnB _ w3 xb (numB yn yv) := hown3
        rw [← hLB] at hown3
        have HLB := Lib.hid hLB
        have hbd : Below wr.heap.size wr w3 := (Below.refl wr.heap.size wr).drew.trans hb3
        have HOK := Lib.hid hok
        obtain ⟨ab, cb, nb2, hvb, hnb2, hbsb, -, hblb⟩ := hown3.bsn
        rw [hvb]
        have hbw3 : Below w.heap.size w w3 := hHeld.trans (hb3.mono hHeld.size)
        have HX3 := Lib.hid hown3
        have HBB := Lib.hid hbsb
        have HNBB := Lib.hid hnb2
        have HW3 : Hid (Wr w.heap.size w3 p x B) := HW.out.below hbd
        have HO3 : Hid (OwnB w.heap.size w3 (.slice a4 n4 c4) B) := HO.out.below hbd
        have hxbf : ∀ z, ab = some z → ¬ WFoot p x z.block := fun z hz hf => by
          have h5 := (hblb z hz).1
          have h6 : wr.heap.size ≤ z.block := h5
          rcases hf with hf | hf
          · omega
          · have := (HW.out.own.lt _ hf).2; omega
        have HXBF := Lib.hid hxbf
        clear hvb hnb2 hbsb hown3 hblb hxbf hok hb3 hLB hbd
        have hHeldN := hbw3
        refine HK.out _ _ hHeldN ?_
        clear HK K hHeld
        have hHeld := hHeldN
        clear hHeldN
        try simp only [Act.put, List.setIfInBounds_toArray, List.set_cons_zero, List.set_cons_succ]
        refine hTake 11 (v := ?_) rfl (by kernel_rfl) (by kernel_rfl) (by kernel_rfl) (fun _ _ _ h => h) (by rfl) ?_ hHeld ?_
        rotate_left
        · intro w hSw; (try dsimp only at hSw); go_simp; (try with_reducible rfl)
        try simp only [Act.put, List.setIfInBounds_toArray, List.set_cons_zero, List.set_cons_succ]
        refine hTake 12 (v := ?_) rfl (by kernel_rfl) (by kernel_rfl) (by kernel_rfl) (fun _ _ _ h => h) (by rfl) ?_ hHeld ?_
        rotate_left
        · intro w hSw; (try dsimp only at hSw); go_simp; (try with_reducible rfl)
        try simp only [Act.put, List.setIfInBounds_toArray, List.set_cons_zero, List.set_cons_succ]
        refine hTake 13 (v := ?_) rfl (by kernel_rfl) (by kernel_rfl) (by kernel_rfl) (fun _ _ _ h => h) (by rfl) ?_ hHeld ?_
        rotate_left
        · intro w hSw; (try dsimp only at hSw); go_simp; (try with_reducible rfl)
        try simp only [Act.put, List.setIfInBounds_toArray, List.set_cons_zero, List.set_cons_succ]
        refine hTake 14 (v := ?_) rfl (by kernel_rfl) (by kernel_rfl) (by kernel_rfl) (fun _ _ _ h => h) (by rfl) ?_ hHeld ?_
        rotate_left
        · intro w hSw; (try dsimp only at hSw); go_simp; (try with_reducible rfl)
        try simp only [Act.put, List.setIfInBounds_toArray, List.set_cons_zero, List.set_cons_succ]
        refine hTake 15 (v := ?_) rfl (by kernel_rfl) (by kernel_rfl) (by kernel_rfl) (fun _ _ _ h => h) (by rfl) ?_ hHeld ?_
        rotate_left
        · intro w hSw; (try dsimp only at hSw); go_simp; (try with_reducible rfl)
        try simp only [Act.put, List.setIfInBounds_toArray, List.set_cons_zero, List.set_cons_succ]
        refine hDone (by kernel_rfl) ?_
        show NoPanic _ _ _ _
        refine NoPanic.normal ?_
        clear hHeld
        go_wp2_with fail
        refine hStart (fun w' => Below w.heap.size w w') (by kernel_rfl) ?_
        have hHeld := hbw3.drew
        refine hTake 0 (v := ?_) rfl (by kernel_rfl) (by kernel_rfl) (by kernel_rfl) (fun _ _ _ h => h) (by rfl) ?_ hHeld ?_
        rotate_left
        · intro w hSw; (try dsimp only at hSw); go_simp; (try with_reducible rfl)
        try simp only [Act.put, List.setIfInBounds_toArray, List.set_cons_zero, List.set_cons_succ]
        refine hTake 1 (v := ?_) rfl (by kernel_rfl) (by kernel_rfl) (by kernel_rfl) (fun _ _ _ h => h) (by rfl) ?_ hHeld ?_
        rotate_left
        · intro w hSw; (try dsimp only at hSw); go_simp; (try with_reducible rfl)
        try simp only [Act.put, List.setIfInBounds_toArray, List.set_cons_zero, List.set_cons_succ]
        refine hTake 2 (v := ?_) rfl (by kernel_rfl) (by kernel_rfl) (by kernel_rfl) (fun _ _ _ h => h) (by rfl) ?_ hHeld ?_
        rotate_left
        · intro w hSw; (try dsimp only at hSw); go_simp; (try with_reducible rfl)
        try simp only [Act.put, List.setIfInBounds_toArray, List.set_cons_zero, List.set_cons_succ]
        refine hTake 3 (v := ?_) rfl (by kernel_rfl) (by kernel_rfl) (by kernel_rfl) (fun _ _ _ h => h) (by rfl) ?_ hHeld ?_
        rotate_left
        · intro w hSw; (try dsimp only at hSw); go_simp; (try with_reducible rfl)
        try simp only [Act.put, List.setIfInBounds_toArray, List.set_cons_zero, List.set_cons_succ]
        refine hTake 4 (v := ?_) rfl (by kernel_rfl) (by kernel_rfl) (by kernel_rfl) (fun _ _ _ h => h) (by rfl) ?_ hHeld ?_
        rotate_left
        · intro w hSw; (try dsimp only at hSw); go_simp; (try with_reducible rfl)
        try simp only [Act.put, List.setIfInBounds_toArray, List.set_cons_zero, List.set_cons_succ]
        refine hTake 5 (v := (.int .i64 yn)) rfl (by kernel_rfl) (by kernel_rfl) (by kernel_rfl) (fun _ _ _ h => h) (by rfl) ?_ hHeld ?_
        · intro w hSw; have h1 := HC0.out w hSw; go_simp; (try with_reducible rfl)
        try simp only [Act.put, List.setIfInBounds_toArray, List.set_cons_zero, List.set_cons_succ]
        refine hTake 6 (v := ?_) rfl (by kernel_rfl) (by kernel_rfl) (by kernel_rfl) (fun _ _ _ h => h) (by rfl) ?_ hHeld ?_
        rotate_left
        · intro w hSw; (try dsimp only at hSw); go_simp; (try with_reducible rfl)
        try simp only [Act.put, List.setIfInBounds_toArray, List.set_cons_zero, List.set_cons_succ]
        refine hTake 7 (v := ?_) rfl (by kernel_rfl) (by kernel_rfl) (by kernel_rfl) (fun _ _ _ h => h) (by rfl) ?_ hHeld ?_
        rotate_left
        · intro w hSw; (try dsimp only at hSw); go_simp; (try with_reducible rfl)
        try simp only [Act.put, List.setIfInBounds_toArray, List.set_cons_zero, List.set_cons_succ]
        refine hTake 8 (v := ?_) rfl (by kernel_rfl) (by kernel_rfl) (by kernel_rfl) (fun _ _ _ h => h) (by rfl) ?_ hHeld ?_
        rotate_left
        · intro w hSw; (try dsimp only at hSw); go_simp; (try with_reducible rfl)
        try simp only [Act.put, List.setIfInBounds_toArray, List.set_cons_zero, List.set_cons_succ]
        refine hTake 9 (v := ?_) rfl (by kernel_rfl) (by kernel_rfl) (by kernel_rfl) (fun _ _ _ h => h) (by rfl) ?_ hHeld ?_
        rotate_left
        · intro w hSw; (try dsimp only at hSw); go_simp; (try with_reducible rfl)
        try simp only [Act.put, List.setIfInBounds_toArray, List.set_cons_zero, List.set_cons_succ]
        refine hTake 10 (v := (.int .u64 (yv : Nat))) rfl (by kernel_rfl) (by kernel_rfl) (by kernel_rfl) (fun _ _ _ h => h) (by rfl) ?_ hHeld ?_
        · intro w hSw; have h1 := HC1.out w hSw; go_simp; (try with_reducible rfl)
        try simp only [Act.put, List.setIfInBounds_toArray, List.set_cons_zero, List.set_cons_succ]
        refine hTake 12 (v := ?_) rfl (by kernel_rfl) (by kernel_rfl) (by kernel_rfl) (fun _ _ _ h => h) (by rfl) ?_ hHeld ?_
        rotate_left
        · intro w hSw; (try dsimp only at hSw); go_simp; (try with_reducible rfl)
        try simp only [Act.put, List.setIfInBounds_toArray, List.set_cons_zero, List.set_cons_succ]
        refine hStep 11 rfl (by kernel_rfl) (by rfl) (fun K hK => ?_)
        have HK := Lib.hid hK
        clear hK
        go_simp
        have HW3d : Wr w.heap.size w3.drew p x B := HW3.out.below (Below.refl w3.heap.size w3).drew
        refine (WNum_any _ p x B yn yv _ HW3d (by omega) hy1 hy2 hy3).mono ?_
        rintro e w4 ⟨rfl, x4, hW4, hK4, hN4⟩
        rw [← HOK.out] at hW4 ⊢
        have hbw4 : Below w.heap.size w w4 := hHeld.trans (hK4.below hHeld.size HW3d.foot)
        have hHeldN := hbw4
        refine HK.out _ _ hHeldN ?_
        clear HK K hHeld
        have hHeld := hHeldN
        clear hHeldN
        try simp only [Act.put, List.setIfInBounds_toArray, List.set_cons_zero, List.set_cons_succ]
        refine hTake 13 (v := ?_) rfl (by kernel_rfl) (by kernel_rfl) (by kernel_rfl) (fun _ _ _ h => h) (by rfl) ?_ hHeld ?_
        rotate_left
        · intro w hSw; (try dsimp only at hSw); go_simp; (try with_reducible rfl)
        try simp only [Act.put, List.setIfInBounds_toArray, List.set_cons_zero, List.set_cons_succ]
        refine hDone (by kernel_rfl) ?_
        show NoPanic _ _ _ _
        refine NoPanic.normal ?_
        have hO4 : OwnB w.heap.size w4 (.slice a4 n4 c4) B := (HO3.out.below (Below.refl w3.heap.size w3).drew).keptT hK4 HSEP.out.foot
        have hS4 : Sep (.slice a4 n4 c4) p x4 := HSEP.out.writer hN4 (fun k hk => (HO3.out.lt k hk).2)
        have HB4' : Hid (Bs w4 ab cb LB) := (HBB.out.below (Below.refl w3.heap.size w3).drew).kept hK4 HXBF.out
        have HW4 := Lib.hid hW4
        have HO4 := Lib.hid hO4
        have HS4 := Lib.hid hS4
        clear hW4 hO4 hS4 hK4 hN4 hHeld HW3d
        cases ok
        · have HW4' : Hid (Wr w.heap.size w4 p x4 B) := HW4.out
          go_wp2
          go_roundw
          case rel => exact ⟨k + 1, x4, B, by omega, by go_num, HW4'.out, HO4.out, HS4.out, by omega, hbw4⟩
          case measure => simp [intOf] <;> omega
        · obtain ⟨hf1, hf2, hf3⟩ := of_decide_eq_true HOK.out.symm
          have HLE : Hid (LB = beN yv yn.toNat) := by show _ = _; rw [HLB.out]; exact if_pos ⟨hf1, hf2⟩
          have HW4' : Hid (Wr w.heap.size w4 p x4 (B ++ beN yv yn.toNat)) := HW4.out
          have HLL : Hid (LB.length = yn.toNat) := by show _ = _; rw [HLE.out, beN_length]
          have hroom : B.length + nb2 ≤ 140737488355328 := by have h5 := HNBB.out; have h6 := HLL.out; omega
          have HROOM := Lib.hid hroom
          have hbase4 := hbw4.size
          have hp4 : p < w4.heap.size := HW4'.out.lt
          have HX4 := Lib.hid (fun k (hk : x4.ownBlock = some k) => (HW4'.out.own.lt k hk).2)
          clear hf3 hroom
          go_wp2_with (at_builtin; refine wpList_append_bs_at rfl (.tmp 69) (.tmp 70) rfl w.heap.size (.slice a4 n4 c4) B rfl HO4.out ab nb2 cb LB rfl HNBB.out HB4'.out HROOM.out hbase4 ?_; intro va2 w5 hown5 hg5 hnear5; obtain ⟨a5, c5, n5, hv5, -, -, -, -⟩ := hown5.bsn; subst hv5)
          have hW5 := HW4'.out.grow HS4.out hg5
          rw [← HLE.out] at hW5
          go_roundw
          case rel => exact ⟨k + 1, x4, B ++ LB, by omega, by go_num, hW5, hown5, HS4.out.grow hnear5 hp4 HX4.out, by have := HLL.out; rw [List.length_append]; omega, hbw4.trans (HO4.out.belowOf hg5 hbase4)⟩
          case measure => simp [intOf] <;> omega
    · obtain rfl : k = n := by omega
      obtain ⟨S, hS⟩ : ∃ S, S = strB B := ⟨_, rfl⟩
      have HS := Lib.hid hS
      have HSB : Hid (∀ w', Below wr.heap.size wr w' → (convert 22 9 (.slice a4 n4 c4)).run Try.prog w' = .ok (.string S) w') := fun w' h => by
        rw [HS.out]; exact run_str HN4.out (HB4.out.below h)
      clear hS
      go_wp2_with fail
      refine hStart (fun w' => Below wr.heap.size wr w') (by kernel_rfl) ?_
      have hHeld := (Below.refl wr.heap.size wr).drew
      refine hTake 0 (v := ?_) rfl (by kernel_rfl) (by kernel_rfl) (by kernel_rfl) (fun _ _ _ h => h) (by rfl) ?_ hHeld ?_
      rotate_left
      · intro w hSw; (try dsimp only at hSw); go_simp; (try with_reducible rfl)
      try simp only [Act.put, List.setIfInBounds_toArray, List.set_cons_zero, List.set_cons_succ]
      refine hTake 3 (v := ?_) rfl (by kernel_rfl) (by kernel_rfl) (by kernel_rfl) (fun _ _ _ h => h) (by rfl) ?_ hHeld ?_
      rotate_left
      · intro w hSw; (try dsimp only at hSw); go_simp; (try with_reducible rfl)
      try simp only [Act.put, List.setIfInBounds_toArray, List.set_cons_zero, List.set_cons_succ]
      refine hTake 4 (v := (.string S)) rfl (by kernel_rfl) (by kernel_rfl) (by kernel_rfl) (fun _ _ _ h => h) (by rfl) ?_ hHeld ?_
      · intro w hSw; have h1 := HSB.out w hSw; go_simp; (try with_reducible rfl)
      try simp only [Act.put, List.setIfInBounds_toArray, List.set_cons_zero, List.set_cons_succ]
      refine hStep 1 rfl (by kernel_rfl) (by rfl) (fun K hK => ?_)
      have HK := Lib.hid hK
      clear hK
      go_simp
      refine (WBytes_any _ p x B _ (HW.out.below (Below.refl wr.heap.size wr).drew) (by omega)).mono ?_
      rintro e w5 ⟨v5, rfl, hown5, hb5⟩
      obtain ⟨a5, c5, n5, hv5, hn5, hbs5, -, -⟩ := hown5.bsn
      rw [hv5]
      have hbr5 : Below wr.heap.size wr w5 := hHeld.trans (hb5.mono (Nat.le_refl _))
      have hHeldN := hbr5
      refine HK.out _ _ hHeldN ?_
      clear HK K hHeld
      have hHeld := hHeldN
      clear hHeldN
      try simp only [Act.put, List.setIfInBounds_toArray, List.set_cons_zero, List.set_cons_succ]
      have HS5 : Hid (∀ w', Below w5.heap.size w5 w' → (convert 22 9 (.slice a5 n5 c5)).run Try.prog w' = .ok (.string S) w') := fun w' hw' => by
        rw [HS.out]; exact run_str hn5 (hbs5.below hw')
      clear hv5 hn5 hbs5 hown5 hb5
      refine hSwitch (S2 := fun w' => Below w5.heap.size w5 w') (fun w' hw' => hbr5.trans (hw'.mono hbr5.size)) _ _ _ _ ?_
      clear hHeld
      have hHeld := Below.refl w5.heap.size w5
      refine hTake 2 (v := (.string S)) rfl (by kernel_rfl) (by kernel_rfl) (by kernel_rfl) (fun _ _ _ h => h) (by rfl) ?_ hHeld ?_
      · intro w hSw; have h1 := HS5.out w hSw; go_simp; (try with_reducible rfl)
      try simp only [Act.put, List.setIfInBounds_toArray, List.set_cons_zero, List.set_cons_succ]
      refine hTake 5 (v := ?_) rfl (by kernel_rfl) (by kernel_rfl) (by kernel_rfl) (fun _ _ _ h => h) (by rfl) ?_ hHeld ?_
      rotate_left
      · intro w hSw; (try dsimp only at hSw); go_simp; (try with_reducible rfl)
      try simp only [Act.put, List.setIfInBounds_toArray, List.set_cons_zero, List.set_cons_succ]
      refine hTake 6 (v := ?_) rfl (by kernel_rfl) (by kernel_rfl) (by kernel_rfl) (fun _ _ _ h => h) (by rfl) ?_ hHeld ?_
      rotate_left
      · intro w hSw; (try dsimp only at hSw); go_simp; (try with_reducible rfl)
      try simp only [Act.put, List.setIfInBounds_toArray, List.set_cons_zero, List.set_cons_succ]
      refine hTake 7 (v := ?_) rfl (by kernel_rfl) (by kernel_rfl) (by kernel_rfl) (fun _ _ _ h => h) (by rfl) ?_ hHeld ?_
      rotate_left
      · intro w hSw; (try dsimp only at hSw); go_simp; (try with_reducible rfl)
      try simp only [Act.put, List.setIfInBounds_toArray, List.set_cons_zero, List.set_cons_succ]
      refine hTake 9 (v := ?_) rfl (by kernel_rfl) (by kernel_rfl) (by kernel_rfl) (fun _ _ _ h => h) (by rfl) ?_ hHeld ?_
      rotate_left
      · intro w hSw; (try dsimp only at hSw); go_simp; (try with_reducible rfl)
      try simp only [Act.put, List.setIfInBounds_toArray, List.set_cons_zero, List.set_cons_succ]
      refine hTake 10 (v := ?_) rfl (by kernel_rfl) (by kernel_rfl) (by kernel_rfl) (fun _ _ _ h => h) (by rfl) ?_ hHeld ?_
      rotate_left
      · intro w hSw; (try dsimp only at hSw); go_simp; (try with_reducible rfl)
      try simp only [Act.put, List.setIfInBounds_toArray, List.set_cons_zero, List.set_cons_succ]
      refine hStep 8 rfl (by kernel_rfl) (by rfl) (fun K hK => ?_)
      have HK := Lib.hid hK
      clear hK
      go_simp
      refine (WLen_any _ p x B _ (HW.out.below hbr5)).mono ?_
      rintro e w6 ⟨rfl, rfl⟩
      rw [← HN4.out]
      have hHeldN := hHeld
      refine HK.out _ _ hHeldN ?_
      clear HK K hHeld
      have hHeld := hHeldN
      clear hHeldN
      try simp only [Act.put, List.setIfInBounds_toArray, List.set_cons_zero, List.set_cons_succ]
      refine hTake 11 (v := ?_) rfl (by kernel_rfl) (by kernel_rfl) (by kernel_rfl) (fun _ _ _ h => h) (by rfl) ?_ hHeld ?_
      rotate_left
      · intro w hSw; (try dsimp only at hSw); go_simp; (try with_reducible rfl)
      try simp only [Act.put, List.setIfInBounds_toArray, List.set_cons_zero, List.set_cons_succ]
      refine hTake 12 (v := ?_) rfl (by kernel_rfl) (by kernel_rfl) (by kernel_rfl) (fun _ _ _ h => h) (by rfl) ?_ hHeld ?_
      rotate_left
      · intro w hSw; (try dsimp only at hSw); go_simp; (try with_reducible rfl)
      try simp only [Act.put, List.setIfInBounds_toArray, List.set_cons_zero, List.set_cons_succ]
      refine hTake 13 (v := ?_) rfl (by kernel_rfl) (by kernel_rfl) (by kernel_rfl) (fun _ _ _ h => h) (by rfl) ?_ hHeld ?_
      rotate_left
      · intro w hSw; (try dsimp only at hSw); go_simp; (try with_reducible rfl)
      try simp only [Act.put, List.setIfInBounds_toArray, List.set_cons_zero, List.set_cons_succ]
      refine hStep 14 rfl (by kernel_rfl) (by rfl) (fun K hK => ?_)
      have HK := Lib.hid hK
      clear hK
      go_simp
      refine (awake1 _).mono ?_
      rintro e w6 ⟨rfl, hb6⟩
      have hHeldN := hb6
      refine HK.out _ _ hHeldN ?_
      clear HK K hHeld
      have hHeld := hHeldN
      clear hHeldN
      try simp only [Act.put, List.setIfInBounds_toArray, List.set_cons_zero, List.set_cons_succ]
      refine hTake 15 (v := ?_) rfl (by kernel_rfl) (by kernel_rfl) (by kernel_rfl) (fun _ _ _ h => h) (by rfl) ?_ hHeld ?_
      rotate_left
      · intro w hSw; (try dsimp only at hSw); go_simp; (try with_reducible rfl)
      try simp only [Act.put, List.setIfInBounds_toArray, List.set_cons_zero, List.set_cons_succ]
      refine hTake 16 (v := ?_) rfl (by kernel_rfl) (by kernel_rfl) (by kernel_rfl) (fun _ _ _ h => h) (by rfl) ?_ hHeld ?_
      rotate_left
      · intro w hSw; (try dsimp only at hSw); go_simp; (try with_reducible rfl)
      try simp only [Act.put, List.setIfInBounds_toArray, List.set_cons_zero, List.set_cons_succ]
      refine hDone (by kernel_rfl) ?_
      show NoPanic _ _ _ _
      refine NoPanic.normal ?_
      go_wp2
      go_ret
      exact ⟨rfl, hbr.trans ((hbr5.trans (hb6.mono hbr5.size)).mono hbr.size)⟩
end Go.Proofs.Ythicaomghefedaa
