/- Walks of layer 7: frame.front and frame.Open. -/
import Derived.Test.YtammicdgpdnihaaFrame
namespace Go.Proofs.Ytammicdgpdnihaa
open Go.RowKit

theorem RTake_some {p g : Nat} {l : List UInt8} {i : Nat} (n : Nat) (w : World) (h : Rd w p g l i false) (hi : i + n ≤ l.length) :
    Calls Try.prog 56 #[.pointer (some ⟨p, 0, none⟩), .int .i64 (n : Int)] w fun e w' =>
      ∃ v, e = .returned v ∧ OwnB w.heap.size w' v ((l.drop i).take n) ∧ Rd w' p g l (i + n) false ∧ Kept (· = p) w w' := by
  have hsm := h.small
  have hh : hasN l i false (n : Int) = true := by unfold hasN; rw [decide_eq_true (by omega)]; rfl
  refine (RTake_any (n : Int) w h (by omega) (by omega)).mono ?_
  rintro e w' ⟨v, rfl, ho, hR, hK⟩
  have hn : nextN l i false (n : Int) = i + n := by unfold nextN; rw [hh]; rfl
  have ht : takenN l i false (n : Int) = (l.drop i).take n := by unfold takenN; rw [hh]; rfl
  rw [hn, hh] at hR
  rw [ht] at ho
  exact ⟨v, rfl, ho, hR, hK⟩
theorem RTake_none {p g : Nat} {l : List UInt8} {i : Nat} {s : Bool} (n : Nat) (w : World) (h : Rd w p g l i s) (hi : s = true ∨ l.length < i + n) (hn : n ≤ 100000000) :
    Calls Try.prog 56 #[.pointer (some ⟨p, 0, none⟩), .int .i64 (n : Int)] w fun e w' =>
      ∃ v, e = .returned v ∧ OwnB w.heap.size w' v [] ∧ Rd w' p g l i true ∧ Kept (· = p) w w' := by
  have hle := h.le
  have hh : hasN l i s (n : Int) = false := by
    unfold hasN
    rcases hi with rfl | hi
    · rfl
    · rw [decide_eq_false (by omega)]; simp
  refine (RTake_any (n : Int) w h (by omega) (by omega)).mono ?_
  rintro e w' ⟨v, rfl, ho, hR, hK⟩
  have hn : nextN l i s (n : Int) = i := by unfold nextN; rw [hh]; rfl
  have ht : takenN l i s (n : Int) = [] := by unfold takenN; rw [hh]; rfl
  rw [hn, hh] at hR
  rw [ht] at ho
  exact ⟨v, rfl, ho, hR, hK⟩

def FrontP (base : Nat) (L : List UInt8) (e : Ending) (w' : World) : Prop :=
  ∃ x, e = .returned (.tuple #[.int .u8 ((frontF L).kind.toNat : Int), x, .int .i64 (((frontF L).n : Nat) : Int), .int .i64 (((frontF L).why : Nat) : Int)]) ∧ OwnB base w' x (frontF L).load
theorem FrontP.bad {base : Nat} {L : List UInt8} {e : Ending} {w' : World} (y : Nat) (h : frontF L = badF y) (he : e = .returned (.tuple #[.int .u8 0, .slice none 0 0, .int .i64 0, .int .i64 (y : Int)])) : FrontP base L e w' := by
  refine ⟨.slice none 0 0, ?_, ?_⟩
  · rw [he, h]; rfl
  · rw [h]; exact OwnB.start _ _

theorem results_tmp4 {fn : Func} {t u v x : Tmp} (h : fn.results = #[.tmp t, .tmp u, .tmp v, .tmp x]) (tmps : Array Value) (P : Program) (w : World) :
    (results fn tmps).run P w = .ok (.tuple #[tmps.getD t undef, tmps.getD u undef, tmps.getD v undef, tmps.getD x undef]) w := by
  simp [results, h]

set_option maxRecDepth 100000 in
set_option maxHeartbeats 4000000 in
theorem front_any (a : Option Addr) (L : List UInt8) (n cap : Nat) (w : World) (hn : n = L.length) (hmax : n ≤ 10000000) (hb : Bs w a cap L) :
    Calls Try.prog 42 #[.slice a n cap] w fun e w' => FrontP w.heap.size L e w' ∧ Below w.heap.size w w' := by
  have HN := Lib.hid hn
  have HB := Lib.hid hb
  clear hn hb
  by_cases h0 : n = 0
  · have HL : Hid (frontF L = badF 2) := by
      show _ = _
      rw [List.eq_nil_of_length_eq_zero (show L.length = 0 by have := HN.out; omega)]; rfl
    subst h0
    go_enter Try.func42, Try.ntmps42
    go_wp2
    refine bodyPost_ret (results_tmp4 rfl _ _ _) rfl ?_
    exact ⟨FrontP.bad 2 HL.out rfl, Below.refl _ _⟩
  have HNE : Hid (L ≠ []) := fun h => by have := HN.out; rw [h] at this; simp at this; omega
  have hz : ((n : Int) == 0) = false := by rw [beq_eq_false_iff_ne]; omega
  go_enter Try.func42, Try.ntmps42
  go_wp2_with fail
  refine (octetRead_any a L n cap _ HN.out (by omega) HB.out).mono ?_
  rintro e w1 ⟨q, g, rfl, hR1, hqw, -, hb1⟩
  have HR1 := Lib.hid hR1
  have hq1 : q < w1.heap.size := hR1.lt
  clear hR1
  go_wp2_with fail
  refine (RNum1_some _ HR1.out (by have := HN.out; omega)).mono ?_
  rintro e w2 ⟨rfl, hR2, hK2⟩
  have hbw2 : Below w.heap.size w w2 := hb1.trans (hK2.below hb1.size (by rintro z rfl; exact hqw))
  have hq2 := hR2.lt
  have HR2 : Hid (Rd w2 q g L 1 false) := hR2
  obtain ⟨c, hc⟩ : ∃ c, c = (L.getD 0 0).toNat := ⟨_, rfl⟩
  have hcl : c < 256 := by rw [hc]; exact (L.getD 0 0).toNat_lt
  rw [← hc]
  have HC := Lib.hid hc
  clear hc hR2 hK2
  go_wp2_with fail
  refine (Take_any 1048576 _ HR2.out).mono ?_
  rintro e w3 ⟨hT, hK3⟩
  have hbw3 : Below w.heap.size w w3 := hbw2.trans (hK3.below hbw2.size (by rintro z rfl; exact hqw))
  clear hK3
  obtain ⟨A1, hA1⟩ : ∃ A1, A1 = cutA a cap 1 := ⟨_, rfl⟩
  obtain ⟨c1, hc1⟩ : ∃ c1, c1 = cap - 1 := ⟨_, rfl⟩
  obtain ⟨n1, hn1⟩ : ∃ n1, n1 = n - 1 := ⟨_, rfl⟩
  have hcut : ∀ w' : World, (Instr.sliceAt 24 (.slice a n cap) (some (.int .i64 1)) none none).run Try.prog w' = .ok (.slice A1 n1 c1) w' := fun w' => by
    rw [hA1, hc1, hn1]; exact run_cutFrom w' a n cap 1 (by omega)
  have HBC : Hid (∀ w', Below w.heap.size w w' → Bs w' A1 c1 (L.drop 1)) := fun w' h => by
    rw [hA1, hc1]; exact (HB.out.below h).cutFrom (by have := HN.out; omega)
  have HN1 : Hid (n1 = (L.drop 1).length) := by show _ = _; rw [hn1, HN.out, List.length_drop]
  have HCUT := Lib.hid hcut
  clear hA1 hc1 hn1 hcut
  cases hF : frontV (L.drop 1) with
  | none =>
    rcases hT with ⟨v, k, hT, -⟩ | ⟨-, rfl, j, hR3⟩
    · rw [takeR_none hF] at hT; cases hT
    have HR3 := Lib.hid hR3
    have HF1 := Lib.hid (frontF_cut HNE.out hF)
    have HF2 := Lib.hid (frontF_form HNE.out hF)
    clear hF hR3
    go_wp2_with fail
    refine (RSpent_any _ HR3.out).mono ?_
    rintro e w4 ⟨rfl, rfl⟩
    have hcut := HCUT.out
    go_wp2_with fail
    refine (cut_any A1 (L.drop 1) n1 c1 _ HN1.out (HBC.out _ hbw3)).mono ?_
    rintro e w4 ⟨rfl, rfl⟩
    cases hc : cutV (L.drop 1)
    · have HX := Lib.hid (HF2.out hc)
      clear hc
      go_wp2
      refine bodyPost_ret (results_tmp4 rfl _ _ _) rfl ?_
      exact ⟨FrontP.bad 3 HX.out rfl, hbw3⟩
    · have HX := Lib.hid (HF1.out hc)
      clear hc
      go_wp2
      refine bodyPost_ret (results_tmp4 rfl _ _ _) rfl ?_
      exact ⟨FrontP.bad 2 HX.out rfl, hbw3⟩
  | some x =>
    obtain ⟨v, k⟩ := x
    have hbd := frontV_bound hF
    by_cases hv : 1048576 < v
    · rcases hT with ⟨v', k', hT, -⟩ | ⟨-, rfl, j, hR3⟩
      · rw [takeR_more hF hv] at hT; cases hT
      have HR3 := Lib.hid hR3
      have HX := Lib.hid (frontF_long HNE.out hF hv)
      have HCF := Lib.hid (cutV_some hF)
      clear hF hR3 hbd hv
      go_wp2_with fail
      refine (RSpent_any _ HR3.out).mono ?_
      rintro e w4 ⟨rfl, rfl⟩
      have hcut := HCUT.out
      go_wp2_with fail
      refine (cut_any A1 (L.drop 1) n1 c1 _ HN1.out (HBC.out _ hbw3)).mono ?_
      rintro e w4 ⟨rfl, rfl⟩
      rw [HCF.out]
      go_wp2
      refine bodyPost_ret (results_tmp4 rfl _ _ _) rfl ?_
      exact ⟨FrontP.bad 3 HX.out rfl, hbw3⟩
    have hv' : v ≤ 1048576 := by omega
    rcases hT with ⟨v', k', hT, rfl, hR3⟩ | ⟨hT, -⟩
    rotate_left
    · rw [takeR_some hF hv'] at hT; cases hT
    rw [takeR_some hF hv'] at hT
    simp only [Option.some.injEq, Prod.mk.injEq] at hT
    obtain ⟨rfl, rfl⟩ := hT
    have HR3 := Lib.hid hR3
    have hk10 : k ≤ 10 := hbd.2.2.1
    have hkL : 1 + k ≤ n := by have h5 := hR3.le; have h6 := HN.out; omega
    have hq3 := hR3.lt
    have HSH := Lib.hid (frontF_short HNE.out hF hv')
    have HSU := Lib.hid (frontF_sum HNE.out hF hv')
    have HOK := Lib.hid (frontF_ok HNE.out hF hv')
    clear hF hR3 hbd hv
    by_cases hfit : n < 1 + k + v + 4
    · have HX := Lib.hid (HSH.out (by have := HN.out; omega))
      by_cases hload : n < 1 + k + v
      · go_wp2_with fail
        refine (RSpent_any _ HR3.out).mono ?_
        rintro e w4 ⟨rfl, rfl⟩
        go_wp2_with fail
        refine (RTake_none v _ HR3.out (.inr (by have := HN.out; omega)) (by omega)).mono ?_
        rintro e w4 ⟨v4, rfl, ho4, hR4, hK4⟩
        have hbw4 : Below w.heap.size w w4 := hbw3.trans (hK4.below hbw3.size (by rintro z rfl; exact hqw))
        have HR4 := Lib.hid hR4
        clear ho4 hR4 hK4
        go_wp2_with fail
        refine (RLeft_any _ HR4.out).mono ?_
        rintro e w5 ⟨rfl, hb5⟩
        have HLE : Hid (leftN L (1 + k) true = 0) := rfl
        rw [HLE.out]
        have hbw5 := hbw4.trans (hb5.mono hbw4.size)
        have HR5 := Lib.hid (HR4.out.below hb5)
        clear hb5
        go_wp2_with fail
        refine (RTake_none 4 _ HR5.out (.inl rfl) (by omega)).mono ?_
        rintro e w6 ⟨v6, rfl, ho6, hR6, hK6⟩
        have hbw6 : Below w.heap.size w w6 := hbw5.trans (hK6.below hbw5.size (by rintro z rfl; exact hqw))
        have HR6 := Lib.hid hR6
        clear ho6 hR6 hK6
        go_wp2_with fail
        refine (RSpent_any _ HR6.out).mono ?_
        rintro e w7 ⟨rfl, rfl⟩
        go_wp2
        refine bodyPost_ret (results_tmp4 rfl _ _ _) rfl ?_
        exact ⟨FrontP.bad 2 HX.out rfl, hbw6⟩
      · go_wp2_with fail
        refine (RSpent_any _ HR3.out).mono ?_
        rintro e w4 ⟨rfl, rfl⟩
        go_wp2_with fail
        refine (RTake_some v _ HR3.out (by have := HN.out; omega)).mono ?_
        rintro e w4 ⟨v4, rfl, ho4, hR4, hK4⟩
        have hbw4 : Below w.heap.size w w4 := hbw3.trans (hK4.below hbw3.size (by rintro z rfl; exact hqw))
        have HR4 := Lib.hid hR4
        clear ho4 hR4 hK4
        go_wp2_with fail
        refine (RLeft_any _ HR4.out).mono ?_
        rintro e w5 ⟨rfl, hb5⟩
        have HLE : Hid (leftN L (1 + k + v) false = n - (1 + k + v)) := by show _ = _; rw [HN.out]; rfl
        rw [HLE.out]
        have hbw5 := hbw4.trans (hb5.mono hbw4.size)
        have HR5 := Lib.hid (HR4.out.below hb5)
        clear hb5
        go_wp2_with fail
        refine (RTake_none 4 _ HR5.out (.inr (by have := HN.out; omega)) (by omega)).mono ?_
        rintro e w6 ⟨v6, rfl, ho6, hR6, hK6⟩
        have hbw6 : Below w.heap.size w w6 := hbw5.trans (hK6.below hbw5.size (by rintro z rfl; exact hqw))
        have HR6 := Lib.hid hR6
        clear ho6 hR6 hK6
        go_wp2_with fail
        refine (RSpent_any _ HR6.out).mono ?_
        rintro e w7 ⟨rfl, rfl⟩
        go_wp2
        refine bodyPost_ret (results_tmp4 rfl _ _ _) rfl ?_
        exact ⟨FrontP.bad 2 HX.out rfl, hbw6⟩
    · obtain ⟨E, hE⟩ : ∃ E, E = 1 + k + v := ⟨_, rfl⟩
      obtain ⟨D, hD⟩ : ∃ D, D = n - E := ⟨_, rfl⟩
      have hDE : (n : Int) - (D : Int) = (E : Int) := by omega
      have HE := Lib.hid hE
      have hE4 : E + 4 ≤ n := by omega
      have HLE : Hid (leftN L (1 + k + v) false = D) := by show _ = _; rw [hD, hE, HN.out]; rfl
      clear hD hE
      go_wp2_with fail
      refine (RSpent_any _ HR3.out).mono ?_
      rintro e w4 ⟨rfl, rfl⟩
      go_wp2_with fail
      refine (RTake_some v _ HR3.out (by have := HN.out; omega)).mono ?_
      rintro e w4 ⟨v4, rfl, ho4, hR4, hK4⟩
      obtain ⟨a4, c4, n4, hv4, -, -, -, -⟩ := ho4.bsn
      subst hv4
      have hbw4 : Below w.heap.size w w4 := hbw3.trans (hK4.below hbw3.size (by rintro z rfl; exact hqw))
      have HR4 := Lib.hid hR4
      have HO4 := Lib.hid ho4
      clear ho4 hR4 hK4
      go_wp2_with fail
      refine (RLeft_any _ HR4.out).mono ?_
      rintro e w5 ⟨rfl, hb5⟩
      rw [HLE.out]
      have hbw5 := hbw4.trans (hb5.mono hbw4.size)
      have HR5 : Hid (Rd w5 q g L E false) := by show Rd _ _ _ _ _ _; rw [HE.out]; exact HR4.out.below hb5
      have HO5 := Lib.hid (HO4.out.below hb5)
      clear hb5
      go_wp2_with fail
      refine (RTake_some 4 _ HR5.out (by have := HN.out; omega)).mono ?_
      rintro e w6 ⟨v6, rfl, ho6, hR6, hK6⟩
      obtain ⟨a6, c6, n6, hv6, hn6, hbs6, -, -⟩ := ho6.bsn
      subst hv6
      have hbw6 : Below w.heap.size w w6 := hbw5.trans (hK6.below hbw5.size (by rintro z rfl; exact hqw))
      have HR6 := Lib.hid hR6
      have HO6 : Hid (OwnB w3.heap.size w6 (.slice a4 n4 c4) ((L.drop (1 + k)).take v)) := HO5.out.keptT hK6 (fun z hz e => by have := (HO5.out.lt z hz).1; omega)
      have HN6 := Lib.hid hn6
      have HB6 := Lib.hid hbs6
      clear ho6 hR6 hK6 hn6 hbs6
      go_wp2_with fail
      refine (RSpent_any _ HR6.out).mono ?_
      rintro e w7 ⟨rfl, rfl⟩
      obtain ⟨A2, hA2⟩ : ∃ A2, A2 = cutA a cap 0 := ⟨_, rfl⟩
      have hnc : n ≤ cap := by have h5 := HN.out; have h6 := HB.out.le; omega
      have hcut2 : ∀ w' : World, (Instr.sliceAt 24 (.slice a n cap) none (some (.int .i64 (E : Int))) none).run Try.prog w' = .ok (.slice A2 E cap) w' := fun w' => by
        rw [hA2]; exact run_cutTo w' a n cap E (by omega)
      have HBC2 : Hid (∀ w', Below w.heap.size w w' → Bs w' A2 cap (L.take E)) := fun w' h => by
        rw [hA2]; exact (HB.out.below h).cutTo (by have := HN.out; omega)
      have HN2 : Hid (E = (L.take E).length) := by show _ = _; have := HN.out; rw [List.length_take]; omega
      have HCUT2 := Lib.hid hcut2
      obtain ⟨S1, hS1⟩ : ∃ S, S = strB ((L.drop E).take 4) := ⟨_, rfl⟩
      have HS1 := Lib.hid hS1
      have HSS1 : Hid (∀ w', Below w6.heap.size w6 w' → (convert 24 9 (.slice a6 n6 c6)).run Try.prog w' = .ok (.string S1) w') := fun w' h => by
        rw [HS1.out]; exact run_str HN6.out (HB6.out.below h)
      have hs := sumN_lt (L.take E)
      obtain ⟨s, hsd⟩ : ∃ s, s = sumN (L.take E) := ⟨_, rfl⟩
      rw [← hsd] at hs
      have HSD := Lib.hid hsd
      obtain ⟨S2, hS2⟩ : ∃ S, S = strB (le4 s) := ⟨_, rfl⟩
      have HS2 := Lib.hid hS2
      clear hA2 hcut2 hS1 hsd hS2
      go_wp2_with fail
      refine hStart (fun w' => Below w6.heap.size w6 w') (by kernel_rfl) ?_
      have hHeld := (Below.refl w6.heap.size w6).drew
      refine hTake 0 (v := ?_) rfl (by kernel_rfl) (by kernel_rfl) (by kernel_rfl) (fun _ _ _ h => h) (by rfl) ?_ hHeld ?_
      rotate_left
      · intro w hSw; (try dsimp only at hSw); go_simp; (try with_reducible rfl)
      try simp only [Act.put, List.setIfInBounds_toArray, List.set_cons_zero, List.set_cons_succ]
      refine hTake 1 (v := (.string S1)) rfl (by kernel_rfl) (by kernel_rfl) (by kernel_rfl) (fun _ _ _ h => h) (by rfl) ?_ hHeld ?_
      · intro w hSw; have h1 := HSS1.out w hSw; go_simp; (try with_reducible rfl)
      try simp only [Act.put, List.setIfInBounds_toArray, List.set_cons_zero, List.set_cons_succ]
      refine hTake 2 (v := ?_) rfl (by kernel_rfl) (by kernel_rfl) (by kernel_rfl) (fun _ _ _ h => h) (by rfl) ?_ hHeld ?_
      rotate_left
      · intro w hSw; (try dsimp only at hSw); go_simp; (try with_reducible rfl)
      try simp only [Act.put, List.setIfInBounds_toArray, List.set_cons_zero, List.set_cons_succ]
      refine hTake 3 (v := ?_) rfl (by kernel_rfl) (by kernel_rfl) (by kernel_rfl) (fun _ _ _ h => h) (by rfl) ?_ hHeld ?_
      rotate_left
      · intro w hSw; (try dsimp only at hSw); go_simp; (try with_reducible rfl)
      try simp only [Act.put, List.setIfInBounds_toArray, List.set_cons_zero, List.set_cons_succ]
      refine hTake 4 (v := (.slice A2 E cap)) rfl (by kernel_rfl) (by kernel_rfl) (by kernel_rfl) (fun _ _ _ h => h) (by rfl) ?_ hHeld ?_
      · intro w hSw; have h1 := HCUT2.out w; go_simp; (try with_reducible rfl)
      try simp only [Act.put, List.setIfInBounds_toArray, List.set_cons_zero, List.set_cons_succ]
      refine hStep 5 rfl (by kernel_rfl) (by rfl) (fun K hK => ?_)
      have HK := Lib.hid hK
      clear hK
      go_simp
      have hHeldN := (hHeld.alloc hHeld.size (.cells #[.slice A2 E cap] 24))
      refine HK.out _ _ hHeldN ?_
      clear HK K hHeld
      have hHeld := hHeldN
      clear hHeldN
      try simp only [Act.put, List.setIfInBounds_toArray, List.set_cons_zero, List.set_cons_succ]
      refine hStep 6 rfl (by kernel_rfl) (by rfl) (fun K hK => ?_)
      have HK := Lib.hid hK
      clear hK
      go_simp
      refine (CrcOf_any _ [L.take E] 1 1 _ rfl (Bss.one _ HN2.out (heap_alloc_at _ _ _ (by rfl)) (HBC2.out _ (hbw6.trans (hHeld.mono hbw6.size))))).mono ?_
      rintro e w7 ⟨rfl, hb7⟩
      rw [show List.flatten [L.take E] = L.take E from by simp, ← HSD.out]
      have hb67 : Below w6.heap.size w6 w7 := hHeld.trans (hb7.mono hHeld.size)
      have hHeldN := hb67
      refine HK.out _ _ hHeldN ?_
      clear HK K hHeld
      have hHeld := hHeldN
      clear hHeldN
      try simp only [Act.put, List.setIfInBounds_toArray, List.set_cons_zero, List.set_cons_succ]
      refine hStep 7 rfl (by kernel_rfl) (by rfl) (fun K hK => ?_)
      have HK := Lib.hid hK
      clear hK
      go_simp
      refine (tail_any s _ hs).mono ?_
      rintro e w8 ⟨v8, rfl, ho8, hb8⟩
      obtain ⟨a8, c8, n8, hv8, hn8, hbs8, -, -⟩ := ho8.bsn
      rw [hv8]
      have hb68 : Below w6.heap.size w6 w8 := hb67.trans (hb8.mono hb67.size)
      have HSS2 : Hid (∀ w', Below w8.heap.size w8 w' → (convert 24 9 (.slice a8 n8 c8)).run Try.prog w' = .ok (.string S2) w') := fun w' h => by
        rw [HS2.out]; exact run_str hn8 (hbs8.below h)
      clear hv8 hn8 hbs8 ho8 hb8
      have hHeldN := hb68
      refine HK.out _ _ hHeldN ?_
      clear HK K hHeld
      have hHeld := hHeldN
      clear hHeldN
      try simp only [Act.put, List.setIfInBounds_toArray, List.set_cons_zero, List.set_cons_succ]
      refine hSwitch (S2 := fun w' => Below w8.heap.size w8 w') (fun w' hw' => hb68.trans (hw'.mono hb68.size)) _ _ _ _ ?_
      clear hHeld
      have hHeld := Below.refl w8.heap.size w8
      refine hTake 8 (v := (.string S2)) rfl (by kernel_rfl) (by kernel_rfl) (by kernel_rfl) (fun _ _ _ h => h) (by rfl) ?_ hHeld ?_
      · intro w hSw; have h1 := HSS2.out w hSw; go_simp; (try with_reducible rfl)
      try simp only [Act.put, List.setIfInBounds_toArray, List.set_cons_zero, List.set_cons_succ]
      have hHeld8 : Below w.heap.size w w8 := hbw6.trans (hb68.mono hbw6.size)
      by_cases heq : (L.drop E).take 4 = le4 s
      · have hss : (S1.toList == S2.toList) = true := by rw [HS1.out, HS2.out, strB_toList, strB_toList, heq]; simp
        have hss2 : (S1.toList != S2.toList) = false := by unfold bne; rw [hss]; rfl
        have HSS := Lib.hid hss
        have HX : Hid (frontF L = ⟨L.getD 0 0, (L.take E).drop (1 + k), E + 4, 0⟩) := by
          have h9 := HOK.out (by have := HN.out; omega)
          rw [← HE.out] at h9
          exact h9 (by rw [heq, HSD.out])
        clear heq
        refine hTake 9 (v := ?_) rfl (by kernel_rfl) (by kernel_rfl) (by kernel_rfl) (fun _ _ _ h => h) (by rfl) ?_ hHeld ?_
        rotate_left
        · intro w hSw; (try dsimp only at hSw); go_simp; (try with_reducible rfl)
        try simp only [Act.put, List.setIfInBounds_toArray, List.set_cons_zero, List.set_cons_succ]
        refine hTake 10 (v := ?_) rfl (by kernel_rfl) (by kernel_rfl) (by kernel_rfl) (fun _ _ _ h => h) (by rfl) ?_ hHeld ?_
        rotate_left
        · intro w hSw; (try dsimp only at hSw); go_simp; (try with_reducible rfl)
        try simp only [Act.put, List.setIfInBounds_toArray, List.set_cons_zero, List.set_cons_succ]
        refine hDone (by kernel_rfl) ?_
        show NoPanic _ _ _ _
        refine NoPanic.normal ?_
        clear hss hss2
        have HO8 : Hid (OwnB w.heap.size w8 (.slice a4 n4 c4) ((L.take E).drop (1 + k))) := by
          show OwnB _ _ _ _
          rw [List.drop_take, show E - (1 + k) = v by have := HE.out; omega]
          exact (HO6.out.below hb68).rebase (fun g hg => Nat.le_trans hbw3.size (HO6.out.lt g hg).1)
        go_wp2
        refine bodyPost_ret (results_tmp4 rfl _ _ _) rfl ?_
        refine ⟨⟨_, ?_, by rw [HX.out]; exact HO8.out⟩, hHeld8⟩
        rw [HX.out]
        show _ = Ending.returned (Value.tuple #[.int .u8 ((L.getD 0 0).toNat : Int), _, .int .i64 ((E + 4 : Nat) : Int), .int .i64 0])
        rw [← HC.out]
        rfl
      · have hss : (S1.toList == S2.toList) = false := by rw [HS1.out, HS2.out, strB_toList, strB_toList, beq_eq_false_iff_ne]; exact heq
        have hss2 : (S1.toList != S2.toList) = true := by unfold bne; rw [hss]; rfl
        have HX : Hid (frontF L = badF 6) := by
          have h9 := HSU.out (by have := HN.out; omega)
          rw [← HE.out] at h9
          exact h9 (by rw [← HSD.out]; exact heq)
        clear heq
        refine hTake 9 (v := ?_) rfl (by kernel_rfl) (by kernel_rfl) (by kernel_rfl) (fun _ _ _ h => h) (by rfl) ?_ hHeld ?_
        rotate_left
        · intro w hSw; (try dsimp only at hSw); go_simp; (try with_reducible rfl)
        try simp only [Act.put, List.setIfInBounds_toArray, List.set_cons_zero, List.set_cons_succ]
        refine hTake 10 (v := ?_) rfl (by kernel_rfl) (by kernel_rfl) (by kernel_rfl) (fun _ _ _ h => h) (by rfl) ?_ hHeld ?_
        rotate_left
        · intro w hSw; (try dsimp only at hSw); go_simp; (try with_reducible rfl)
        try simp only [Act.put, List.setIfInBounds_toArray, List.set_cons_zero, List.set_cons_succ]
        refine hDone (by kernel_rfl) ?_
        show NoPanic _ _ _ _
        refine NoPanic.normal ?_
        clear hss hss2
        go_wp2
        refine bodyPost_ret (results_tmp4 rfl _ _ _) rfl ?_
        exact ⟨FrontP.bad 6 HX.out rfl, hHeld8⟩

def OpenP (base : Nat) (L : List UInt8) (e : Ending) (w' : World) : Prop :=
  ∃ x, e = .returned (.tuple #[.int .u8 ((openF L).1.toNat : Int), x, .int .i64 (((openF L).2.2 : Nat) : Int)]) ∧ OwnB base w' x (openF L).2.1
theorem OpenP.bad {base : Nat} {L : List UInt8} {e : Ending} {w' : World} (y : Nat) (h : openF L = (0, [], y)) (he : e = .returned (.tuple #[.int .u8 0, .slice none 0 0, .int .i64 (y : Int)])) : OpenP base L e w' := by
  refine ⟨.slice none 0 0, ?_, ?_⟩
  · rw [he, h]; rfl
  · rw [h]; exact OwnB.start _ _

set_option maxRecDepth 100000 in
theorem Open_any (a : Option Addr) (L : List UInt8) (n cap : Nat) (w : World) (hn : n = L.length) (hmax : n ≤ 10000000) (hb : Bs w a cap L) :
    Calls Try.prog 32 #[.slice a n cap] w fun e w' => OpenP w.heap.size L e w' ∧ Below w.heap.size w w' := by
  have HN := Lib.hid hn
  have HB := Lib.hid hb
  clear hn hb
  go_enter Try.func32, Try.ntmps32
  go_wp2_with fail
  refine (front_any a L n cap _ HN.out hmax HB.out).mono ?_
  rintro e w1 ⟨⟨x, rfl, hox⟩, hb1⟩
  by_cases hy : (frontF L).why = 0
  · have HS := Lib.hid (frontF_sound hy)
    have HO : Hid (openF L = if (frontF L).n < L.length then (0, [], 5) else ((frontF L).kind, (frontF L).load, 0)) := by show _ = _; unfold openF; rw [if_neg (by omega)]
    rw [hy]
    obtain ⟨c, hc⟩ : ∃ c, c = (frontF L).kind := ⟨_, rfl⟩
    obtain ⟨m, hm⟩ : ∃ m, m = (frontF L).n := ⟨_, rfl⟩
    obtain ⟨ld, hld⟩ : ∃ ld, ld = (frontF L).load := ⟨_, rfl⟩
    have hmn : m ≤ n := by have h5 := HS.out.2.1; have h6 := HN.out; omega
    rw [← hc, ← hm]
    rw [← hc, ← hm, ← hld] at HO
    rw [← hld] at hox
    obtain ⟨ax, cx, nx, hvx, -, -, -, -⟩ := hox.bsn
    subst hvx
    have HOX := Lib.hid hox
    clear hc hm hld hy hox HS
    by_cases hlt : m < n
    · have HX : Hid (openF L = (0, [], 5)) := by show _ = _; rw [HO.out, if_pos (by have := HN.out; omega)]
      go_wp2
      go_ret3
      exact ⟨OpenP.bad 5 HX.out rfl, hb1⟩
    · have HX : Hid (openF L = (c, ld, 0)) := by show _ = _; rw [HO.out, if_neg (by have := HN.out; omega)]
      go_wp2
      go_ret3
      exact ⟨⟨_, by rw [HX.out]; rfl, by rw [HX.out]; exact HOX.out⟩, hb1⟩
  · have HX := Lib.hid (frontF_why hy)
    have HO : Hid (openF L = (0, [], (frontF L).why)) := by show _ = _; unfold openF; rw [if_pos hy]
    obtain ⟨y, hyd⟩ : ∃ y, y = (frontF L).why := ⟨_, rfl⟩
    rw [← hyd] at hy HO HX
    rw [HX.out] at hox ⊢
    obtain ⟨ax, cx, nx, hvx, -, -, -, -⟩ := hox.bsn
    subst hvx
    have hy2 : ((y : Int) != 0) = true := by rw [bne_iff_ne]; omega
    have hy3 : ((y : Int) == 0) = false := by rw [beq_eq_false_iff_ne]; omega
    clear hyd hox hy
    dsimp only [badF]
    go_wp2
    go_ret3
    exact ⟨OpenP.bad y HO.out rfl, hb1⟩
end Go.Proofs.Ytammicdgpdnihaa
