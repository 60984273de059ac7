/- The walk of the law OctetReads: it returns true, and leaves what was there as it was. (Printed by gen/reads.py.) -/
import Derived.Test.YthicaomghefedaaOctetMath
import Derived.Test.YthicaomghefedaaLaw1Awake
import Derived.Test.YthicaomghefedaaGets
namespace Go.Proofs.Ythicaomghefedaa
open Go.RowKit

set_option maxRecDepth 100000 in
set_option maxHeartbeats 40000000 in
theorem OctetReads_walk (a : Option Addr) (L : List UInt8) (N cap : Nat) (a1 : Option Addr) (gs : List (Bool × Int)) (n1 c1 : Nat) (w : World) (hn : N = L.length) (hb : Bs w a cap L) (hn1 : n1 = gs.length) (hg : Gs w a1 c1 gs) :
    Calls Try.prog 3 #[.slice a N cap, .slice a1 n1 c1] w fun e w' => e = .returned (.bool true) ∧ Below w.heap.size w w' := by
  have hf := hb.fits hn
  have hf1 := hg.fits hn1
  have HN := Lib.hid hn
  have HB := Lib.hid hb
  have HN1 := Lib.hid hn1
  have HG := Lib.hid hg
  clear hn hb hn1 hg
  by_cases h1 : 400 < N
  · go_enter Try.func3, Try.ntmps3
    go_wp2_with (go_at_call 11; refine (awake1 _).mono ?_; rintro e w1 ⟨rfl, hb1⟩)
    go_ret
    exact ⟨rfl, hb1⟩
  by_cases h2 : 60 < n1
  · go_enter Try.func3, Try.ntmps3
    go_wp2_with (go_at_call 11; refine (awake1 _).mono ?_; rintro e w1 ⟨rfl, hb1⟩)
    go_ret
    exact ⟨rfl, hb1⟩
  obtain ⟨Se, hSe⟩ : ∃ S, S = strB [] := ⟨_, rfl⟩
  have HSE0 := Lib.hid hSe
  have HSE : Hid (∀ w' : World, (convert 22 9 (.slice none 0 0)).run Try.prog w' = .ok (.string Se) w') := fun w' => by rw [HSE0.out]; exact run_str (l := []) rfl (Bs.empty w')
  have HBV0 : Hid (beV [] = 0) := rfl
  clear hSe
  go_enter Try.func3, Try.ntmps3
  go_wp2_with fail
  refine (octetRead_any a L N cap _ HN.out (by omega) HB.out).mono ?_
  rintro e w1 ⟨q, g, rfl, hR1, hqw, -, hb1⟩
  have HR1 := Lib.hid hR1
  clear hR1
  go_wp2
  go_loopw [6, 7, 8, 9, 10, 11, 12, 13] (fun at_ sp i _ _ _ _ _ wr => ∃ (k j : Nat) (s : Bool), k ≤ n1 ∧ i = .int .i64 (k : Int) ∧ at_ = .int .i64 (j : Int) ∧ sp = .bool s ∧ Rd wr q g L j s ∧ Below w.heap.size w wr) (fun _ _ i _ _ _ _ _ _ => n1 - (intOf i).toNat)
  case atStart => exact ⟨0, 0, false, Nat.zero_le _, rfl, rfl, rfl, HR1.out, hb1⟩
  case round =>
    obtain ⟨k, i, s, hk, rfl, rfl, rfl, hR, hbr⟩ := hrel
    have HR := Lib.hid hR
    have hiN : i ≤ N := by have h3 := HN.out; have h4 := hR.le; omega
    clear hR
    by_cases hlt : k < n1
    · obtain ⟨b, off, rfl, hc0, hc1, hn1, hn2⟩ := (HG.out.below hbr).at (k := k) (by have h3 := HN1.out; omega)
      generalize gs.getD k (false, 0) = y at *
      obtain ⟨isNum, nn⟩ := y
      dsimp only at hc0 hc1 hn1 hn2
      obtain ⟨P, hP⟩ : ∃ P, P = (L.drop i).take nn.toNat := ⟨_, rfl⟩
      obtain ⟨Sp, hSp⟩ : ∃ S, S = strB P := ⟨_, rfl⟩
      have HPD := Lib.hid hP
      have HSPD := Lib.hid hSp
      clear hP hSp
      cases s
      · cases isNum
        · by_cases h1 : nn < 0
          · have HT : Hid (takenN L i false nn = [] ∧ nextN L i false nn = i ∧ hasN L i false nn = false) := by
              have hh : hasN L i false nn = false := by unfold hasN; rw [decide_eq_false (by omega)]; rfl
              exact ⟨by unfold takenN; rw [hh]; rfl, by unfold nextN; rw [hh]; rfl, hh⟩

            go_wp2_with fail
            have HRd := Lib.hid (HR.out.below (Below.refl wr.heap.size wr).drew)
            refine hStart (fun w' => Below w.heap.size w w') (by kernel_rfl) ?_
            have hHeld := hbr.drew
            refine hTake 0 (v := ?_) rfl (by kernel_rfl) (by kernel_rfl) (by kernel_rfl) (fun _ _ _ h => h) (by rfl) ?_ hHeld ?_
            rotate_left
            · intro w hSw; (try dsimp only at hSw); go_simp; (try with_reducible rfl)
            try simp only [Act.put, List.setIfInBounds_toArray, List.set_cons_zero, List.set_cons_succ]
            refine hTake 1 (v := ?_) rfl (by kernel_rfl) (by kernel_rfl) (by kernel_rfl) (fun _ _ _ h => h) (by rfl) ?_ hHeld ?_
            rotate_left
            · intro w hSw; (try dsimp only at hSw); go_simp; (try with_reducible rfl)
            try simp only [Act.put, List.setIfInBounds_toArray, List.set_cons_zero, List.set_cons_succ]
            refine hTake 4 (v := ?_) rfl (by kernel_rfl) (by kernel_rfl) (by kernel_rfl) (fun _ _ _ h => h) (by rfl) ?_ hHeld ?_
            rotate_left
            · intro w hSw; (try dsimp only at hSw); go_simp; (try with_reducible rfl)
            try simp only [Act.put, List.setIfInBounds_toArray, List.set_cons_zero, List.set_cons_succ]
            refine hTake 5 (v := (.string Se)) rfl (by kernel_rfl) (by kernel_rfl) (by kernel_rfl) (fun _ _ _ h => h) (by rfl) ?_ hHeld ?_
            · intro w hSw; have h1 := HSE.out w; go_simp; (try with_reducible rfl)
            try simp only [Act.put, List.setIfInBounds_toArray, List.set_cons_zero, List.set_cons_succ]
            refine hStep 2 rfl (by kernel_rfl) (by rfl) (fun K hK => ?_)
            have HK := Lib.hid hK
            clear hK
            go_simp
            refine (RTake_any nn _ HRd.out hn1 hn2).mono ?_
            rintro e w3 ⟨v3, rfl, hown3, hR3, hK3⟩
            rw [HT.out.1] at hown3
            rw [HT.out.2.1, HT.out.2.2] at hR3
            have HRD : Hid (Rd w3 q g L i true) := hR3
            obtain ⟨a3, c3, n3, hv3, hn3, hbs3, -, -⟩ := hown3.bsn
            rw [hv3]
            have hbr3 : Below w.heap.size w w3 := hHeld.trans (hK3.below hHeld.size (by rintro z rfl; exact hqw))
            have hHeldN := hbr3
            refine HK.out _ _ hHeldN ?_
            clear HK K hHeld
            have hHeld := hHeldN
            clear hHeldN
            try simp only [Act.put, List.setIfInBounds_toArray, List.set_cons_zero, List.set_cons_succ]
            have HS3 : Hid (∀ w', Below w3.heap.size w3 w' → (convert 22 9 (.slice a3 n3 c3)).run Try.prog w' = .ok (.string Se) w') := fun w' hw' => by
              rw [HSE0.out]; exact run_str hn3 (hbs3.below hw')
            clear hv3 hown3 hn3 hbs3 hR3 hK3
            refine hSwitch (S2 := fun w' => Below w3.heap.size w3 w') (fun w' hw' => hbr3.trans (hw'.mono hbr3.size)) _ _ _ _ ?_
            clear hHeld
            have hHeld := Below.refl w3.heap.size w3
            refine hTake 3 (v := (.string Se)) rfl (by kernel_rfl) (by kernel_rfl) (by kernel_rfl) (fun _ _ _ h => h) (by rfl) ?_ hHeld ?_
            · intro w hSw; have h1 := HS3.out w hSw; go_simp; (try with_reducible rfl)
            try simp only [Act.put, List.setIfInBounds_toArray, List.set_cons_zero, List.set_cons_succ]
            refine hTake 6 (v := ?_) rfl (by kernel_rfl) (by kernel_rfl) (by kernel_rfl) (fun _ _ _ h => h) (by rfl) ?_ hHeld ?_
            rotate_left
            · intro w hSw; (try dsimp only at hSw); go_simp; (try with_reducible rfl)
            try simp only [Act.put, List.setIfInBounds_toArray, List.set_cons_zero, List.set_cons_succ]
            refine hDone (by kernel_rfl) ?_
            show NoPanic _ _ _ _
            refine NoPanic.normal ?_
            clear hHeld HS3 hbr
            have HLEFT : Hid (leftN L i true = 0) := rfl
            have HALL : Hid ((!true && leftN L i true == 0) = false) := rfl

            go_wp2_with fail
            refine (RLeft_any _ HRD.out).mono ?_
            rintro e w4 ⟨rfl, hb4⟩
            rw [HLEFT.out]
            have hbr4 := hbr3.trans (hb4.mono hbr3.size)
            have HRD4 := Lib.hid (HRD.out.below hb4)
            clear hb4
            go_wp2_with fail
            refine (RSpent_any _ HRD4.out).mono ?_
            rintro e w5 ⟨rfl, rfl⟩
            go_wp2_with fail
            refine (RAll_any _ HRD4.out).mono ?_
            rintro e w5 ⟨rfl, hb5⟩
            rw [HALL.out]
            have hbr5 := hbr4.trans (hb5.mono hbr4.size)
            have HRD5 := Lib.hid (HRD4.out.below hb5)
            clear hb5 hbr3 hbr4
            go_wp2
            go_roundw
            case rel => exact ⟨k + 1, i, true, by omega, by go_num, by go_num, rfl, HRD5.out, hbr5⟩
            case measure => simp [intOf] <;> omega
          by_cases h3 : (N : Int) - i < nn
          · have HT : Hid (takenN L i false nn = [] ∧ nextN L i false nn = i ∧ hasN L i false nn = false) := by
              have hh : hasN L i false nn = false := by have h4 := HN.out; unfold hasN; rw [decide_eq_false (by omega)]; rfl
              exact ⟨by unfold takenN; rw [hh]; rfl, by unfold nextN; rw [hh]; rfl, hh⟩

            go_wp2_with fail
            have HRd := Lib.hid (HR.out.below (Below.refl wr.heap.size wr).drew)
            refine hStart (fun w' => Below w.heap.size w w') (by kernel_rfl) ?_
            have hHeld := hbr.drew
            refine hTake 0 (v := ?_) rfl (by kernel_rfl) (by kernel_rfl) (by kernel_rfl) (fun _ _ _ h => h) (by rfl) ?_ hHeld ?_
            rotate_left
            · intro w hSw; (try dsimp only at hSw); go_simp; (try with_reducible rfl)
            try simp only [Act.put, List.setIfInBounds_toArray, List.set_cons_zero, List.set_cons_succ]
            refine hTake 1 (v := ?_) rfl (by kernel_rfl) (by kernel_rfl) (by kernel_rfl) (fun _ _ _ h => h) (by rfl) ?_ hHeld ?_
            rotate_left
            · intro w hSw; (try dsimp only at hSw); go_simp; (try with_reducible rfl)
            try simp only [Act.put, List.setIfInBounds_toArray, List.set_cons_zero, List.set_cons_succ]
            refine hTake 4 (v := ?_) rfl (by kernel_rfl) (by kernel_rfl) (by kernel_rfl) (fun _ _ _ h => h) (by rfl) ?_ hHeld ?_
            rotate_left
            · intro w hSw; (try dsimp only at hSw); go_simp; (try with_reducible rfl)
            try simp only [Act.put, List.setIfInBounds_toArray, List.set_cons_zero, List.set_cons_succ]
            refine hTake 5 (v := (.string Se)) rfl (by kernel_rfl) (by kernel_rfl) (by kernel_rfl) (fun _ _ _ h => h) (by rfl) ?_ hHeld ?_
            · intro w hSw; have h1 := HSE.out w; go_simp; (try with_reducible rfl)
            try simp only [Act.put, List.setIfInBounds_toArray, List.set_cons_zero, List.set_cons_succ]
            refine hStep 2 rfl (by kernel_rfl) (by rfl) (fun K hK => ?_)
            have HK := Lib.hid hK
            clear hK
            go_simp
            refine (RTake_any nn _ HRd.out hn1 hn2).mono ?_
            rintro e w3 ⟨v3, rfl, hown3, hR3, hK3⟩
            rw [HT.out.1] at hown3
            rw [HT.out.2.1, HT.out.2.2] at hR3
            have HRD : Hid (Rd w3 q g L i true) := hR3
            obtain ⟨a3, c3, n3, hv3, hn3, hbs3, -, -⟩ := hown3.bsn
            rw [hv3]
            have hbr3 : Below w.heap.size w w3 := hHeld.trans (hK3.below hHeld.size (by rintro z rfl; exact hqw))
            have hHeldN := hbr3
            refine HK.out _ _ hHeldN ?_
            clear HK K hHeld
            have hHeld := hHeldN
            clear hHeldN
            try simp only [Act.put, List.setIfInBounds_toArray, List.set_cons_zero, List.set_cons_succ]
            have HS3 : Hid (∀ w', Below w3.heap.size w3 w' → (convert 22 9 (.slice a3 n3 c3)).run Try.prog w' = .ok (.string Se) w') := fun w' hw' => by
              rw [HSE0.out]; exact run_str hn3 (hbs3.below hw')
            clear hv3 hown3 hn3 hbs3 hR3 hK3
            refine hSwitch (S2 := fun w' => Below w3.heap.size w3 w') (fun w' hw' => hbr3.trans (hw'.mono hbr3.size)) _ _ _ _ ?_
            clear hHeld
            have hHeld := Below.refl w3.heap.size w3
            refine hTake 3 (v := (.string Se)) rfl (by kernel_rfl) (by kernel_rfl) (by kernel_rfl) (fun _ _ _ h => h) (by rfl) ?_ hHeld ?_
            · intro w hSw; have h1 := HS3.out w hSw; go_simp; (try with_reducible rfl)
            try simp only [Act.put, List.setIfInBounds_toArray, List.set_cons_zero, List.set_cons_succ]
            refine hTake 6 (v := ?_) rfl (by kernel_rfl) (by kernel_rfl) (by kernel_rfl) (fun _ _ _ h => h) (by rfl) ?_ hHeld ?_
            rotate_left
            · intro w hSw; (try dsimp only at hSw); go_simp; (try with_reducible rfl)
            try simp only [Act.put, List.setIfInBounds_toArray, List.set_cons_zero, List.set_cons_succ]
            refine hDone (by kernel_rfl) ?_
            show NoPanic _ _ _ _
            refine NoPanic.normal ?_
            clear hHeld HS3 hbr
            have HLEFT : Hid (leftN L i true = 0) := rfl
            have HALL : Hid ((!true && leftN L i true == 0) = false) := rfl

            go_wp2_with fail
            refine (RLeft_any _ HRD.out).mono ?_
            rintro e w4 ⟨rfl, hb4⟩
            rw [HLEFT.out]
            have hbr4 := hbr3.trans (hb4.mono hbr3.size)
            have HRD4 := Lib.hid (HRD.out.below hb4)
            clear hb4
            go_wp2_with fail
            refine (RSpent_any _ HRD4.out).mono ?_
            rintro e w5 ⟨rfl, rfl⟩
            go_wp2_with fail
            refine (RAll_any _ HRD4.out).mono ?_
            rintro e w5 ⟨rfl, hb5⟩
            rw [HALL.out]
            have hbr5 := hbr4.trans (hb5.mono hbr4.size)
            have HRD5 := Lib.hid (HRD4.out.below hb5)
            clear hb5 hbr3 hbr4
            go_wp2
            go_roundw
            case rel => exact ⟨k + 1, i, true, by omega, by go_num, by go_num, rfl, HRD5.out, hbr5⟩
            case measure => simp [intOf] <;> omega
          obtain ⟨m, rfl⟩ := Int.eq_ofNat_of_zero_le (show 0 ≤ nn by omega)
          have hmi : i + m ≤ N := by omega
          have hNc : N ≤ cap := by have h2 := HN.out; have h3 := HB.out.le; omega
          obtain ⟨E, hE⟩ : ∃ E, N = i + m + E := ⟨N - (i + m), by omega⟩
          have HP0 : Hid (Bs w (cutA a cap i) (cap - i) P ∧ P.length = m) := by
            have h2 := HN.out
            refine ⟨?_, ?_⟩
            · rw [HPD.out]
              have := HB.out.cut (lo := i) (hi := i + m) (by omega) (by omega)
              rw [List.drop_take, Nat.add_sub_cancel_left] at this
              exact this
            · rw [HPD.out, List.length_take, List.length_drop]; omega
          have hcut : ∀ w', (Instr.sliceAt 22 (.slice a N cap) (some (.int .i64 (i : Int))) (some (.int .i64 ((i : Int) + (m : Int)))) none).run Try.prog w' = .ok (.slice (cutA a cap i) m (cap - i)) w' := fun w' => by
            have := run_cut w' a N cap i (i + m) (by omega) (by omega)
            rw [Nat.add_sub_cancel_left, Int.natCast_add] at this
            exact this
          have e1 : ((E : Int) != (N : Int) - ((i : Int) + (m : Int))) = false := by rw [bne_eq_false_iff_eq]; omega
          obtain ⟨A', hA'⟩ : ∃ A', A' = cutA a cap i := ⟨_, rfl⟩
          obtain ⟨c', hc'⟩ : ∃ c', c' = cap - i := ⟨_, rfl⟩
          rw [← hA', ← hc'] at HP0 hcut
          have HP : Hid (Bs wr A' c' P ∧ P.length = m) := ⟨HP0.out.1.below hbr, HP0.out.2⟩
          have HLEFT : Hid (leftN L (i + m) false = E) := by show _ = _; have h2 := HN.out; unfold leftN; rw [if_neg (by simp), ← h2]; omega
          have HTT : Hid (takenN L i false (m : Int) = P ∧ nextN L i false (m : Int) = i + m ∧ hasN L i false (m : Int) = true) := by
            have hh : hasN L i false (m : Int) = true := by have h2 := HN.out; unfold hasN; rw [decide_eq_true (by omega)]; rfl
            refine ⟨?_, ?_, hh⟩
            · unfold takenN; rw [hh, if_pos rfl, HPD.out]
            · unfold nextN; rw [hh, if_pos rfl]; rfl
          clear hA' hc'
          by_cases hz : E = 0
          · have e2 : ((N : Int) - ((i : Int) + (m : Int)) == 0) = true := by rw [beq_iff_eq]; omega
            have HALL : Hid ((!false && leftN L (i + m) false == 0) = true) := by show _ = _; rw [HLEFT.out, hz]; rfl
            clear hz hE

            have HPK : Hid (∀ w', Kept (· = q) wr w' → Bs w' A' c' P) := fun w' h => by
              exact HP0.out.1.below (hbr.trans (h.below hbr.size (by rintro z rfl; exact hqw)))

            have HSP : Hid (∀ w', Below wr.heap.size wr w' → (convert 22 9 (.slice A' m c')).run Try.prog w' = .ok (.string Sp) w') := fun w' h => by
              rw [HSPD.out]; exact run_str HP.out.2.symm (HP.out.1.below h)
            go_wp2_with fail
            have HRd := Lib.hid (HR.out.below (Below.refl wr.heap.size wr).drew)
            have HKP : Hid (∀ w', Kept (· = q) wr w' → (convert 22 9 (.slice A' m c')).run Try.prog w' = .ok (.string Sp) w') := fun w' h => by
              rw [HSPD.out]; exact run_str HP.out.2.symm (HPK.out w' h)
            refine hStart (fun w' => Kept (· = q) wr w') (by kernel_rfl) ?_
            have hHeld := Kept.drew (· = q) wr
            refine hTake 0 (v := ?_) rfl (by kernel_rfl) (by kernel_rfl) (by kernel_rfl) (fun _ _ _ h => h) (by rfl) ?_ hHeld ?_
            rotate_left
            · intro w hSw; (try dsimp only at hSw); go_simp; (try with_reducible rfl)
            try simp only [Act.put, List.setIfInBounds_toArray, List.set_cons_zero, List.set_cons_succ]
            refine hTake 1 (v := ?_) rfl (by kernel_rfl) (by kernel_rfl) (by kernel_rfl) (fun _ _ _ h => h) (by rfl) ?_ hHeld ?_
            rotate_left
            · intro w hSw; (try dsimp only at hSw); go_simp; (try with_reducible rfl)
            try simp only [Act.put, List.setIfInBounds_toArray, List.set_cons_zero, List.set_cons_succ]
            refine hTake 4 (v := ?_) rfl (by kernel_rfl) (by kernel_rfl) (by kernel_rfl) (fun _ _ _ h => h) (by rfl) ?_ hHeld ?_
            rotate_left
            · intro w hSw; (try dsimp only at hSw); go_simp; (try with_reducible rfl)
            try simp only [Act.put, List.setIfInBounds_toArray, List.set_cons_zero, List.set_cons_succ]
            refine hTake 5 (v := (.string Sp)) rfl (by kernel_rfl) (by kernel_rfl) (by kernel_rfl) (fun _ _ _ h => h) (by rfl) ?_ hHeld ?_
            · intro w hSw; have h1 := HKP.out w hSw; go_simp; (try with_reducible rfl)
            try simp only [Act.put, List.setIfInBounds_toArray, List.set_cons_zero, List.set_cons_succ]
            refine hStep 2 rfl (by kernel_rfl) (by rfl) (fun K hK => ?_)
            have HK := Lib.hid hK
            clear hK
            go_simp
            refine (RTake_any (m : Int) _ HRd.out hn1 hn2).mono ?_
            rintro e w3 ⟨v3, rfl, hown3, hR3, hK3⟩
            rw [HTT.out.1] at hown3
            rw [HTT.out.2.1, HTT.out.2.2] at hR3
            have HRD : Hid (Rd w3 q g L (i + m) false) := hR3
            obtain ⟨a3, c3, n3, hv3, hn3, hbs3, -, -⟩ := hown3.bsn
            rw [hv3]
            have hbr3 : Below w.heap.size w w3 := hbr.drew.trans (hK3.below hbr.size (by rintro z rfl; exact hqw))
            have hHeldN := (hHeld.trans hK3 (fun z hz => .inl hz))
            refine HK.out _ _ hHeldN ?_
            clear HK K hHeld
            have hHeld := hHeldN
            clear hHeldN
            try simp only [Act.put, List.setIfInBounds_toArray, List.set_cons_zero, List.set_cons_succ]
            have HS3 : Hid (∀ w', Below w3.heap.size w3 w' → (convert 22 9 (.slice a3 n3 c3)).run Try.prog w' = .ok (.string Sp) w') := fun w' hw' => by
              rw [HSPD.out]; exact run_str hn3 (hbs3.below hw')
            clear hv3 hown3 hn3 hbs3 hR3
            have hwr3 := hHeld
            refine hSwitch (S2 := fun w' => Below w3.heap.size w3 w') (fun w' hw' => hwr3.trans (Kept.ofBelow hw' (· = q)) (fun z hz => .inl hz)) _ _ _ _ ?_
            clear hHeld hK3
            have hHeld := Below.refl w3.heap.size w3
            refine hTake 3 (v := (.string Sp)) rfl (by kernel_rfl) (by kernel_rfl) (by kernel_rfl) (fun _ _ _ h => h) (by rfl) ?_ hHeld ?_
            · intro w hSw; have h1 := HS3.out w hSw; go_simp; (try with_reducible rfl)
            try simp only [Act.put, List.setIfInBounds_toArray, List.set_cons_zero, List.set_cons_succ]
            refine hTake 6 (v := ?_) rfl (by kernel_rfl) (by kernel_rfl) (by kernel_rfl) (fun _ _ _ h => h) (by rfl) ?_ hHeld ?_
            rotate_left
            · intro w hSw; (try dsimp only at hSw); go_simp; (try with_reducible rfl)
            try simp only [Act.put, List.setIfInBounds_toArray, List.set_cons_zero, List.set_cons_succ]
            refine hDone (by kernel_rfl) ?_
            show NoPanic _ _ _ _
            refine NoPanic.normal ?_
            clear hHeld HS3 hbr hwr3

            go_wp2_with fail
            refine (RLeft_any _ HRD.out).mono ?_
            rintro e w4 ⟨rfl, hb4⟩
            rw [HLEFT.out]
            have hbr4 := hbr3.trans (hb4.mono hbr3.size)
            have HRD4 := Lib.hid (HRD.out.below hb4)
            clear hb4
            go_wp2_with fail
            refine (RSpent_any _ HRD4.out).mono ?_
            rintro e w5 ⟨rfl, rfl⟩
            go_wp2_with fail
            refine (RAll_any _ HRD4.out).mono ?_
            rintro e w5 ⟨rfl, hb5⟩
            rw [HALL.out]
            have hbr5 := hbr4.trans (hb5.mono hbr4.size)
            have HRD5 := Lib.hid (HRD4.out.below hb5)
            clear hb5 hbr3 hbr4
            go_wp2
            go_roundw
            case rel => exact ⟨k + 1, i + m, false, by omega, by go_num, by go_num, rfl, HRD5.out, hbr5⟩
            case measure => simp [intOf] <;> omega
          · have e2 : ((N : Int) - ((i : Int) + (m : Int)) == 0) = false := by rw [beq_eq_false_iff_ne]; omega
            have HALL : Hid ((!false && leftN L (i + m) false == 0) = false) := by show _ = _; rw [HLEFT.out, Bool.not_false, Bool.true_and, beq_eq_false_iff_ne]; exact hz
            clear hz hE

            have HPK : Hid (∀ w', Kept (· = q) wr w' → Bs w' A' c' P) := fun w' h => by
              exact HP0.out.1.below (hbr.trans (h.below hbr.size (by rintro z rfl; exact hqw)))

            have HSP : Hid (∀ w', Below wr.heap.size wr w' → (convert 22 9 (.slice A' m c')).run Try.prog w' = .ok (.string Sp) w') := fun w' h => by
              rw [HSPD.out]; exact run_str HP.out.2.symm (HP.out.1.below h)
            go_wp2_with fail
            have HRd := Lib.hid (HR.out.below (Below.refl wr.heap.size wr).drew)
            have HKP : Hid (∀ w', Kept (· = q) wr w' → (convert 22 9 (.slice A' m c')).run Try.prog w' = .ok (.string Sp) w') := fun w' h => by
              rw [HSPD.out]; exact run_str HP.out.2.symm (HPK.out w' h)
            refine hStart (fun w' => Kept (· = q) wr w') (by kernel_rfl) ?_
            have hHeld := Kept.drew (· = q) wr
            refine hTake 0 (v := ?_) rfl (by kernel_rfl) (by kernel_rfl) (by kernel_rfl) (fun _ _ _ h => h) (by rfl) ?_ hHeld ?_
            rotate_left
            · intro w hSw; (try dsimp only at hSw); go_simp; (try with_reducible rfl)
            try simp only [Act.put, List.setIfInBounds_toArray, List.set_cons_zero, List.set_cons_succ]
            refine hTake 1 (v := ?_) rfl (by kernel_rfl) (by kernel_rfl) (by kernel_rfl) (fun _ _ _ h => h) (by rfl) ?_ hHeld ?_
            rotate_left
            · intro w hSw; (try dsimp only at hSw); go_simp; (try with_reducible rfl)
            try simp only [Act.put, List.setIfInBounds_toArray, List.set_cons_zero, List.set_cons_succ]
            refine hTake 4 (v := ?_) rfl (by kernel_rfl) (by kernel_rfl) (by kernel_rfl) (fun _ _ _ h => h) (by rfl) ?_ hHeld ?_
            rotate_left
            · intro w hSw; (try dsimp only at hSw); go_simp; (try with_reducible rfl)
            try simp only [Act.put, List.setIfInBounds_toArray, List.set_cons_zero, List.set_cons_succ]
            refine hTake 5 (v := (.string Sp)) rfl (by kernel_rfl) (by kernel_rfl) (by kernel_rfl) (fun _ _ _ h => h) (by rfl) ?_ hHeld ?_
            · intro w hSw; have h1 := HKP.out w hSw; go_simp; (try with_reducible rfl)
            try simp only [Act.put, List.setIfInBounds_toArray, List.set_cons_zero, List.set_cons_succ]
            refine hStep 2 rfl (by kernel_rfl) (by rfl) (fun K hK => ?_)
            have HK := Lib.hid hK
            clear hK
            go_simp
            refine (RTake_any (m : Int) _ HRd.out hn1 hn2).mono ?_
            rintro e w3 ⟨v3, rfl, hown3, hR3, hK3⟩
            rw [HTT.out.1] at hown3
            rw [HTT.out.2.1, HTT.out.2.2] at hR3
            have HRD : Hid (Rd w3 q g L (i + m) false) := hR3
            obtain ⟨a3, c3, n3, hv3, hn3, hbs3, -, -⟩ := hown3.bsn
            rw [hv3]
            have hbr3 : Below w.heap.size w w3 := hbr.drew.trans (hK3.below hbr.size (by rintro z rfl; exact hqw))
            have hHeldN := (hHeld.trans hK3 (fun z hz => .inl hz))
            refine HK.out _ _ hHeldN ?_
            clear HK K hHeld
            have hHeld := hHeldN
            clear hHeldN
            try simp only [Act.put, List.setIfInBounds_toArray, List.set_cons_zero, List.set_cons_succ]
            have HS3 : Hid (∀ w', Below w3.heap.size w3 w' → (convert 22 9 (.slice a3 n3 c3)).run Try.prog w' = .ok (.string Sp) w') := fun w' hw' => by
              rw [HSPD.out]; exact run_str hn3 (hbs3.below hw')
            clear hv3 hown3 hn3 hbs3 hR3
            have hwr3 := hHeld
            refine hSwitch (S2 := fun w' => Below w3.heap.size w3 w') (fun w' hw' => hwr3.trans (Kept.ofBelow hw' (· = q)) (fun z hz => .inl hz)) _ _ _ _ ?_
            clear hHeld hK3
            have hHeld := Below.refl w3.heap.size w3
            refine hTake 3 (v := (.string Sp)) rfl (by kernel_rfl) (by kernel_rfl) (by kernel_rfl) (fun _ _ _ h => h) (by rfl) ?_ hHeld ?_
            · intro w hSw; have h1 := HS3.out w hSw; go_simp; (try with_reducible rfl)
            try simp only [Act.put, List.setIfInBounds_toArray, List.set_cons_zero, List.set_cons_succ]
            refine hTake 6 (v := ?_) rfl (by kernel_rfl) (by kernel_rfl) (by kernel_rfl) (fun _ _ _ h => h) (by rfl) ?_ hHeld ?_
            rotate_left
            · intro w hSw; (try dsimp only at hSw); go_simp; (try with_reducible rfl)
            try simp only [Act.put, List.setIfInBounds_toArray, List.set_cons_zero, List.set_cons_succ]
            refine hDone (by kernel_rfl) ?_
            show NoPanic _ _ _ _
            refine NoPanic.normal ?_
            clear hHeld HS3 hbr hwr3

            go_wp2_with fail
            refine (RLeft_any _ HRD.out).mono ?_
            rintro e w4 ⟨rfl, hb4⟩
            rw [HLEFT.out]
            have hbr4 := hbr3.trans (hb4.mono hbr3.size)
            have HRD4 := Lib.hid (HRD.out.below hb4)
            clear hb4
            go_wp2_with fail
            refine (RSpent_any _ HRD4.out).mono ?_
            rintro e w5 ⟨rfl, rfl⟩
            go_wp2_with fail
            refine (RAll_any _ HRD4.out).mono ?_
            rintro e w5 ⟨rfl, hb5⟩
            rw [HALL.out]
            have hbr5 := hbr4.trans (hb5.mono hbr4.size)
            have HRD5 := Lib.hid (HRD4.out.below hb5)
            clear hb5 hbr3 hbr4
            go_wp2
            go_roundw
            case rel => exact ⟨k + 1, i + m, false, by omega, by go_num, by go_num, rfl, HRD5.out, hbr5⟩
            case measure => simp [intOf] <;> omega
        · by_cases h1 : nn < 1
          · have HT : Hid (takenN L i false (askN nn) = [] ∧ nextN L i false (askN nn) = i ∧ hasN L i false (askN nn) = false) := by
              have hh : hasN L i false (askN nn) = false := by rw [show askN nn = -1 from if_pos (.inl h1)]; unfold hasN; rw [decide_eq_false (by omega)]; rfl
              exact ⟨by unfold takenN; rw [hh]; rfl, by unfold nextN; rw [hh]; rfl, hh⟩

            go_wp2
            go_loop [11, 12] (fun v k => v = .int .u64 0 ∧ k = .int .i64 0) (fun _ _ => 0)
            case atStart => exact ⟨rfl, rfl⟩
            case round =>
              obtain ⟨rfl, rfl⟩ := hrel
              go_wp2_with fail
              refine (RNum_any nn _ HR.out hn1 hn2).mono ?_
              rintro e w3 ⟨rfl, hR3, hK3⟩
              rw [HT.out.2.1, HT.out.2.2] at hR3
              rw [HT.out.1, HBV0.out]
              have HRD : Hid (Rd w3 q g L i true) := hR3
              have hbr3 : Below w.heap.size w w3 := hbr.trans (hK3.below hbr.size (by rintro z rfl; exact hqw))
              clear hR3 hK3 hbr
              have HLEFT : Hid (leftN L i true = 0) := rfl
              have HALL : Hid ((!true && leftN L i true == 0) = false) := rfl
              go_wp2_with fail
              refine (RLeft_any _ HRD.out).mono ?_
              rintro e w4 ⟨rfl, hb4⟩
              rw [HLEFT.out]
              have hbr4 := hbr3.trans (hb4.mono hbr3.size)
              have HRD4 := Lib.hid (HRD.out.below hb4)
              clear hb4
              go_wp2_with fail
              refine (RSpent_any _ HRD4.out).mono ?_
              rintro e w5 ⟨rfl, rfl⟩
              go_wp2_with fail
              refine (RAll_any _ HRD4.out).mono ?_
              rintro e w5 ⟨rfl, hb5⟩
              rw [HALL.out]
              have hbr5 := hbr4.trans (hb5.mono hbr4.size)
              have HRD5 := Lib.hid (HRD4.out.below hb5)
              clear hb5 hbr3 hbr4
              go_wp2
              go_roundw
              case rel => exact ⟨k + 1, i, true, by omega, by go_num, by go_num, rfl, HRD5.out, hbr5⟩
              case measure => simp [intOf] <;> omega
          by_cases h2 : 8 < nn
          · have HT : Hid (takenN L i false (askN nn) = [] ∧ nextN L i false (askN nn) = i ∧ hasN L i false (askN nn) = false) := by
              have hh : hasN L i false (askN nn) = false := by rw [show askN nn = -1 from if_pos (.inr h2)]; unfold hasN; rw [decide_eq_false (by omega)]; rfl
              exact ⟨by unfold takenN; rw [hh]; rfl, by unfold nextN; rw [hh]; rfl, hh⟩

            go_wp2
            go_loop [11, 12] (fun v k => v = .int .u64 0 ∧ k = .int .i64 0) (fun _ _ => 0)
            case atStart => exact ⟨rfl, rfl⟩
            case round =>
              obtain ⟨rfl, rfl⟩ := hrel
              go_wp2_with fail
              refine (RNum_any nn _ HR.out hn1 hn2).mono ?_
              rintro e w3 ⟨rfl, hR3, hK3⟩
              rw [HT.out.2.1, HT.out.2.2] at hR3
              rw [HT.out.1, HBV0.out]
              have HRD : Hid (Rd w3 q g L i true) := hR3
              have hbr3 : Below w.heap.size w w3 := hbr.trans (hK3.below hbr.size (by rintro z rfl; exact hqw))
              clear hR3 hK3 hbr
              have HLEFT : Hid (leftN L i true = 0) := rfl
              have HALL : Hid ((!true && leftN L i true == 0) = false) := rfl
              go_wp2_with fail
              refine (RLeft_any _ HRD.out).mono ?_
              rintro e w4 ⟨rfl, hb4⟩
              rw [HLEFT.out]
              have hbr4 := hbr3.trans (hb4.mono hbr3.size)
              have HRD4 := Lib.hid (HRD.out.below hb4)
              clear hb4
              go_wp2_with fail
              refine (RSpent_any _ HRD4.out).mono ?_
              rintro e w5 ⟨rfl, rfl⟩
              go_wp2_with fail
              refine (RAll_any _ HRD4.out).mono ?_
              rintro e w5 ⟨rfl, hb5⟩
              rw [HALL.out]
              have hbr5 := hbr4.trans (hb5.mono hbr4.size)
              have HRD5 := Lib.hid (HRD4.out.below hb5)
              clear hb5 hbr3 hbr4
              go_wp2
              go_roundw
              case rel => exact ⟨k + 1, i, true, by omega, by go_num, by go_num, rfl, HRD5.out, hbr5⟩
              case measure => simp [intOf] <;> omega
          by_cases h3 : (N : Int) - i < nn
          · have HT : Hid (takenN L i false (askN nn) = [] ∧ nextN L i false (askN nn) = i ∧ hasN L i false (askN nn) = false) := by
              have hh : hasN L i false (askN nn) = false := by have h4 := HN.out; rw [show askN nn = nn from if_neg (by omega)]; unfold hasN; rw [decide_eq_false (by omega)]; rfl
              exact ⟨by unfold takenN; rw [hh]; rfl, by unfold nextN; rw [hh]; rfl, hh⟩

            go_wp2
            go_loop [11, 12] (fun v k => v = .int .u64 0 ∧ k = .int .i64 0) (fun _ _ => 0)
            case atStart => exact ⟨rfl, rfl⟩
            case round =>
              obtain ⟨rfl, rfl⟩ := hrel
              go_wp2_with fail
              refine (RNum_any nn _ HR.out hn1 hn2).mono ?_
              rintro e w3 ⟨rfl, hR3, hK3⟩
              rw [HT.out.2.1, HT.out.2.2] at hR3
              rw [HT.out.1, HBV0.out]
              have HRD : Hid (Rd w3 q g L i true) := hR3
              have hbr3 : Below w.heap.size w w3 := hbr.trans (hK3.below hbr.size (by rintro z rfl; exact hqw))
              clear hR3 hK3 hbr
              have HLEFT : Hid (leftN L i true = 0) := rfl
              have HALL : Hid ((!true && leftN L i true == 0) = false) := rfl
              go_wp2_with fail
              refine (RLeft_any _ HRD.out).mono ?_
              rintro e w4 ⟨rfl, hb4⟩
              rw [HLEFT.out]
              have hbr4 := hbr3.trans (hb4.mono hbr3.size)
              have HRD4 := Lib.hid (HRD.out.below hb4)
              clear hb4
              go_wp2_with fail
              refine (RSpent_any _ HRD4.out).mono ?_
              rintro e w5 ⟨rfl, rfl⟩
              go_wp2_with fail
              refine (RAll_any _ HRD4.out).mono ?_
              rintro e w5 ⟨rfl, hb5⟩
              rw [HALL.out]
              have hbr5 := hbr4.trans (hb5.mono hbr4.size)
              have HRD5 := Lib.hid (HRD4.out.below hb5)
              clear hb5 hbr3 hbr4
              go_wp2
              go_roundw
              case rel => exact ⟨k + 1, i, true, by omega, by go_num, by go_num, rfl, HRD5.out, hbr5⟩
              case measure => simp [intOf] <;> omega
          obtain ⟨m, rfl⟩ := Int.eq_ofNat_of_zero_le (show 0 ≤ nn by omega)
          have hmi : i + m ≤ N := by omega
          have hNc : N ≤ cap := by have h2 := HN.out; have h3 := HB.out.le; omega
          obtain ⟨E, hE⟩ : ∃ E, N = i + m + E := ⟨N - (i + m), by omega⟩
          have HP0 : Hid (Bs w (cutA a cap i) (cap - i) P ∧ P.length = m) := by
            have h2 := HN.out
            refine ⟨?_, ?_⟩
            · rw [HPD.out]
              have := HB.out.cut (lo := i) (hi := i + m) (by omega) (by omega)
              rw [List.drop_take, Nat.add_sub_cancel_left] at this
              exact this
            · rw [HPD.out, List.length_take, List.length_drop]; omega
          have hcut : ∀ w', (Instr.sliceAt 22 (.slice a N cap) (some (.int .i64 (i : Int))) (some (.int .i64 ((i : Int) + (m : Int)))) none).run Try.prog w' = .ok (.slice (cutA a cap i) m (cap - i)) w' := fun w' => by
            have := run_cut w' a N cap i (i + m) (by omega) (by omega)
            rw [Nat.add_sub_cancel_left, Int.natCast_add] at this
            exact this
          have e1 : ((E : Int) != (N : Int) - ((i : Int) + (m : Int))) = false := by rw [bne_eq_false_iff_eq]; omega
          obtain ⟨A', hA'⟩ : ∃ A', A' = cutA a cap i := ⟨_, rfl⟩
          obtain ⟨c', hc'⟩ : ∃ c', c' = cap - i := ⟨_, rfl⟩
          rw [← hA', ← hc'] at HP0 hcut
          have HP : Hid (Bs wr A' c' P ∧ P.length = m) := ⟨HP0.out.1.below hbr, HP0.out.2⟩
          have HLEFT : Hid (leftN L (i + m) false = E) := by show _ = _; have h2 := HN.out; unfold leftN; rw [if_neg (by simp), ← h2]; omega
          have HTT : Hid (takenN L i false (askN (m : Int)) = P ∧ nextN L i false (askN (m : Int)) = i + m ∧ hasN L i false (askN (m : Int)) = true) := by
            have hh : hasN L i false (askN (m : Int)) = true := by have h2 := HN.out; rw [(show askN (m : Int) = m from if_neg (by omega))]; unfold hasN; rw [decide_eq_true (by omega)]; rfl
            refine ⟨?_, ?_, hh⟩
            · unfold takenN; rw [hh, if_pos rfl, HPD.out, (show askN (m : Int) = m from if_neg (by omega))]
            · unfold nextN; rw [hh, if_pos rfl, (show askN (m : Int) = m from if_neg (by omega))]; rfl
          clear hA' hc'
          by_cases hz : E = 0
          · have e2 : ((N : Int) - ((i : Int) + (m : Int)) == 0) = true := by rw [beq_iff_eq]; omega
            have HALL : Hid ((!false && leftN L (i + m) false == 0) = true) := by show _ = _; rw [HLEFT.out, hz]; rfl
            clear hz hE

            have hm8 : m ≤ 8 := by omega
            go_wp2
            go_loop [11, 12] (fun v k => ∃ j : Nat, j ≤ m ∧ k = .int .i64 j ∧ v = .int .u64 (beV (P.take j))) (fun _ k => m - (intOf k).toNat)
            case atStart => exact ⟨0, Nat.zero_le _, rfl, rfl⟩
            case round =>
              obtain ⟨j, hj, rfl, rfl⟩ := hrel
              by_cases hjm : j < m
              · obtain ⟨b2, o2, rfl, hcell, hblk⟩ := HP.out.1.at (k := j) (by rw [HP.out.2]; exact hjm)
                have hV : beV (P.take j) < 72057594037927936 := by
                  have h1 := beV_lt (P.take j)
                  have h2 : 256 ^ (P.take j).length ≤ 256 ^ 7 := Nat.pow_le_pow_right (by decide) (by rw [List.length_take]; omega)
                  omega
                have HTV : Hid (beV (P.take (j + 1)) = beV (P.take j) * 256 + (P.getD j 0).toNat) := by
                  show _ = _
                  rw [take_snoc P 0 j (by rw [HP.out.2]; exact hjm), beV_snoc]
                have hcl : (P.getD j 0).toNat < 256 := (P.getD j 0).toNat_lt
                generalize (P.getD j 0).toNat = d at *
                generalize beV (P.take j) = V at *
                go_wp2
                go_round
                case rel => exact ⟨j + 1, by omega, by go_num, by rw [HTV.out]; go_num⟩
                case measure => simp [intOf] <;> omega
              · obtain rfl : j = m := by omega
                have HE : Hid (beV (P.take j) = beV P) := by show _ = _; rw [List.take_of_length_le (by rw [HP.out.2]; exact Nat.le_refl _)]
                rw [HE.out]
                go_wp2_with fail
                refine (RNum_any (j : Int) _ HR.out hn1 hn2).mono ?_
                rintro e w3 ⟨rfl, hR3, hK3⟩
                rw [HTT.out.2.1, HTT.out.2.2] at hR3
                rw [HTT.out.1]
                have HRD : Hid (Rd w3 q g L (i + j) false) := hR3
                have hbr3 : Below w.heap.size w w3 := hbr.trans (hK3.below hbr.size (by rintro z rfl; exact hqw))
                clear hR3 hK3 hbr
                go_wp2_with fail
                refine (RLeft_any _ HRD.out).mono ?_
                rintro e w4 ⟨rfl, hb4⟩
                rw [HLEFT.out]
                have hbr4 := hbr3.trans (hb4.mono hbr3.size)
                have HRD4 := Lib.hid (HRD.out.below hb4)
                clear hb4
                go_wp2_with fail
                refine (RSpent_any _ HRD4.out).mono ?_
                rintro e w5 ⟨rfl, rfl⟩
                go_wp2_with fail
                refine (RAll_any _ HRD4.out).mono ?_
                rintro e w5 ⟨rfl, hb5⟩
                rw [HALL.out]
                have hbr5 := hbr4.trans (hb5.mono hbr4.size)
                have HRD5 := Lib.hid (HRD4.out.below hb5)
                clear hb5 hbr3 hbr4
                go_wp2
                go_roundw
                case rel => exact ⟨k + 1, i + j, false, by omega, by go_num, by go_num, rfl, HRD5.out, hbr5⟩
                case measure => simp [intOf] <;> omega
          · have e2 : ((N : Int) - ((i : Int) + (m : Int)) == 0) = false := by rw [beq_eq_false_iff_ne]; omega
            have HALL : Hid ((!false && leftN L (i + m) false == 0) = false) := by show _ = _; rw [HLEFT.out, Bool.not_false, Bool.true_and, beq_eq_false_iff_ne]; exact hz
            clear hz hE

            have hm8 : m ≤ 8 := by omega
            go_wp2
            go_loop [11, 12] (fun v k => ∃ j : Nat, j ≤ m ∧ k = .int .i64 j ∧ v = .int .u64 (beV (P.take j))) (fun _ k => m - (intOf k).toNat)
            case atStart => exact ⟨0, Nat.zero_le _, rfl, rfl⟩
            case round =>
              obtain ⟨j, hj, rfl, rfl⟩ := hrel
              by_cases hjm : j < m
              · obtain ⟨b2, o2, rfl, hcell, hblk⟩ := HP.out.1.at (k := j) (by rw [HP.out.2]; exact hjm)
                have hV : beV (P.take j) < 72057594037927936 := by
                  have h1 := beV_lt (P.take j)
                  have h2 : 256 ^ (P.take j).length ≤ 256 ^ 7 := Nat.pow_le_pow_right (by decide) (by rw [List.length_take]; omega)
                  omega
                have HTV : Hid (beV (P.take (j + 1)) = beV (P.take j) * 256 + (P.getD j 0).toNat) := by
                  show _ = _
                  rw [take_snoc P 0 j (by rw [HP.out.2]; exact hjm), beV_snoc]
                have hcl : (P.getD j 0).toNat < 256 := (P.getD j 0).toNat_lt
                generalize (P.getD j 0).toNat = d at *
                generalize beV (P.take j) = V at *
                go_wp2
                go_round
                case rel => exact ⟨j + 1, by omega, by go_num, by rw [HTV.out]; go_num⟩
                case measure => simp [intOf] <;> omega
              · obtain rfl : j = m := by omega
                have HE : Hid (beV (P.take j) = beV P) := by show _ = _; rw [List.take_of_length_le (by rw [HP.out.2]; exact Nat.le_refl _)]
                rw [HE.out]
                go_wp2_with fail
                refine (RNum_any (j : Int) _ HR.out hn1 hn2).mono ?_
                rintro e w3 ⟨rfl, hR3, hK3⟩
                rw [HTT.out.2.1, HTT.out.2.2] at hR3
                rw [HTT.out.1]
                have HRD : Hid (Rd w3 q g L (i + j) false) := hR3
                have hbr3 : Below w.heap.size w w3 := hbr.trans (hK3.below hbr.size (by rintro z rfl; exact hqw))
                clear hR3 hK3 hbr
                go_wp2_with fail
                refine (RLeft_any _ HRD.out).mono ?_
                rintro e w4 ⟨rfl, hb4⟩
                rw [HLEFT.out]
                have hbr4 := hbr3.trans (hb4.mono hbr3.size)
                have HRD4 := Lib.hid (HRD.out.below hb4)
                clear hb4
                go_wp2_with fail
                refine (RSpent_any _ HRD4.out).mono ?_
                rintro e w5 ⟨rfl, rfl⟩
                go_wp2_with fail
                refine (RAll_any _ HRD4.out).mono ?_
                rintro e w5 ⟨rfl, hb5⟩
                rw [HALL.out]
                have hbr5 := hbr4.trans (hb5.mono hbr4.size)
                have HRD5 := Lib.hid (HRD4.out.below hb5)
                clear hb5 hbr3 hbr4
                go_wp2
                go_roundw
                case rel => exact ⟨k + 1, i + j, false, by omega, by go_num, by go_num, rfl, HRD5.out, hbr5⟩
                case measure => simp [intOf] <;> omega
      · cases isNum
        · by_cases h1 : nn < 0
          · have HT : Hid (takenN L i true nn = [] ∧ nextN L i true nn = i ∧ hasN L i true nn = false) := by
              have hh : hasN L i true nn = false := by rfl
              exact ⟨by unfold takenN; rw [hh]; rfl, by unfold nextN; rw [hh]; rfl, hh⟩

            go_wp2_with fail
            have HRd := Lib.hid (HR.out.below (Below.refl wr.heap.size wr).drew)
            refine hStart (fun w' => Below w.heap.size w w') (by kernel_rfl) ?_
            have hHeld := hbr.drew
            refine hTake 0 (v := ?_) rfl (by kernel_rfl) (by kernel_rfl) (by kernel_rfl) (fun _ _ _ h => h) (by rfl) ?_ hHeld ?_
            rotate_left
            · intro w hSw; (try dsimp only at hSw); go_simp; (try with_reducible rfl)
            try simp only [Act.put, List.setIfInBounds_toArray, List.set_cons_zero, List.set_cons_succ]
            refine hTake 1 (v := ?_) rfl (by kernel_rfl) (by kernel_rfl) (by kernel_rfl) (fun _ _ _ h => h) (by rfl) ?_ hHeld ?_
            rotate_left
            · intro w hSw; (try dsimp only at hSw); go_simp; (try with_reducible rfl)
            try simp only [Act.put, List.setIfInBounds_toArray, List.set_cons_zero, List.set_cons_succ]
            refine hTake 4 (v := ?_) rfl (by kernel_rfl) (by kernel_rfl) (by kernel_rfl) (fun _ _ _ h => h) (by rfl) ?_ hHeld ?_
            rotate_left
            · intro w hSw; (try dsimp only at hSw); go_simp; (try with_reducible rfl)
            try simp only [Act.put, List.setIfInBounds_toArray, List.set_cons_zero, List.set_cons_succ]
            refine hTake 5 (v := (.string Se)) rfl (by kernel_rfl) (by kernel_rfl) (by kernel_rfl) (fun _ _ _ h => h) (by rfl) ?_ hHeld ?_
            · intro w hSw; have h1 := HSE.out w; go_simp; (try with_reducible rfl)
            try simp only [Act.put, List.setIfInBounds_toArray, List.set_cons_zero, List.set_cons_succ]
            refine hStep 2 rfl (by kernel_rfl) (by rfl) (fun K hK => ?_)
            have HK := Lib.hid hK
            clear hK
            go_simp
            refine (RTake_any nn _ HRd.out hn1 hn2).mono ?_
            rintro e w3 ⟨v3, rfl, hown3, hR3, hK3⟩
            rw [HT.out.1] at hown3
            rw [HT.out.2.1, HT.out.2.2] at hR3
            have HRD : Hid (Rd w3 q g L i true) := hR3
            obtain ⟨a3, c3, n3, hv3, hn3, hbs3, -, -⟩ := hown3.bsn
            rw [hv3]
            have hbr3 : Below w.heap.size w w3 := hHeld.trans (hK3.below hHeld.size (by rintro z rfl; exact hqw))
            have hHeldN := hbr3
            refine HK.out _ _ hHeldN ?_
            clear HK K hHeld
            have hHeld := hHeldN
            clear hHeldN
            try simp only [Act.put, List.setIfInBounds_toArray, List.set_cons_zero, List.set_cons_succ]
            have HS3 : Hid (∀ w', Below w3.heap.size w3 w' → (convert 22 9 (.slice a3 n3 c3)).run Try.prog w' = .ok (.string Se) w') := fun w' hw' => by
              rw [HSE0.out]; exact run_str hn3 (hbs3.below hw')
            clear hv3 hown3 hn3 hbs3 hR3 hK3
            refine hSwitch (S2 := fun w' => Below w3.heap.size w3 w') (fun w' hw' => hbr3.trans (hw'.mono hbr3.size)) _ _ _ _ ?_
            clear hHeld
            have hHeld := Below.refl w3.heap.size w3
            refine hTake 3 (v := (.string Se)) rfl (by kernel_rfl) (by kernel_rfl) (by kernel_rfl) (fun _ _ _ h => h) (by rfl) ?_ hHeld ?_
            · intro w hSw; have h1 := HS3.out w hSw; go_simp; (try with_reducible rfl)
            try simp only [Act.put, List.setIfInBounds_toArray, List.set_cons_zero, List.set_cons_succ]
            refine hTake 6 (v := ?_) rfl (by kernel_rfl) (by kernel_rfl) (by kernel_rfl) (fun _ _ _ h => h) (by rfl) ?_ hHeld ?_
            rotate_left
            · intro w hSw; (try dsimp only at hSw); go_simp; (try with_reducible rfl)
            try simp only [Act.put, List.setIfInBounds_toArray, List.set_cons_zero, List.set_cons_succ]
            refine hDone (by kernel_rfl) ?_
            show NoPanic _ _ _ _
            refine NoPanic.normal ?_
            clear hHeld HS3 hbr
            have HLEFT : Hid (leftN L i true = 0) := rfl
            have HALL : Hid ((!true && leftN L i true == 0) = false) := rfl

            go_wp2_with fail
            refine (RLeft_any _ HRD.out).mono ?_
            rintro e w4 ⟨rfl, hb4⟩
            rw [HLEFT.out]
            have hbr4 := hbr3.trans (hb4.mono hbr3.size)
            have HRD4 := Lib.hid (HRD.out.below hb4)
            clear hb4
            go_wp2_with fail
            refine (RSpent_any _ HRD4.out).mono ?_
            rintro e w5 ⟨rfl, rfl⟩
            go_wp2_with fail
            refine (RAll_any _ HRD4.out).mono ?_
            rintro e w5 ⟨rfl, hb5⟩
            rw [HALL.out]
            have hbr5 := hbr4.trans (hb5.mono hbr4.size)
            have HRD5 := Lib.hid (HRD4.out.below hb5)
            clear hb5 hbr3 hbr4
            go_wp2
            go_roundw
            case rel => exact ⟨k + 1, i, true, by omega, by go_num, by go_num, rfl, HRD5.out, hbr5⟩
            case measure => simp [intOf] <;> omega
          by_cases h3 : (N : Int) - i < nn
          · have HT : Hid (takenN L i true nn = [] ∧ nextN L i true nn = i ∧ hasN L i true nn = false) := by
              have hh : hasN L i true nn = false := by rfl
              exact ⟨by unfold takenN; rw [hh]; rfl, by unfold nextN; rw [hh]; rfl, hh⟩

            go_wp2_with fail
            have HRd := Lib.hid (HR.out.below (Below.refl wr.heap.size wr).drew)
            refine hStart (fun w' => Below w.heap.size w w') (by kernel_rfl) ?_
            have hHeld := hbr.drew
            refine hTake 0 (v := ?_) rfl (by kernel_rfl) (by kernel_rfl) (by kernel_rfl) (fun _ _ _ h => h) (by rfl) ?_ hHeld ?_
            rotate_left
            · intro w hSw; (try dsimp only at hSw); go_simp; (try with_reducible rfl)
            try simp only [Act.put, List.setIfInBounds_toArray, List.set_cons_zero, List.set_cons_succ]
            refine hTake 1 (v := ?_) rfl (by kernel_rfl) (by kernel_rfl) (by kernel_rfl) (fun _ _ _ h => h) (by rfl) ?_ hHeld ?_
            rotate_left
            · intro w hSw; (try dsimp only at hSw); go_simp; (try with_reducible rfl)
            try simp only [Act.put, List.setIfInBounds_toArray, List.set_cons_zero, List.set_cons_succ]
            refine hTake 4 (v := ?_) rfl (by kernel_rfl) (by kernel_rfl) (by kernel_rfl) (fun _ _ _ h => h) (by rfl) ?_ hHeld ?_
            rotate_left
            · intro w hSw; (try dsimp only at hSw); go_simp; (try with_reducible rfl)
            try simp only [Act.put, List.setIfInBounds_toArray, List.set_cons_zero, List.set_cons_succ]
            refine hTake 5 (v := (.string Se)) rfl (by kernel_rfl) (by kernel_rfl) (by kernel_rfl) (fun _ _ _ h => h) (by rfl) ?_ hHeld ?_
            · intro w hSw; have h1 := HSE.out w; go_simp; (try with_reducible rfl)
            try simp only [Act.put, List.setIfInBounds_toArray, List.set_cons_zero, List.set_cons_succ]
            refine hStep 2 rfl (by kernel_rfl) (by rfl) (fun K hK => ?_)
            have HK := Lib.hid hK
            clear hK
            go_simp
            refine (RTake_any nn _ HRd.out hn1 hn2).mono ?_
            rintro e w3 ⟨v3, rfl, hown3, hR3, hK3⟩
            rw [HT.out.1] at hown3
            rw [HT.out.2.1, HT.out.2.2] at hR3
            have HRD : Hid (Rd w3 q g L i true) := hR3
            obtain ⟨a3, c3, n3, hv3, hn3, hbs3, -, -⟩ := hown3.bsn
            rw [hv3]
            have hbr3 : Below w.heap.size w w3 := hHeld.trans (hK3.below hHeld.size (by rintro z rfl; exact hqw))
            have hHeldN := hbr3
            refine HK.out _ _ hHeldN ?_
            clear HK K hHeld
            have hHeld := hHeldN
            clear hHeldN
            try simp only [Act.put, List.setIfInBounds_toArray, List.set_cons_zero, List.set_cons_succ]
            have HS3 : Hid (∀ w', Below w3.heap.size w3 w' → (convert 22 9 (.slice a3 n3 c3)).run Try.prog w' = .ok (.string Se) w') := fun w' hw' => by
              rw [HSE0.out]; exact run_str hn3 (hbs3.below hw')
            clear hv3 hown3 hn3 hbs3 hR3 hK3
            refine hSwitch (S2 := fun w' => Below w3.heap.size w3 w') (fun w' hw' => hbr3.trans (hw'.mono hbr3.size)) _ _ _ _ ?_
            clear hHeld
            have hHeld := Below.refl w3.heap.size w3
            refine hTake 3 (v := (.string Se)) rfl (by kernel_rfl) (by kernel_rfl) (by kernel_rfl) (fun _ _ _ h => h) (by rfl) ?_ hHeld ?_
            · intro w hSw; have h1 := HS3.out w hSw; go_simp; (try with_reducible rfl)
            try simp only [Act.put, List.setIfInBounds_toArray, List.set_cons_zero, List.set_cons_succ]
            refine hTake 6 (v := ?_) rfl (by kernel_rfl) (by kernel_rfl) (by kernel_rfl) (fun _ _ _ h => h) (by rfl) ?_ hHeld ?_
            rotate_left
            · intro w hSw; (try dsimp only at hSw); go_simp; (try with_reducible rfl)
            try simp only [Act.put, List.setIfInBounds_toArray, List.set_cons_zero, List.set_cons_succ]
            refine hDone (by kernel_rfl) ?_
            show NoPanic _ _ _ _
            refine NoPanic.normal ?_
            clear hHeld HS3 hbr
            have HLEFT : Hid (leftN L i true = 0) := rfl
            have HALL : Hid ((!true && leftN L i true == 0) = false) := rfl

            go_wp2_with fail
            refine (RLeft_any _ HRD.out).mono ?_
            rintro e w4 ⟨rfl, hb4⟩
            rw [HLEFT.out]
            have hbr4 := hbr3.trans (hb4.mono hbr3.size)
            have HRD4 := Lib.hid (HRD.out.below hb4)
            clear hb4
            go_wp2_with fail
            refine (RSpent_any _ HRD4.out).mono ?_
            rintro e w5 ⟨rfl, rfl⟩
            go_wp2_with fail
            refine (RAll_any _ HRD4.out).mono ?_
            rintro e w5 ⟨rfl, hb5⟩
            rw [HALL.out]
            have hbr5 := hbr4.trans (hb5.mono hbr4.size)
            have HRD5 := Lib.hid (HRD4.out.below hb5)
            clear hb5 hbr3 hbr4
            go_wp2
            go_roundw
            case rel => exact ⟨k + 1, i, true, by omega, by go_num, by go_num, rfl, HRD5.out, hbr5⟩
            case measure => simp [intOf] <;> omega
          have HT : Hid (takenN L i true nn = [] ∧ nextN L i true nn = i ∧ hasN L i true nn = false) := by
            have hh : hasN L i true nn = false := by rfl
            exact ⟨by unfold takenN; rw [hh]; rfl, by unfold nextN; rw [hh]; rfl, hh⟩

          go_wp2_with fail
          have HRd := Lib.hid (HR.out.below (Below.refl wr.heap.size wr).drew)
          refine hStart (fun w' => Below w.heap.size w w') (by kernel_rfl) ?_
          have hHeld := hbr.drew
          refine hTake 0 (v := ?_) rfl (by kernel_rfl) (by kernel_rfl) (by kernel_rfl) (fun _ _ _ h => h) (by rfl) ?_ hHeld ?_
          rotate_left
          · intro w hSw; (try dsimp only at hSw); go_simp; (try with_reducible rfl)
          try simp only [Act.put, List.setIfInBounds_toArray, List.set_cons_zero, List.set_cons_succ]
          refine hTake 1 (v := ?_) rfl (by kernel_rfl) (by kernel_rfl) (by kernel_rfl) (fun _ _ _ h => h) (by rfl) ?_ hHeld ?_
          rotate_left
          · intro w hSw; (try dsimp only at hSw); go_simp; (try with_reducible rfl)
          try simp only [Act.put, List.setIfInBounds_toArray, List.set_cons_zero, List.set_cons_succ]
          refine hTake 4 (v := ?_) rfl (by kernel_rfl) (by kernel_rfl) (by kernel_rfl) (fun _ _ _ h => h) (by rfl) ?_ hHeld ?_
          rotate_left
          · intro w hSw; (try dsimp only at hSw); go_simp; (try with_reducible rfl)
          try simp only [Act.put, List.setIfInBounds_toArray, List.set_cons_zero, List.set_cons_succ]
          refine hTake 5 (v := (.string Se)) rfl (by kernel_rfl) (by kernel_rfl) (by kernel_rfl) (fun _ _ _ h => h) (by rfl) ?_ hHeld ?_
          · intro w hSw; have h1 := HSE.out w; go_simp; (try with_reducible rfl)
          try simp only [Act.put, List.setIfInBounds_toArray, List.set_cons_zero, List.set_cons_succ]
          refine hStep 2 rfl (by kernel_rfl) (by rfl) (fun K hK => ?_)
          have HK := Lib.hid hK
          clear hK
          go_simp
          refine (RTake_any nn _ HRd.out hn1 hn2).mono ?_
          rintro e w3 ⟨v3, rfl, hown3, hR3, hK3⟩
          rw [HT.out.1] at hown3
          rw [HT.out.2.1, HT.out.2.2] at hR3
          have HRD : Hid (Rd w3 q g L i true) := hR3
          obtain ⟨a3, c3, n3, hv3, hn3, hbs3, -, -⟩ := hown3.bsn
          rw [hv3]
          have hbr3 : Below w.heap.size w w3 := hHeld.trans (hK3.below hHeld.size (by rintro z rfl; exact hqw))
          have hHeldN := hbr3
          refine HK.out _ _ hHeldN ?_
          clear HK K hHeld
          have hHeld := hHeldN
          clear hHeldN
          try simp only [Act.put, List.setIfInBounds_toArray, List.set_cons_zero, List.set_cons_succ]
          have HS3 : Hid (∀ w', Below w3.heap.size w3 w' → (convert 22 9 (.slice a3 n3 c3)).run Try.prog w' = .ok (.string Se) w') := fun w' hw' => by
            rw [HSE0.out]; exact run_str hn3 (hbs3.below hw')
          clear hv3 hown3 hn3 hbs3 hR3 hK3
          refine hSwitch (S2 := fun w' => Below w3.heap.size w3 w') (fun w' hw' => hbr3.trans (hw'.mono hbr3.size)) _ _ _ _ ?_
          clear hHeld
          have hHeld := Below.refl w3.heap.size w3
          refine hTake 3 (v := (.string Se)) rfl (by kernel_rfl) (by kernel_rfl) (by kernel_rfl) (fun _ _ _ h => h) (by rfl) ?_ hHeld ?_
          · intro w hSw; have h1 := HS3.out w hSw; go_simp; (try with_reducible rfl)
          try simp only [Act.put, List.setIfInBounds_toArray, List.set_cons_zero, List.set_cons_succ]
          refine hTake 6 (v := ?_) rfl (by kernel_rfl) (by kernel_rfl) (by kernel_rfl) (fun _ _ _ h => h) (by rfl) ?_ hHeld ?_
          rotate_left
          · intro w hSw; (try dsimp only at hSw); go_simp; (try with_reducible rfl)
          try simp only [Act.put, List.setIfInBounds_toArray, List.set_cons_zero, List.set_cons_succ]
          refine hDone (by kernel_rfl) ?_
          show NoPanic _ _ _ _
          refine NoPanic.normal ?_
          clear hHeld HS3 hbr
          have HLEFT : Hid (leftN L i true = 0) := rfl
          have HALL : Hid ((!true && leftN L i true == 0) = false) := rfl

          go_wp2_with fail
          refine (RLeft_any _ HRD.out).mono ?_
          rintro e w4 ⟨rfl, hb4⟩
          rw [HLEFT.out]
          have hbr4 := hbr3.trans (hb4.mono hbr3.size)
          have HRD4 := Lib.hid (HRD.out.below hb4)
          clear hb4
          go_wp2_with fail
          refine (RSpent_any _ HRD4.out).mono ?_
          rintro e w5 ⟨rfl, rfl⟩
          go_wp2_with fail
          refine (RAll_any _ HRD4.out).mono ?_
          rintro e w5 ⟨rfl, hb5⟩
          rw [HALL.out]
          have hbr5 := hbr4.trans (hb5.mono hbr4.size)
          have HRD5 := Lib.hid (HRD4.out.below hb5)
          clear hb5 hbr3 hbr4
          go_wp2
          go_roundw
          case rel => exact ⟨k + 1, i, true, by omega, by go_num, by go_num, rfl, HRD5.out, hbr5⟩
          case measure => simp [intOf] <;> omega
        · by_cases h1 : nn < 1
          · have HT : Hid (takenN L i true (askN nn) = [] ∧ nextN L i true (askN nn) = i ∧ hasN L i true (askN nn) = false) := by
              have hh : hasN L i true (askN nn) = false := by rw [show askN nn = -1 from if_pos (.inl h1)]; rfl
              exact ⟨by unfold takenN; rw [hh]; rfl, by unfold nextN; rw [hh]; rfl, hh⟩

            go_wp2
            go_loop [11, 12] (fun v k => v = .int .u64 0 ∧ k = .int .i64 0) (fun _ _ => 0)
            case atStart => exact ⟨rfl, rfl⟩
            case round =>
              obtain ⟨rfl, rfl⟩ := hrel
              go_wp2_with fail
              refine (RNum_any nn _ HR.out hn1 hn2).mono ?_
              rintro e w3 ⟨rfl, hR3, hK3⟩
              rw [HT.out.2.1, HT.out.2.2] at hR3
              rw [HT.out.1, HBV0.out]
              have HRD : Hid (Rd w3 q g L i true) := hR3
              have hbr3 : Below w.heap.size w w3 := hbr.trans (hK3.below hbr.size (by rintro z rfl; exact hqw))
              clear hR3 hK3 hbr
              have HLEFT : Hid (leftN L i true = 0) := rfl
              have HALL : Hid ((!true && leftN L i true == 0) = false) := rfl
              go_wp2_with fail
              refine (RLeft_any _ HRD.out).mono ?_
              rintro e w4 ⟨rfl, hb4⟩
              rw [HLEFT.out]
              have hbr4 := hbr3.trans (hb4.mono hbr3.size)
              have HRD4 := Lib.hid (HRD.out.below hb4)
              clear hb4
              go_wp2_with fail
              refine (RSpent_any _ HRD4.out).mono ?_
              rintro e w5 ⟨rfl, rfl⟩
              go_wp2_with fail
              refine (RAll_any _ HRD4.out).mono ?_
              rintro e w5 ⟨rfl, hb5⟩
              rw [HALL.out]
              have hbr5 := hbr4.trans (hb5.mono hbr4.size)
              have HRD5 := Lib.hid (HRD4.out.below hb5)
              clear hb5 hbr3 hbr4
              go_wp2
              go_roundw
              case rel => exact ⟨k + 1, i, true, by omega, by go_num, by go_num, rfl, HRD5.out, hbr5⟩
              case measure => simp [intOf] <;> omega
          by_cases h2 : 8 < nn
          · have HT : Hid (takenN L i true (askN nn) = [] ∧ nextN L i true (askN nn) = i ∧ hasN L i true (askN nn) = false) := by
              have hh : hasN L i true (askN nn) = false := by rw [show askN nn = -1 from if_pos (.inr h2)]; rfl
              exact ⟨by unfold takenN; rw [hh]; rfl, by unfold nextN; rw [hh]; rfl, hh⟩

            go_wp2
            go_loop [11, 12] (fun v k => v = .int .u64 0 ∧ k = .int .i64 0) (fun _ _ => 0)
            case atStart => exact ⟨rfl, rfl⟩
            case round =>
              obtain ⟨rfl, rfl⟩ := hrel
              go_wp2_with fail
              refine (RNum_any nn _ HR.out hn1 hn2).mono ?_
              rintro e w3 ⟨rfl, hR3, hK3⟩
              rw [HT.out.2.1, HT.out.2.2] at hR3
              rw [HT.out.1, HBV0.out]
              have HRD : Hid (Rd w3 q g L i true) := hR3
              have hbr3 : Below w.heap.size w w3 := hbr.trans (hK3.below hbr.size (by rintro z rfl; exact hqw))
              clear hR3 hK3 hbr
              have HLEFT : Hid (leftN L i true = 0) := rfl
              have HALL : Hid ((!true && leftN L i true == 0) = false) := rfl
              go_wp2_with fail
              refine (RLeft_any _ HRD.out).mono ?_
              rintro e w4 ⟨rfl, hb4⟩
              rw [HLEFT.out]
              have hbr4 := hbr3.trans (hb4.mono hbr3.size)
              have HRD4 := Lib.hid (HRD.out.below hb4)
              clear hb4
              go_wp2_with fail
              refine (RSpent_any _ HRD4.out).mono ?_
              rintro e w5 ⟨rfl, rfl⟩
              go_wp2_with fail
              refine (RAll_any _ HRD4.out).mono ?_
              rintro e w5 ⟨rfl, hb5⟩
              rw [HALL.out]
              have hbr5 := hbr4.trans (hb5.mono hbr4.size)
              have HRD5 := Lib.hid (HRD4.out.below hb5)
              clear hb5 hbr3 hbr4
              go_wp2
              go_roundw
              case rel => exact ⟨k + 1, i, true, by omega, by go_num, by go_num, rfl, HRD5.out, hbr5⟩
              case measure => simp [intOf] <;> omega
          by_cases h3 : (N : Int) - i < nn
          · have HT : Hid (takenN L i true (askN nn) = [] ∧ nextN L i true (askN nn) = i ∧ hasN L i true (askN nn) = false) := by
              have hh : hasN L i true (askN nn) = false := by rfl
              exact ⟨by unfold takenN; rw [hh]; rfl, by unfold nextN; rw [hh]; rfl, hh⟩

            go_wp2
            go_loop [11, 12] (fun v k => v = .int .u64 0 ∧ k = .int .i64 0) (fun _ _ => 0)
            case atStart => exact ⟨rfl, rfl⟩
            case round =>
              obtain ⟨rfl, rfl⟩ := hrel
              go_wp2_with fail
              refine (RNum_any nn _ HR.out hn1 hn2).mono ?_
              rintro e w3 ⟨rfl, hR3, hK3⟩
              rw [HT.out.2.1, HT.out.2.2] at hR3
              rw [HT.out.1, HBV0.out]
              have HRD : Hid (Rd w3 q g L i true) := hR3
              have hbr3 : Below w.heap.size w w3 := hbr.trans (hK3.below hbr.size (by rintro z rfl; exact hqw))
              clear hR3 hK3 hbr
              have HLEFT : Hid (leftN L i true = 0) := rfl
              have HALL : Hid ((!true && leftN L i true == 0) = false) := rfl
              go_wp2_with fail
              refine (RLeft_any _ HRD.out).mono ?_
              rintro e w4 ⟨rfl, hb4⟩
              rw [HLEFT.out]
              have hbr4 := hbr3.trans (hb4.mono hbr3.size)
              have HRD4 := Lib.hid (HRD.out.below hb4)
              clear hb4
              go_wp2_with fail
              refine (RSpent_any _ HRD4.out).mono ?_
              rintro e w5 ⟨rfl, rfl⟩
              go_wp2_with fail
              refine (RAll_any _ HRD4.out).mono ?_
              rintro e w5 ⟨rfl, hb5⟩
              rw [HALL.out]
              have hbr5 := hbr4.trans (hb5.mono hbr4.size)
              have HRD5 := Lib.hid (HRD4.out.below hb5)
              clear hb5 hbr3 hbr4
              go_wp2
              go_roundw
              case rel => exact ⟨k + 1, i, true, by omega, by go_num, by go_num, rfl, HRD5.out, hbr5⟩
              case measure => simp [intOf] <;> omega
          have HT : Hid (takenN L i true (askN nn) = [] ∧ nextN L i true (askN nn) = i ∧ hasN L i true (askN nn) = false) := by
            have hh : hasN L i true (askN nn) = false := by rfl
            exact ⟨by unfold takenN; rw [hh]; rfl, by unfold nextN; rw [hh]; rfl, hh⟩

          go_wp2
          go_loop [11, 12] (fun v k => v = .int .u64 0 ∧ k = .int .i64 0) (fun _ _ => 0)
          case atStart => exact ⟨rfl, rfl⟩
          case round =>
            obtain ⟨rfl, rfl⟩ := hrel
            go_wp2_with fail
            refine (RNum_any nn _ HR.out hn1 hn2).mono ?_
            rintro e w3 ⟨rfl, hR3, hK3⟩
            rw [HT.out.2.1, HT.out.2.2] at hR3
            rw [HT.out.1, HBV0.out]
            have HRD : Hid (Rd w3 q g L i true) := hR3
            have hbr3 : Below w.heap.size w w3 := hbr.trans (hK3.below hbr.size (by rintro z rfl; exact hqw))
            clear hR3 hK3 hbr
            have HLEFT : Hid (leftN L i true = 0) := rfl
            have HALL : Hid ((!true && leftN L i true == 0) = false) := rfl
            go_wp2_with fail
            refine (RLeft_any _ HRD.out).mono ?_
            rintro e w4 ⟨rfl, hb4⟩
            rw [HLEFT.out]
            have hbr4 := hbr3.trans (hb4.mono hbr3.size)
            have HRD4 := Lib.hid (HRD.out.below hb4)
            clear hb4
            go_wp2_with fail
            refine (RSpent_any _ HRD4.out).mono ?_
            rintro e w5 ⟨rfl, rfl⟩
            go_wp2_with fail
            refine (RAll_any _ HRD4.out).mono ?_
            rintro e w5 ⟨rfl, hb5⟩
            rw [HALL.out]
            have hbr5 := hbr4.trans (hb5.mono hbr4.size)
            have HRD5 := Lib.hid (HRD4.out.below hb5)
            clear hb5 hbr3 hbr4
            go_wp2
            go_roundw
            case rel => exact ⟨k + 1, i, true, by omega, by go_num, by go_num, rfl, HRD5.out, hbr5⟩
            case measure => simp [intOf] <;> omega
    · obtain rfl : k = n1 := by omega
      go_wp2_with (go_at_call 11; refine (awake1 _).mono ?_; rintro e w2 ⟨rfl, hb2⟩)
      go_ret
      exact ⟨rfl, hbr.trans (hb2.mono hbr.size)⟩
end Go.Proofs.Ythicaomghefedaa
