/- The walk of the law VarintForms: it returns true, and leaves what was there as it was. -/
import Derived.Test.YthicaomghefedaaLaw2Awake
import Derived.Test.YthicaomghefedaaSep
namespace Go.Proofs.Ythicaomghefedaa
open Go.RowKit

set_option maxRecDepth 100000 in
set_option maxHeartbeats 4000000 in
theorem VarintForms_walk (a : Option Addr) (ls : List Nat) (m cap : Nat) (w : World) (hm : m = ls.length) (hb : Ns w a cap ls) :
    Calls Try.prog 10 #[.slice a m cap] w fun e w' => e = .returned (.bool true) ∧ Below w.heap.size w w' := by
  have hf := hb.fits hm
  have HM := Lib.hid hm
  have HB := Lib.hid hb
  clear hm hb
  by_cases h1 : 40 < m
  · go_enter Try.func10, Try.ntmps10
    go_wp2_with (go_at_call 25; refine (awake2 _).mono ?_; rintro e w1 ⟨rfl, hb1⟩)
    go_ret
    exact ⟨rfl, hb1⟩
  go_enter Try.func10, Try.ntmps10
  go_wp2_with fail
  refine (octetWrite_any _).mono ?_
  rintro e w1 ⟨p, rfl, hW1, hb1⟩
  have HW1 := Lib.hid hW1
  clear hW1
  go_wp2
  go_loopw [3, 5, 6] (fun va i _ wr => ∃ (k : Nat) (x : Value), k ≤ m ∧ i = .int .i64 (k : Int) ∧ Wr w.heap.size wr p x (flatV (ls.take k)) ∧ OwnB w.heap.size wr va (flatV (ls.take k)) ∧ Sep va p x ∧ Below w.heap.size w wr) (fun _ i _ _ => m - (intOf i).toNat)
  case atStart => exact ⟨0, _, Nat.zero_le _, rfl, HW1.out, OwnB.start _ _, (fun k hk => by cases hk), hb1⟩
  case round =>
    obtain ⟨k, x, hk, rfl, hW, hO, hsep, hbr⟩ := hrel
    have HLE := Lib.hid (flatV_take_le HB.out.small k)
    obtain ⟨a4, c4, n4, hv4, hn4, hb4, -, -⟩ := hO.bsn
    subst hv4
    have HW := Lib.hid hW
    have HO := Lib.hid hO
    have HSEP := Lib.hid hsep
    have HB4 := Lib.hid hb4
    have HN4 := Lib.hid hn4
    clear hW hO hsep hn4 hb4
    by_cases hlt : k < m
    · obtain ⟨b, off, rfl, hc0, hbl, hv⟩ := HB.out.at (k := k) (by have := HM.out; omega)
      have HT := Lib.hid (flatV_take_succ ls k (by have := HM.out; omega))
      generalize ls.getD k 0 = v at *
      have HC : Hid (∀ w', Below w.heap.size w w' → w'.cell? ⟨b, off + k, none⟩ = some (.int .u64 (v : Int))) := fun w' h => by rw [h.cell hbl]; exact hc0
      have hcr := HC.out wr hbr
      clear hc0
      go_wp2_with fail
      refine (Form_any v _ hv).mono ?_
      rintro e w2 ⟨xf, rfl, hof, hb2⟩
      obtain ⟨af, cf, nf, hvf, hnf, hbf, -, hblf⟩ := hof.bsn
      subst hvf
      have hbw2 : Below w.heap.size w w2 := hbr.trans (hb2.mono hbr.size)
      have HW2 := Lib.hid (HW.out.below hb2)
      have HO2 := Lib.hid (HO.out.below hb2)
      have HNF := Lib.hid hnf
      have HBF := Lib.hid hbf
      have HFL := Lib.hid (formV_le hv)
      have HX : Hid (∀ z, af = some z → ¬ WFoot p x z.block) := fun z hz hf => by
        have h5 := (hblf z hz).1
        rcases hf with hf | hf
        · have := HW.out.lt; omega
        · have := (HW.out.own.lt _ hf).2; omega
      have hnfl : nf ≤ 10 := by rw [hnf]; exact HFL.out
      obtain ⟨S, hS⟩ : ∃ S, S = strB (formV v) := ⟨_, rfl⟩
      have HS := Lib.hid hS
      have HSF : Hid (∀ w', Below w2.heap.size w2 w' → (convert 22 9 (.slice af nf cf)).run Try.prog w' = .ok (.string S) w') := fun w' h => by
        rw [HS.out]; exact run_str HNF.out (HBF.out.below h)
      have HC2 : Hid (∀ w', Below w2.heap.size w2 w' → w'.cell? ⟨b, off + k, none⟩ = some (.int .u64 (v : Int))) := fun w' h => HC.out w' (hbw2.trans (h.mono hbw2.size))
      have HFV : Hid (flatV [v] = formV v) := by show _ = _; simp [flatV]
      clear hof hnf hbf hblf hb2 hcr hS
      go_wp2_with fail
      refine hStart (fun w' => Below w2.heap.size w2 w') (by kernel_rfl) ?_
      have hHeld := (Below.refl w2.heap.size w2).drew
      refine hTake 0 (v := ?_) rfl (by kernel_rfl) (by kernel_rfl) (by kernel_rfl) (fun _ _ _ h => h) (by rfl) ?_ hHeld ?_
      rotate_left
      · intro w hSw; (try dsimp only at hSw); go_simp; (try with_reducible rfl)
      try simp only [Act.put, List.setIfInBounds_toArray, List.set_cons_zero, List.set_cons_succ]
      refine hTake 1 (v := ?_) rfl (by kernel_rfl) (by kernel_rfl) (by kernel_rfl) (fun _ _ _ h => h) (by rfl) ?_ hHeld ?_
      rotate_left
      · intro w hSw; (try dsimp only at hSw); go_simp; (try with_reducible rfl)
      try simp only [Act.put, List.setIfInBounds_toArray, List.set_cons_zero, List.set_cons_succ]
      refine hTake 2 (v := ?_) rfl (by kernel_rfl) (by kernel_rfl) (by kernel_rfl) (fun _ _ _ h => h) (by rfl) ?_ hHeld ?_
      rotate_left
      · intro w hSw; (try dsimp only at hSw); go_simp; (try with_reducible rfl)
      try simp only [Act.put, List.setIfInBounds_toArray, List.set_cons_zero, List.set_cons_succ]
      refine hTake 3 (v := (.int .u64 (v : Int))) rfl (by kernel_rfl) (by kernel_rfl) (by kernel_rfl) (fun _ _ _ h => h) (by rfl) ?_ hHeld ?_
      · intro w hSw; have h1 := HC2.out w hSw; go_simp; (try with_reducible rfl)
      try simp only [Act.put, List.setIfInBounds_toArray, List.set_cons_zero, List.set_cons_succ]
      refine hTake 5 (v := ?_) rfl (by kernel_rfl) (by kernel_rfl) (by kernel_rfl) (fun _ _ _ h => h) (by rfl) ?_ hHeld ?_
      rotate_left
      · intro w hSw; (try dsimp only at hSw); go_simp; (try with_reducible rfl)
      try simp only [Act.put, List.setIfInBounds_toArray, List.set_cons_zero, List.set_cons_succ]
      refine hTake 6 (v := ?_) rfl (by kernel_rfl) (by kernel_rfl) (by kernel_rfl) (fun _ _ _ h => h) (by rfl) ?_ hHeld ?_
      rotate_left
      · intro w hSw; (try dsimp only at hSw); go_simp; (try with_reducible rfl)
      try simp only [Act.put, List.setIfInBounds_toArray, List.set_cons_zero, List.set_cons_succ]
      refine hStep 4 rfl (by kernel_rfl) (by rfl) (fun K hK => ?_)
      have HK := Lib.hid hK
      clear hK
      go_simp
      refine (VLen_any v _ hv).mono ?_
      rintro e w3 ⟨rfl, rfl⟩
      rw [← HNF.out]
      have hHeldN := hHeld
      refine HK.out _ _ hHeldN ?_
      clear HK K hHeld
      have hHeld := hHeldN
      clear hHeldN
      try simp only [Act.put, List.setIfInBounds_toArray, List.set_cons_zero, List.set_cons_succ]
      refine hTake 7 (v := ?_) rfl (by kernel_rfl) (by kernel_rfl) (by kernel_rfl) (fun _ _ _ h => h) (by rfl) ?_ hHeld ?_
      rotate_left
      · intro w hSw; (try dsimp only at hSw); go_simp; (try with_reducible rfl)
      try simp only [Act.put, List.setIfInBounds_toArray, List.set_cons_zero, List.set_cons_succ]
      refine hTake 8 (v := ?_) rfl (by kernel_rfl) (by kernel_rfl) (by kernel_rfl) (fun _ _ _ h => h) (by rfl) ?_ hHeld ?_
      rotate_left
      · intro w hSw; (try dsimp only at hSw); go_simp; (try with_reducible rfl)
      try simp only [Act.put, List.setIfInBounds_toArray, List.set_cons_zero, List.set_cons_succ]
      refine hTake 9 (v := ?_) rfl (by kernel_rfl) (by kernel_rfl) (by kernel_rfl) (fun _ _ _ h => h) (by rfl) ?_ hHeld ?_
      rotate_left
      · intro w hSw; (try dsimp only at hSw); go_simp; (try with_reducible rfl)
      try simp only [Act.put, List.setIfInBounds_toArray, List.set_cons_zero, List.set_cons_succ]
      refine hTake 10 (v := ?_) rfl (by kernel_rfl) (by kernel_rfl) (by kernel_rfl) (fun _ _ _ h => h) (by rfl) ?_ hHeld ?_
      rotate_left
      · intro w hSw; (try dsimp only at hSw); go_simp; (try with_reducible rfl)
      try simp only [Act.put, List.setIfInBounds_toArray, List.set_cons_zero, List.set_cons_succ]
      refine hTake 11 (v := ?_) rfl (by kernel_rfl) (by kernel_rfl) (by kernel_rfl) (fun _ _ _ h => h) (by rfl) ?_ hHeld ?_
      rotate_left
      · intro w hSw; (try dsimp only at hSw); go_simp; (try with_reducible rfl)
      try simp only [Act.put, List.setIfInBounds_toArray, List.set_cons_zero, List.set_cons_succ]
      refine hTake 12 (v := (.int .u64 (v : Int))) rfl (by kernel_rfl) (by kernel_rfl) (by kernel_rfl) (fun _ _ _ h => h) (by rfl) ?_ hHeld ?_
      · intro w hSw; have h1 := HC2.out w hSw; go_simp; (try with_reducible rfl)
      try simp only [Act.put, List.setIfInBounds_toArray, List.set_cons_zero, List.set_cons_succ]
      refine hTake 16 (v := ?_) rfl (by kernel_rfl) (by kernel_rfl) (by kernel_rfl) (fun _ _ _ h => h) (by rfl) ?_ hHeld ?_
      rotate_left
      · intro w hSw; (try dsimp only at hSw); go_simp; (try with_reducible rfl)
      try simp only [Act.put, List.setIfInBounds_toArray, List.set_cons_zero, List.set_cons_succ]
      refine hTake 17 (v := (.string S)) rfl (by kernel_rfl) (by kernel_rfl) (by kernel_rfl) (fun _ _ _ h => h) (by rfl) ?_ hHeld ?_
      · intro w hSw; have h1 := HSF.out w hSw; go_simp; (try with_reducible rfl)
      try simp only [Act.put, List.setIfInBounds_toArray, List.set_cons_zero, List.set_cons_succ]
      refine hStep 13 rfl (by kernel_rfl) (by rfl) (fun K hK => ?_)
      have HK := Lib.hid hK
      clear hK
      go_simp
      have hHeldN := (hHeld.alloc hHeld.size (.cells #[.int .u64 (v : Int)] 29))
      refine HK.out _ _ hHeldN ?_
      clear HK K hHeld
      have hHeld := hHeldN
      clear hHeldN
      try simp only [Act.put, List.setIfInBounds_toArray, List.set_cons_zero, List.set_cons_succ]
      refine hStep 14 rfl (by kernel_rfl) (by rfl) (fun K hK => ?_)
      have HK := Lib.hid hK
      clear hK
      go_simp
      refine (List_any _ [v] 1 1 _ rfl (by omega) ((Ns.one w2 v hv 29).below (Below.refl _ _).drew)).mono ?_
      rintro e w3 ⟨y, rfl, hoy, hb3⟩
      rw [HFV.out] at hoy
      obtain ⟨ay, cy, ny, hvy, hny, hby, -, -⟩ := hoy.bsn
      rw [hvy]
      have hb23 : Below w2.heap.size w2 w3 := hHeld.trans (hb3.mono hHeld.size)
      have HS3 : Hid (∀ w', Below w3.heap.size w3 w' → (convert 22 9 (.slice ay ny cy)).run Try.prog w' = .ok (.string S) w') := fun w' hw' => by
        rw [HS.out]; exact run_str hny (hby.below hw')
      clear hvy hny hby hoy hb3
      have hHeldN := hb23
      refine HK.out _ _ hHeldN ?_
      clear HK K hHeld
      have hHeld := hHeldN
      clear hHeldN
      try simp only [Act.put, List.setIfInBounds_toArray, List.set_cons_zero, List.set_cons_succ]
      refine hSwitch (S2 := fun w' => Below w3.heap.size w3 w') (fun w' hw' => hb23.trans (hw'.mono hb23.size)) _ _ _ _ ?_
      clear hHeld
      have hHeld := Below.refl w3.heap.size w3
      refine hTake 15 (v := (.string S)) rfl (by kernel_rfl) (by kernel_rfl) (by kernel_rfl) (fun _ _ _ h => h) (by rfl) ?_ hHeld ?_
      · intro w hSw; have h1 := HS3.out w hSw; go_simp; (try with_reducible rfl)
      try simp only [Act.put, List.setIfInBounds_toArray, List.set_cons_zero, List.set_cons_succ]
      refine hTake 18 (v := ?_) rfl (by kernel_rfl) (by kernel_rfl) (by kernel_rfl) (fun _ _ _ h => h) (by rfl) ?_ hHeld ?_
      rotate_left
      · intro w hSw; (try dsimp only at hSw); go_simp; (try with_reducible rfl)
      try simp only [Act.put, List.setIfInBounds_toArray, List.set_cons_zero, List.set_cons_succ]
      refine hTake 19 (v := ?_) rfl (by kernel_rfl) (by kernel_rfl) (by kernel_rfl) (fun _ _ _ h => h) (by rfl) ?_ hHeld ?_
      rotate_left
      · intro w hSw; (try dsimp only at hSw); go_simp; (try with_reducible rfl)
      try simp only [Act.put, List.setIfInBounds_toArray, List.set_cons_zero, List.set_cons_succ]
      refine hDone (by kernel_rfl) ?_
      show NoPanic _ _ _ _
      refine NoPanic.normal ?_
      have hbw3 : Below w.heap.size w w3 := hbw2.trans (hb23.mono hbw2.size)
      have HW3 := Lib.hid (HW2.out.below hb23)
      have HO3 := Lib.hid (HO2.out.below hb23)
      have HB3 := Lib.hid (HBF.out.below hb23)
      have hcr := HC.out w3 hbw3
      clear hHeld HS3 HSF HC2
      go_wp2_with fail
      refine (Put_any _ p x _ v _ HW3.out (by have := HLE.out; have := HM.out; omega) hv).mono ?_
      rintro e w4 ⟨rfl, x4, hW4, hK4, hN4⟩
      rw [← HT.out] at hW4
      have hbw4 : Below w.heap.size w w4 := hbw3.trans (hK4.below hbw3.size HW3.out.foot)
      have hO4 : OwnB w.heap.size w4 (.slice a4 n4 c4) (flatV (ls.take k)) := HO3.out.keptT hK4 HSEP.out.foot
      have hS4 : Sep (.slice a4 n4 c4) p x4 := HSEP.out.writer hN4 (fun k hk => (HO3.out.lt k hk).2)
      have HBF4 := Lib.hid (HB3.out.kept hK4 HX.out)
      have HW4 := Lib.hid hW4
      have HO4 := Lib.hid hO4
      have HS4 := Lib.hid hS4
      have hbase4 := hbw4.size
      have hp4 : p < w4.heap.size := hW4.lt
      have HX4 := Lib.hid (fun k (hk : x4.ownBlock = some k) => (HW4.out.own.lt k hk).2)
      have HROOM : Hid ((flatV (ls.take k)).length + nf ≤ 140737488355328) := by show _ ≤ _; have := HLE.out; have := HM.out; omega
      clear hW4 hO4 hS4 hK4 hN4 hcr
      go_wp2_with (at_builtin; refine wpList_append_bs_at rfl (.tmp 49) (.tmp 50) rfl w.heap.size (.slice a4 n4 c4) _ rfl HO4.out af nf cf (formV v) rfl HNF.out HBF4.out HROOM.out hbase4 ?_; intro va2 w5 hown5 hg5 hnear5; obtain ⟨a5, c5, n5, hv5, -, -, -, -⟩ := hown5.bsn; subst hv5)
      have hW5 := HW4.out.grow HS4.out hg5
      rw [← HT.out] at hown5
      go_roundw
      case rel => exact ⟨k + 1, x4, by omega, by go_num, hW5, hown5, HS4.out.grow hnear5 hp4 HX4.out, hbw4.trans (HO4.out.belowOf hg5 hbase4)⟩
      case measure => simp [intOf] <;> omega
    · obtain rfl : k = m := by omega
      have HE : Hid (ls.take k = ls) := by show _ = _; exact List.take_of_length_le (by have := HM.out; omega)
      rw [HE.out] at HW HO HB4 HN4 HLE
      obtain ⟨S, hS⟩ : ∃ S, S = strB (flatV ls) := ⟨_, rfl⟩
      have HS := Lib.hid hS
      have HSB : Hid (∀ w', Below wr.heap.size wr w' → (convert 22 9 (.slice a4 n4 c4)).run Try.prog w' = .ok (.string S) w') := fun w' h => by
        rw [HS.out]; exact run_str HN4.out (HB4.out.below h)
      clear hS
      go_wp2_with fail
      refine hStart (fun w' => Below wr.heap.size wr w') (by kernel_rfl) ?_
      have hHeld := (Below.refl wr.heap.size wr).drew
      refine hTake 0 (v := ?_) rfl (by kernel_rfl) (by kernel_rfl) (by kernel_rfl) (fun _ _ _ h => h) (by rfl) ?_ hHeld ?_
      rotate_left
      · intro w hSw; (try dsimp only at hSw); go_simp; (try with_reducible rfl)
      try simp only [Act.put, List.setIfInBounds_toArray, List.set_cons_zero, List.set_cons_succ]
      refine hTake 3 (v := ?_) rfl (by kernel_rfl) (by kernel_rfl) (by kernel_rfl) (fun _ _ _ h => h) (by rfl) ?_ hHeld ?_
      rotate_left
      · intro w hSw; (try dsimp only at hSw); go_simp; (try with_reducible rfl)
      try simp only [Act.put, List.setIfInBounds_toArray, List.set_cons_zero, List.set_cons_succ]
      refine hTake 4 (v := (.string S)) rfl (by kernel_rfl) (by kernel_rfl) (by kernel_rfl) (fun _ _ _ h => h) (by rfl) ?_ hHeld ?_
      · intro w hSw; have h1 := HSB.out w hSw; go_simp; (try with_reducible rfl)
      try simp only [Act.put, List.setIfInBounds_toArray, List.set_cons_zero, List.set_cons_succ]
      refine hStep 1 rfl (by kernel_rfl) (by rfl) (fun K hK => ?_)
      have HK := Lib.hid hK
      clear hK
      go_simp
      refine (WBytes_any _ p x (flatV ls) _ (HW.out.below (Below.refl wr.heap.size wr).drew) (by have := HLE.out; have := HM.out; omega)).mono ?_
      rintro e w5 ⟨v5, rfl, hown5, hb5⟩
      obtain ⟨a5, c5, n5, hv5, hn5, hbs5, -, -⟩ := hown5.bsn
      rw [hv5]
      have hbr5 : Below wr.heap.size wr w5 := hHeld.trans (hb5.mono (Nat.le_refl _))
      have HS5 : Hid (∀ w', Below w5.heap.size w5 w' → (convert 22 9 (.slice a5 n5 c5)).run Try.prog w' = .ok (.string S) w') := fun w' hw' => by
        rw [HS.out]; exact run_str hn5 (hbs5.below hw')
      clear hv5 hn5 hbs5 hown5 hb5
      have hHeldN := hbr5
      refine HK.out _ _ hHeldN ?_
      clear HK K hHeld
      have hHeld := hHeldN
      clear hHeldN
      try simp only [Act.put, List.setIfInBounds_toArray, List.set_cons_zero, List.set_cons_succ]
      refine hSwitch (S2 := fun w' => Below w5.heap.size w5 w') (fun w' hw' => hbr5.trans (hw'.mono hbr5.size)) _ _ _ _ ?_
      clear hHeld
      have hHeld := Below.refl w5.heap.size w5
      have HSB5 := Lib.hid (fun w' (h : Below w5.heap.size w5 w') => HSB.out w' (hbr5.trans (h.mono hbr5.size)))
      refine hTake 2 (v := (.string S)) rfl (by kernel_rfl) (by kernel_rfl) (by kernel_rfl) (fun _ _ _ h => h) (by rfl) ?_ hHeld ?_
      · intro w hSw; have h1 := HS5.out w hSw; go_simp; (try with_reducible rfl)
      try simp only [Act.put, List.setIfInBounds_toArray, List.set_cons_zero, List.set_cons_succ]
      refine hTake 5 (v := ?_) rfl (by kernel_rfl) (by kernel_rfl) (by kernel_rfl) (fun _ _ _ h => h) (by rfl) ?_ hHeld ?_
      rotate_left
      · intro w hSw; (try dsimp only at hSw); go_simp; (try with_reducible rfl)
      try simp only [Act.put, List.setIfInBounds_toArray, List.set_cons_zero, List.set_cons_succ]
      refine hTake 6 (v := ?_) rfl (by kernel_rfl) (by kernel_rfl) (by kernel_rfl) (fun _ _ _ h => h) (by rfl) ?_ hHeld ?_
      rotate_left
      · intro w hSw; (try dsimp only at hSw); go_simp; (try with_reducible rfl)
      try simp only [Act.put, List.setIfInBounds_toArray, List.set_cons_zero, List.set_cons_succ]
      refine hTake 7 (v := ?_) rfl (by kernel_rfl) (by kernel_rfl) (by kernel_rfl) (fun _ _ _ h => h) (by rfl) ?_ hHeld ?_
      rotate_left
      · intro w hSw; (try dsimp only at hSw); go_simp; (try with_reducible rfl)
      try simp only [Act.put, List.setIfInBounds_toArray, List.set_cons_zero, List.set_cons_succ]
      refine hTake 10 (v := ?_) rfl (by kernel_rfl) (by kernel_rfl) (by kernel_rfl) (fun _ _ _ h => h) (by rfl) ?_ hHeld ?_
      rotate_left
      · intro w hSw; (try dsimp only at hSw); go_simp; (try with_reducible rfl)
      try simp only [Act.put, List.setIfInBounds_toArray, List.set_cons_zero, List.set_cons_succ]
      refine hTake 11 (v := (.string S)) rfl (by kernel_rfl) (by kernel_rfl) (by kernel_rfl) (fun _ _ _ h => h) (by rfl) ?_ hHeld ?_
      · intro w hSw; have h1 := HSB5.out w hSw; go_simp; (try with_reducible rfl)
      try simp only [Act.put, List.setIfInBounds_toArray, List.set_cons_zero, List.set_cons_succ]
      refine hStep 8 rfl (by kernel_rfl) (by rfl) (fun K hK => ?_)
      have HK := Lib.hid hK
      clear hK
      go_simp
      have hbw5 : Below w.heap.size w w5 := hbr.trans (hbr5.mono hbr.size)
      refine (List_any a ls k cap _ HM.out (by omega) (HB.out.below hbw5)).mono ?_
      rintro e w6 ⟨y, rfl, hoy, hb6⟩
      obtain ⟨ay, cy, ny, hvy, hny, hby, -, -⟩ := hoy.bsn
      rw [hvy]
      have HS6 : Hid (∀ w', Below w6.heap.size w6 w' → (convert 22 9 (.slice ay ny cy)).run Try.prog w' = .ok (.string S) w') := fun w' hw' => by
        rw [HS.out]; exact run_str hny (hby.below hw')
      clear hvy hny hby hoy
      have hHeldN := hb6
      refine HK.out _ _ hHeldN ?_
      clear HK K hHeld
      have hHeld := hHeldN
      clear hHeldN
      try simp only [Act.put, List.setIfInBounds_toArray, List.set_cons_zero, List.set_cons_succ]
      refine hSwitch (S2 := fun w' => Below w6.heap.size w6 w') (fun w' hw' => hb6.trans (hw'.mono hb6.size)) _ _ _ _ ?_
      clear hHeld
      have hHeld := Below.refl w6.heap.size w6
      refine hTake 9 (v := (.string S)) rfl (by kernel_rfl) (by kernel_rfl) (by kernel_rfl) (fun _ _ _ h => h) (by rfl) ?_ hHeld ?_
      · intro w hSw; have h1 := HS6.out w hSw; go_simp; (try with_reducible rfl)
      try simp only [Act.put, List.setIfInBounds_toArray, List.set_cons_zero, List.set_cons_succ]
      refine hTake 12 (v := ?_) rfl (by kernel_rfl) (by kernel_rfl) (by kernel_rfl) (fun _ _ _ h => h) (by rfl) ?_ hHeld ?_
      rotate_left
      · intro w hSw; (try dsimp only at hSw); go_simp; (try with_reducible rfl)
      try simp only [Act.put, List.setIfInBounds_toArray, List.set_cons_zero, List.set_cons_succ]
      refine hTake 13 (v := ?_) rfl (by kernel_rfl) (by kernel_rfl) (by kernel_rfl) (fun _ _ _ h => h) (by rfl) ?_ hHeld ?_
      rotate_left
      · intro w hSw; (try dsimp only at hSw); go_simp; (try with_reducible rfl)
      try simp only [Act.put, List.setIfInBounds_toArray, List.set_cons_zero, List.set_cons_succ]
      refine hTake 14 (v := ?_) rfl (by kernel_rfl) (by kernel_rfl) (by kernel_rfl) (fun _ _ _ h => h) (by rfl) ?_ hHeld ?_
      rotate_left
      · intro w hSw; (try dsimp only at hSw); go_simp; (try with_reducible rfl)
      try simp only [Act.put, List.setIfInBounds_toArray, List.set_cons_zero, List.set_cons_succ]
      refine hStep 15 rfl (by kernel_rfl) (by rfl) (fun K hK => ?_)
      have HK := Lib.hid hK
      clear hK
      go_simp
      refine (awake2 _).mono ?_
      rintro e w7 ⟨rfl, hb7⟩
      have hHeldN := hb7
      refine HK.out _ _ hHeldN ?_
      clear HK K hHeld
      have hHeld := hHeldN
      clear hHeldN
      try simp only [Act.put, List.setIfInBounds_toArray, List.set_cons_zero, List.set_cons_succ]
      refine hTake 16 (v := ?_) rfl (by kernel_rfl) (by kernel_rfl) (by kernel_rfl) (fun _ _ _ h => h) (by rfl) ?_ hHeld ?_
      rotate_left
      · intro w hSw; (try dsimp only at hSw); go_simp; (try with_reducible rfl)
      try simp only [Act.put, List.setIfInBounds_toArray, List.set_cons_zero, List.set_cons_succ]
      refine hTake 17 (v := ?_) rfl (by kernel_rfl) (by kernel_rfl) (by kernel_rfl) (fun _ _ _ h => h) (by rfl) ?_ hHeld ?_
      rotate_left
      · intro w hSw; (try dsimp only at hSw); go_simp; (try with_reducible rfl)
      try simp only [Act.put, List.setIfInBounds_toArray, List.set_cons_zero, List.set_cons_succ]
      refine hDone (by kernel_rfl) ?_
      show NoPanic _ _ _ _
      refine NoPanic.normal ?_
      have hbw6 : Below w.heap.size w w6 := hbw5.trans (hb6.mono hbw5.size)
      go_wp2
      go_ret
      exact ⟨rfl, hbw6.trans (hb7.mono hbw6.size)⟩
end Go.Proofs.Ythicaomghefedaa
