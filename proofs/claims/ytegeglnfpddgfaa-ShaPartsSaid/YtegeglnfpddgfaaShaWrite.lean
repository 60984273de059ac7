/- The walk of (*sha.Hash).Write. -/
import Derived.Test.YtegeglnfpddgfaaShaHash
namespace Go.Proofs.Ytegeglnfpddgfaa
open Go.RowKit

set_option maxRecDepth 100000 in
set_option maxHeartbeats 1000000 in
theorem HWrite_any (base : Nat) (p : Nat) (v : Value) (s : List Nat) (r : List UInt8) (n : Nat) (a : Option Addr) (l : List UInt8) (k cap : Nat) (w : World)
    (h : Hs base w p v s r n) (hr : r.length < 64) (hk : k = l.length) (hnn : n + k ≤ 100000000) (hb : ∀ w', Kept (HFoot p v) w w' → Bs w' a cap l) (hbase : base ≤ w.heap.size) :
    Calls Try.prog 18 #[.pointer (some ⟨p, 0, none⟩), .slice a k cap] w fun e w' => e = .returned (.tuple #[]) ∧ ∃ v', Hs base w' p v' (runN s (r ++ l)) (restN (r ++ l)) (n + k) ∧ Kept (HFoot p v) w w' ∧ Near w v v' := by
  obtain ⟨av, cv, nv, hv, hnv, hbv, hov, -⟩ := h.own.bsn
  subst hv
  have H := Lib.hid h
  have HB := Lib.hid hb
  have HKL := Lib.hid hk
  have HR := Lib.hid hr
  have h9 := h.at9
  have HV : Hid (Value.int .i64 ((n : Int) + (k : Int)) = .int .i64 ((n + k : Nat) : Int)) := by show _ = _; simp
  clear h hb hk hr hnv hbv hov
  go_enter Try.func18, Try.ntmps18
  have HLEN : Hid (r.length + k ≤ 140737488355328) := by show _ ≤ _; have := HR.out; omega
  go_wp2_with (first
    | (with_reducible refine wpList_store_n H.out rfl (.tmp 14) (.tmp 12) rfl rfl (n + k) (.int .i64 ((n : Int) + (k : Int))) rfl HV.out ?_; intro w1 hs1 hk1; have h81 := hs1.at8; have HS1 := Lib.hid hs1; clear hs1; have hbase1 := Nat.le_trans hbase hk1.size)
    | (at_builtin; refine wpList_append_w rfl (.tmp 19) (.tmp 20) rfl base (.slice av nv cv) r rfl HS1.out.own a k cap l rfl HKL.out (HB.out _ (hk1.mono fun _ hi => .inl hi)) HLEN.out hbase1 ?_; intro v2 w2 hown2 hk2 hnear2; obtain ⟨a2, c2, n2, hv2, -, -, -, -⟩ := hown2.bsn; subst hv2; have hp2 : w2.heap[p]? = some (.cells (hcells s (.slice av nv cv) (n + k)) 55 (0, 0)) := (by rw [hk2.block p HS1.out.lt HS1.out.ne]; exact HS1.out.cell); have hne2 : (Value.slice a2 n2 c2).ownBlock ≠ some p := (fun e => (hnear2 p e).elim HS1.out.ne (fun h => absurd HS1.out.lt (by omega))))
    | (with_reducible refine wpList_store_v hp2 HS1.out.st HS1.out.ge rfl (.tmp 23) (.tmp 21) rfl rfl a2 n2 c2 rfl (r ++ l) hown2 hne2 ?_; intro w3 hs3 hk3))
  have hK3 : Kept (HFoot p (.slice av nv cv)) w w3 := by
    refine Kept.trans (Kept.trans (hk1.mono fun _ hi => .inl hi) hk2 fun i hi => .inl (.inr hi)) hk3 fun i hi => .inl (.inl hi)
  have hN3 : Near w (.slice av nv cv) (.slice a2 n2 c2) := fun i hi => (hnear2 i hi).imp id fun h => Nat.le_trans hk1.size h
  have HS3 := Lib.hid hs3
  have HK3 := Lib.hid hK3
  have HN3 := Lib.hid hN3
  clear hs3 hK3 hN3 hk3 hne2 hp2 hnear2 hown2 hk2 h81 hk1 h9 H HB HV HLEN
  simp only [Act.put]
  go_loopw [] (fun wr => ∃ v' s' r', Hs base wr p v' s' r' (n + k) ∧ runN s' r' = runN s (r ++ l) ∧ restN r' = restN (r ++ l) ∧ Kept (HFoot p (.slice av nv cv)) w wr ∧ Near w (.slice av nv cv) v') (fun wr => lenOfV ((wr.cell? ⟨p, 8, none⟩).getD undef))
  case atStart => exact ⟨_, _, _, HS3.out, rfl, rfl, HK3.out, HN3.out⟩
  case round =>
    clear HS1 hbase1 HS3 HK3 HN3
    obtain ⟨v4, s4, r4, hs, hrun, hrest, hkr, hnr⟩ := hrel
    obtain ⟨a4, c4, n4, hv4, hn4, hb4, -, -⟩ := hs.own.bsn
    subst hv4
    have h8 := hs.at8
    have HS := Lib.hid hs
    have HN4 := Lib.hid hn4
    have HB4 := Lib.hid hb4
    have HRUN := Lib.hid hrun
    have HREST := Lib.hid hrest
    have HKR := Lib.hid hkr
    have HNR := Lib.hid hnr
    have hcap : n4 ≤ c4 := by have := hb4.le; omega
    clear hs hn4 hb4 hrun hrest hkr hnr
    by_cases hge : 64 ≤ n4
    · go_wp2_with fail
      refine hStart (fun w' => w'.cell? ⟨p, 8, none⟩ = some (.slice a4 n4 c4)) (by kernel_rfl) ?_
      have hHeld : wr.drew.cell? ⟨p, 8, none⟩ = some (.slice a4 n4 c4) := h8
      have hbd : Below wr.heap.size wr wr.drew := (Below.refl _ _).drew
      obtain ⟨A4, hA4⟩ : ∃ A4, A4 = cutA a4 c4 0 := ⟨_, rfl⟩
      have HCUT0 : Hid (∀ w' : World, (Instr.sliceAt 22 (.slice a4 n4 c4) none (some (.int .i64 64)) none).run Try.prog w' = .ok (.slice A4 64 c4) w') := fun w' => by
        rw [hA4]; exact run_cutTo w' a4 n4 c4 64 (by omega)
      have HB64 : Hid (∀ w', Below wr.heap.size wr w' → Bs w' A4 c4 (r4.take 64)) := fun w' h => by
        rw [hA4]; exact (HB4.out.below h).cutTo (by have := HN4.out; omega)
      clear hA4
      refine hTake 0 (v := ?_) rfl (by kernel_rfl) (by kernel_rfl) (by kernel_rfl) (fun _ _ _ h => h) (by rfl) ?_ hHeld ?_
      rotate_left
      · intro w hSw; (try dsimp only at hSw); go_simp; (try with_reducible rfl)
      try simp only [Act.put, List.setIfInBounds_toArray, List.set_cons_zero, List.set_cons_succ]
      refine hTake 1 (v := ?_) rfl (by kernel_rfl) (by kernel_rfl) (by kernel_rfl) (fun _ _ _ h => h) (by rfl) ?_ hHeld ?_
      rotate_left
      · intro w hSw; (try dsimp only at hSw); go_simp; (try with_reducible rfl)
      try simp only [Act.put, List.setIfInBounds_toArray, List.set_cons_zero, List.set_cons_succ]
      refine hTake 2 (v := ?_) rfl (by kernel_rfl) (by kernel_rfl) (by kernel_rfl) (fun _ _ _ h => h) (by rfl) ?_ hHeld ?_
      rotate_left
      · intro w hSw; (try dsimp only at hSw); go_simp; (try with_reducible rfl)
      try simp only [Act.put, List.setIfInBounds_toArray, List.set_cons_zero, List.set_cons_succ]
      refine hTake 3 (v := ?_) rfl (by kernel_rfl) (by kernel_rfl) (by kernel_rfl) (fun _ _ _ h => h) (by rfl) ?_ hHeld ?_
      rotate_left
      · intro w hSw; (try dsimp only at hSw); go_simp; (try with_reducible rfl)
      try simp only [Act.put, List.setIfInBounds_toArray, List.set_cons_zero, List.set_cons_succ]
      refine hTake 5 (v := ?_) rfl (by kernel_rfl) (by kernel_rfl) (by kernel_rfl) (fun _ _ _ h => h) (by rfl) ?_ hHeld ?_
      rotate_left
      · intro w hSw; (try dsimp only at hSw); go_simp; (try with_reducible rfl)
      try simp only [Act.put, List.setIfInBounds_toArray, List.set_cons_zero, List.set_cons_succ]
      refine hTake 6 (v := ?_) rfl (by kernel_rfl) (by kernel_rfl) (by kernel_rfl) (fun _ _ _ h => h) (by rfl) ?_ hHeld ?_
      rotate_left
      · intro w hSw; (try dsimp only at hSw); go_simp; (try with_reducible rfl)
      try simp only [Act.put, List.setIfInBounds_toArray, List.set_cons_zero, List.set_cons_succ]
      refine hTake 7 (v := ?_) rfl (by kernel_rfl) (by kernel_rfl) (by kernel_rfl) (fun _ _ _ h => h) (by rfl) ?_ hHeld ?_
      rotate_left
      · intro w hSw; (try dsimp only at hSw); go_simp; (try with_reducible rfl)
      try simp only [Act.put, List.setIfInBounds_toArray, List.set_cons_zero, List.set_cons_succ]
      refine hTake 8 (v := ?_) rfl (by kernel_rfl) (by kernel_rfl) (by kernel_rfl) (fun _ _ _ h => h) (by rfl) ?_ hHeld ?_
      rotate_left
      · intro w hSw; (try dsimp only at hSw); go_simp; (try with_reducible rfl)
      try simp only [Act.put, List.setIfInBounds_toArray, List.set_cons_zero, List.set_cons_succ]
      refine hTake 9 (v := (.slice A4 64 c4)) rfl (by kernel_rfl) (by kernel_rfl) (by kernel_rfl) (fun _ _ _ h => h) (by rfl) ?_ hHeld ?_
      · intro w hSw; have h1 := HCUT0.out w; go_simp; (try with_reducible rfl)
      try simp only [Act.put, List.setIfInBounds_toArray, List.set_cons_zero, List.set_cons_succ]
      refine hStep 4 rfl (by kernel_rfl) (by rfl) (fun K hK => ?_)
      have HK := Lib.hid hK
      clear hK
      refine wp_load_state (HS.out.below hbd) (.tmp 34) rfl rfl ?_
      have hHeldN := hHeld
      refine HK.out _ _ hHeldN ?_
      clear HK K hHeld
      have hHeld := hHeldN
      clear hHeldN
      try simp only [Act.put, List.setIfInBounds_toArray, List.set_cons_zero, List.set_cons_succ]
      refine hStep 10 rfl (by kernel_rfl) (by rfl) (fun K hK => ?_)
      have HK := Lib.hid hK
      clear hK
      go_simp
      refine (Block_any s4 HS.out.st A4 (r4.take 64) 64 c4 _ (by have := HN4.out; rw [List.length_take]; omega) rfl (HB64.out _ hbd)).mono ?_
      rintro e w5 ⟨rfl, hb5⟩
      have hbr5 : Below wr.heap.size wr w5 := hbd.trans (hb5.mono hbd.size)
      have HS5 := Lib.hid (HS.out.below hbr5)
      have hHeldN := HS5.out.at8
      refine HK.out _ _ hHeldN ?_
      clear HK K hHeld
      have hHeld := hHeldN
      clear hHeldN
      try simp only [Act.put, List.setIfInBounds_toArray, List.set_cons_zero, List.set_cons_succ]
      refine hTake 11 (v := ?_) rfl (by kernel_rfl) (by kernel_rfl) (by kernel_rfl) (fun _ _ _ h => h) (by rfl) ?_ hHeld ?_
      rotate_left
      · intro w hSw; (try dsimp only at hSw); go_simp; (try with_reducible rfl)
      try simp only [Act.put, List.setIfInBounds_toArray, List.set_cons_zero, List.set_cons_succ]
      refine hTake 12 (v := ?_) rfl (by kernel_rfl) (by kernel_rfl) (by kernel_rfl) (fun _ _ _ h => h) (by rfl) ?_ hHeld ?_
      rotate_left
      · intro w hSw; (try dsimp only at hSw); go_simp; (try with_reducible rfl)
      try simp only [Act.put, List.setIfInBounds_toArray, List.set_cons_zero, List.set_cons_succ]
      refine hTake 13 (v := ?_) rfl (by kernel_rfl) (by kernel_rfl) (by kernel_rfl) (fun _ _ _ h => h) (by rfl) ?_ hHeld ?_
      rotate_left
      · intro w hSw; (try dsimp only at hSw); go_simp; (try with_reducible rfl)
      try simp only [Act.put, List.setIfInBounds_toArray, List.set_cons_zero, List.set_cons_succ]
      refine hTake 14 (v := ?_) rfl (by kernel_rfl) (by kernel_rfl) (by kernel_rfl) (fun _ _ _ h => h) (by rfl) ?_ hHeld ?_
      rotate_left
      · intro w hSw; (try dsimp only at hSw); go_simp; (try with_reducible rfl)
      try simp only [Act.put, List.setIfInBounds_toArray, List.set_cons_zero, List.set_cons_succ]
      refine hTake 15 (v := ?_) rfl (by kernel_rfl) (by kernel_rfl) (by kernel_rfl) (fun _ _ _ h => h) (by rfl) ?_ hHeld ?_
      rotate_left
      · intro w hSw; (try dsimp only at hSw); go_simp; (try with_reducible rfl)
      try simp only [Act.put, List.setIfInBounds_toArray, List.set_cons_zero, List.set_cons_succ]
      refine hStep 16 rfl (by kernel_rfl) (by rfl) (fun K hK => ?_)
      have HK := Lib.hid hK
      clear hK
      refine wp_store_state HS5.out (.tmp 45) (.tmp 42) rfl rfl (blockN s4 (r4.take 64)) rfl (blockN_8 s4 _) ?_
      intro w6 hs6 hk6
      have hHeldN := hs6.at8
      refine HK.out _ _ hHeldN ?_
      clear HK K hHeld
      have hHeld := hHeldN
      clear hHeldN
      try simp only [Act.put]
      refine hDone (by kernel_rfl) ?_
      show NoPanic _ _ _ _
      refine NoPanic.normal ?_
      have hk46 : Kept (HFoot p (.slice av nv cv)) w w6 := HKR.out.trans ((Kept.ofBelow hbr5 (· = p)).trans hk6 fun i hi => .inl hi) fun i hi => .inl (.inl hi)
      have HS6 := Lib.hid hs6
      obtain ⟨A5, hA5⟩ : ∃ A5, A5 = cutA a4 c4 64 := ⟨_, rfl⟩
      obtain ⟨c5, hc5⟩ : ∃ c5, c5 = c4 - 64 := ⟨_, rfl⟩
      obtain ⟨n5, hn5⟩ : ∃ n5, n5 = n4 - 64 := ⟨_, rfl⟩
      have hcut : ∀ w' : World, (Instr.sliceAt 22 (.slice a4 n4 c4) (some (.int .i64 64)) none none).run Try.prog w' = .ok (.slice A5 n5 c5) w' := fun w' => by
        rw [hA5, hc5, hn5]; exact run_cutFrom w' a4 n4 c4 64 (by omega)
      obtain ⟨ho5, hob5⟩ := hs6.own.cutFrom (lo := 64) hge (by omega)
      rw [← hA5, ← hn5, ← hc5] at ho5 hob5
      have hne5 : (Value.slice A5 n5 c5).ownBlock ≠ some p := by rw [hob5]; exact hs6.ne
      have h86 := hs6.at8
      have hp6 := hs6.cell
      have HN5 := Lib.hid hn5
      clear hHeld h8 hs6 hA5 hc5 hn5
      go_wp2_with (with_reducible refine wpList_store_v hp6 HS6.out.st HS6.out.ge rfl (.tmp 53) (.tmp 51) rfl rfl A5 n5 c5 rfl (r4.drop 64) ho5 hne5 ?_; intro w7 hs7 hk7)
      have h87 := hs7.at8
      have hl4 : 64 ≤ r4.length := by have := HN4.out; omega
      simp only [Act.put]
      go_roundw
      case rel =>
        refine ⟨.slice A5 n5 c5, _, _, hs7, ?_, ?_, hk46.trans hk7 fun i hi => .inl (.inl hi), fun i hi => HNR.out i (hob5 ▸ hi)⟩
        · rw [← HRUN.out, runN_ge hl4]
        · rw [← HREST.out, restN_ge hl4]
      case measure => have hn5 := HN5.out; rw [h87, HS.out.at8]; simp [lenOfV]; omega
    · go_wp2_with fail
      have hlt : r4.length < 64 := by have := HN4.out; omega
      go_end0
      refine ⟨rfl, _, ?_, HKR.out, HNR.out⟩
      rw [← HRUN.out, ← HREST.out, runN_lt hlt, restN_lt hlt]
      exact HS.out
end Go.Proofs.Ytegeglnfpddgfaa
