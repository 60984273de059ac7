/- The walks of (*sha.Hash).Len and Sum. -/
import Derived.Test.YtegeglnfpddgfaaShaWrite
namespace Go.Proofs.Ytegeglnfpddgfaa
open Go.RowKit

theorem HLen_any (base : Nat) (p : Nat) (v : Value) (s : List Nat) (r : List UInt8) (n : Nat) (w : World) (h : Hs base w p v s r n) :
    Calls Try.prog 19 #[.pointer (some ⟨p, 0, none⟩)] w fun e w' => e = .returned (.int .i64 (n : Int)) ∧ w = w' := by
  have h9 := h.at9
  clear h
  go_enter Try.func19, Try.ntmps19
  go_wp2
  go_ret
  exact ⟨rfl, rfl⟩

/-- alloc of 32 bytes: the world behind it by a name of its own. -/
theorem wpList_alloc32n {ops : Array Oper} {rest : List Oper} {o : Oper} {a : Act} {w : World} {Q : Exit → Act → World → Prop} (hg : o.guard = none) (ho : o.op = .alloc 24) (G : Nat) (hG : G = w.heap.size)
    (h : ∀ w', Hid (ArrBAt 24 w' G b32) → Below G w w' → wpList Try.prog ops Q rest (a.put o.dst (.pointer (some ⟨G, 0, none⟩))) w') : wpList Try.prog ops Q (o :: rest) a w := by
  subst hG
  exact wpList_alloc32 hg ho (h _ (ArrBAt.new _ _ _) ((Below.refl _ _).alloc (Nat.le_refl _) _))

/-- alloc of a state: the world behind it by a name of its own. -/
theorem wpList_alloc8n {ops : Array Oper} {rest : List Oper} {o : Oper} {a : Act} {w : World} {Q : Exit → Act → World → Prop} (hg : o.guard = none) (ho : o.op = .alloc 29)
    (h : ∀ w' G, G = w.heap.size → Hid (ArrAt 29 w' G [0, 0, 0, 0, 0, 0, 0, 0]) → Below w.heap.size w w' → wpList Try.prog ops Q rest (a.put o.dst (.pointer (some ⟨G, 0, none⟩))) w') : wpList Try.prog ops Q (o :: rest) a w :=
  wpList_alloc8 hg ho (h _ _ rfl (ArrAt.new _ _ _) ((Below.refl _ _).alloc (Nat.le_refl _) _))
theorem wpList_store_arrn {T : TypeId} {w : World} {g : Nat} {l : List Nat} {ops : Array Oper} {rest : List Oper} {o : Oper} {a : Act} {Q : Exit → Act → World → Prop} {n : Nat} (hi : (Try.prog.info? T).map (·.size) = some n) (hgd : o.guard = none) (x y : Operand) (ho : o.op = .store T x y)
    (hx : a.eval x = .pointer (some ⟨g, 0, none⟩)) (l' : List Nat) (hy : a.eval y = .agg (arr l')) (hl : l.length = n) (hl' : l'.length = n) (hat : ArrAt T w g l) (h : ∀ w', Hid (ArrAt T w' g l') → Kept (· = g) w w' → wpList Try.prog ops Q rest (a.put o.dst undef) w') : wpList Try.prog ops Q (o :: rest) a w :=
  wpList_store_arr hi hgd x y ho hx l' hy hl hl' hat (h _ (hat.row l') (kept_setRow w g _ rfl))
theorem wp_store_arrn {T : TypeId} {w : World} {g : Nat} {l : List Nat} {o : Oper} {a : Act} {K : Act → World → Prop} {Q : Exit → Act → World → Prop} {n : Nat} (hi : (Try.prog.info? T).map (·.size) = some n) (x y : Operand) (ho : o.op = .store T x y)
    (hx : a.eval x = .pointer (some ⟨g, 0, none⟩)) (l' : List Nat) (hy : a.eval y = .agg (arr l')) (hl : l.length = n) (hl' : l'.length = n) (hat : ArrAt T w g l) (h : ∀ w', Hid (ArrAt T w' g l') → Kept (· = g) w w' → K (a.put o.dst undef) w') : o.wp Try.prog a w K Q :=
  wp_store_arr hi x y ho hx l' hy hl hl' hat (h _ (hat.row l') (kept_setRow w g _ rfl))
theorem wpList_load_state {base : Nat} {w : World} {p : Nat} {v : Value} {s : List Nat} {r : List UInt8} {n : Nat} {ops : Array Oper} {rest : List Oper} {o : Oper} {a : Act} {Q : Exit → Act → World → Prop} (h : Hs base w p v s r n) (hgd : o.guard = none) (x : Operand) (ho : o.op = .load 29 x) (hx : a.eval x = .pointer (some ⟨p, 0, none⟩))
    (hK : wpList Try.prog ops Q rest (a.put o.dst (.agg (arr s))) w) : wpList Try.prog ops Q (o :: rest) a w :=
  wpList_plain hgd fun _ hK' => wp_load_state h x ho hx (hK' _ _ hK)
theorem OwnW.none0 {base : Nat} (w : World) (o : Obj) (h : base ≤ w.heap.size) : OwnW base (w.alloc o) (.slice (some ⟨w.heap.size, 0, none⟩) 0 0) [] :=
  ⟨_, 0, rfl, Nat.le_refl _, by decide, .inr ⟨_, 0, rfl, h, by simp, fun j hj => absurd hj (Nat.not_lt_zero _), fun j hj => absurd hj (Nat.not_lt_zero _)⟩⟩
theorem OwnB.toW {base : Nat} {w : World} {v : Value} {l : List UInt8} (h : OwnB base w v l) : ∃ a cap n, v = .slice a n cap ∧ n = l.length ∧ Bs w a cap l := by
  obtain ⟨a, cap, n, h1, h2, h3, -, -⟩ := h.bsn
  exact ⟨a, cap, n, h1, h2, h3⟩

set_option maxRecDepth 100000 in
set_option maxHeartbeats 1000000 in
theorem Sum_any (base : Nat) (p : Nat) (v : Value) (s : List Nat) (r : List UInt8) (n : Nat) (w : World)
    (h : Hs base w p v s r n) (hr : r.length < 64) (hnn : n ≤ 100000000) :
    Calls Try.prog 20 #[.pointer (some ⟨p, 0, none⟩)] w fun e w' => e = .returned (.agg (arrB (bytesN (runN s (r ++ fillN n))))) ∧ Below w.heap.size w w' := by
  obtain ⟨av, cv, nv, hv, hnv, hbv, hov, -⟩ := h.own.bsn
  subst hv
  have H := Lib.hid h
  have HN := Lib.hid hnv
  have HB := Lib.hid hbv
  have HR := Lib.hid hr
  obtain ⟨G, hG⟩ : ∃ G, G = w.heap.size := ⟨_, rfl⟩
  have HG := Lib.hid hG
  clear h hbv hr hnv hov hG
  go_enter Try.func20, Try.ntmps20
  have HRL : Hid (([] : List UInt8).length + nv ≤ 140737488355328) := by show _ ≤ _; have := HN.out; have := HR.out; simp; omega
  go_wp2_with (first
    | (with_reducible refine wpList_alloc32n rfl rfl G HG.out ?_; intro w1 hat1 hb1; have hbw1 : Below w.heap.size w w1 := HG.out ▸ hb1; have HS1 := Lib.hid (H.out.below hbw1); have h81 := HS1.out.at8; have hf81 : p < w1.heap.size := HS1.out.lt; have hG1 : G < w1.heap.size := hat1.out.lt)
    | (at_builtin; refine wpList_append_w rfl (.tmp 9) (.tmp 13) rfl w1.heap.size (.slice (some ⟨w1.heap.size, 0, none⟩) 0 0) [] rfl (OwnW.none0 w1 _ (Nat.le_refl _)) av nv cv r rfl HN.out (HB.out.below (hbw1.alloc hbw1.size _)) HRL.out (by simp) ?_; intro v2 w2 hown2 hk2 hnear2; obtain ⟨a2, c2, n2, hv2, -, -, -, -⟩ := hown2.bsn; subst hv2; have hb12 : Below w1.heap.size w1 w2 := ((Below.refl _ _).alloc (Nat.le_refl _) _).trans (hk2.below (by simp) (fun i hi => by simp [Value.ownBlock] at hi; omega)); have hbw2 : Below w.heap.size w w2 := hbw1.trans (hb12.mono hbw1.size); have HS2 := Lib.hid (H.out.below hbw2); have h92 := HS2.out.at9))
  obtain ⟨B, hB⟩ : ∃ B, B = w1.heap.size := ⟨_, rfl⟩
  rw [← hB] at hown2 hb12 hG1
  have HGB := Lib.hid hG1
  have HO2 := Lib.hid hown2
  have HB12 := Lib.hid hb12
  have HAT1 : Hid (ArrBAt 24 w1 G b32) := hat1
  have HBW1 := Lib.hid hbw1
  have HPB : Hid (p < B) := by show _ < _; rw [hB]; exact hf81
  have HBB := Lib.hid hB
  clear hk2 hnear2 hb1 h81 hf81 hown2 hb12 hG1 hat1 hbw1 hbw2 hB
  refine (Fill_any n _ hnn).mono ?_
  rintro e w3 ⟨x3, rfl, hx3, hb3⟩
  obtain ⟨a3, c3, n3, hv3, hn3, hbs3⟩ := hx3.toW
  subst hv3
  have hb13 : Below B w1 w3 := HB12.out.trans (hb3.mono (by have := HB12.out.size; have := HBB.out; omega))
  have HO3 : Hid (OwnW B w3 (.slice a2 n2 c2) r) := HO2.out.below hb3
  have HRM : Hid (r.length + n3 ≤ 140737488355328) := by
    show _ ≤ _
    have h1 := HR.out
    have h2 : (fillN n).length ≤ 80 := by rw [fillN_len]; unfold zerosN; omega
    omega
  have HN3 := Lib.hid hn3
  have HBS3 := Lib.hid hbs3
  have hbase3 : B ≤ w3.heap.size := by have := hb13.size; have := HBB.out; omega
  have HL8 := Lib.hid H.out.st.1
  have HZ8 : Hid (([0, 0, 0, 0, 0, 0, 0, 0] : List Nat).length = 8) := Lib.hid rfl
  have hBw : w.heap.size ≤ B := by have := HBB.out; have := HBW1.out.size; omega
  clear hx3 hn3 hbs3 h92 hb3
  go_wp2_with (first
    | (at_builtin; refine wpList_append_w rfl (.tmp 15) (.tmp 20) rfl B (.slice a2 n2 c2) r rfl HO3.out a3 n3 c3 (fillN n) rfl HN3.out HBS3.out HRM.out hbase3 ?_; intro v4 w4 hown4 hk4 hnear4; obtain ⟨a4, c4, n4, hv4, -, -, -, -⟩ := hown4.bsn; subst hv4; have hb14 : Below B w1 w4 := hb13.trans (hk4.below hbase3 (fun i hi => (HO3.out.lt i hi).1)); have HS4 := Lib.hid (H.out.below (HBW1.out.trans (hb14.mono hBw))))
    | (with_reducible refine wpList_load_state HS4.out rfl (.tmp 24) rfl rfl ?_)
    | (with_reducible refine wpList_alloc8n rfl rfl ?_; intro w5 K hK hat5 hb5; have HKK := Lib.hid hK; clear hK)
    | (with_reducible refine wpList_store_arrn (T := 29) (n := 8) info_8 rfl (.tmp 4) (.tmp 25) rfl rfl s rfl HZ8.out HL8.out hat5.out ?_; intro w6 hat6 hk6))
  have hbase4 : B ≤ w4.heap.size := Nat.le_trans (Nat.le_of_eq HBB.out) hb14.size
  have hK := HKK.out
  have hKB : B ≤ K := by omega
  have hb16 : Below B w1 w6 := (hb14.trans (hb5.mono hbase4)).trans (hk6.below (Nat.le_trans hbase4 hb5.size) (fun i hi => by omega))
  have hne4 : (Value.slice a4 n4 c4).ownBlock ≠ some K := fun e => by have := (hown4.lt K e).2; omega
  have HO6 : Hid (OwnW B w6 (.slice a4 n4 c4) (r ++ fillN n)) := (hown4.below hb5).keptT hk6 (fun k hk e => hne4 (e ▸ hk))
  have HAT6 : Hid (ArrAt 29 w6 K s) := hat6
  have HB16 := Lib.hid hb16
  have HNE4 := Lib.hid hne4
  have HK := Lib.hid hKB
  have HST := Lib.hid HS4.out.st
  clear hne4 hat6 hk6 hat5 hb5 hK hb14 hk4 hnear4 hown4 hb16 hKB HS4 HB12 HO3 HS2 HS1
  simp only [Act.put, List.setIfInBounds_toArray, List.set_cons_zero, List.set_cons_succ]
  go_loopw [3] (fun e wr => ∃ s' r', OwnW B wr e r' ∧ ArrAt 29 wr K s' ∧ Is8 s' ∧ runN s' r' = runN s (r ++ fillN n) ∧ Below B w1 wr ∧ e.ownBlock ≠ some K) (fun e _ => lenOfV e)
  case atStart => exact ⟨s, _, HO6.out, HAT6.out, HST.out, rfl, HB16.out, HNE4.out⟩
  case round =>
    obtain ⟨s5, r5, hown, hat, h8, hrun, hbr, hne⟩ := hrel
    obtain ⟨a5, c5, n5, hv5, hn5, hb5, -, -⟩ := hown.bsn
    subst hv5
    have hcap : n5 ≤ c5 := by have := hb5.le; omega
    have HO5 := Lib.hid hown
    have HN5 := Lib.hid hn5
    have HB5 := Lib.hid hb5
    have HAT5 := Lib.hid hat
    have H85 := Lib.hid h8
    have HRUN := Lib.hid hrun
    have HBR := Lib.hid hbr
    have HNE := Lib.hid hne
    clear hown hn5 hb5 hat h8 hrun hbr hne
    have HL85 : Hid (s5.length = 8) := Lib.hid H85.out.1
    have hszr : B ≤ wr.heap.size := Nat.le_trans (Nat.le_of_eq HBB.out) HBR.out.size
    by_cases hge : 64 ≤ n5
    · go_wp2_with fail
      obtain ⟨A5, hA5⟩ : ∃ A5, A5 = cutA a5 c5 0 := ⟨_, rfl⟩
      have HCUT0 : Hid (∀ w' : World, (Instr.sliceAt 22 (.slice a5 n5 c5) none (some (.int .i64 64)) none).run Try.prog w' = .ok (.slice A5 64 c5) w') := fun w' => by
        rw [hA5]; exact run_cutTo w' a5 n5 c5 64 (by omega)
      have HB64 : Hid (∀ w', Below wr.heap.size wr w' → Bs w' A5 c5 (r5.take 64)) := fun w' h => by
        rw [hA5]; exact (HB5.out.below h).cutTo (by have := HN5.out; omega)
      clear hA5
      refine hStart (fun w' => True) (by kernel_rfl) ?_
      have hHeld := True.intro
      have hbd : Below wr.heap.size wr wr.drew := (Below.refl _ _).drew
      refine hTake 1 (v := ?_) rfl (by kernel_rfl) (by kernel_rfl) (by kernel_rfl) (fun _ _ _ h => h) (by rfl) ?_ hHeld ?_
      rotate_left
      · intro w hSw; (try dsimp only at hSw); go_simp; (try with_reducible rfl)
      try simp only [Act.put, List.setIfInBounds_toArray, List.set_cons_zero, List.set_cons_succ]
      refine hTake 2 (v := (.slice A5 64 c5)) rfl (by kernel_rfl) (by kernel_rfl) (by kernel_rfl) (fun _ _ _ h => h) (by rfl) ?_ hHeld ?_
      · intro w hSw; have h1 := HCUT0.out w; go_simp; (try with_reducible rfl)
      try simp only [Act.put, List.setIfInBounds_toArray, List.set_cons_zero, List.set_cons_succ]
      refine hStep 0 rfl (by kernel_rfl) (by rfl) (fun K hK => ?_)
      have HK := Lib.hid hK
      clear hK
      refine wp_load_arr (T := 29) under_8 info_8 (.tmp 4) rfl rfl HL85.out (HAT5.out.below hbd) ?_
      have hHeldN := hHeld
      refine HK.out _ _ hHeldN ?_
      clear HK K hHeld
      have hHeld := hHeldN
      clear hHeldN
      try simp only [Act.put, List.setIfInBounds_toArray, List.set_cons_zero, List.set_cons_succ]
      refine hStep 3 rfl (by kernel_rfl) (by rfl) (fun K hK => ?_)
      have HK := Lib.hid hK
      clear hK
      go_simp
      refine (Block_any s5 H85.out A5 (r5.take 64) 64 c5 _ (by have := HN5.out; rw [List.length_take]; omega) rfl (HB64.out _ hbd)).mono ?_
      rintro e w7 ⟨rfl, hb7⟩
      have hbr7 : Below wr.heap.size wr w7 := hbd.trans (hb7.mono hbd.size)
      have hHeldN := hHeld
      refine HK.out _ _ hHeldN ?_
      clear HK K hHeld
      have hHeld := hHeldN
      clear hHeldN
      try simp only [Act.put, List.setIfInBounds_toArray, List.set_cons_zero, List.set_cons_succ]
      refine hTake 4 (v := ?_) rfl (by kernel_rfl) (by kernel_rfl) (by kernel_rfl) (fun _ _ _ h => h) (by rfl) ?_ hHeld ?_
      rotate_left
      · intro w hSw; (try dsimp only at hSw); go_simp; (try with_reducible rfl)
      try simp only [Act.put, List.setIfInBounds_toArray, List.set_cons_zero, List.set_cons_succ]
      refine hTake 5 (v := ?_) rfl (by kernel_rfl) (by kernel_rfl) (by kernel_rfl) (fun _ _ _ h => h) (by rfl) ?_ hHeld ?_
      rotate_left
      · intro w hSw; (try dsimp only at hSw); go_simp; (try with_reducible rfl)
      try simp only [Act.put, List.setIfInBounds_toArray, List.set_cons_zero, List.set_cons_succ]
      refine hTake 6 (v := ?_) rfl (by kernel_rfl) (by kernel_rfl) (by kernel_rfl) (fun _ _ _ h => h) (by rfl) ?_ hHeld ?_
      rotate_left
      · intro w hSw; (try dsimp only at hSw); go_simp; (try with_reducible rfl)
      try simp only [Act.put, List.setIfInBounds_toArray, List.set_cons_zero, List.set_cons_succ]
      refine hStep 7 rfl (by kernel_rfl) (by rfl) (fun K hK => ?_)
      have HK := Lib.hid hK
      clear hK
      refine wp_store_arrn (T := 29) (n := 8) info_8 (.tmp 4) (.tmp 34) rfl rfl (blockN s5 (r5.take 64)) rfl HL85.out (blockN_8 s5 _).1 (HAT5.out.below hbr7) ?_
      intro w8 hat8 hk8
      have hHeldN := hHeld
      refine HK.out _ _ hHeldN ?_
      clear HK K hHeld
      have hHeld := hHeldN
      clear hHeldN
      try simp only [Act.put]
      refine hDone (by kernel_rfl) ?_
      show NoPanic _ _ _ _
      refine NoPanic.normal ?_
      obtain ⟨A6, hA6⟩ : ∃ A6, A6 = cutA a5 c5 64 := ⟨_, rfl⟩
      obtain ⟨c6, hc6⟩ : ∃ c6, c6 = c5 - 64 := ⟨_, rfl⟩
      obtain ⟨n6, hn6⟩ : ∃ n6, n6 = n5 - 64 := ⟨_, rfl⟩
      have hcut : ∀ w' : World, (Instr.sliceAt 22 (.slice a5 n5 c5) (some (.int .i64 64)) none none).run Try.prog w' = .ok (.slice A6 n6 c6) w' := fun w' => by
        rw [hA6, hc6, hn6]; exact run_cutFrom w' a5 n5 c5 64 (by omega)
      have ho8 : OwnW B w8 (.slice a5 n5 c5) r5 := (HO5.out.below hbr7).keptT hk8 (fun k hk e => HNE.out (e ▸ hk))
      obtain ⟨ho6, hob6⟩ := ho8.cutFrom (lo := 64) hge (by omega)
      rw [← hA6, ← hn6, ← hc6] at ho6 hob6
      have hbw8 : Below B w1 w8 := (HBR.out.trans (hbr7.mono hszr)).trans (hk8.below (Nat.le_trans hszr hbr7.size) (fun i hi => by have := HK.out; omega))
      have HN6 := Lib.hid hn6
      have hl5 : 64 ≤ r5.length := by have := HN5.out; omega
      clear hn6 hA6 hc6
      go_wp2
      go_roundw
      case rel => exact ⟨_, _, ho6, hat8.out, blockN_8 s5 _, by rw [← HRUN.out, runN_ge hl5], hbw8, fun e => HNE.out (hob6 ▸ e)⟩
      case measure => have := HN6.out; simp [lenOfV]; omega
    · have hlt : r5.length < 64 := by have := HN5.out; omega
      have HE : Hid (bytesN (runN s (r ++ fillN n)) = bytesN s5) := by show _ = _; rw [← HRUN.out, runN_lt hlt]
      have HLB : Hid ((bytesN s5).length = 32) := by show _ = _; rw [bytesN_flat, HL85.out]
      have hb1r := HBW1.out.trans (HBR.out.mono hBw)
      have HATG := Lib.hid (HAT1.out.below (HBR.out.mono (Nat.le_of_eq HBB.out.symm)))
      go_wp2_with (first
        | (with_reducible refine wpList_load_arr (T := 29) under_8 info_8 rfl (.tmp 4) rfl rfl HL85.out HAT5.out ?_))
      refine (bytes_any s5 H85.out _).mono ?_
      rintro e w9 ⟨rfl, hb9⟩
      have HATG9 := Lib.hid (HATG.out.below hb9)
      have hb1w9 := hb1r.trans (hb9.mono hb1r.size)
      go_wp2_with (first
        | (with_reducible refine wpList_storeB (T := 24) (n := 32) info_32 rfl (.tmp 2) (.tmp 39) rfl rfl (bytesN s5) rfl b32_len HLB.out HATG9.out ?_))
      refine bodyPost_ret (results_arrB (T := 24) under_32 info_32 rfl _ rfl HLB.out (HATG9.out.row (bytesN s5))) rfl ⟨by rw [HE.out], ?_⟩
      exact below_setRow hb1w9 (by have := HG.out; omega) _
end Go.Proofs.Ytegeglnfpddgfaa
