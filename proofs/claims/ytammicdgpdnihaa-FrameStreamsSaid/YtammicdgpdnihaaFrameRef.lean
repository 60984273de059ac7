/- Walks of layer 7's document: repertoryref07.Seal and Front. -/
import Derived.Test.YtammicdgpdnihaaFrameFront
namespace Go.Proofs.Ytammicdgpdnihaa
open Go.RowKit

theorem le4_lit7 (t : Nat) (ht : t < 4294967296) : (#[Value.int .u8 ((t : Int) % 256), Value.int .u8 ((t : Int) / 256 % 256), Value.int .u8 ((t : Int) / 65536 % 256), Value.int .u8 ((t : Int) / 16777216)] : Array Value).toList = (le4 t).map u8v := by
  simp [le4, u8v]; omega

set_option maxRecDepth 100000 in
set_option maxHeartbeats 2000000 in
theorem refSeal_any (kind : UInt8) (a : Option Addr) (l : List UInt8) (n cap : Nat) (w : World) (hn : n = l.length) (hmax : n ≤ 1048576) (hb : Bs w a cap l) :
    Calls Try.prog 34 #[.int .u8 (kind.toNat : Int), .slice a n cap] w fun e w' =>
      ∃ x, e = .returned x ∧ OwnB w.heap.size w' x (sealF kind l) ∧ Below w.heap.size w w' := by
  have HN := Lib.hid hn
  have HB := Lib.hid hb
  have hk := kind.toNat_lt
  have HHL : Hid ((headF kind l).length ≤ 1048600) := by show _ ≤ _; have := formV_le (v := l.length) (by omega); rw [headF_len]; omega
  have HFL : Hid ((formV n).length ≤ 10) := formV_le (by omega)
  obtain ⟨d, hd⟩ : ∃ d, d = kind.toNat := ⟨_, rfl⟩
  have hown0 : OwnB w.heap.size (w.alloc (.cells #[.int .u8 (d : Int)] 5)) (.slice (some ⟨w.heap.size, 0, none⟩) 1 1) [kind] := OwnB.lit w _ [kind] 1 rfl (by rw [hd]; rfl) (by omega)
  have HO0 := Lib.hid hown0
  have hb0 : Below w.heap.size w (w.alloc (.cells #[.int .u8 (d : Int)] 5)) := (Below.refl _ _).alloc (Nat.le_refl _) _
  have HB0 := Lib.hid hb0
  rw [← hd] at hk ⊢
  clear hd hn hb hown0 hb0
  go_enter Try.func34, Try.ntmps34
  go_wp2_with fail
  refine (Form_any n _ (by omega)).mono ?_
  rintro e w1 ⟨xf, rfl, hof, hb1⟩
  obtain ⟨af, cf, nf, hvf, hnf, hbf, -, -⟩ := hof.bsn
  subst hvf
  have hb1' := hb1.mono (show w.heap.size ≤ _ by simp)
  have HO1 := Lib.hid (HO0.out.below hb1)
  have hbw1 := HB0.out.trans hb1'
  have hbase1 := hbw1.size
  have HNF := Lib.hid hnf
  have HBF := Lib.hid hbf
  have HR1 : Hid (([kind] : List UInt8).length + nf ≤ 140737488355328) := by show _ ≤ _; have := HFL.out; simp; omega
  clear hof hb1 hnf hbf hb1'
  have HR2 : Hid ((([kind] : List UInt8) ++ formV n).length + n ≤ 140737488355328) := by show _ ≤ _; have := HFL.out; simp; omega
  go_wp2_with (first
    | (at_builtin; refine wpList_append_bs_at rfl (.tmp 9) (.tmp 13) rfl w.heap.size (.slice (some ⟨w.heap.size, 0, none⟩) 1 1) [kind] rfl HO1.out af nf cf (formV n) rfl HNF.out HBF.out HR1.out hbase1 ?_; intro v2 w2 hown2 hg2 hnear2; obtain ⟨a2, c2, n2, hv2, -, -, -, -⟩ := hown2.bsn; subst hv2; have HO2 := Lib.hid hown2; have hbw2 := hbw1.trans (HO1.out.belowOf hg2 hbase1); have hbase2 := hbw2.size; have HB2 := Lib.hid (HB.out.below hbw2); clear hown2 hg2 hnear2)
    | (at_builtin; refine wpList_append_bs_at rfl (.tmp 15) (.tmp 16) rfl w.heap.size (.slice a2 n2 c2) ([kind] ++ formV n) rfl HO2.out a n cap l rfl HN.out HB2.out HR2.out hbase2 ?_; intro v3 w3 hown3 hg3 hnear3; obtain ⟨a3, c3, n3, hv3, hn3, hbs3, -, -⟩ := hown3.bsn; subst hv3; have HO3 := Lib.hid hown3; have HB3 := Lib.hid hbs3; have HN3 := Lib.hid hn3; have hbw3 := hbw2.trans (HO2.out.belowOf hg3 hbase2); have hbase3 := hbw3.size; clear hown3 hg3 hnear3 hn3 hbs3))
  have HH : Hid ([kind] ++ formV n ++ l = headF kind l) := by show _ = _; unfold headF; rw [← HN.out]; simp
  rw [HH.out] at HO3 HB3 HN3
  refine (refSum_any a3 (headF kind l) n3 c3 _ HN3.out HB3.out).mono ?_
  rintro e w4 ⟨rfl, rfl⟩
  have hs := sumN_lt (headF kind l)
  obtain ⟨s, hsd⟩ : ∃ s, s = sumN (headF kind l) := ⟨_, rfl⟩
  rw [← hsd] at hs ⊢
  have HSD := Lib.hid hsd
  clear hsd
  have HR3 : Hid ((headF kind l).length + 4 ≤ 140737488355328) := by show _ ≤ _; have := HHL.out; omega
  have HO4 : Hid (OwnB w.heap.size (w3.alloc (.cells #[Value.int .u8 ((s : Int) % 256), Value.int .u8 ((s : Int) / 256 % 256), Value.int .u8 ((s : Int) / 65536 % 256), Value.int .u8 ((s : Int) / 16777216)] 5)) (.slice a3 n3 c3) (headF kind l)) := HO3.out.alloc _
  have HB4 : Hid (Bs (w3.alloc (.cells #[Value.int .u8 ((s : Int) % 256), Value.int .u8 ((s : Int) / 256 % 256), Value.int .u8 ((s : Int) / 65536 % 256), Value.int .u8 ((s : Int) / 16777216)] 5)) (some ⟨w3.heap.size, 0, none⟩) 4 (le4 s)) := Bs.lit (heap_alloc_new _ _) (le4 s) (le4_lit7 s hs) 4 (Nat.le_refl _) (by omega)
  have hbase4 : w.heap.size ≤ (w3.alloc (.cells #[Value.int .u8 ((s : Int) % 256), Value.int .u8 ((s : Int) / 256 % 256), Value.int .u8 ((s : Int) / 65536 % 256), Value.int .u8 ((s : Int) / 16777216)] 5)).heap.size := by simp; omega
  have hbw4 := hbw3.alloc hbase3 (.cells #[Value.int .u8 ((s : Int) % 256), Value.int .u8 ((s : Int) / 256 % 256), Value.int .u8 ((s : Int) / 65536 % 256), Value.int .u8 ((s : Int) / 16777216)] 5)
  have HX4 := Lib.hid (And.intro hbase4 hbw4)
  clear hbase4 hbw4
  go_wp2_with (at_builtin; refine wpList_append_bs_at rfl (.tmp 20) (.tmp 35) rfl w.heap.size (.slice a3 n3 c3) (headF kind l) rfl HO4.out _ 4 4 (le4 s) rfl rfl HB4.out HR3.out HX4.out.1 ?_; intro v5 w5 hown5 hg5 hnear5; obtain ⟨a5, c5, n5, hv5, -, -, -, -⟩ := hown5.bsn; subst hv5)
  go_ret
  refine ⟨_, rfl, ?_, HX4.out.2.trans (HO4.out.belowOf hg5 HX4.out.1)⟩
  rw [show sealF kind l = headF kind l ++ le4 s by unfold sealF; rw [HSD.out]]
  exact hown5

/-- What the document's Front answers: the load is a part of the bytes. -/
def FrontQ (L : List UInt8) (e : Ending) (w' : World) : Prop :=
  ∃ a2 c2 n2, e = .returned (.tuple #[.int .u8 ((frontF L).kind.toNat : Int), .slice a2 n2 c2, .int .i64 (((frontF L).n : Nat) : Int), .int .i64 (((frontF L).why : Nat) : Int)]) ∧ n2 = (frontF L).load.length ∧ Bs w' a2 c2 (frontF L).load
theorem FrontQ.bad {L : List UInt8} {e : Ending} {w' : World} (y : Nat) (h : frontF L = badF y) (he : e = .returned (.tuple #[.int .u8 0, .slice none 0 0, .int .i64 0, .int .i64 (y : Int)])) : FrontQ L e w' := by
  refine ⟨none, 0, 0, ?_, ?_, ?_⟩
  · rw [he, h]; rfl
  · rw [h]; rfl
  · rw [h]; exact Bs.empty _
theorem cutV_low {t : List UInt8} {k : Nat} (hk : k < t.length) (h : (t.getD k 0).toNat < 128) : cutV t = false := by
  unfold cutV
  rw [show (t.all fun c => decide (128 ≤ c.toNat)) = false from List.all_eq_false.2 ⟨t[k], List.getElem_mem hk, by
    have e : t.getD k 0 = t[k] := by simp [List.getD, hk]
    rw [e] at h
    simp; omega⟩]; rfl
theorem cutV_many {t : List UInt8} (h : 10 ≤ t.length) : cutV t = false := by
  unfold cutV
  rw [show decide (t.length < 10) = false from decide_eq_false (by omega)]; simp
theorem cutV_all {t : List UInt8} (hl : t.length < 10) (h : ∀ k, k < t.length → 128 ≤ (t.getD k 0).toNat) : cutV t = true := by
  unfold cutV
  rw [show decide (t.length < 10) = true from decide_eq_true hl, Bool.and_true, List.all_eq_true]
  intro c hc
  obtain ⟨k, hk, rfl⟩ := List.getElem_of_mem hc
  have h1 := h k hk
  have e : t.getD k 0 = t[k] := by simp [List.getD, hk]
  rw [e] at h1
  exact decide_eq_true h1
theorem getD_drop (L : List UInt8) (i k : Nat) : (L.drop i).getD k 0 = L.getD (i + k) 0 := by
  simp [List.getD, List.getElem?_drop]
theorem take4_eq (L : List UInt8) (E : Nat) (h : E + 4 ≤ L.length) : (L.drop E).take 4 = [L.getD E 0, L.getD (E + 1) 0, L.getD (E + 2) 0, L.getD (E + 3) 0] := by
  have hl : ((L.drop E).take 4).length = 4 := by rw [List.length_take, List.length_drop]; omega
  apply List.ext_getElem?
  intro i
  rcases i with _ | _ | _ | _ | i
  · simp [List.getElem?_drop, List.getD, show E < L.length by omega]
  · simp [List.getElem?_drop, List.getD, show E + 1 < L.length by omega]
  · simp [List.getElem?_drop, List.getD, show E + 2 < L.length by omega]
  · simp [List.getElem?_drop, List.getD, show E + 3 < L.length by omega]
  · rw [List.getElem?_eq_none (by omega)]; simp

set_option maxRecDepth 100000 in
set_option maxHeartbeats 4000000 in
theorem refFront_any (a : Option Addr) (L : List UInt8) (n cap : Nat) (w : World) (hn : n = L.length) (hmax : n ≤ 10000000) (hb : Bs w a cap L) :
    Calls Try.prog 33 #[.slice a n cap] w fun e w' => FrontQ L e w' ∧ Below w.heap.size w w' := by
  have HN := Lib.hid hn
  have HB := Lib.hid hb
  clear hn hb
  by_cases h0 : n = 0
  · have HL : Hid (frontF L = badF 2) := by
      show _ = _
      rw [List.eq_nil_of_length_eq_zero (show L.length = 0 by have := HN.out; omega)]; rfl
    subst h0
    go_enter Try.func33, Try.ntmps33
    go_wp2
    refine bodyPost_ret (results_tmp4 rfl _ _ _) rfl ?_
    exact ⟨FrontQ.bad 2 HL.out rfl, Below.refl _ _⟩
  have HNE : Hid (L ≠ []) := fun h => by have := HN.out; rw [h] at this; simp at this; omega
  have hz : ((n : Int) == 0) = false := by rw [beq_eq_false_iff_ne]; omega
  obtain ⟨A1, hA1⟩ : ∃ A1, A1 = cutA a cap 1 := ⟨_, rfl⟩
  obtain ⟨c1, hc1⟩ : ∃ c1, c1 = cap - 1 := ⟨_, rfl⟩
  obtain ⟨n1, hn1⟩ : ∃ n1, n1 = n - 1 := ⟨_, rfl⟩
  have hcut : ∀ w' : World, (Instr.sliceAt 24 (.slice a n cap) (some (.int .i64 1)) none none).run Try.prog w' = .ok (.slice A1 n1 c1) w' := fun w' => by
    rw [hA1, hc1, hn1]; exact run_cutFrom w' a n cap 1 (by omega)
  have HBC : Hid (Bs w A1 c1 (L.drop 1)) := by
    show Bs _ _ _ _
    rw [hA1, hc1]; exact HB.out.cutFrom (by have := HN.out; omega)
  have HN1 : Hid (n1 = (L.drop 1).length) := by show _ = _; rw [hn1, HN.out, List.length_drop]
  clear hA1 hc1 hn1
  go_enter Try.func33, Try.ntmps33
  go_wp2_with fail
  refine (Front_any A1 (L.drop 1) n1 c1 _ HN1.out HBC.out).mono ?_
  rintro e w1 ⟨rfl, rfl⟩
  cases hF : frontV (L.drop 1) with
  | none =>
    have HFD : Hid (frontD (L.drop 1) = (0, 0)) := frontD_none hF
    have HF1 := Lib.hid (frontF_cut HNE.out hF)
    have HF2 := Lib.hid (frontF_form HNE.out hF)
    rw [HFD.out]
    clear hF hcut
    go_wp2
    go_loop [8] (fun i => ∃ k : Nat, 1 ≤ k ∧ k ≤ n ∧ k ≤ 10 ∧ i = .int .i64 (k : Int) ∧ Hid (∀ j, 1 ≤ j → j < k → 128 ≤ (L.getD j 0).toNat)) (fun i => n - (intOf i).toNat)
    case atStart => exact ⟨1, Nat.le_refl _, by omega, by omega, rfl, fun j h1 h2 => by omega⟩
    case round =>
      obtain ⟨k, hk1, hkn, hk10, rfl, HA⟩ := hrel
      by_cases hlt : k < n
      · obtain ⟨b, off, rfl, hcell, hbl⟩ := HB.out.at (k := k) (by have h1 := HN.out; omega)
        obtain ⟨d, hd⟩ : ∃ d, d = (L.getD k 0).toNat := ⟨_, rfl⟩
        rw [← hd] at hcell
        have HD := Lib.hid hd
        clear hd
        by_cases hlow : d < 128
        · have HX : Hid (frontF L = badF 3) := HF2.out (cutV_low (k := k - 1) (by have := HN.out; rw [List.length_drop]; omega) (by rw [getD_drop, show 1 + (k - 1) = k by omega, ← HD.out]; exact hlow))
          go_wp2
          refine bodyPost_ret (results_tmp4 rfl _ _ _) rfl ?_
          exact ⟨FrontQ.bad 3 HX.out rfl, Below.refl _ _⟩
        · by_cases h10 : k = 10
          · have HX : Hid (frontF L = badF 3) := HF2.out (cutV_many (by have := HN.out; rw [List.length_drop]; omega))
            subst h10
            go_wp2
            refine bodyPost_ret (results_tmp4 rfl _ _ _) rfl ?_
            exact ⟨FrontQ.bad 3 HX.out rfl, Below.refl _ _⟩
          · go_wp2
            go_round
            case rel => exact ⟨k + 1, by omega, by omega, by omega, by go_num, fun j h1 h2 => by
              by_cases hj : j = k
              · rw [hj, ← HD.out]; omega
              · exact HA.out j h1 (by omega)⟩
            case measure => simp [intOf] <;> omega
      · obtain rfl : k = n := by omega
        have HX : Hid (frontF L = badF 2) := HF1.out (cutV_all (by have := HN.out; rw [List.length_drop]; omega) (fun j hj => by
          rw [getD_drop]
          have := HN.out
          rw [List.length_drop] at hj
          exact HA.out _ (by omega) (by omega)))
        go_wp2
        refine bodyPost_ret (results_tmp4 rfl _ _ _) rfl ?_
        exact ⟨FrontQ.bad 2 HX.out rfl, Below.refl _ _⟩
  | some x =>
    obtain ⟨v, k⟩ := x
    have HFD : Hid (frontD (L.drop 1) = (v, k)) := frontD_some hF
    have hbd := frontV_bound hF
    rw [HFD.out]
    have hv64 := hbd.1
    have hk0 := hbd.2.1
    have hk10 := hbd.2.2.1
    have hkL : 1 + k ≤ n := by have h5 := hbd.2.2.2; have h6 := HN.out; rw [List.length_drop] at h5; omega
    have hkz : ((k : Int) == 0) = false := by rw [beq_eq_false_iff_ne]; omega
    clear hbd hcut
    by_cases hv : 1048576 < v
    · have HX := Lib.hid (frontF_long HNE.out hF hv)
      clear hF
      go_wp2
      refine bodyPost_ret (results_tmp4 rfl _ _ _) rfl ?_
      exact ⟨FrontQ.bad 3 HX.out rfl, Below.refl _ _⟩
    have hv' : v ≤ 1048576 := by omega
    by_cases hfit : n < 1 + k + v + 4
    · have HX := Lib.hid (frontF_short HNE.out hF hv' (by have := HN.out; omega))
      clear hF
      go_wp2
      refine bodyPost_ret (results_tmp4 rfl _ _ _) rfl ?_
      exact ⟨FrontQ.bad 2 HX.out rfl, Below.refl _ _⟩
    have HSU := Lib.hid (frontF_sum HNE.out hF hv' (by have := HN.out; omega))
    have HOK := Lib.hid (frontF_ok HNE.out hF hv' (by have := HN.out; omega))
    clear hF
    obtain ⟨E, hE⟩ : ∃ E, E = 1 + k + v := ⟨_, rfl⟩
    rw [← hE] at HSU HOK
    have hE4 : E + 4 ≤ n := by omega
    have hEe : 1 + (k : Int) + (v : Int) = (E : Int) := by omega
    have HE := Lib.hid hE
    obtain ⟨A2, hA2⟩ : ∃ A2, A2 = cutA a cap 0 := ⟨_, rfl⟩
    have hnc : n ≤ cap := by have h5 := HN.out; have h6 := HB.out.le; omega
    have hcut2 : ∀ w' : World, (Instr.sliceAt 24 (.slice a n cap) none (some (.int .i64 (E : Int))) none).run Try.prog w' = .ok (.slice A2 E cap) w' := fun w' => by
      rw [hA2]; exact run_cutTo w' a n cap E (by omega)
    have HBC2 : Hid (Bs w A2 cap (L.take E)) := by
      show Bs _ _ _ _
      rw [hA2]; exact HB.out.cutTo (by have := HN.out; omega)
    have HN2 : Hid (E = (L.take E).length) := by show _ = _; have := HN.out; rw [List.length_take]; omega
    have hs := sumN_lt (L.take E)
    obtain ⟨s, hsd⟩ : ∃ s, s = sumN (L.take E) := ⟨_, rfl⟩
    rw [← hsd] at hs HSU HOK
    have HSD := Lib.hid hsd
    have h4 := take4_eq L E (by have := HN.out; omega)
    rw [h4] at HSU HOK
    obtain ⟨b, off, rfl, hc0, hbl⟩ := HB.out.at (k := E) (by have h1 := HN.out; omega)
    obtain ⟨_, _, hab1, hc1, -⟩ := HB.out.at (k := E + 1) (by have h1 := HN.out; omega)
    obtain ⟨_, _, hab2, hc2, -⟩ := HB.out.at (k := E + 2) (by have h1 := HN.out; omega)
    obtain ⟨_, _, hab3, hc3, -⟩ := HB.out.at (k := E + 3) (by have h1 := HN.out; omega)
    obtain ⟨_, _, hab4, hc4, -⟩ := HB.out.at (k := 0) (by have h1 := HN.out; omega)
    cases hab1; cases hab2; cases hab3; cases hab4
    clear hsd hE h4 hA2
    go_wp2_with fail
    refine (refSum_any A2 (L.take E) E cap _ HN2.out HBC2.out).mono ?_
    rintro e w2 ⟨rfl, rfl⟩
    rw [← HSD.out]
    obtain ⟨d0, hd0⟩ : ∃ d, d = (L.getD E 0).toNat := ⟨_, rfl⟩
    obtain ⟨d1, hd1⟩ : ∃ d, d = (L.getD (E + 1) 0).toNat := ⟨_, rfl⟩
    obtain ⟨d2, hd2⟩ : ∃ d, d = (L.getD (E + 2) 0).toNat := ⟨_, rfl⟩
    obtain ⟨d3, hd3⟩ : ∃ d, d = (L.getD (E + 3) 0).toNat := ⟨_, rfl⟩
    obtain ⟨s0, hs0⟩ : ∃ x, x = s % 256 := ⟨_, rfl⟩
    obtain ⟨s1, hs1⟩ : ∃ x, x = s / 256 % 256 := ⟨_, rfl⟩
    obtain ⟨s2, hs2⟩ : ∃ x, x = s / 65536 % 256 := ⟨_, rfl⟩
    obtain ⟨s3, hs3⟩ : ∃ x, x = s / 16777216 := ⟨_, rfl⟩
    have e0 : (s : Int) % 256 = (s0 : Int) := by omega
    have e1 : (s : Int) / 256 % 256 = (s1 : Int) := by omega
    have e2 : (s : Int) / 65536 % 256 = (s2 : Int) := by omega
    have e3 : (s : Int) / 16777216 = (s3 : Int) := by omega
    have hb0 : d0 < 256 := by rw [hd0]; exact (L.getD E 0).toNat_lt
    have hb1 : d1 < 256 := by rw [hd1]; exact (L.getD (E + 1) 0).toNat_lt
    have hb2 : d2 < 256 := by rw [hd2]; exact (L.getD (E + 2) 0).toNat_lt
    have hb3 : d3 < 256 := by rw [hd3]; exact (L.getD (E + 3) 0).toNat_lt
    have hb4 : s0 < 256 ∧ s1 < 256 ∧ s2 < 256 ∧ s3 < 256 := by omega
    have HLE : Hid ([L.getD E 0, L.getD (E + 1) 0, L.getD (E + 2) 0, L.getD (E + 3) 0] = le4 s ↔ d0 = s0 ∧ d1 = s1 ∧ d2 = s2 ∧ d3 = s3) := by
      have key : ∀ (c : UInt8) (m : Nat), m < 256 → (c = UInt8.ofNat m ↔ c.toNat = m) := fun c m hm => ⟨fun h => by rw [h]; exact byte_of m hm, fun h => by rw [← h]; simp⟩
      show _ ↔ _
      unfold le4
      rw [← hs0, ← hs1, ← hs2, show s / 16777216 % 256 = s3 by omega]
      simp only [List.cons.injEq, and_true]
      rw [key _ _ hb4.1, key _ _ hb4.2.1, key _ _ hb4.2.2.1, key _ _ hb4.2.2.2, ← hd0, ← hd1, ← hd2, ← hd3]
    obtain ⟨g0, g1, g2, g3⟩ := hb4
    rw [← hd0] at hc0
    rw [← hd1] at hc1
    rw [← hd2] at hc2
    rw [← hd3] at hc3
    rw [HSD.out] at HSU HOK
    obtain ⟨kd, hkd⟩ : ∃ d, d = (L.getD 0 0).toNat := ⟨_, rfl⟩
    rw [← hkd] at hc4
    have HKD := Lib.hid hkd
    have HC4 : Hid (∀ w', Below w.heap.size w w' → w'.cell? ⟨b, off, none⟩ = some (.int .u8 (kd : Int))) := fun w' h => by rw [h.cell hbl]; exact hc4
    rw [← HSD.out] at HSU HOK
    clear hd0 hd1 hd2 hd3 hs0 hs1 hs2 hs3 hkd hc4
    by_cases q0 : d0 = s0
    rotate_left
    · have HX : Hid (frontF L = badF 6) := HSU.out (fun h => q0 (HLE.out.1 h).1)
      have t0 : ((d0 : Int) != (s0 : Int)) = true := by rw [bne_iff_ne]; omega
      clear q0
      go_wp2
      refine bodyPost_ret (results_tmp4 rfl _ _ _) rfl ?_
      exact ⟨FrontQ.bad 6 HX.out rfl, Below.refl _ _⟩
    by_cases q1 : d1 = s1
    rotate_left
    · have HX : Hid (frontF L = badF 6) := HSU.out (fun h => q1 (HLE.out.1 h).2.1)
      have t1 : ((d1 : Int) != (s1 : Int)) = true := by rw [bne_iff_ne]; omega
      subst q0
      clear q1
      go_wp2
      refine bodyPost_ret (results_tmp4 rfl _ _ _) rfl ?_
      exact ⟨FrontQ.bad 6 HX.out rfl, Below.refl _ _⟩
    by_cases q2 : d2 = s2
    rotate_left
    · have HX : Hid (frontF L = badF 6) := HSU.out (fun h => q2 (HLE.out.1 h).2.2.1)
      have t2 : ((d2 : Int) != (s2 : Int)) = true := by rw [bne_iff_ne]; omega
      subst q0 q1
      clear q2
      go_wp2
      refine bodyPost_ret (results_tmp4 rfl _ _ _) rfl ?_
      exact ⟨FrontQ.bad 6 HX.out rfl, Below.refl _ _⟩
    by_cases q3 : d3 = s3
    rotate_left
    · have HX : Hid (frontF L = badF 6) := HSU.out (fun h => q3 (HLE.out.1 h).2.2.2)
      have t3 : ((d3 : Int) != (s3 : Int)) = true := by rw [bne_iff_ne]; omega
      subst q0 q1 q2
      clear q3
      go_wp2
      refine bodyPost_ret (results_tmp4 rfl _ _ _) rfl ?_
      exact ⟨FrontQ.bad 6 HX.out rfl, Below.refl _ _⟩
    have HX := Lib.hid (HOK.out (HLE.out.2 ⟨q0, q1, q2, q3⟩))
    subst q0 q1 q2 q3
    obtain ⟨A3, hA3⟩ : ∃ A3, A3 = cutA (some ⟨b, off, none⟩) cap (1 + k) := ⟨_, rfl⟩
    obtain ⟨c3, hc3'⟩ : ∃ c3, c3 = cap - (1 + k) := ⟨_, rfl⟩
    have HCUT3 : Hid (∀ w' : World, (Instr.sliceAt 24 (.slice (some ⟨b, off, none⟩) n cap) (some (.int .i64 (1 + (k : Int)))) (some (.int .i64 (E : Int))) none).run Try.prog w' = .ok (.slice A3 v c3) w') := fun w' => by
      have h9 := run_cut w' (some ⟨b, off, none⟩) n cap (1 + k) E (by have := HE.out; omega) (by omega)
      rw [hA3, hc3', show v = E - (1 + k) by have := HE.out; omega, ← h9]
      simp
    have HB3 : Hid (∀ w', Below w.heap.size w w' → Bs w' A3 c3 ((L.take E).drop (1 + k))) := fun w' h => by
      rw [hA3, hc3']; exact (HB.out.below h).cut (by have := HE.out; omega) (by have := HN.out; omega)
    have HN3 : Hid (v = ((L.take E).drop (1 + k)).length) := by show _ = _; have h8 := HE.out; have h9 := HN.out; rw [List.length_drop, List.length_take]; omega
    have HW4 : Hid (IntKind.i64.wrap ((E : Int) + 4) = (E : Int) + 4) := by show _ = _; rw [IntKind.wrap_i64]; omega
    clear hA3 hc3'
    go_wp2_with fail
    have hn0 : 0 < n := by omega
    refine hStart (fun w' => Below w.heap.size w w') (by kernel_rfl) ?_
    have hHeld := (Below.refl w.heap.size w).drew
    refine hTake 0 (v := ?_) rfl (by kernel_rfl) (by kernel_rfl) (by kernel_rfl) (fun _ _ _ h => h) (by rfl) ?_ hHeld ?_
    rotate_left
    · intro w hSw; (try dsimp only at hSw); go_simp; (try with_reducible rfl)
    try simp only [Act.put, List.setIfInBounds_toArray, List.set_cons_zero, List.set_cons_succ]
    refine hTake 1 (v := ?_) rfl (by kernel_rfl) (by kernel_rfl) (by kernel_rfl) (fun _ _ _ h => h) (by rfl) ?_ hHeld ?_
    rotate_left
    · intro w hSw; (try dsimp only at hSw); go_simp; (try with_reducible rfl)
    try simp only [Act.put, List.setIfInBounds_toArray, List.set_cons_zero, List.set_cons_succ]
    refine hTake 2 (v := (.int .u8 (kd : Int))) rfl (by kernel_rfl) (by kernel_rfl) (by kernel_rfl) (fun _ _ _ h => h) (by rfl) ?_ hHeld ?_
    · intro w hSw; have h1 := HC4.out w hSw; go_simp; (try with_reducible rfl)
    try simp only [Act.put, List.setIfInBounds_toArray, List.set_cons_zero, List.set_cons_succ]
    refine hTake 3 (v := ?_) rfl (by kernel_rfl) (by kernel_rfl) (by kernel_rfl) (fun _ _ _ h => h) (by rfl) ?_ hHeld ?_
    rotate_left
    · intro w hSw; (try dsimp only at hSw); go_simp; (try with_reducible rfl)
    try simp only [Act.put, List.setIfInBounds_toArray, List.set_cons_zero, List.set_cons_succ]
    refine hTake 4 (v := ?_) rfl (by kernel_rfl) (by kernel_rfl) (by kernel_rfl) (fun _ _ _ h => h) (by rfl) ?_ hHeld ?_
    rotate_left
    · intro w hSw; (try dsimp only at hSw); go_simp; (try with_reducible rfl)
    try simp only [Act.put, List.setIfInBounds_toArray, List.set_cons_zero, List.set_cons_succ]
    refine hTake 5 (v := ?_) rfl (by kernel_rfl) (by kernel_rfl) (by kernel_rfl) (fun _ _ _ h => h) (by rfl) ?_ hHeld ?_
    rotate_left
    · intro w hSw; (try dsimp only at hSw); go_simp; (try with_reducible rfl)
    try simp only [Act.put, List.setIfInBounds_toArray, List.set_cons_zero, List.set_cons_succ]
    refine hTake 6 (v := (.slice A3 v c3)) rfl (by kernel_rfl) (by kernel_rfl) (by kernel_rfl) (fun _ _ _ h => h) (by rfl) ?_ hHeld ?_
    · intro w hSw; have h1 := HCUT3.out w; go_simp; (try with_reducible rfl)
    try simp only [Act.put, List.setIfInBounds_toArray, List.set_cons_zero, List.set_cons_succ]
    refine hTake 7 (v := ?_) rfl (by kernel_rfl) (by kernel_rfl) (by kernel_rfl) (fun _ _ _ h => h) (by rfl) ?_ hHeld ?_
    rotate_left
    · intro w hSw; (try dsimp only at hSw); go_simp; (try with_reducible rfl)
    try simp only [Act.put, List.setIfInBounds_toArray, List.set_cons_zero, List.set_cons_succ]
    refine hTake 8 (v := (.int .i64 ((E : Int) + 4))) rfl (by kernel_rfl) (by kernel_rfl) (by kernel_rfl) (fun _ _ _ h => h) (by rfl) ?_ hHeld ?_
    · intro w hSw; have h1 := HW4.out; go_simp; (try with_reducible rfl)
    try simp only [Act.put, List.setIfInBounds_toArray, List.set_cons_zero, List.set_cons_succ]
    refine hTake 9 (v := ?_) rfl (by kernel_rfl) (by kernel_rfl) (by kernel_rfl) (fun _ _ _ h => h) (by rfl) ?_ hHeld ?_
    rotate_left
    · intro w hSw; (try dsimp only at hSw); go_simp; (try with_reducible rfl)
    try simp only [Act.put, List.setIfInBounds_toArray, List.set_cons_zero, List.set_cons_succ]
    refine hTake 10 (v := ?_) rfl (by kernel_rfl) (by kernel_rfl) (by kernel_rfl) (fun _ _ _ h => h) (by rfl) ?_ hHeld ?_
    rotate_left
    · intro w hSw; (try dsimp only at hSw); go_simp; (try with_reducible rfl)
    try simp only [Act.put, List.setIfInBounds_toArray, List.set_cons_zero, List.set_cons_succ]
    refine hTake 11 (v := ?_) rfl (by kernel_rfl) (by kernel_rfl) (by kernel_rfl) (fun _ _ _ h => h) (by rfl) ?_ hHeld ?_
    rotate_left
    · intro w hSw; (try dsimp only at hSw); go_simp; (try with_reducible rfl)
    try simp only [Act.put, List.setIfInBounds_toArray, List.set_cons_zero, List.set_cons_succ]
    refine hTake 12 (v := ?_) rfl (by kernel_rfl) (by kernel_rfl) (by kernel_rfl) (fun _ _ _ h => h) (by rfl) ?_ hHeld ?_
    rotate_left
    · intro w hSw; (try dsimp only at hSw); go_simp; (try with_reducible rfl)
    try simp only [Act.put, List.setIfInBounds_toArray, List.set_cons_zero, List.set_cons_succ]
    refine hDone (by kernel_rfl) ?_
    show NoPanic _ _ _ _
    refine NoPanic.normal ?_
    go_wp2
    refine bodyPost_ret (results_tmp4 rfl _ _ _) rfl ?_
    refine ⟨⟨A3, c3, v, ?_, by rw [HX.out]; exact HN3.out, by rw [HX.out]; exact HB3.out _ hHeld⟩, hHeld⟩
    rw [HX.out]
    show _ = Ending.returned (Value.tuple #[.int .u8 ((L.getD 0 0).toNat : Int), _, .int .i64 ((E + 4 : Nat) : Int), .int .i64 0])
    rw [← HKD.out]
    rfl
end Go.Proofs.Ytammicdgpdnihaa
