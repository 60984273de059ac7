/- The walk of repertoryref03.Turned: a copy of bytes, of which bits are turned from a place on. -/
import Derived.Test.YtammicdgpdnihaaCrc
import Derived.BigRegion
namespace Go.Proofs.Ytammicdgpdnihaa
open Go.RowKit

theorem u8_flip (c : UInt8) (m : Nat) (hm : m < 8) :
    bits BinOp.xor IntKind.u8 (c.toNat : Int) ((2 : Int) ^ m % 256) = ((c ^^^ UInt8.ofNat (2 ^ m)).toNat : Int) ∧ (c ^^^ UInt8.ofNat (2 ^ m)).toNat = c.toNat ^^^ 2 ^ m := by
  have h1 : 2 ^ m < 256 := Nat.lt_of_lt_of_le (Nat.pow_lt_pow_right (by omega) hm) (by decide : 2 ^ 8 ≤ 256)
  have h2 : (UInt8.ofNat (2 ^ m)).toNat = 2 ^ m := by simp; omega
  have h3 : (c ^^^ UInt8.ofNat (2 ^ m)).toNat = c.toNat ^^^ 2 ^ m := by rw [UInt8.toNat_xor, h2]
  refine ⟨?_, h3⟩
  have h4 : ((2 : Int) ^ m % 256) = ((2 ^ m : Nat) : Int) := by
    have : ((2 ^ m : Nat) : Int) = (2 : Int) ^ m := by push_cast; rfl
    omega
  rw [h3, h4]
  exact u8_xor_nat _ _ c.toNat_lt h1

/-- A bit of what is owned is turned. -/
theorem own_flip {base g n cap : Nat} {w : World} {L : List UInt8} (h : OwnB base w (.slice (some ⟨g, 0, none⟩) n cap) L) (hL : L.length = n) (j m : Nat) (hm : m < 8) (hj : j < n) :
    OwnB base (w.setCell ⟨g, j, none⟩ (.int .u8 (bits BinOp.xor IntKind.u8 ((L.getD j 0).toNat : Int) ((2 : Int) ^ m % 256)))).drew (.slice (some ⟨g, 0, none⟩) n cap) (L.set j (L.getD j 0 ^^^ UInt8.ofNat (2 ^ m))) ∧
      valN (L.set j (L.getD j 0 ^^^ UInt8.ofNat (2 ^ m))) = valN L ^^^ 2 ^ (8 * j + m) := by
  have hu := u8_flip (L.getD j 0) m hm
  refine ⟨?_, valN_set L j m (by omega) hm _ hu.2⟩
  unfold OwnB at h ⊢
  rw [hL] at h
  have h1 := (World.ownsRow.stored h j (u8v (L.getD j 0 ^^^ UInt8.ofNat (2 ^ m)))).1
  rw [List.length_set, hL, hu.1, List.map_set]
  exact World.ownsRow.drew h1

theorem turn_step (p k t q m : Nat) (hM : t % 2 ^ (k + 1) = t % 2 ^ k + 2 ^ k * (q % 2)) (hmk : t % 2 ^ k < 2 ^ k) (V : Nat) (hV : m = V ^^^ (2 ^ p * (t % 2 ^ k))) :
    (q % 2 = 1 → m ^^^ 2 ^ (p + k) = V ^^^ (2 ^ p * (t % 2 ^ (k + 1)))) ∧ (q % 2 = 0 → m = V ^^^ (2 ^ p * (t % 2 ^ (k + 1)))) := by
  subst hV
  constructor
  · intro h
    have h1 : t % 2 ^ (k + 1) = (2 ^ k * 1) ^^^ (t % 2 ^ k) := by rw [xor_join k 1 _ hmk, hM, h]; omega
    rw [h1, Nat.mul_one, Nat.xor_comm (2 ^ k), mul_pow_xor, ← Nat.pow_add, Nat.xor_assoc]
  · intro h
    rw [hM, h]; simp

set_option maxHeartbeats 400000 in
theorem Turned_in (a : Option Addr) (l : List UInt8) (n cap : Nat) (p t : Nat) (w : World) (hn : n = l.length) (hl : n ≤ 1048576) (hb : Bs w a cap l) (hp : p + 32 ≤ 8 * n) (ht : t < 4294967296) :
    Calls Try.prog 20 #[.slice a n cap, .int .i64 p, .int .u32 t] w fun e w' => ∃ v x, e = .returned v ∧ OwnB w.heap.size w' v x ∧ x.length = n ∧ valN x = valN l ^^^ (2 ^ p * t) ∧ Below w.heap.size w w' := by
  have HN := Lib.hid hn
  have hown : OwnB w.heap.size (w.alloc (.cells #[] 5)) (.slice (some ⟨w.heap.size, 0, none⟩) 0 0) [] := World.ownsRow_lit w #[] 0 (Nat.le_refl _) (by decide) rfl
  have hb1 := hb.below ((Below.refl _ w).alloc (Nat.le_refl _) (.cells #[] 5))
  clear hb hn
  go_enter Try.func20, Try.ntmps20
  go_wp2_with (at_builtin; refine wpList_append_bs rfl (.tmp 9) (.tmp 10) rfl w.heap.size _ [] rfl hown _ _ _ l rfl HN.out hb1 ?_ ?_ ?_)
  · simp; omega
  · simp
  intro v w1 hv hg
  have hbel1 : Below w.heap.size w w1 := ((Below.refl _ w).alloc (Nat.le_refl _) (.cells #[] 5)).grown hg (by simp) (by simp [Value.ownBlock])
  obtain ⟨g, cap', hvv, hgb, hgs⟩ : ∃ g cap', v = .slice (some ⟨g, 0, none⟩) n cap' ∧ w.heap.size ≤ g ∧ g < w1.heap.size := by
    rcases hv.shape with ⟨_, h⟩ | ⟨g, cap', h, h1, h2, _⟩
    · have h2 := HN.out
      rw [h] at h2; simp at h2; omega
    · rw [← HN.out] at h
      exact ⟨g, cap', h, h1, h2⟩
  rw [hvv] at hv ⊢
  clear hg hvv hown hb1
  go_wp2_with fail
  go_loopw [2, 8] (fun t' i wr => ∃ (k : Nat) (L : List UInt8), k ≤ 32 ∧ i = .int .i64 k ∧ t' = .int .u32 ((t / 2 ^ k : Nat) : Int) ∧
      OwnB w.heap.size wr (.slice (some ⟨g, 0, none⟩) n cap') L ∧ L.length = n ∧ valN L = valN l ^^^ (2 ^ p * (t % 2 ^ k)) ∧ Below w.heap.size w wr) (fun _ i _ => 32 - (intOf i).toNat)
  case atStart => exact ⟨0, l, by omega, rfl, by simp, hv, HN.out.symm, by simp [Nat.mod_one], hbel1⟩
  case round =>
    obtain ⟨k, L, hk, rfl, rfl, hown, hL, hval, hbel⟩ := hrel
    have HL := Lib.hid hL
    have HV := Lib.hid hval
    clear hL hval
    by_cases hlt : k < 32
    · have ht' : t / 2 ^ k < 4294967296 := Nat.lt_of_le_of_lt (Nat.div_le_self _ _) ht
      have HT : Hid (t / 2 ^ (k + 1) = t / 2 ^ k / 2) := by show _ = _; rw [Nat.pow_succ, Nat.div_div_eq_div_mul]
      have HM : Hid (t % 2 ^ (k + 1) = t % 2 ^ k + 2 ^ k * (t / 2 ^ k % 2)) := by show _ = _; rw [Nat.pow_succ]; exact Nat.mod_mul
      have hmk : t % 2 ^ k < 2 ^ k := Nat.mod_lt _ (Nat.two_pow_pos k)
      have HMK := Lib.hid hmk
      clear hmk
      generalize t / 2 ^ k = q at *
      by_cases hpar : q % 2 = 1
      · have hc : wr.cell? ⟨g, (p + k) / 8, none⟩ = some (.int .u8 ((L.getD ((p + k) / 8) 0).toNat : Int)) := by
          have h1 := HL.out
          have h2 : (p + k) / 8 < L.length := by omega
          have h3 := World.ownsRow.cellAt (by have h4 := hown; unfold OwnB at h4; rw [h1] at h4; exact h4) ((p + k) / 8) (by omega)
          rw [h3]
          simp [List.getD, h2, u8v]
        have hf : wr.frozen? ⟨g, (p + k) / 8, none⟩ = false := World.ownsRow.frozenAt (by have h1 := HL.out; have h4 := hown; unfold OwnB at h4; rw [h1] at h4; exact h4) _
        have hsq : ((q : Int) % 2 == 1) = true := by rw [beq_iff_eq]; omega
        have hfl := own_flip hown HL.out ((p + k) / 8) ((p + k) % 8) (by omega) (by omega)
        have HF := Lib.hid hfl.1
        have HF2 : Hid (valN (L.set ((p + k) / 8) (L.getD ((p + k) / 8) 0 ^^^ UInt8.ofNat (2 ^ ((p + k) % 8)))) = valN l ^^^ (2 ^ p * (t % 2 ^ (k + 1)))) := by
          have h1 := (turn_step p k t q _ HM.out HMK.out _ HV.out).1 hpar
          rw [← h1]
          have h2 := hfl.2
          rw [show 8 * ((p + k) / 8) + (p + k) % 8 = p + k from by omega] at h2
          exact h2
        have HLS : Hid ((L.set ((p + k) / 8) (L.getD ((p + k) / 8) 0 ^^^ UInt8.ofNat (2 ^ ((p + k) % 8)))).length = n) := by
          have := HL.out; simpa [Hid] using this
        generalize L.set ((p + k) / 8) (L.getD ((p + k) / 8) 0 ^^^ UInt8.ofNat (2 ^ ((p + k) % 8))) = L2 at *
        generalize (L.getD ((p + k) / 8) 0) = c at *
        clear HM HV HMK hfl hown
        go_wp2
        go_region
        go_wp2
        go_roundw
        case rel => exact ⟨k + 1, L2, by omega, by go_num, by rw [HT.out]; go_num, HF.out, HLS.out, HF2.out, (hbel.setCell hgb _).drew⟩
        case measure => simp [intOf]; omega
      · have hsq : ((q : Int) % 2 == 1) = false := by rw [beq_eq_false_iff_ne]; omega
        have HF2 : Hid (valN L = valN l ^^^ (2 ^ p * (t % 2 ^ (k + 1)))) := (turn_step p k t q _ HM.out HMK.out _ HV.out).2 (by omega)
        clear HM HV HMK
        go_wp2
        go_roundw
        case rel => exact ⟨k + 1, L, by omega, by go_num, by rw [HT.out]; go_num, hown, HL.out, HF2.out, hbel⟩
        case measure => simp [intOf]; omega
    · obtain rfl : k = 32 := by omega
      have HF2 : Hid (valN L = valN l ^^^ (2 ^ p * t)) := by
        have := HV.out
        rwa [Nat.mod_eq_of_lt (by omega)] at this
      go_wp2
      go_ret
      exact ⟨_, L, rfl, hown, HL.out, HF2.out, hbel⟩
end Go.Proofs.Ytammicdgpdnihaa
