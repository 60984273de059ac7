/- The walk of the law CrcSums: it returns true, and leaves what was there as it was. -/
import Derived.Test.YtammicdgpdnihaaAwake3
namespace Go.Proofs.Ytammicdgpdnihaa
open Go.RowKit

theorem flatten_take_snoc (ls : List (List UInt8)) (k : Nat) (h : k < ls.length) : (ls.take (k + 1)).flatten = (ls.take k).flatten ++ ls.getD k [] := by
  rw [take_snoc ls [] k h]; simp

set_option maxHeartbeats 1000000 in
theorem CrcSums_walk (a : Option Addr) (ls : List (List UInt8)) (n cap : Nat) (w : World) (hn : n = ls.length) (hb : Bss w a cap ls) :
    Calls Try.prog 3 #[.slice a n cap] w fun e w' => e = .returned (.bool true) ∧ Below w.heap.size w w' := by
  have hl := hb.fits hn
  have HN := Lib.hid hn
  have HB := Lib.hid hb
  clear hb hn
  by_cases h1 : 20 < n
  · go_enter Try.func3, Try.ntmps3
    go_wp2_with (go_at_call 14; refine (awake3 _).mono ?_; rintro e w1 ⟨rfl, hb1⟩)
    go_ret
    exact ⟨rfl, hb1⟩
  go_enter Try.func3, Try.ntmps3
  go_wp2_with (go_at_call 15; refine (CrcBegin_any _).mono ?_; rintro e w1 ⟨rfl, rfl⟩)
  go_loopw [3, 4, 5] (fun v r i wr => ∃ k : Nat, k ≤ n ∧ i = .int .i64 k ∧ r = .int .u32 (stepsN 4294967295 (ls.take k)) ∧ OwnB w.heap.size wr v (ls.take k).flatten ∧ (ls.take k).flatten.length ≤ 500 * k ∧ Below w.heap.size w wr) (fun _ _ i _ => n - (intOf i).toNat)
  case atStart => exact ⟨0, Nat.zero_le _, rfl, rfl, OwnB.start _ _, by simp, Below.refl _ _⟩
  case round =>
    obtain ⟨k, hk, rfl, rfl, hown, hlen, hbel⟩ := hrel
    have hs := stepsN_lt 4294967295 (by omega) (ls.take k)
    by_cases hlt : k < n
    · obtain ⟨b, off, ai, ci, rfl, hcell, hbs, hbi⟩ := HB.out.at (k := k) (by have h1 := HN.out; omega)
      rw [← hbel.cell (by exact hbs)] at hcell
      have hbi := hbi.below hbel
      have HS := Lib.hid (show stepsN 4294967295 (ls.take (k+1)) = stepN (stepsN 4294967295 (ls.take k)) (ls.getD k []) by
        rw [take_snoc ls [] k (by have h1 := HN.out; omega), stepsN_snoc])
      have HF := Lib.hid (flatten_take_snoc ls k (by have h1 := HN.out; omega))
      have HSF := Lib.hid (stepsN_flat 4294967295 (ls.take (k+1)))
      have hli := hbi.fits rfl
      generalize hp : ls.getD k [] = p at *
      have HP := Lib.hid hp
      clear hp
      generalize stepsN 4294967295 (ls.take k) = s at *
      generalize (ls.take k).flatten = f at *
      obtain ⟨m, hm⟩ : ∃ m, m = p.length := ⟨_, rfl⟩
      rw [← hm] at hcell hli
      have HM := Lib.hid hm
      have HBI := Lib.hid hbi
      clear hm hbi
      by_cases h5 : 500 < m
      · go_wp2_with (go_at_call 14; refine (awake3 _).mono ?_; rintro e w1 ⟨rfl, hb1⟩)
        go_ret
        exact ⟨rfl, hbel.trans (hb1.mono hbel.size)⟩
      go_wp2_with (at_builtin; refine wpList_append_bs rfl (.tmp 24) (.tmp 28) rfl w.heap.size _ f rfl hown _ _ _ p rfl HM.out HBI.out ?_ ?_ ?_)
      · omega
      · exact hbel.size
      intro v' w1 hown1 hg
      have hbel1 := hbel.grown hg hbel.size (fun k hk => (World.ownsRow.lt hown k hk).1)
      have hcell1 : w1.cell? ⟨b, off + k, none⟩ = some (.slice ai m ci) := by
        rw [hbel1.cell (by exact hbs), ← hbel.cell (by exact hbs)]; exact hcell
      have HB1 : Bss w1 (some ⟨b, off, none⟩) cap ls := HB.out.below hbel1
      obtain ⟨b', off', ai', ci', hbo, hc', _, hbi'⟩ := HB1.at (k := k) (by have h1 := HN.out; omega)
      cases hbo
      rw [HP.out, ← HM.out, hcell1] at hc'
      simp only [Option.some.injEq, Value.slice.injEq, true_and] at hc'
      obtain ⟨rfl, rfl⟩ := hc'
      rw [HP.out] at hbi'
      have HBI' := Lib.hid hbi'
      have HO1 := Lib.hid hown1
      clear HBI hbi' hg hown hown1 hcell HB1
      go_wp2_with fail
      refine (Step_any s hs ai p m ci _ HM.out HBI'.out).mono ?_; rintro e w2 ⟨rfl, hb2⟩
      have hbel2 := hbel1.trans (hb2.mono hbel1.size)
      have HO2 := Lib.hid (HO1.out.below hb2)
      have hs2 := stepN_lt s hs p
      have HS' : Hid (stepN s p = stepN 4294967295 (f ++ p)) := by
        have h1 := HSF.out
        rw [HS.out, HF.out] at h1
        exact h1
      go_wp2_with fail
      refine (CrcEnd_any _ hs2 _).mono ?_; rintro e w3 ⟨rfl, rfl⟩
      obtain ⟨a3, c3, n3, hv3, hn3, hb3, -, -⟩ := HO2.out.bsn
      rw [hv3] at HO2 ⊢
      have HB3 := Lib.hid hb3
      have HN3 := Lib.hid hn3
      clear hv3 hb3 hn3
      go_wp2_with fail
      refine (refSum_any a3 (f ++ p) n3 c3 _ HN3.out HB3.out).mono ?_; rintro e w3 ⟨rfl, rfl⟩
      have he : (((4294967295 - stepN s p : Nat) : Int) != ((sumN (f ++ p) : Nat) : Int)) = false := by
        rw [bne_eq_false_iff_eq, HS'.out]; rfl
      generalize sumN (f ++ p) = q at *
      generalize (4294967295 - stepN s p) = q2 at *
      generalize hsp : stepN s p = sp at *
      have HSP := Lib.hid hsp
      clear hsp
      go_wp2_with fail
      go_roundw
      case rel => exact ⟨k+1, by omega, by go_num, by rw [HS.out], by rw [HF.out]; exact HO2.out, by rw [HF.out, List.length_append, ← HM.out]; omega, hbel2⟩
      case measure => simp [intOf]; omega
    · have HF : Hid ((ls.take k).flatten = ls.flatten) := by
        rw [List.take_of_length_le (by have h1 := HN.out; omega)]; rfl
      have HB1 := Lib.hid (HB.out.below hbel)
      rw [HF.out] at hown
      clear hs hlen
      generalize stepsN 4294967295 (ls.take k) = s at *
      go_wp2_with fail
      refine (CrcOf_any _ ls _ _ _ HN.out HB1.out).mono ?_; rintro e w1 ⟨rfl, hb1⟩
      have hbel1 := hbel.trans (hb1.mono hbel.size)
      obtain ⟨a3, c3, n3, hv3, hn3, hb3, -, -⟩ := (hown.below hb1).bsn
      rw [hv3]
      have HB3 := Lib.hid hb3
      have HN3 := Lib.hid hn3
      clear hv3 hb3 hown hn3
      go_wp2_with fail
      refine (refSum_any a3 ls.flatten n3 c3 _ HN3.out HB3.out).mono ?_; rintro e w3 ⟨rfl, rfl⟩
      have he : (((sumN ls.flatten : Nat) : Int) == ((sumN ls.flatten : Nat) : Int)) = true := by rw [beq_iff_eq]
      go_wp2_with fail
      refine (CrcOf_any _ [ls.flatten] _ _ _ rfl ?_).mono ?_
      · exact Bss.one ls.flatten HN3.out (heap_alloc_at _ _ _ (by simp)) (HB3.out.below ((Below.refl _ _).alloc (Nat.le_refl _) _))
      rintro e w2 ⟨rfl, hb2⟩
      have hb2' : Below w1.heap.size w1 w2 := ((Below.refl _ _).alloc (Nat.le_refl _) _).trans (hb2.mono (by simp))
      have HB4 := Lib.hid (HB3.out.below hb2')
      rw [show List.flatten [ls.flatten] = ls.flatten from by simp]
      go_wp2_with fail
      refine (refSum_any a3 ls.flatten n3 c3 _ HN3.out HB4.out).mono ?_; rintro e w3 ⟨rfl, rfl⟩
      go_wp2_with (go_at_call 14; refine (awake3 _).mono ?_; rintro e w4 ⟨rfl, hb4⟩)
      go_ret
      exact ⟨rfl, (hbel1.trans (hb2'.mono hbel1.size)).trans (hb4.mono (Nat.le_trans hbel1.size hb2'.size))⟩

end Go.Proofs.Ytammicdgpdnihaa
