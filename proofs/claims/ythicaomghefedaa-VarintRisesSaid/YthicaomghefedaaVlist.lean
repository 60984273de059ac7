/- Walks of layer 2: varint.List and Parse. -/
import Derived.Test.YthicaomghefedaaVarintTake
import Derived.Test.YthicaomghefedaaNums
namespace Go.Proofs.Ythicaomghefedaa
open Go.RowKit

theorem flatV_take_succ (ls : List Nat) (k : Nat) (h : k < ls.length) : flatV (ls.take (k + 1)) = flatV (ls.take k) ++ formV (ls.getD k 0) := by
  rw [take_snoc _ 0 _ h, flatV_append]; simp [flatV]
theorem flatV_take_le {ls : List Nat} (hs : ∀ v ∈ ls, v < 18446744073709551616) (k : Nat) : (flatV (ls.take k)).length ≤ 10 * ls.length := by
  have h1 := (flatV_len (l := ls.take k) (fun v hv => hs v (List.mem_of_mem_take hv))).2
  have h2 := List.length_take_le k ls
  have h3 : (ls.take k).length ≤ ls.length := by rw [List.length_take]; omega
  omega

set_option maxRecDepth 100000 in
theorem List_any (a : Option Addr) (ls : List Nat) (n cap : Nat) (w : World) (hn : n = ls.length) (hmax : n ≤ 1000000) (hb : Ns w a cap ls) :
    Calls Try.prog 29 #[.slice a n cap] w fun e w' => ∃ x, e = .returned x ∧ OwnB w.heap.size w' x (flatV ls) ∧ Below w.heap.size w w' := by
  have HN := Lib.hid hn
  have HB := Lib.hid hb
  clear hb hn
  go_enter Try.func29, Try.ntmps29
  go_wp2_with fail
  refine (octetWrite_any _).mono ?_
  rintro e w1 ⟨p, rfl, hW1, hb1⟩
  have HW1 := Lib.hid hW1
  clear hW1
  go_wp2
  go_loopw [5, 9] (fun _ i wr => ∃ (k : Nat) (x : Value), k ≤ n ∧ i = .int .i64 (k : Int) ∧ Wr w.heap.size wr p x (flatV (ls.take k)) ∧ Below w.heap.size w wr) (fun _ i _ => n - (intOf i).toNat)
  case atStart => exact ⟨0, _, Nat.zero_le _, rfl, HW1.out, hb1⟩
  case round =>
    obtain ⟨k, x, hk, rfl, hW, hbr⟩ := hrel
    have HW := Lib.hid hW
    have HL := Lib.hid (flatV_take_le HB.out.small k)
    clear hW
    by_cases hlt : k < n
    · obtain ⟨b, off, rfl, hcell, hbl, hv⟩ := (HB.out.below hbr).at (k := k) (by have h1 := HN.out; omega)
      have HF := Lib.hid (flatV_take_succ ls k (by have h1 := HN.out; omega))
      generalize ls.getD k 0 = v at *
      go_wp2_with fail
      refine (Put_any _ p x _ v _ HW.out (by have h1 := HL.out; have h2 := HN.out; omega) hv).mono ?_
      rintro e w2 ⟨rfl, x2, hW2, hK2, -⟩
      rw [← HF.out] at hW2
      have HR := Lib.hid (And.intro hW2 (hbr.trans (hK2.below hbr.size HW.out.foot)))
      clear hW2 hK2
      go_wp2
      go_roundw
      case rel => exact ⟨k + 1, x2, by omega, by go_num, HR.out.1, HR.out.2⟩
      case measure => simp [intOf] <;> omega
    · obtain rfl : k = n := by omega
      go_wp2_with fail
      refine (WBytes_any _ p x _ _ HW.out (by have h1 := HL.out; have h2 := HN.out; omega)).mono ?_
      rintro e w2 ⟨v2, rfl, hown2, hb2⟩
      rw [List.take_of_length_le (by have h1 := HN.out; omega)] at hown2
      obtain ⟨a2, c2, n2, hv2, -, -, -, -⟩ := hown2.bsn
      subst hv2
      have HO : Hid (OwnB w.heap.size w2 (.slice a2 n2 c2) (flatV ls) ∧ Below w.heap.size w w2) := ⟨hown2.rebase (fun g hg => Nat.le_trans hbr.size (hown2.lt g hg).1), hbr.trans (hb2.mono hbr.size)⟩
      clear hown2 hb2
      go_wp2
      go_ret
      exact ⟨_, rfl, HO.out.1, HO.out.2⟩

/-- What Parse parses. -/
def parseR (n : Int) (L : List UInt8) : Option (List Nat) := if n < 0 then none else parseV n.toNat L
theorem frontV_most {L : List UInt8} {i : Nat} : takeR L i 18446744073709551615 = frontV (L.drop i) := by
  unfold takeR
  cases h : frontV (L.drop i) with
  | none => rfl
  | some x =>
    obtain ⟨v, k⟩ := x
    have := (frontV_bound h).1
    exact if_pos (by omega)

def ParseP (base : Nat) (n : Int) (L : List UInt8) (e : Ending) (w' : World) : Prop :=
  ∃ x, e = .returned (.tuple #[x, .bool (parseR n L).isSome]) ∧ OwnN base w' x ((parseR n L).getD [])

theorem All_end {L : List UInt8} {i : Nat} (n : Nat) (vs : List Nat) (hl : vs.length = n) (h : parseV n L = (parseV (n - vs.length) (L.drop i)).map (vs ++ ·)) :
    parseV n L = if L.length - i = 0 then some vs else none := by
  rw [h, hl, Nat.sub_self]
  unfold parseV
  by_cases he : L.length - i = 0
  · rw [if_pos he, if_pos (List.drop_eq_nil_of_le (by omega))]; simp
  · rw [if_neg he, if_neg (by
      intro h0
      have h1 := congrArg List.length h0
      rw [List.length_drop, List.length_nil] at h1
      exact he h1)]; rfl
def lenOf : Value → Nat
  | .slice _ n _ => n
  | _ => 0

theorem Rd.kept2 {w w' : World} {p g : Nat} {l : List UInt8} {i : Nat} {s : Bool} (h : Rd w p g l i s) {T : Nat → Prop} (hk : Kept T w w') (h1 : ¬ T p) (h2 : l ≠ [] → ¬ T g) : Rd w' p g l i s :=
  ⟨by rw [hk.block p (Array.getElem?_eq_some_iff.1 h.cell).1 h1]; exact h.cell, h.bs.of_blocks (by rintro x hx hl; have hb := h.bs.block_lt hx hl; cases hx; exact hk.block _ hb (h2 hl)), h.le, h.ne, h.small⟩

set_option maxRecDepth 100000 in
set_option maxHeartbeats 2000000 in
theorem Parse_any (a : Option Addr) (L : List UInt8) (m cap : Nat) (n : Int) (w : World) (hm : m = L.length) (hmax : m ≤ 100000000) (hb : Bs w a cap L) (hn1 : -9223372036854775808 ≤ n) (hn2 : n ≤ 9223372036854775807) :
    Calls Try.prog 28 #[.slice a m cap, .int .i64 n] w fun e w' => ParseP w.heap.size n L e w' ∧ Below w.heap.size w w' := by
  have HM := Lib.hid hm
  have HB := Lib.hid hb
  clear hb hm
  by_cases hneg : n < 0
  · have HP : Hid (parseR n L = none) := if_pos hneg
    go_enter Try.func28, Try.ntmps28
    go_wp2
    go_ret2
    exact ⟨⟨_, by rw [HP.out]; rfl, by rw [HP.out]; exact OwnN.start _ _⟩, Below.refl _ _⟩
  obtain ⟨N, rfl⟩ : ∃ N : Nat, n = N := ⟨n.toNat, by omega⟩
  have HPR : Hid (parseR (N : Int) L = parseV N L) := if_neg hneg
  clear hneg
  go_enter Try.func28, Try.ntmps28
  go_wp2_with fail
  refine (octetRead_any a L m cap _ HM.out (by omega) HB.out).mono ?_
  rintro e w1 ⟨q, g, rfl, hR1, hqw, -, hb1⟩
  have HR1 := Lib.hid hR1
  have hqw1 : q < w1.heap.size := hR1.lt
  clear hR1
  go_wp2
  go_loopw [7] (fun o wr => ∃ (i k : Nat) (s : Bool) (vs : List Nat), i ≤ m ∧ (∀ z, o.ownBlock = some z → z ≠ q ∧ (L ≠ [] → z ≠ g)) ∧ OwnN w.heap.size wr o vs ∧ Hid (vs.length = k) ∧ k ≤ (if s then m + 1 else i) ∧ k ≤ N ∧ Rd wr q g L i s ∧ Below w.heap.size w wr ∧ Hid (∀ v ∈ vs, v < 18446744073709551616) ∧
    Hid (parseV N L = if s then none else (parseV (N - k) (L.drop i)).map (vs ++ ·))) (fun o _ => m + 2 - lenOf o)
  case atStart => exact ⟨0, 0, false, [], Nat.zero_le _, (fun z hz => by cases hz), OwnN.start _ _, rfl, Nat.zero_le _, Nat.zero_le _, HR1.out, hb1, by simp [Hid], by simp [Hid]⟩
  case round =>
    obtain ⟨i, k, s, vs, him, hsep, hown, HK, hki, hkN, hR, hbr, HS, HP⟩ := hrel
    obtain ⟨a4, c4, n4, hv4, hn4, -, -, -⟩ := hown.bsn HS.out
    subst hv4
    have hnk : n4 = k := by have := HK.out; omega
    subst hnk
    have HR := Lib.hid hR
    have HO := Lib.hid hown
    have HSEP := Lib.hid hsep
    have hk2 : n4 ≤ m + 1 := by split at hki <;> omega
    have hnn : n4 ≤ 9223372036854775807 := by omega
    clear hR hown hsep hn4
    by_cases hlt : n4 < N
    · cases s
      · go_wp2_with fail
        refine (RSpent_any _ HR.out).mono ?_
        rintro e w3 ⟨rfl, rfl⟩
        go_wp2_with fail
        refine (Take_any 18446744073709551615 _ HR.out).mono ?_
        rintro e w3 ⟨hT, hK3⟩
        have hb3 : Below w.heap.size w w3 := hbr.trans (hK3.below hbr.size (by rintro z rfl; exact hqw))
        have hO3 : OwnN w.heap.size w3 (.slice a4 n4 c4) vs := HO.out.keptT hK3 (fun z hz e => (HSEP.out z hz).1 e)
        rcases hT with ⟨v, k2, hT1, rfl, hR3⟩ | ⟨hT1, rfl, j, hR3⟩
        · rw [frontV_most] at hT1
          have hbd := frontV_bound hT1
          have hvl := hbd.1
          have hik : i + k2 ≤ m := by have h5 := hR3.le; have h6 := HM.out; omega
          have hk0 := hbd.2.1
          have HT := Lib.hid hT1
          clear hT1 hbd
          have hbase3 := hb3.size
          have HO3 := Lib.hid hO3
          have HR3 := Lib.hid hR3
          have HLE := Lib.hid (show vs.length + 1 ≤ 1000000000 by have := HK.out; omega)
          have hsep3 : ∀ z, (Value.slice a4 n4 c4).ownBlock = some z → z ≠ q ∧ (L ≠ [] → z ≠ g) := HSEP.out
          clear hO3 hR3 hK3
          go_wp2_with (at_builtin; refine wpList_append_u64_at rfl (.tmp 21) (.tmp 24) rfl w.heap.size (.slice a4 n4 c4) vs rfl HO3.out v rfl HLE.out hbase3 ?_; intro v4 w4 hown4 hg4 hnear4)
          have hR4 := HR3.out.kept2 (T := fun z => (Value.slice a4 n4 c4).ownBlock = some z) (Kept.grown hg4 fun _ h => h) (fun e => (hsep3 q e).1 rfl) (fun hl e => (hsep3 g e).2 hl rfl)
          have hS4 : ∀ y ∈ vs ++ [v], y < 18446744073709551616 := by
            intro y hy
            rcases List.mem_append.1 hy with hy | hy
            · exact HS.out y hy
            · rw [List.mem_singleton.1 hy]; omega
          have hsep4 : ∀ z, v4.ownBlock = some z → z ≠ q ∧ (L ≠ [] → z ≠ g) := fun z hz => by
            rcases hnear4 z hz with h | h
            · exact hsep3 z h
            · have h5 := HR3.out.lt
              refine ⟨by omega, fun hl => ?_⟩
              have := HR3.out.bs.block_lt rfl hl
              have : g < w3.heap.size := this
              omega
          obtain ⟨a5, c5, n5, hv5, hn5, -, -, -⟩ := hown4.bsn hS4
          subst hv5
          have hn5' : n5 = n4 + 1 := by rw [hn5, List.length_append, HK.out]; rfl
          subst hn5'
          go_roundw
          case rel => exact ⟨i + k2, n4 + 1, false, vs ++ [v], hik, hsep4, hown4, by show _ = _; rw [List.length_append, HK.out]; rfl, by simp at hki ⊢; omega, by omega, hR4, hb3.trans (HO3.out.belowOf hg4 hbase3), hS4, by
            show _ = _
            have h6 := HP.out
            rw [if_neg (by simp)] at h6 ⊢
            rw [h6]
            exact parseV_next hlt HT.out⟩
          case measure => simp [lenOf] <;> omega
        · rw [frontV_most] at hT1
          have hj : j ≤ m := by have h5 := hR3.le; have h6 := HM.out; omega
          have HT := Lib.hid hT1
          clear hT1
          have hbase3 := hb3.size
          have HO3 := Lib.hid hO3
          have HR3 := Lib.hid hR3
          have HLE := Lib.hid (show vs.length + 1 ≤ 1000000000 by have := HK.out; omega)
          have hsep3 : ∀ z, (Value.slice a4 n4 c4).ownBlock = some z → z ≠ q ∧ (L ≠ [] → z ≠ g) := HSEP.out
          clear hO3 hR3 hK3
          go_wp2_with (at_builtin; refine wpList_append_u64_at rfl (.tmp 21) (.tmp 24) rfl w.heap.size (.slice a4 n4 c4) vs rfl HO3.out 0 rfl HLE.out hbase3 ?_; intro v4 w4 hown4 hg4 hnear4)
          have hR4 := HR3.out.kept2 (T := fun z => (Value.slice a4 n4 c4).ownBlock = some z) (Kept.grown hg4 fun _ h => h) (fun e => (hsep3 q e).1 rfl) (fun hl e => (hsep3 g e).2 hl rfl)
          have hS4 : ∀ y ∈ vs ++ [0], y < 18446744073709551616 := by
            intro y hy
            rcases List.mem_append.1 hy with hy | hy
            · exact HS.out y hy
            · rw [List.mem_singleton.1 hy]; omega
          have hsep4 : ∀ z, v4.ownBlock = some z → z ≠ q ∧ (L ≠ [] → z ≠ g) := fun z hz => by
            rcases hnear4 z hz with h | h
            · exact hsep3 z h
            · have h5 := HR3.out.lt
              refine ⟨by omega, fun hl => ?_⟩
              have := HR3.out.bs.block_lt rfl hl
              have : g < w3.heap.size := this
              omega
          obtain ⟨a5, c5, n5, hv5, hn5, -, -, -⟩ := hown4.bsn hS4
          subst hv5
          have hn5' : n5 = n4 + 1 := by rw [hn5, List.length_append, HK.out]; rfl
          subst hn5'
          go_roundw
          case rel => exact ⟨j, n4 + 1, true, vs ++ [0], hj, hsep4, hown4, by show _ = _; rw [List.length_append, HK.out]; rfl, by simp at hki ⊢; omega, by omega, hR4, hb3.trans (HO3.out.belowOf hg4 hbase3), hS4, by
            show _ = _
            have h6 := HP.out
            rw [if_neg (by simp)] at h6
            rw [if_pos rfl, h6, parseV_stop hlt HT.out]; rfl⟩
          case measure => simp [lenOf] <;> omega
      · go_wp2_with fail
        refine (RSpent_any _ HR.out).mono ?_
        rintro e w3 ⟨rfl, rfl⟩
        go_wp2_with fail
        refine (RAll_any _ HR.out).mono ?_
        rintro e w3 ⟨rfl, hb3⟩
        have hbe := hbr.trans (hb3.mono hbr.size)
        have HX : Hid (parseR (N : Int) L = none) := by show _ = _; rw [HPR.out, HP.out]; rfl
        clear hb3
        go_wp2
        go_ret2
        exact ⟨⟨_, by rw [HX.out]; rfl, by rw [HX.out]; exact OwnN.start _ _⟩, hbe⟩
    · have hkN' : n4 = N := by omega
      have HKN := Lib.hid hkN'
      clear hkN'
      go_wp2_with fail
      refine (RAll_any _ HR.out).mono ?_
      rintro e w3 ⟨rfl, hb3⟩
      have hbe := hbr.trans (hb3.mono hbr.size)
      have HO3 := Lib.hid (HO.out.below hb3)
      clear hb3
      cases s
      · have HE := Lib.hid (All_end (i := i) N vs (by rw [HK.out, HKN.out]) (by rw [HP.out, HK.out]; rfl))
        by_cases he : L.length - i = 0
        · have HALL : Hid ((!false && leftN L i false == 0) = true) := by show _ = _; unfold leftN; rw [if_neg (by simp), he]; rfl
          have HX : Hid (parseR (N : Int) L = some vs) := by show _ = _; rw [HPR.out, HE.out, if_pos he]
          clear he
          rw [HALL.out]
          go_wp2
          go_ret2
          exact ⟨⟨_, by rw [HX.out]; rfl, by rw [HX.out]; exact HO3.out⟩, hbe⟩
        · have HALL : Hid ((!false && leftN L i false == 0) = false) := by show _ = _; unfold leftN; rw [if_neg (by simp)]; simpa using he
          have HX : Hid (parseR (N : Int) L = none) := by show _ = _; rw [HPR.out, HE.out, if_neg he]
          clear he
          rw [HALL.out]
          go_wp2
          go_ret2
          exact ⟨⟨_, by rw [HX.out]; rfl, by rw [HX.out]; exact OwnN.start _ _⟩, hbe⟩
      · have HX : Hid (parseR (N : Int) L = none) := by show _ = _; rw [HPR.out, HP.out]; rfl
        go_wp2
        go_ret2
        exact ⟨⟨_, by rw [HX.out]; rfl, by rw [HX.out]; exact OwnN.start _ _⟩, hbe⟩
end Go.Proofs.Ythicaomghefedaa
