/- Plain facts on layer 7: a frame, the frame with which bytes begin, and that the one turns the other back; a burst in a frame. -/
import Derived.Test.YtammicdgpdnihaaCrcMath
import Derived.Test.YtammicdgpdnihaaVarintMath
namespace Go.Proofs.Ytammicdgpdnihaa

def headF (kind : UInt8) (load : List UInt8) : List UInt8 := kind :: (formV load.length ++ load)
/-- A frame. -/
def sealF (kind : UInt8) (load : List UInt8) : List UInt8 := headF kind load ++ le4 (sumN (headF kind load))
theorem headF_len (kind : UInt8) (load : List UInt8) : (headF kind load).length = 1 + (formV load.length).length + load.length := by
  unfold headF; simp; omega
theorem sealF_len (kind : UInt8) (load : List UInt8) : (sealF kind load).length = 5 + (formV load.length).length + load.length := by
  unfold sealF; rw [List.length_append, headF_len]; simp [le4]; omega

/-- What stands at the front of bytes: the kind, the load, how long it is, what is wrong. -/
structure FR where
  kind : UInt8
  load : List UInt8
  n : Nat
  why : Nat
def cutV (t : List UInt8) : Bool := t.all (fun c => decide (128 ≤ c.toNat)) && decide (t.length < 10)
def badF (why : Nat) : FR := ⟨0, [], 0, why⟩
def frontF (L : List UInt8) : FR :=
  if L = [] then badF 2 else
  match frontV (L.drop 1) with
  | none => if cutV (L.drop 1) then badF 2 else badF 3
  | some (v, k) => if 1048576 < v then badF 3 else
    if L.length < 1 + k + v + 4 then badF 2 else
    if (L.drop (1 + k + v)).take 4 = le4 (sumN (L.take (1 + k + v))) then ⟨L.getD 0 0, (L.take (1 + k + v)).drop (1 + k), 1 + k + v + 4, 0⟩ else badF 6

theorem frontF_nil : frontF [] = badF 2 := rfl
theorem frontF_cut {L : List UInt8} (h : L ≠ []) (hf : frontV (L.drop 1) = none) (hc : cutV (L.drop 1) = true) : frontF L = badF 2 := by
  unfold frontF; rw [if_neg h, hf]; exact if_pos hc
theorem frontF_form {L : List UInt8} (h : L ≠ []) (hf : frontV (L.drop 1) = none) (hc : cutV (L.drop 1) = false) : frontF L = badF 3 := by
  unfold frontF; rw [if_neg h, hf]; exact if_neg (by rw [hc]; simp)
theorem frontF_long {L : List UInt8} (h : L ≠ []) {v k : Nat} (hf : frontV (L.drop 1) = some (v, k)) (hv : 1048576 < v) : frontF L = badF 3 := by
  unfold frontF; rw [if_neg h, hf]; exact if_pos hv
theorem frontF_short {L : List UInt8} (h : L ≠ []) {v k : Nat} (hf : frontV (L.drop 1) = some (v, k)) (hv : v ≤ 1048576) (hl : L.length < 1 + k + v + 4) : frontF L = badF 2 := by
  unfold frontF; rw [if_neg h, hf]
  show (if _ then _ else _) = _
  rw [if_neg (by omega), if_pos hl]
theorem frontF_sum {L : List UInt8} (h : L ≠ []) {v k : Nat} (hf : frontV (L.drop 1) = some (v, k)) (hv : v ≤ 1048576) (hl : 1 + k + v + 4 ≤ L.length) (hs : (L.drop (1 + k + v)).take 4 ≠ le4 (sumN (L.take (1 + k + v)))) : frontF L = badF 6 := by
  unfold frontF; rw [if_neg h, hf]
  show (if _ then _ else _) = _
  rw [if_neg (by omega), if_neg (by omega), if_neg hs]
theorem frontF_ok {L : List UInt8} (h : L ≠ []) {v k : Nat} (hf : frontV (L.drop 1) = some (v, k)) (hv : v ≤ 1048576) (hl : 1 + k + v + 4 ≤ L.length) (hs : (L.drop (1 + k + v)).take 4 = le4 (sumN (L.take (1 + k + v)))) :
    frontF L = ⟨L.getD 0 0, (L.take (1 + k + v)).drop (1 + k), 1 + k + v + 4, 0⟩ := by
  unfold frontF; rw [if_neg h, hf]
  show (if _ then _ else _) = _
  rw [if_neg (by omega), if_neg (by omega), if_pos hs]

/-- Bytes that are cut off in the form: some byte ends it, if a form stands there. -/
theorem frontGo_some_low : ∀ (t : List UInt8) (i v x n : Nat), frontGo t i v = some (x, n) → ∃ c ∈ t, c.toNat < 128 := by
  intro t
  induction t with
  | nil => intro i v x n h; cases h
  | cons c t ih =>
    intro i v x n h
    by_cases hc : c.toNat < 128
    · exact ⟨c, by simp, hc⟩
    · by_cases h9 : i < 10
      · by_cases hb : (i = 9 ∧ 1 < c.toNat) ∨ (0 < i ∧ c.toNat = 0)
        · rw [frontGo_bad hb] at h; cases h
        · rw [frontGo_on h9 hb hc] at h
          obtain ⟨d, hd, hl⟩ := ih _ _ _ _ h
          exact ⟨d, by simp [hd], hl⟩
      · rw [frontGo_late _ _ _ (by omega)] at h; cases h
theorem cutV_some {t : List UInt8} {x : Nat × Nat} (h : frontV t = some x) : cutV t = false := by
  obtain ⟨c, hc, hl⟩ := frontGo_some_low t 0 0 x.1 x.2 h
  unfold cutV
  rw [show (t.all fun c => decide (128 ≤ c.toNat)) = false from List.all_eq_false.2 ⟨c, hc, by simp; omega⟩]; rfl

theorem frontF_why {L : List UInt8} : (frontF L).why ≠ 0 → frontF L = badF (frontF L).why := by
  intro h
  by_cases h0 : L = []
  · subst h0; rfl
  cases hf : frontV (L.drop 1) with
  | none =>
    by_cases hc : cutV (L.drop 1) = true
    · rw [frontF_cut h0 hf hc]; rfl
    · rw [frontF_form h0 hf (by simpa using hc)]; rfl
  | some x =>
    obtain ⟨v, k⟩ := x
    by_cases hv : 1048576 < v
    · rw [frontF_long h0 hf hv]; rfl
    by_cases hl : L.length < 1 + k + v + 4
    · rw [frontF_short h0 hf (by omega) hl]; rfl
    by_cases hs : (L.drop (1 + k + v)).take 4 = le4 (sumN (L.take (1 + k + v)))
    · rw [frontF_ok h0 hf (by omega) (by omega) hs] at h
      exact absurd rfl h
    · rw [frontF_sum h0 hf (by omega) (by omega) hs]; rfl

theorem frontF_sound {L : List UInt8} (h : (frontF L).why = 0) : L.take (frontF L).n = sealF (frontF L).kind (frontF L).load ∧ (frontF L).n ≤ L.length ∧ 5 < (frontF L).n ∧ (frontF L).load.length ≤ 1048576 := by
  by_cases h0 : L = []
  · subst h0; cases h
  cases hf : frontV (L.drop 1) with
  | none =>
    by_cases hc : cutV (L.drop 1) = true
    · rw [frontF_cut h0 hf hc] at h; cases h
    · rw [frontF_form h0 hf (by simpa using hc)] at h; cases h
  | some x =>
    obtain ⟨v, k⟩ := x
    by_cases hv : 1048576 < v
    · rw [frontF_long h0 hf hv] at h; cases h
    by_cases hl : L.length < 1 + k + v + 4
    · rw [frontF_short h0 hf (by omega) hl] at h; cases h
    by_cases hs : (L.drop (1 + k + v)).take 4 = le4 (sumN (L.take (1 + k + v)))
    · rw [frontF_ok h0 hf (by omega) (by omega) hs]
      have hk := frontV_bound hf
      have hfm := frontV_sound hf
      have hll : ((L.take (1 + k + v)).drop (1 + k)).length = v := by rw [List.length_drop, List.length_take]; omega
      refine ⟨?_, by show 1 + k + v + 4 ≤ _; omega, by show 5 < 1 + k + v + 4; omega, by show ((L.take (1 + k + v)).drop (1 + k)).length ≤ _; omega⟩
      show L.take (1 + k + v + 4) = sealF (L.getD 0 0) ((L.take (1 + k + v)).drop (1 + k))
      have hh : headF (L.getD 0 0) ((L.take (1 + k + v)).drop (1 + k)) = L.take (1 + k + v) := by
        unfold headF
        rw [hll, hfm]
        cases L with
        | nil => exact absurd rfl h0
        | cons c t =>
          show c :: (t.take k ++ _) = _
          rw [show 1 + k + v = (k + v) + 1 by omega, show 1 + k = k + 1 by omega, List.take_succ_cons, List.drop_succ_cons]
          congr 1
          conv => rhs; rw [← List.take_append_drop k (t.take (k + v))]
          rw [List.take_take, Nat.min_eq_left (by omega)]
      unfold sealF
      rw [hh, ← hs, List.take_add]
    · rw [frontF_sum h0 hf (by omega) (by omega) hs] at h; cases h

theorem frontF_seal (kind : UInt8) (load : List UInt8) (hl : load.length ≤ 1048576) : frontF (sealF kind load) = ⟨kind, load, (sealF kind load).length, 0⟩ := by
  have hd : (sealF kind load).drop 1 = formV load.length ++ (load ++ le4 (sumN (headF kind load))) := by
    unfold sealF headF; simp
  have hf : frontV ((sealF kind load).drop 1) = some (load.length, (formV load.length).length) := by rw [hd]; exact frontV_form (by omega) _
  have hlen := sealF_len kind load
  have hhl := headF_len kind load
  have ht : (sealF kind load).take (1 + (formV load.length).length + load.length) = headF kind load := by
    unfold sealF; rw [← hhl]; simp
  have hdr : (sealF kind load).drop (1 + (formV load.length).length + load.length) = le4 (sumN (headF kind load)) := by
    unfold sealF; rw [← hhl]; simp
  rw [frontF_ok (by intro h; rw [h] at hlen; simp at hlen; omega) hf hl (by omega) (by rw [ht, hdr]; rfl), ht]
  congr 1
  · unfold headF
    rw [show 1 + (formV load.length).length = (formV load.length).length + 1 by omega, List.drop_succ_cons]; simp
  · omega

/-- What bytes are opened as: the kind, the load, the fault. -/
def openF (L : List UInt8) : UInt8 × List UInt8 × Nat := if (frontF L).why ≠ 0 then (0, [], (frontF L).why) else if (frontF L).n < L.length then (0, [], 5) else ((frontF L).kind, (frontF L).load, 0)
theorem openF_seal (kind : UInt8) (load : List UInt8) (hl : load.length ≤ 1048576) : openF (sealF kind load) = (kind, load, 0) := by
  unfold openF; rw [frontF_seal kind load hl]; simp
theorem openF_bad {L : List UInt8} (h : (openF L).2.2 ≠ 0) : openF L = (0, [], (openF L).2.2) := by
  unfold openF at h ⊢
  split
  · rfl
  · split
    · rfl
    · rename_i h1 h2
      rw [if_neg h1, if_neg h2] at h
      exact absurd rfl h
theorem openF_ok {L : List UInt8} (h : (openF L).2.2 = 0) : ∃ kind load, L = sealF kind load := by
  unfold openF at h
  split at h
  · rename_i h1; exact absurd h h1
  · rename_i h1
    split at h
    · cases h
    · rename_i h2
      have h3 := frontF_sound (L := L) (by omega)
      exact ⟨_, _, by rw [← h3.1, List.take_of_length_le (by omega)]⟩
/-- Where bits of a frame are turned that stand within 32, it is not opened. -/
theorem openF_burst {kind : UInt8} {load m : List UInt8} {p t : Nat} (hlen : m.length = (sealF kind load).length) (ht : t < 4294967296) (h0 : t ≠ 0) (hp : p + 32 ≤ 8 * (sealF kind load).length)
    (hv : valN m = valN (sealF kind load) ^^^ (2 ^ p * t)) : (openF m).2.2 ≠ 0 := by
  intro h
  obtain ⟨k2, l2, rfl⟩ := openF_ok h
  have h1 := (tail_iff (headF kind load) _ (sumN_lt _)).2 rfl
  have h2 := (tail_iff (headF k2 l2) _ (sumN_lt _)).2 rfl
  have h3 := burst 4294967295 (sealF kind load) (sealF k2 l2) p t hlen ht hp hv
  have h6 := stepN_lt 4294967295 (by omega) (sealF kind load)
  have h7 := stepN_lt 4294967295 (by omega) (sealF k2 l2)
  refine h0 (h3.1 ?_)
  have e1 : sumN (sealF kind load) = sumN (sealF k2 l2) := by unfold sealF; rw [h1, h2]
  unfold sumN at e1
  omega
end Go.Proofs.Ytammicdgpdnihaa
