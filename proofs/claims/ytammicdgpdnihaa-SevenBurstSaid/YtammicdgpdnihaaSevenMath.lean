/- Plain facts on layer 6: bytes as numbers, seven bits a byte, packed and unpacked; bits turned within 32. -/
import Derived.Test.YtammicdgpdnihaaCrcMath
namespace Go.Proofs.Ytammicdgpdnihaa

/-- the m lowest digits of a number to the base 128, each with the high bit -/
def pk (V m : Nat) : List UInt8 := (List.range m).map fun i => UInt8.ofNat (V / 128 ^ i % 128 + 128)
/-- the n lowest bytes of a number -/
def bytesOf (V n : Nat) : List UInt8 := (List.range n).map fun i => UInt8.ofNat (V / 256 ^ i % 256)
/-- the m lowest bits of a number, as bytes -/
def bitsN (V m : Nat) : List UInt8 := (List.range m).map fun i => UInt8.ofNat (V / 2 ^ i % 2)
/-- packed bytes as a number, the high bits left out -/
def val7 : List UInt8 → Nat
  | [] => 0
  | c :: l => c.toNat % 128 + 128 * val7 l
def whole (l : List UInt8) : Bool := l.all fun c => 128 ≤ c.toNat
def packN (b : List UInt8) : List UInt8 := pk (valN b) ((8 * b.length + 6) / 7)

theorem pk_length (V m : Nat) : (pk V m).length = m := by simp [pk]
theorem bytesOf_length (V m : Nat) : (bytesOf V m).length = m := by simp [bytesOf]
theorem bitsN_length (V m : Nat) : (bitsN V m).length = m := by simp [bitsN]
theorem packN_length (b : List UInt8) : (packN b).length = (8 * b.length + 6) / 7 := pk_length _ _

theorem pk_succ (V m : Nat) : pk V (m + 1) = pk V m ++ [UInt8.ofNat (V / 128 ^ m % 128 + 128)] := by simp [pk, List.range_succ]
theorem bytesOf_succ (V m : Nat) : bytesOf V (m + 1) = bytesOf V m ++ [UInt8.ofNat (V / 256 ^ m % 256)] := by simp [bytesOf, List.range_succ]
theorem bitsN_succ (V m : Nat) : bitsN V (m + 1) = bitsN V m ++ [UInt8.ofNat (V / 2 ^ m % 2)] := by simp [bitsN, List.range_succ]

theorem pow128 (i : Nat) : 128 ^ i = 2 ^ (7 * i) := by rw [Nat.pow_mul]
theorem pow256 (i : Nat) : 256 ^ i = 2 ^ (8 * i) := by rw [Nat.pow_mul]

theorem valN_snoc (l : List UInt8) (c : UInt8) : valN (l ++ [c]) = valN l + c.toNat * 2 ^ (8 * l.length) := by
  induction l with
  | nil => simp [valN]
  | cons d l ih =>
    have e : 2 ^ (8 * (l.length + 1)) = 2 ^ (8 * l.length) * 256 := by rw [show 8 * (l.length + 1) = 8 * l.length + 8 from by omega, Nat.pow_add]
    simp only [List.cons_append, valN, ih, List.length_cons, e]
    rw [Nat.mul_add, ← Nat.mul_assoc c.toNat, Nat.mul_comm (c.toNat * 2 ^ (8 * l.length)) 256]
    omega
theorem val7_snoc (l : List UInt8) (c : UInt8) : val7 (l ++ [c]) = val7 l + c.toNat % 128 * 2 ^ (7 * l.length) := by
  induction l with
  | nil => simp [val7]
  | cons d l ih =>
    have e : 2 ^ (7 * (l.length + 1)) = 2 ^ (7 * l.length) * 128 := by rw [show 7 * (l.length + 1) = 7 * l.length + 7 from by omega, Nat.pow_add]
    simp only [List.cons_append, val7, ih, List.length_cons, e]
    rw [Nat.mul_add, ← Nat.mul_assoc (c.toNat % 128), Nat.mul_comm (c.toNat % 128 * 2 ^ (7 * l.length)) 128]
    omega
theorem val7_lt (l : List UInt8) : val7 l < 2 ^ (7 * l.length) := by
  induction l with
  | nil => simp [val7]
  | cons d l ih =>
    have e : 2 ^ (7 * (l.length + 1)) = 128 * 2 ^ (7 * l.length) := by rw [show 7 * (l.length + 1) = 7 * l.length + 7 from by omega, Nat.pow_add, Nat.mul_comm]
    simp only [val7, List.length_cons, e]
    omega

/-- digits below a power are not moved by what stands above it -/
theorem div_mod_low (V x k i j : Nat) (h : i + j ≤ k) : (V + x * 2 ^ k) / 2 ^ i % 2 ^ j = V / 2 ^ i % 2 ^ j := by
  have e : 2 ^ k = 2 ^ (k - i - j) * 2 ^ j * 2 ^ i := by rw [← Nat.pow_add, ← Nat.pow_add]; congr 1; omega
  rw [e, ← Nat.mul_assoc, Nat.add_mul_div_right _ _ (Nat.two_pow_pos i), ← Nat.mul_assoc, Nat.add_mul_mod_self_right]

theorem pk_low (V x k m : Nat) (h : 7 * m ≤ k) : pk (V + x * 2 ^ k) m = pk V m := by
  unfold pk
  refine List.map_congr_left fun i hi => ?_
  have hi' : i < m := List.mem_range.1 hi
  rw [pow128, show (128 : Nat) = 2 ^ 7 from rfl, div_mod_low V x k (7 * i) 7 (by omega)]
theorem bytesOf_low (V x k m : Nat) (h : 8 * m ≤ k) : bytesOf (V + x * 2 ^ k) m = bytesOf V m := by
  unfold bytesOf
  refine List.map_congr_left fun i hi => ?_
  have hi' : i < m := List.mem_range.1 hi
  rw [pow256, show (256 : Nat) = 2 ^ 8 from rfl, div_mod_low V x k (8 * i) 8 (by omega)]
theorem bitsN_low (V x k m : Nat) (h : m ≤ k) : bitsN (V + x * 2 ^ k) m = bitsN V m := by
  unfold bitsN
  refine List.map_congr_left fun i hi => ?_
  have hi' : i < m := List.mem_range.1 hi
  have := div_mod_low V x k i 1 (by omega)
  rw [show (2 : Nat) ^ 1 = 2 from rfl] at this
  rw [this]

theorem valN_bytesOf (l : List UInt8) : bytesOf (valN l) l.length = l := by
  have h : ∀ k, k ≤ l.length → bytesOf (valN l) k = l.take k := by
    intro k
    induction l generalizing k with
    | nil => intro hk; have : k = 0 := by simpa using hk
             subst this; rfl
    | cons c l ih =>
      intro hk
      cases k with
      | zero => rfl
      | succ k =>
        have h1 := ih k (by simpa using hk)
        unfold bytesOf at h1 ⊢
        rw [List.range_succ_eq_map, List.map_cons, List.map_map, List.take_succ_cons, ← h1]
        have hc := c.toNat_lt
        congr 1
        · simp only [valN, Nat.pow_zero, Nat.div_one]
          rw [show (c.toNat + 256 * valN l) % 256 = c.toNat from by omega]; simp
        · refine List.map_congr_left fun i _ => ?_
          simp only [Function.comp, valN, Nat.pow_succ]
          rw [Nat.mul_comm (256 ^ i) 256, ← Nat.div_div_eq_div_mul, show (c.toNat + 256 * valN l) / 256 = valN l from by omega]
  rw [h l.length (Nat.le_refl _), List.take_length]

theorem bytesOf_valN (n : Nat) : ∀ V, V < 256 ^ n → valN (bytesOf V n) = V := by
  induction n with
  | zero => intro V hV; have : V = 0 := by simpa using hV
            subst this; rfl
  | succ n ih =>
    intro V hV
    have h1 := ih (V / 256) (by rw [Nat.pow_succ] at hV; omega)
    unfold bytesOf at h1 ⊢
    rw [List.range_succ_eq_map, List.map_cons, List.map_map, valN]
    have e : (List.map ((fun i => UInt8.ofNat (V / 256 ^ i % 256)) ∘ Nat.succ) (List.range n)) = List.map (fun i => UInt8.ofNat (V / 256 / 256 ^ i % 256)) (List.range n) := by
      refine List.map_congr_left fun i _ => ?_
      simp only [Function.comp, Nat.succ_eq_add_one, Nat.pow_succ]
      rw [Nat.mul_comm (256 ^ i) 256, Nat.div_div_eq_div_mul]
    rw [e, h1]
    simp; omega

theorem pk_val7 (l : List UInt8) (hw : whole l = true) : pk (val7 l) l.length = l := by
  have h : ∀ k, k ≤ l.length → pk (val7 l) k = l.take k := by
    intro k
    induction l generalizing k with
    | nil => intro hk; have : k = 0 := by simpa using hk
             subst this; rfl
    | cons c l ih =>
      intro hk
      simp only [whole, List.all_cons, Bool.and_eq_true, decide_eq_true_eq] at hw
      cases k with
      | zero => rfl
      | succ k =>
        have h1 := ih (by simpa [whole] using hw.2) k (by simpa using hk)
        unfold pk at h1 ⊢
        rw [List.range_succ_eq_map, List.map_cons, List.map_map, List.take_succ_cons, ← h1]
        have hc := c.toNat_lt
        congr 1
        · simp only [val7, Nat.pow_zero, Nat.div_one]
          rw [show (c.toNat % 128 + 128 * val7 l) % 128 + 128 = c.toNat from by omega]; simp
        · refine List.map_congr_left fun i _ => ?_
          simp only [Function.comp, val7, Nat.pow_succ]
          rw [Nat.mul_comm (128 ^ i) 128, ← Nat.div_div_eq_div_mul, show (c.toNat % 128 + 128 * val7 l) / 128 = val7 l from by omega]
  rw [h l.length (Nat.le_refl _), List.take_length]

theorem val7_pk (n : Nat) : ∀ V, V < 128 ^ n → val7 (pk V n) = V := by
  induction n with
  | zero => intro V hV; have : V = 0 := by simpa using hV
            subst this; rfl
  | succ n ih =>
    intro V hV
    have h1 := ih (V / 128) (by rw [Nat.pow_succ] at hV; omega)
    unfold pk at h1 ⊢
    rw [List.range_succ_eq_map, List.map_cons, List.map_map, val7]
    have e : (List.map ((fun i => UInt8.ofNat (V / 128 ^ i % 128 + 128)) ∘ Nat.succ) (List.range n)) = List.map (fun i => UInt8.ofNat (V / 128 / 128 ^ i % 128 + 128)) (List.range n) := by
      refine List.map_congr_left fun i _ => ?_
      simp only [Function.comp, Nat.succ_eq_add_one, Nat.pow_succ]
      rw [Nat.mul_comm (128 ^ i) 128, Nat.div_div_eq_div_mul]
    rw [e, h1]
    simp; omega

theorem whole_pk (V m : Nat) : whole (pk V m) = true := by
  unfold whole pk
  simp only [List.all_map, List.all_eq_true, Function.comp, decide_eq_true_eq]
  intro i _
  simp; omega

/-- the bytes that packed bytes are, if they are -/
def unpackN (l : List UInt8) : Option (List UInt8) :=
  if whole l = true ∧ (8 * (l.length * 7 / 8) + 6) / 7 = l.length ∧ val7 l / 2 ^ (8 * (l.length * 7 / 8)) = 0 then some (bytesOf (val7 l) (l.length * 7 / 8)) else none

theorem unpack_packN (b : List UInt8) : unpackN (packN b) = some b := by
  have hl := packN_length b
  have hv := valN_lt b
  have hn : (8 * b.length + 6) / 7 * 7 / 8 = b.length := by omega
  have h7 : val7 (packN b) = valN b := by
    unfold packN
    refine val7_pk _ _ (Nat.lt_of_lt_of_le hv ?_)
    rw [pow128]
    exact Nat.pow_le_pow_right (by omega) (by omega)
  unfold unpackN
  rw [hl, hn, h7, if_pos ⟨whole_pk _ _, rfl, Nat.div_eq_of_lt hv⟩, valN_bytesOf]

theorem pack_unpackN (l x : List UInt8) (h : unpackN l = some x) : packN x = l := by
  unfold unpackN at h
  split at h
  · rename_i hc
    obtain ⟨hw, hlen, hz⟩ := hc
    cases h
    have hlt : val7 l < 256 ^ (l.length * 7 / 8) := by
      rw [pow256]
      have := (Nat.div_eq_zero_iff).1 hz
      rcases this with h | h
      · have := Nat.two_pow_pos (8 * (l.length * 7 / 8)); omega
      · exact h
    unfold packN
    rw [bytesOf_valN _ _ hlt, bytesOf_length, hlen, pk_val7 l hw]
  · cases h

theorem unpackN_length (l x : List UInt8) (h : unpackN l = some x) : x.length = l.length * 7 / 8 := by
  unfold unpackN at h
  split at h
  · cases h; exact bytesOf_length _ _
  · cases h

theorem valN_div (l : List UInt8) : ∀ k, valN l / 2 ^ (8 * k) = valN (l.drop k) := by
  induction l with
  | nil => intro k; simp [valN]
  | cons c l ih =>
    intro k
    cases k with
    | zero => simp
    | succ k =>
      have hc := c.toNat_lt
      rw [List.drop_succ_cons, ← ih k, show 8 * (k + 1) = 8 + 8 * k from by omega, Nat.pow_add, ← Nat.div_div_eq_div_mul]
      congr 1
      simp only [valN]; omega
theorem val7_div (l : List UInt8) : ∀ k, val7 l / 2 ^ (7 * k) = val7 (l.drop k) := by
  induction l with
  | nil => intro k; simp [val7]
  | cons c l ih =>
    intro k
    cases k with
    | zero => simp
    | succ k =>
      rw [List.drop_succ_cons, ← ih k, show 7 * (k + 1) = 7 + 7 * k from by omega, Nat.pow_add, ← Nat.div_div_eq_div_mul]
      congr 1
      simp only [val7]; omega
theorem drop_cons_getD (l : List UInt8) (k : Nat) (h : k < l.length) : l.drop k = l.getD k 0 :: l.drop (k + 1) := by
  rw [List.drop_eq_getElem_cons h]; simp [List.getD, h]
/-- a bit of bytes as a number -/
theorem valN_bit (l : List UInt8) (k j : Nat) (h : k < l.length) (hj : j < 8) : valN l / 2 ^ (8 * k + j) % 2 = (l.getD k 0).toNat / 2 ^ j % 2 := by
  rw [Nat.pow_add, ← Nat.div_div_eq_div_mul, valN_div, drop_cons_getD l k h]
  have := div_mod_low (l.getD k 0).toNat (valN (l.drop (k + 1))) 8 j 1 (by omega)
  rw [show (2 : Nat) ^ 1 = 2 from rfl] at this
  rw [← this]; congr 2; simp only [valN]; omega
theorem val7_bit (l : List UInt8) (k j : Nat) (h : k < l.length) (hj : j < 7) : val7 l / 2 ^ (7 * k + j) % 2 = (l.getD k 0).toNat % 128 / 2 ^ j % 2 := by
  rw [Nat.pow_add, ← Nat.div_div_eq_div_mul, val7_div, drop_cons_getD l k h]
  have := div_mod_low ((l.getD k 0).toNat % 128) (val7 (l.drop (k + 1))) 7 j 1 (by omega)
  rw [show (2 : Nat) ^ 1 = 2 from rfl] at this
  rw [← this]; congr 2; simp only [val7]; omega
theorem bitsN_getD (V m k : Nat) (h : k < m) : ((bitsN V m).getD k 0).toNat = V / 2 ^ k % 2 := by
  simp [bitsN, List.getD, h]; omega
theorem mod_pow_succ (X j : Nat) : X % 2 ^ (j + 1) = X % 2 ^ j + 2 ^ j * (X / 2 ^ j % 2) := by
  rw [Nat.pow_succ]; exact Nat.mod_mul
theorem div_lt_pow (V a b : Nat) (h : V < 2 ^ a) (hb : b ≤ a) : V / 2 ^ b < 2 ^ (a - b) := by
  rw [Nat.div_lt_iff_lt_mul (Nat.two_pow_pos b), ← Nat.pow_add, show a - b + b = a from by omega]; exact h
theorem add_div_pow (V d a b : Nat) (hb : b ≤ a) : (V + d * 2 ^ a) / 2 ^ b = V / 2 ^ b + d * 2 ^ (a - b) := by
  have e : 2 ^ a = 2 ^ (a - b) * 2 ^ b := by rw [← Nat.pow_add, show a - b + b = a from by omega]
  rw [e, ← Nat.mul_assoc, Nat.add_mul_div_right _ _ (Nat.two_pow_pos b)]
theorem take_snoc8 (l : List UInt8) (k : Nat) (h : k < l.length) : l.take (k + 1) = l.take k ++ [l.getD k 0] := by
  rw [List.take_succ_eq_append_getElem h]; simp [List.getD, h]
/-- unpacking goes on by a packed byte -/
theorem unpack_step (l : List UInt8) (j m K R S : Nat) (hj : j < l.length) (hK : 8 * m + K = 7 * j) (hR : R = val7 (l.take j) / 2 ^ (8 * m)) (hS : S = R + (l.getD j 0).toNat % 128 * 2 ^ K) :
    S = val7 (l.take (j + 1)) / 2 ^ (8 * m) ∧ R < 2 ^ K ∧ bytesOf (val7 (l.take (j + 1))) m = bytesOf (val7 (l.take j)) m ∧
      bytesOf (val7 (l.take (j + 1))) (m + 1) = bytesOf (val7 (l.take j)) m ++ [UInt8.ofNat (S % 256)] ∧ S / 256 = val7 (l.take (j + 1)) / 2 ^ (8 * (m + 1)) ∧
      (8 * (m + 1) ≤ 7 * (j + 1) → S / 256 < 2 ^ (7 * (j + 1) - 8 * (m + 1))) ∧ S < 2 ^ (K + 7) := by
  have hlen : (l.take j).length = j := by simp; omega
  have hlen1 : (l.take (j + 1)).length = j + 1 := by simp; omega
  have hv := val7_snoc (l.take j) (l.getD j 0)
  rw [← take_snoc8 l j hj, hlen] at hv
  have h1 : S = val7 (l.take (j + 1)) / 2 ^ (8 * m) := by
    rw [hv, add_div_pow _ _ _ _ (by omega), show 7 * j - 8 * m = K from by omega, hS, hR]
  have hlo : bytesOf (val7 (l.take (j + 1))) m = bytesOf (val7 (l.take j)) m := by rw [hv]; exact bytesOf_low _ _ _ _ (by omega)
  have hlt := val7_lt (l.take (j + 1))
  rw [hlen1] at hlt
  have h5 : S / 256 = val7 (l.take (j + 1)) / 2 ^ (8 * (m + 1)) := by
    rw [h1, Nat.div_div_eq_div_mul, show (256 : Nat) = 2 ^ 8 from rfl, ← Nat.pow_add, Nat.mul_succ]
  refine ⟨h1, ?_, hlo, ?_, h5, ?_, ?_⟩
  · have := val7_lt (l.take j)
    rw [hlen] at this
    rw [hR, show K = 7 * j - 8 * m from by omega]
    exact div_lt_pow _ _ _ this (by omega)
  · rw [bytesOf_succ, hlo, pow256, h1]
  · intro h
    rw [h5]
    exact div_lt_pow _ _ _ hlt h
  · rw [h1, show K + 7 = 7 * (j + 1) - 8 * m from by omega]
    exact div_lt_pow _ _ _ hlt (by omega)
/-- two numbers whose bits do not meet -/
theorem or_join (R d K : Nat) (h : R < 2 ^ K) : R ||| d * 2 ^ K = R + d * 2 ^ K := by
  rw [Nat.or_comm, Nat.mul_comm d, ← Nat.two_pow_add_eq_or_of_lt h]; omega
/-- packing goes on by a byte -/
theorem pack_step (bl : List UInt8) (c : UInt8) (m K R S : Nat) (hK : 7 * m + K = 8 * bl.length) (hR : R = valN bl / 2 ^ (7 * m)) (hS : S = R + c.toNat * 2 ^ K) :
    S = valN (bl ++ [c]) / 2 ^ (7 * m) ∧ R < 2 ^ K ∧ pk (valN (bl ++ [c])) m = pk (valN bl) m ∧ S < 2 ^ (K + 8) := by
  have hv := valN_snoc bl c
  have h1 : S = valN (bl ++ [c]) / 2 ^ (7 * m) := by
    rw [hv, add_div_pow _ _ _ _ (by omega), show 8 * bl.length - 7 * m = K from by omega, hS, hR]
  refine ⟨h1, ?_, by rw [hv]; exact pk_low _ _ _ _ (by omega), ?_⟩
  · rw [hR, show K = 8 * bl.length - 7 * m from by omega]
    exact div_lt_pow _ _ _ (valN_lt bl) (by omega)
  · have hlt := valN_lt (bl ++ [c])
    simp only [List.length_append, List.length_cons, List.length_nil] at hlt
    rw [h1, show K + 8 = 8 * (bl.length + (0 + 1)) - 7 * m from by omega]
    exact div_lt_pow _ _ _ hlt (by omega)
/-- a digit is put out -/
theorem pack_out (V m S : Nat) (hS : S = V / 2 ^ (7 * m)) : pk V (m + 1) = pk V m ++ [UInt8.ofNat (S % 128 + 128)] ∧ S / 128 = V / 2 ^ (7 * (m + 1)) := by
  refine ⟨by rw [pk_succ, pow128, hS], ?_⟩
  rw [hS, Nat.div_div_eq_div_mul, show (128 : Nat) = 2 ^ 7 from rfl, ← Nat.pow_add, Nat.mul_succ]
theorem pack_end (V m K R N : Nat) (hK : 7 * m + K = 8 * N) (hK7 : K < 7) (hR : R = V / 2 ^ (7 * m)) (hRK : R < 2 ^ K) :
    (K = 0 → pk V ((8 * N + 6) / 7) = pk V m) ∧ (0 < K → pk V ((8 * N + 6) / 7) = pk V m ++ [UInt8.ofNat (R + 128)]) := by
  constructor
  · intro h; congr 1; omega
  · intro h
    have h2 : 2 ^ K ≤ 2 ^ 7 := Nat.pow_le_pow_right (by omega) (by omega)
    rw [show (8 * N + 6) / 7 = m + 1 from by omega, (pack_out V m R hR).1, Nat.mod_eq_of_lt (by omega)]
end Go.Proofs.Ytammicdgpdnihaa
