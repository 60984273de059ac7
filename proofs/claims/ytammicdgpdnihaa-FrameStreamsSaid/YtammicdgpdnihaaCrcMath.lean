/- Plain facts on the sum of layer 3: the register behind bits, bytes and tails; a burst of at most 32 bits changes it. -/
namespace Go.Proofs.Ytammicdgpdnihaa
theorem xor_div2 (x y : Nat) : (x ^^^ y) / 2 = x / 2 ^^^ y / 2 := by
  have := Nat.shiftRight_xor_distrib (a := x) (b := y) (i := 1)
  simpa [Nat.shiftRight_eq_div_pow] using this
theorem xor_mod2 (x y : Nat) : (x ^^^ y) % 2 = (x + y) % 2 := by
  have h := @Nat.xor_mod_two_eq_one x y
  have h1 := Nat.mod_two_eq_zero_or_one x
  have h2 := Nat.mod_two_eq_zero_or_one y
  have h3 := Nat.mod_two_eq_zero_or_one (x ^^^ y)
  rcases h1 with h1 | h1 <;> rcases h2 with h2 | h2 <;> rcases h3 with h3 | h3 <;> simp [h1, h2, h3, Nat.add_mod] at h ⊢
def poly : Nat := 3988292384
def bstep (r : Nat) : Nat := if r % 2 = 1 then (r / 2) ^^^ poly else r / 2
theorem bstep_lt (r : Nat) (h : r < 4294967296) : bstep r < 4294967296 := by
  unfold bstep
  split
  · exact Nat.xor_lt_two_pow (n := 32) (by omega) (by decide)
  · omega
theorem bstep_xor (x y : Nat) : bstep (x ^^^ y) = bstep x ^^^ bstep y := by
  unfold bstep
  rw [xor_mod2, xor_div2]
  rcases Nat.mod_two_eq_zero_or_one x with h1 | h1 <;> rcases Nat.mod_two_eq_zero_or_one y with h2 | h2
  · rw [if_neg (by omega), if_neg (by omega), if_neg (by omega)]
  · rw [if_pos (by omega), if_neg (by omega), if_pos (by omega), Nat.xor_assoc]
  · rw [if_pos (by omega), if_pos (by omega), if_neg (by omega), Nat.xor_assoc, Nat.xor_assoc, Nat.xor_comm poly]
  · rw [if_neg (by omega), if_pos (by omega), if_pos (by omega)]
    rw [Nat.xor_assoc, Nat.xor_comm (y/2) poly, ← Nat.xor_assoc poly, Nat.xor_self, Nat.zero_xor]
def bsteps : Nat → Nat → Nat
  | 0, r => r
  | n + 1, r => bsteps n (bstep r)
theorem bsteps_add (m n r : Nat) : bsteps (m + n) r = bsteps n (bsteps m r) := by
  induction m generalizing r with
  | zero => simp [bsteps]
  | succ m ih => rw [Nat.succ_add]; simp [bsteps, ih]
theorem bsteps_xor (n x y : Nat) : bsteps n (x ^^^ y) = bsteps n x ^^^ bsteps n y := by
  induction n generalizing x y with
  | zero => rfl
  | succ n ih => simp [bsteps, bstep_xor, ih]
theorem bsteps_lt (n r : Nat) (h : r < 4294967296) : bsteps n r < 4294967296 := by
  induction n generalizing r with
  | zero => exact h
  | succ n ih => exact ih _ (bstep_lt r h)
theorem bsteps_shift (n h : Nat) : bsteps n (2 ^ n * h) = h := by
  induction n with
  | zero => simp [bsteps]
  | succ n ih =>
    have : bstep (2 ^ (n + 1) * h) = 2 ^ n * h := by
      have e : 2 ^ (n + 1) * h = 2 * (2 ^ n * h) := by rw [Nat.pow_succ, Nat.mul_comm (2 ^ n) 2, Nat.mul_assoc]
      rw [e]; unfold bstep; rw [if_neg (by omega)]; omega
    simp [bsteps, this, ih]
/-- joining apart bits -/
theorem xor_join (n h l : Nat) (hl : l < 2 ^ n) : (2 ^ n * h) ^^^ l = 2 ^ n * h + l := by
  induction n generalizing h l with
  | zero => have : l = 0 := by simpa using hl
            subst this; simp
  | succ n ih =>
    have e : 2 ^ (n + 1) * h = 2 * (2 ^ n * h) := by rw [Nat.pow_succ, Nat.mul_comm (2 ^ n) 2, Nat.mul_assoc]
    have h1 := xor_div2 (2 ^ (n + 1) * h) l
    have h2 := xor_mod2 (2 ^ (n + 1) * h) l
    have h3 := ih h (l / 2) (by rw [Nat.pow_succ] at hl; omega)
    rw [e] at h1 h2 ⊢
    rw [show 2 * (2 ^ n * h) / 2 = 2 ^ n * h from by omega, h3] at h1
    omega
def halfRows : List Nat := [0, 498536548, 997073096, 651767980, 1994146192, 1802195444, 1303535960, 1342533948, 3988292384, 4027552580, 3604390888, 3412177804, 2607071920, 2262029012, 2685067896, 3183342108]
def halfN (r : Nat) : Nat := (r / 16) ^^^ (halfRows.getD (r % 16) 0)
theorem halfN_eq (r : Nat) : halfN r = bsteps 4 r := by
  have h1 : ∀ l, l < 16 → halfRows.getD l 0 = bsteps 4 l := by decide
  have h2 : r = (2 ^ 4 * (r / 16)) ^^^ (r % 16) := by
    rw [xor_join 4 _ _ (by omega)]; omega
  have h3 := bsteps_xor 4 (2 ^ 4 * (r / 16)) (r % 16)
  rw [← h2, bsteps_shift, ← h1 _ (Nat.mod_lt _ (by omega))] at h3
  rw [h3]; rfl
/-- a register behind a byte, behind bytes -/
def byteN (r : Nat) (c : UInt8) : Nat := halfN (halfN (r ^^^ c.toNat))
def stepN (r : Nat) (l : List UInt8) : Nat := l.foldl byteN r
theorem stepN_snoc (r : Nat) (l : List UInt8) (c : UInt8) : stepN r (l ++ [c]) = byteN (stepN r l) c := by simp [stepN]
theorem stepN_append (r : Nat) (l m : List UInt8) : stepN r (l ++ m) = stepN (stepN r l) m := by simp [stepN]
theorem byteN_eq (r : Nat) (c : UInt8) : byteN r c = bsteps 8 (r ^^^ c.toNat) := by
  unfold byteN; rw [halfN_eq, halfN_eq, ← bsteps_add]
theorem xor_byte_lt (r : Nat) (hr : r < 4294967296) (c : UInt8) : r ^^^ c.toNat < 4294967296 :=
  Nat.xor_lt_two_pow (n := 32) hr (by have := c.toNat_lt; omega)
theorem halfN_lt (r : Nat) (hr : r < 4294967296) : halfN r < 4294967296 := by rw [halfN_eq]; exact bsteps_lt _ _ hr
theorem byteN_lt (r : Nat) (hr : r < 4294967296) (c : UInt8) : byteN r c < 4294967296 := by
  rw [byteN_eq]; exact bsteps_lt _ _ (xor_byte_lt r hr c)
theorem stepN_lt (r : Nat) (hr : r < 4294967296) (l : List UInt8) : stepN r l < 4294967296 := by
  induction l generalizing r with
  | nil => exact hr
  | cons c l ih => exact ih _ (byteN_lt r hr c)
/-- the reference's round: one bit of the byte against the register's lowest -/
def refBit (r c : Nat) : Nat := if c % 2 = r % 2 then r / 2 else (r / 2) ^^^ poly
theorem refBit_eq (r c : Nat) : refBit r c ^^^ (c / 2) = bstep (r ^^^ c) := by
  unfold refBit bstep
  rw [xor_mod2, xor_div2]
  split
  · rw [if_neg (by omega)]
  · rw [if_pos (by omega), Nat.xor_assoc, Nat.xor_comm poly, ← Nat.xor_assoc]
theorem refBit_lt (r c : Nat) (h : r < 4294967296) : refBit r c < 4294967296 := by
  unfold refBit
  split
  · omega
  · exact Nat.xor_lt_two_pow (n := 32) (by omega) (by decide)
/-- the register after k of the reference's rounds at byte c -/
def refBits (r c : Nat) : Nat → Nat
  | 0 => r
  | k + 1 => refBit (refBits r c k) (c / 2 ^ k)
theorem refBits_eq (r c k : Nat) : refBits r c k ^^^ (c / 2 ^ k) = bsteps k (r ^^^ c) := by
  induction k with
  | zero => simp [refBits, bsteps]
  | succ k ih =>
    have h := refBit_eq (refBits r c k) (c / 2 ^ k)
    rw [ih] at h
    rw [bsteps_add k 1]
    show refBit _ _ ^^^ c / 2 ^ (k + 1) = bstep _
    rw [← h, Nat.pow_succ, Nat.div_div_eq_div_mul]
theorem refBits_lt (r c k : Nat) (h : r < 4294967296) : refBits r c k < 4294967296 := by
  induction k with
  | zero => exact h
  | succ k ih => exact refBit_lt _ _ ih
theorem refBits_8 (r : Nat) (c : UInt8) : refBits r c.toNat 8 = byteN r c := by
  have h := refBits_eq r c.toNat 8
  have h1 : c.toNat / 2 ^ 8 = 0 := by have := c.toNat_lt; omega
  rw [h1, Nat.xor_zero] at h
  rw [byteN_eq, h]
/-- bytes as a number, the first one lowest -/
def valN : List UInt8 → Nat
  | [] => 0
  | c :: l => c.toNat + 256 * valN l
theorem stepN_val (l : List UInt8) : ∀ r, stepN r l = bsteps (8 * l.length) (r ^^^ valN l) := by
  induction l with
  | nil => intro r; simp [stepN, valN, bsteps]
  | cons c l ih =>
    intro r
    have h1 : valN (c :: l) = c.toNat ^^^ (2 ^ 8 * valN l) := by
      rw [Nat.xor_comm, xor_join 8 _ _ (by have := c.toNat_lt; omega)]; simp [valN]; omega
    rw [h1, ← Nat.xor_assoc, List.length_cons, show 8 * (l.length + 1) = 8 + 8 * l.length from by omega, bsteps_add, bsteps_xor, bsteps_shift, ← byteN_eq]
    exact ih _
theorem bstep_zero (x : Nat) (hx : x < 4294967296) (h : bstep x = 0) : x = 0 := by
  unfold bstep at h
  split at h
  · have h2 : (x / 2 ^^^ poly) ^^^ poly = 0 ^^^ poly := by rw [h]
    rw [Nat.xor_assoc, Nat.xor_self, Nat.xor_zero, Nat.zero_xor] at h2
    unfold poly at h2; omega
  · omega
theorem bsteps_zero (n x : Nat) (hx : x < 4294967296) (h : bsteps n x = 0) : x = 0 := by
  induction n generalizing x with
  | zero => exact h
  | succ n ih => exact bstep_zero x hx (ih _ (bstep_lt x hx) h)
theorem bsteps_0 (n : Nat) : bsteps n 0 = 0 := by
  induction n with
  | zero => rfl
  | succ n ih => exact ih
theorem xor_eq_zero {x y : Nat} (h : x ^^^ y = 0) : x = y := by
  have h2 : (x ^^^ y) ^^^ y = 0 ^^^ y := by rw [h]
  rwa [Nat.xor_assoc, Nat.xor_self, Nat.xor_zero, Nat.zero_xor] at h2
theorem bsteps_inj (n x y : Nat) (hx : x < 4294967296) (hy : y < 4294967296) (h : bsteps n x = bsteps n y) : x = y := by
  have h1 := bsteps_xor n x y
  rw [h, Nat.xor_self] at h1
  exact xor_eq_zero (bsteps_zero n _ (Nat.xor_lt_two_pow (n := 32) hx hy) h1)
/-- THE BURST: bytes that part from others by a pattern of 32 bits, not empty, have another register -/
theorem burst (r : Nat) (l m : List UInt8) (p t : Nat) (hlen : m.length = l.length) (ht : t < 4294967296) (hp : p + 32 ≤ 8 * l.length)
    (hv : valN m = valN l ^^^ (2 ^ p * t)) : stepN r m = stepN r l ↔ t = 0 := by
  rw [stepN_val, stepN_val, hlen, hv, ← Nat.xor_assoc, bsteps_xor _ (r ^^^ valN l)]
  have h1 : bsteps (8 * l.length) (2 ^ p * t) = bsteps (8 * l.length - p) t := by
    rw [show 8 * l.length = p + (8 * l.length - p) from by omega, bsteps_add, bsteps_shift]
    congr 1; omega
  rw [h1]
  constructor
  · intro h
    have h2 : bsteps (8 * l.length) (r ^^^ valN l) ^^^ (bsteps (8 * l.length) (r ^^^ valN l) ^^^ bsteps (8 * l.length - p) t) = 0 := by rw [h, Nat.xor_self]
    rw [← Nat.xor_assoc, Nat.xor_self, Nat.zero_xor] at h2
    exact bsteps_zero _ _ ht h2
  · rintro rfl; rw [bsteps_0, Nat.xor_zero]
theorem valN_lt (l : List UInt8) : valN l < 2 ^ (8 * l.length) := by
  induction l with
  | nil => simp [valN]
  | cons c l ih =>
    have := c.toNat_lt
    simp only [valN, List.length_cons]
    rw [show 8 * (l.length + 1) = 8 * l.length + 8 from by omega, Nat.pow_add]
    omega
theorem mul_pow_xor (n x y : Nat) : 2 ^ n * (x ^^^ y) = (2 ^ n * x) ^^^ (2 ^ n * y) := by
  rw [Nat.mul_comm, Nat.mul_comm _ x, Nat.mul_comm _ y, ← Nat.shiftLeft_eq, ← Nat.shiftLeft_eq, ← Nat.shiftLeft_eq, Nat.shiftLeft_xor_distrib]
/-- a bit turned -/
theorem valN_set (l : List UInt8) : ∀ (j k : Nat), j < l.length → k < 8 → ∀ (d : UInt8), d.toNat = (l.getD j 0).toNat ^^^ 2 ^ k → valN (l.set j d) = valN l ^^^ 2 ^ (8 * j + k) := by
  induction l with
  | nil => intro j k hj; simp at hj
  | cons c l ih =>
    intro j k hj hk d hd
    have hc := c.toNat_lt
    have hsp : ∀ a b : Nat, a < 256 → a + 256 * b = (2 ^ 8 * b) ^^^ a := fun a b ha => by rw [xor_join 8 _ _ (by omega)]; omega
    cases j with
    | zero =>
      simp only [List.set_cons_zero, valN, Nat.mul_zero, Nat.zero_add]
      have hd' : d.toNat = c.toNat ^^^ 2 ^ k := by simpa using hd
      rw [hsp _ _ d.toNat_lt, hsp _ _ hc, hd', Nat.xor_assoc]
    | succ j =>
      simp only [List.set_cons_succ, valN]
      rw [ih j k (by simpa using hj) hk d (by simpa using hd), hsp _ _ hc, hsp _ _ hc]
      have e : 2 ^ 8 * (valN l ^^^ 2 ^ (8 * j + k)) = (2 ^ 8 * valN l) ^^^ 2 ^ (8 * (j + 1) + k) := by
        rw [show 8 * (j + 1) + k = 8 + (8 * j + k) from by omega, Nat.pow_add 2 8]
        rw [mul_pow_xor]
      rw [e, Nat.xor_assoc, Nat.xor_assoc, Nat.xor_comm (2 ^ (8 * (j + 1) + k))]
/-- a number's four bytes, the lowest one first -/
def le4 (s : Nat) : List UInt8 := [UInt8.ofNat (s % 256), UInt8.ofNat (s / 256 % 256), UInt8.ofNat (s / 65536 % 256), UInt8.ofNat (s / 16777216 % 256)]
theorem valN_le4 (s : Nat) (hs : s < 4294967296) : valN (le4 s) = s := by
  simp [valN, le4]; omega
theorem stepN_le4 (r s : Nat) (hs : s < 4294967296) : stepN r (le4 s) = bsteps 32 (r ^^^ s) := by
  rw [stepN_val, valN_le4 s hs]; rfl
def sumN (l : List UInt8) : Nat := 4294967295 - stepN 4294967295 l
theorem sumN_lt (l : List UInt8) : sumN l < 4294967296 := by unfold sumN; omega
theorem compl_xor (x : Nat) (h : x < 4294967296) : 4294967295 - x = x ^^^ 4294967295 := by
  have h1 : ∀ n x : Nat, x < 2 ^ n → (2 ^ n - 1) - x = x ^^^ (2 ^ n - 1) := by
    intro n
    induction n with
    | zero => intro x hx; have : x = 0 := by simpa using hx
              subst this; rfl
    | succ n ih =>
      intro x hx
      have h0 : 0 < 2 ^ n := Nat.two_pow_pos n
      have a := ih (x / 2) (by rw [Nat.pow_succ] at hx; omega)
      have b := xor_div2 x (2 ^ (n + 1) - 1)
      have c := xor_mod2 x (2 ^ (n + 1) - 1)
      rw [Nat.pow_succ] at *
      rw [show (2 ^ n * 2 - 1) / 2 = 2 ^ n - 1 from by omega] at b
      omega
  exact h1 32 x h
theorem tail_core (q s : Nat) (hq : q < 4294967296) (hs : s < 4294967296) : 4294967295 - bsteps 32 (q ^^^ s) = 558161692 ↔ s = 4294967295 - q := by
  have hb := bsteps_lt 32 (q ^^^ s) (Nat.xor_lt_two_pow (n := 32) hq hs)
  have hc : bsteps 32 4294967295 = 4294967295 - 558161692 := by decide
  have h3 := compl_xor _ hq
  constructor
  · intro h
    have h1 : bsteps 32 (q ^^^ s) = bsteps 32 4294967295 := by rw [hc]; omega
    have h2 := bsteps_inj 32 _ _ (Nat.xor_lt_two_pow (n := 32) hq hs) (by omega) h1
    rw [h3, ← h2, ← Nat.xor_assoc, Nat.xor_self, Nat.zero_xor]
  · rintro rfl
    rw [h3, ← Nat.xor_assoc, Nat.xor_self, Nat.zero_xor, hc]
/-- THE TAIL: bytes with a sum behind them -/
theorem tail_iff (l : List UInt8) (s : Nat) (hs : s < 4294967296) : sumN (l ++ le4 s) = 558161692 ↔ s = sumN l := by
  unfold sumN
  rw [stepN_append, stepN_le4 _ _ hs]
  exact tail_core _ _ (stepN_lt 4294967295 (by omega) l) hs
end Go.Proofs.Ytammicdgpdnihaa
