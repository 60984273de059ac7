/- Plain definitions and facts on layer 4: turned words, a block's words, a step, a block, what fills, the hash. -/
namespace Go.Proofs.Ytegeglnfpddgfaa

/-- A word, turned. -/
def rotN (v n : Nat) : Nat := v / 2 ^ n + v % 2 ^ n * 2 ^ (32 - n)
theorem pow_split (n : Nat) (h : n ≤ 32) : 2 ^ n * 2 ^ (32 - n) = 4294967296 := by
  rw [← Nat.pow_add, show n + (32 - n) = 32 by omega]
theorem div_pow_lt {v n : Nat} (hv : v < 4294967296) (hn : n ≤ 32) : v / 2 ^ n < 2 ^ (32 - n) := by
  rw [Nat.div_lt_iff_lt_mul (Nat.pow_pos (by decide)), Nat.mul_comm, pow_split n hn]; exact hv
theorem rotN_lt {v n : Nat} (hv : v < 4294967296) (hn : n ≤ 32) : rotN v n < 4294967296 := by
  have h1 := div_pow_lt hv hn
  have h2 : v % 2 ^ n + 1 ≤ 2 ^ n := Nat.mod_lt _ (Nat.pow_pos (by decide))
  have h3 : (v % 2 ^ n + 1) * 2 ^ (32 - n) ≤ 2 ^ n * 2 ^ (32 - n) := Nat.mul_le_mul_right _ h2
  rw [pow_split n hn, Nat.add_mul, Nat.one_mul] at h3
  unfold rotN; omega
theorem rotN_or {v n : Nat} (hv : v < 4294967296) (hn : n ≤ 32) : v / 2 ^ n ||| v * 2 ^ (32 - n) % 4294967296 = rotN v n := by
  have h1 : v * 2 ^ (32 - n) % 4294967296 = v % 2 ^ n * 2 ^ (32 - n) := by
    rw [← pow_split n hn, Nat.mul_mod_mul_right]
  rw [h1, Nat.mul_comm _ (2 ^ (32 - n)), Nat.or_comm, ← Nat.two_pow_add_eq_or_of_lt (div_pow_lt hv hn)]
  unfold rotN
  rw [Nat.mul_comm (2 ^ (32 - n))]; omega
def rot1 (x : Nat) : Nat := x / 2 + x % 2 * 2147483648
theorem rotN_zero (v : Nat) : rotN v 0 = v := by
  unfold rotN
  rw [Nat.pow_zero, Nat.div_one, Nat.mod_one]; omega
theorem rotN_succ (v n : Nat) (hn : n < 32) : rot1 (rotN v n) = rotN v (n + 1) := by
  unfold rot1 rotN
  have e1 : 2 ^ (32 - n) = 2 * 2 ^ (31 - n) := by rw [show 32 - n = (31 - n) + 1 by omega, Nat.pow_succ, Nat.mul_comm]
  have e2 : v / 2 ^ (n + 1) = v / 2 ^ n / 2 := by rw [Nat.pow_succ, Nat.div_div_eq_div_mul]
  have e3 : v % 2 ^ (n + 1) = v % 2 ^ n + 2 ^ n * (v / 2 ^ n % 2) := by rw [Nat.pow_succ, Nat.mod_mul]
  have e4 : 2 ^ n * 2 ^ (31 - n) = 2147483648 := by rw [← Nat.pow_add, show n + (31 - n) = 31 by omega]
  rw [e1, e2, e3, show 32 - (n + 1) = 31 - n by omega]
  generalize v / 2 ^ n = q at *
  generalize v % 2 ^ n = r at *
  have e5 : r * (2 * 2 ^ (31 - n)) = 2 * (r * 2 ^ (31 - n)) := by rw [Nat.mul_left_comm]
  have e6 : (r + 2 ^ n * (q % 2)) * 2 ^ (31 - n) = r * 2 ^ (31 - n) + q % 2 * 2147483648 := by
    rw [Nat.add_mul, ← e4]; congr 1
    rw [Nat.mul_comm (2 ^ n), Nat.mul_assoc]
  rw [e5, e6]
  generalize r * 2 ^ (31 - n) = y
  omega

def bigS (e : Nat) : Nat := rotN e 6 ^^^ rotN e 11 ^^^ rotN e 25
def smlS (a : Nat) : Nat := rotN a 2 ^^^ rotN a 13 ^^^ rotN a 22
def chN (e f g : Nat) : Nat := (e &&& f) ^^^ ((4294967295 - e) &&& g)
def majN (a b c : Nat) : Nat := (a &&& b) ^^^ (a &&& c) ^^^ (b &&& c)
def sg0 (x : Nat) : Nat := rotN x 7 ^^^ rotN x 18 ^^^ x / 8
def sg1 (x : Nat) : Nat := rotN x 17 ^^^ rotN x 19 ^^^ x / 1024

theorem xor_lt32 {a b : Nat} (ha : a < 4294967296) (hb : b < 4294967296) : a ^^^ b < 4294967296 := Nat.xor_lt_two_pow (n := 32) ha hb
theorem and_lt32 {a : Nat} (b : Nat) (ha : a < 4294967296) : a &&& b < 4294967296 := Nat.lt_of_le_of_lt Nat.and_le_left ha
theorem bigS_lt {e : Nat} (h : e < 4294967296) : bigS e < 4294967296 := xor_lt32 (xor_lt32 (rotN_lt h (by omega)) (rotN_lt h (by omega))) (rotN_lt h (by omega))
theorem smlS_lt {e : Nat} (h : e < 4294967296) : smlS e < 4294967296 := xor_lt32 (xor_lt32 (rotN_lt h (by omega)) (rotN_lt h (by omega))) (rotN_lt h (by omega))
theorem sg0_lt {e : Nat} (h : e < 4294967296) : sg0 e < 4294967296 := xor_lt32 (xor_lt32 (rotN_lt h (by omega)) (rotN_lt h (by omega))) (by omega)
theorem sg1_lt {e : Nat} (h : e < 4294967296) : sg1 e < 4294967296 := xor_lt32 (xor_lt32 (rotN_lt h (by omega)) (rotN_lt h (by omega))) (by omega)
theorem chN_lt {e f g : Nat} (h : e < 4294967296) : chN e f g < 4294967296 := xor_lt32 (and_lt32 _ h) (and_lt32 _ (by omega))
theorem majN_lt {a b c : Nat} (ha : a < 4294967296) (hb : b < 4294967296) : majN a b c < 4294967296 := xor_lt32 (xor_lt32 (and_lt32 _ ha) (and_lt32 _ ha)) (and_lt32 _ hb)
theorem maj_or (a b c : Nat) : ((a &&& b) ||| (a &&& c)) ||| (b &&& c) = majN a b c := by
  apply Nat.eq_of_testBit_eq
  intro i
  unfold majN
  simp only [Nat.testBit_or, Nat.testBit_and, Nat.testBit_xor]
  cases a.testBit i <;> cases b.testBit i <;> cases c.testBit i <;> rfl
theorem ch_or (e f g : Nat) (h : e < 4294967296) : (e &&& f) ||| ((4294967295 - e) &&& g) = chN e f g := by
  apply Nat.eq_of_testBit_eq
  intro i
  unfold chN
  have hc : (4294967295 - e).testBit i = (decide (i < 32) && !e.testBit i) := by
    have := Nat.testBit_two_pow_sub_succ (n := 32) (x := e) h i
    rw [← this, show 4294967295 - e = 2 ^ 32 - (e + 1) by omega]
  simp only [Nat.testBit_or, Nat.testBit_and, Nat.testBit_xor, hc]
  cases e.testBit i <;> cases f.testBit i <;> cases g.testBit i <;> cases decide (i < 32) <;> rfl

theorem compl32 (x : Nat) (h : x < 4294967296) : 4294967295 ^^^ x = 4294967295 - x := by
  apply Nat.eq_of_testBit_eq
  intro i
  have hc : (4294967295 - x).testBit i = (decide (i < 32) && !x.testBit i) := by
    have := Nat.testBit_two_pow_sub_succ (n := 32) (x := x) h i
    rw [← this, show 4294967295 - x = 2 ^ 32 - (x + 1) by omega]
  have hm : (4294967295 : Nat).testBit i = decide (i < 32) := by
    have := Nat.testBit_two_pow_sub_one 32 i
    rw [← this]
  rw [Nat.testBit_xor, hc, hm]
  by_cases hi : i < 32
  · simp [hi]
  · have hx : x.testBit i = false := Nat.testBit_lt_two_pow (Nat.lt_of_lt_of_le h (Nat.pow_le_pow_right (n := 2) (i := 32) (by decide) (by omega)))
    simp [hi, hx]
/-- The state behind a step. -/
def stepN : List Nat → Nat → Nat → List Nat
  | [a, b, c, d, e, f, g, h], r, w =>
    [((h + bigS e + chN e f g + r + w) % 4294967296 + (smlS a + majN a b c) % 4294967296) % 4294967296, a, b, c, (d + (h + bigS e + chN e f g + r + w) % 4294967296) % 4294967296, e, f, g]
  | s, _, _ => s
/-- A state: eight words. -/
def Is8 (s : List Nat) : Prop := s.length = 8 ∧ ∀ v ∈ s, v < 4294967296
theorem Is8.parts {s : List Nat} (h : Is8 s) : ∃ a b c d e f g k, s = [a, b, c, d, e, f, g, k] ∧ a < 4294967296 ∧ b < 4294967296 ∧ c < 4294967296 ∧ d < 4294967296 ∧ e < 4294967296 ∧ f < 4294967296 ∧ g < 4294967296 ∧ k < 4294967296 := by
  obtain ⟨hl, hv⟩ := h
  match s, hl with
  | [a, b, c, d, e, f, g, k], _ => exact ⟨a, b, c, d, e, f, g, k, rfl, by simp at hv; exact hv⟩
theorem Is8.of {a b c d e f g k : Nat} (h1 : a < 4294967296) (h2 : b < 4294967296) (h3 : c < 4294967296) (h4 : d < 4294967296) (h5 : e < 4294967296) (h6 : f < 4294967296) (h7 : g < 4294967296) (h8 : k < 4294967296) : Is8 [a, b, c, d, e, f, g, k] :=
  ⟨rfl, by simp; exact ⟨h1, h2, h3, h4, h5, h6, h7, h8⟩⟩
theorem stepN_8 {s : List Nat} (h : Is8 s) (r w : Nat) : Is8 (stepN s r w) := by
  obtain ⟨a, b, c, d, e, f, g, k, rfl, h1, h2, h3, h4, h5, h6, h7, h8⟩ := h.parts
  exact Is8.of (Nat.mod_lt _ (by omega)) h1 h2 h3 (Nat.mod_lt _ (by omega)) h5 h6 h7

def rootsL : List Nat := [1116352408, 1899447441, 3049323471, 3921009573, 961987163, 1508970993, 2453635748, 2870763221, 3624381080, 310598401, 607225278, 1426881987, 1925078388, 2162078206, 2614888103, 3248222580, 3835390401, 4022224774, 264347078, 604807628, 770255983, 1249150122, 1555081692, 1996064986, 2554220882, 2821834349, 2952996808, 3210313671, 3336571891, 3584528711, 113926993, 338241895, 666307205, 773529912, 1294757372, 1396182291, 1695183700, 1986661051, 2177026350, 2456956037, 2730485921, 2820302411, 3259730800, 3345764771, 3516065817, 3600352804, 4094571909, 275423344, 430227734, 506948616, 659060556, 883997877, 958139571, 1322822218, 1537002063, 1747873779, 1955562222, 2024104815, 2227730452, 2361852424, 2428436474, 2756734187, 3204031479, 3329325298]
def begin8 : List Nat := [1779033703, 3144134277, 1013904242, 2773480762, 1359893119, 2600822924, 528734635, 1541459225]
theorem begin8_8 : Is8 begin8 := ⟨rfl, by decide⟩
theorem rootsL_lt (k : Nat) : rootsL.getD k 0 < 4294967296 := by
  have h : ∀ v ∈ rootsL, v < 4294967296 := by decide
  by_cases hk : k < rootsL.length
  · have e : rootsL.getD k 0 = rootsL[k] := by simp [List.getD, hk]
    rw [e]; exact h _ (List.getElem_mem hk)
  · simp [List.getD, List.getElem?_eq_none (l := rootsL) (i := k) (by omega)]

/-- A block's words. -/
def word0 (b : List UInt8) (i : Nat) : Nat := (b.getD (4 * i) 0).toNat * 16777216 + (b.getD (4 * i + 1) 0).toNat * 65536 + (b.getD (4 * i + 2) 0).toNat * 256 + (b.getD (4 * i + 3) 0).toNat
def wordK (b : List UInt8) (l : List Nat) (k : Nat) : Nat := if k < 16 then word0 b k else (l.getD (k - 16) 0 + sg0 (l.getD (k - 15) 0) + l.getD (k - 7) 0 + sg1 (l.getD (k - 2) 0)) % 4294967296
def wordsTo (b : List UInt8) : Nat → List Nat
  | 0 => []
  | k + 1 => wordsTo b k ++ [wordK b (wordsTo b k) k]
theorem wordsTo_len (b : List UInt8) : ∀ k, (wordsTo b k).length = k
  | 0 => rfl
  | k + 1 => by rw [wordsTo, List.length_append, wordsTo_len b k]; rfl
theorem word0_lt (b : List UInt8) (i : Nat) : word0 b i < 4294967296 := by
  have h1 := (b.getD (4 * i) 0).toNat_lt
  have h2 := (b.getD (4 * i + 1) 0).toNat_lt
  have h3 := (b.getD (4 * i + 2) 0).toNat_lt
  have h4 := (b.getD (4 * i + 3) 0).toNat_lt
  unfold word0; omega
theorem wordK_lt (b : List UInt8) (l : List Nat) (k : Nat) : wordK b l k < 4294967296 := by
  unfold wordK
  split
  · exact word0_lt b k
  · exact Nat.mod_lt _ (by omega)
theorem wordsTo_lt (b : List UInt8) : ∀ k, ∀ v ∈ wordsTo b k, v < 4294967296
  | 0 => by simp [wordsTo]
  | k + 1 => by
    intro v hv
    rw [wordsTo] at hv
    rcases List.mem_append.1 hv with h | h
    · exact wordsTo_lt b k v h
    · rw [List.mem_singleton.1 h]; exact wordK_lt _ _ _
theorem getD_lt32 {l : List Nat} (h : ∀ v ∈ l, v < 4294967296) (k : Nat) : l.getD k 0 < 4294967296 := by
  by_cases hk : k < l.length
  · have e : l.getD k 0 = l[k] := by simp [List.getD, hk]
    rw [e]; exact h _ (List.getElem_mem hk)
  · simp [List.getD, List.getElem?_eq_none (l := l) (i := k) (by omega)]
def wordsN (b : List UInt8) : List Nat := wordsTo b 64
def stepsTo (s W : List Nat) : Nat → List Nat
  | 0 => s
  | k + 1 => stepN (stepsTo s W k) (rootsL.getD k 0) (W.getD k 0)
theorem stepsTo_8 {s : List Nat} (h : Is8 s) (W : List Nat) : ∀ k, Is8 (stepsTo s W k)
  | 0 => h
  | k + 1 => stepN_8 (stepsTo_8 h W k) _ _
def addN (t s : List Nat) : List Nat := (List.range 8).map fun i => (t.getD i 0 + s.getD i 0) % 4294967296
theorem addN_8 (t s : List Nat) : Is8 (addN t s) := by
  refine ⟨by simp [addN], fun v hv => ?_⟩
  obtain ⟨i, _, rfl⟩ := List.mem_map.1 hv
  exact Nat.mod_lt _ (by omega)
/-- The state behind a block. -/
def blockN (s : List Nat) (b : List UInt8) : List Nat := addN (stepsTo s (wordsN b) 64) s
theorem blockN_8 (s : List Nat) (b : List UInt8) : Is8 (blockN s b) := addN_8 _ _

/-- What stands behind n bytes. -/
def zerosN (n : Nat) : Nat := (119 - n % 64) % 64
def be8 (v : Nat) : List UInt8 := (List.range 8).map fun i => UInt8.ofNat (v / 2 ^ (8 * (7 - i)) % 256)
def fillN (n : Nat) : List UInt8 := (128 :: List.replicate (zerosN n) 0) ++ be8 (n * 8)
theorem be8_len (v : Nat) : (be8 v).length = 8 := by simp [be8]
theorem zerosN_lt (n : Nat) : zerosN n < 64 := Nat.mod_lt _ (by omega)
theorem fillN_len (n : Nat) : (fillN n).length = 9 + zerosN n := by unfold fillN; simp [be8_len]; omega
theorem fillN_64 (n : Nat) : (n + (fillN n).length) % 64 = 0 := by rw [fillN_len]; unfold zerosN; omega

/-- The state behind whole blocks, and the bytes that are left. -/
def runN (s : List Nat) (l : List UInt8) : List Nat := if _h : 64 ≤ l.length then runN (blockN s (l.take 64)) (l.drop 64) else s
termination_by l.length
decreasing_by rw [List.length_drop]; omega
def restN (l : List UInt8) : List UInt8 := if _h : 64 ≤ l.length then restN (l.drop 64) else l
termination_by l.length
decreasing_by rw [List.length_drop]; omega
theorem runN_lt {s : List Nat} {l : List UInt8} (h : l.length < 64) : runN s l = s := by rw [runN, dif_neg (by omega)]
theorem runN_ge {s : List Nat} {l : List UInt8} (h : 64 ≤ l.length) : runN s l = runN (blockN s (l.take 64)) (l.drop 64) := by rw [runN, dif_pos h]
theorem restN_lt {l : List UInt8} (h : l.length < 64) : restN l = l := by rw [restN, dif_neg (by omega)]
theorem restN_ge {l : List UInt8} (h : 64 ≤ l.length) : restN l = restN (l.drop 64) := by rw [restN, dif_pos h]
theorem run_more : ∀ (k : Nat) (s : List Nat) (l m : List UInt8), l.length = k → runN s (l ++ m) = runN (runN s l) (restN l ++ m) ∧ restN (l ++ m) = restN (restN l ++ m) := by
  intro k
  induction k using Nat.strongRecOn with
  | _ k ih =>
    intro s l m hl
    by_cases h : 64 ≤ l.length
    · have h1 : 64 ≤ (l ++ m).length := by rw [List.length_append]; omega
      have h2 := ih (l.drop 64).length (by rw [List.length_drop]; omega) (blockN s (l.take 64)) (l.drop 64) m rfl
      rw [runN_ge h1, restN_ge h1, runN_ge h, restN_ge h, List.take_append_of_le_length h, List.drop_append_of_le_length h]
      exact h2
    · rw [runN_lt (s := s) (l := l) (by omega), restN_lt (l := l) (by omega)]
      exact ⟨rfl, rfl⟩
theorem restN_len : ∀ (k : Nat) (l : List UInt8), l.length = k → (restN l).length < 64 := by
  intro k
  induction k using Nat.strongRecOn with
  | _ k ih =>
    intro l hl
    by_cases h : 64 ≤ l.length
    · rw [restN_ge h]; exact ih _ (by rw [List.length_drop]; omega) _ rfl
    · rw [restN_lt (by omega)]; omega
theorem runN_8 : ∀ (k : Nat) (s : List Nat) (l : List UInt8), l.length = k → Is8 s → Is8 (runN s l) := by
  intro k
  induction k using Nat.strongRecOn with
  | _ k ih =>
    intro s l hl h8
    by_cases h : 64 ≤ l.length
    · rw [runN_ge h]; exact ih _ (by rw [List.length_drop]; omega) _ _ rfl (blockN_8 _ _)
    · rw [runN_lt (by omega)]; exact h8

def be4 (v : Nat) : List UInt8 := [UInt8.ofNat (v / 16777216 % 256), UInt8.ofNat (v / 65536 % 256), UInt8.ofNat (v / 256 % 256), UInt8.ofNat (v % 256)]
def bytesN (s : List Nat) : List UInt8 := s.flatMap be4
theorem bytesN_len {s : List Nat} (h : Is8 s) : (bytesN s).length = 32 := by
  obtain ⟨a, b, c, d, e, f, g, k, rfl, _⟩ := h.parts
  rfl
/-- The hash. -/
def hashN (b : List UInt8) : List UInt8 := bytesN (runN begin8 (b ++ fillN b.length))
theorem hashN_len (b : List UInt8) : (hashN b).length = 32 := bytesN_len (runN_8 _ _ _ rfl begin8_8)
end Go.Proofs.Ytegeglnfpddgfaa
