/- Plain facts on layer 2: a number's form, what is read of bytes, and that the one turns the other back. -/
namespace Go.Proofs.Ytammicdgpdnihaa

/-- A number's form. -/
def formV (v : Nat) : List UInt8 := if v < 128 then [UInt8.ofNat v] else UInt8.ofNat (v % 128 + 128) :: formV (v / 128)
termination_by v
decreasing_by omega

theorem formV_lt {v : Nat} (h : v < 128) : formV v = [UInt8.ofNat v] := by rw [formV, if_pos h]
theorem formV_ge {v : Nat} (h : 128 ≤ v) : formV v = UInt8.ofNat (v % 128 + 128) :: formV (v / 128) := by rw [formV, if_neg (by omega)]

/-- What bytes are read as from place i on, where v was read ahead of it. -/
def frontGo : List UInt8 → Nat → Nat → Option (Nat × Nat)
  | [], _, _ => none
  | c :: t, i, v => if 10 ≤ i ∨ (i = 9 ∧ 1 < c.toNat) ∨ (0 < i ∧ c.toNat = 0) then none
    else if c.toNat < 128 then some (v + c.toNat % 128 * 128 ^ i, i + 1) else frontGo t (i + 1) (v + c.toNat % 128 * 128 ^ i)
def frontV (l : List UInt8) : Option (Nat × Nat) := frontGo l 0 0

theorem frontGo_late (t : List UInt8) (i v : Nat) (h : 10 ≤ i) : frontGo t i v = none := by
  cases t with
  | nil => rfl
  | cons c t => unfold frontGo; rw [if_pos (.inl h)]
theorem frontGo_bad {c : UInt8} {t : List UInt8} {i v : Nat} (h : (i = 9 ∧ 1 < c.toNat) ∨ (0 < i ∧ c.toNat = 0)) : frontGo (c :: t) i v = none := by
  unfold frontGo; rw [if_pos (.inr h)]
theorem frontGo_end {c : UInt8} {t : List UInt8} {i v : Nat} (h9 : i < 10) (h : ¬ ((i = 9 ∧ 1 < c.toNat) ∨ (0 < i ∧ c.toNat = 0))) (hc : c.toNat < 128) : frontGo (c :: t) i v = some (v + c.toNat % 128 * 128 ^ i, i + 1) := by
  unfold frontGo; rw [if_neg (by rintro (h1 | h1); omega; exact h h1), if_pos hc]
theorem frontGo_on {c : UInt8} {t : List UInt8} {i v : Nat} (h9 : i < 10) (h : ¬ ((i = 9 ∧ 1 < c.toNat) ∨ (0 < i ∧ c.toNat = 0))) (hc : ¬ c.toNat < 128) : frontGo (c :: t) i v = frontGo t (i + 1) (v + c.toNat % 128 * 128 ^ i) := by
  rw [frontGo, if_neg (by rintro (h1 | h1); omega; exact h h1), if_neg hc]

theorem pow_step (i d v : Nat) (hd : d < 128) (hv : v < 128 ^ i) : v + d * 128 ^ i < 128 ^ (i + 1) := by
  rw [Nat.pow_succ]
  have : d * 128 ^ i ≤ 127 * 128 ^ i := Nat.mul_le_mul_right _ (by omega)
  omega

theorem frontGo_bound : ∀ (t : List UInt8) (i v x n : Nat), v < 128 ^ i → frontGo t i v = some (x, n) → x < 18446744073709551616 ∧ i < n ∧ n ≤ 10 ∧ n ≤ i + t.length := by
  intro t
  induction t with
  | nil => intro i v x n _ h; cases h
  | cons c t ih =>
    intro i v x n hv h
    by_cases h9 : i < 10
    · by_cases hb : (i = 9 ∧ 1 < c.toNat) ∨ (0 < i ∧ c.toNat = 0)
      · rw [frontGo_bad hb] at h; cases h
      · by_cases hc : c.toNat < 128
        · rw [frontGo_end h9 hb hc] at h
          simp only [Option.some.injEq, Prod.mk.injEq] at h
          obtain ⟨rfl, rfl⟩ := h
          refine ⟨?_, by omega, by omega, by simp⟩
          by_cases h8 : i = 9
          · subst h8
            have : c.toNat ≤ 1 := by omega
            have : c.toNat % 128 * 128 ^ 9 ≤ 1 * 128 ^ 9 := Nat.mul_le_mul_right _ (by omega)
            omega
          · have h1 := pow_step i (c.toNat % 128) v (by omega) hv
            have h2 : 128 ^ (i + 1) ≤ 128 ^ 9 := Nat.pow_le_pow_right (by decide) (by omega)
            omega
        · rw [frontGo_on h9 hb hc] at h
          obtain ⟨h1, h2, h3, h4⟩ := ih (i + 1) _ x n (pow_step i _ v (by omega) hv) h
          exact ⟨h1, by omega, h3, by simp; omega⟩
    · rw [frontGo_late _ _ _ (by omega)] at h; cases h

theorem frontV_bound {l : List UInt8} {x n : Nat} (h : frontV l = some (x, n)) : x < 18446744073709551616 ∧ 0 < n ∧ n ≤ 10 ∧ n ≤ l.length := by
  have := frontGo_bound l 0 0 x n (by simp) h
  omega

theorem byte_of (n : Nat) (h : n < 256) : (UInt8.ofNat n).toNat = n := by simp; omega

theorem frontGo_form : ∀ (u i v : Nat) (rest : List UInt8), i < 10 → (i = 0 ∨ 0 < u) → u * 128 ^ i < 18446744073709551616 → frontGo (formV u ++ rest) i v = some (v + u * 128 ^ i, i + (formV u).length) := by
  intro u
  induction u using Nat.strongRecOn with
  | _ u ih =>
    intro i v rest h9 h0 hlt
    have h9' : i = 9 → u < 2 := fun h => by subst h; omega
    by_cases hs : u < 128
    · rw [formV_lt hs, List.singleton_append]
      have hb := byte_of u (by omega)
      rw [frontGo_end h9 (by rw [hb]; rintro (⟨h, h2⟩ | ⟨h, h2⟩); have := h9' h; omega; omega) (by rw [hb]; exact hs), hb, Nat.mod_eq_of_lt hs]
      rfl
    · rw [formV_ge (by omega), List.cons_append]
      have hb := byte_of (u % 128 + 128) (by omega)
      have h8 : i ≠ 9 := fun h => by have := h9' h; omega
      rw [frontGo_on h9 (by rw [hb]; rintro (⟨h, h2⟩ | ⟨h, h2⟩); exact h8 h; omega) (by rw [hb]; omega), hb]
      have e : (u % 128 + 128) % 128 = u % 128 := by omega
      rw [e]
      have hp : u / 128 * 128 ^ (i + 1) + u % 128 * 128 ^ i = u * 128 ^ i := by
        rw [Nat.pow_succ, show u / 128 * (128 ^ i * 128) = (128 * (u / 128)) * 128 ^ i by rw [Nat.mul_comm (128 ^ i) 128, ← Nat.mul_assoc, Nat.mul_comm (u / 128) 128], ← Nat.add_mul, Nat.div_add_mod]
      rw [ih (u / 128) (by omega) (i + 1) _ rest (by omega) (.inr (by omega)) (by omega)]
      simp only [Option.some.injEq, Prod.mk.injEq, List.length_cons]
      exact ⟨by omega, by omega⟩

theorem frontV_form {v : Nat} (h : v < 18446744073709551616) (rest : List UInt8) : frontV (formV v ++ rest) = some (v, (formV v).length) := by
  have := frontGo_form v 0 0 rest (by omega) (.inl rfl) (by omega)
  simpa [frontV] using this

theorem frontGo_sound : ∀ (t : List UInt8) (i v x n : Nat), frontGo t i v = some (x, n) → ∃ u, x = v + u * 128 ^ i ∧ formV u = t.take (n - i) ∧ i < n ∧ (i = 0 ∨ 0 < u) := by
  intro t
  induction t with
  | nil => intro i v x n h; cases h
  | cons c t ih =>
    intro i v x n h
    by_cases h9 : i < 10
    · by_cases hb : (i = 9 ∧ 1 < c.toNat) ∨ (0 < i ∧ c.toNat = 0)
      · rw [frontGo_bad hb] at h; cases h
      · have hcl := c.toNat_lt
        by_cases hc : c.toNat < 128
        · rw [frontGo_end h9 hb hc] at h
          simp only [Option.some.injEq, Prod.mk.injEq] at h
          obtain ⟨rfl, rfl⟩ := h
          refine ⟨c.toNat, by rw [Nat.mod_eq_of_lt hc], ?_, by omega, by omega⟩
          rw [formV_lt hc, show i + 1 - i = 1 by omega]; simp
        · rw [frontGo_on h9 hb hc] at h
          obtain ⟨u, h1, h2, h3, h4⟩ := ih (i + 1) _ x n h
          have hu : 0 < u := by omega
          refine ⟨128 * u + c.toNat % 128, ?_, ?_, by omega, by omega⟩
          · rw [h1, Nat.pow_succ, Nat.add_mul, show u * (128 ^ i * 128) = 128 * u * 128 ^ i by rw [Nat.mul_comm (128 ^ i) 128, ← Nat.mul_assoc, Nat.mul_comm u 128]]
            omega
          · rw [formV_ge (by omega), show (128 * u + c.toNat % 128) / 128 = u by omega, show (128 * u + c.toNat % 128) % 128 + 128 = c.toNat by omega, h2, show n - i = (n - (i + 1)) + 1 by omega]
            simp
    · rw [frontGo_late _ _ _ (by omega)] at h; cases h

theorem frontV_sound {l : List UInt8} {x n : Nat} (h : frontV l = some (x, n)) : formV x = l.take n := by
  obtain ⟨u, h1, h2, _, _⟩ := frontGo_sound l 0 0 x n h
  simp at h1 h2
  rw [h1, h2]

theorem formV_pos (v : Nat) : 1 ≤ (formV v).length := by
  by_cases h : v < 128
  · rw [formV_lt h]; simp
  · rw [formV_ge (by omega)]; simp
theorem formV_len : ∀ (k v : Nat), v < 128 ^ (k + 1) → (formV v).length ≤ k + 1 := by
  intro k
  induction k with
  | zero => intro v h; rw [formV_lt (by simpa using h)]; simp
  | succ k ih =>
    intro v h
    by_cases hs : v < 128
    · rw [formV_lt hs]; simp
    · rw [formV_ge (by omega), List.length_cons]
      have := ih (v / 128) (by rw [Nat.div_lt_iff_lt_mul (by decide)]; rw [Nat.pow_succ] at h; exact h)
      omega
theorem formV_le {v : Nat} (h : v < 18446744073709551616) : (formV v).length ≤ 10 := formV_len 9 v (by omega)
theorem formV_mono : ∀ (a b : Nat), a ≤ b → (formV a).length ≤ (formV b).length := by
  intro a
  induction a using Nat.strongRecOn with
  | _ a ih =>
    intro b h
    by_cases hs : a < 128
    · rw [formV_lt hs]; exact formV_pos b
    · rw [formV_ge (v := a) (by omega), formV_ge (v := b) (by omega)]
      simp only [List.length_cons]
      have := ih (a / 128) (by omega) (b / 128) (by omega)
      omega
theorem formV_free {a b : Nat} (ha : a < 18446744073709551616) (hb : b < 18446744073709551616) (h : formV a = (formV b).take (formV a).length) : a = b := by
  have h1 := frontV_form ha ((formV b).drop (formV a).length)
  have h2 := frontV_form hb []
  conv at h1 => lhs; arg 1; arg 1; rw [h]
  rw [List.take_append_drop] at h1
  rw [List.append_nil, h1] at h2
  simp at h2
  exact h2.1

/-- The numbers whose forms bytes are. -/
def parseV : Nat → List UInt8 → Option (List Nat)
  | 0, b => if b = [] then some [] else none
  | n + 1, b => match frontV b with
    | none => none
    | some (v, k) => (parseV n (b.drop k)).map (v :: ·)
def flatV (l : List Nat) : List UInt8 := l.flatMap formV
theorem flatV_cons (v : Nat) (l : List Nat) : flatV (v :: l) = formV v ++ flatV l := by simp [flatV]
theorem flatV_append (l m : List Nat) : flatV (l ++ m) = flatV l ++ flatV m := by simp [flatV]

theorem parseV_sound : ∀ (n : Nat) (b : List UInt8) (l : List Nat), parseV n b = some l → l.length = n ∧ flatV l = b ∧ ∀ v ∈ l, v < 18446744073709551616 := by
  intro n
  induction n with
  | zero =>
    intro b l h
    unfold parseV at h
    split at h
    · rename_i hb
      cases h; subst hb; exact ⟨rfl, rfl, by simp⟩
    · cases h
  | succ n ih =>
    intro b l h
    unfold parseV at h
    split at h
    · cases h
    · rename_i v k hf
      obtain ⟨m, hm, rfl⟩ := Option.map_eq_some_iff.1 h
      obtain ⟨h1, h2, h3⟩ := ih _ _ hm
      refine ⟨by simp [h1], ?_, ?_⟩
      · rw [flatV_cons, h2, frontV_sound hf, List.take_append_drop]
      · intro x hx
        rcases List.mem_cons.1 hx with rfl | hx
        · exact (frontV_bound hf).1
        · exact h3 x hx
theorem parseV_flat : ∀ (l : List Nat) (more : List UInt8), (∀ v ∈ l, v < 18446744073709551616) → parseV l.length (flatV l ++ more) = if more = [] then some l else none := by
  intro l
  induction l with
  | nil => intro more _; simp [parseV, flatV]
  | cons v l ih =>
    intro more h
    rw [List.length_cons, parseV, flatV_cons, List.append_assoc, frontV_form (h v (by simp))]
    simp only [List.drop_left']
    rw [ih more (fun x hx => h x (by simp [hx]))]
    split <;> simp
theorem flatV_inj : ∀ (l m : List Nat), (∀ v ∈ l, v < 18446744073709551616) → (∀ v ∈ m, v < 18446744073709551616) → flatV l = flatV m → l = m := by
  intro l
  induction l with
  | nil =>
    intro m _ _ h
    cases m with
    | nil => rfl
    | cons v m =>
      have := formV_pos v
      have h2 : (flatV (v :: m)).length = 0 := by rw [← h]; rfl
      rw [flatV_cons, List.length_append] at h2
      omega
  | cons a l ih =>
    intro m hl hm h
    cases m with
    | nil =>
      have := formV_pos a
      have h2 : (flatV (a :: l)).length = 0 := by rw [h]; rfl
      rw [flatV_cons, List.length_append] at h2
      omega
    | cons b m =>
      rw [flatV_cons, flatV_cons] at h
      have h1 := frontV_form (hl a (by simp)) (flatV l)
      have h2 := frontV_form (hm b (by simp)) (flatV m)
      rw [h, h2] at h1
      simp only [Option.some.injEq, Prod.mk.injEq] at h1
      obtain ⟨rfl, _⟩ := h1
      rw [ih m (fun x hx => hl x (by simp [hx])) (fun x hx => hm x (by simp [hx])) (List.append_cancel_left h)]
theorem parseV_other {l : List Nat} (h : ∀ v ∈ l, v < 18446744073709551616) {n : Nat} (hn : n ≠ l.length) : parseV n (flatV l) = none := by
  cases hp : parseV n (flatV l) with
  | none => rfl
  | some m =>
    obtain ⟨h1, h2, h3⟩ := parseV_sound _ _ _ hp
    have := flatV_inj m l h3 h h2
    subst this
    exact absurd h1.symm hn
theorem flatV_len {l : List Nat} (h : ∀ v ∈ l, v < 18446744073709551616) : l.length ≤ (flatV l).length ∧ (flatV l).length ≤ 10 * l.length := by
  induction l with
  | nil => simp [flatV]
  | cons v l ih =>
    have h1 := ih (fun x hx => h x (by simp [hx]))
    have h2 := formV_pos v
    have h3 := formV_le (h v (by simp))
    rw [flatV_cons, List.length_append, List.length_cons]
    omega

/-- one more is read -/
theorem parseV_next {N j v k : Nat} {L : List UInt8} {vs : List Nat} {i : Nat} (hj : j < N) (hv : frontV (L.drop i) = some (v, k)) :
    (parseV (N - j) (L.drop i)).map (vs ++ ·) = (parseV (N - (j + 1)) (L.drop (i + k))).map ((vs ++ [v]) ++ ·) := by
  rw [show N - j = (N - (j + 1)) + 1 by omega, parseV, hv]
  simp only [List.drop_drop, Option.map_map]
  congr 1
  funext x
  simp
theorem parseV_stop {N j : Nat} {L : List UInt8} {i : Nat} (hj : j < N) (hv : frontV (L.drop i) = none) : parseV (N - j) (L.drop i) = none := by
  rw [show N - j = (N - (j + 1)) + 1 by omega, parseV, hv]
end Go.Proofs.Ytammicdgpdnihaa
