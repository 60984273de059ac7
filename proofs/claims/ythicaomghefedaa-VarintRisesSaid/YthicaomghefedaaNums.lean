/- Slices of numbers (uint64): what one reads as, the call's own one, append of one number. -/
import Derived.Test.YthicaomghefedaaOwn
import Derived.Test.YthicaomghefedaaOpen
namespace Go.Proofs.Ythicaomghefedaa
open Go.ChangeShapes Go.WideShapes Go.ChangeAt Go.RowKit Go.Deep

/-- A number as a value. -/
def u64v (n : Nat) : Value := .int .u64 (n : Int)

/-- The slice of numbers of capacity cap that begins at a reads as the list l. -/
structure Ns (w : World) (a : Option Addr) (cap : Nat) (l : List Nat) : Prop where
  le : l.length ≤ cap
  top : cap ≤ 9223372036854775807
  cells : l = [] ∨ ∃ b off, a = some ⟨b, off, none⟩ ∧ ∀ i, i < l.length → w.cell? ⟨b, off + i, none⟩ = some (u64v (l.getD i 0))
  small : ∀ v ∈ l, v < 18446744073709551616

theorem Ns.fits {w : World} {a : Option Addr} {cap : Nat} {l : List Nat} (h : Ns w a cap l) {n : Nat} (hn : n = l.length) : n ≤ 9223372036854775807 := by
  have := h.le; have := h.top; omega
theorem Ns.at {w : World} {a : Option Addr} {cap : Nat} {l : List Nat} (h : Ns w a cap l) {k : Nat} (hk : k < l.length) :
    ∃ b off, a = some ⟨b, off, none⟩ ∧ w.cell? ⟨b, off + k, none⟩ = some (.int .u64 ((l.getD k 0 : Nat) : Int)) ∧ b < w.heap.size ∧ l.getD k 0 < 18446744073709551616 := by
  rcases h.cells with h0 | ⟨b, off, ha, hc⟩
  · subst h0; simp at hk
  · refine ⟨b, off, ha, hc k hk, World.block_lt_of_cell? w _ (hc k hk), ?_⟩
    have e : l.getD k 0 = l[k] := by simp [List.getD, hk]
    rw [e]
    exact h.small _ (List.getElem_mem hk)
theorem Ns.below {w w' : World} {a : Option Addr} {cap : Nat} {l : List Nat} (h : Ns w a cap l) (hb : Below w.heap.size w w') : Ns w' a cap l := by
  refine ⟨h.le, h.top, ?_, h.small⟩
  rcases h.cells with h0 | ⟨b, off, ha, hc⟩
  · exact .inl h0
  · refine .inr ⟨b, off, ha, fun i hi => ?_⟩
    rw [hb.cell (World.block_lt_of_cell? w _ (hc i hi))]; exact hc i hi
theorem Ns.empty (w : World) : Ns w none 0 [] := ⟨Nat.le_refl _, by omega, .inl rfl, by simp⟩
theorem Ns.kept {w w' : World} {a : Option Addr} {cap : Nat} {l : List Nat} (h : Ns w a cap l) {T : Nat → Prop} (hk : Kept T w w') (hT : ∀ x, a = some x → ¬ T x.block) : Ns w' a cap l := by
  refine ⟨h.le, h.top, ?_, h.small⟩
  rcases h.cells with h0 | ⟨b, off, ha, hc⟩
  · exact .inl h0
  · refine .inr ⟨b, off, ha, fun i hi => ?_⟩
    have h1 := hc i hi
    rw [← h1]
    exact World.cell?_of_block (w := w) (a := ⟨b, off + i, none⟩) (hk.block b (World.block_lt_of_cell? w _ h1) (hT _ ha))
/-- A block that holds just the numbers l. -/
theorem Ns.lit {w : World} {g : Nat} {C : Array Value} {e : TypeId} {fr : Nat × Nat} (h : w.heap[g]? = some (.cells C e fr)) (l : List Nat) (hC : C.toList = l.map u64v) (cap : Nat) (hl : l.length ≤ cap) (ht : cap ≤ 9223372036854775807)
    (hs : ∀ v ∈ l, v < 18446744073709551616) : Ns w (some ⟨g, 0, none⟩) cap l := by
  refine ⟨hl, ht, .inr ⟨g, 0, rfl, fun i hi => ?_⟩, hs⟩
  rw [cell_of_row w g _ C e fr h, Nat.zero_add, ← Array.getElem?_toList, hC]
  simp [List.getD, hi]
/-- A new block of one number. -/
theorem Ns.one (w : World) (v : Nat) (hv : v < 18446744073709551616) (e : TypeId) : Ns (w.alloc (.cells #[.int .u64 (v : Int)] e)) (some ⟨w.heap.size, 0, none⟩) 1 [v] :=
  Ns.lit (heap_alloc_new w _) [v] rfl 1 (Nat.le_refl _) (by decide) (by simpa using hv)

/-- The slice value v is the call's own (its block is not below base), and holds the numbers l. -/
def OwnN (base : Nat) (w : World) (v : Value) (l : List Nat) : Prop := w.ownsRow base 29 1 v l.length (l.map u64v)
theorem info_u64 : (Try.prog.info? 29).map (fun i => (i.zero, i.size, i.bytes)) = some (some (.int .u64 0), 1, 8) := by kernel_rfl
theorem OwnN.start (base : Nat) (w : World) : OwnN base w (.slice none 0 0) [] := World.ownsRow_nil _ _ _ _
theorem OwnN.bsn {base : Nat} {w : World} {v : Value} {l : List Nat} (h : OwnN base w v l) (hs : ∀ v ∈ l, v < 18446744073709551616) :
    ∃ a cap n, v = .slice a n cap ∧ n = l.length ∧ Ns w a cap l ∧ v.ownBlock = a.map (·.block) ∧ (∀ x, a = some x → base ≤ x.block ∧ x.block < w.heap.size) := by
  rcases h.2 with ⟨hv, hl⟩ | ⟨g, cap, cur, hv, hg, hh, h1, h2, h3, h4⟩
  · have hl' := List.eq_nil_of_length_eq_zero hl
    subst hl'
    exact ⟨_, _, _, hv, rfl, Ns.empty w, by rw [hv]; rfl, by simp⟩
  · subst hv
    refine ⟨_, _, _, rfl, rfl, ⟨h1, h2, .inr ⟨g, 0, rfl, fun i hi => ?_⟩, hs⟩, rfl, by rintro x hx; cases hx; exact ⟨hg, (Array.getElem?_eq_some_iff.1 hh).1⟩⟩
    have := World.ownsRow.cellAt h i (by simpa using hi)
    rw [Nat.zero_add, this]
    simp [List.getD, hi]
theorem OwnN.keptT {base : Nat} {w w' : World} {v : Value} {l : List Nat} (h : OwnN base w v l) {T : Nat → Prop} (hk : Kept T w w') (hT : ∀ k, v.ownBlock = some k → ¬ T k) : OwnN base w' v l := by
  refine ⟨h.1, ?_⟩
  rcases h.2 with hn | ⟨g, cap, cur, hv, hb, hgg, rest⟩
  · exact .inl hn
  · refine .inr ⟨g, cap, cur, hv, hb, ?_, rest⟩
    rw [hk.block g (Array.getElem?_eq_some_iff.1 hgg).1 (hT g (by rw [hv]; rfl))]
    exact hgg
theorem OwnN.below {base : Nat} {w w' : World} {v : Value} {l : List Nat} (h : OwnN base w v l) (hb : Below w.heap.size w w') : OwnN base w' v l :=
  h.keptT (T := fun _ => False) (Kept.ofBelow hb _) (fun _ _ h => h)
theorem OwnN.lt {base : Nat} {w : World} {v : Value} {l : List Nat} (h : OwnN base w v l) : ∀ k, v.ownBlock = some k → base ≤ k ∧ k < w.heap.size := World.ownsRow.lt h
theorem OwnN.belowOf {base : Nat} {w w' : World} {v : Value} {l : List Nat} (h : OwnN base w v l) (hg : w.grownBy w' v.ownBlock) (hb : base ≤ w.heap.size) : Below base w w' :=
  (Below.refl base w).grown hg hb (fun k hk => (h.lt k hk).1)

theorem u64v_one (l : List Nat) : ∀ u ∈ l.map u64v, u.oneCell' = true := by
  intro u hu
  obtain ⟨c, _, rfl⟩ := List.mem_map.1 hu
  rfl

/-- append(s, x) of one number, which lies in the newest block. -/
theorem wp_append_u64_at {w : World} {o : Oper} {a : Act} {K : Act → World → Prop} {Q : Exit → Act → World → Prop} (s x : Operand)
    (ho : o.op = .call { callee := .builtin .append, args := #[s, x], argTypes := #[50, 50] })
    (base : Nat) (v : Value) (l : List Nat) (hs : a.eval s = v) (hown : OwnN base w v l) (d : Nat)
    (hx : a.eval x = .slice (some ⟨w.heap.size, 0, none⟩) 1 1) (hlen : l.length + 1 ≤ 1000000000) (hbase : base ≤ w.heap.size)
    (h : ∀ v' w', OwnN base w' v' (l ++ [d]) → w.grownBy w' v.ownBlock → Near w v v' → K (a.put o.dst v') w') :
    Oper.wp Try.prog o a (w.alloc (.cells #[.int .u64 (d : Int)] 29)) K Q := by
  obtain ⟨i0, hi, hz0, hz1, hz2⟩ := info_parts info_u64
  obtain ⟨v', w', hr, h1, h2, _, h4⟩ := run_append_own_at (P := Try.prog) (w.alloc (.cells #[.int .u64 (d : Int)] 29)) base 50 o.type 29 i0 (.int .u64 0) 1 8 Try.underlying50 hi hz0 hz1 hz2 rfl (by decide) v _ _ (World.ownsRow.alloc hown _) ⟨w.heap.size, 0, none⟩ 1 1 ([d].map u64v) rfl (by
    intro j u hu
    rcases j with _ | j
    · simp at hu
      subst hu
      show World.cell? _ ⟨w.heap.size, 0, none⟩ = _
      rw [World.cell?_alloc_at _ _ _ _ rfl]; rfl
    · simp at hu) (u64v_one [d]) (by unfold maxLen; omega) (by omega) (by simp; omega)
  unfold Oper.wp execOp
  simp only [ho, resolve, invoke, builtin, Sem.run_bind, Sem.run_pure, Result.andThen_ok, List.map_toArray, List.map_cons, List.map_nil, hs, hx, hr]
  refine h v' w' ?_ (grownBy_trans (World.grownBy_alloc w _ _) h2) ?_
  · unfold OwnN
    rw [List.length_append, List.map_append]
    exact h1
  · intro k hk
    rcases h4 with h4 | h4
    · exact .inl (by rw [← h4]; exact hk)
    · rw [h4] at hk; cases hk; exact .inr (by simp)

theorem wpList_append_u64_at {w : World} {ops : Array Oper} {rest : List Oper} {o : Oper} {a : Act} {Q : Exit → Act → World → Prop} (hgd : o.guard = none) (s x : Operand)
    (ho : o.op = .call { callee := .builtin .append, args := #[s, x], argTypes := #[50, 50] })
    (base : Nat) (v : Value) (l : List Nat) (hs : a.eval s = v) (hown : OwnN base w v l) (d : Nat)
    (hx : a.eval x = .slice (some ⟨w.heap.size, 0, none⟩) 1 1) (hlen : l.length + 1 ≤ 1000000000) (hbase : base ≤ w.heap.size)
    (h : ∀ v' w', OwnN base w' v' (l ++ [d]) → w.grownBy w' v.ownBlock → Near w v v' → wpList Try.prog ops Q rest (a.put o.dst v') w') :
    wpList Try.prog ops Q (o :: rest) a (w.alloc (.cells #[.int .u64 (d : Int)] 29)) := by
  refine wpList_plain hgd fun K hK => ?_
  exact wp_append_u64_at s x ho base v l hs hown d hx hlen hbase fun v' w' h1 h2 h3 => hK _ _ (h v' w' h1 h2 h3)

section
variable {H : Type} {enc : TypeId × Value → H} {W : World} {base : Nat} {spare : Nat → Bool} {held : Bool}
theorem cells_u64 : Try.prog.cellsOf 29 = 1 := by kernel_rfl
theorem open_nums {fuel : Nat} {a : Option Addr} {len cap : Nat} {x : DataW H × List MemPlace} (h : DataW.trod enc Try.prog W base spare held fuel 50 [.slice a len cap] = some x) :
    ∃ l : List Nat, len = l.length ∧ Ns W a cap l := by
  rcases open_ints Try.underlying50 Try.underlying29 cells_u64 h with ⟨hcs, _⟩ | ⟨x, l, c, zs, hcs, _, hl, hm, hz, _, hcell, hwz⟩
  · simp at hcs
    obtain ⟨rfl, rfl, rfl⟩ := hcs
    exact ⟨[], rfl, Ns.empty W⟩
  · simp at hcs
    obtain ⟨rfl, rfl, rfl⟩ := hcs
    have hzl : len ≤ zs.length := by rw [hz]; split <;> omega
    have hlen : ((zs.take len).map fun z => z.toNat).length = len := by simp; omega
    refine ⟨(zs.take len).map fun z => z.toNat, hlen.symm, ⟨by rw [hlen]; exact hl, by unfold maxLen at hm; omega, ?_, ?_⟩⟩
    · by_cases h0 : len = 0
      · left; subst h0; rfl
      right
      obtain ⟨b, off, spot⟩ := x
      have hc0 := hcell 0 (by omega)
      have hspot : spot = none := by simpa [Addr.add] using World.cell?_spot hc0
      subst hspot
      refine ⟨b, off, rfl, fun i hi => ?_⟩
      rw [hlen] at hi
      have hc := hcell i (by omega)
      rw [addr_add] at hc
      rw [hc]
      have hi2 : i < zs.length := by omega
      obtain ⟨t, ht, _⟩ := wf_u64 (hwz zs[i] (List.getElem_mem hi2))
      simp only [u64v, Option.some.injEq, Value.int.injEq, true_and]
      simp [List.getD, hi, hi2]
      omega
    · intro v hv
      obtain ⟨z, hz1, rfl⟩ := List.mem_map.1 hv
      obtain ⟨t, ht, hlt⟩ := wf_u64 (hwz z (List.mem_of_mem_take hz1))
      omega
end
end Go.Proofs.Ythicaomghefedaa
