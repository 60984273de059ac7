/- What a call keeps of the memory that was there (Kept), and append, make and copy of bytes with where the result lies. -/
import Derived.Test.YtegeglnfpddgfaaBase
import Derived.Maps.AppendAt
import Derived.Laws.CopyOwn
import Derived.OwnWalk
namespace Go.Proofs.Ytegeglnfpddgfaa
open Go.RowKit

/-- Of the blocks that were there, only those in T may differ. -/
structure Kept (T : Nat → Prop) (w w' : World) : Prop where
  os : w'.os = w.os
  tape : w'.tape = w.tape
  output : w'.output = w.output
  size : w.heap.size ≤ w'.heap.size
  block : ∀ k, k < w.heap.size → ¬ T k → w'.heap[k]? = w.heap[k]?

theorem Kept.refl (T : Nat → Prop) (w : World) : Kept T w w := ⟨rfl, rfl, rfl, Nat.le_refl _, fun _ _ _ => rfl⟩
theorem Kept.trans {T U : Nat → Prop} {a b c : World} (h : Kept T a b) (k : Kept U b c) (hU : ∀ i, U i → T i ∨ a.heap.size ≤ i) : Kept T a c :=
  ⟨k.os.trans h.os, k.tape.trans h.tape, k.output.trans h.output, Nat.le_trans h.size k.size, fun i hi hT =>
    (k.block i (Nat.lt_of_lt_of_le hi h.size) (fun hu => (hU i hu).elim hT (fun h2 => by omega))).trans (h.block i hi hT)⟩
theorem Kept.mono {T U : Nat → Prop} {a b : World} (h : Kept T a b) (hU : ∀ i, T i → U i) : Kept U a b :=
  ⟨h.os, h.tape, h.output, h.size, fun i hi hT => h.block i hi fun ht => hT (hU i ht)⟩
theorem Kept.below {T : Nat → Prop} {a b : World} (h : Kept T a b) {B : Nat} (hB : B ≤ a.heap.size) (hT : ∀ i, T i → B ≤ i) : Below B a b :=
  ⟨h.os, h.tape, h.output, h.size, fun k hk => h.block k (by omega) fun ht => by have := hT k ht; omega⟩
theorem Kept.ofBelow {a b : World} (h : Below a.heap.size a b) (T : Nat → Prop) : Kept T a b :=
  ⟨h.os, h.tape, h.output, h.size, fun k hk _ => h.block k hk⟩
theorem Kept.below0 {a b : World} {T : Nat → Prop} (h : Kept T a b) (hT : ∀ i, ¬ T i) : Below a.heap.size a b := h.below (Nat.le_refl _) fun i hi => absurd hi (hT i)
theorem Kept.grown {T : Nat → Prop} {a b : World} {row : Option Nat} (h : a.grownBy b row) (hT : ∀ k, row = some k → T k) : Kept T a b :=
  ⟨h.os, h.tape, h.output, h.size, fun k hk ht => h.block k hk fun e => ht (hT k e.symm)⟩
theorem Kept.alloc (T : Nat → Prop) (w : World) (o : Obj) : Kept T w (w.alloc o) := Kept.ofBelow ((Below.refl _ _).alloc (Nat.le_refl _) o) T
theorem Kept.drew (T : Nat → Prop) (w : World) : Kept T w w.drew := ⟨rfl, rfl, rfl, Nat.le_refl _, fun _ _ _ => rfl⟩
theorem Kept.setCell {T : Nat → Prop} (w : World) (p : Addr) (u : Value) (hT : T p.block) : Kept T w (w.setCell p u) :=
  ⟨rfl, rfl, rfl, by simp [World.setCell], fun k _ hk => Below.heap_setCell _ _ _ _ (fun e => hk (e ▸ hT))⟩

theorem Bs.kept {w w' : World} {a : Option Addr} {cap : Nat} {l : List UInt8} (h : Bs w a cap l) {T : Nat → Prop} (hk : Kept T w w') (hT : ∀ x, a = some x → ¬ T x.block) : Bs w' a cap l := by
  refine ⟨h.le, h.top, h.nil, ?_⟩
  rcases h.cells with h0 | ⟨b, off, ha, hc⟩
  · exact .inl h0
  · refine .inr ⟨b, off, ha, fun i hi => ?_⟩
    have h1 := hc i hi
    rw [← h1]
    exact World.cell?_of_block (w := w) (a := ⟨b, off + i, none⟩) (hk.block b (World.block_lt_of_cell? w _ h1) (hT _ ha))

theorem OwnB.keptT {base : Nat} {w w' : World} {v : Value} {l : List UInt8} (h : OwnB base w v l) {T : Nat → Prop} (hk : Kept T w w') (hT : ∀ k, v.ownBlock = some k → ¬ T k) : OwnB base w' v l := by
  refine ⟨h.1, ?_⟩
  rcases h.2 with hn | ⟨g, cap, cur, hv, hb, hgg, rest⟩
  · exact .inl hn
  · refine .inr ⟨g, cap, cur, hv, hb, ?_, rest⟩
    rw [hk.block g (Array.getElem?_eq_some_iff.1 hgg).1 (hT g (by rw [hv]; rfl))]
    exact hgg

theorem flat_le (ls : List (List UInt8)) (k : Nat) : (ls.take k).flatten.length ≤ ls.flatten.length := by
  have h : ls.flatten = (ls.take k).flatten ++ (ls.drop k).flatten := by rw [← List.flatten_append, List.take_append_drop]
  rw [h, List.length_append]; omega
theorem flat_take_succ (ls : List (List UInt8)) (k : Nat) (h : k < ls.length) : (ls.take (k + 1)).flatten = (ls.take k).flatten ++ ls.getD k [] := by
  rw [take_snoc _ [] _ h]; simp

/-- Where the value v' lies that came of v in the world w: in v's row, or in a new block. -/
def Near (w : World) (v v' : Value) : Prop := ∀ k, v'.ownBlock = some k → v.ownBlock = some k ∨ w.heap.size ≤ k
theorem Near.refl (w : World) (v : Value) : Near w v v := fun _ h => .inl h
theorem Near.trans {w1 w2 : World} {v1 v2 v3 : Value} (h : Near w1 v1 v2) (k : Near w2 v2 v3) (hs : w1.heap.size ≤ w2.heap.size) : Near w1 v1 v3 := fun i hi => by
  rcases k i hi with h1 | h1
  · exact h i h1
  · exact .inr (by omega)

/-- append(s, x...) where s is the call's own and x is whatever bytes: and where it lies. -/
theorem wp_append_bs_at {w : World} {o : Oper} {a : Act} {K : Act → World → Prop} {Q : Exit → Act → World → Prop} (s x : Operand)
    (ho : o.op = .call { callee := .builtin .append, args := #[s, x], argTypes := #[22, 22] })
    (base : Nat) (v : Value) (l : List UInt8) (hs : a.eval s = v) (hown : OwnB base w v l)
    (ao : Option Addr) (m c : Nat) (l2 : List UInt8) (hx : a.eval x = .slice ao m c) (hm : m = l2.length) (hb : Bs w ao c l2)
    (hbytes : l.length + m ≤ 140737488355328) (hbase : base ≤ w.heap.size)
    (h : ∀ v' w', OwnB base w' v' (l ++ l2) → w.grownBy w' v.ownBlock → Near w v v' → K (a.put o.dst v') w') : Oper.wp Try.prog o a w K Q := by
  obtain ⟨i0, hi, hz0, hz1, hz2⟩ := info_parts info_u8
  cases ao with
  | none =>
    have hc := hb.nil rfl
    have hl2 : l2 = [] := List.eq_nil_of_length_eq_zero (by have := hb.le; omega)
    subst hl2
    subst hc
    subst hm
    have hrun := run_append_owned_none (P := Try.prog) (w := w) base 22 o.type 5 i0 1 Try.underlying22 hi v _ _ hown
    unfold Oper.wp
    simp [execOp, ho, resolve, invoke, builtin, hs, hx, hrun, Result.andThen]
    exact h v w (by simpa using hown) ⟨rfl, rfl, rfl, Nat.le_refl _, fun _ _ _ => rfl⟩ (Near.refl _ _)
  | some ad =>
    subst hm
    obtain ⟨v', w', hr, h1, h2, _, h4⟩ := run_append_own_at (P := Try.prog) w base 22 o.type 5 i0 (.int .u8 0) 1 1 Try.underlying22 hi hz0 hz1 hz2 rfl (by decide) v _ _ hown ad l2.length c (l2.map u8v) (by simp) (by
      intro j u hu
      obtain ⟨hj, rfl⟩ := getElem_map_u8 l2 j u hu
      rcases hb.cells with h0 | ⟨b, off, had, h0⟩
      · subst h0; simp at hj
      · cases had
        have := h0 j hj
        rw [addr_add]; exact this) (u8v_one l2) (by unfold maxLen; omega) (by omega) hbase
    unfold Oper.wp execOp
    simp only [ho, resolve, invoke, builtin, Sem.run_bind, Sem.run_pure, Result.andThen_ok, List.map_toArray, List.map_cons, List.map_nil, hs, hx, hr]
    refine h v' w' ?_ h2 ?_
    · unfold OwnB
      rw [List.length_append, List.map_append]
      exact h1
    · intro k hk
      rcases h4 with h4 | h4
      · exact .inl (by rw [← h4]; exact hk)
      · rw [h4] at hk; cases hk; exact .inr (Nat.le_refl _)

theorem wpList_append_bs_at {w : World} {ops : Array Oper} {rest : List Oper} {o : Oper} {a : Act} {Q : Exit → Act → World → Prop} (hgd : o.guard = none) (s x : Operand)
    (ho : o.op = .call { callee := .builtin .append, args := #[s, x], argTypes := #[22, 22] })
    (base : Nat) (v : Value) (l : List UInt8) (hs : a.eval s = v) (hown : OwnB base w v l)
    (ao : Option Addr) (m c : Nat) (l2 : List UInt8) (hx : a.eval x = .slice ao m c) (hm : m = l2.length) (hb : Bs w ao c l2)
    (hbytes : l.length + m ≤ 140737488355328) (hbase : base ≤ w.heap.size)
    (h : ∀ v' w', OwnB base w' v' (l ++ l2) → w.grownBy w' v.ownBlock → Near w v v' → wpList Try.prog ops Q rest (a.put o.dst v') w') : wpList Try.prog ops Q (o :: rest) a w := by
  refine wpList_plain hgd fun K hK => ?_
  exact wp_append_bs_at s x ho base v l hs hown ao m c l2 hx hm hb hbytes hbase fun v' w' h1 h2 h3 => hK _ _ (h v' w' h1 h2 h3)

/-- append(s, x) of one byte, which lies in the newest block. -/
theorem wp_append_u8_at {w : World} {o : Oper} {a : Act} {K : Act → World → Prop} {Q : Exit → Act → World → Prop} (s x : Operand)
    (ho : o.op = .call { callee := .builtin .append, args := #[s, x], argTypes := #[22, 22] })
    (base : Nat) (v : Value) (l : List UInt8) (hs : a.eval s = v) (hown : OwnB base w v l) (e : Int) (d : UInt8) (he : e = (d.toNat : Int))
    (hx : a.eval x = .slice (some ⟨w.heap.size, 0, none⟩) 1 1) (hlen : l.length + 1 ≤ 140737488355328) (hbase : base ≤ w.heap.size)
    (h : ∀ v' w', OwnB base w' v' (l ++ [d]) → w.grownBy w' v.ownBlock → Near w v v' → K (a.put o.dst v') w') :
    Oper.wp Try.prog o a (w.alloc (.cells #[.int .u8 e] 5)) K Q := by
  refine wp_append_bs_at s x ho base v l hs (hown.alloc _) _ 1 1 [d] hx rfl (Bs.one' w e d he _) (by omega) (by simp; omega) ?_
  intro v' w' h1 h2 h3
  exact h v' w' h1 (grownBy_trans (World.grownBy_alloc w _ _) h2) (fun k hk => (h3 k hk).imp id fun h4 => by simp at h4; omega)

theorem wpList_append_u8_at {w : World} {ops : Array Oper} {rest : List Oper} {o : Oper} {a : Act} {Q : Exit → Act → World → Prop} (hgd : o.guard = none) (s x : Operand)
    (ho : o.op = .call { callee := .builtin .append, args := #[s, x], argTypes := #[22, 22] })
    (base : Nat) (v : Value) (l : List UInt8) (hs : a.eval s = v) (hown : OwnB base w v l) (e : Int) (d : UInt8) (he : e = (d.toNat : Int))
    (hx : a.eval x = .slice (some ⟨w.heap.size, 0, none⟩) 1 1) (hlen : l.length + 1 ≤ 140737488355328) (hbase : base ≤ w.heap.size)
    (h : ∀ v' w', OwnB base w' v' (l ++ [d]) → w.grownBy w' v.ownBlock → Near w v v' → wpList Try.prog ops Q rest (a.put o.dst v') w') :
    wpList Try.prog ops Q (o :: rest) a (w.alloc (.cells #[.int .u8 e] 5)) := by
  refine wpList_append_bs_at hgd s x ho base v l hs (hown.alloc _) _ 1 1 [d] hx rfl (Bs.one' w e d he _) (by omega) (by simp; omega) ?_
  intro v' w' h1 h2 h3
  exact h v' w' h1 (grownBy_trans (World.grownBy_alloc w _ _) h2) (fun k hk => (h3 k hk).imp id fun h4 => by simp at h4; omega)

/-- make([]byte, n). -/
theorem wpList_make_u8 {w : World} {ops : Array Oper} {rest : List Oper} {o : Oper} {a : Act} {Q : Exit → Act → World → Prop} (hgd : o.guard = none) (lo co : Operand)
    (ho : o.op = Op.makeSlice 22 lo co) (n : Nat) (hl : a.eval lo = .int .i64 (n : Int)) (hc : a.eval co = .int .i64 (n : Int)) (hn : n ≤ 140737488355328)
    (h : ∀ w', Hid (OwnB w.heap.size w' (.slice (some ⟨w.heap.size, 0, none⟩) n n) (List.replicate n 0)) → Below w.heap.size w w' →
      wpList Try.prog ops Q rest (a.put o.dst (.slice (some ⟨w.heap.size, 0, none⟩) n n)) w') : wpList Try.prog ops Q (o :: rest) a w := by
  obtain ⟨i0, hi, hz0, hz1, hz2⟩ := info_parts info_u8
  refine wpList_make_full w hgd lo co 22 ho w.heap.size 5 i0 (.int .u8 0) 1 Try.underlying22 hi hz0 hz1 .i64 .i64 _ _ n hl hc rfl rfl (by rw [hz2]; omega) (by unfold maxLen; omega) (Nat.le_refl _) ?_
  intro w' h1 h2
  refine h w' ?_ ((Below.refl _ _).grown h2 (Nat.le_refl _) (by simp))
  show OwnB _ _ _ _
  unfold OwnB
  rw [show (Value.int .u8 0).cells = #[Value.int .u8 0] from rfl, Nat.mul_one, toList_madeCells_one] at h1
  rw [List.length_replicate, List.map_replicate]
  exact h1

/-- copy(d, s): d the call's own n bytes, s at least n bytes. -/
theorem wp_copy_u8 {w : World} {o : Oper} {a : Act} {K : Act → World → Prop} {Q : Exit → Act → World → Prop} (d s : Operand)
    (ho : o.op = .call { callee := .builtin .copy, args := #[d, s], argTypes := #[22, 22] }) (base g n : Nat) (z : List UInt8) (hd : a.eval d = .slice (some ⟨g, 0, none⟩) n n) (hz : z.length = n)
    (hown : OwnB base w (.slice (some ⟨g, 0, none⟩) n n) z) (sp : Option Addr) (m scap : Nat) (l : List UInt8) (hs : a.eval s = .slice sp m scap) (hm : m = l.length) (hb : Bs w sp scap l) (hn : n ≤ m)
    (h : ∀ w', OwnB base w' (.slice (some ⟨g, 0, none⟩) n n) (l.take n) → Kept (· = g) w w' → K (a.put o.dst (goInt n)) w') : Oper.wp Try.prog o a w K Q := by
  subst hz
  rcases hown.2 with ⟨hv, _⟩ | ⟨g', cap, cur, hv, hbg, hg, h1, h2, h3, h4⟩
  · cases hv
  cases hv
  have hlt : (l.take z.length).length = z.length := by simp; omega
  have hres : ∀ w' : World, w'.heap[g]? = some (.cells ((l.take z.length).map u8v).toArray 5 (0, 0)) → OwnB base w' (.slice (some ⟨g, 0, none⟩) z.length z.length) (l.take z.length) := by
    intro w' hw'
    refine ⟨by simp, .inr ⟨g, z.length, _, by rw [hlt], hbg, hw', by rw [hlt]; exact Nat.le_refl _, h2, ?_, ?_⟩⟩
    · simp; omega
    · rw [hlt]; simp [List.take_take]
  have hcz : cur.size = z.length := by rw [h3]; omega
  by_cases h0 : z.length = 0
  · have hrun := run_copy_none (P := Try.prog) w 22 22 o.type 5 (some ⟨g, 0, none⟩) sp z.length z.length m scap Try.underlying22 (by kernel_rfl) (by rw [h0]; exact Nat.min_eq_right (Nat.zero_le _))
    unfold Oper.wp
    simp [execOp, ho, resolve, invoke, builtin, hd, hs, hrun, Result.andThen]
    have hk := h w (hres w (by
      rw [hg]
      have hz0 : z = [] := List.eq_nil_of_length_eq_zero h0
      subst hz0
      have : cur = #[] := Array.eq_empty_of_size_eq_zero (by simpa using hcz)
      rw [this]; simp)) (Kept.refl _ _)
    rw [h0] at hk
    exact hk
  · rcases hb.cells with hl0 | ⟨b, off, had, hc⟩
    · subst hl0; simp at hm; omega
    subst had
    have hrun := run_copy_row (P := Try.prog) w 22 22 o.type 5 g 0 z.length z.length ⟨b, off, none⟩ m scap cur 5 ((l.take z.length).map u8v) Try.underlying22 (by kernel_rfl) hg
      (by rw [List.length_map, hlt]; exact (Nat.min_eq_right (by omega)).symm) (by
        intro j u hu
        obtain ⟨hj, rfl⟩ := getElem_map_u8 _ j u hu
        rw [hlt] at hj
        rw [addr_add, hc j (by omega)]
        congr 2
        simp [List.getD, hj]) (by rw [List.length_map, hlt]; omega) (u8v_one _)
    unfold Oper.wp
    simp [execOp, ho, resolve, invoke, builtin, hd, hs, hrun, Result.andThen]
    rw [Nat.min_eq_left (by omega)]
    refine h _ (hres _ ?_) ?_
    · rw [setRow_heap w g cur _ _ _ hg]
      congr 3
      have : List.drop z.length cur.toList = [] := List.drop_eq_nil_of_le (by simp; omega)
      simp [this]
    · exact ⟨rfl, rfl, rfl, by simp, fun k _ hk => setRow_other w g k _ (by omega)⟩

theorem wpList_copy_u8 {w : World} {ops : Array Oper} {rest : List Oper} {o : Oper} {a : Act} {Q : Exit → Act → World → Prop} (hgd : o.guard = none) (d s : Operand)
    (ho : o.op = .call { callee := .builtin .copy, args := #[d, s], argTypes := #[22, 22] }) (base g n : Nat) (z : List UInt8) (hd : a.eval d = .slice (some ⟨g, 0, none⟩) n n) (hz : z.length = n)
    (hown : OwnB base w (.slice (some ⟨g, 0, none⟩) n n) z) (sp : Option Addr) (m scap : Nat) (l : List UInt8) (hs : a.eval s = .slice sp m scap) (hm : m = l.length) (hb : Bs w sp scap l) (hn : n ≤ m)
    (h : ∀ w', OwnB base w' (.slice (some ⟨g, 0, none⟩) n n) (l.take n) → Kept (· = g) w w' → wpList Try.prog ops Q rest (a.put o.dst (goInt n)) w') : wpList Try.prog ops Q (o :: rest) a w := by
  refine wpList_plain hgd fun K hK => ?_
  exact wp_copy_u8 d s ho base g n z hd hz hown sp m scap l hs hm hb hn fun w' h1 h2 => hK _ _ (h w' h1 h2)
end Go.Proofs.Ytegeglnfpddgfaa
