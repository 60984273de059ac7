/- What all walks of this seat share: what it means that a slice in memory reads as a list of bytes, that a slice is the call's own, and small facts on worlds. -/
import Derived.Test.YtegeglnfpddgfaaRows
import Derived.WalkKit
import Derived.WalkSpells
import Derived.WalkLawsBesides
import Derived.Lib.Hide
import Derived.Laws.AppendOwnNone
namespace Go.Proofs.Ytegeglnfpddgfaa
open Go.RowKit

theorem ret_int {k : IntKind} {a b : Int} (h : a = b) : Ending.returned (.int k a) = Ending.returned (.int k b) := by rw [h]
theorem ret_bool {a b : Bool} (h : a = b) : Ending.returned (.bool a) = Ending.returned (.bool b) := by rw [h]
theorem ret_val {a b : Value} (h : a = b) : Ending.returned a = Ending.returned b := by rw [h]

theorem take_snoc {α : Type} (l : List α) (d : α) (k : Nat) (h : k < l.length) : l.take (k + 1) = l.take k ++ [l.getD k d] := by
  rw [List.take_succ_eq_append_getElem h]; simp [List.getD, h]

/-- A byte as a value. -/
def u8v (c : UInt8) : Value := .int .u8 (c.toNat : Int)

/-- The slice of capacity cap that begins at a reads as the bytes l. -/
structure Bs (w : World) (a : Option Addr) (cap : Nat) (l : List UInt8) : Prop where
  le : l.length ≤ cap
  top : cap ≤ 9223372036854775807
  nil : a = none → cap = 0
  cells : l = [] ∨ ∃ b off, a = some ⟨b, off, none⟩ ∧ ∀ i, i < l.length → w.cell? ⟨b, off + i, none⟩ = some (u8v (l.getD i 0))

theorem Bs.empty (w : World) : Bs w none 0 [] := ⟨Nat.le_refl _, by omega, fun _ => rfl, .inl rfl⟩

theorem Bs.fits {w : World} {a : Option Addr} {cap : Nat} {l : List UInt8} (h : Bs w a cap l) {n : Nat} (hn : n = l.length) : n ≤ 9223372036854775807 := by
  have := h.le; have := h.top; omega

theorem Bs.at {w : World} {a : Option Addr} {cap : Nat} {l : List UInt8} (h : Bs w a cap l) {k : Nat} (hk : k < l.length) :
    ∃ b off, a = some ⟨b, off, none⟩ ∧ w.cell? ⟨b, off + k, none⟩ = some (.int .u8 ((l.getD k 0).toNat : Int)) ∧ b < w.heap.size := by
  rcases h.cells with h | ⟨b, off, ha, h⟩
  · subst h; simp at hk
  · exact ⟨b, off, ha, h k hk, World.block_lt_of_cell? w _ (h k hk)⟩

theorem Bs.of_blocks {w w' : World} {a : Option Addr} {cap : Nat} {l : List UInt8} (h : Bs w a cap l)
    (hb : ∀ x, a = some x → l ≠ [] → w'.heap[x.block]? = w.heap[x.block]?) : Bs w' a cap l := by
  refine ⟨h.le, h.top, h.nil, ?_⟩
  rcases h.cells with h | ⟨b, off, ha, h⟩
  · exact .inl h
  · by_cases he : l = []
    · exact .inl he
    · refine .inr ⟨b, off, ha, fun i hi => ?_⟩
      have hbb := hb _ ha he
      rw [World.cell?_of_block (w := w) (a := ⟨b, off + i, none⟩) hbb]
      exact h i hi

theorem Bs.block_lt {w : World} {a : Option Addr} {cap : Nat} {l : List UInt8} (h : Bs w a cap l) {x : Addr} (hx : a = some x) (he : l ≠ []) : x.block < w.heap.size := by
  have hk : 0 < l.length := List.length_pos_iff.2 he
  obtain ⟨b, off, ha, _, hb⟩ := h.at hk
  rw [hx] at ha; cases ha; exact hb

theorem Bs.below {w w' : World} {a : Option Addr} {cap : Nat} {l : List UInt8} (h : Bs w a cap l) (hb : Below w.heap.size w w') : Bs w' a cap l :=
  h.of_blocks fun _ hx he => hb.block _ (h.block_lt hx he)

theorem Bs.later {w w' : World} {a : Option Addr} {cap : Nat} {l : List UInt8} (h : Bs w a cap l) {B : Nat} (hb : Below B w w') (hB : w.heap.size ≤ B) : Bs w' a cap l :=
  h.below (hb.mono hB)

/-- A new block of one byte. -/
theorem Bs.one (w : World) (c : UInt8) (e : TypeId) : Bs (w.alloc (.cells #[.int .u8 (c.toNat : Int)] e)) (some ⟨w.heap.size, 0, none⟩) 1 [c] := by
  refine ⟨Nat.le_refl _, by omega, by simp, .inr ⟨_, _, rfl, fun i hi => ?_⟩⟩
  obtain rfl : i = 0 := by simpa using hi
  rw [World.cell?_alloc_at _ _ _ _ rfl]; rfl

/-- The slice of slices (its capacity cap) that begins at a reads as the parts ls. -/
structure Bss (w : World) (a : Option Addr) (cap : Nat) (ls : List (List UInt8)) : Prop where
  le : ls.length ≤ cap
  top : cap ≤ 9223372036854775807
  cells : ls = [] ∨ ∃ b off, a = some ⟨b, off, none⟩ ∧ ∀ i, i < ls.length →
    ∃ ai ci, w.cell? ⟨b, off + i, none⟩ = some (.slice ai (ls.getD i []).length ci) ∧ Bs w ai ci (ls.getD i [])

theorem Bss.at {w : World} {a : Option Addr} {cap : Nat} {ls : List (List UInt8)} (h : Bss w a cap ls) {k : Nat} (hk : k < ls.length) :
    ∃ b off ai ci, a = some ⟨b, off, none⟩ ∧ w.cell? ⟨b, off + k, none⟩ = some (.slice ai (ls.getD k []).length ci) ∧ b < w.heap.size ∧ Bs w ai ci (ls.getD k []) := by
  rcases h.cells with h | ⟨b, off, ha, h⟩
  · subst h; simp at hk
  · obtain ⟨ai, ci, hc, hb⟩ := h k hk
    exact ⟨b, off, ai, ci, ha, hc, World.block_lt_of_cell? w _ hc, hb⟩

theorem Bss.fits {w : World} {a : Option Addr} {cap : Nat} {ls : List (List UInt8)} (h : Bss w a cap ls) {n : Nat} (hn : n = ls.length) : n ≤ 9223372036854775807 := by
  have := h.le; have := h.top; omega

theorem Bss.below {w w' : World} {a : Option Addr} {cap : Nat} {ls : List (List UInt8)} (h : Bss w a cap ls) (hb : Below w.heap.size w w') : Bss w' a cap ls := by
  refine ⟨h.le, h.top, ?_⟩
  rcases h.cells with h | ⟨b, off, ha, h⟩
  · exact .inl h
  · refine .inr ⟨b, off, ha, fun i hi => ?_⟩
    obtain ⟨ai, ci, hc, h2⟩ := h i hi
    exact ⟨ai, ci, by rw [hb.cell (World.block_lt_of_cell? w _ hc)]; exact hc, h2.below hb⟩

/-- A block that holds just the bytes l. -/
theorem Bs.lit {w : World} {g : Nat} {C : Array Value} {e : TypeId} {fr : Nat × Nat} (h : w.heap[g]? = some (.cells C e fr)) (l : List UInt8) (hC : C.toList = l.map u8v) (cap : Nat) (hl : l.length ≤ cap) (ht : cap ≤ 9223372036854775807) :
    Bs w (some ⟨g, 0, none⟩) cap l := by
  refine ⟨hl, ht, by simp, .inr ⟨g, 0, rfl, fun i hi => ?_⟩⟩
  rw [cell_of_row w g _ C e fr h, Nat.zero_add, ← Array.getElem?_toList, hC]
  simp [List.getD, hi]

/-- A block that holds one part, two parts. -/
theorem Bss.one {w : World} {g : Nat} {e : TypeId} {fr : Nat × Nat} {ai : Option Addr} {ci n : Nat} (l : List UInt8) (hn : n = l.length) (h : w.heap[g]? = some (.cells #[.slice ai n ci] e fr)) (hb : Bs w ai ci l) :
    Bss w (some ⟨g, 0, none⟩) 1 [l] := by
  subst hn
  refine ⟨Nat.le_refl _, by omega, .inr ⟨g, 0, rfl, fun i hi => ?_⟩⟩
  obtain rfl : i = 0 := by simpa using hi
  exact ⟨ai, ci, by rw [cell_of_row w g _ _ e fr h]; rfl, hb⟩

theorem Bss.two {w : World} {g : Nat} {e : TypeId} {fr : Nat × Nat} {a1 a2 : Option Addr} {c1 c2 n1 n2 : Nat} (l1 l2 : List UInt8) (hn1 : n1 = l1.length) (hn2 : n2 = l2.length)
    (h : w.heap[g]? = some (.cells #[.slice a1 n1 c1, .slice a2 n2 c2] e fr)) (hb1 : Bs w a1 c1 l1) (hb2 : Bs w a2 c2 l2) :
    Bss w (some ⟨g, 0, none⟩) 2 [l1, l2] := by
  subst hn1 hn2
  refine ⟨Nat.le_refl _, by omega, .inr ⟨g, 0, rfl, fun i hi => ?_⟩⟩
  have hi' : i < 2 := by simpa using hi
  rcases i with _ | _ | i
  · exact ⟨a1, c1, by rw [cell_of_row w g _ _ e fr h]; rfl, hb1⟩
  · exact ⟨a2, c2, by rw [cell_of_row w g _ _ e fr h]; rfl, hb2⟩
  · omega

theorem Bss.none (w : World) (a : Option Addr) (cap : Nat) (h : cap ≤ 9223372036854775807) : Bss w a cap [] := ⟨Nat.zero_le _, h, .inl rfl⟩

theorem heap_alloc_at (w : World) (o : Obj) (n : Nat) (hn : n = w.heap.size) : (w.alloc o).heap[n]? = some o := by subst hn; exact heap_alloc_new w o

/-- The slice value v is the call's own (its block is not below base), and holds the bytes l. -/
def OwnB (base : Nat) (w : World) (v : Value) (l : List UInt8) : Prop := w.ownsRow base 5 1 v l.length (l.map u8v)

theorem info_u8 : (Try.prog.info? 5).map (fun i => (i.zero, i.size, i.bytes)) = some (some (.int .u8 0), 1, 1) := by kernel_rfl

theorem OwnB.start (base : Nat) (w : World) : OwnB base w (.slice none 0 0) [] := World.ownsRow_nil _ _ _ _

theorem OwnB.shape {base : Nat} {w : World} {v : Value} {l : List UInt8} (h : OwnB base w v l) :
    (v = .slice none 0 0 ∧ l = []) ∨ ∃ g cap, v = .slice (some ⟨g, 0, none⟩) l.length cap ∧ base ≤ g ∧ g < w.heap.size ∧ l.length ≤ cap ∧ cap ≤ maxLen := by
  rcases h.2 with ⟨hv, hl⟩ | ⟨g, cap, cur, hv, hg, hh, h1, h2, h3, h4⟩
  · exact .inl ⟨hv, List.eq_nil_of_length_eq_zero hl⟩
  · exact .inr ⟨g, cap, hv, hg, (Array.getElem?_eq_some_iff.1 hh).1, h1, h2⟩

theorem OwnB.bs {base : Nat} {w : World} {v : Value} {l : List UInt8} (h : OwnB base w v l) :
    ∃ a cap, v = .slice a l.length cap ∧ Bs w a cap l ∧ v.ownBlock = a.map (·.block) ∧ (∀ x, a = some x → base ≤ x.block ∧ x.block < w.heap.size) := by
  rcases h.shape with ⟨hv, hl⟩ | ⟨g, cap, hv, hg, hgs, hc, hm⟩
  · subst hl
    exact ⟨_, _, hv, ⟨Nat.le_refl _, by omega, fun _ => rfl, .inl rfl⟩, by rw [hv]; rfl, by simp⟩
  · subst hv
    refine ⟨_, _, rfl, ⟨hc, hm, by simp, .inr ⟨g, 0, rfl, fun i hi => ?_⟩⟩, rfl, by rintro x hx; cases hx; exact ⟨hg, hgs⟩⟩
    have := World.ownsRow.cellAt h i (by simpa using hi)
    rw [Nat.zero_add, this]
    simp [List.getD, hi]

theorem OwnB.bsn {base : Nat} {w : World} {v : Value} {l : List UInt8} (h : OwnB base w v l) :
    ∃ a cap n, v = .slice a n cap ∧ n = l.length ∧ Bs w a cap l ∧ v.ownBlock = a.map (·.block) ∧ (∀ x, a = some x → base ≤ x.block ∧ x.block < w.heap.size) := by
  obtain ⟨a, cap, h1, h2⟩ := h.bs
  exact ⟨a, cap, _, h1, rfl, h2⟩

theorem OwnB.grown {base : Nat} {w w' : World} {v : Value} {l : List UInt8} {row : Option Nat} (h : OwnB base w v l) (hg : w.grownBy w' row) (hne : v.ownBlock = none ∨ v.ownBlock ≠ row) : OwnB base w' v l :=
  World.ownsRow.kept h hg hne

/-- What is owned stays owned where only blocks from B on have turned, and it lies below B. -/
theorem OwnB.below {base : Nat} {w w' : World} {v : Value} {l : List UInt8} (h : OwnB base w v l) (hb : Below w.heap.size w w') : OwnB base w' v l := by
  refine ⟨h.1, ?_⟩
  rcases h.2 with hn | ⟨g, cap, cur, rfl, hbg, hgg, rest⟩
  · exact .inl hn
  · refine .inr ⟨g, cap, cur, rfl, hbg, ?_, rest⟩
    rw [hb.block g (Array.getElem?_eq_some_iff.1 hgg).1]; exact hgg

theorem OwnB.rebase {base base' : Nat} {w : World} {v : Value} {l : List UInt8} (h : OwnB base w v l) (hb : ∀ g, v.ownBlock = some g → base' ≤ g) : OwnB base' w v l := by
  refine ⟨h.1, ?_⟩
  rcases h.2 with hn | ⟨g, cap, cur, rfl, hbg, hgg, rest⟩
  · exact .inl hn
  · exact .inr ⟨g, cap, cur, rfl, hb g rfl, hgg, rest⟩

theorem getElem_map_u8 (l : List UInt8) (j : Nat) (u : Value) (h : (l.map u8v)[j]? = some u) : j < l.length ∧ u = u8v (l.getD j 0) := by
  rw [List.getElem?_map] at h
  cases hj : l[j]? with
  | none => simp [hj] at h
  | some c =>
    obtain ⟨h1, h2⟩ := List.getElem?_eq_some_iff.1 hj
    simp [hj] at h
    exact ⟨h1, by rw [← h]; simp [List.getD, hj]⟩

theorem u8v_one (l : List UInt8) : ∀ u ∈ l.map u8v, u.oneCell' = true := by
  intro u hu
  obtain ⟨c, _, rfl⟩ := List.mem_map.1 hu
  rfl

theorem addr_add (b off j : Nat) : (⟨b, off, none⟩ : Addr).add j = ⟨b, off + j, none⟩ := by
  unfold Addr.add
  split
  · rename_i h; subst h; rfl
  · rfl

/-- append(s, x...) where s is the call's own and x is whatever bytes. -/
theorem wpList_append_bs {w : World} {ops : Array Oper} {rest : List Oper} {o : Oper} {a : Act} {Q : Exit → Act → World → Prop} (hgd : o.guard = none) (s x : Operand)
    (ho : o.op = .call { callee := .builtin .append, args := #[s, x], argTypes := #[22, 22] })
    (base : Nat) (v : Value) (l : List UInt8) (hs : a.eval s = v) (hown : OwnB base w v l)
    (ao : Option Addr) (m c : Nat) (l2 : List UInt8) (hx : a.eval x = .slice ao m c) (hm : m = l2.length) (hb : Bs w ao c l2)
    (hbytes : l.length + m ≤ 140737488355328) (hbase : base ≤ w.heap.size)
    (h : ∀ v' w', OwnB base w' v' (l ++ l2) → w.grownBy w' v.ownBlock → wpList Try.prog ops Q rest (a.put o.dst v') w') : wpList Try.prog ops Q (o :: rest) a w := by
  obtain ⟨i0, hi, hz0, hz1, hz2⟩ := info_parts info_u8
  cases ao with
  | none =>
    have hc := hb.nil rfl
    have hl2 : l2 = [] := List.eq_nil_of_length_eq_zero (by have := hb.le; omega)
    subst hl2
    subst hc
    subst hm
    refine wpList_append_own_none hgd s x 22 ho base 5 i0 1 Try.underlying22 hi v _ _ hs hown hx (h v w ?_ ⟨rfl, rfl, rfl, Nat.le_refl _, fun _ _ _ => rfl⟩)
    simpa using hown
  | some ad =>
    subst hm
    refine wpList_append_own _ hgd s x 22 ho base 5 i0 (.int .u8 0) 1 1 Try.underlying22 hi hz0 hz1 hz2 rfl (by decide) v _ _ hs hown ad _ c (l2.map u8v) hx (by simp) ?_ (u8v_one l2) (by unfold maxLen; omega) (by omega) hbase ?_
    · intro j u hu
      obtain ⟨hj, rfl⟩ := getElem_map_u8 l2 j u hu
      rcases hb.cells with h0 | ⟨b, off, had, h0⟩
      · subst h0; simp at hj
      · cases had
        have := h0 j hj
        rw [addr_add]; exact this
    · intro v' w' h1 h2 _
      refine h v' w' ?_ h2
      unfold OwnB
      rw [List.length_append, List.map_append]
      exact h1

theorem OwnB.alloc {base : Nat} {w : World} {v : Value} {l : List UInt8} (h : OwnB base w v l) (o : Obj) : OwnB base (w.alloc o) v l := World.ownsRow.alloc h o

theorem OwnB.lt {base : Nat} {w : World} {v : Value} {l : List UInt8} (h : OwnB base w v l) : ∀ k, v.ownBlock = some k → base ≤ k ∧ k < w.heap.size := World.ownsRow.lt h

theorem grownBy_trans {a b c : World} {row : Option Nat} (h : a.grownBy b row) (k : b.grownBy c row) : a.grownBy c row :=
  ⟨k.os.trans h.os, k.tape.trans h.tape, k.output.trans h.output, Nat.le_trans h.size k.size, fun i hi hr => (k.block i (Nat.lt_of_lt_of_le hi h.size) hr).trans (h.block i hi hr)⟩

theorem OwnB.belowOf {base : Nat} {w w' : World} {v : Value} {l : List UInt8} (h : OwnB base w v l) (hg : w.grownBy w' v.ownBlock) (hb : base ≤ w.heap.size) : Below base w w' :=
  (Below.refl base w).grown hg hb (fun k hk => (h.lt k hk).1)

/-- A new block of one byte, its number in whatever spelling. -/
theorem Bs.one' (w : World) (e : Int) (d : UInt8) (he : e = (d.toNat : Int)) (t : TypeId) : Bs (w.alloc (.cells #[.int .u8 e] t)) (some ⟨w.heap.size, 0, none⟩) 1 [d] := by
  subst he; exact Bs.one w d t

/-- append(s, x) of one byte, where s is the call's own. -/
theorem wpList_append_u8 {w : World} {ops : Array Oper} {rest : List Oper} {o : Oper} {a : Act} {Q : Exit → Act → World → Prop} (hgd : o.guard = none) (s x : Operand)
    (ho : o.op = .call { callee := .builtin .append, args := #[s, x], argTypes := #[22, 22] })
    (base : Nat) (v : Value) (l : List UInt8) (hs : a.eval s = v) (hown : OwnB base w v l) (e : Int) (d : UInt8) (he : e = (d.toNat : Int))
    (hx : a.eval x = .slice (some ⟨w.heap.size, 0, none⟩) 1 1) (hlen : l.length + 1 ≤ 140737488355328) (hbase : base ≤ w.heap.size)
    (h : ∀ v' w', OwnB base w' v' (l ++ [d]) → w.grownBy w' v.ownBlock → wpList Try.prog ops Q rest (a.put o.dst v') w') :
    wpList Try.prog ops Q (o :: rest) a (w.alloc (.cells #[.int .u8 e] 5)) := by
  refine wpList_append_bs hgd s x ho base v l hs (hown.alloc _) _ 1 1 [d] hx rfl (Bs.one' w e d he _) (by omega) (by simp; omega) ?_
  intro v' w' h1 h2
  exact h v' w' h1 (grownBy_trans (World.grownBy_alloc w _ _) h2)

end Go.Proofs.Ytegeglnfpddgfaa
