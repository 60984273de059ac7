/- A slice of bytes that is a window of a block of the call's own: reslicing, and append. -/
import Derived.Test.YtegeglnfpddgfaaShaSum
import Derived.Deep.Upon
namespace Go.Proofs.Ytegeglnfpddgfaa
open Go.RowKit

/-- The slice value v is a window of a block that is not below base, and holds the bytes l; what stands behind it may be written. -/
def OwnW (base : Nat) (w : World) (v : Value) (l : List UInt8) : Prop :=
  ∃ a cap, v = .slice a l.length cap ∧ l.length ≤ cap ∧ cap ≤ maxLen ∧ ((a = none ∧ cap = 0) ∨ ∃ g off, a = some ⟨g, off, none⟩ ∧ base ≤ g ∧ g < w.heap.size ∧
    (∀ j, j < l.length → w.cell? ⟨g, off + j, none⟩ = some (u8v (l.getD j 0))) ∧ ∀ j, j < cap → (w.cell? ⟨g, off + j, none⟩).isSome = true ∧ w.frozen? ⟨g, off + j, none⟩ = false)

theorem OwnW.start (base : Nat) (w : World) : OwnW base w (.slice none 0 0) [] := ⟨none, 0, rfl, Nat.le_refl _, by decide, .inl ⟨rfl, rfl⟩⟩
theorem OwnW.bsn {base : Nat} {w : World} {v : Value} {l : List UInt8} (h : OwnW base w v l) :
    ∃ a cap n, v = .slice a n cap ∧ n = l.length ∧ Bs w a cap l ∧ v.ownBlock = a.map (·.block) ∧ (∀ x, a = some x → base ≤ x.block ∧ x.block < w.heap.size) := by
  obtain ⟨a, cap, hv, hle, hmax, hr⟩ := h
  have htop : cap ≤ 9223372036854775807 := by simpa [maxLen] using hmax
  rcases hr with ⟨ha, hc⟩ | ⟨g, off, ha, hb, hg, hcell, _⟩
  · refine ⟨a, cap, _, hv, rfl, ⟨hle, htop, fun _ => hc, .inl (List.eq_nil_of_length_eq_zero (by omega))⟩, by rw [hv, ha]; rfl, by rw [ha]; simp⟩
  · refine ⟨a, cap, _, hv, rfl, ⟨hle, htop, by rw [ha]; simp, .inr ⟨g, off, ha, hcell⟩⟩, by rw [hv, ha]; rfl, by rw [ha]; rintro x hx; cases hx; exact ⟨hb, hg⟩⟩
theorem OwnW.keptT {base : Nat} {w w' : World} {v : Value} {l : List UInt8} (h : OwnW base w v l) {T : Nat → Prop} (hk : Kept T w w') (hT : ∀ k, v.ownBlock = some k → ¬ T k) : OwnW base w' v l := by
  obtain ⟨a, cap, hv, hle, hmax, hr⟩ := h
  refine ⟨a, cap, hv, hle, hmax, ?_⟩
  rcases hr with hr | ⟨g, off, ha, hb, hg, hcell, hsp⟩
  · exact .inl hr
  · have hblk := hk.block g hg (hT g (by rw [hv, ha]; rfl))
    refine .inr ⟨g, off, ha, hb, Nat.lt_of_lt_of_le hg hk.size, fun j hj => ?_, fun j hj => ?_⟩
    · rw [World.cell?_of_block (w := w) (a := ⟨g, off + j, none⟩) hblk]; exact hcell j hj
    · rw [World.cell?_of_block (w := w) (a := ⟨g, off + j, none⟩) hblk, World.frozen?_of_block (w := w) (a := ⟨g, off + j, none⟩) hblk]; exact hsp j hj
theorem OwnW.below {base : Nat} {w w' : World} {v : Value} {l : List UInt8} (h : OwnW base w v l) (hb : Below w.heap.size w w') : OwnW base w' v l :=
  h.keptT (T := fun _ => False) (Kept.ofBelow hb _) (fun _ _ h => h)
theorem OwnW.lt {base : Nat} {w : World} {v : Value} {l : List UInt8} (h : OwnW base w v l) : ∀ k, v.ownBlock = some k → base ≤ k ∧ k < w.heap.size := by
  obtain ⟨a, cap, n, hv, _, _, ho, hx⟩ := h.bsn
  intro k hk
  rw [ho] at hk
  obtain ⟨x, hxa, rfl⟩ := Option.map_eq_some_iff.1 hk
  exact hx x hxa
/-- v[lo:]. -/
theorem OwnW.cutFrom {base : Nat} {w : World} {a : Option Addr} {n cap : Nat} {l : List UInt8} (h : OwnW base w (.slice a n cap) l) {lo : Nat} (hlo : lo ≤ n) (h0 : 0 < lo) : OwnW base w (.slice (cutA a cap lo) (n - lo) (cap - lo)) (l.drop lo) ∧ (Value.slice (cutA a cap lo) (n - lo) (cap - lo)).ownBlock = (Value.slice a n cap).ownBlock := by
  obtain ⟨a', cap', hv, hle, hmax, hr⟩ := h
  cases hv
  have hld : (l.drop lo).length = l.length - lo := List.length_drop
  rcases hr with ⟨ha, hc⟩ | ⟨g, off, ha, hb, hg, hcell, hsp⟩
  · omega
  subst ha
  by_cases hc : cap = lo
  · have e : cutA (some ⟨g, off, none⟩) cap lo = some ⟨g, off, none⟩ := if_pos hc
    rw [e]
    have hl0 : l.drop lo = [] := List.eq_nil_of_length_eq_zero (by omega)
    refine ⟨⟨_, _, by rw [hld], by omega, by unfold maxLen at *; omega, .inr ⟨g, off, rfl, hb, hg, fun j hj => by omega, fun j hj => by omega⟩⟩, rfl⟩
  · have e : cutA (some ⟨g, off, none⟩) cap lo = some ⟨g, off + lo, none⟩ := by
      unfold cutA; rw [if_neg hc]; simp only [Option.map_some, addr_add]
    rw [e]
    refine ⟨⟨_, _, by rw [hld], by omega, by unfold maxLen at *; omega, .inr ⟨g, off + lo, rfl, hb, hg, fun j hj => ?_, fun j hj => ?_⟩⟩, rfl⟩
    · rw [Nat.add_assoc, hcell (lo + j) (by omega)]
      congr 2
      simp [List.getD, List.getElem?_drop]
    · rw [Nat.add_assoc]; exact hsp (lo + j) (by omega)

theorem kept_setCells (g : Nat) : ∀ (vs : List Value) (o : Nat) (w : World), Kept (· = g) w (w.setCells g o vs)
  | [], _, _ => Kept.refl _ _
  | v :: r, o, w => (Kept.setCell (T := (· = g)) w ⟨g, o, none⟩ v rfl).trans (kept_setCells g r (o + 1) _) (fun _ hi => .inl hi)

set_option maxHeartbeats 1000000 in
theorem run_append_w (w : World) (base : Nat) (ty : TypeId) (v : Value) (l : List UInt8) (h : OwnW base w v l) (hbase : base ≤ w.heap.size) (ao : Option Addr) (m c : Nat) (l2 : List UInt8) (hm : m = l2.length) (hb : Bs w ao c l2)
    (hbytes : l.length + m ≤ 140737488355328) :
    ∃ v' w', (Builtin.append_ #[22, 22] ty #[v, .slice ao m c]).run Try.prog w = .ok v' w' ∧ OwnW base w' v' (l ++ l2) ∧ Kept (fun k => v.ownBlock = some k) w w' ∧ Near w v v' := by
  obtain ⟨i0, hi, hz0, hz1, hz2⟩ := info_parts info_u8
  subst hm
  have hu := Try.underlying22
  have hsrc : Src Try.prog i0.size 22 (.slice ao l2.length c) l2.length (l2.map u8v) w := by
    rw [hz1]
    rcases hb.cells with h0 | ⟨b, off, ha, hc⟩
    · subst h0
      cases ao with
      | none => exact Src.ofNil w hu c
      | some x => exact Src.ofSlice w hu x 0 c [] (by simp) (by simp) (by simp)
    · subst ha
      refine Src.ofSlice w hu ⟨b, off, none⟩ l2.length c (l2.map u8v) (by simp) ?_ (u8v_one l2)
      intro j u hj
      obtain ⟨h1, rfl⟩ := getElem_map_u8 l2 j u hj
      rw [addr_add]; exact hc j h1
  obtain ⟨a, cap, rfl, hle, hmax, hr⟩ := h
  by_cases hroom : l.length + l2.length ≤ cap
  · rcases hr with ⟨ha, hc0⟩ | ⟨g, off, ha, hbg, hg, hcell, hsp⟩
    · have hl0 : l = [] := List.eq_nil_of_length_eq_zero (by omega)
      have hl2 : l2 = [] := List.eq_nil_of_length_eq_zero (by omega)
      subst hl0 hl2 ha hc0
      have hrun := run_append_nothing (P := Try.prog) w 22 22 ty 5 i0 hu hi none 0 0 (Nat.le_refl _) _ hsrc
      exact ⟨_, w, hrun, OwnW.start _ _, Kept.refl _ _, Near.refl _ _⟩
    · subst ha
      have hrun := run_append_room_src (P := Try.prog) w 22 22 ty 5 i0 hu hi g off l.length cap _ l2.length (l2.map u8v) hsrc hroom
        (fun j hj => by rw [hz1, Nat.mul_one, Nat.add_assoc]; exact (hsp _ (by simp at hj; omega)).1) (fun j hj => by rw [hz1, Nat.mul_one, Nat.add_assoc]; exact (hsp _ (by simp at hj; omega)).2)
      rw [hz1, Nat.mul_one] at hrun
      refine ⟨_, _, hrun, ⟨_, _, by rw [List.length_append], by rw [List.length_append]; exact hroom, hmax, .inr ⟨g, off, rfl, hbg, Nat.lt_of_lt_of_le hg (kept_setCells g _ _ w).size, fun j hj => ?_, fun j hj => ⟨?_, ?_⟩⟩⟩, (kept_setCells g _ _ w).mono (fun i hi => by subst hi; rfl), fun k hk => .inl hk⟩
      · by_cases hj1 : j < l.length
        · rw [World.cell?_setCells_out g _ _ _ _ (fun _ _ => Or.inl (by show off + j < off + l.length; omega)), hcell j hj1]
          congr 2
          simp [List.getD, List.getElem?_append_left hj1]
        · have hj2 : j - l.length < (l2.map u8v).length := by rw [List.length_append] at hj; simp; omega
          have hin := World.cell?_setCells_in g (l2.map u8v) (off + l.length) w (fun i hi => by rw [Nat.add_assoc]; exact (hsp _ (by simp at hi; omega)).1) (j - l.length) hj2
          rw [show off + l.length + (j - l.length) = off + j by omega] at hin
          rw [hin]
          have hj3 : j - l.length < l2.length := by simpa using hj2
          simp [List.getD, List.getElem?_append_right (show l.length ≤ j by omega), hj3]
      · by_cases hin : l.length ≤ j ∧ j < l.length + l2.length
        · have hj2 : j - l.length < (l2.map u8v).length := by simp; omega
          have hh := World.cell?_setCells_in g (l2.map u8v) (off + l.length) w (fun i hi => by rw [Nat.add_assoc]; exact (hsp _ (by simp at hi; omega)).1) (j - l.length) hj2
          rw [show off + l.length + (j - l.length) = off + j by omega] at hh
          rw [hh]; rfl
        · rw [World.cell?_setCells_out g _ _ _ _ (fun _ _ => by show off + j < off + l.length ∨ off + l.length + (l2.map u8v).length ≤ off + j; simp; omega)]
          exact (hsp j hj).1
      · rw [World.frozen?_setCells g _ _ _ _]; exact (hsp j hj).2
  · have hold : (Builtin.firstCells i0.size l.length (.slice a l.length cap)).run Try.prog w.drew = .ok (l.map u8v).toArray w.drew := by
      rw [hz1]
      rcases hr with ⟨ha, hc0⟩ | ⟨g, off, ha, hbg, hg, hcell, hsp⟩
      · have hl0 : l = [] := List.eq_nil_of_length_eq_zero (by omega)
        subst hl0 ha
        exact run_firstCells_none w.drew 1 0 0 cap
      · subst ha
        refine run_firstCells_some w.drew 1 l.length ⟨g, off, none⟩ l.length cap (l.map u8v) (by simp) ?_
        intro j u hj
        obtain ⟨h1, rfl⟩ := getElem_map_u8 l j u hj
        rw [addr_add]; exact hcell j h1
    have h63 : ((l.length + l2.length : Nat) : Int) ≤ 9223372036854775807 := by omega
    have hrun := run_append_grow_src (P := Try.prog) w 22 22 ty 5 i0 (.int .u8 0) hu hi hz0 a l.length cap (l.map u8v) hold _ l2.length (l2.map u8v) hsrc (by omega) h63 (by rw [hz2]; exact growslice_fits (by omega) (by omega))
    have hge := grownCap_ge w (l.length + l2.length) cap 5
    have hcm := grownCap_le_maxLen w (l.length + l2.length) cap 5 (by unfold maxLen; omega)
    generalize grownCap w (l.length + l2.length) cap 5 = C at *
    have hsize : ((l.map u8v ++ l2.map u8v).toArray ++ Builtin.zeroCells (Value.int .u8 0).cells (C - (l.length + l2.length))).size = C := by
      rw [Array.size_append, List.size_toArray, size_zeroCells]
      have h1 : (Value.int .u8 0).cells.size = 1 := rfl
      rw [h1]; simp; omega
    refine ⟨_, _, hrun, ⟨_, C, by rw [List.length_append], by rw [List.length_append]; exact hge, hcm, .inr ⟨w.heap.size, 0, rfl, hbase, by show w.heap.size < (w.heap.push _).size; simp, fun j hj => ?_, fun j hj => ⟨?_, ?_⟩⟩⟩, (Kept.drew _ w).trans (Kept.alloc (fun _ => False) _ _) (fun i hi => hi.elim), fun k hk => .inr (by cases hk; exact Nat.le_refl _)⟩
    · rw [Nat.zero_add]
      refine Eq.trans (World.cell?_alloc_new w.drew _ _ j) ?_
      rw [Array.getElem?_append_left (by rw [List.length_append] at hj; simpa using hj), List.getElem?_toArray, ← List.map_append, List.getElem?_map, List.getElem?_eq_getElem hj]
      have e : (l ++ l2).getD j 0 = (l ++ l2)[j] := by rw [List.getD, List.getElem?_eq_getElem hj]; rfl
      rw [e]; rfl
    · have e1 := World.cell?_alloc_new w.drew ((l.map u8v ++ l2.map u8v).toArray ++ Builtin.zeroCells (Value.int .u8 0).cells (C - (l.length + l2.length))) 5 j
      rw [Array.getElem?_eq_getElem (by rw [hsize]; exact hj)] at e1
      rw [Nat.zero_add]
      refine Eq.trans (congrArg Option.isSome e1) rfl
    · rw [Nat.zero_add]; exact World.frozen?_alloc_new w.drew _ _ j

theorem wpList_append_w {w : World} {ops : Array Oper} {rest : List Oper} {o : Oper} {a : Act} {Q : Exit → Act → World → Prop} (hgd : o.guard = none) (s x : Operand)
    (ho : o.op = .call { callee := .builtin .append, args := #[s, x], argTypes := #[22, 22] })
    (base : Nat) (v : Value) (l : List UInt8) (hs : a.eval s = v) (hown : OwnW base w v l)
    (ao : Option Addr) (m c : Nat) (l2 : List UInt8) (hx : a.eval x = .slice ao m c) (hm : m = l2.length) (hb : Bs w ao c l2)
    (hbytes : l.length + m ≤ 140737488355328) (hbase : base ≤ w.heap.size)
    (h : ∀ v' w', OwnW base w' v' (l ++ l2) → Kept (fun k => v.ownBlock = some k) w w' → Near w v v' → wpList Try.prog ops Q rest (a.put o.dst v') w') : wpList Try.prog ops Q (o :: rest) a w := by
  refine wpList_plain hgd fun K hK => ?_
  obtain ⟨v', w', hrun, h1, h2, h3⟩ := run_append_w w base o.type v l hown hbase ao m c l2 hm hb hbytes
  unfold Oper.wp execOp
  simp only [ho, resolve, invoke, builtin, Sem.run_bind, Sem.run_pure, Result.andThen_ok, List.map_toArray, List.map_cons, List.map_nil, hs, hx, hrun]
  exact hK _ _ (h v' w' h1 h2 h3)
end Go.Proofs.Ytegeglnfpddgfaa
