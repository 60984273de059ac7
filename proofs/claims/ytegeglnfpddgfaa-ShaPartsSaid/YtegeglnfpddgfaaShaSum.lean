/- Arrays of bytes in memory; the walk of sha.bytes. -/
import Derived.Test.YtegeglnfpddgfaaShaFill
namespace Go.Proofs.Ytegeglnfpddgfaa
open Go.RowKit

/-- The cells of an array of bytes. -/
def arrB (l : List UInt8) : Array Value := (l.map u8v).toArray
theorem arrB_size (l : List UInt8) : (arrB l).size = l.length := by simp [arrB]
theorem arrB_at {l : List UInt8} {j : Nat} (hj : j < l.length) : (arrB l)[j]? = some (.int .u8 ((l.getD j 0).toNat : Int)) := by
  unfold arrB
  simp [List.getD, hj, u8v]
theorem arrB_one (l : List UInt8) : (arrB l).all (·.oneCell') = true := by
  rw [Array.all_eq_true]
  intro i hi
  have h : i < l.length := by rw [arrB_size] at hi; exact hi
  have h1 := arrB_at h
  rw [Array.getElem?_eq_getElem hi] at h1
  simp only [Option.some.injEq] at h1
  rw [h1]; rfl
theorem arrB_set (l : List UInt8) (j : Nat) (v : UInt8) : (arrB l).setIfInBounds j (.int .u8 (v.toNat : Int)) = arrB (l.set j v) := by
  unfold arrB
  rw [List.setIfInBounds_toArray, List.map_set]; rfl
/-- The block g is an array of type T that holds the bytes l. -/
def ArrBAt (T : TypeId) (w : World) (g : Nat) (l : List UInt8) : Prop := w.heap[g]? = some (.cells (arrB l) T (0, 0))
section
variable {T : TypeId} {w w' : World} {g : Nat} {l : List UInt8}
theorem ArrBAt.lt (h : ArrBAt T w g l) : g < w.heap.size := (Array.getElem?_eq_some_iff.1 h).1
theorem ArrBAt.cell (h : ArrBAt T w g l) {j : Nat} (hj : j < l.length) : w.cell? ⟨g, j, none⟩ = some (.int .u8 ((l.getD j 0).toNat : Int)) := by
  rw [cell_of_row w g j _ _ _ h]; exact arrB_at hj
theorem ArrBAt.free (h : ArrBAt T w g l) (j : Nat) : w.frozen? ⟨g, j, none⟩ = false := frozen_of_row w g j _ _ h
theorem ArrBAt.set (h : ArrBAt T w g l) (j : Nat) (v : UInt8) : ArrBAt T (w.setCell ⟨g, j, none⟩ (.int .u8 (v.toNat : Int))) g (l.set j v) := by
  unfold ArrBAt
  rw [heap_setCell_same w g j _ _ _ h, arrB_set]
theorem ArrBAt.kept (h : ArrBAt T w g l) {U : Nat → Prop} (hk : Kept U w w') (hU : ¬ U g) : ArrBAt T w' g l := by
  unfold ArrBAt
  rw [hk.block g h.lt hU]; exact h
theorem ArrBAt.below (h : ArrBAt T w g l) (hb : Below w.heap.size w w') : ArrBAt T w' g l := by
  unfold ArrBAt
  rw [hb.block g h.lt]; exact h
theorem ArrBAt.row (h : ArrBAt T w g l) (l' : List UInt8) : ArrBAt T (w.setRow g (arrB l')) g l' := setRow_heap _ _ _ _ _ _ h
theorem ArrBAt.new (T : TypeId) (w : World) (l : List UInt8) : ArrBAt T (w.alloc (.cells (arrB l) T)) w.heap.size l := heap_alloc_new w _
theorem wp_loadB {o : Oper} {a : Act} {K : Act → World → Prop} {Q : Exit → Act → World → Prop} {n : Nat} {E : TypeId} (hu : Try.prog.underlying T = some (.array n E)) (hi : (Try.prog.info? T).map (·.size) = some n) (x : Operand) (ho : o.op = .load T x)
    (hx : a.eval x = .pointer (some ⟨g, 0, none⟩)) (hl : l.length = n) (hat : ArrBAt T w g l) (h : K (a.put o.dst (.agg (arrB l))) w) : o.wp Try.prog a w K Q :=
  wp_load_row T x ho g hx T (arrB l) (0, 0) _ hat hu rfl (by rw [hi, arrB_size, hl]) h
theorem wpList_loadB {ops : Array Oper} {rest : List Oper} {o : Oper} {a : Act} {Q : Exit → Act → World → Prop} {n : Nat} {E : TypeId} (hu : Try.prog.underlying T = some (.array n E)) (hi : (Try.prog.info? T).map (·.size) = some n) (hgd : o.guard = none) (x : Operand) (ho : o.op = .load T x)
    (hx : a.eval x = .pointer (some ⟨g, 0, none⟩)) (hl : l.length = n) (hat : ArrBAt T w g l) (h : wpList Try.prog ops Q rest (a.put o.dst (.agg (arrB l))) w) : wpList Try.prog ops Q (o :: rest) a w :=
  wpList_plain hgd fun _ hK => wp_loadB hu hi x ho hx hl hat (hK _ _ h)
theorem wpList_storeB {ops : Array Oper} {rest : List Oper} {o : Oper} {a : Act} {Q : Exit → Act → World → Prop} {n : Nat} (hi : (Try.prog.info? T).map (·.size) = some n) (hgd : o.guard = none) (x y : Operand) (ho : o.op = .store T x y)
    (hx : a.eval x = .pointer (some ⟨g, 0, none⟩)) (l' : List UInt8) (hy : a.eval y = .agg (arrB l')) (hl : l.length = n) (hl' : l'.length = n) (hat : ArrBAt T w g l) (h : wpList Try.prog ops Q rest (a.put o.dst undef) (w.setRow g (arrB l'))) : wpList Try.prog ops Q (o :: rest) a w :=
  wpList_store_row hgd T x y ho g (arrB l') hx hy T (arrB l) hat (by rw [hi, arrB_size, hl']) (by rw [arrB_size, arrB_size, hl, hl']) (arrB_one l') h
theorem results_arrB {fn : Func} {p : Tmp} {n : Nat} {E : TypeId} (hu : Try.prog.underlying T = some (.array n E)) (hi : (Try.prog.info? T).map (·.size) = some n) (h : fn.results = #[.cell p T]) (tmps : Array Value)
    (hp : tmps.getD p undef = .pointer (some ⟨g, 0, none⟩)) (hl : l.length = n) (hat : ArrBAt T w g l) : (results fn tmps).run Try.prog w = .ok (.agg (arrB l)) w :=
  results_cell_row h tmps w g T (arrB l) (0, 0) _ hp hat hu rfl (by rw [hi, arrB_size, hl])
end
theorem info_32 : (Try.prog.info? 24).map (·.size) = some 32 := by kernel_rfl
theorem under_32 : Try.prog.underlying 24 = some (.array 32 5) := by kernel_rfl
def b32 : List UInt8 := List.replicate 32 0
theorem b32_len : b32.length = 32 := by kernel_rfl
theorem alloc_run32 (w : World) : (Instr.alloc 24 true (.tuple #[])).run Try.prog w = .ok (.pointer (some ⟨w.heap.size, 0, none⟩)) (w.alloc (.cells (arrB b32) 24)) := by kernel_rfl
theorem wpList_alloc32 {ops : Array Oper} {rest : List Oper} {o : Oper} {a : Act} {w : World} {Q : Exit → Act → World → Prop} (hg : o.guard = none) (ho : o.op = .alloc 24)
    (h : wpList Try.prog ops Q rest (a.put o.dst (.pointer (some ⟨w.heap.size, 0, none⟩))) (w.alloc (.cells (arrB b32) 24))) : wpList Try.prog ops Q (o :: rest) a w := by
  refine wpList_plain hg fun K hK => ?_
  unfold Oper.wp
  simp only [execOp, ho, Sem.run_bind, alloc_run32, Result.andThen_ok, Sem.run_pure, Oper.upon_value]
  exact hK _ _ h

/-- A store of one byte into an array of bytes: the world behind it by a name of its own. -/
theorem wpList_storeB1 {T : TypeId} {w : World} {g : Nat} {l : List UInt8} {ops : Array Oper} {rest : List Oper} {o : Oper} {a : Act} {Q : Exit → Act → World → Prop} (hgd : o.guard = none) (x y : Operand) (ho : o.op = .store 5 x y)
    (j : Nat) (hx : a.eval x = .pointer (some ⟨g, j, none⟩)) (d : UInt8) (v : Value) (hy : a.eval y = v) (hv : v = .int .u8 (d.toNat : Int)) (hat : ArrBAt T w g l) (hj : j < l.length)
    (h : ∀ w', Hid (ArrBAt T w' g (l.set j d)) → Hid (Kept (· = g) w w') → wpList Try.prog ops Q rest (a.put o.dst undef) w') : wpList Try.prog ops Q (o :: rest) a w := by
  refine wpList_plain hgd fun K hK => ?_
  have h2 := h (w.setCell ⟨g, j, none⟩ (.int .u8 (d.toNat : Int))) (hat.set j d) (Kept.setCell (T := (· = g)) _ _ _ rfl)
  have hc := hat.cell hj
  have hf := hat.free j
  have hk := hK _ _ h2
  clear h h2 hK
  subst hv
  unfold Oper.wp execOp
  simp only [ho, hx, hy]
  go_simp
  exact hk

/-- The bytes of the first k words, the rest zero. -/
def padB (s : List Nat) (k : Nat) : List UInt8 := bytesN (s.take k) ++ List.replicate (32 - 4 * k) 0
theorem bytesN_flat (s : List Nat) : (bytesN s).length = 4 * s.length := by
  unfold bytesN
  induction s with
  | nil => rfl
  | cons c s ih => rw [List.flatMap_cons, List.length_append, ih]; simp [be4]; omega
theorem padB_len {s : List Nat} (hs : s.length = 8) {k : Nat} (hk : k ≤ 8) : (padB s k).length = 32 := by
  unfold padB
  rw [List.length_append, bytesN_flat, List.length_take, List.length_replicate]; omega
theorem padB_0 (s : List Nat) : padB s 0 = b32 := by unfold padB b32; simp [bytesN]
theorem padB_8 {s : List Nat} (hs : s.length = 8) : padB s 8 = bytesN s := by unfold padB; rw [List.take_of_length_le (by omega)]; simp
theorem padB_step {s : List Nat} (hs : s.length = 8) {k : Nat} (hk : k < 8) (b0 b1 b2 b3 : UInt8) (hb : be4 (s.getD k 0) = [b0, b1, b2, b3]) :
    ((((padB s k).set (4 * k) b0).set (4 * k + 1) b1).set (4 * k + 2) b2).set (4 * k + 3) b3 = padB s (k + 1) := by
  have hl : (bytesN (s.take k)).length = 4 * k := by rw [bytesN_flat, List.length_take]; omega
  have ht : bytesN (s.take (k + 1)) = bytesN (s.take k) ++ [b0, b1, b2, b3] := by
    rw [take_snoc s 0 k (by omega)]
    unfold bytesN
    rw [List.flatMap_append, ← hb]; simp
  unfold padB
  rw [ht, show 32 - 4 * k = (32 - 4 * (k + 1)) + 1 + 1 + 1 + 1 by omega]
  simp only [List.replicate_succ]
  rw [List.set_append_right _ _ (by omega), List.set_append_right _ _ (by omega), List.set_append_right _ _ (by omega), List.set_append_right _ _ (by omega), hl,
    Nat.sub_self, show 4 * k + 1 - 4 * k = 1 by omega, show 4 * k + 2 - 4 * k = 2 by omega, show 4 * k + 3 - 4 * k = 3 by omega, List.append_assoc]
  rfl

set_option maxRecDepth 100000 in
set_option maxHeartbeats 400000 in
theorem bytes_any (s : List Nat) (h8 : Is8 s) (w : World) :
    Calls Try.prog 30 #[.agg (arr s)] w fun e w' => e = .returned (.agg (arrB (bytesN s))) ∧ Below w.heap.size w w' := by
  have HL8 := Lib.hid h8.1
  have HV8 := Lib.hid h8.2
  obtain ⟨w1, hw1⟩ : ∃ w1, w1 = ((w.alloc (.cells (arr s) 29)).alloc (.cells (arrB b32) 24)).alloc (.cells (arrB b32) 24) := ⟨_, rfl⟩
  obtain ⟨G, hG⟩ : ∃ G, G = w.heap.size := ⟨_, rfl⟩
  have hs1 : ((w.alloc (.cells (arr s) 29)).alloc (.cells (arrB b32) 24)).heap.size = G + 2 := by rw [hG]; simp
  have hat0 : ArrAt 29 w1 G s := by
    rw [hw1, hG]; unfold ArrAt; rw [heap_alloc_old _ _ (by simp; omega)]; exact heap_alloc2_old w _ _
  have hat1 : ArrBAt 24 w1 (G + 1) b32 := by
    rw [hw1, hG]; unfold ArrBAt; rw [heap_alloc_old _ _ (by simp)]; exact heap_alloc2_new w _ _
  have hat2 : ArrBAt 24 w1 (G + 2) b32 := by rw [hw1, ← hs1]; exact heap_alloc_new _ _
  have hb1 : Below w.heap.size w w1 := by rw [hw1]; exact (((Below.refl _ _).alloc (Nat.le_refl _) _).alloc (by simp) _).alloc (by simp; omega) _
  have HW1 := Lib.hid hw1
  have HG := Lib.hid hG
  have HA0 := Lib.hid hat0
  have HA1 := Lib.hid hat1
  have HA2 := Lib.hid hat2
  clear hw1 hG hat0 hat1 hat2 hs1 h8
  go_enter Try.func30, Try.ntmps30
  go_wp2_with (first
    | (with_reducible refine wpList_box_arr (T := 29) (l := s) rfl (.tmp 0) rfl rfl ?_)
    | (with_reducible refine wpList_alloc32 rfl rfl ?_)
    | ((try rw [← HW1.out]); (try rw [← HG.out]); with_reducible refine wpList_load_arr (T := 29) under_8 info_8 rfl (.tmp 1) rfl rfl HL8.out HA0.out ?_))
  try rw [← HG.out]
  try rw [show G + 1 + 1 = G + 2 from rfl]
  go_loopw [4, 5, 7] (fun _ _ i wr => ∃ k : Nat, k ≤ 8 ∧ i = .int .i64 (k : Int) ∧ ArrBAt 24 wr (G + 2) (padB s k) ∧ ArrBAt 24 wr (G + 1) b32 ∧ Below w.heap.size w wr) (fun _ _ i _ => 8 - (intOf i).toNat)
  case atStart => exact ⟨0, Nat.zero_le _, rfl, by rw [padB_0]; exact HA2.out, HA1.out, hb1⟩
  case round =>
    obtain ⟨k, hk, rfl, hat, hatr, hbr⟩ := hrel
    have HA := Lib.hid hat
    have HAR := Lib.hid hatr
    clear hat hatr
    by_cases hlt : k < 8
    · have hx := run_index_arr under_8 s k HL8.out hlt
      have hv := getD_lt32 HV8.out k
      have HST := padB_step HL8.out hlt
      obtain ⟨v, hvd⟩ : ∃ v, v = s.getD k 0 := ⟨_, rfl⟩
      rw [← hvd] at hx hv HST
      obtain ⟨d0, hd0⟩ : ∃ d, d = UInt8.ofNat (v / 16777216 % 256) := ⟨_, rfl⟩
      obtain ⟨d1, hd1⟩ : ∃ d, d = UInt8.ofNat (v / 65536 % 256) := ⟨_, rfl⟩
      obtain ⟨d2, hd2⟩ : ∃ d, d = UInt8.ofNat (v / 256 % 256) := ⟨_, rfl⟩
      obtain ⟨d3, hd3⟩ : ∃ d, d = UInt8.ofNat (v % 256) := ⟨_, rfl⟩
      have HSTEP := Lib.hid (HST d0 d1 d2 d3 (by unfold be4; rw [hd0, hd1, hd2, hd3]))
      have e0 : (v : Int) / 16777216 = (d0.toNat : Int) := by rw [hd0]; simp; omega
      have e0' : (v : Int) / 16777216 % 256 = (d0.toNat : Int) := by rw [hd0]; simp
      have e1 : (v : Int) / 65536 % 256 = (d1.toNat : Int) := by rw [hd1]; simp
      have e2 : (v : Int) / 256 % 256 = (d2.toNat : Int) := by rw [hd2]; simp
      have e3 : (v : Int) % 256 = (d3.toNat : Int) := by rw [hd3]; simp
      obtain ⟨q, hq⟩ : ∃ q, q = 4 * k := ⟨_, rfl⟩
      rw [← hq] at HSTEP
      have hqe : 4 * (k : Int) = (q : Int) := by omega
      have hq32 : (q : Int) + 3 < 32 := by omega
      have hql : q + 3 < 32 := by omega
      have HPL := Lib.hid (padB_len HL8.out hk)
      have j0 : Hid (q < (padB s k).length) := by show _ < _; rw [HPL.out]; omega
      have j1 : Hid (q + 1 < ((padB s k).set q d0).length) := by show _ < _; rw [List.length_set, HPL.out]; omega
      have j2 : Hid (q + 2 < (((padB s k).set q d0).set (q + 1) d1).length) := by show _ < _; rw [List.length_set, List.length_set, HPL.out]; omega
      have j3 : Hid (q + 3 < ((((padB s k).set q d0).set (q + 1) d1).set (q + 2) d2).length) := by show _ < _; rw [List.length_set, List.length_set, List.length_set, HPL.out]; omega
      clear hd0 hd1 hd2 hd3 hq HST hvd
      go_wp2_with (first
        | ((with_reducible refine wpList_storeB1 (T := 24) rfl (.tmp 33) (.tmp 24) rfl q rfl d0 (.int .u8 (d0.toNat : Int)) rfl rfl HA.out j0.out ?_); intro wa ha ka)
        | ((with_reducible refine wpList_storeB1 (T := 24) rfl (.tmp 34) (.tmp 27) rfl (q + 1) rfl d1 (.int .u8 (d1.toNat : Int)) rfl rfl ha.out j1.out ?_); intro wb hb kb)
        | ((with_reducible refine wpList_storeB1 (T := 24) rfl (.tmp 35) (.tmp 30) rfl (q + 2) rfl d2 (.int .u8 (d2.toNat : Int)) rfl rfl hb.out j2.out ?_); intro wc hc kc)
        | ((with_reducible refine wpList_storeB1 (T := 24) rfl (.tmp 36) (.tmp 32) rfl (q + 3) rfl d3 (.int .u8 (d3.toNat : Int)) rfl rfl hc.out j3.out ?_); intro wd hd kd))
      have hKd : Kept (· = G + 2) wr wd := ((ka.out.trans kb.out (fun i hi => .inl hi)).trans kc.out (fun i hi => .inl hi)).trans kd.out (fun i hi => .inl hi)
      have h1 : ArrBAt 24 wd (G + 2) (padB s (k + 1)) := by rw [← HSTEP.out]; exact hd.out
      have HF : Hid (ArrBAt 24 wd (G + 2) (padB s (k + 1)) ∧ ArrBAt 24 wd (G + 1) b32 ∧ Below w.heap.size w wd) := ⟨h1, HAR.out.kept hKd (by omega), hbr.trans (hKd.below hbr.size (fun i hi => by have := HG.out; omega))⟩
      clear hKd h1
      go_roundw
      case rel => exact ⟨k + 1, by omega, by go_num, HF.out.1, HF.out.2.1, HF.out.2.2⟩
      case measure => simp [intOf] <;> omega
    · obtain rfl : k = 8 := by omega
      have HE : Hid (ArrBAt 24 wr (G + 2) (bytesN s)) := by show ArrBAt _ _ _ _; rw [← padB_8 HL8.out]; exact HA.out
      have HLB : Hid ((bytesN s).length = 32) := by show _ = _; rw [bytesN_flat, HL8.out]
      go_wp2_with (first
        | (with_reducible refine wpList_loadB (T := 24) under_32 info_32 rfl (.tmp 3) rfl rfl HLB.out HE.out ?_)
        | (with_reducible refine wpList_storeB (T := 24) (n := 32) info_32 rfl (.tmp 2) (.tmp 38) rfl rfl (bytesN s) rfl b32_len HLB.out HAR.out ?_))
      refine bodyPost_ret (results_arrB (T := 24) under_32 info_32 rfl _ rfl HLB.out (HAR.out.row (bytesN s))) rfl ⟨rfl, ?_⟩
      exact below_setRow hbr (by have := HG.out; omega) _
end Go.Proofs.Ytegeglnfpddgfaa
