/- The base of the walks, third part: memory, calls, control. -/
import Derived.Test.YtlkbokbcfajhjaaGreatB1
namespace Go.Proofs.Walk
open Go
set_option linter.unusedVariables false
set_option linter.unusedSimpArgs false

section
variable {P : Program} {r : Option Nat} {n : Nat} {ds : List Deferred} {W0 : World} {M : List Nat}

/-! ### cells -/

/-- The cells of block b from off on hold vs. -/
def Cells (W : World) (b off : Nat) (vs : List Value) : Prop := ∀ i v, vs[i]? = some v → W.cell? ⟨b, off + i, none⟩ = some v

theorem Cells.ext {w w' : World} (h : Ext w w') {b off : Nat} {vs : List Value} (hc : Cells w b off vs) : Cells w' b off vs := fun i v hi => h.cell (hc i v hi)

theorem Cells.base {hs : List (Nat × Obj)} {W : World} (hR : Rep W0 M hs W) {b off : Nat} {vs : List Value} (hb : b ∉ M) (hc : Cells W0 b off vs) : Cells W b off vs := fun i v hi => by
  have h := hc i v hi
  rw [← h]
  exact cell_of_block (hR.same b (block_of_cell h) hb)

theorem cell_own {W : World} {b i : Nat} {c : Array Value} {e : TypeId} {fz : Nat × Nat} (h : W.heap[b]? = some (.cells c e fz)) : W.cell? ⟨b, i, none⟩ = c[i]? := by
  simp [World.cell?, h]

theorem cells_own {W : World} {b off m : Nat} {c : Array Value} {e : TypeId} {fz : Nat × Nat} (h : W.heap[b]? = some (.cells c e fz)) : Cells W b off (c.extract off (off + m)).toList := by
  intro i v hi
  rw [cell_own h]
  rw [Array.toList_extract] at hi
  simp only [List.extract] at hi
  rw [List.getElem?_take] at hi
  split at hi
  · rw [List.getElem?_drop] at hi; simpa using hi
  · cases hi

theorem run_loadCellsFrom {W : World} {b off : Nat} : ∀ (m i : Nat) (acc : Array Value) (vs : List Value), vs.length = m → Cells W b (off + i) vs →
    (loadCellsFrom ⟨b, off, none⟩ i m acc).run P W = .ok (acc ++ vs.toArray) W
  | 0, i, acc, vs, hl, _ => by
    have : vs = [] := List.length_eq_zero_iff.1 hl
    subst this
    simp [loadCellsFrom, Sem.run_pure]
  | m + 1, i, acc, vs, hl, hc => by
    match vs, hl with
    | v :: vs, hl =>
      have h0 := hc 0 v rfl
      have hc' : Cells W b (off + (i + 1)) vs := fun j u hj => by
        have := hc (j + 1) u (by simpa using hj)
        rw [← this]; congr 2; omega
      have hld : (load (Addr.add ⟨b, off, none⟩ i)).run P W = .ok v W := by
        rw [addr_add]
        simp only [load, Sem.run]
        rw [show off + i = off + i + 0 from rfl, h0]
      simp only [loadCellsFrom, Sem.run_bind, hld, Result.andThen_ok]
      rw [run_loadCellsFrom m (i + 1) _ vs (by simpa using hl) hc']
      simp

theorem run_loadCells {W : World} {b off : Nat} {vs : List Value} (hc : Cells W b off vs) : (loadCells ⟨b, off, none⟩ vs.length).run P W = .ok vs.toArray W := by
  unfold loadCells
  rw [run_loadCellsFrom vs.length 0 _ vs rfl (by simpa using hc)]
  simp

/-- What a load of type t comes to, of the cells vs. -/
def loaded (P : Program) (t : TypeId) (vs : List Value) : Option Value :=
  match isAggB P t with
  | some true =>
    match P.info? t with
    | some inf => if Nat.beq inf.size vs.length then some (.agg vs.toArray) else none
    | none => none
  | some false =>
    match vs with
    | [v] => some v
    | _ => none
  | none => none

theorem run_loadVar {t : TypeId} {W : World} {b off : Nat} {vs : List Value} {v : Value} (hl : loaded P t vs = some v) (hc : Cells W b off vs) : (loadVar t ⟨b, off, none⟩).run P W = .ok v W := by
  unfold loaded at hl
  split at hl
  · rename_i ha
    split at hl
    · rename_i inf hinf
      split at hl
      · rename_i hsz
        cases hl
        have hs := Nat.eq_of_beq_eq_true hsz
        simp only [loadVar, Sem.run_bind, run_isAggB ha, Result.andThen_ok, if_true, sizeOf, run_typeInfo hinf, Sem.run_pure, hs, run_loadCells hc]
      · cases hl
    · cases hl
  · rename_i ha
    split at hl
    · rename_i u
      cases hl
      have h0 := hc 0 v rfl
      simp only [loadVar, Sem.run_bind, run_isAggB ha, Result.andThen_ok, Bool.false_eq_true, if_false, load, Sem.run]
      rw [show off = off + 0 from rfl, h0]
    · cases hl
  · cases hl

theorem run_load {l : List (Nat × Value)} {o : Oper} {t : TypeId} {x : Operand} {b off : Nat} (ho : o.op = .load t x) (hx : ev l x = some (.pointer (some ⟨b, off, none⟩))) {W : World} {vs : List Value} {v : Value}
    (hl : loaded P t vs = some v) (hc : Cells W b off vs) : (execOp (evD l) o).run P W = .ok (.value v) W := by
  unfold execOp
  rw [ho]
  refine run_value ?_
  have e1 : evD l x = .pointer (some ⟨b, off, none⟩) := by simp [evD, hx]
  rw [e1]
  simp only [Instr.loadAt, Instr.sureAddr, Sem.run_bind, Sem.run_pure, Result.andThen_ok, run_loadVar hl hc]

/-- A load of memory that was there. -/
theorem opsT_loadBase {ops : Array Oper} {Q : Exit → Act → World → Prop} {i : Nat} {rest : List Nat} {l : List (Nat × Value)} {hs : List (Nat × Obj)} {o : Oper} {d : Nat}
    {t : TypeId} {x : Operand} (b off : Nat) (vs : List Value) (v : Value)
    (ho : ops[i]? = some o) (hw : wantedL ops l o = some true) (hk : known l o.op = true) (hd : o.dst = some d) (hdn : Nat.blt d n = true)
    (hop : o.op = .load t x) (hx : ev l x = some (.pointer (some ⟨b, off, none⟩))) (hl : loaded P t vs = some v)
    (hb : b ∉ M) (hc : Cells W0 b off vs)
    (k : OpsT P r n ds W0 M ops Q rest (setL l d v) hs) : OpsT P r n ds W0 M ops Q (i :: rest) l hs :=
  opsT_value ho hw hk hd hdn (fun _ hR => run_load hop hx hl (hc.base hR hb)) k

/-- A load of a block of one's own. -/
theorem opsT_loadOwn {ops : Array Oper} {Q : Exit → Act → World → Prop} {i : Nat} {rest : List Nat} {l : List (Nat × Value)} {hs : List (Nat × Obj)} {o : Oper} {d : Nat}
    {t : TypeId} {x : Operand} (k : Nat) (b off m : Nat) (c : Array Value) (e : TypeId) (fz : Nat × Nat) (v : Value)
    (ho : ops[i]? = some o) (hw : wantedL ops l o = some true) (hk : known l o.op = true) (hd : o.dst = some d) (hdn : Nat.blt d n = true)
    (hop : o.op = .load t x) (hx : ev l x = some (.pointer (some ⟨b, off, none⟩))) (hh : hs[k]? = some (b, .cells c e fz)) (hl : loaded P t (c.extract off (off + m)).toList = some v)
    (kk : OpsT P r n ds W0 M ops Q rest (setL l d v) hs) : OpsT P r n ds W0 M ops Q (i :: rest) l hs :=
  opsT_value ho hw hk hd hdn (fun _ hR => run_load hop hx hl (cells_own (hR.own _ _ (List.mem_of_getElem? hh)))) kk

/-! ### new blocks -/

theorem opsT_box {ops : Array Oper} {Q : Exit → Act → World → Prop} {i : Nat} {rest : List Nat} {l : List (Nat × Value)} {hs : List (Nat × Obj)} {o : Oper} {d : Nat}
    {t : TypeId} {x : Operand} (v : Value)
    (ho : ops[i]? = some o) (hw : wantedL ops l o = some true) (hk : known l o.op = true) (hd : o.dst = some d) (hdn : Nat.blt d n = true)
    (hop : o.op = .box t x) (hx : ev l x = some v)
    (k : ∀ b, OpsT P r n ds W0 M ops Q rest (setL l d (.pointer (some ⟨b, 0, none⟩))) ((b, .cells v.cells t (0, 0)) :: hs)) : OpsT P r n ds W0 M ops Q (i :: rest) l hs := by
  refine opsT_some (β := Nat) (fun b => .pointer (some ⟨b, 0, none⟩)) (fun b => (b, .cells v.cells t (0, 0)) :: hs) ho hw hk hd hdn (fun W hR => ⟨W.heap.size, _, ?_, hR.push _⟩) k
  unfold execOp
  rw [hop]
  refine run_value ?_
  have e1 : evD l x = v := by simp [evD, hx]
  rw [e1]
  rfl

theorem opsT_alloc {ops : Array Oper} {Q : Exit → Act → World → Prop} {i : Nat} {rest : List Nat} {l : List (Nat × Value)} {hs : List (Nat × Obj)} {o : Oper} {d : Nat}
    {t : TypeId} (z : Value)
    (ho : ops[i]? = some o) (hw : wantedL ops l o = some true) (hk : known l o.op = true) (hd : o.dst = some d) (hdn : Nat.blt d n = true)
    (hop : o.op = .alloc t) (hz : valS P (zeroValue t) = some z)
    (k : ∀ b, OpsT P r n ds W0 M ops Q rest (setL l d (.pointer (some ⟨b, 0, none⟩))) ((b, .cells z.cells t (0, 0)) :: hs)) : OpsT P r n ds W0 M ops Q (i :: rest) l hs := by
  refine opsT_some (β := Nat) (fun b => .pointer (some ⟨b, 0, none⟩)) (fun b => (b, .cells z.cells t (0, 0)) :: hs) ho hw hk hd hdn (fun W hR => ⟨W.heap.size, _, ?_, hR.push _⟩) k
  unfold execOp
  rw [hop]
  refine run_value ?_
  simp only [Instr.alloc, Sem.run_bind, valS_run W hz, Result.andThen_ok]
  rfl

/-! ### stores -/

/-- A value that one cell can hold. -/
def oneCell : Value → Bool
  | .agg _ | .tuple _ => false
  | _ => true

def setCells (c : Array Value) (off : Nat) : List Value → Array Value
  | [] => c
  | v :: vs => setCells (c.setIfInBounds off v) (off + 1) vs

theorem size_setCells : ∀ (vs : List Value) (c : Array Value) (off : Nat), (setCells c off vs).size = c.size
  | [], _, _ => rfl
  | v :: vs, c, off => by simp [setCells, size_setCells vs]

theorem run_store1 {W : World} {b off : Nat} {v : Value} {c : Array Value} {e : TypeId} (hv : oneCell v = true) (h : W.heap[b]? = some (.cells c e (0, 0))) (hoff : off < c.size) :
    (store ⟨b, off, none⟩ v).run P W = .ok () (W.setCell ⟨b, off, none⟩ v) := by
  have hc : W.cell? ⟨b, off, none⟩ = some c[off] := by rw [cell_own h]; simp [hoff]
  have hf : W.frozen? ⟨b, off, none⟩ = false := by simp [World.frozen?, h]
  cases v <;> first | (simp [oneCell] at hv; done) | simp [store, Sem.run, hc, hf]

theorem setCell_block {W : World} {b off : Nat} {v : Value} {c : Array Value} {e : TypeId} (h : W.heap[b]? = some (.cells c e (0, 0))) :
    (W.setCell ⟨b, off, none⟩ v).heap.size = W.heap.size ∧ (W.setCell ⟨b, off, none⟩ v).heap[b]? = some (.cells (c.setIfInBounds off v) e (0, 0)) ∧
      ∀ b', b' ≠ b → (W.setCell ⟨b, off, none⟩ v).heap[b']? = W.heap[b']? := by
  refine ⟨by simp [World.setCell], ?_, fun b' hb => ?_⟩
  · simp [World.setCell, Array.getElem?_modify, h]
  · simp [World.setCell, Array.getElem?_modify, Ne.symm hb]

theorem run_storeCells {b : Nat} {e : TypeId} : ∀ (vs : List Value) (off i : Nat) (W : World) (c : Array Value), (∀ v ∈ vs, oneCell v = true) → W.heap[b]? = some (.cells c e (0, 0)) → off + i + vs.length ≤ c.size →
    ∃ W', (storeCells ⟨b, off, none⟩ vs i).run P W = .ok () W' ∧ W'.heap.size = W.heap.size ∧ W'.heap[b]? = some (.cells (setCells c (off + i) vs) e (0, 0)) ∧ (∀ b', b' ≠ b → W'.heap[b']? = W.heap[b']?) ∧ Calm W W'
  | [], off, i, W, c, _, h, _ => ⟨W, by simp [storeCells, Sem.run_pure], rfl, h, fun _ _ => rfl, .refl W⟩
  | v :: vs, off, i, W, c, hv, h, hle => by
    have hlt : off + i < c.size := by simp at hle; omega
    obtain ⟨h1, h2, h3⟩ := setCell_block (off := off + i) (v := v) h
    obtain ⟨W', hr, hs', hb', hn', hcm⟩ := run_storeCells (b := b) (e := e) vs off (i + 1) _ _ (fun u hu => hv u (List.mem_cons_of_mem _ hu)) h2 (by simp at hle ⊢; omega)
    refine ⟨W', ?_, by rw [hs', h1], hb', fun b' hb => by rw [hn' b' hb, h3 b' hb], (⟨rfl, rfl, rfl, Nat.le_refl _⟩ : Calm W (W.setCell ⟨b, off + i, none⟩ v)).trans hcm⟩
    simp only [storeCells, Sem.run_bind, addr_add, run_store1 (hv v (List.mem_cons_self ..)) h hlt, Result.andThen_ok, hr]

theorem opsT_store {ops : Array Oper} {Q : Exit → Act → World → Prop} {i : Nat} {rest : List Nat} {l : List (Nat × Value)} {hs : List (Nat × Obj)} {o : Oper}
    {t : TypeId} {x y : Operand} (k : Nat) (b off : Nat) (c c' : Array Value) (e : TypeId) (v : Value)
    (ho : ops[i]? = some o) (hw : wantedL ops l o = some true) (hk : known l o.op = true) (hd : o.dst = none)
    (hop : o.op = .store t x y) (hx : ev l x = some (.pointer (some ⟨b, off, none⟩))) (hy : ev l y = some v) (hh : hs[k]? = some (b, .cells c e (0, 0)))
    (hsz : (P.info? t).map (·.size) = some v.cells.size) (hone : v.cells.toList.all oneCell = true) (hle : Nat.ble (off + v.cells.size) c.size = true) (hc' : setCells c off v.cells.toList = c')
    (kk : OpsT P r n ds W0 M ops Q rest l (hs.set k (b, .cells c' e (0, 0)))) : OpsT P r n ds W0 M ops Q (i :: rest) l hs := by
  refine opsT_unit (hs' := hs.set k (b, .cells c' e (0, 0))) ho hw hk hd (fun W hR => ?_) kk
  have hown := hR.own _ _ (List.mem_of_getElem? hh)
  obtain ⟨W', hr, h1, h2, h3, h4⟩ := run_storeCells (P := P) v.cells.toList off 0 W c (fun u hu => List.all_eq_true.1 hone u hu) hown (by simpa using Nat.le_of_ble_eq_true hle)
  refine ⟨W', ?_, hR.turn hh _ h1 (by rw [h2, ← hc']; rfl) h3 h4⟩
  obtain ⟨inf, hinf, hs⟩ := Option.map_eq_some_iff.1 hsz
  have e1 : evD l x = .pointer (some ⟨b, off, none⟩) := by simp [evD, hx]
  have e2 : evD l y = v := by simp [evD, hy]
  unfold execOp
  rw [hop]
  simp only [e1, e2, Instr.storeAt, Instr.sureAddr, storeVar, Sem.run_bind, Sem.run_pure, Result.andThen_ok, sizeOf, run_typeInfo hinf, hs, ne_eq, not_true, if_false, hr]

/-! ### calls -/

/-- Function f has a Go body. -/
structure Enters (P : Program) (f : FuncId) : Prop where
  run : ∀ (args : Array Value) (w : World), (callFunc f args).run P w = .ok (.enter f args) w

theorem enters {f : FuncId} {fn : Func} {c : Code} (hf : P.funcs[f]? = some fn) (hname : (fn.name == "runtime.NumGoroutine") = false) (hb : fn.body = some c) : Enters P f := by
  refine ⟨fun args w => ?_⟩
  have h1 : fn.name ≠ "runtime.NumGoroutine" := by simpa using hname
  simp [callFunc, hf, h1, hb]

theorem run_call {l : List (Nat × Value)} {o : Oper} {c : Call} {x : Operand} {f : FuncId} {first captured args : Array Value} (he : Enters P f) (hop : o.op = .call c) (hc : c.callee = .value x)
    (hx : ev l x = some (.func (.func f) first captured)) (hargs : (first ++ c.args.map (evD l)) ++ captured = args) (W : World) : (execOp (evD l) o).run P W = .ok (.enter f args) W := by
  have e1 : evD l x = .func (.func f) first captured := by simp [evD, hx]
  unfold execOp
  rw [hop]
  simp only [resolve, hc, e1, Deferred.ofValue, Sem.run_bind, Sem.run_pure, Result.andThen_ok, invoke, hargs, he.run]

/-! ### control -/

/-- What is asked behind x of 'x; y'. -/
abbrev Then (P : Program) (r : Option Nat) (y : Code) (Q : Exit → Act → World → Prop) : Exit → Act → World → Prop := Exit.then (fun a w => y.wpIn (FR r) 0 P Q a w) Q

/-- A way out, from what is known. -/
def PostT (n : Nat) (ds : List Deferred) (W0 : World) (M : List Nat) (Q : Exit → Act → World → Prop) (e : Exit) (l : List (Nat × Value)) (hs : List (Nat × Obj)) : Prop :=
  ∀ a W, Agree n ds l a → Rep W0 M hs W → Q e a W

variable {Q : Exit → Act → World → Prop} {l : List (Nat × Value)} {hs : List (Nat × Obj)}

theorem tri_seq {x y : Code} (h : Tri P r n ds W0 M x (Then P r y Q) l hs) : Tri P r n ds W0 M (.seq x y) Q l hs := fun a W ha hR => wpIn_seq (h a W ha hR)
theorem tri_skip (h : PostT n ds W0 M Q .normal l hs) : Tri P r n ds W0 M .skip Q l hs := fun a W ha hR => wpIn_skip (h a W ha hR)
theorem tri_exit {id : Nat} (h : PostT n ds W0 M Q (.exit id) l hs) : Tri P r n ds W0 M (.exit id) Q l hs := fun a W ha hR => wpIn_exit (h a W ha hR)
theorem tri_ret (h : PostT n ds W0 M Q .ret l hs) : Tri P r n ds W0 M .ret Q l hs := fun a W ha hR => wpIn_ret (h a W ha hR)
theorem tri_block {id : Nat} {c : Code} (h : Tri P r n ds W0 M c (Exit.inBlock id Q) l hs) : Tri P r n ds W0 M (.block id c) Q l hs := fun a W ha hR => wpIn_block (h a W ha hR)
theorem tri_region {id : Nat} {ops : Array Oper} {todo : List Nat} (ht : List.range ops.size = todo) (h : OpsT P r n ds W0 M ops Q todo l hs) : Tri P r n ds W0 M (.region id ops false) Q l hs :=
  fun a W ha hR => wpIn_region (by rw [ht]; exact h a W ha hR)
theorem tri_cond {c : Operand} {x y : Code} {b : Bool} (hc : ev l c = some (.bool b)) (ht : b = true → Tri P r n ds W0 M x Q l hs) (hf : b = false → Tri P r n ds W0 M y Q l hs) :
    Tri P r n ds W0 M (.cond c x y) Q l hs := fun a W ha hR => wpIn_cond_split (ha.eval hc) (fun h => ht h a W ha hR) (fun h => hf h a W ha hR)
theorem tri_cond_true {c : Operand} {x y : Code} (hc : ev l c = some (.bool true)) (h : Tri P r n ds W0 M x Q l hs) : Tri P r n ds W0 M (.cond c x y) Q l hs :=
  fun a W ha hR => wpIn_cond_true (ha.eval hc) (h a W ha hR)
theorem tri_cond_false {c : Operand} {x y : Code} (hc : ev l c = some (.bool false)) (h : Tri P r n ds W0 M y Q l hs) : Tri P r n ds W0 M (.cond c x y) Q l hs :=
  fun a W ha hR => wpIn_cond_false (ha.eval hc) (h a W ha hR)
theorem tri_cond_dec {c : Operand} {x y : Code} {p : Prop} [Decidable p] (hc : ev l c = some (.bool (decide p))) (ht : p → Tri P r n ds W0 M x Q l hs) (hf : ¬ p → Tri P r n ds W0 M y Q l hs) :
    Tri P r n ds W0 M (.cond c x y) Q l hs := tri_cond hc (fun h => ht (of_decide_eq_true h)) (fun h => hf (of_decide_eq_false h))

theorem opsT_end {ops : Array Oper} (h : PostT n ds W0 M Q .normal l hs) : OpsT P r n ds W0 M ops Q [] l hs := h
theorem post_then {y : Code} (h : Tri P r n ds W0 M y Q l hs) : PostT n ds W0 M (Then P r y Q) .normal l hs := h
theorem post_then_exit {y : Code} {id : Nat} (h : PostT n ds W0 M Q (.exit id) l hs) : PostT n ds W0 M (Then P r y Q) (.exit id) l hs := h
theorem post_then_ret {y : Code} (h : PostT n ds W0 M Q .ret l hs) : PostT n ds W0 M (Then P r y Q) .ret l hs := h
theorem post_block {id : Nat} (h : PostT n ds W0 M Q .normal l hs) : PostT n ds W0 M (Exit.inBlock id Q) .normal l hs := h
theorem post_block_hit {id : Nat} (h : PostT n ds W0 M Q .normal l hs) : PostT n ds W0 M (Exit.inBlock id Q) (.exit id) l hs := fun a W ha hR => by
  show (if id = id then Q .normal a W else Q (.exit id) a W)
  rw [if_pos rfl]; exact h a W ha hR
theorem post_block_miss {id id' : Nat} (hne : Nat.beq id' id = false) (h : PostT n ds W0 M Q (.exit id') l hs) : PostT n ds W0 M (Exit.inBlock id Q) (.exit id') l hs := fun a W ha hR => by
  show (if id' = id then Q .normal a W else Q (.exit id') a W)
  rw [if_neg (fun e => by rw [e, Nat.beq_refl] at hne; cases hne)]; exact h a W ha hR
theorem post_block_ret {id : Nat} (h : PostT n ds W0 M Q .ret l hs) : PostT n ds W0 M (Exit.inBlock id Q) .ret l hs := h

/-- A loop: what is known at every round's head, as a family. -/
def Round (n : Nat) (ds : List Deferred) (W0 : World) (M : List Nat) {β : Type} (L : β → List (Nat × Value)) (H : β → List (Nat × Obj)) (C : β → Prop) (μ : β → Nat) (b : β)
    (Q : Exit → Act → World → Prop) : Exit → Act → World → Prop :=
  Exit.then (fun a W => ∃ b', C b' ∧ μ b' < μ b ∧ Agree n ds (L b') a ∧ Rep W0 M (H b') W) Q

theorem tri_loop {c : Code} {β : Type} (L : β → List (Nat × Value)) (H : β → List (Nat × Obj)) (C : β → Prop) (μ : β → Nat) (b₀ : β) (hl : ∀ d v, look (L b₀) d = some v → look l d = some v) (hh : (H b₀).Sublist hs)
    (h₀ : C b₀) (round : ∀ b, C b → Tri P r n ds W0 M c (Round n ds W0 M L H C μ b Q) (L b) (H b)) : Tri P r n ds W0 M (.loop c) Q l hs := by
  intro a w ha hR b k cs hro hb hr
  have key : ∀ j x, μ x = j → C x → ∀ a w, Agree n ds (L x) a → Rep W0 M (H x) w →
      ∃ e a' w', Q e a' w' ∧ ArrivesIn (Machine.fenced P (FR r)) P (lone (b.atR a (.code c :: .inLoop c :: k)) cs w) b k cs e a' w' := by
    intro j
    induction j using Nat.strongRecOn with
    | _ j ih =>
      intro x hn hC a w ha hR
      obtain ⟨e, a₁, w₁, hq, harr⟩ := round x hC a w ha hR b (.inLoop c :: k) cs hro hb hr
      cases e with
      | normal =>
        obtain ⟨x', hC', hlt, ha', hR'⟩ := hq
        obtain ⟨e₂, a₂, w₂, hq₂, harr₂⟩ := ih (μ x') (hn ▸ hlt) x' rfl hC' a₁ w₁ ha' hR'
        exact ⟨e₂, a₂, w₂, hq₂, .of_steps (StepsIn.trans harr (.one (fenced_calm hb hr rfl) stepR_inLoop)) harr₂⟩
      | exit id => exact ⟨_, a₁, w₁, hq, .pass (x := .inLoop c) rfl (fun _ _ => .inl (by simp)) harr⟩
      | goto l => exact ⟨_, a₁, w₁, hq, .pass (x := .inLoop c) rfl (fun _ _ => .inl (by simp)) harr⟩
      | ret => exact ⟨_, a₁, w₁, hq, .pass (x := .inLoop c) rfl (fun _ _ => .inl (by simp)) harr⟩
      | panic ch => exact ⟨_, a₁, w₁, hq, .pass (x := .inLoop c) rfl (fun _ _ => .inl (by simp)) harr⟩
      | outgrown => exact ⟨_, a₁, w₁, hq, .pass (x := .inLoop c) rfl (fun _ _ => .inl (by simp)) harr⟩
  obtain ⟨e, a', w', hq, harr⟩ := key _ b₀ rfl h₀ a w (ha.sub hl) (hR.forget hh)
  exact ⟨e, a', w', hq, .of_steps (.one (fenced_calm hb hr rfl) stepR_loop) harr⟩

theorem post_round {β : Type} {L : β → List (Nat × Value)} {H : β → List (Nat × Obj)} {C : β → Prop} {μ : β → Nat} {b : β} (b' : β) (hC : C b') (hμ : μ b' < μ b)
    (hl : ∀ d v, look (L b') d = some v → look l d = some v) (hh : (H b').Sublist hs) : PostT n ds W0 M (Round n ds W0 M L H C μ b Q) .normal l hs :=
  fun _ _ ha hR => ⟨b', hC, hμ, ha.sub hl, hR.forget hh⟩
theorem post_round_exit {β : Type} {L : β → List (Nat × Value)} {H : β → List (Nat × Obj)} {C : β → Prop} {μ : β → Nat} {b : β} {id : Nat} (h : PostT n ds W0 M Q (.exit id) l hs) :
    PostT n ds W0 M (Round n ds W0 M L H C μ b Q) (.exit id) l hs := h
theorem post_round_ret {β : Type} {L : β → List (Nat × Value)} {H : β → List (Nat × Obj)} {C : β → Prop} {μ : β → Nat} {b : β} (h : PostT n ds W0 M Q .ret l hs) :
    PostT n ds W0 M (Round n ds W0 M L H C μ b Q) .ret l hs := h

/-- The inclusion of known slots, by looking: l' is l, some of it, in whatever order. -/
def subB (l' : List (Nat × Value)) (ks : List Nat) : Bool := l'.all fun p => ks.elem p.1

/-! ### a function -/

def initL : Nat → List Value → List (Nat × Value)
  | _, [] => []
  | i, v :: vs => (i, v) :: initL (i + 1) vs

theorem look_initL : ∀ {vs : List Value} {i d : Nat} {v : Value}, look (initL i vs) d = some v → i ≤ d ∧ vs[d - i]? = some v
  | [], _, _, _, h => by cases h
  | u :: vs, i, d, v, h => by
    unfold initL look at h
    split at h
    · rename_i hb
      have := Nat.eq_of_beq_eq_true hb
      subst this
      cases h
      exact ⟨Nat.le_refl _, by simp⟩
    · rename_i hb
      have hne : i ≠ d := fun e => hb (by rw [e]; exact Nat.beq_refl d)
      obtain ⟨h1, h2⟩ := look_initL (vs := vs) (i := i + 1) h
      refine ⟨by omega, ?_⟩
      rw [show d - i = (d - (i + 1)) + 1 by omega, List.getElem?_cons_succ]
      exact h2

theorem calls_of {f : FuncId} {fn : Func} {c : Code} {args : Array Value} {w : World} {R : Ending → World → Prop} (hf : P.funcs[f]? = some fn) (hb : fn.body = some c) (hn : fn.ntmps = n) (hle : Nat.ble args.size n = true)
    (h : Tri P none n [] w [] c (bodyPost P fn R) (initL 0 args.toList) []) : Calls P f args w R := by
  refine callsFR (r := none) (n := 0) |>.1 (callsIn_of_wp hf hb trivial ?_)
  refine h _ _ ⟨?_, rfl, fun d v hd => ?_⟩ (Rep.refl w)
  · have := Nat.le_of_ble_eq_true hle
    simp [hn]; omega
  · obtain ⟨_, h2⟩ := look_initL hd
    have h3 : args[d]? = some v := by simpa using h2
    have h4 : d < args.size := (Array.getElem?_eq_some_iff.1 h3).1
    rw [Array.getElem?_append_left h4]; exact h3

/-- With a set of blocks that may be turned. -/
theorem calls_ofM {f : FuncId} {fn : Func} {c : Code} {args : Array Value} {w : World} {R : Ending → World → Prop} (M : List Nat) (hs : List (Nat × Obj)) (hf : P.funcs[f]? = some fn) (hb : fn.body = some c) (hn : fn.ntmps = n)
    (hle : Nat.ble args.size n = true) (hM : ∀ b o, (b, o) ∈ hs → b ∈ M ∧ w.heap[b]? = some o) (hnd : (hs.map (·.1)).Nodup)
    (h : Tri P none n [] w M c (bodyPost P fn R) (initL 0 args.toList) hs) : Calls P f args w R := by
  refine callsFR (r := none) (n := 0) |>.1 (callsIn_of_wp hf hb trivial ?_)
  refine h _ _ ⟨?_, rfl, fun d v hd => ?_⟩ ⟨Nat.le_refl _, fun _ _ _ => rfl, fun b o hm => (hM b o hm).2, fun b o hm => .inr (hM b o hm).1, hnd, .refl w⟩
  · have := Nat.le_of_ble_eq_true hle
    simp [hn]; omega
  · obtain ⟨_, h2⟩ := look_initL hd
    have h3 : args[d]? = some v := by simpa using h2
    have h4 : d < args.size := (Array.getElem?_eq_some_iff.1 h3).1
    rw [Array.getElem?_append_left h4]; exact h3

/-- A result's value. -/
inductive ResV (P : Program) (l : List (Nat × Value)) (hs : List (Nat × Obj)) : ResultVar → Value → Prop
  | tmp {t : Nat} {v : Value} (h : look l t = some v) : ResV P l hs (.tmp t) v
  | cell {t : Nat} {ty : TypeId} (k b off m : Nat) (c : Array Value) (e : TypeId) (fz : Nat × Nat) {v : Value} (h : look l t = some (.pointer (some ⟨b, off, none⟩))) (hh : hs[k]? = some (b, .cells c e fz))
      (hl : loaded P ty (c.extract off (off + m)).toList = some v) : ResV P l hs (.cell t ty) v

def rvSem (tmps : Array Value) : ResultVar → Sem Value
  | .tmp t => pure (tmps.getD t undef)
  | .cell a t => do loadVar t (← asAddr (tmps.getD a undef))

theorem results_eq (fn : Func) (tmps : Array Value) : results fn tmps = (do
    let vs ← fn.results.mapM (rvSem tmps)
    pure (if h : vs.size = 1 then vs[0] else .tuple vs)) := by
  unfold results
  congr 1

theorem ResV.run {rv : ResultVar} {v : Value} (h : ResV P l hs rv v) {a : Act} {W : World} (ha : Agree n ds l a) (hR : Rep W0 M hs W) : (rvSem a.tmps rv).run P W = .ok v W := by
  cases h with
  | tmp h => simp [rvSem, ha.slot _ _ h, Sem.run_pure]
  | cell k b off m c e fz h hh hl =>
    simp only [rvSem, Array.getD_eq_getD_getElem?, ha.slot _ _ h, Option.getD_some, asAddr, Sem.run_bind, Sem.run_pure, Result.andThen_ok]
    exact run_loadVar hl (cells_own (hR.own _ _ (List.mem_of_getElem? hh)))

theorem post_ret1 {fn : Func} {R : Ending → World → Prop} {rv : ResultVar} {v : Value} (hr : fn.results = #[rv]) (h : ResV P l hs rv v) (hR : ∀ W, Rep W0 M hs W → R (.returned v) W) :
    PostT n [] W0 M (bodyPost P fn R) .ret l hs := by
  intro a W ha hW
  refine ⟨ha.defers, v, ?_, hR W hW⟩
  rw [results_eq, hr]
  simp [Sem.run_bind, Result.andThen, h.run ha hW]

theorem post_ret2 {fn : Func} {R : Ending → World → Prop} {rv rv' : ResultVar} {v v' : Value} (hr : fn.results = #[rv, rv']) (h : ResV P l hs rv v) (h' : ResV P l hs rv' v') (hR : ∀ W, Rep W0 M hs W → R (.returned (.tuple #[v, v'])) W) :
    PostT n [] W0 M (bodyPost P fn R) .ret l hs := by
  intro a W ha hW
  refine ⟨ha.defers, _, ?_, hR W hW⟩
  rw [results_eq, hr]
  simp [Sem.run_bind, Result.andThen, h.run ha hW, h'.run ha hW]

theorem post_ret3 {fn : Func} {R : Ending → World → Prop} {rv rv' rw : ResultVar} {v v' u : Value} (hr : fn.results = #[rv, rv', rw]) (h : ResV P l hs rv v) (h' : ResV P l hs rv' v') (h'' : ResV P l hs rw u)
    (hR : ∀ W, Rep W0 M hs W → R (.returned (.tuple #[v, v', u])) W) : PostT n [] W0 M (bodyPost P fn R) .ret l hs := by
  intro a W ha hW
  refine ⟨ha.defers, _, ?_, hR W hW⟩
  rw [results_eq, hr]
  simp [Sem.run_bind, Result.andThen, h.run ha hW, h'.run ha hW, h''.run ha hW]

theorem post_ret0 {fn : Func} {R : Ending → World → Prop} (hr : fn.results = #[]) (hR : ∀ W, Rep W0 M hs W → R (.returned (.tuple #[])) W) : PostT n [] W0 M (bodyPost P fn R) .ret l hs := by
  intro a W ha hW
  refine ⟨ha.defers, _, ?_, hR W hW⟩
  rw [results_eq, hr]
  simp [Sem.run_bind, Result.andThen]
theorem post_end0 {fn : Func} {R : Ending → World → Prop} (hr : fn.results = #[]) (hR : ∀ W, Rep W0 M hs W → R (.returned (.tuple #[])) W) : PostT n [] W0 M (bodyPost P fn R) .normal l hs :=
  fun a W ha hW => post_ret0 hr hR a W ha hW

/-! ### small words -/

/-- These slots, in this order. -/
def pickL (l : List (Nat × Value)) : List Nat → Option (List (Nat × Value))
  | [] => some []
  | k :: ks =>
    match look l k, pickL l ks with
    | some v, some l' => some ((k, v) :: l')
    | _, _ => none

theorem look_pickL {l : List (Nat × Value)} : ∀ {ks : List Nat} {l' : List (Nat × Value)}, pickL l ks = some l' → ∀ d v, look l' d = some v → look l d = some v
  | [], l', h, d, v, hd => by cases h; cases hd
  | k :: ks, l', h, d, v, hd => by
    unfold pickL at h
    split at h
    · rename_i u l2 hu h2
      cases h
      unfold look at hd
      split at hd
      · rename_i hb
        have := Nat.eq_of_beq_eq_true hb
        subst this
        cases hd; exact hu
      · exact look_pickL h2 d v hd
    · cases h

theorem opsT_pick {ops : Array Oper} {todo : List Nat} {l' : List (Nat × Value)} (ks : List Nat) (h : pickL l ks = some l') (k : OpsT P r n ds W0 M ops Q todo l' hs) : OpsT P r n ds W0 M ops Q todo l hs :=
  fun a W ha hR => k a W (ha.sub (look_pickL h)) hR
/-- A segment; then these slots alone. -/
theorem opsT_segK {ops : Array Oper} {rest : List Nat} {l' : List (Nat × Value)} (js : List (Nat × How)) (ks : List Nat) {obl : List Prop} (h : ((seg P n ops js l).bind fun p => (pickL p.1 ks).map fun q => (q, p.2)) = some (l', obl)) (hp : AllP obl) (k : OpsT P r n ds W0 M ops Q rest l' hs) :
    OpsT P r n ds W0 M ops Q (js.map (·.1) ++ rest) l hs := by
  obtain ⟨⟨l1, ob⟩, h1, h2⟩ := Option.bind_eq_some_iff.1 h
  obtain ⟨q, h3, h4⟩ := Option.map_eq_some_iff.1 h2
  cases h4
  exact opsT_seg js h1 hp (opsT_pick ks h3 k)
theorem wk {ops : Array Oper} (rest : List Nat) (js : List (Nat × How)) (l' : List (Nat × Value)) (obl : List Prop) (h : ((seg P n ops js l).bind fun p => (pickL p.1 (l'.map (·.1))).map fun q => (q, p.2)) = some (l', obl)) (hp : AllP obl) (k : OpsT P r n ds W0 M ops Q rest l' hs) :
    OpsT P r n ds W0 M ops Q (js.map (·.1) ++ rest) l hs := opsT_segK js _ h hp k
theorem wz {ops : Array Oper} (rest : List Nat) (js : List (Nat × How)) (l' : List (Nat × Value)) (h : ((seg P n ops js l).bind fun p => (pickL p.1 (l'.map (·.1))).map fun q => (q, p.2)) = some (l', [])) (k : OpsT P r n ds W0 M ops Q rest l' hs) :
    OpsT P r n ds W0 M ops Q (js.map (·.1) ++ rest) l hs := opsT_segK js _ h trivial k
theorem we {ops : Array Oper} {y : Code} (h : Tri P r n ds W0 M y Q l hs) : OpsT P r n ds W0 M ops (Then P r y Q) [] l hs := opsT_end (post_then h)
theorem wr {id : Nat} {ops : Array Oper} {y : Code} (todo : List Nat) (ht : List.range ops.size = todo) (h : OpsT P r n ds W0 M ops (Then P r y Q) todo l hs) : Tri P r n ds W0 M (.seq (.region id ops false) y) Q l hs := tri_seq (tri_region ht h)
theorem wn {id : Nat} {ops' ops : Array Oper} {y : Code} (todo : List Nat) (ht : List.range ops.size = todo) (h : OpsT P r n ds W0 M ops (Then P r y Q) todo l hs) : OpsT P r n ds W0 M ops' (Then P r (.seq (.region id ops false) y) Q) [] l hs := we (wr todo ht h)
theorem tri_pick {c : Code} {l' : List (Nat × Value)} (ks : List Nat) (h : pickL l ks = some l') (k : Tri P r n ds W0 M c Q l' hs) : Tri P r n ds W0 M c Q l hs :=
  fun a W ha hR => k a W (ha.sub (look_pickL h)) hR
theorem post_pick {e : Exit} {l' : List (Nat × Value)} (ks : List Nat) (h : pickL l ks = some l') (k : PostT n ds W0 M Q e l' hs) : PostT n ds W0 M Q e l hs :=
  fun a W ha hR => k a W (ha.sub (look_pickL h)) hR
theorem tri_eq {c : Code} {l l' : List (Nat × Value)} {hs hs' : List (Nat × Obj)} (h : l = l') (h' : hs = hs') (k : Tri P r n ds W0 M c Q l' hs') : Tri P r n ds W0 M c Q l hs := by
  subst h; subst h'; exact k
theorem tri_forget {c : Code} {hs' : List (Nat × Obj)} (h : hs'.Sublist hs) (k : Tri P r n ds W0 M c Q l hs') : Tri P r n ds W0 M c Q l hs := fun a W ha hR => k a W ha (hR.forget h)
theorem post_forget {e : Exit} {hs' : List (Nat × Obj)} (h : hs'.Sublist hs) (k : PostT n ds W0 M Q e l hs') : PostT n ds W0 M Q e l hs := fun a W ha hR => k a W ha (hR.forget h)

/-- A call that hands back a value and only adds memory. -/
theorem opsT_callx {ops : Array Oper} {i : Nat} {rest : List Nat} {o : Oper} {d : Nat} {f : FuncId} {args : Array Value} {v : Value}
    (ho : ops[i]? = some o) (hw : wantedL ops l o = some true) (hk : known l o.op = true) (hd : o.dst = some d) (hdn : Nat.blt d n = true)
    (hrun : ∀ W : World, (execOp (evD l) o).run P W = .ok (.enter f args) W)
    (hc : ∀ W, Rep W0 M hs W → Calls P f args W fun e W' => e = .returned v ∧ Ext W W')
    (k : OpsT P r n ds W0 M ops Q rest (setL l d v) hs) : OpsT P r n ds W0 M ops Q (i :: rest) l hs :=
  opsT_calld (β := Unit) (fun _ => v) (fun _ => hs) ho hw hk hd hdn (fun W _ => hrun W)
    (fun W hR => (hc W hR).mono fun e W' ⟨he, hx⟩ => ⟨(), he, hR.extend hx⟩) (fun _ => k)

/-- What the call has laid itself becomes one's own. -/
theorem Rep.take {W W' : World} (h : Rep W0 M hs W) (hx : Ext W W') {b : Nat} {o : Obj} (hb : W.heap.size ≤ b) (hw : W'.heap[b]? = some o) : Rep W0 M ((b, o) :: hs) W' := by
  have h' := h.extend hx
  refine ⟨h'.size, h'.same, fun c oc hm => ?_, fun c oc hm => ?_, ?_, h'.calm⟩
  · rcases List.mem_cons.1 hm with e | hm
    · cases e; exact hw
    · exact h'.own c oc hm
  · rcases List.mem_cons.1 hm with e | hm
    · cases e; exact .inl (Nat.le_trans h.size hb)
    · exact h'.new c oc hm
  · simp only [List.map_cons, List.nodup_cons]
    refine ⟨fun hm => ?_, h'.nodup⟩
    obtain ⟨p, hp, he⟩ := List.mem_map.1 hm
    have := h.lt (b := p.1) (o := p.2) hp
    omega

/-- The loop, a number of rounds by hand. -/
def RoundsT (P : Program) (r : Option Nat) (c : Code) (Q : Exit → Act → World → Prop) : Nat → Act → World → Prop
  | 0 => fun _ _ => False
  | m + 1 => fun a W => c.wpIn (FR r) 0 P (Exit.then (RoundsT P r c Q m) Q) a W

theorem rounds_loop {c : Code} : ∀ (m : Nat) (a : Act) (w : World), RoundsT P r c Q m a w → ∀ (b : Frame) (k : List Item) (cs : List Frame), b.roundOf = (FR r).round → (FR r).fn b.fn → (FR r).room (cs.length + 1 + 0) →
    ∃ e a' w', Q e a' w' ∧ ArrivesIn (Machine.fenced P (FR r)) P (lone (b.atR a (.code c :: .inLoop c :: k)) cs w) b k cs e a' w'
  | 0, _, _, h, _, _, _, _, _, _ => h.elim
  | m + 1, a, w, h, b, k, cs, hro, hb, hr => by
    obtain ⟨e, a₁, w₁, hq, harr⟩ := h b (.inLoop c :: k) cs hro hb hr
    cases e with
    | normal =>
      obtain ⟨e₂, a₂, w₂, hq₂, harr₂⟩ := rounds_loop m a₁ w₁ hq b k cs hro hb hr
      exact ⟨e₂, a₂, w₂, hq₂, .of_steps (StepsIn.trans harr (.one (fenced_calm hb hr rfl) stepR_inLoop)) harr₂⟩
    | exit id => exact ⟨_, a₁, w₁, hq, .pass (x := .inLoop c) rfl (fun _ _ => .inl (by simp)) harr⟩
    | goto l => exact ⟨_, a₁, w₁, hq, .pass (x := .inLoop c) rfl (fun _ _ => .inl (by simp)) harr⟩
    | ret => exact ⟨_, a₁, w₁, hq, .pass (x := .inLoop c) rfl (fun _ _ => .inl (by simp)) harr⟩
    | panic ch => exact ⟨_, a₁, w₁, hq, .pass (x := .inLoop c) rfl (fun _ _ => .inl (by simp)) harr⟩
    | outgrown => exact ⟨_, a₁, w₁, hq, .pass (x := .inLoop c) rfl (fun _ _ => .inl (by simp)) harr⟩

/-- What is asked behind a round: the rounds that are left. -/
abbrev More (P : Program) (r : Option Nat) (c : Code) (Q : Exit → Act → World → Prop) (m : Nat) : Exit → Act → World → Prop := Exit.then (RoundsT P r c Q m) Q

theorem tri_rounds {c : Code} (m : Nat) (h : Tri P r n ds W0 M c (More P r c Q m) l hs) : Tri P r n ds W0 M (.loop c) Q l hs := fun a w ha hR b k cs hro hb hr => by
  obtain ⟨e, a', w', hq, harr⟩ := rounds_loop (P := P) (r := r) (c := c) (Q := Q) (m + 1) a w (h a w ha hR) b k cs hro hb hr
  exact ⟨e, a', w', hq, .of_steps (.one (fenced_calm hb hr rfl) stepR_loop) harr⟩
theorem post_more {c : Code} {m : Nat} (h : Tri P r n ds W0 M c (More P r c Q m) l hs) : PostT n ds W0 M (More P r c Q (m + 1)) .normal l hs := h
theorem post_more_exit {c : Code} {m id : Nat} (h : PostT n ds W0 M Q (.exit id) l hs) : PostT n ds W0 M (More P r c Q m) (.exit id) l hs := h
theorem post_more_ret {c : Code} {m : Nat} (h : PostT n ds W0 M Q .ret l hs) : PostT n ds W0 M (More P r c Q m) .ret l hs := h

end
end Go.Proofs.Walk
