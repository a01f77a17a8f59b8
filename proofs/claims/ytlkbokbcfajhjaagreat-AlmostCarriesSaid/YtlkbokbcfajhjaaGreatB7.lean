/- B7: maps. -/
import Derived.Test.YtlkbokbcfajhjaaGreatB6
import Derived.MapKept
import Derived.Carry
namespace Go.Proofs.Walk
open Go.Proofs
set_option linter.unusedVariables false
set_option linter.unusedSimpArgs false
set_option linter.unusedSectionVars false
section
variable {P : Program} {r : Option Nat} {n : Nat} {ds : List Deferred} {W0 : World} {M : List Nat} {ops : Array Oper} {Q : Exit → Act → World → Prop} {l : List (Nat × Value)} {hs : List (Nat × Obj)}

/-- How keys are compared. -/
structure KeyIs (P : Program) (kt : TypeId) {κ : Type} [DecidableEq κ] (enc : κ → Value) : Prop where
  eq : ∀ x y w, (Op.equal kt (enc x) (enc y)).run P w = .ok (decide (x = y)) w
  chk : ∀ b x w, (Instr.checkKey b 10000 kt (enc x)).run P w = .ok () w
  same : ∀ x, Instr.sameBits 10000 (enc x) (enc x) = true
  now : ∃ d, P.underlying kt = some d ∧ ((∀ x y, Instr.sameNow d (enc x) (enc y) = some (decide (x = y))) ∨ ∀ x y, Instr.sameNow d (enc x) (enc y) = none)

variable {κ : Type} [DecidableEq κ] {kt : TypeId} {enc : κ → Value}

/-- The place of a key. -/
def ixOf (ks : List κ) (x : κ) : Nat := ks.idxOf x

def ents (enc : κ → Value) (f : Nat → κ → Value) : List κ → Nat → List MapEntry
  | [], _ => []
  | k :: ks, i => { key := enc k, val := f i k, born := i } :: ents enc f ks (i + 1)

/-- A map whose i-th key k, in the order in which they were met, has the value f i k. -/
def mapB (enc : κ → Value) (f : Nat → κ → Value) (ks : List κ) : Obj := .map (ents enc f ks 0).toArray ks.length

theorem ents_length {f : Nat → κ → Value} : ∀ (ks : List κ) (i : Nat), (ents enc f ks i).length = ks.length
  | [], _ => rfl
  | k :: ks, i => by simp [ents, ents_length ks (i + 1)]

theorem ents_append {f : Nat → κ → Value} (x : κ) : ∀ (ks : List κ) (i : Nat), ents enc f (ks ++ [x]) i = ents enc f ks i ++ [{ key := enc x, val := f (i + ks.length) x, born := i + ks.length }]
  | [], i => by simp [ents]
  | k :: ks, i => by simp [ents, ents_append x ks (i + 1), Nat.add_assoc, Nat.add_comm 1]

theorem ents_get {f : Nat → κ → Value} : ∀ (ks : List κ) (i j : Nat) (x : κ), ks[j]? = some x → (ents enc f ks i)[j]? = some { key := enc x, val := f (i + j) x, born := i + j }
  | [], _, _, _, h => by simp at h
  | k :: ks, i, 0, x, h => by simp at h; subst h; simp [ents]
  | k :: ks, i, j + 1, x, h => by simp [ents, ents_get ks (i + 1) j x (by simpa using h), Nat.add_assoc, Nat.add_comm 1]

/-- The first key that is x. -/
def findP (f : Nat → κ → Value) (x : κ) : List κ → Nat → Option (Nat × Value)
  | [], _ => none
  | k :: ks, i => if x = k then some (i, f i k) else findP f x ks (i + 1)

theorem findP_none {f : Nat → κ → Value} {x : κ} : ∀ {ks : List κ} {i : Nat}, x ∉ ks → findP f x ks i = none
  | [], _, _ => rfl
  | k :: ks, i, h => by
    simp only [List.mem_cons, not_or] at h
    simp [findP, h.1, findP_none h.2]
theorem findP_some {f : Nat → κ → Value} {x : κ} : ∀ {ks : List κ} {i : Nat}, x ∈ ks → findP f x ks i = some (i + ks.idxOf x, f (i + ks.idxOf x) x)
  | [], _, h => by simp at h
  | k :: ks, i, h => by
    by_cases hx : x = k
    · subst hx; simp [findP]
    · have hm : x ∈ ks := by simpa [hx] using h
      have hk : (k == x) = false := by simp; exact fun e => hx e.symm
      simp [findP, hx, findP_some hm, List.idxOf_cons, hk, Nat.add_assoc, Nat.add_comm 1]

theorem run_findAsking' (K : KeyIs P kt enc) {f : Nat → κ → Value} (x : κ) (w : World) : ∀ (ks : List κ) (i : Nat), (Instr.findAsking kt (enc x) (ents enc f ks i) i).run P w = .ok (findP f x ks i) w
  | [], i => by simp [ents, Instr.findAsking, findP]
  | k :: ks, i => by
    simp only [ents, Instr.findAsking, findP, Sem.run_bind, K.eq, Result.andThen_ok]
    by_cases hx : x = k
    · simp [hx]
    · simp [hx, run_findAsking' K x w ks (i + 1)]
theorem findNow_eq {d : TypeDesc} {f : Nat → κ → Value} (x : κ) (h : ∀ x y, Instr.sameNow d (enc x) (enc y) = some (decide (x = y))) : ∀ (ks : List κ) (i : Nat), Instr.findNow d (enc x) (ents enc f ks i) i = some (findP f x ks i)
  | [], i => by simp [ents, Instr.findNow, findP]
  | k :: ks, i => by
    simp only [ents, Instr.findNow, findP, h]
    by_cases hx : x = k
    · simp [hx]
    · simp [hx, findNow_eq x h ks (i + 1)]
theorem run_findKey (K : KeyIs P kt enc) {f : Nat → κ → Value} (x : κ) (ks : List κ) (w : World) : (Instr.findKey kt (enc x) (ents enc f ks 0)).run P w = .ok (findP f x ks 0) w := by
  obtain ⟨d, hd, hn | hn⟩ := K.now
  · simp only [Instr.findKey, run_underlying hd, Sem.run_bind, Result.andThen_ok, findNow_eq x hn]
    rfl
  · cases ks with
    | nil => simp only [Instr.findKey, run_underlying hd, Sem.run_bind, Result.andThen_ok, ents, Instr.findNow]; rfl
    | cons k ks =>
      have : Instr.findNow d (enc x) (ents enc f (k :: ks) 0) 0 = none := by simp [ents, Instr.findNow, hn]
      simp only [Instr.findKey, run_underlying hd, Sem.run_bind, Result.andThen_ok, this]
      exact run_findAsking' K x w (k :: ks) 0

theorem beq_eq_decide (x y : Int) : (x == y) = decide (x = y) := by
  by_cases h : x = y <;> simp [h]

theorem run_look (K : KeyIs P kt enc) {f : Nat → κ → Value} {t e : TypeId} {x : κ} {ks : List κ} {W : World} {b : Nat} {z : Value} (ht : P.underlying t = some (.map kt e)) (hz : valS P (zeroValue e) = some z) (hb : W.heap[b]? = some (mapB enc f ks)) :
    (Instr.lookup t (.map (some b)) (enc x) true).run P W = .ok (.tuple #[if x ∈ ks then f (ks.idxOf x) x else z, .bool (decide (x ∈ ks))]) W := by
  simp only [Instr.lookup, run_underlying ht, Sem.run_bind, Result.andThen_ok, Go.MapKept.run_getObj_map hb, Sem.run_pure, K.chk, List.toList_toArray, run_findKey K]
  by_cases hx : x ∈ ks
  · simp only [findP_some (f := f) (i := 0) hx, Nat.zero_add, Sem.run_pure, Result.andThen_ok, hx, if_true, decide_true]
    rfl
  · simp only [findP_none (f := f) (i := 0) hx, Sem.run_bind, valS_run W hz, Sem.run_pure, Result.andThen_ok, hx, if_false, decide_false]
    rfl

theorem run_lookOp (K : KeyIs P kt enc) {f : Nat → κ → Value} {o : Oper} {t e : TypeId} {m y : Operand} {x : κ} {ks : List κ} {W : World} {b : Nat} {z : Value} {lk : List (Nat × Value)} (hop : o.op = .lookup t m y true) (hm : ev lk m = some (.map (some b))) (hy : ev lk y = some (enc x)) (ht : P.underlying t = some (.map kt e)) (hz : valS P (zeroValue e) = some z) (hb : W.heap[b]? = some (mapB enc f ks)) :
    (execOp (evD lk) o).run P W = .ok (.value (.tuple #[if x ∈ ks then f (ks.idxOf x) x else z, .bool (decide (x ∈ ks))])) W := by
  have e1 : evD lk m = .map (some b) := by simp [evD, hm]
  have e2 : evD lk y = enc x := by simp [evD, hy]
  unfold execOp
  rw [hop]
  refine run_value ?_
  rw [e1, e2]
  exact run_look K ht hz hb

theorem opsT_lookYes {i : Nat} {rest : List Nat} {o : Oper} {d : Nat} {t e : TypeId} {m y : Operand} (K : KeyIs P kt enc) (f : Nat → κ → Value) (k b : Nat) (ks : List κ) (x : κ) (v z : Value)
    (ho : ops[i]? = some o) (hw : wantedL ops l o = some true) (hk : known l o.op = true) (hd : o.dst = some d) (hdn : Nat.blt d n = true)
    (hop : o.op = .lookup t m y true) (hm : ev l m = some (.map (some b))) (hy : ev l y = some (enc x)) (ht : P.underlying t = some (.map kt e)) (hz : valS P (zeroValue e) = some z) (hh : hs[k]? = some (b, mapB enc f ks)) (hx : x ∈ ks) (hv : f (ks.idxOf x) x = v)
    (kk : OpsT P r n ds W0 M ops Q rest (setL l d (.tuple #[v, .bool true])) hs) : OpsT P r n ds W0 M ops Q (i :: rest) l hs :=
  opsT_value ho hw hk hd hdn (fun _ hR => by rw [run_lookOp K hop hm hy ht hz (hR.own _ _ (List.mem_of_getElem? hh)), if_pos hx, decide_eq_true hx, hv]) kk
theorem opsT_lookNo {i : Nat} {rest : List Nat} {o : Oper} {d : Nat} {t e : TypeId} {m y : Operand} (K : KeyIs P kt enc) (f : Nat → κ → Value) (k b : Nat) (ks : List κ) (x : κ) (z : Value)
    (ho : ops[i]? = some o) (hw : wantedL ops l o = some true) (hk : known l o.op = true) (hd : o.dst = some d) (hdn : Nat.blt d n = true)
    (hop : o.op = .lookup t m y true) (hm : ev l m = some (.map (some b))) (hy : ev l y = some (enc x)) (ht : P.underlying t = some (.map kt e)) (hz : valS P (zeroValue e) = some z) (hh : hs[k]? = some (b, mapB enc f ks)) (hx : x ∉ ks)
    (kk : OpsT P r n ds W0 M ops Q rest (setL l d (.tuple #[z, .bool false])) hs) : OpsT P r n ds W0 M ops Q (i :: rest) l hs :=
  opsT_value ho hw hk hd hdn (fun _ hR => by rw [run_lookOp K hop hm hy ht hz (hR.own _ _ (List.mem_of_getElem? hh)), if_neg hx, decide_eq_false hx]) kk
theorem opQ_lookYes {lk : List (Nat × Value)} {i d : Nat} {o : Oper} {t e : TypeId} {m y : Operand} (K : KeyIs P kt enc) (f : Nat → κ → Value) (k b : Nat) (ks : List κ) (x : κ) (v z : Value)
    (ho : ops[i]? = some o) (hw : wantedL ops lk o = some true) (hk : known lk o.op = true) (hd : o.dst = some d) (hdn : Nat.blt d n = true)
    (hop : o.op = .lookup t m y true) (hm : ev lk m = some (.map (some b))) (hy : ev lk y = some (enc x)) (ht : P.underlying t = some (.map kt e)) (hz : valS P (zeroValue e) = some z) (hh : hs[k]? = some (b, mapB enc f ks)) (hx : x ∈ ks) (hv : f (ks.idxOf x) x = v) : OpQ P n (Rep W0 M hs) ops lk i (.tuple #[v, .bool true]) :=
  ⟨o, d, ho, hd, Nat.le_of_ble_eq_true hdn, .inr (.inl ⟨hw, hk, fun _ hR => by rw [run_lookOp K hop hm hy ht hz (hR.own _ _ (List.mem_of_getElem? hh)), if_pos hx, decide_eq_true hx, hv]⟩)⟩
theorem opQ_lookNo {lk : List (Nat × Value)} {i d : Nat} {o : Oper} {t e : TypeId} {m y : Operand} (K : KeyIs P kt enc) (f : Nat → κ → Value) (k b : Nat) (ks : List κ) (x : κ) (z : Value)
    (ho : ops[i]? = some o) (hw : wantedL ops lk o = some true) (hk : known lk o.op = true) (hd : o.dst = some d) (hdn : Nat.blt d n = true)
    (hop : o.op = .lookup t m y true) (hm : ev lk m = some (.map (some b))) (hy : ev lk y = some (enc x)) (ht : P.underlying t = some (.map kt e)) (hz : valS P (zeroValue e) = some z) (hh : hs[k]? = some (b, mapB enc f ks)) (hx : x ∉ ks) : OpQ P n (Rep W0 M hs) ops lk i (.tuple #[z, .bool false]) :=
  ⟨o, d, ho, hd, Nat.le_of_ble_eq_true hdn, .inr (.inl ⟨hw, hk, fun _ hR => by rw [run_lookOp K hop hm hy ht hz (hR.own _ _ (List.mem_of_getElem? hh)), if_neg hx, decide_eq_false hx]⟩)⟩

theorem run_makeMap' (t : TypeId) (w : World) : (Instr.makeMap t none).run P w = .ok (.map (some w.heap.size)) { w with heap := w.heap.push (.map #[] 0) } := rfl

theorem opsT_makeMap {i : Nat} {rest : List Nat} {o : Oper} {d : Nat} {t : TypeId} (enc : κ → Value) (f : Nat → κ → Value)
    (ho : ops[i]? = some o) (hw : wantedL ops l o = some true) (hk : known l o.op = true) (hd : o.dst = some d) (hdn : Nat.blt d n = true) (hop : o.op = .makeMap t none)
    (kk : ∀ b, OpsT P r n ds W0 M ops Q rest (setL l d (.map (some b))) ((b, mapB enc f []) :: hs)) : OpsT P r n ds W0 M ops Q (i :: rest) l hs := by
  refine opsT_some (β := Nat) (fun b => .map (some b)) (fun b => (b, mapB enc f []) :: hs) ho hw hk hd hdn (fun W hR => ⟨W.heap.size, _, ?_, hR.push _⟩) kk
  unfold execOp
  rw [hop]
  refine run_value ?_
  simp only [Option.map_none, run_makeMap']
  rfl

theorem rep_setIf {k b : Nat} {o o' : Obj} {W : World} (h : Rep W0 M hs W) (hh : hs[k]? = some (b, o)) : Rep W0 M (hs.set k (b, o')) { W with heap := W.heap.setIfInBounds b o' } :=
  h.turn hh o' (by simp) (World.putObj_heap_same (h.lt (List.mem_of_getElem? hh))) (fun c hc => World.putObj_heap_other hc) ⟨rfl, rfl, rfl, Nat.le_refl _⟩

/-- A key that is new. -/
theorem opsT_mapNew {i : Nat} {rest : List Nat} {o : Oper} {t e : TypeId} {m y u : Operand} (K : KeyIs P kt enc) (f : Nat → κ → Value) (k b : Nat) (ks : List κ) (x : κ)
    (ho : ops[i]? = some o) (hw : wantedL ops l o = some true) (hk : known l o.op = true) (hd : o.dst = none)
    (hop : o.op = .mapUpdate t m y u) (hm : ev l m = some (.map (some b))) (hy : ev l y = some (enc x)) (hu : ev l u = some (f ks.length x)) (ht : P.underlying t = some (.map kt e)) (hh : hs[k]? = some (b, mapB enc f ks)) (hx : x ∉ ks)
    (kk : OpsT P r n ds W0 M ops Q rest l (hs.set k (b, mapB enc f (ks ++ [x])))) : OpsT P r n ds W0 M ops Q (i :: rest) l hs := by
  refine opsT_unit ho hw hk hd (fun W hR => ⟨{ W with heap := W.heap.setIfInBounds b (mapB enc f (ks ++ [x])) }, ?_, rep_setIf hR hh⟩) kk
  have hb := hR.own _ _ (List.mem_of_getElem? hh)
  have e1 : evD l m = .map (some b) := by simp [evD, hm]
  have e2 : evD l y = enc x := by simp [evD, hy]
  have e3 : evD l u = f ks.length x := by simp [evD, hu]
  unfold execOp
  rw [hop]
  simp only [e1, e2, e3, Instr.mapUpdate, run_underlying ht, Sem.run_bind, Result.andThen_ok, Go.MapKept.run_getObj_map hb, K.chk, List.toList_toArray, run_findKey K, findP_none hx, Go.MapKept.run_setObj_map _ hb, Sem.run_pure]
  have : (Obj.map ((ents enc f ks 0).toArray.push { key := enc x, val := f ks.length x, born := ks.length }) (ks.length + 1)) = mapB enc f (ks ++ [x]) := by
    simp [mapB, ents_append]
  rw [this]
/-- A key that was there, with the value that it had. -/
theorem opsT_mapOld {i : Nat} {rest : List Nat} {o : Oper} {t e : TypeId} {m y u : Operand} (K : KeyIs P kt enc) (f : Nat → κ → Value) (k b : Nat) (ks : List κ) (x : κ)
    (ho : ops[i]? = some o) (hw : wantedL ops l o = some true) (hk : known l o.op = true) (hd : o.dst = none)
    (hop : o.op = .mapUpdate t m y u) (hm : ev l m = some (.map (some b))) (hy : ev l y = some (enc x)) (hu : ev l u = some (f (ks.idxOf x) x)) (ht : P.underlying t = some (.map kt e)) (hh : hs[k]? = some (b, mapB enc f ks)) (hx : x ∈ ks)
    (kk : OpsT P r n ds W0 M ops Q rest l hs) : OpsT P r n ds W0 M ops Q (i :: rest) l hs := by
  have hself : hs.set k (b, mapB enc f ks) = hs := by
    apply List.ext_getElem?
    intro j
    rw [List.getElem?_set]
    split
    · rename_i e; subst e
      split
      · rw [hh]
      · rename_i hn; rw [List.getElem?_eq_none (by omega)] at hh; cases hh
    · rfl
  refine opsT_unit ho hw hk hd (fun W hR => ⟨{ W with heap := W.heap.setIfInBounds b (mapB enc f ks) }, ?_, by have := rep_setIf (o' := mapB enc f ks) hR hh; rwa [hself] at this⟩) kk
  have hb := hR.own _ _ (List.mem_of_getElem? hh)
  have e1 : evD l m = .map (some b) := by simp [evD, hm]
  have e2 : evD l y = enc x := by simp [evD, hy]
  have e3 : evD l u = f (ks.idxOf x) x := by simp [evD, hu]
  have hlt : ks.idxOf x < ks.length := List.idxOf_lt_length_of_mem hx
  have hg : ks[ks.idxOf x]? = some x := by rw [List.getElem?_eq_getElem hlt]; simp
  have hge := ents_get (enc := enc) (f := f) ks 0 _ _ hg
  simp only [Nat.zero_add] at hge
  unfold execOp
  rw [hop]
  simp only [e1, e2, e3, Instr.mapUpdate, run_underlying ht, Sem.run_bind, Result.andThen_ok, Go.MapKept.run_getObj_map hb, K.chk, List.toList_toArray, run_findKey K, findP_some (i := 0) hx, Nat.zero_add, List.getElem?_toArray, hge, Option.map_some, Option.getD_some, Instr.keyThatStays, K.same, if_true, Sem.run_pure, Go.MapKept.run_setObj_map _ hb]
  have : ((ents enc f ks 0).toArray.modify (ks.idxOf x) fun e => { e with key := enc x, val := f (ks.idxOf x) x }) = (ents enc f ks 0).toArray := by
    apply Array.ext'
    simp only [Array.toList_modify]
    apply List.ext_getElem?
    intro j
    rw [List.getElem?_modify]
    by_cases hj : ks.idxOf x = j
    · subst hj; simp [hge]
    · simp [hj]
  rw [this]
  rfl

theorem opsT_lenMap {i : Nat} {rest : List Nat} {o : Oper} {d : Nat} {c : Call} {t e : TypeId} {x : Operand} (f : Nat → κ → Value) (k b : Nat) (ks : List κ)
    (ho : ops[i]? = some o) (hw : wantedL ops l o = some true) (hk : known l o.op = true) (hd : o.dst = some d) (hdn : Nat.blt d n = true)
    (hop : o.op = .call c) (hc : c.callee = .builtin .len) (hat : c.argTypes = #[t]) (hargs : c.args = #[x]) (hx : ev l x = some (.map (some b))) (ht : P.underlying t = some (.map kt e)) (hh : hs[k]? = some (b, mapB enc f ks))
    (kk : OpsT P r n ds W0 M ops Q rest (setL l d (.int .i64 (ks.length : Int))) hs) : OpsT P r n ds W0 M ops Q (i :: rest) l hs := by
  refine opsT_value ho hw hk hd hdn (fun W hR => ?_) kk
  have hb := hR.own _ _ (List.mem_of_getElem? hh)
  have e1 : evD l x = .map (some b) := by simp [evD, hx]
  rw [run_builtin hop hc, hat, hargs]
  simp only [List.map_toArray, List.map_cons, List.map_nil, e1, builtin, Sem.run_bind]
  simp [Builtin.len_, run_underlying ht, Go.MapKept.run_getObj_map hb, ents_length]
  rfl

theorem check_int {t : TypeId} {q : IntKind} (ht : P.underlying t = some (.int q)) (b : Bool) (x : Int) (w : World) (n : Nat) : (Instr.checkKey b (n + 1) t (.int .i64 x)).run P w = .ok () w := by
  simp [Instr.checkKey, run_underlying ht]
/-- Keys that are ints. -/
theorem keyInt {t : TypeId} (ht : P.underlying t = some (.int .i64)) : KeyIs P t (Value.int .i64) where
  eq x y w := by
    show (Op.equalIn (9999 + 1) t _ _).run P w = _
    rw [run_equalIn_int w 9999 t .i64 .i64 x y ht]
    simp
    exact beq_eq_decide x y
  chk b x w := check_int ht b x w 9999
  same x := by show (IntKind.i64 == IntKind.i64 && x == x) = true; simp
  now := ⟨_, ht, .inl fun x y => by simp [Instr.sameNow]; exact beq_eq_decide x y⟩

/-- Keys that are two ints. -/
def pairV (p : Int × Int) : Value := .agg #[.int .i64 p.1, .int .i64 p.2]
theorem same_pair (p : Int × Int) : Instr.sameBits 10000 (pairV p) (pairV p) = true := by
  show ((#[Value.int .i64 p.1, Value.int .i64 p.2] : Array Value).size == (#[Value.int .i64 p.1, Value.int .i64 p.2] : Array Value).size && (((IntKind.i64 == IntKind.i64 && p.1 == p.1) && ((IntKind.i64 == IntKind.i64 && p.2 == p.2) && true)))) = true
  simp
theorem keyPair {t : TypeId} (ht : (P.underlying t).isSome = true)
    (he : ∀ x y : Int × Int, eqS P 5 t (pairV x) (pairV y) = some (decide (x.1 = y.1) && (decide (x.2 = y.2) && true)))
    (hc : ∀ b x, valS P (Instr.checkKey b 10000 t (pairV x)) = some ()) : KeyIs P t pairV where
  eq x y w := by
    show (Op.equalIn (9995 + 5) t _ _).run P w = _
    rw [eqS_run 5 t _ _ _ (he x y) 9995 w]
    congr 1
    rw [Bool.and_true, ← Bool.decide_and, decide_eq_decide]
    constructor
    · intro h; exact Prod.ext h.1 h.2
    · intro h; rw [h]; exact ⟨rfl, rfl⟩
  chk b x w := valS_run w (hc b x)
  same := same_pair
  now := by
    obtain ⟨d, hd⟩ := Option.isSome_iff_exists.1 ht
    exact ⟨d, hd, .inr fun x y => by cases d <;> rfl⟩
end
end Go.Proofs.Walk
