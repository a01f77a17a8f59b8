/- B9: regions that draw their order, in which one operation lays a block whenever it is its turn. ¦ B10: a deferred call of a function value that may recover, where nothing panics. ¦ B11: several ints stored at once. ¦ B12: a range over a function that hands over blocks of its own. ¦ B13: several ints loaded from a slice with room to spare. ¦ B14: what is handed over with blocks; an append that finds room. ¦ B15: heaps put in order by numbers; a call of what was given that keeps less. ¦ B16: regions that draw their order, in which a chain of operations turns the heap. -/
import Derived.Test.YtlkbokbcfajhjaaGreatB8
import Derived.RecoverIn
namespace Go.Proofs.Walk
open Go.Proofs
set_option linter.unusedVariables false
set_option linter.unusedSectionVars false
section
variable {P : Program} {r : Option Nat} {n : Nat} {ds : List Deferred} {W0 : World} {M : List Nat} {ops : Array Oper} {Q : Exit → Act → World → Prop} {l : List (Nat × Value)} {hs : List (Nat × Obj)}

/-- Each of the head's operations but the K-th comes to its value. -/
def QAllX (P : Program) (n : Nat) (Inv : World → Prop) (ops : Array Oper) (K : Nat) : List (Nat × Value) → Nat → List Value → Prop
  | _, _, [] => True
  | l, i, v :: vs => (i = K ∨ OpQ P n Inv ops (keepL (looksOf ops i) l) i v) ∧ QAllX P n Inv ops K (setL l ((dstOf ops i).getD 0) v) (i + 1) vs

variable {Inv : World → Prop} {K : Nat}
theorem QAllX.get : ∀ {vs : List Value} {l : List (Nat × Value)} {i : Nat}, QAllX P n Inv ops K l i vs → ∀ j v, vs[j]? = some v → i + j = K ∨ OpQ P n Inv ops (keepL (looksOf ops (i + j)) (lexL ops l i (vs.take j))) (i + j) v
  | [], _, _, _, j, v, h => by simp at h
  | u :: vs, l, i, h, 0, v, hj => by simp at hj; subst hj; exact h.1
  | u :: vs, l, i, h, j + 1, v, hj => by
    have := QAllX.get h.2 j v (by simpa using hj)
    rw [show i + 1 + j = i + (j + 1) by omega] at this
    simpa [lexL] using this
theorem qallx_append : ∀ {vs vs' : List Value} {l l' : List (Nat × Value)} {i : Nat}, QAll P n Inv ops l i vs → lexL ops l i vs = l' → QAllX P n Inv ops K l' (i + vs.length) vs' → QAllX P n Inv ops K l i (vs ++ vs')
  | [], vs', l, l', i, _, e, h => by cases e; exact h
  | v :: vs, vs', l, l', i, h1, e, h => by
    refine ⟨.inr h1.1, qallx_append h1.2 e ?_⟩
    rw [show i + 1 + vs.length = i + (v :: vs).length by simp; omega]
    exact h
theorem qallx_appendE {us vs vs' : List Value} {l l' : List (Nat × Value)} {i : Nat} (e : us = vs ++ vs') (h1 : QAll P n Inv ops l i vs) (h2 : lexL ops l i vs = l') (h3 : QAllX P n Inv ops K l' (i + vs.length) vs') : QAllX P n Inv ops K l i us := by
  subst e; exact qallx_append h1 h2 h3
theorem qallx_skip {v : Value} {vs : List Value} {i : Nat} (h : i = K) (k : QAllX P n Inv ops K (setL l ((dstOf ops i).getD 0) v) (i + 1) vs) : QAllX P n Inv ops K l i (v :: vs) := ⟨.inl h, k⟩
theorem qallx_of_qall {vs : List Value} {i : Nat} (h : QAll P n Inv ops l i vs) : QAllX P n Inv ops K l i vs := by
  have := qallx_append (K := K) (vs' := []) h rfl trivial
  simpa using this

theorem Filled.swap {m : Nat} {vs vs' : List Value} {listed : Array Bool} {a : Act} (h : Filled n ds ops m l vs listed a) (he : ∀ k, k < m → listed.getD k false = true → vs'[k]? = vs[k]?) : Filled n ds ops m l vs' listed a :=
  ⟨h.size, h.defers, fun k hk hl d v hd hv => h.done k hk hl d v hd (by rw [← he k hk hl]; exact hv), h.old⟩

/-- What a block-laying operation does. -/
structure OpA (P : Program) (n : Nat) (I : World → Prop) (J : Nat → World → Prop) (ops : Array Oper) (lk : List (Nat × Value)) (i : Nat) (va : Nat → Value) : Prop where
  here : ∃ o d, ops[i]? = some o ∧ o.dst = some d ∧ d < n ∧ wantedL ops lk o = some true ∧ known lk o.op = true ∧ ∀ W, I W → ∃ b W', (execOp (evD lk) o).run P W = .ok (.value (va b)) W' ∧ J b W'

theorem any_headA {m K : Nat} (hok : OrderOk ops m) {IN : World → Prop} {IS : Nat → World → Prop} {vs : Nat → List Value} {va : Nat → Value} (hlen : ∀ b, (vs b).length = m) (hK : K < m) (hva : ∀ b, (vs b)[K]? = some (va b))
    (hsame : ∀ b b' j, j ≠ K → (vs b)[j]? = (vs b')[j]?) (hqN : QAllX P n IN ops K l 0 (vs 0)) (hqS : ∀ b, QAllX P n (IS b) ops K l 0 (vs b))
    (hA : OpA P n IN IS ops (keepL (looksOf ops K) (lexL ops l 0 ((vs 0).take K))) K va)
    (hend : ∀ b a W, Agree n ds (lexL ops l 0 (vs b)) a → IS b W → wpOpsIn (FR r) 0 P ops Q (List.range' m (ops.size - m)) a W) :
    ∀ (fuel : Nat) (listed : Array Bool) (a : Act) (W : World), Picked ops m fuel listed → (∀ j, m ≤ j → listed.getD j false = false) →
      ((listed.getD K false = false ∧ Filled n ds ops m l (vs 0) listed a ∧ IN W) ∨ (∃ b, listed.getD K false = true ∧ Filled n ds ops m l (vs b) listed a ∧ IS b W)) → wpAnyIn (FR r) 0 P .any ops Q fuel listed a W := by
  have full : ∀ (fuel : Nat) (listed : Array Bool) (a : Act) (W : World) (b : Nat), Picked ops m fuel listed → (∀ j, m ≤ j → listed.getD j false = false) → (∀ j, j < m → listed.getD j false = true) →
      Filled n ds ops m l (vs b) listed a → IS b W → wpAnyIn (FR r) 0 P .any ops Q fuel listed a W := by
    intro fuel listed a W b hp hge hlt hf hR
    have hiff : ∀ j, listed.getD j false = true ↔ j < m := by
      intro j
      refine ⟨fun h => ?_, hlt j⟩
      rcases Nat.lt_or_ge j m with h' | h'
      · exact h'
      · rw [hge j h'] at h; cases h
    have hcnt : (List.range ops.size).countP (fun j => listed.getD j false) = m := by
      have key : ∀ K, (List.range K).countP (fun j => listed.getD j false) = min K m := by
        intro K
        induction K with
        | zero => simp
        | succ K ih =>
          rw [List.range_succ, List.countP_append, ih]
          by_cases hK : K < m
          · rw [Nat.min_eq_left (by omega), Nat.min_eq_left (by omega), List.countP_cons, hlt K hK]; simp
          · rw [Nat.min_eq_right (by omega), Nat.min_eq_right (by omega), List.countP_cons, hge K (by omega)]; simp
      rw [key, Nat.min_eq_right hok.le]
    have hfu : fuel = ops.size - m := by have := hp.count; omega
    refine any_tail hok fuel m listed a W hp (Nat.le_refl _) (by have := hok.le; omega) hiff ?_
    rw [hfu]
    refine hend b a W ⟨hf.size, hf.defers, fun s v hs => ?_⟩ hR
    have hs' : look (lexL ops l 0 ((vs b).take m)) s = some v := by rw [← hlen b, List.take_length]; exact hs
    rcases look_lexL hok (hlen b) m (Nat.le_refl _) s v hs' with ⟨k, hk, h1, h2⟩ | ⟨h1, h2⟩
    · exact hf.done k hk (hlt k hk) s v h1 h2
    · exact hf.old s v (fun k hk _ => h1 k hk) h2
  have allT : ∀ {fuel : Nat} {listed : Array Bool}, Picked ops m fuel listed → fuel = 0 → ∀ j, j < m → listed.getD j false = true := by
    intro fuel listed hp h0 j hj
    have hc := hp.count
    rw [h0, Nat.zero_add] at hc
    exact countP_all hc j (Nat.lt_of_lt_of_le hj hok.le)
  have agree : ∀ {b : Nat} {i : Nat} {listed : Array Bool} {a : Act}, i < m → (∀ j ∈ depsOf ops i, listed.getD j false = true) → Filled n ds ops m l (vs b) listed a → Agree n ds (keepL (looksOf ops i) (lexL ops l 0 ((vs b).take i))) a := by
    intro b i listed a him h3 hf
    refine ⟨hf.size, hf.defers, fun s v hs => ?_⟩
    have hmem : s ∈ looksOf ops i := by
      clear hf
      generalize lexL ops l 0 ((vs b).take i) = L at hs
      induction L with
      | nil => cases hs
      | cons p L ihL =>
        obtain ⟨e, u⟩ := p
        unfold keepL at hs
        split at hs
        · rename_i he
          unfold look at hs
          split at hs
          · rename_i hb; rw [← Nat.eq_of_beq_eq_true hb]; simpa using he
          · exact ihL hs
        · exact ihL hs
    rcases look_lexL hok (hlen b) i (by omega) s v (look_keepL hs) with ⟨k, hk, hd, hvk⟩ | ⟨hno, hl0⟩
    · have hkm : k < m := by omega
      exact hf.done k hkm (h3 k (hok.reads i him s hmem k hkm hd).2) s v hd hvk
    · refine hf.old s v (fun k hkm hkl hd => ?_) hl0
      exact hno k (hok.reads i him s hmem k hkm hd).1 hd
  have fill : ∀ {b : Nat} {i d : Nat} {v : Value} {listed : Array Bool} {a : Act}, i < m → i < listed.size → (vs b)[i]? = some v → dstOf ops i = some d → d < n → Filled n ds ops m l (vs b) listed a → Filled n ds ops m l (vs b) (listed.setIfInBounds i true) (a.put (some d) v) := by
    intro b i d v listed a him hil hv hd hdn hf
    refine ⟨by simp [Act.put, hf.size], by simp [Act.put, hf.defers], fun k hkm hkl e u hde hvk => ?_, fun s u hno hl0 => ?_⟩
    · simp only [Act.put, Array.getElem?_setIfInBounds]
      by_cases hik : i = k
      · subst hik
        rw [hd] at hde
        cases hde
        rw [hv] at hvk
        cases hvk
        have : d < a.tmps.size := by rw [hf.size]; exact hdn
        simp [this]
      · rw [getD_set hil, if_neg hik] at hkl
        have hne : d ≠ e := fun h => hok.apart i k him hkm hik (by rw [hd, hde, h])
        rw [if_neg hne]
        exact hf.done k hkm hkl e u hde hvk
    · simp only [Act.put, Array.getElem?_setIfInBounds]
      have hne : d ≠ s := fun h => hno i him (by rw [getD_set hil, if_pos rfl]) (by rw [hd, h])
      rw [if_neg hne]
      refine hf.old s u (fun k hkm hkl => hno k hkm ?_) hl0
      rw [getD_set hil]; split
      · rfl
      · exact hkl
  intro fuel
  induction fuel with
  | zero =>
    intro listed a W hp hge hst
    have hall := allT hp rfl
    rcases hst with ⟨h, _⟩ | ⟨b, _, hf, hR⟩
    · rw [hall K hK] at h; cases h
    · exact full 0 listed a W b hp hge hall hf hR
  | succ fuel ih =>
    intro listed a W hp hge hst
    by_cases hall : ∀ j, j < m → listed.getD j false = true
    · rcases hst with ⟨h, _⟩ | ⟨b, _, hf, hR⟩
      · rw [hall K hK] at h; cases h
      · exact full _ listed a W b hp hge hall hf hR
    · refine ⟨fun h0 => absurd (fun j hj => least_ready hok hp h0 j (by have := hok.le; omega)) hall, fun i hi => ?_⟩
      obtain ⟨h1, h2, h3⟩ := deps_ready hi
      have hil : i < listed.size := by rw [hp.size]; exact h2
      have hif : listed.getD i false = false := by rw [getD_bool hil false true]; exact h1
      have him : i < m := by
        rcases Nat.lt_or_ge i m with h | h
        · exact h
        · exact absurd (fun j hj => tail_after hok hp h hi j (by omega)) hall
      have hge' : ∀ j, m ≤ j → (listed.setIfInBounds i true).getD j false = false := fun j hj => by
        rw [getD_set hil, if_neg (by omega)]; exact hge j hj
      by_cases hiK : i = K
      · subst hiK
        rcases hst with ⟨_, hf, hR⟩ | ⟨b, h, _⟩
        · obtain ⟨o, d, ho, hd, hdn, hw, hk, hrun⟩ := hA.here
          have hdst : dstOf ops i = some d := by simp [dstOf, ho, hd]
          obtain ⟨b, W', hrun, hJ⟩ := hrun W hR
          have ha0 := agree him h3 hf
          unfold wpOpIn
          rw [ho]
          simp only [wantedL_spec hw ha0, if_true]
          refine ⟨fun _ _ => trivial, ?_⟩
          rw [known_sem hk ha0, hrun, Oper.uponIn_value, hd]
          refine ih (listed.setIfInBounds i true) (a.put (some d) (va b)) W' (hp.set hok hi) hge' (.inr ⟨b, by rw [getD_set hil, if_pos rfl], ?_, hJ⟩)
          refine fill him hil (hva b) hdst hdn (hf.swap fun k hk hl => hsame _ _ _ fun e => ?_)
          subst e; rw [hif] at hl; cases hl
        · rw [hif] at h; cases h
      · rcases hst with ⟨hl, hf, hR⟩ | ⟨b, hl, hf, hR⟩
        · have hvi : i < (vs 0).length := by rw [hlen]; exact him
          have hv := List.getElem?_eq_getElem hvi
          have hop := (hqN.get i _ hv).resolve_left (by omega)
          rw [Nat.zero_add] at hop
          refine hop.step (agree him h3 hf) hR fun d W' hd hdn hR' => ?_
          refine ih _ _ W' (hp.set hok hi) hge' (.inl ⟨?_, fill him hil hv hd hdn hf, hR'⟩)
          rw [getD_set hil, if_neg hiK]; exact hl
        · have hvi : i < (vs b).length := by rw [hlen]; exact him
          have hv := List.getElem?_eq_getElem hvi
          have hop := ((hqS b).get i _ hv).resolve_left (by omega)
          rw [Nat.zero_add] at hop
          refine hop.step (agree him h3 hf) hR fun d W' hd hdn hR' => ?_
          refine ih _ _ W' (hp.set hok hi) hge' (.inr ⟨b, ?_, fill him hil hv hd hdn hf, hR'⟩)
          rw [getD_set hil, if_neg hiK]; exact hl

/-- A region that draws its order; its K-th operation lays a block o. -/
theorem tri_drawA {id : Nat} (m K : Nat) (vs : Nat → List Value) (va : Nat → Value) (o : Obj) {todo : List Nat} {l' : Nat → List (Nat × Value)} (hm : P.follows .mixedOrders = true) (hB : orderB ops m = true) (hlen : ∀ b, (vs b).length = m) (hK : Nat.blt K m = true)
    (hva : ∀ b, (vs b)[K]? = some (va b)) (hsame : ∀ b b' j, j ≠ K → (vs b)[j]? = (vs b')[j]?) (hqN : QAllX P n (Rep W0 M hs) ops K l 0 (vs 0)) (hqS : ∀ b, QAllX P n (Rep W0 M ((b, o) :: hs)) ops K l 0 (vs b))
    {lk : List (Nat × Value)} (hlk : keepL (looksOf ops K) (lexL ops l 0 ((vs 0).take K)) = lk) (hA : OpA P n (Rep W0 M hs) (fun b => Rep W0 M ((b, o) :: hs)) ops lk K va) (hl' : ∀ b, lexL ops l 0 (vs b) = l' b) (ht : List.range' m (ops.size - m) = todo)
    (hend : ∀ b, OpsT P r n ds W0 M ops Q todo (l' b) ((b, o) :: hs)) : Tri P r n ds W0 M (.region id ops true) Q l hs := by
  subst hlk
  intro a W ha hR
  have hok := orderOk hB
  have hK := Nat.le_of_ble_eq_true hK
  refine wpIn_region_any hm (any_headA (ds := ds) hok hlen hK hva hsame hqN hqS hA (fun b a W h1 h2 => by rw [ht]; exact hend b a W (by rw [← hl']; exact h1) h2) _ _ _ _ ⟨by simp, fun i hi h => ?_, ?_, fun t _ _ h => ?_⟩ (fun j _ => ?_) (.inl ⟨?_, ⟨ha.size, ha.defers, fun k hk h => ?_, fun s v _ h => ha.slot s v h⟩, hR.drawn _⟩))
  · simp [Array.getElem?_replicate] at h; split at h <;> simp_all
  · have : (List.range ops.size).countP (fun j => (Array.replicate ops.size false).getD j false) = 0 := by
      rw [List.countP_eq_zero]; intro j hj; simp [Array.getElem?_replicate]; split <;> simp
    omega
  · simp [Array.getElem?_replicate] at h; split at h <;> simp_all
  · simp [Array.getElem?_replicate]; split <;> simp
  · simp [Array.getElem?_replicate]; split <;> simp
  · simp [Array.getElem?_replicate] at h; split at h <;> simp_all

theorem getElem?_but {α : Type} {f : Nat → List α} (K : Nat) (pre post : Nat → List α) (h1 : ∀ x y, pre x = pre y) (h2 : ∀ x y, post x = post y) {g : Nat → α} (hf : ∀ x, f x = pre x ++ g x :: post x) (hK : ∀ x, (pre x).length = K) (x y j : Nat) (hj : j ≠ K) : (f x)[j]? = (f y)[j]? := by
  rw [hf, hf, h1 x y, h2 x y]
  have hl := hK y
  rcases Nat.lt_trichotomy j K with h | h | h
  · rw [List.getElem?_append_left (by omega), List.getElem?_append_left (by omega)]
  · exact absurd h hj
  · rw [List.getElem?_append_right (by omega), List.getElem?_append_right (by omega), hl]
    obtain ⟨d, hd⟩ : ∃ d, j - K = d + 1 := ⟨j - K - 1, by omega⟩
    rw [hd]; simp

theorem opA_alloc {i d : Nat} {o : Oper} {t : TypeId} {lk : List (Nat × Value)} (z : Value) (ho : ops[i]? = some o) (hw : wantedL ops lk o = some true) (hk : known lk o.op = true) (hd : o.dst = some d) (hdn : Nat.blt d n = true)
    (hop : o.op = .alloc t) (hz : valS P (zeroValue t) = some z) : OpA P n (Rep W0 M hs) (fun b => Rep W0 M ((b, .cells z.cells t (0, 0)) :: hs)) ops lk i (fun b => .pointer (some ⟨b, 0, none⟩)) := by
  refine ⟨o, d, ho, hd, Nat.le_of_ble_eq_true hdn, hw, hk, fun W hR => ⟨W.heap.size, _, ?_, hR.push _⟩⟩
  unfold execOp
  rw [hop]
  refine run_value ?_
  simp only [Instr.alloc, Sem.run_bind, valS_run W hz, Result.andThen_ok]
  rfl
theorem opA_buildSlice {i d : Nat} {o : Oper} {t e : TypeId} {len size : Nat} {z : Value} {parts : Array (Nat × Operand)} {lk : List (Nat × Value)} (cells : List Value) (ho : ops[i]? = some o) (hw : wantedL ops lk o = some true) (hk : known lk o.op = true) (hd : o.dst = some d) (hdn : Nat.blt d n = true)
    (hop : o.op = .buildSlice t len parts) (ht : P.underlying t = some (.slice e)) (hi : (P.info? e).map (fun i => (i.size, i.zero)) = some (size, some z)) (hsm : Nat.ble (len * size) (2 ^ 24) = true)
    (hf : Instr.fill (fun i => some (i * size, size)) ((Array.range (len * size)).map (z.cells[· % z.cells.size]!)) (parts.map fun p => (p.1, evD lk p.2)).toList = some cells.toArray) :
    OpA P n (Rep W0 M hs) (fun b => Rep W0 M ((b, vecB cells e) :: hs)) ops lk i (fun b => .slice (some ⟨b, 0, none⟩) len len) := by
  refine ⟨o, d, ho, hd, Nat.le_of_ble_eq_true hdn, hw, hk, fun W hR => ⟨W.heap.size, _, ?_, hR.push _⟩⟩
  obtain ⟨inf, hinf, hs⟩ := Option.map_eq_some_iff.1 hi
  have h1 : inf.size = size := congrArg (·.1) hs
  have h2 : inf.zero = some z := congrArg (·.2) hs
  subst h1
  unfold execOp
  rw [hop]
  refine run_value ?_
  have hsm' : ¬ (2 ^ 24 < len * inf.size) := by have := Nat.le_of_ble_eq_true hsm; omega
  by_cases hz0 : len * inf.size = 0
  · have hr : (Array.range (len * inf.size)).map (z.cells[· % z.cells.size]!) = #[] := by rw [hz0]; simp
    rw [hr] at hf
    simp only [Array.toList_map] at hf
    simp [Instr.buildSlice, run_underlying ht, sizeOf, typeInfo, zeroValue, hinf, h2, hz0, hf, newRow, Array.range_zero']
    rfl
  · rw [run_buildSlice (P := P) W t e len _ cells.toArray inf z ht hinf h2 (by omega) hz0 hf]
    rfl
end
end Go.Proofs.Walk
namespace Go.Proofs.Walk
open Go.Proofs
set_option linter.unusedVariables false
set_option linter.unusedSectionVars false
section
variable {P : Program} {r : Option Nat} {n : Nat} {ds : List Deferred} {W0 : World} {M : List Nat} {ops : Array Oper} {Q : Exit → Act → World → Prop} {l : List (Nat × Value)} {hs : List (Nat × Obj)}

/-- The call that a defer statement of a function value lays by. -/
abbrev dfn (f : FuncId) (caps : Array Value) : Deferred := { target := .fn (.func f) caps, args := #[] }

theorem opsT_defer {i : Nat} {rest : List Nat} {o : Oper} {c : Call} {x : Operand} {f : FuncId} {caps : Array Value}
    (ho : ops[i]? = some o) (hw : wantedL ops l o = some true) (hd : o.dst = none) (hop : o.op = .defer c) (hc : c.callee = .value x) (hx : ev l x = some (.func (.func f) #[] caps)) (ha : c.args = #[])
    (k : OpsT P none n (dfn f caps :: ds) W0 M ops Q rest l hs) : OpsT P none n ds W0 M ops Q (i :: rest) l hs := by
  intro a W hA hR
  rw [wpOpsIn_cons]
  unfold wpOpIn
  rw [ho]
  simp only [wantedL_spec hw hA, if_true]
  refine ⟨fun _ _ => trivial, ?_⟩
  have hrun : (o.semAt none a.eval).run P W = .ok (.defer (dfn f caps)) W := by
    rw [Oper.semAt_none]
    unfold execOp
    rw [hop]
    simp only [resolve, hc, hA.eval hx, Deferred.ofValue, ha, Sem.run_bind, Sem.run_pure, Result.andThen_ok]
    simp
  show o.uponIn (FR none) 0 P a (wpOpsIn (FR none) 0 P ops Q rest) Q ((o.semAt none a.eval).run P W)
  rw [hrun, Oper.uponIn_defer, hd]
  exact k _ _ ⟨hA.size, by simp [Act.put, hA.defers], hA.slot⟩ hR

/-- A deferred call of f, in a frame that returns: it gives nothing back, and leaves what it says. -/
structure Quiet (P : Program) (f : FuncId) (caps : Array Value) (I J : World → Prop) : Prop where
  run : ∀ W, I W → CallsDIn (FR none) 0 P f caps .returning W fun e u W' => e = .returned (.tuple #[]) ∧ u = .returning ∧ J W'

theorem outM_call {fn : Func} {R : Ending → World → Prop} {f : FuncId} {caps : Array Value} {hs' : List (Nat × Obj)} (he : Enters P f) (hq : Quiet P f caps (Rep W0 M hs) (Rep W0 M hs')) (h : OutM P n W0 M fn R ds l hs') :
    OutM P n W0 M fn R (dfn f caps :: ds) l hs := by
  intro tmps W ht hR
  refine ⟨by simp, .inr ⟨FR_depth, .func f, caps, f, caps, rfl, ?_, fun _ _ => trivial, ?_⟩⟩
  · have := he.run caps W
    simp only [invoke]
    simpa using this
  · refine (hq.run W hR).mono fun e u W' ⟨he, hu, hR'⟩ => ?_
    subst he; subst hu
    exact h tmps W' ht hR'

/-- The body of a deferred function whose first region recovers, in a frame that returns: nothing is there to be recovered. -/
theorem quiet_recover {f : FuncId} {fn : Func} {id d : Nat} {o : Oper} {y : Code} {caps : Array Value} {hs' : List (Nat × Obj)} {c : Call} (hf : P.funcs[f]? = some fn) (hb : fn.body = some (.seq (.region id #[o] false) y)) (hn : fn.ntmps = n) (hle : Nat.ble caps.size n = true)
    (hd : o.dst = some d) (hdn : Nat.blt d n = true) (hg : o.guard = none) (hop : o.op = .call c) (hc : c.callee = .builtin .recover) (hres : fn.results = #[])
    (h : ∀ Q : Exit → Act → World → Prop, (∀ l', PostT n [] W0 M Q .normal l' hs') → Tri P none n [] W0 M y Q (setL (initL 0 caps.toList) d .nilIface) hs) : Quiet P f caps (Rep W0 M hs) (Rep W0 M hs') := by
  refine ⟨fun W hR => callsDIn_of_wpSIn (P := P) (F := FR none) (n := 0) (fn := fn) hf hb trivial fun c₀ cs hm => ?_⟩
  have hag : Agree n [] (initL 0 caps.toList) { tmps := caps ++ Array.replicate (fn.ntmps - caps.size) undef, defers := [] } := by
    refine ⟨?_, rfl, fun d v hd => ?_⟩
    · have := Nat.le_of_ble_eq_true hle
      simp [hn]; omega
    · obtain ⟨_, h2⟩ := look_initL hd
      have h3 : caps[d]? = some v := by simpa using h2
      have h4 : d < caps.size := (Array.getElem?_eq_some_iff.1 h3).1
      rw [Array.getElem?_append_left h4]; exact h3
  refine wpSIn_seq (wpSIn_region ?_)
  have hrange : List.range (#[o] : Array Oper).size = [0] := rfl
  rw [hrange]
  unfold wpOpsSIn
  have hop0 : (#[o] : Array Oper)[0]? = some o := rfl
  simp only [hop0]
  refine ⟨fun _ _ => trivial, ?_⟩
  have hw : ∀ g, Region.wanted o g = true := fun g => by unfold Region.wanted; rw [hg]
  rw [hw]
  have hrun : ∀ ρ : Operand → Value, (execOp ρ o).run P W = .ok .recover W := fun ρ => by
    rw [run_builtin hop hc]
    rfl
  simp only [if_true, hrun]
  have hrec : recoverD (c₀ :: cs) = none := by simp [recoverD, hm]
  rw [hrec]
  simp only [wpOpsSIn, Exit.thenS]
  refine wpSIn_of_wpIn rfl (h _ (fun l' a W' ha hR' => ?_) _ W (by rw [hd]; exact hag.put hdn _) hR)
  refine ⟨ha.defers, .returning, by rw [← hm], .tuple #[], ?_, rfl, rfl, hR'⟩
  rw [results_eq, hres]
  simp [Sem.run_bind, Result.andThen]
end
end Go.Proofs.Walk
namespace Go.Proofs.Walk
open Go.Proofs
set_option linter.unusedVariables false
set_option linter.unusedSectionVars false

/-- The ints zs, laid from off on. -/
def putL (xs : List Int) (off : Nat) : List Int → List Int
  | [] => xs
  | z :: zs => putL (xs.set off z) (off + 1) zs
theorem putL_length : ∀ (zs xs : List Int) (off : Nat), (putL xs off zs).length = xs.length
  | [], _, _ => rfl
  | z :: zs, xs, off => by rw [putL, putL_length zs, List.length_set]
theorem putL_get : ∀ (zs xs : List Int) (off p : Nat), off + zs.length ≤ xs.length → (putL xs off zs).getD p 0 = if off ≤ p ∧ p < off + zs.length then zs.getD (p - off) 0 else xs.getD p 0
  | [], xs, off, p, _ => by rw [putL, if_neg (by simp only [List.length_nil]; omega)]
  | z :: zs, xs, off, p, h => by
    simp only [List.length_cons] at h
    rw [putL, putL_get zs _ (off + 1) p (by rw [List.length_set]; omega)]
    have hlt : off < xs.length := by omega
    simp only [List.length_cons]
    by_cases h1 : off + 1 ≤ p ∧ p < off + 1 + zs.length
    · rw [if_pos h1, if_pos (by omega), show p - off = (p - (off + 1)) + 1 by omega, List.getD_cons_succ]
    · rw [if_neg h1]
      by_cases h2 : p = off
      · subst h2
        rw [if_pos (by omega), Nat.sub_self, List.getD_cons_zero]
        simp [List.getD, hlt]
      · rw [if_neg (by omega)]
        have : off ≠ p := fun e => h2 e.symm
        simp [List.getD, List.getElem?_set, this]

section
variable {P : Program} {r : Option Nat} {n : Nat} {ds : List Deferred} {W0 : World} {M : List Nat} {ops : Array Oper} {Q : Exit → Act → World → Prop} {l : List (Nat × Value)} {hs : List (Nat × Obj)}
theorem setCells_ints : ∀ (zs xs : List Int) (off : Nat), setCells (xs.map (Value.int .i64)).toArray off (zs.map (Value.int .i64)) = ((putL xs off zs).map (Value.int .i64)).toArray
  | [], _, _ => rfl
  | z :: zs, xs, off => by
    rw [List.map_cons, setCells, putL, ← setCells_ints zs]
    congr 1
    simp [List.map_set]
theorem opsT_storeInts {i : Nat} {rest : List Nat} {o : Oper} {t : TypeId} {x y : Operand} (k : Nat) (b off : Nat) (xs : List Int) (e : TypeId) (zs : List Int)
    (ho : ops[i]? = some o) (hw : wantedL ops l o = some true) (hk : known l o.op = true) (hd : o.dst = none)
    (hop : o.op = .store t x y) (hx : ev l x = some (.pointer (some ⟨b, off, none⟩))) (hy : ev l y = some (.agg (zs.map (Value.int .i64)).toArray)) (hh : hs[k]? = some (b, intsB xs e))
    (hsz : (P.info? t).map (·.size) = some zs.length) (hlt : off + zs.length ≤ xs.length)
    (kk : OpsT P r n ds W0 M ops Q rest l (hs.set k (b, intsB (putL xs off zs) e))) : OpsT P r n ds W0 M ops Q (i :: rest) l hs := by
  have hc : (Value.agg (zs.map (Value.int .i64)).toArray).cells = (zs.map (Value.int .i64)).toArray := rfl
  refine opsT_store k b off _ ((putL xs off zs).map (Value.int .i64)).toArray e (.agg (zs.map (Value.int .i64)).toArray) ho hw hk hd hop hx hy hh (by rw [hc]; simpa using hsz) ?_ (Nat.ble_eq_true_of_le (by rw [hc]; simpa using hlt)) ?_ kk
  · rw [hc]; simp [oneCell]
  · rw [hc]; exact setCells_ints zs xs off
end
end Go.Proofs.Walk
namespace Go.Proofs.Walk
open Go.Proofs
set_option linter.unusedVariables false
set_option linter.unusedSectionVars false
section
variable {P : Program} {r : Option Nat} {n : Nat} {ds : List Deferred} {W0 : World} {M : List Nat} {ops : Array Oper} {Q : Exit → Act → World → Prop} {l : List (Nat × Value)} {hs : List (Nat × Obj)}

/-- Function f, on what it has captured, calls what it is given with xs 0 g, .., xs (N - 1) g, in order, till it is told to stop; at the k-th call the blocks G k g are there; g: what it has chosen. -/
structure IterG (P : Program) (f : FuncId) (caps : Array Value) (capt : List (Nat × Obj)) (N : Nat) {γ : Type} (xs : Nat → γ → Array Value) (G : Nat → γ → List (Nat × Obj)) (W0 : World) (M : List Nat) : Prop where
  run : ∀ (β : Type) (H : β → List (Nat × Obj)) (I : Nat → β → Prop) (Ix : β → Prop) (yv : Value), yv.cells = #[yv] →
    (∀ k, k < N → ∀ g x, I k x → ∀ own W, Rep W0 M (H x ++ (G k g ++ own)) W → CallV P yv (xs k g) W (YPost W0 M H (I (k + 1)) Ix (G k g ++ own))) →
    ∀ x, I 0 x → ∀ own W, Rep W0 M (H x ++ (capt ++ own)) W →
      Calls P f (#[yv] ++ caps) W fun e W' => e = .returned (.tuple #[]) ∧ ((∃ x, I N x ∧ Rep W0 M (H x ++ (capt ++ own)) W') ∨ (∃ x, Ix x ∧ Rep W0 M (H x ++ (capt ++ own)) W'))

theorem tri_rangeG {g : Operand} {ps : Array Tmp} {assign body : Code} {f : FuncId} {caps : Array Value} {capt own : List (Nat × Obj)} {N : Nat} {γ : Type} {xs : Nat → γ → Array Value} {G : Nat → γ → List (Nat × Obj)} {β : Type} (H : β → List (Nat × Obj)) (I : Nat → β → Prop) (J : Code → β → Prop) (x₀ : β)
    (hg : ev l g = some (.func (.func f) #[] caps)) (he : Enters P f) (hit : IterG P f caps capt N xs G W0 M) (hhs : hs = capt ++ (H x₀ ++ own)) (h0 : I 0 x₀)
    (hsz : ∀ k g, k < N → (xs k g).size = ps.size) (hb : ∀ k g, k < N → ((ps.toList.zip (xs k g).toList).all fun p => Nat.blt p.1 n) = true)
    (round : ∀ k, k < N → ∀ g x, I k x → ∀ (L : Nat) (rc : Loop) (own' : List (Nat × Obj)), rc.state = .ready →
      Tri P (some L) n [] W0 M assign (AssignQ P n W0 M L body (RoundQ W0 M L rc H (I (k + 1)) J (G k g ++ own'))) (foldP l (ps.toList.zip (xs k g).toList)) ((L, .loop rc) :: (H x ++ (G k g ++ own'))))
    (done : ∀ x, I N x → ∀ (D L : Nat) (rc : Loop), PostT n (markOf D :: ds) W0 M Q .normal l ((D, .deferred (some [])) :: (L, .loop rc) :: (H x ++ (capt ++ own))))
    (stop : ∀ c x, J c x → ∀ (D L : Nat) (rc : Loop), Tri P none n (markOf D :: ds) W0 M c Q l ((D, .deferred (some [])) :: (L, .loop rc) :: (H x ++ (capt ++ own)))) :
    Tri P none n ds W0 M (.rangeFunc g ps assign body) Q l hs := by
  subst hhs
  intro a W ha hR
  refine wpIn_rangeFunc fun fn _ => ?_
  have hent := run_enterLoop_outer (P := P) (w := W) fn a.tmps ps assign body
  have hgv : a.eval g = .func (.func f) #[] caps := ha.eval hg
  let rc : Loop := { state := .ready, pending := none, fn := fn, tmps := a.tmps, params := ps, assign := assign, body := body, defers := W.heap.size }
  have hR1 : Rep W0 M ((W.heap.size, .deferred (some [])) :: (capt ++ (H x₀ ++ own))) (W.alloc (.deferred (some []))) := hR.push _
  have hR2 : Rep W0 M ((W.heap.size + 1, .loop rc) :: (W.heap.size, .deferred (some [])) :: (capt ++ (H x₀ ++ own))) ((W.alloc (.deferred (some []))).alloc (.loop rc)) := by
    have := hR1.push (.loop rc)
    have e : (W.alloc (Obj.deferred (some []))).heap.size = W.heap.size + 1 := World.size_alloc _ _
    rw [e] at this
    exact this
  refine ⟨W.heap.size + 1, [markOf W.heap.size], (W.alloc (.deferred (some []))).alloc (.loop rc), { target := .fn (.func f) caps, args := #[.func (.yield (W.heap.size + 1)) #[] #[]] }, (W.alloc (.deferred (some []))).alloc (.loop rc), f, #[.func (.yield (W.heap.size + 1)) #[] #[]] ++ caps, (W.alloc (.deferred (some []))).alloc (.loop rc), hent, ?_, fun _ _ => trivial, ?_, FR_depth (r := none) (p := 1 ≤ 0), ?_⟩
  · simp only [rangeCall, resolve, hgv, Deferred.ofValue, Sem.run_pure]
    simp [Act.eval]
  · simp only [invoke, he.run]
  · refine callsFR.2 ?_
    let H2 : β × Loop → List (Nat × Obj) := fun y => (W.heap.size + 1, Obj.loop y.2) :: H y.1
    have permA : ∀ (x : β) (o : Obj), ((W.heap.size, o) :: (capt ++ (H x ++ own))).Perm (H x ++ (capt ++ ((W.heap.size, o) :: own))) := fun x o => by
      rw [← List.append_assoc (H x), ← List.append_assoc capt]
      exact (List.Perm.cons _ (List.perm_append_comm.append_right own)).trans List.perm_middle.symm
    have permC : ∀ (x : β) (o : Obj), (H x ++ (capt ++ ((W.heap.size, o) :: own))).Perm ((W.heap.size, o) :: (H x ++ (capt ++ own))) := fun x o => by
      have := List.perm_middle (l₁ := H x ++ capt) (l₂ := own) (a := (W.heap.size, o))
      simpa [List.append_assoc] using this
    have permB : ∀ (x : β) (o : Obj) (lp : Loop), (H2 (x, lp) ++ (capt ++ ((W.heap.size, o) :: own))).Perm ((W.heap.size, o) :: (W.heap.size + 1, Obj.loop lp) :: (H x ++ (capt ++ own))) := fun x o lp =>
      List.Perm.trans (List.Perm.cons _ (permC x o)) (List.Perm.swap _ _ _)
    have hR3 : Rep W0 M (H2 (x₀, rc) ++ (capt ++ ((W.heap.size, .deferred (some [])) :: own))) ((W.alloc (.deferred (some []))).alloc (.loop rc)) := hR2.perm (List.Perm.cons _ (permA x₀ _))
    have hrec : Agree n [] l ⟨rc.tmps, []⟩ := ⟨ha.size, rfl, ha.slot⟩
    have hbody := hit.run (β × Loop) H2 (fun k y => y.2 = rc ∧ I k y.1) (fun y => ∃ c, y.2 = { rc with state := .done, pending := some c } ∧ J c y.1) (.func (.yield (W.heap.size + 1)) #[] #[]) rfl
      (fun k hk g y hy own' W' hW' => by
        obtain ⟨x, lp⟩ := y
        obtain ⟨rfl, hI⟩ := hy
        exact callV_yield (n := n) (l := l) (rc := rc) (H := H) (I := I (k + 1)) (J := J) (own := G k g ++ own') rfl rfl hrec rfl (hsz k g hk) (hb k g hk) hW' (round k hk g x hI _ rc own' rfl))
      (x₀, rc) ⟨rfl, h0⟩ _ _ hR3
    refine hbody.mono fun e W' ⟨he, hq⟩ => ?_
    subst he
    have hag : Agree n (markOf W.heap.size :: ds) l { a with defers := [markOf W.heap.size] ++ a.defers } := ⟨ha.size, by simp [ha.defers], ha.slot⟩
    have hend : ∀ (x : β) (lp : Loop), lp.state ≠ .busy → Rep W0 M (H2 (x, lp) ++ (capt ++ ((W.heap.size, .deferred (some [])) :: own))) W' →
        ∃ w4, (Instr.endLoop (W.heap.size + 1)).run P W' = .ok lp.pending w4 ∧ Rep W0 M ((W.heap.size, .deferred (some [])) :: (W.heap.size + 1, .loop { lp with state := .exhausted }) :: (H x ++ (capt ++ own))) w4 := fun x lp hst hW' => by
      have hL := hW'.own (W.heap.size + 1) (.loop lp) (by simp [H2])
      refine ⟨_, run_endLoop hL hst, ?_⟩
      have h1 : Rep W0 M ((W.heap.size + 1, Obj.loop lp) :: (H x ++ (capt ++ ((W.heap.size, .deferred (some [])) :: own)))) W' := hW'
      exact (rep_putObj h1 (o' := .loop { lp with state := .exhausted })).perm (permB x _ { lp with state := .exhausted })
    rcases hq with ⟨⟨x, lp⟩, ⟨rfl, hI⟩, hW'⟩ | ⟨⟨x, lp⟩, ⟨c, rfl, hJ⟩, hW'⟩
    · obtain ⟨w4, h1, h2⟩ := hend x rc (by simp [rc]) hW'
      exact ⟨none, w4, h1, done x hI _ _ _ _ _ hag h2⟩
    · obtain ⟨w4, h1, h2⟩ := hend x _ (by simp) hW'
      exact ⟨some c, w4, h1, stop c x hJ _ _ _ _ _ hag h2⟩
end
end Go.Proofs.Walk
namespace Go.Proofs.Walk
open Go.Proofs
set_option linter.unusedVariables false
set_option linter.unusedSectionVars false
section
variable {P : Program} {r : Option Nat} {n : Nat} {ds : List Deferred} {W0 : World} {M : List Nat} {ops : Array Oper} {Q : Exit → Act → World → Prop} {l : List (Nat × Value)} {hs : List (Nat × Obj)}
theorem cells_roomM {W : World} {b off m : Nat} {xs : List Int} {sp : List Value} {t : TypeId} (h : W.heap[b]? = some (roomB xs sp t)) (hle : off + m ≤ xs.length) : Cells W b off (getInts xs off m) := by
  intro i v hi
  have him : i < m := by
    rcases Nat.lt_or_ge i m with h' | h'
    · exact h'
    · simp [getInts, List.getElem?_eq_none (by simpa using h' : (List.range m).length ≤ i)] at hi
  simp only [getInts, List.getElem?_map, List.getElem?_range him, Option.map_some, Option.some.injEq] at hi
  have := cells_room h (off := off + i) (by omega) 0 _ rfl
  rw [← hi]
  exact this
theorem opsT_loadRoomM {i : Nat} {rest : List Nat} {o : Oper} {d : Nat} {t : TypeId} {x : Operand} (k : Nat) (b off m : Nat) (xs : List Int) (sp : List Value) (e : TypeId) (v : Value)
    (ho : ops[i]? = some o) (hw : wantedL ops l o = some true) (hk : known l o.op = true) (hd : o.dst = some d) (hdn : Nat.blt d n = true)
    (hop : o.op = .load t x) (hx : ev l x = some (.pointer (some ⟨b, off, none⟩))) (hh : hs[k]? = some (b, roomB xs sp e)) (hle : off + m ≤ xs.length) (hl : loaded P t (getInts xs off m) = some v)
    (kk : OpsT P r n ds W0 M ops Q rest (setL l d v) hs) : OpsT P r n ds W0 M ops Q (i :: rest) l hs :=
  opsT_value ho hw hk hd hdn (fun _ hR => run_load hop hx hl (cells_roomM (hR.own _ _ (List.mem_of_getElem? hh)) hle)) kk
theorem opQ_loadRoomM {lk : List (Nat × Value)} {i d : Nat} {o : Oper} {t : TypeId} {x : Operand} (k : Nat) (b off m : Nat) (xs : List Int) (sp : List Value) (e : TypeId) {v : Value}
    (ho : ops[i]? = some o) (hw : wantedL ops lk o = some true) (hk : known lk o.op = true) (hd : o.dst = some d) (hdn : Nat.blt d n = true)
    (hop : o.op = .load t x) (hx : ev lk x = some (.pointer (some ⟨b, off, none⟩))) (hh : hs[k]? = some (b, roomB xs sp e)) (hle : off + m ≤ xs.length) (hl : loaded P t (getInts xs off m) = some v) : OpQ P n (Rep W0 M hs) ops lk i v :=
  ⟨o, d, ho, hd, Nat.le_of_ble_eq_true hdn, .inr (.inl ⟨hw, hk, fun _ hR => run_load hop hx hl (cells_roomM (hR.own _ _ (List.mem_of_getElem? hh)) hle)⟩)⟩
end
end Go.Proofs.Walk
namespace Go.Proofs.Walk
open Go.Proofs
set_option linter.unusedVariables false
set_option linter.unusedSectionVars false
set_option linter.unusedSimpArgs false
section
variable {P : Program} {r : Option Nat} {n : Nat} {ds : List Deferred} {W0 : World} {M : List Nat} {ops : Array Oper} {Q : Exit → Act → World → Prop} {l : List (Nat × Value)} {hs : List (Nat × Obj)}

/-- A call of what was given, with blocks G at hand. -/
theorem opsT_yieldG {i : Nat} {rest : List Nat} {o : Oper} {d : Nat} {c : Call} {x : Operand} {y : Value} {args : Array Value} {β : Type} {H : β → List (Nat × Obj)} {I' Ix : β → Prop} {z : β} (G rest' : List (Nat × Obj)) (F : β → List (Nat × Obj))
    (ho : ops[i]? = some o) (hw : wantedL ops l o = some true) (hk : known l o.op = true) (hd : o.dst = some d) (hdn : Nat.blt d n = true)
    (hop : o.op = .call c) (hc : c.callee = .value x) (hx : ev l x = some y) (hargs : c.args.map (evD l) = args) (hF : ∀ z, (F z).Perm (H z ++ (G ++ rest'))) (hhs : hs = F z)
    (hy : ∀ own W, Rep W0 M (H z ++ (G ++ own)) W → CallV P y args W (YPost W0 M H I' Ix (G ++ own)))
    (k1 : ∀ z', I' z' → OpsT P r n ds W0 M ops Q rest (setL l d (.bool true)) (F z'))
    (k2 : ∀ z', Ix z' → OpsT P r n ds W0 M ops Q rest (setL l d (.bool false)) (F z')) : OpsT P r n ds W0 M ops Q (i :: rest) l hs := by
  subst hhs
  refine opsT_callv (β := Bool × β) (fun b => .bool b.1) (fun b => F b.2) (fun b => (b.1 = true → I' b.2) ∧ (b.1 = false → Ix b.2)) ho hw hk hd hdn hop hc hx hargs
    (fun W hR => (hy rest' W (hR.perm (hF z))).mono fun e W' h => ?_) (fun b hC => ?_)
  · rcases h with ⟨rfl, z', hI, hR'⟩ | ⟨rfl, z', hI, hR'⟩
    · exact ⟨(true, z'), ⟨fun _ => hI, fun h => by cases h⟩, rfl, hR'.perm (hF z').symm⟩
    · exact ⟨(false, z'), ⟨(fun h => by cases h), fun _ => hI⟩, rfl, hR'.perm (hF z').symm⟩
  · obtain ⟨bb, z'⟩ := b
    cases bb with
    | true => exact k1 z' (hC.1 rfl)
    | false => exact k2 z' (hC.2 rfl)

theorem setCells_room (vs spare news : List Value) {p : Nat} (hvs : vs.length = p) (hle : news.length ≤ spare.length) : setCells (vs ++ spare).toArray p news = (vs ++ (news ++ spare.drop news.length)).toArray := by
  subst hvs
  induction news generalizing vs spare with
  | nil => simp [setCells]
  | cons u us ih =>
    rcases spare with _ | ⟨s, spare⟩
    · simp at hle
    have : (vs ++ (s :: spare)).toArray.setIfInBounds vs.length u = (vs ++ [u] ++ spare).toArray := by
      apply Array.ext'
      simp [List.set_append]
    simp only [setCells, this]
    have := ih (vs ++ [u]) spare (by simpa using hle)
    rw [List.length_append, List.length_singleton] at this
    rw [this]
    simp

theorem opsT_appendRoom {i : Nat} {rest : List Nat} {o : Oper} {d : Nat} {c : Call} {t tx e : TypeId} {size : Nat} {x y : Operand} (vs spare news : List Value) (m k cap b q : Nat) (yv : Value)
    (ho : ops[i]? = some o) (hw : wantedL ops l o = some true) (hk : known l o.op = true) (hd : o.dst = some d) (hdn : Nat.blt d n = true)
    (hop : o.op = .call c) (hc : c.callee = .builtin .append) (hat : c.argTypes = #[t, tx]) (hargs : c.args = #[x, y]) (hx : ev l x = some (.slice (some ⟨b, 0, none⟩) m cap)) (hy : ev l y = some yv)
    (ht : P.underlying t = some (.slice e)) (hi : (P.info? e).map (·.size) = some size) (hh : hs[q]? = some (b, vecB (vs ++ spare) e)) (hvs : vs.length = m * size) (hroom : m + k ≤ cap) (hle : news.length ≤ spare.length) (hone : news.all oneCell = true)
    (hsrc : ∀ W, Rep W0 M hs W → Src P size tx yv k news W)
    (kk : OpsT P r n ds W0 M ops Q rest (setL l d (.slice (some ⟨b, 0, none⟩) (m + k) cap)) (hs.set q (b, vecB (vs ++ (news ++ spare.drop news.length)) e))) : OpsT P r n ds W0 M ops Q (i :: rest) l hs := by
  refine opsT_some (β := Unit) (fun _ => .slice (some ⟨b, 0, none⟩) (m + k) cap) (fun _ => hs.set q (b, vecB (vs ++ (news ++ spare.drop news.length)) e)) ho hw hk hd hdn (fun W hR => ⟨(), ?_⟩) (fun _ => kk)
  obtain ⟨inf, hinf, hs1⟩ := Option.map_eq_some_iff.1 hi
  subst hs1
  have e1 : evD l x = .slice (some ⟨b, 0, none⟩) m cap := by simp [evD, hx]
  have e2 : evD l y = yv := by simp [evD, hy]
  have hS := hsrc W hR
  have hnews := hS.newsLen
  rw [run_builtin hop hc, hat, hargs]
  simp only [List.map_toArray, List.map_cons, List.map_nil, e1, e2, builtin, Sem.run_bind]
  have hown : W.heap[b]? = some (vecB (vs ++ spare) e) := hR.own b _ (List.mem_of_getElem? hh)
  have hcell : ∀ j, j < news.length → (W.cell? ⟨b, m * inf.size + 0 + j, none⟩).isSome = true := by
    intro j hj
    rw [cell_own hown]
    have : m * inf.size + 0 + j < (vs ++ spare).length := by rw [List.length_append, hvs]; omega
    simp only [List.getElem?_toArray, List.getElem?_eq_getElem this, Option.isSome_some]
  have hst := run_storeCells_cells (P := P) b (m * inf.size) news 0 W hcell (fun j hj => by simp [World.frozen?, hown, vecB]) (fun v hv => oneCell'_of (List.all_eq_true.1 hone v hv))
  obtain ⟨W', hr, hs1, hs2, hs3, hs4⟩ := run_storeCells (P := P) (b := b) (e := e) news (m * inf.size) 0 W _ (fun u hu => List.all_eq_true.1 hone u hu) hown (by simp; rw [hvs]; omega)
  rw [hst] at hr
  obtain ⟨rfl⟩ : W' = W.setCells b (m * inf.size + 0) news := by simpa using hr.symm
  have hsc := setCells_room vs spare news hvs hle
  rw [Nat.add_zero, hsc] at hs2
  refine ⟨W.setCells b (m * inf.size) news, ?_, hR.turn hh _ (by simpa using hs1) hs2 (fun c hc => by simpa using hs3 c hc) (by simpa using hs4)⟩
  have := run_append_room_src (P := P) W t tx o.type e inf ht hinf b 0 m cap yv k news hS hroom (by simpa using hcell) (fun j hj => by simp [World.frozen?, hown, vecB])
  rw [this, Nat.zero_add]
  rfl

theorem opA_make {i d : Nat} {o : Oper} {t e : TypeId} {x y : Operand} {lk : List (Nat × Value)} (len cap : Nat) (z : Value) (bytes : Nat) (ho : ops[i]? = some o) (hw : wantedL ops lk o = some true) (hk : known lk o.op = true) (hd : o.dst = some d) (hdn : Nat.blt d n = true)
    (hop : o.op = .makeSlice t x y) (hx : ev lk x = some (.int .i64 (len : Int))) (hy : ev lk y = some (.int .i64 (cap : Int))) (ht : P.underlying t = some (.slice e))
    (hi : (P.info? e).map (fun i => (i.size, i.zero, i.bytes)) = some (1, some z, bytes)) (hz : z.cells = #[z]) (hle : len ≤ cap) (hb : bytes * cap ≤ 281474976710656) (h63 : cap ≤ 9223372036854775807) :
    OpA P n (Rep W0 M hs) (fun b => Rep W0 M ((b, vecB (List.replicate cap z) e) :: hs)) ops lk i (fun b => .slice (some ⟨b, 0, none⟩) len cap) := by
  refine ⟨o, d, ho, hd, Nat.le_of_ble_eq_true hdn, hw, hk, fun W hR => ⟨W.heap.size, _, ?_, hR.push _⟩⟩
  obtain ⟨inf, hinf, hs⟩ := Option.map_eq_some_iff.1 hi
  have h1 : inf.size = 1 := congrArg (·.1) hs
  have h2 : inf.zero = some z := congrArg (·.2.1) hs
  have h3 : inf.bytes = bytes := congrArg (·.2.2) hs
  have e1 : evD lk x = .int .i64 (len : Int) := by simp [evD, hx]
  have e2 : evD lk y = .int .i64 (cap : Int) := by simp [evD, hy]
  unfold execOp
  rw [hop]
  refine run_value ?_
  rw [e1, e2, run_make W t e inf z ht hinf h2 .i64 .i64 (len : Int) (cap : Int) (by omega) (by omega) (by rw [h3, ← Int.natCast_mul]; omega) (by omega), h1, hz, Nat.mul_one, madeCells_one]
  rfl

/-- A region that draws its order; its K-th operation turns the heap. -/
theorem tri_drawE {id : Nat} (m K : Nat) (vs : List Value) (v : Value) (hs' : List (Nat × Obj)) {todo : List Nat} {l' : List (Nat × Value)} (hm : P.follows .mixedOrders = true) (hB : orderB ops m = true) (hlen : vs.length = m) (hK : Nat.blt K m = true)
    (hva : vs[K]? = some v) (hqN : QAllX P n (Rep W0 M hs) ops K l 0 vs) (hqS : QAllX P n (Rep W0 M hs') ops K l 0 vs)
    {lk : List (Nat × Value)} (hlk : keepL (looksOf ops K) (lexL ops l 0 (vs.take K)) = lk) (hA : OpA P n (Rep W0 M hs) (fun _ => Rep W0 M hs') ops lk K (fun _ => v)) (hl' : lexL ops l 0 vs = l') (ht : List.range' m (ops.size - m) = todo)
    (hend : OpsT P r n ds W0 M ops Q todo l' hs') : Tri P r n ds W0 M (.region id ops true) Q l hs := by
  subst hlk
  intro a W ha hR
  have hok := orderOk hB
  have hK := Nat.le_of_ble_eq_true hK
  refine wpIn_region_any hm (any_headA (ds := ds) (vs := fun _ => vs) (va := fun _ => v) (IS := fun _ => Rep W0 M hs') hok (fun _ => hlen) hK (fun _ => hva) (fun _ _ _ _ => rfl) hqN (fun _ => hqS) hA (fun b a W h1 h2 => by rw [ht]; exact hend a W (by rw [← hl']; exact h1) h2) _ _ _ _ ⟨by simp, fun i hi h => ?_, ?_, fun t _ _ h => ?_⟩ (fun j _ => ?_) (.inl ⟨?_, ⟨ha.size, ha.defers, fun k hk h => ?_, fun s v _ h => ha.slot s v h⟩, hR.drawn _⟩))
  · simp [Array.getElem?_replicate] at h; split at h <;> simp_all
  · have : (List.range ops.size).countP (fun j => (Array.replicate ops.size false).getD j false) = 0 := by
      rw [List.countP_eq_zero]; intro j hj; simp [Array.getElem?_replicate]; split <;> simp
    omega
  · simp [Array.getElem?_replicate] at h; split at h <;> simp_all
  · simp [Array.getElem?_replicate]; split <;> simp
  · simp [Array.getElem?_replicate]; split <;> simp
  · simp [Array.getElem?_replicate] at h; split at h <;> simp_all

theorem opA_appendRoom {i d : Nat} {o : Oper} {c : Call} {t tx e : TypeId} {size : Nat} {x y : Operand} {lk : List (Nat × Value)} (vs spare news : List Value) (m k cap b q : Nat) (yv : Value)
    (ho : ops[i]? = some o) (hw : wantedL ops lk o = some true) (hk : known lk o.op = true) (hd : o.dst = some d) (hdn : Nat.blt d n = true)
    (hop : o.op = .call c) (hc : c.callee = .builtin .append) (hat : c.argTypes = #[t, tx]) (hargs : c.args = #[x, y]) (hx : ev lk x = some (.slice (some ⟨b, 0, none⟩) m cap)) (hy : ev lk y = some yv)
    (ht : P.underlying t = some (.slice e)) (hi : (P.info? e).map (·.size) = some size) (hh : hs[q]? = some (b, vecB (vs ++ spare) e)) (hvs : vs.length = m * size) (hroom : m + k ≤ cap) (hle : news.length ≤ spare.length) (hone : news.all oneCell = true)
    (hsrc : ∀ W, Rep W0 M hs W → Src P size tx yv k news W) {hs' : List (Nat × Obj)} (hhs : hs.set q (b, vecB (vs ++ (news ++ spare.drop news.length)) e) = hs') :
    OpA P n (Rep W0 M hs) (fun _ => Rep W0 M hs') ops lk i (fun _ => .slice (some ⟨b, 0, none⟩) (m + k) cap) := by
  subst hhs
  refine ⟨o, d, ho, hd, Nat.le_of_ble_eq_true hdn, hw, hk, fun W hR => ⟨0, ?_⟩⟩
  obtain ⟨inf, hinf, hs1⟩ := Option.map_eq_some_iff.1 hi
  subst hs1
  have e1 : evD lk x = .slice (some ⟨b, 0, none⟩) m cap := by simp [evD, hx]
  have e2 : evD lk y = yv := by simp [evD, hy]
  have hS := hsrc W hR
  have hnews := hS.newsLen
  rw [run_builtin hop hc, hat, hargs]
  simp only [List.map_toArray, List.map_cons, List.map_nil, e1, e2, builtin, Sem.run_bind]
  have hown : W.heap[b]? = some (vecB (vs ++ spare) e) := hR.own b _ (List.mem_of_getElem? hh)
  have hcell : ∀ j, j < news.length → (W.cell? ⟨b, m * inf.size + 0 + j, none⟩).isSome = true := by
    intro j hj
    rw [cell_own hown]
    have : m * inf.size + 0 + j < (vs ++ spare).length := by rw [List.length_append, hvs]; omega
    simp only [List.getElem?_toArray, List.getElem?_eq_getElem this, Option.isSome_some]
  have hst := run_storeCells_cells (P := P) b (m * inf.size) news 0 W hcell (fun j hj => by simp [World.frozen?, hown, vecB]) (fun v hv => oneCell'_of (List.all_eq_true.1 hone v hv))
  obtain ⟨W', hr, hs1, hs2, hs3, hs4⟩ := run_storeCells (P := P) (b := b) (e := e) news (m * inf.size) 0 W _ (fun u hu => List.all_eq_true.1 hone u hu) hown (by simp; rw [hvs]; omega)
  rw [hst] at hr
  obtain ⟨rfl⟩ : W' = W.setCells b (m * inf.size + 0) news := by simpa using hr.symm
  rw [Nat.add_zero, setCells_room vs spare news hvs hle] at hs2
  refine ⟨W.setCells b (m * inf.size) news, ?_, hR.turn hh _ (by simpa using hs1) hs2 (fun c hc => by simpa using hs3 c hc) (by simpa using hs4)⟩
  have := run_append_room_src (P := P) W t tx o.type e inf ht hinf b 0 m cap yv k news hS hroom (by simpa using hcell) (fun j hj => by simp [World.frozen?, hown, vecB])
  rw [this, Nat.zero_add]
  rfl

/-- What a yield needs, from where it lies. -/
theorem perm_yield (a g b h o : List (Nat × Obj)) : (a ++ (g ++ (b ++ (h ++ o)))).Perm (h ++ (g ++ (a ++ (b ++ o)))) := by
  have e1 : (a ++ (g ++ (b ++ (h ++ o)))).Perm (h ++ (a ++ (g ++ (b ++ o)))) := by
    have s1 : (b ++ (h ++ o)).Perm (h ++ (b ++ o)) := List.perm_append_comm_assoc _ _ _
    have s2 : (g ++ (b ++ (h ++ o))).Perm (h ++ (g ++ (b ++ o))) := (s1.append_left g).trans (List.perm_append_comm_assoc _ _ _)
    exact (s2.append_left a).trans (List.perm_append_comm_assoc _ _ _)
  exact e1.trans ((List.perm_append_comm_assoc a g (b ++ o)).append_left h)
end
end Go.Proofs.Walk
namespace Go.Proofs.Walk
open Go.Proofs
set_option linter.unusedVariables false
set_option linter.unusedSectionVars false

theorem ix_self {α : Type} (hs : List α) : (List.range hs.length).filterMap (fun i => hs[i]?) = hs := by
  induction hs with
  | nil => rfl
  | cons a l ih =>
    rw [List.length_cons, List.range_succ_eq_map, List.filterMap_cons]
    simp only [List.getElem?_cons_zero, List.filterMap_map, List.cons.injEq, true_and]
    exact ih

/-- The same entries in the order that the numbers tell. -/
theorem perm_ix {α : Type} (n : Nat) (is : List Nat) (hs : List α) {hs' : List α} (h1 : is.isPerm (List.range n) = true) (h2 : hs.length = n) (h3 : is.filterMap (fun i => hs[i]?) = hs') : hs.Perm hs' := by
  subst h2
  have h := (List.isPerm_iff.1 h1).filterMap (fun i => hs[i]?)
  rw [ix_self, h3] at h
  exact h.symm

section
variable {P : Program} {r : Option Nat} {n : Nat} {ds : List Deferred} {W0 : World} {M : List Nat} {ops : Array Oper} {Q : Exit → Act → World → Prop} {l : List (Nat × Value)} {hs : List (Nat × Obj)}

theorem opsT_yieldG2 {i : Nat} {rest : List Nat} {o : Oper} {d : Nat} {c : Call} {x : Operand} {y : Value} {args : Array Value} {β : Type} {H : β → List (Nat × Obj)} {I' Ix : β → Prop} {z : β} (G G' rest' : List (Nat × Obj)) (F : β → List (Nat × Obj))
    (ho : ops[i]? = some o) (hw : wantedL ops l o = some true) (hk : known l o.op = true) (hd : o.dst = some d) (hdn : Nat.blt d n = true)
    (hop : o.op = .call c) (hc : c.callee = .value x) (hx : ev l x = some y) (hargs : c.args.map (evD l) = args) (hF : ∀ z, (F z).Perm (H z ++ (G' ++ rest'))) (hhs : hs.Perm (H z ++ (G ++ rest')))
    (hy : ∀ own W, Rep W0 M (H z ++ (G ++ own)) W → CallV P y args W (YPost W0 M H I' Ix (G' ++ own)))
    (k1 : ∀ z', I' z' → OpsT P r n ds W0 M ops Q rest (setL l d (.bool true)) (F z'))
    (k2 : ∀ z', Ix z' → OpsT P r n ds W0 M ops Q rest (setL l d (.bool false)) (F z')) : OpsT P r n ds W0 M ops Q (i :: rest) l hs := by
  refine opsT_callv (β := Bool × β) (fun b => .bool b.1) (fun b => F b.2) (fun b => (b.1 = true → I' b.2) ∧ (b.1 = false → Ix b.2)) ho hw hk hd hdn hop hc hx hargs
    (fun W hR => (hy rest' W (hR.perm hhs)).mono fun e W' h => ?_) (fun b hC => ?_)
  · rcases h with ⟨rfl, z', hI, hR'⟩ | ⟨rfl, z', hI, hR'⟩
    · exact ⟨(true, z'), ⟨fun _ => hI, fun h => by cases h⟩, rfl, hR'.perm (hF z').symm⟩
    · exact ⟨(false, z'), ⟨(fun h => by cases h), fun _ => hI⟩, rfl, hR'.perm (hF z').symm⟩
  · obtain ⟨bb, z'⟩ := b
    cases bb with
    | true => exact k1 z' (hC.1 rfl)
    | false => exact k2 z' (hC.2 rfl)
end
end Go.Proofs.Walk
namespace Go.Proofs.Walk
open Go.Proofs
set_option linter.unusedVariables false
set_option linter.unusedSectionVars false
section
variable {P : Program} {r : Option Nat} {n : Nat} {ds : List Deferred} {W0 : World} {M : List Nat} {ops : Array Oper} {Q : Exit → Act → World → Prop} {l : List (Nat × Value)} {hs : List (Nat × Obj)}

/-- What an operation that turns the heap does. -/
def OpT {σ : Type} (P : Program) (n : Nat) (ops : Array Oper) (lk : List (Nat × Value)) (i : Nat) (I : World → Prop) (J : σ → Value → World → Prop) : Prop :=
  ∃ o d, ops[i]? = some o ∧ o.dst = some d ∧ d < n ∧ wantedL ops lk o = some true ∧ known lk o.op = true ∧
    ((∀ W, I W → ∃ s v W', (execOp (evD lk) o).run P W = .ok (.value v) W' ∧ J s v W') ∨
     (∃ f args, (∀ W : World, (execOp (evD lk) o).run P W = .ok (.enter f args) W) ∧ ∀ W, I W → Calls P f args W fun e W' => ∃ s v, e = .returned v ∧ J s v W'))

theorem OpT.step {σ : Type} {lk : List (Nat × Value)} {i : Nat} {I : World → Prop} {J : σ → Value → World → Prop} (h : OpT P n ops lk i I J) {a : Act} {W : World} (ha : Agree n ds lk a) (hR : I W) {K : Act → World → Prop}
    (hK : ∀ d s v W', dstOf ops i = some d → d < n → J s v W' → K (a.put (some d) v) W') : wpOpIn (FR r) 0 P ops Q i K a W := by
  obtain ⟨o, d, ho, hd, hdn, hw, hk, h⟩ := h
  have hdst : dstOf ops i = some d := by simp [dstOf, ho, hd]
  unfold wpOpIn
  rw [ho]
  simp only [wantedL_spec hw ha, if_true]
  refine ⟨fun _ _ => trivial, ?_⟩
  rcases h with h | ⟨f, args, hrun, hc⟩
  · obtain ⟨s, v, W', hrun, hJ⟩ := h W hR
    rw [known_sem hk ha, hrun, Oper.uponIn_value, hd]
    exact hK d s v W' hdst hdn hJ
  · rw [known_sem hk ha, hrun W, Oper.uponIn_enter]
    refine ⟨FR_depth, callsFR.2 ((hc W hR).mono fun e W' ⟨s, v, he, hJ⟩ => ?_)⟩
    subst he
    rw [hd]
    exact hK d s v W' hdst hdn hJ

theorem OpT.of_opA {σ : Type} {lk : List (Nat × Value)} {i : Nat} {I : World → Prop} {J : σ → Value → World → Prop} {J' : Nat → World → Prop} {va : Nat → Value} (h : OpA P n I J' ops lk i va) (k : ∀ b W, J' b W → ∃ s, J s (va b) W) : OpT P n ops lk i I J := by
  obtain ⟨o, d, ho, hd, hdn, hw, hk, h⟩ := h.here
  refine ⟨o, d, ho, hd, hdn, hw, hk, .inl fun W hI => ?_⟩
  obtain ⟨b, W', hr, hJ⟩ := h W hI
  obtain ⟨s, hs⟩ := k b W' hJ
  exact ⟨s, va b, W', hr, hs⟩

/-- Each of the head's operations but those of Ks comes to its value. -/
def QAllS (P : Program) (n : Nat) (Inv : World → Prop) (ops : Array Oper) (Ks : List Nat) : List (Nat × Value) → Nat → List Value → Prop
  | _, _, [] => True
  | l, i, v :: vs => (i ∈ Ks ∨ OpQ P n Inv ops (keepL (looksOf ops i) l) i v) ∧ QAllS P n Inv ops Ks (setL l ((dstOf ops i).getD 0) v) (i + 1) vs

variable {Inv : World → Prop} {Ks : List Nat}
theorem QAllS.get : ∀ {vs : List Value} {l : List (Nat × Value)} {i : Nat}, QAllS P n Inv ops Ks l i vs → ∀ j v, vs[j]? = some v → i + j ∈ Ks ∨ OpQ P n Inv ops (keepL (looksOf ops (i + j)) (lexL ops l i (vs.take j))) (i + j) v
  | [], _, _, _, j, v, h => by simp at h
  | u :: vs, l, i, h, 0, v, hj => by simp at hj; subst hj; exact h.1
  | u :: vs, l, i, h, j + 1, v, hj => by
    have := QAllS.get h.2 j v (by simpa using hj)
    rw [show i + 1 + j = i + (j + 1) by omega] at this
    simpa [lexL] using this
theorem qalls_append : ∀ {vs vs' : List Value} {l l' : List (Nat × Value)} {i : Nat}, QAll P n Inv ops l i vs → lexL ops l i vs = l' → QAllS P n Inv ops Ks l' (i + vs.length) vs' → QAllS P n Inv ops Ks l i (vs ++ vs')
  | [], vs', l, l', i, _, e, h => by cases e; exact h
  | v :: vs, vs', l, l', i, h1, e, h => by
    refine ⟨.inr h1.1, qalls_append h1.2 e ?_⟩
    rw [show i + 1 + vs.length = i + (v :: vs).length by simp; omega]
    exact h
theorem qalls_appendE {us vs vs' : List Value} {l l' : List (Nat × Value)} {i : Nat} (e : us = vs ++ vs') (h1 : QAll P n Inv ops l i vs) (h2 : lexL ops l i vs = l') (h3 : QAllS P n Inv ops Ks l' (i + vs.length) vs') : QAllS P n Inv ops Ks l i us := by
  subst e; exact qalls_append h1 h2 h3
theorem qalls_skip {v : Value} {vs : List Value} {i : Nat} (h : i ∈ Ks) (k : QAllS P n Inv ops Ks (setL l ((dstOf ops i).getD 0) v) (i + 1) vs) : QAllS P n Inv ops Ks l i (v :: vs) := ⟨.inl h, k⟩
theorem qalls_nil {i : Nat} : QAllS P n Inv ops Ks l i [] := trivial

theorem any_headC {σ : Type} {m : Nat} (hok : OrderOk ops m) (Ks : List Nat) (lev : σ → Nat) (Inv : σ → World → Prop) (vs : σ → List Value) (hlen : ∀ s, (vs s).length = m)
    (hKs : ∀ q K, Ks[q + 1]? = some K → ∃ K', Ks[q]? = some K' ∧ K' ∈ depsOf ops K) (hKm : ∀ K, K ∈ Ks → K < m) (hnd : ∀ (p q K : Nat), Ks[p]? = some K → Ks[q]? = some K → p = q)
    (hq : ∀ s, QAllS P n (Inv s) ops Ks l 0 (vs s))
    (hT : ∀ s K, Ks[lev s]? = some K → OpT P n ops (keepL (looksOf ops K) (lexL ops l 0 ((vs s).take K))) K (Inv s) (fun s' v W => lev s' = lev s + 1 ∧ (vs s')[K]? = some v ∧ (∀ j, (∀ q, lev s ≤ q → Ks[q]? ≠ some j) → (vs s')[j]? = (vs s)[j]?) ∧ Inv s' W))
    (hend : ∀ s a W, Ks.length ≤ lev s → Agree n ds (lexL ops l 0 (vs s)) a → Inv s W → wpOpsIn (FR r) 0 P ops Q (List.range' m (ops.size - m)) a W) :
    ∀ (fuel : Nat) (listed : Array Bool) (a : Act) (W : World) (s : σ), Picked ops m fuel listed → (∀ j, m ≤ j → listed.getD j false = false) →
      (∀ q K, Ks[q]? = some K → (listed.getD K false = true ↔ q < lev s)) → Filled n ds ops m l (vs s) listed a → Inv s W → wpAnyIn (FR r) 0 P .any ops Q fuel listed a W := by
  have full : ∀ (fuel : Nat) (listed : Array Bool) (a : Act) (W : World) (s : σ), Picked ops m fuel listed → (∀ j, m ≤ j → listed.getD j false = false) → (∀ j, j < m → listed.getD j false = true) →
      (∀ q K, Ks[q]? = some K → (listed.getD K false = true ↔ q < lev s)) → Filled n ds ops m l (vs s) listed a → Inv s W → wpAnyIn (FR r) 0 P .any ops Q fuel listed a W := by
    intro fuel listed a W s hp hge hlt hlv hf hR
    have hiff : ∀ j, listed.getD j false = true ↔ j < m := by
      intro j
      refine ⟨fun h => ?_, hlt j⟩
      rcases Nat.lt_or_ge j m with h' | h'
      · exact h'
      · rw [hge j h'] at h; cases h
    have hcnt : (List.range ops.size).countP (fun j => listed.getD j false) = m := by
      have key : ∀ K, (List.range K).countP (fun j => listed.getD j false) = min K m := by
        intro K
        induction K with
        | zero => simp
        | succ K ih =>
          rw [List.range_succ, List.countP_append, ih]
          by_cases hK : K < m
          · rw [Nat.min_eq_left (by omega), Nat.min_eq_left (by omega), List.countP_cons, hlt K hK]; simp
          · rw [Nat.min_eq_right (by omega), Nat.min_eq_right (by omega), List.countP_cons, hge K (by omega)]; simp
      rw [key, Nat.min_eq_right hok.le]
    have hfu : fuel = ops.size - m := by have := hp.count; omega
    have hall : Ks.length ≤ lev s := by
      rcases Nat.lt_or_ge (lev s) Ks.length with h | h
      · have h1 := List.getElem?_eq_getElem h
        have := (hlv _ _ h1).1 (hlt _ (hKm _ (List.getElem_mem h)))
        omega
      · exact h
    refine any_tail hok fuel m listed a W hp (Nat.le_refl _) (by have := hok.le; omega) hiff ?_
    rw [hfu]
    refine hend s a W hall ⟨hf.size, hf.defers, fun sl v hs => ?_⟩ hR
    have hs' : look (lexL ops l 0 ((vs s).take m)) sl = some v := by rw [← hlen s, List.take_length]; exact hs
    rcases look_lexL hok (hlen s) m (Nat.le_refl _) sl v hs' with ⟨k, hk, h1, h2⟩ | ⟨h1, h2⟩
    · exact hf.done k hk (hlt k hk) sl v h1 h2
    · exact hf.old sl v (fun k hk _ => h1 k hk) h2
  have allT : ∀ {fuel : Nat} {listed : Array Bool}, Picked ops m fuel listed → fuel = 0 → ∀ j, j < m → listed.getD j false = true := by
    intro fuel listed hp h0 j hj
    have hc := hp.count
    rw [h0, Nat.zero_add] at hc
    exact countP_all hc j (Nat.lt_of_lt_of_le hj hok.le)
  have agree : ∀ {b : σ} {i : Nat} {listed : Array Bool} {a : Act}, i < m → (∀ j ∈ depsOf ops i, listed.getD j false = true) → Filled n ds ops m l (vs b) listed a → Agree n ds (keepL (looksOf ops i) (lexL ops l 0 ((vs b).take i))) a := by
    intro b i listed a him h3 hf
    refine ⟨hf.size, hf.defers, fun s v hs => ?_⟩
    have hmem : s ∈ looksOf ops i := by
      clear hf
      generalize lexL ops l 0 ((vs b).take i) = L at hs
      induction L with
      | nil => cases hs
      | cons p L ihL =>
        obtain ⟨e, u⟩ := p
        unfold keepL at hs
        split at hs
        · rename_i he
          unfold look at hs
          split at hs
          · rename_i hb; rw [← Nat.eq_of_beq_eq_true hb]; simpa using he
          · exact ihL hs
        · exact ihL hs
    rcases look_lexL hok (hlen b) i (by omega) s v (look_keepL hs) with ⟨k, hk, hd, hvk⟩ | ⟨hno, hl0⟩
    · have hkm : k < m := by omega
      exact hf.done k hkm (h3 k (hok.reads i him s hmem k hkm hd).2) s v hd hvk
    · refine hf.old s v (fun k hkm hkl hd => ?_) hl0
      exact hno k (hok.reads i him s hmem k hkm hd).1 hd
  have fill : ∀ {b : σ} {i d : Nat} {v : Value} {listed : Array Bool} {a : Act}, i < m → i < listed.size → (vs b)[i]? = some v → dstOf ops i = some d → d < n → Filled n ds ops m l (vs b) listed a → Filled n ds ops m l (vs b) (listed.setIfInBounds i true) (a.put (some d) v) := by
    intro b i d v listed a him hil hv hd hdn hf
    refine ⟨by simp [Act.put, hf.size], by simp [Act.put, hf.defers], fun k hkm hkl e u hde hvk => ?_, fun s u hno hl0 => ?_⟩
    · simp only [Act.put, Array.getElem?_setIfInBounds]
      by_cases hik : i = k
      · subst hik
        rw [hd] at hde
        cases hde
        rw [hv] at hvk
        cases hvk
        have : d < a.tmps.size := by rw [hf.size]; exact hdn
        simp [this]
      · rw [getD_set hil, if_neg hik] at hkl
        have hne : d ≠ e := fun h => hok.apart i k him hkm hik (by rw [hd, hde, h])
        rw [if_neg hne]
        exact hf.done k hkm hkl e u hde hvk
    · simp only [Act.put, Array.getElem?_setIfInBounds]
      have hne : d ≠ s := fun h => hno i him (by rw [getD_set hil, if_pos rfl]) (by rw [hd, h])
      rw [if_neg hne]
      refine hf.old s u (fun k hkm hkl => hno k hkm ?_) hl0
      rw [getD_set hil]; split
      · rfl
      · exact hkl
  intro fuel
  induction fuel with
  | zero =>
    intro listed a W s hp hge hlv hf hR
    exact full 0 listed a W s hp hge (allT hp rfl) hlv hf hR
  | succ fuel ih =>
    intro listed a W s hp hge hlv hf hR
    by_cases hall : ∀ j, j < m → listed.getD j false = true
    · exact full _ listed a W s hp hge hall hlv hf hR
    · refine ⟨fun h0 => absurd (fun j hj => least_ready hok hp h0 j (by have := hok.le; omega)) hall, fun i hi => ?_⟩
      obtain ⟨h1, h2, h3⟩ := deps_ready hi
      have hil : i < listed.size := by rw [hp.size]; exact h2
      have hif : listed.getD i false = false := by rw [getD_bool hil false true]; exact h1
      have him : i < m := by
        rcases Nat.lt_or_ge i m with h | h
        · exact h
        · exact absurd (fun j hj => tail_after hok hp h hi j (by omega)) hall
      have hge' : ∀ j, m ≤ j → (listed.setIfInBounds i true).getD j false = false := fun j hj => by
        rw [getD_set hil, if_neg (by omega)]; exact hge j hj
      by_cases hiK : i ∈ Ks
      · obtain ⟨q, hq'⟩ := List.mem_iff_getElem?.1 hiK
        have hlow : ¬ q < lev s := fun h => by rw [(hlv q i hq').2 h] at hif; cases hif
        have hqs : q = lev s := by
          rcases Nat.lt_or_ge (lev s) q with h | h
          · obtain ⟨p, rfl⟩ : ∃ p, q = p + 1 := ⟨q - 1, by omega⟩
            obtain ⟨K', hK', hdep⟩ := hKs p i hq'
            have := (hlv p K' hK').1 (h3 K' hdep)
            omega
          · omega
        subst hqs
        refine (hT s i hq').step (agree him h3 hf) hR fun d s' v W' hd hdn ⟨hl', hv, hsame, hR'⟩ => ?_
        refine ih _ _ W' s' (hp.set hok hi) hge' (fun p K hK => ?_) (fill him hil hv hd hdn (hf.swap fun k hk hl => hsame k fun p hp' hpk => ?_)) hR'
        · rw [getD_set hil]
          by_cases hiK : i = K
          · subst hiK
            have := hnd _ _ _ hK hq'
            subst this
            simp [hl']
          · rw [if_neg hiK, hlv p K hK, hl']
            have : p ≠ lev s := fun h => by subst h; rw [hq'] at hK; cases hK; exact hiK rfl
            omega
        · have := (hlv p k hpk).1 hl; omega
      · have hvi : i < (vs s).length := by rw [hlen]; exact him
        have hv := List.getElem?_eq_getElem hvi
        have hop := ((hq s).get i _ hv).resolve_left (by rw [Nat.zero_add]; exact hiK)
        rw [Nat.zero_add] at hop
        refine hop.step (agree him h3 hf) hR fun d W' hd hdn hR' => ?_
        refine ih _ _ W' s (hp.set hok hi) hge' (fun p K hK => ?_) (fill him hil hv hd hdn hf) hR'
        rw [getD_set hil, if_neg (fun h => hiK (by rw [h]; exact List.mem_of_getElem? hK))]
        exact hlv p K hK

/-- A region that draws its order; the operations of Ks, in this order, turn the heap. -/
theorem tri_drawC {σ : Type} {id : Nat} (m : Nat) (Ks : List Nat) (lev : σ → Nat) (s₀ : σ) (hv : σ → List (Nat × Obj)) (vs : σ → List Value) {todo : List Nat} (hm : P.follows .mixedOrders = true) (hB : orderB ops m = true) (hlen : ∀ s, (vs s).length = m)
    (h0 : lev s₀ = 0) (hh : hv s₀ = hs) (hKs : ∀ q K, Ks[q + 1]? = some K → ∃ K', Ks[q]? = some K' ∧ K' ∈ depsOf ops K) (hKm : ∀ K, K ∈ Ks → K < m) (hnd : ∀ (p q K : Nat), Ks[p]? = some K → Ks[q]? = some K → p = q)
    (hq : ∀ s, QAllS P n (Rep W0 M (hv s)) ops Ks l 0 (vs s))
    (hT : ∀ s K, Ks[lev s]? = some K → OpT P n ops (keepL (looksOf ops K) (lexL ops l 0 ((vs s).take K))) K (Rep W0 M (hv s)) (fun s' v W => lev s' = lev s + 1 ∧ (vs s')[K]? = some v ∧ (∀ j, (∀ q, lev s ≤ q → Ks[q]? ≠ some j) → (vs s')[j]? = (vs s)[j]?) ∧ Rep W0 M (hv s') W))
    (ht : List.range' m (ops.size - m) = todo)
    (hend : ∀ s, Ks.length ≤ lev s → OpsT P r n ds W0 M ops Q todo (lexL ops l 0 (vs s)) (hv s)) : Tri P r n ds W0 M (.region id ops true) Q l hs := by
  subst hh
  intro a W ha hR
  have hok := orderOk hB
  refine wpIn_region_any hm (any_headC (ds := ds) hok Ks lev (fun s => Rep W0 M (hv s)) vs hlen hKs hKm hnd hq hT (fun s a W h h1 h2 => by rw [ht]; exact hend s h a W h1 h2) _ _ _ _ s₀ ⟨by simp, fun i hi h => ?_, ?_, fun t _ _ h => ?_⟩ (fun j _ => ?_) (fun q K hK => ?_) ⟨ha.size, ha.defers, fun k hk h => ?_, fun s v _ h => ha.slot s v h⟩ (hR.drawn _))
  · simp [Array.getElem?_replicate] at h; split at h <;> simp_all
  · have : (List.range ops.size).countP (fun j => (Array.replicate ops.size false).getD j false) = 0 := by
      rw [List.countP_eq_zero]; intro j hj; simp [Array.getElem?_replicate]; split <;> simp
    omega
  · simp [Array.getElem?_replicate] at h; split at h <;> simp_all
  · simp [Array.getElem?_replicate]; split <;> simp
  · have : (Array.replicate ops.size false).getD K false = false := by simp [Array.getElem?_replicate]; split <;> simp
    rw [this, h0]; simp
  · simp [Array.getElem?_replicate] at h; split at h <;> simp_all
end
end Go.Proofs.Walk
