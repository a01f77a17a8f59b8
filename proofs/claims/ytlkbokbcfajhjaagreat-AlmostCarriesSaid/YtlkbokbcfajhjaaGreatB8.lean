/- B8: slices of ints with room to spare. -/
import Derived.Test.YtlkbokbcfajhjaaGreatB7
namespace Go.Proofs.Walk
open Go.Proofs
set_option linter.unusedVariables false
set_option linter.unusedSectionVars false
section
variable {P : Program} {r : Option Nat} {n : Nat} {ds : List Deferred} {W0 : World} {M : List Nat} {ops : Array Oper} {Q : Exit → Act → World → Prop} {l : List (Nat × Value)} {hs : List (Nat × Obj)}

/-- A block of ints, and cells behind them. -/
def roomB (xs : List Int) (sp : List Value) (t : TypeId) : Obj := vecB (xs.map (Value.int .i64) ++ sp) t

theorem opsT_perm {todo : List Nat} {hs' : List (Nat × Obj)} (hp : hs.Perm hs') (k : OpsT P r n ds W0 M ops Q todo l hs') : OpsT P r n ds W0 M ops Q todo l hs := fun a W ha hR => k a W ha (hR.perm hp)

theorem post_leq {e : Exit} {l' : List (Nat × Value)} (h : l = l') (k : PostT n ds W0 M Q e l' hs) : PostT n ds W0 M Q e l hs := by subst h; exact k
theorem post_heq {e : Exit} {hs' : List (Nat × Obj)} (h : hs = hs') (k : PostT n ds W0 M Q e l hs') : PostT n ds W0 M Q e l hs := by subst h; exact k

theorem cells_room {W : World} {b off : Nat} {xs : List Int} {sp : List Value} {t : TypeId} (h : W.heap[b]? = some (roomB xs sp t)) (hle : off < xs.length) : Cells W b off [.int .i64 (xs.getD off 0)] := by
  intro i v hi
  rw [cell_own h]
  rcases i with _ | i
  · simp at hi
    subst hi
    simp [List.getElem?_append_left, hle]
  · simp at hi

theorem opsT_loadRoom {i : Nat} {rest : List Nat} {o : Oper} {d : Nat} {t : TypeId} {x : Operand} (k : Nat) (b off : Nat) (xs : List Int) (sp : List Value) (e : TypeId)
    (ho : ops[i]? = some o) (hw : wantedL ops l o = some true) (hk : known l o.op = true) (hd : o.dst = some d) (hdn : Nat.blt d n = true)
    (hop : o.op = .load t x) (hx : ev l x = some (.pointer (some ⟨b, off, none⟩))) (hh : hs[k]? = some (b, roomB xs sp e)) (hle : off < xs.length) (hl : ∀ z, loaded P t [.int .i64 z] = some (.int .i64 z))
    (kk : OpsT P r n ds W0 M ops Q rest (setL l d (.int .i64 (xs.getD off 0))) hs) : OpsT P r n ds W0 M ops Q (i :: rest) l hs :=
  opsT_value ho hw hk hd hdn (fun _ hR => run_load hop hx (hl _) (cells_room (hR.own _ _ (List.mem_of_getElem? hh)) hle)) kk
theorem opQ_loadRoom {lk : List (Nat × Value)} {i d : Nat} {o : Oper} {t : TypeId} {x : Operand} (k : Nat) (b off : Nat) (xs : List Int) (sp : List Value) (e : TypeId)
    (ho : ops[i]? = some o) (hw : wantedL ops lk o = some true) (hk : known lk o.op = true) (hd : o.dst = some d) (hdn : Nat.blt d n = true)
    (hop : o.op = .load t x) (hx : ev lk x = some (.pointer (some ⟨b, off, none⟩))) (hh : hs[k]? = some (b, roomB xs sp e)) (hle : off < xs.length) (hl : ∀ z, loaded P t [.int .i64 z] = some (.int .i64 z)) : OpQ P n (Rep W0 M hs) ops lk i (.int .i64 (xs.getD off 0)) :=
  ⟨o, d, ho, hd, Nat.le_of_ble_eq_true hdn, .inr (.inl ⟨hw, hk, fun _ hR => run_load hop hx (hl _) (cells_room (hR.own _ _ (List.mem_of_getElem? hh)) hle)⟩)⟩
theorem opsT_storeRoom {i : Nat} {rest : List Nat} {o : Oper} {t : TypeId} {x y : Operand} (k : Nat) (b off : Nat) (xs : List Int) (sp : List Value) (e : TypeId) (z : Int)
    (ho : ops[i]? = some o) (hw : wantedL ops l o = some true) (hk : known l o.op = true) (hd : o.dst = none)
    (hop : o.op = .store t x y) (hx : ev l x = some (.pointer (some ⟨b, off, none⟩))) (hy : ev l y = some (.int .i64 z)) (hh : hs[k]? = some (b, roomB xs sp e))
    (hsz : (P.info? t).map (·.size) = some 1) (hlt : off < xs.length)
    (kk : OpsT P r n ds W0 M ops Q rest l (hs.set k (b, roomB (xs.set off z) sp e))) : OpsT P r n ds W0 M ops Q (i :: rest) l hs := by
  refine opsT_store k b off _ ((xs.set off z).map (Value.int .i64) ++ sp).toArray e (.int .i64 z) ho hw hk hd hop hx hy hh hsz rfl (Nat.ble_eq_true_of_le (by simp [Value.cells]; omega)) ?_ kk
  simp only [Value.cells, setCells]
  apply Array.ext'
  have h : off < (xs.map (Value.int .i64)).length := by simpa using hlt
  simp [List.set_append_left _ _ h, List.map_set]

theorem opI_loadOwn {Inv : World → Prop} {lk : List (Nat × Value)} {i d : Nat} {o : Oper} {t : TypeId} {x : Operand} (b off m : Nat) (c : Array Value) (e : TypeId) (fz : Nat × Nat) {v : Value}
    (ho : ops[i]? = some o) (hw : wantedL ops lk o = some true) (hk : known lk o.op = true) (hd : o.dst = some d) (hdn : Nat.blt d n = true)
    (hop : o.op = .load t x) (hx : ev lk x = some (.pointer (some ⟨b, off, none⟩))) (hh : ∀ W, Inv W → W.heap[b]? = some (.cells c e fz)) (hl : loaded P t (c.extract off (off + m)).toList = some v) : OpQ P n Inv ops lk i v :=
  ⟨o, d, ho, hd, Nat.le_of_ble_eq_true hdn, .inr (.inl ⟨hw, hk, fun W hI => run_load hop hx hl (cells_own (hh W hI))⟩)⟩
theorem opI_call {Inv : World → Prop} {lk : List (Nat × Value)} {i d : Nat} {o : Oper} {f : FuncId} {args : Array Value} {v : Value}
    (ho : ops[i]? = some o) (hw : wantedL ops lk o = some true) (hk : known lk o.op = true) (hd : o.dst = some d) (hdn : Nat.blt d n = true)
    (hrun : ∀ W : World, (execOp (evD lk) o).run P W = .ok (.enter f args) W) (hc : ∀ W, Inv W → Calls P f args W fun e W' => e = .returned v ∧ Inv W') : OpQ P n Inv ops lk i v :=
  ⟨o, d, ho, hd, Nat.le_of_ble_eq_true hdn, .inr (.inr ⟨hw, hk, f, args, hrun, hc⟩)⟩

/-! ### classes -/

/-- The numbers up of a union: each not above its place. -/
def Down (up : List Int) : Prop := ∀ i, i < up.length → 0 ≤ up.getD i 0 ∧ up.getD i 0 ≤ i

/-- The root of a place. -/
def root (up : List Int) : Nat → Nat → Nat
  | 0, i => i
  | k + 1, i => if (up.getD i 0).toNat = i then i else root up k (up.getD i 0).toNat

theorem root_lt {up : List Int} (hd : Down up) : ∀ (k i : Nat), i < up.length → root up k i ≤ i
  | 0, i, _ => Nat.le_refl _
  | k + 1, i, hi => by
    have := hd i hi
    unfold root
    split
    · exact Nat.le_refl _
    · exact Nat.le_trans (root_lt hd k _ (by omega)) (by omega)

/-- Enough steps. -/
theorem root_more {up : List Int} (hd : Down up) : ∀ (k i : Nat), i < up.length → i ≤ k → root up (k + 1) i = root up k i
  | 0, i, hi, h => by
    have := hd i hi
    have : i = 0 := by omega
    subst this
    unfold root
    split
    · rfl
    · unfold root; omega
  | k + 1, i, hi, h => by
    have := hd i hi
    rw [root]
    conv => rhs; rw [root]
    split
    · rfl
    · exact root_more hd k _ (by omega) (by omega)
theorem root_any {up : List Int} (hd : Down up) {i k : Nat} (hi : i < up.length) (h : i ≤ k) : root up k i = root up i i := by
  obtain ⟨j, rfl⟩ := Nat.le.dest h
  clear h
  induction j with
  | zero => rfl
  | succ j ih => rw [← Nat.add_assoc, root_more hd _ i hi (by omega), ih]
/-- The root of a place, at last. -/
def rt (up : List Int) (i : Nat) : Nat := root up i i
theorem rt_step {up : List Int} (hd : Down up) {i : Nat} (hi : i < up.length) : rt up i = if (up.getD i 0).toNat = i then i else rt up (up.getD i 0).toNat := by
  have := hd i hi
  unfold rt
  rw [← root_more hd i i hi (Nat.le_refl _), root]
  split
  · rfl
  · exact root_any hd (by omega) (by omega)
theorem rt_le {up : List Int} (hd : Down up) {i : Nat} (hi : i < up.length) : rt up i ≤ i := root_lt hd _ _ hi
/-- Roots of the same. -/
theorem rt_eq {up : List Int} (hd : Down up) (R : Nat → Nat) (h1 : ∀ i, i < up.length → (up.getD i 0).toNat = i → R i = i) (h2 : ∀ i, i < up.length → (up.getD i 0).toNat ≠ i → R i = R (up.getD i 0).toNat) : ∀ i, i < up.length → rt up i = R i := by
  intro i
  induction i using Nat.strongRecOn with
  | _ i ih =>
    intro hi
    have := hd i hi
    rw [rt_step hd hi]
    split
    · rename_i h; exact (h1 i hi h).symm
    · rename_i h; rw [h2 i hi h]; exact ih _ (by omega) (by omega)
theorem rt_fix {up : List Int} (hd : Down up) {i : Nat} (hi : i < up.length) : (up.getD (rt up i) 0).toNat = rt up i := by
  induction i using Nat.strongRecOn with
  | _ i ih =>
    have := hd i hi
    rw [rt_step hd hi]
    split
    · rename_i h; rw [h]
    · exact ih _ (by omega) (by omega)
theorem rt_of_fix {up : List Int} (hd : Down up) {i : Nat} (hi : i < up.length) (h : (up.getD i 0).toNat = i) : rt up i = i := by rw [rt_step hd hi, if_pos h]
theorem rt_rt {up : List Int} (hd : Down up) {i : Nat} (hi : i < up.length) : rt up (rt up i) = rt up i := rt_of_fix hd (Nat.lt_of_le_of_lt (rt_le hd hi) hi) (rt_fix hd hi)

theorem getD_lset {xs : List Int} {i j : Nat} {z : Int} (hi : i < xs.length) : (xs.set i z).getD j 0 = if i = j then z else xs.getD j 0 := by
  by_cases h : i = j
  · subst h; simp [List.getD, hi]
  · simp [List.getD, List.getElem?_set, h]
/-- Halving a path changes no root. -/
theorem rt_halve {up : List Int} (hd : Down up) {i : Nat} (hi : i < up.length) :
    Down (up.set i (up.getD (up.getD i 0).toNat 0)) ∧ ∀ j, j < up.length → rt (up.set i (up.getD (up.getD i 0).toNat 0)) j = rt up j := by
  have h0 := hd i hi
  have h1 := hd (up.getD i 0).toNat (by omega)
  have hd' : Down (up.set i (up.getD (up.getD i 0).toNat 0)) := by
    intro j hj
    rw [List.length_set] at hj
    rw [getD_lset hi]
    split
    · rename_i e; subst e; omega
    · exact hd j hj
  refine ⟨hd', fun j hj => rt_eq hd' (rt up) (fun j hj h => ?_) (fun j hj h => ?_) j (by simpa using hj)⟩
  · rw [List.length_set] at hj
    rw [getD_lset hi] at h
    split at h
    · rename_i e; subst e
      have : (up.getD i 0).toNat = i := by omega
      exact rt_of_fix hd hi this
    · exact rt_of_fix hd hj h
  · rw [List.length_set] at hj
    rw [getD_lset hi] at h ⊢
    by_cases e : i = j
    · subst e
      rw [if_pos rfl] at h
      rw [if_pos rfl, rt_step hd hi]
      by_cases e : (up.getD i 0).toNat = i
      · rw [e] at h; exact absurd e h
      · rw [if_neg e, rt_step hd (i := (up.getD i 0).toNat) (by omega)]
        by_cases e : (up.getD (up.getD i 0).toNat 0).toNat = (up.getD i 0).toNat
        · rw [if_pos e, e]; exact (rt_of_fix hd (by omega) e).symm
        · rw [if_neg e]
    · rw [if_neg e] at h
      rw [if_neg e, rt_step hd hj, if_neg h]
/-- Joining two roots. -/
theorem rt_join {up : List Int} (hd : Down up) {i k : Nat} (hi : i < up.length) (hk : k ≤ i) (fi : (up.getD i 0).toNat = i) (fk : (up.getD k 0).toNat = k) :
    Down (up.set i k) ∧ ∀ j, j < up.length → rt (up.set i k) j = if rt up j = i then k else rt up j := by
  have hd' : Down (up.set i k) := by
    intro j hj
    rw [List.length_set] at hj
    rw [getD_lset hi]
    split
    · rename_i e; subst e; omega
    · exact hd j hj
  refine ⟨hd', fun j hj => rt_eq hd' (fun j => if rt up j = i then k else rt up j) (fun j hj h => ?_) (fun j hj h => ?_) j (by simpa using hj)⟩
  · rw [List.length_set] at hj
    rw [getD_lset hi] at h
    split at h
    · rename_i e; subst e
      have : k = i := by simpa using h
      subst this
      rw [rt_of_fix hd hi fi]; simp
    · rename_i e
      rw [rt_of_fix hd hj h, if_neg (fun e' => e e'.symm)]
  · rw [List.length_set] at hj
    rw [getD_lset hi] at h ⊢
    by_cases e : i = j
    · subst e
      rw [if_pos rfl] at h
      have hne : k ≠ i := by simpa using h
      rw [rt_of_fix hd hi fi, if_pos rfl, if_pos rfl, Int.toNat_natCast, rt_of_fix hd (by omega) fk, if_neg hne]
    · rw [if_neg e] at h
      rw [if_neg e, rt_step hd hj, if_neg h]
theorem rt_push {up : List Int} (hd : Down up) : Down (up ++ [(up.length : Int)]) ∧ ∀ j, j < up.length + 1 → rt (up ++ [(up.length : Int)]) j = if j = up.length then j else rt up j := by
  have g : ∀ j, j < up.length → (up ++ [(up.length : Int)]).getD j 0 = up.getD j 0 := fun j hj => by simp [List.getD, List.getElem?_append_left hj]
  have g' : (up ++ [(up.length : Int)]).getD up.length 0 = up.length := by simp [List.getD]
  have hd' : Down (up ++ [(up.length : Int)]) := by
    intro j hj
    by_cases h : j < up.length
    · rw [g j h]; exact hd j h
    · have : j = up.length := by simp at hj; omega
      subst this
      rw [g']; omega
  refine ⟨hd', fun j hj => rt_eq hd' (fun j => if j = up.length then j else rt up j) (fun j hj h => ?_) (fun j hj h => ?_) j (by simpa using hj)⟩
  · by_cases hl : j < up.length
    · rw [g j hl] at h
      have : ¬ j = up.length := by omega
      simp only [this, if_false]
      exact rt_of_fix hd hl h
    · have : j = up.length := by simp at hj; omega
      simp [this]
  · have hl : j < up.length := by
      rcases Nat.lt_or_ge j up.length with h' | h'
      · exact h'
      · have : j = up.length := by simp at hj; omega
        subst this
        rw [g'] at h
        simp at h
    have h0 := hd j hl
    rw [g j hl] at h ⊢
    have h1 : ¬ j = up.length := by omega
    have h2 : ¬ (up.getD j 0).toNat = up.length := by omega
    simp only [h1, h2, if_false]
    rw [rt_step hd hl, if_neg h]
end
end Go.Proofs.Walk
