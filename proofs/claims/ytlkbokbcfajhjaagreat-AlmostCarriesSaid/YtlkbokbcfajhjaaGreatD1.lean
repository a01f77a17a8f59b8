/- D1: words about gluings and almost normal coordinates, without Go and memory. -/

namespace Go.Proofs.YtlkbokbcfajhjaaGreat
set_option linter.unusedVariables false
/-- Four numbers below 4, each once. -/
abbrev OkPerm (a b c d : Int) : Prop := 0 ≤ a ∧ a < 4 ∧ 0 ≤ b ∧ b < 4 ∧ 0 ≤ c ∧ c < 4 ∧ 0 ≤ d ∧ d < 4 ∧ a ≠ b ∧ a ≠ c ∧ a ≠ d ∧ b ≠ c ∧ b ≠ d ∧ c ≠ d
/-- An entry of four. -/
def sel (a b c d : Int) (i : Int) : Int := if i = 0 then a else if i = 1 then b else if i = 2 then c else d
/-- Where i is among four. -/
def inv (a b c d : Int) (i : Int) : Int := if a = i then 0 else if b = i then 1 else if c = i then 2 else 3
/-- A face is glued rightly. -/
def FaceOK (n : Nat) (c : Nat → Nat → Int) (t f : Nat) : Prop :=
  (c t (f * 5) = -1 ∧ c t (f * 5 + 1) = 0 ∧ c t (f * 5 + 2) = 0 ∧ c t (f * 5 + 3) = 0 ∧ c t (f * 5 + 4) = 0) ∨
  (0 ≤ c t (f * 5) ∧ c t (f * 5) < n ∧ OkPerm (c t (f * 5 + 1)) (c t (f * 5 + 2)) (c t (f * 5 + 3)) (c t (f * 5 + 4)) ∧
    ¬ (c t (f * 5) = t ∧ sel (c t (f * 5 + 1)) (c t (f * 5 + 2)) (c t (f * 5 + 3)) (c t (f * 5 + 4)) f = f) ∧
    ∃ h : Nat, (h : Int) = sel (c t (f * 5 + 1)) (c t (f * 5 + 2)) (c t (f * 5 + 3)) (c t (f * 5 + 4)) f ∧ c (c t (f * 5)).toNat (h * 5) = t ∧
      c (c t (f * 5)).toNat (h * 5 + 1) = inv (c t (f * 5 + 1)) (c t (f * 5 + 2)) (c t (f * 5 + 3)) (c t (f * 5 + 4)) 0 ∧
      c (c t (f * 5)).toNat (h * 5 + 2) = inv (c t (f * 5 + 1)) (c t (f * 5 + 2)) (c t (f * 5 + 3)) (c t (f * 5 + 4)) 1 ∧
      c (c t (f * 5)).toNat (h * 5 + 3) = inv (c t (f * 5 + 1)) (c t (f * 5 + 2)) (c t (f * 5 + 3)) (c t (f * 5 + 4)) 2 ∧
      c (c t (f * 5)).toNat (h * 5 + 4) = inv (c t (f * 5 + 1)) (c t (f * 5 + 2)) (c t (f * 5 + 3)) (c t (f * 5 + 4)) 3)
def GlueOK (n : Nat) (c : Nat → Nat → Int) : Prop := n ≤ 1000 ∧ ∀ k, k < 4 * n → FaceOK n c (k / 4) (k % 4)
theorem getD_four (a b c d : Int) (f : Nat) (hf : f < 4) : [a, b, c, d].getD f 0 = sel a b c d f := by
  have : f = 0 ∨ f = 1 ∨ f = 2 ∨ f = 3 := by omega
  rcases this with rfl | rfl | rfl | rfl <;> rfl
theorem sel_lt {a b c d : Int} (h : OkPerm a b c d) (i : Int) : 0 ≤ sel a b c d i ∧ sel a b c d i < 4 := by
  obtain ⟨_, _, _, _, _, _, _, _, _⟩ := h
  unfold sel
  (repeat' split) <;> omega
/-- A face at which no equation is written. -/
def Skip (c : Nat → Nat → Int) (t f : Nat) : Prop := c t (f * 5) < 0 ∨ c t (f * 5) < t ∨ (c t (f * 5) = t ∧ c t (f * 5 + 1 + f) < f)
instance (c : Nat → Nat → Int) (t f : Nat) : Decidable (Skip c t f) := by unfold Skip; infer_instance
/-- The equations that are left, of a face, of a tetrahedron, of all. -/
def restI (t f i : Nat) : List (Nat × Nat × Nat) := ((List.range' i (4 - i)).filter (· ≠ f)).map fun i => (t, f, i)
def rowF (c : Nat → Nat → Int) (t f : Nat) : List (Nat × Nat × Nat) := if Skip c t f then [] else restI t f 0
def restF (c : Nat → Nat → Int) (t f : Nat) : List (Nat × Nat × Nat) := (List.range' f (4 - f)).flatMap (rowF c t)
def restT (n : Nat) (c : Nat → Nat → Int) (t : Nat) : List (Nat × Nat × Nat) := (List.range' t (n - t)).flatMap fun t => restF c t 0
/-- The equations: at face f of t, around its vertex i. -/
def eqns (n : Nat) (c : Nat → Nat → Int) : List (Nat × Nat × Nat) := restT n c 0
theorem range'_step {a m : Nat} (h : a < m) : List.range' a (m - a) = a :: List.range' (a + 1) (m - (a + 1)) := by
  rw [show m - a = (m - (a + 1)) + 1 by omega, List.range'_succ]
theorem restI_end (t f : Nat) : restI t f 4 = [] := rfl
theorem restI_skip {t f i : Nat} (h : i < 4) (e : i = f) : restI t f i = restI t f (i + 1) := by
  unfold restI; rw [range'_step h]; simp [e]
theorem restI_step {t f i : Nat} (h : i < 4) (e : ¬ i = f) : restI t f i = (t, f, i) :: restI t f (i + 1) := by
  unfold restI; rw [range'_step h]; simp [e]
theorem restF_end (c : Nat → Nat → Int) (t : Nat) : restF c t 4 = [] := rfl
theorem restF_step (c : Nat → Nat → Int) {t f : Nat} (h : f < 4) : restF c t f = rowF c t f ++ restF c t (f + 1) := by
  unfold restF; rw [range'_step h]; simp
theorem restT_end (n : Nat) (c : Nat → Nat → Int) : restT n c n = [] := by unfold restT; simp
theorem restT_step {n : Nat} (c : Nat → Nat → Int) {t : Nat} (h : t < n) : restT n c t = restF c t 0 ++ restT n c (t + 1) := by
  unfold restT; rw [range'_step h]; simp
/-- The type of two vertices. -/
def tyN (i f : Nat) : Nat := [0, 0, 1, 2, 0, 0, 2, 1, 1, 2, 0, 0, 2, 1, 0, 0].getD (i * 4 + f) 0
/-- The arcs of face f of t around its vertex i. -/
def arcP (v : Nat → Int) (t f i : Nat) : Int := v (10 * t + i) + v (10 * t + 4 + tyN i f) + v (10 * t + 7 + (tyN i f + 1) % 3) + v (10 * t + 7 + (tyN i f + 2) % 3)
/-- The edge between two vertices. -/
def edgeN (i j : Nat) : Nat := [0, 0, 1, 2, 0, 0, 3, 4, 1, 3, 0, 5, 2, 4, 5, 0].getD (i * 4 + j) 0
/-- How many of the first j discs are there. -/
def cntD (v : Nat → Int) (t : Nat) : Nat → Nat
  | 0 => 0
  | j + 1 => cntD v t j + if v (10 * t + 4 + j) = 0 then 0 else 1
theorem cntD_le (v : Nat → Int) (t : Nat) : ∀ j, cntD v t j ≤ j
  | 0 => Nat.le_refl _
  | j + 1 => by have := cntD_le v t j; unfold cntD; split <;> omega
/-- The ends of an edge. -/
def sdN (e k : Nat) : Nat := [0, 1, 0, 2, 0, 3, 1, 2, 1, 3, 2, 3].getD (e * 2 + k) 0
/-- The weight of an edge of t. -/
def wtP (v : Nat → Int) (t e : Nat) : Int :=
  let i := sdN e 0; let j := sdN e 1; let k := tyN i j
  v (10 * t + i) + v (10 * t + j) + v (10 * t + 7 + k) + v (10 * t + 7) + v (10 * t + 8) + v (10 * t + 9) + (if k = 0 then 0 else v (10 * t + 4)) + (if k = 1 then 0 else v (10 * t + 5)) + (if k = 2 then 0 else v (10 * t + 6))
/-- All entries are in range. -/
def InR (n : Nat) (v : Nat → Int) : Prop := ∀ i, i < n → 0 ≤ v i ∧ v i ≤ 1000000
theorem inR_step {v : Nat → Int} {i : Nat} (h : ∀ j, j < i → 0 ≤ v j ∧ v j ≤ 1000000) (h0 : 0 ≤ v i) (h1 : v i ≤ 1000000) : ∀ j, j < i + 1 → 0 ≤ v j ∧ v j ≤ 1000000 := fun j hj => by
  by_cases e : j = i
  · subst e; exact ⟨h0, h1⟩
  · exact h j (by omega)
/-- How many octagons the first t tetrahedra have. -/
def octS (v : Nat → Int) : Nat → Int
  | 0 => 0
  | t + 1 => octS v t + v (10 * t + 7 + 0) + v (10 * t + 7 + 1) + v (10 * t + 7 + 2)
/-- One disc at most, one octagon at most. -/
def okT (v : Nat → Int) (t : Nat) : Prop := cntD v t 6 ≤ 1 ∧ v (10 * t + 7 + 0) ≤ 1 ∧ v (10 * t + 7 + 1) ≤ 1 ∧ v (10 * t + 7 + 2) ≤ 1
/-- An equation that is met. -/
def EqOK (c : Nat → Nat → Int) (v : Nat → Int) (p : Nat × Nat × Nat) : Prop := arcP v p.1 p.2.1 p.2.2 = arcP v (c p.1 (p.2.1 * 5)).toNat (c p.1 (p.2.1 * 5 + 1 + p.2.1)).toNat (c p.1 (p.2.1 * 5 + 1 + p.2.2)).toNat
/-- Coordinates of pieces that fit. -/
def Holds (n : Nat) (c : Nat → Nat → Int) (nv : Nat) (v : Nat → Int) : Prop :=
  nv = 10 * n ∧ InR nv v ∧ (∀ t, t < n → okT v t) ∧ octS v n = 1 ∧ ∀ k, k < (eqns n c).length → EqOK c v ((eqns n c).getD k (0, 0, 0))
theorem mem_restI {t f i : Nat} {p : Nat × Nat × Nat} (h : p ∈ restI t f i) : p.1 = t ∧ p.2.1 = f ∧ i ≤ p.2.2 ∧ p.2.2 < 4 ∧ p.2.2 ≠ f := by
  simp only [restI, List.mem_map, List.mem_filter, List.mem_range'_1] at h
  obtain ⟨a, ⟨h1, h2⟩, rfl⟩ := h
  exact ⟨rfl, rfl, h1.1, by show a < 4; omega, by simpa using h2⟩
theorem mem_eqns {n : Nat} {c : Nat → Nat → Int} {p : Nat × Nat × Nat} (h : p ∈ eqns n c) : p.1 < n ∧ p.2.1 < 4 ∧ p.2.2 < 4 ∧ p.2.2 ≠ p.2.1 ∧ ¬ Skip c p.1 p.2.1 := by
  simp only [eqns, restT, List.mem_flatMap, List.mem_range'_1] at h
  obtain ⟨t, ht, h⟩ := h
  simp only [restF, List.mem_flatMap, List.mem_range'_1] at h
  obtain ⟨f, hf, h⟩ := h
  unfold rowF at h
  split at h
  · cases h
  · rename_i hs
    obtain ⟨h1, h2, h3, h4, h5⟩ := mem_restI h
    rw [h1, h2]
    exact ⟨by omega, by omega, h4, h5, hs⟩
theorem getD_mem' {α : Type} {L : List α} {k : Nat} {d : α} (h : k < L.length) : L.getD k d ∈ L := by
  simp [List.getD, h]
theorem sel_at (c : Nat → Nat → Int) (t f : Nat) {i : Nat} (hi : i < 4) : sel (c t (f * 5 + 1)) (c t (f * 5 + 2)) (c t (f * 5 + 3)) (c t (f * 5 + 4)) i = c t (f * 5 + 1 + i) := by
  have h1 : i = 0 ∨ i = 1 ∨ i = 2 ∨ i = 3 := by omega
  rcases h1 with rfl | rfl | rfl | rfl <;> rfl
theorem sel_ne {a b c d : Int} (h : OkPerm a b c d) {i j : Nat} (hi : i < 4) (hj : j < 4) (hij : i ≠ j) : sel a b c d i ≠ sel a b c d j := by
  obtain ⟨_, _, _, _, _, _, _, _, _, _, _, _, _, _⟩ := h
  have h1 : i = 0 ∨ i = 1 ∨ i = 2 ∨ i = 3 := by omega
  have h2 : j = 0 ∨ j = 1 ∨ j = 2 ∨ j = 3 := by omega
  rcases h1 with rfl | rfl | rfl | rfl <;> rcases h2 with rfl | rfl | rfl | rfl <;> simp [sel] <;> omega
/-- What is known of a face that is glued. -/
theorem glued {n : Nat} {c : Nat → Nat → Int} (hg : GlueOK n c) {t f i : Nat} (ht : t < n) (hf : f < 4) (hi : i < 4) (h : ¬ Skip c t f) :
    0 ≤ c t (f * 5) ∧ c t (f * 5) < n ∧ 0 ≤ c t (f * 5 + 1 + f) ∧ c t (f * 5 + 1 + f) < 4 ∧ 0 ≤ c t (f * 5 + 1 + i) ∧ c t (f * 5 + 1 + i) < 4 ∧ (i ≠ f → c t (f * 5 + 1 + i) ≠ c t (f * 5 + 1 + f)) := by
  have hF := hg.2 (4 * t + f) (by omega)
  rw [show (4 * t + f) / 4 = t by omega, show (4 * t + f) % 4 = f by omega] at hF
  rcases hF with hF | ⟨h1, h2, h3, _⟩
  · exact absurd (Or.inl (by omega)) h
  · have e1 := sel_lt h3 f
    have e2 := sel_lt h3 i
    have e3 : i ≠ f → _ := fun hne => sel_ne h3 hi hf hne
    rw [sel_at c t f hf] at e1 e3
    rw [sel_at c t f hi] at e2 e3
    exact ⟨h1, h2, e1.1, e1.2, e2.1, e2.2, e3⟩
theorem eqs_step {n : Nat} {c : Nat → Nat → Int} {v : Nat → Int} {k : Nat} {p : Nat × Nat × Nat} (hp : (eqns n c).getD k (0, 0, 0) = p) (h : ∀ j, j < k → EqOK c v ((eqns n c).getD j (0, 0, 0))) (he : EqOK c v p) : ∀ j, j < k + 1 → EqOK c v ((eqns n c).getD j (0, 0, 0)) := fun j hj => by
  by_cases e : j = k
  · subst e; rw [hp]; exact he
  · exact h j (by omega)
theorem okT_step {v : Nat → Int} {t : Nat} (h : ∀ s, s < t → okT v s) (he : okT v t) : ∀ s, s < t + 1 → okT v s := fun j hj => by
  by_cases e : j = t
  · subst e; exact he
  · exact h j (by omega)
/-- The error of refused. -/
def RefR (n : Nat) (c : Nat → Nat → Int) (r : Int) : Prop := (r = 7 ∧ ¬ GlueOK n c) ∨ (r = 2 ∧ GlueOK n c ∧ 60 < n) ∨ (r = 0 ∧ GlueOK n c ∧ n ≤ 60)
/-- The error of check. -/
def ChkR (n : Nat) (c : Nat → Nat → Int) (nv : Nat) (v : Nat → Int) (r : Int) : Prop := (r = 7 ∧ ¬ GlueOK n c) ∨ (r = 2 ∧ GlueOK n c ∧ 60 < n) ∨ (r = 200 ∧ GlueOK n c ∧ n ≤ 60 ∧ ¬ Holds n c nv v) ∨ (r = 0 ∧ GlueOK n c ∧ n ≤ 60 ∧ Holds n c nv v)
theorem edgeN_lt {i j : Nat} (hi : i < 4) (hj : j < 4) : edgeN i j < 6 := by
  have h1 : i = 0 ∨ i = 1 ∨ i = 2 ∨ i = 3 := by omega
  have h2 : j = 0 ∨ j = 1 ∨ j = 2 ∨ j = 3 := by omega
  rcases h1 with rfl | rfl | rfl | rfl <;> rcases h2 with rfl | rfl | rfl | rfl <;> decide
/-- Joining two classes. -/
def joinR (R : Nat → Nat) (p : Nat × Nat) : Nat → Nat := fun j => if R j = max (R p.1) (R p.2) then min (R p.1) (R p.2) else R j
/-- The pairs of edges that an equation joins: around i, towards the vertices below k. -/
def edgesTo (c : Nat → Nat → Int) (p : Nat × Nat × Nat) (k : Nat) : List (Nat × Nat) :=
  ((List.range k).filter fun k => k ≠ p.2.1 ∧ k ≠ p.2.2).map fun k => (6 * p.1 + edgeN p.2.2 k, 6 * (c p.1 (p.2.1 * 5)).toNat + edgeN (c p.1 (p.2.1 * 5 + 1 + p.2.2)).toNat (c p.1 (p.2.1 * 5 + 1 + k)).toNat)
theorem edgesTo_skip {c : Nat → Nat → Int} {p : Nat × Nat × Nat} {k : Nat} (h : ¬ (k ≠ p.2.1 ∧ k ≠ p.2.2)) : edgesTo c p (k + 1) = edgesTo c p k := by
  unfold edgesTo
  rw [List.range_succ, List.filter_append]
  have : [k].filter (fun k => decide (k ≠ p.2.1 ∧ k ≠ p.2.2)) = [] := by simp only [List.filter_cons, decide_eq_true_eq, if_neg h, List.filter_nil]
  rw [this, List.append_nil]
theorem edgesTo_step {c : Nat → Nat → Int} {p : Nat × Nat × Nat} {k : Nat} (h : k ≠ p.2.1 ∧ k ≠ p.2.2) : edgesTo c p (k + 1) = edgesTo c p k ++ [(6 * p.1 + edgeN p.2.2 k, 6 * (c p.1 (p.2.1 * 5)).toNat + edgeN (c p.1 (p.2.1 * 5 + 1 + p.2.2)).toNat (c p.1 (p.2.1 * 5 + 1 + k)).toNat)] := by
  unfold edgesTo
  rw [List.range_succ, List.filter_append]
  have : [k].filter (fun k => decide (k ≠ p.2.1 ∧ k ≠ p.2.2)) = [k] := by simp only [List.filter_cons, decide_eq_true_eq, if_pos h, List.filter_nil]
  rw [this, List.map_append]
  rfl
/-- The pairs of edges that the first k equations join. -/
def joinsTo (n : Nat) (c : Nat → Nat → Int) (k : Nat) : List (Nat × Nat) := ((eqns n c).take k).flatMap fun p => edgesTo c p 4
theorem joinsTo_step {n : Nat} {c : Nat → Nat → Int} {k : Nat} {p : Nat × Nat × Nat} (hk : k < (eqns n c).length) (hp : (eqns n c).getD k (0, 0, 0) = p) : joinsTo n c (k + 1) = joinsTo n c k ++ edgesTo c p 4 := by
  unfold joinsTo
  rw [List.take_add_one, List.flatMap_append]
  have : (eqns n c)[k]? = some p := by rw [← hp]; simp [List.getD, hk]
  rw [this]
  simp
/-- The classes of the edges. -/
def edgeR (n : Nat) (c : Nat → Nat → Int) : Nat → Nat := (joinsTo n c (eqns n c).length).foldl joinR fun j => j
/-- The weights of the first x classes. -/
def wtsTo (n : Nat) (c : Nat → Nat → Int) (v : Nat → Int) (x : Nat) : List Int := ((List.range x).filter fun x => edgeR n c x = x).map fun x => wtP v (x / 6) (x % 6)
theorem wtsTo_skip {n : Nat} {c : Nat → Nat → Int} {v : Nat → Int} {x : Nat} (h : ¬ edgeR n c x = x) : wtsTo n c v (x + 1) = wtsTo n c v x := by
  unfold wtsTo
  rw [List.range_succ, List.filter_append]
  have : [x].filter (fun x => decide (edgeR n c x = x)) = [] := by simp only [List.filter_cons, decide_eq_true_eq, if_neg h, List.filter_nil]
  rw [this, List.append_nil]
theorem wtsTo_step {n : Nat} {c : Nat → Nat → Int} {v : Nat → Int} {x : Nat} (h : edgeR n c x = x) : wtsTo n c v (x + 1) = wtsTo n c v x ++ [wtP v (x / 6) (x % 6)] := by
  unfold wtsTo
  rw [List.range_succ, List.filter_append]
  have : [x].filter (fun x => decide (edgeR n c x = x)) = [x] := by simp only [List.filter_cons, decide_eq_true_eq, if_pos h, List.filter_nil]
  rw [this, List.map_append]
  rfl
theorem wtsTo_len (n : Nat) (c : Nat → Nat → Int) (v : Nat → Int) (x : Nat) : (wtsTo n c v x).length ≤ x := by
  unfold wtsTo
  rw [List.length_map]
  exact Nat.le_trans (List.length_filter_le _ _) (by simp)
theorem tyN_lt (i f : Nat) : tyN i f < 3 := by
  unfold tyN
  generalize i * 4 + f = m
  rcases Nat.lt_or_ge m 16 with h | h
  · exact (by decide : ∀ m : Fin 16, ([0, 0, 1, 2, 0, 0, 2, 1, 1, 2, 0, 0, 2, 1, 0, 0] : List Nat).getD m.1 0 < 3) ⟨m, h⟩
  · rw [List.getD, List.getElem?_eq_none (by simpa using h)]; simp
end Go.Proofs.YtlkbokbcfajhjaaGreat
