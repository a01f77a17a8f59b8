/- M1: classes by joining; carried over by a renumbering. ¦ M2: the vertices of a tetrahedron renumbered. ¦ M3: coordinates of a tetrahedron renumbered. ¦ M4: gluings renumbered. ¦ M5: sums; coordinates that fit, renumbered; classes of edges. ¦ M6: weights and the Euler characteristic, renumbered. ¦ M7: pieces; the piece with an arc, renumbered. ¦ M8: parts, renumbered; the octagon. ¦ M9: what Renumber makes is a renumbering. -/
import Derived.Test.YtlkbokbcfajhjaaGreatD1
namespace Go.Proofs.YtlkbokbcfajhjaaGreat

/-- Connected by r. -/
inductive Conn (r : Nat → Nat → Prop) : Nat → Nat → Prop
  | refl (a : Nat) : Conn r a a
  | step {a b : Nat} (h : r a b) : Conn r a b
  | symm {a b : Nat} (h : Conn r a b) : Conn r b a
  | trans {a b c : Nat} (h : Conn r a b) (k : Conn r b c) : Conn r a c
theorem Conn.mono {r s : Nat → Nat → Prop} (h : ∀ a b, r a b → Conn s a b) {a b : Nat} (k : Conn r a b) : Conn s a b := by
  induction k with
  | refl a => exact .refl a
  | step k => exact h _ _ k
  | symm _ ih => exact .symm ih
  | trans _ _ ih1 ih2 => exact .trans ih1 ih2


/-- R tells the classes of r, by their first elements. -/
structure Cls (r : Nat → Nat → Prop) (R : Nat → Nat) : Prop where
  le : ∀ j, R j ≤ j
  idem : ∀ j, R (R j) = R j
  iff : ∀ a b, R a = R b ↔ Conn r a b

theorem Cls.conn {r : Nat → Nat → Prop} {R : Nat → Nat} (h : Cls r R) (a : Nat) : Conn r (R a) a := (h.iff _ _).1 (h.idem a)

theorem cls_id : Cls (fun _ _ => False) (fun j => j) := ⟨fun _ => Nat.le_refl _, fun _ => rfl, fun a b => ⟨fun h => by
    have h : a = b := h
    subst h; exact .refl _, fun h => by
    induction h with
    | refl a => rfl
    | step k => exact k.elim
    | symm _ ih => exact ih.symm
    | trans _ _ ih1 ih2 => exact ih1.trans ih2⟩⟩

theorem cls_join {r : Nat → Nat → Prop} {R : Nat → Nat} (h : Cls r R) (p : Nat × Nat) : Cls (fun a b => r a b ∨ (a = p.1 ∧ b = p.2)) (joinR R p) := by
  have hM : ∃ x, R x = max (R p.1) (R p.2) ∧ Conn (fun a b => r a b ∨ (a = p.1 ∧ b = p.2)) x p.1 := by
    rcases Nat.le_total (R p.1) (R p.2) with hl | hl
    · exact ⟨p.2, by omega, .symm (.step (.inr ⟨rfl, rfl⟩))⟩
    · exact ⟨p.1, by omega, .refl _⟩
  have hm : ∃ x, R x = min (R p.1) (R p.2) ∧ Conn (fun a b => r a b ∨ (a = p.1 ∧ b = p.2)) x p.1 := by
    rcases Nat.le_total (R p.1) (R p.2) with hl | hl
    · exact ⟨p.1, by omega, .refl _⟩
    · exact ⟨p.2, by omega, .symm (.step (.inr ⟨rfl, rfl⟩))⟩
  obtain ⟨xM, eM, cM⟩ := hM
  obtain ⟨xm, em, cm⟩ := hm
  have up : ∀ {a b}, Conn r a b → Conn (fun a b => r a b ∨ (a = p.1 ∧ b = p.2)) a b := fun k => k.mono fun _ _ h => .step (.inl h)
  have fm : R (min (R p.1) (R p.2)) = min (R p.1) (R p.2) := by rw [← em, h.idem]
  refine ⟨fun j => ?_, fun j => ?_, fun a b => ⟨fun e => ?_, fun k => ?_⟩⟩
  · have := h.le j
    unfold joinR
    split <;> omega
  · unfold joinR
    by_cases e : R j = max (R p.1) (R p.2)
    · rw [if_pos e, fm]
      split <;> rfl
    · rw [if_neg e, h.idem, if_neg e]
  · unfold joinR at e
    by_cases ea : R a = max (R p.1) (R p.2)
    · have ca : Conn (fun a b => r a b ∨ (a = p.1 ∧ b = p.2)) a p.1 := .trans (up ((h.iff a xM).1 (by rw [ea, eM]))) cM
      rw [if_pos ea] at e
      by_cases eb : R b = max (R p.1) (R p.2)
      · exact .trans ca (.symm (.trans (up ((h.iff b xM).1 (by rw [eb, eM]))) cM))
      · rw [if_neg eb] at e
        exact .trans ca (.symm (.trans (up ((h.iff b xm).1 (by rw [← e, em]))) cm))
    · rw [if_neg ea] at e
      by_cases eb : R b = max (R p.1) (R p.2)
      · rw [if_pos eb] at e
        exact .trans (.trans (up ((h.iff a xm).1 (by rw [e, em]))) cm) (.symm (.trans (up ((h.iff b xM).1 (by rw [eb, eM]))) cM))
      · rw [if_neg eb] at e
        exact up ((h.iff a b).1 e)
  · induction k with
    | refl a => rfl
    | step k =>
      rcases k with k | ⟨rfl, rfl⟩
      · have := (h.iff _ _).2 (.step k)
        unfold joinR
        rw [this]
      · unfold joinR
        (repeat' split) <;> omega
    | symm _ ih => exact ih.symm
    | trans _ _ ih1 ih2 => exact ih1.trans ih2

theorem cls_foldl : ∀ (l : List (Nat × Nat)) {r : Nat → Nat → Prop} {R : Nat → Nat}, Cls r R → Cls (fun a b => r a b ∨ (a, b) ∈ l) (l.foldl joinR R)
  | [], r, R, h => by
    have : (fun a b => r a b ∨ (a, b) ∈ ([] : List (Nat × Nat))) = r := by funext a b; simp
    rw [this]; exact h
  | p :: l, r, R, h => by
    have := cls_foldl l (cls_join h p)
    have e : (fun a b => r a b ∨ (a, b) ∈ p :: l) = (fun a b => (r a b ∨ (a = p.1 ∧ b = p.2)) ∨ (a, b) ∈ l) := by
      funext a b
      simp only [List.mem_cons, Prod.ext_iff, or_assoc]
    rw [e]; exact this

theorem cls_of (l : List (Nat × Nat)) : Cls (fun a b => (a, b) ∈ l) (l.foldl joinR fun j => j) := by
  have := cls_foldl l cls_id
  simpa using this

theorem Cls.congr {r s : Nat → Nat → Prop} {R : Nat → Nat} (h : Cls r R) (h1 : ∀ a b, r a b → Conn s a b) (h2 : ∀ a b, s a b → Conn r a b) : Cls s R :=
  ⟨h.le, h.idem, fun a b => (h.iff a b).trans ⟨fun k => k.mono h1, fun k => k.mono h2⟩⟩

/-- The classes that stay below a bound. -/
theorem Cls.lt {r : Nat → Nat → Prop} {R : Nat → Nat} (h : Cls r R) {N j : Nat} (hj : j < N) : R j < N := Nat.lt_of_le_of_lt (h.le j) hj

/-- A renumbering carries the relation s over to r. -/
structure Carry (N : Nat) (r s : Nat → Nat → Prop) (σ τ : Nat → Nat) : Prop where
  lt : ∀ a, a < N → σ a < N
  lt' : ∀ a, a < N → τ a < N
  left : ∀ a, a < N → τ (σ a) = a
  right : ∀ a, a < N → σ (τ a) = a
  fwd : ∀ a b, s a b → a < N ∧ b < N ∧ Conn r (σ a) (σ b)
  bwd : ∀ a b, r a b → a < N ∧ b < N ∧ Conn s (τ a) (τ b)

theorem Conn.fwd {N : Nat} {r s : Nat → Nat → Prop} {σ τ : Nat → Nat} (h : Carry N r s σ τ) {a b : Nat} (k : Conn s a b) : Conn r (σ a) (σ b) := by
  induction k with
  | refl a => exact .refl _
  | step k => exact (h.fwd _ _ k).2.2
  | symm _ ih => exact .symm ih
  | trans _ _ ih1 ih2 => exact .trans ih1 ih2
theorem Conn.bwd {N : Nat} {r s : Nat → Nat → Prop} {σ τ : Nat → Nat} (h : Carry N r s σ τ) {a b : Nat} (k : Conn r a b) : Conn s (τ a) (τ b) := by
  induction k with
  | refl a => exact .refl _
  | step k => exact (h.bwd _ _ k).2.2
  | symm _ ih => exact .symm ih
  | trans _ _ ih1 ih2 => exact .trans ih1 ih2

theorem carry_iff {N : Nat} {r s : Nat → Nat → Prop} {R S : Nat → Nat} {σ τ : Nat → Nat} (h : Carry N r s σ τ) (hr : Cls r R) (hs : Cls s S) {a b : Nat} (ha : a < N) (hb : b < N) : S a = S b ↔ R (σ a) = R (σ b) := by
  rw [hr.iff, hs.iff]
  refine ⟨Conn.fwd h, fun k => ?_⟩
  have := Conn.bwd h k
  rwa [h.left a ha, h.left b hb] at this

/-- The first elements of the classes, carried over. -/
theorem roots_perm {N : Nat} {r s : Nat → Nat → Prop} {R S : Nat → Nat} {σ τ : Nat → Nat} (h : Carry N r s σ τ) (hr : Cls r R) (hs : Cls s S) :
    (((List.range N).filter fun x => S x = x).map fun x => R (σ x)).Perm ((List.range N).filter fun x => R x = x) := by
  refine (List.perm_ext_iff_of_nodup ?_ (List.Nodup.sublist List.filter_sublist List.nodup_range)).2 fun a => ?_
  · rw [List.nodup_iff_pairwise_ne, List.pairwise_map]
    have hn : ((List.range N).filter fun x => S x = x).Nodup := List.Nodup.sublist List.filter_sublist List.nodup_range
    refine List.Pairwise.imp_of_mem ?_ hn
    intro a b ha hb hne e
    simp only [List.mem_filter, List.mem_range, decide_eq_true_eq] at ha hb
    have := (carry_iff h hr hs ha.1 hb.1).2 e
    exact hne (by rw [← ha.2, ← hb.2, this])
  · simp only [List.mem_map, List.mem_filter, List.mem_range, decide_eq_true_eq]
    constructor
    · rintro ⟨x, ⟨hx, hSx⟩, rfl⟩
      exact ⟨hr.lt (h.lt x hx), hr.idem _⟩
    · rintro ⟨ha, hRa⟩
      have hb := h.lt' a ha
      refine ⟨S (τ a), ⟨hs.lt hb, hs.idem _⟩, ?_⟩
      have e := (carry_iff h hr hs (hs.lt hb) hb).1 (hs.idem _)
      rw [e, h.right a ha, hRa]

/-- As many classes. -/
theorem roots_length {N : Nat} {r s : Nat → Nat → Prop} {R S : Nat → Nat} {σ τ : Nat → Nat} (h : Carry N r s σ τ) (hr : Cls r R) (hs : Cls s S) :
    ((List.range N).filter fun x => S x = x).length = ((List.range N).filter fun x => R x = x).length := by
  rw [← (roots_perm h hr hs).length_eq, List.length_map]

/-- What is the same within each class, at the classes' first elements. -/
theorem vals_perm {α : Type} {N : Nat} {r s : Nat → Nat → Prop} {R S : Nat → Nat} {σ τ : Nat → Nat} (h : Carry N r s σ τ) (hr : Cls r R) (hs : Cls s S) (F G : Nat → α) (hF : ∀ a b, a < N → b < N → R a = R b → F a = F b) (hG : ∀ a, a < N → G a = F (σ a)) :
    (((List.range N).filter fun x => S x = x).map G).Perm (((List.range N).filter fun x => R x = x).map F) := by
  have := (roots_perm h hr hs).map F
  rw [List.map_map] at this
  refine List.Perm.trans (List.Perm.of_eq (List.map_congr_left fun x hx => ?_)) this
  simp only [List.mem_filter, List.mem_range, decide_eq_true_eq] at hx
  rw [hG x hx.1]
  exact (hF _ _ (hr.lt (h.lt x hx.1)) (h.lt x hx.1) (hr.idem _)).symm
end Go.Proofs.YtlkbokbcfajhjaaGreat
namespace Go.Proofs.YtlkbokbcfajhjaaGreat
set_option linter.unusedVariables false

/-! ### four vertices -/

/-- Four numbers below 4, each once. -/
def Ok4 (p : Nat → Nat) : Prop := (∀ k, k < 4 → p k < 4) ∧ ∀ j k, j < 4 → k < 4 → p j = p k → j = k
/-- The type of disc q that a renumbering of the vertices leads to. -/
def tyP (p : Nat → Nat) (q : Nat) : Nat := tyN (p 0) (p (q + 1))
def p4 (a b c d : Nat) (k : Nat) : Nat := [a, b, c, d].getD k 0
theorem p4_eq (p : Nat → Nat) {k : Nat} (hk : k < 4) : p4 (p 0) (p 1) (p 2) (p 3) k = p k := by
  have : k = 0 ∨ k = 1 ∨ k = 2 ∨ k = 3 := by omega
  rcases this with rfl | rfl | rfl | rfl <;> rfl
def perms24 : List (Nat × Nat × Nat × Nat) := [(0,1,2,3),(0,1,3,2),(0,2,1,3),(0,2,3,1),(0,3,1,2),(0,3,2,1),(1,0,2,3),(1,0,3,2),(1,2,0,3),(1,2,3,0),(1,3,0,2),(1,3,2,0),(2,0,1,3),(2,0,3,1),(2,1,0,3),(2,1,3,0),(2,3,0,1),(2,3,1,0),(3,0,1,2),(3,0,2,1),(3,1,0,2),(3,1,2,0),(3,2,0,1),(3,2,1,0)]
theorem ok4_mem {p : Nat → Nat} (h : Ok4 p) : (p 0, p 1, p 2, p 3) ∈ perms24 := by
  have h0 := h.1 0 (by omega); have h1 := h.1 1 (by omega); have h2 := h.1 2 (by omega); have h3 := h.1 3 (by omega)
  have e1 : p 0 ≠ p 1 := fun e => by have := h.2 0 1 (by omega) (by omega) e; omega
  have e2 : p 0 ≠ p 2 := fun e => by have := h.2 0 2 (by omega) (by omega) e; omega
  have e3 : p 0 ≠ p 3 := fun e => by have := h.2 0 3 (by omega) (by omega) e; omega
  have e4 : p 1 ≠ p 2 := fun e => by have := h.2 1 2 (by omega) (by omega) e; omega
  have e5 : p 1 ≠ p 3 := fun e => by have := h.2 1 3 (by omega) (by omega) e; omega
  have e6 : p 2 ≠ p 3 := fun e => by have := h.2 2 3 (by omega) (by omega) e; omega
  have key : ∀ a b c d : Fin 4, a ≠ b → a ≠ c → a ≠ d → b ≠ c → b ≠ d → c ≠ d → (a.1, b.1, c.1, d.1) ∈ perms24 := by decide
  exact key ⟨p 0, h0⟩ ⟨p 1, h1⟩ ⟨p 2, h2⟩ ⟨p 3, h3⟩ (fun e => e1 (congrArg (·.1) e)) (fun e => e2 (congrArg (·.1) e)) (fun e => e3 (congrArg (·.1) e)) (fun e => e4 (congrArg (·.1) e)) (fun e => e5 (congrArg (·.1) e)) (fun e => e6 (congrArg (·.1) e))
/-- A fact about all renumberings of the vertices, by looking at each. -/
theorem by24 {C : Nat → Nat → Nat → Nat → Prop} (h : ∀ q ∈ perms24, C q.1 q.2.1 q.2.2.1 q.2.2.2) {p : Nat → Nat} (hp : Ok4 p) : C (p 0) (p 1) (p 2) (p 3) := h _ (ok4_mem hp)

/-- The types of the discs are carried over. -/
theorem types24 : ∀ q ∈ perms24, ∀ a ∈ List.range 4, ∀ f ∈ List.range 4, a ≠ f →
    tyN (p4 q.1 q.2.1 q.2.2.1 q.2.2.2 a) (p4 q.1 q.2.1 q.2.2.1 q.2.2.2 f) = tyP (p4 q.1 q.2.1 q.2.2.1 q.2.2.2) (tyN a f) ∧
    ((tyP (p4 q.1 q.2.1 q.2.2.1 q.2.2.2) ((tyN a f + 1) % 3) = (tyP (p4 q.1 q.2.1 q.2.2.1 q.2.2.2) (tyN a f) + 1) % 3 ∧ tyP (p4 q.1 q.2.1 q.2.2.1 q.2.2.2) ((tyN a f + 2) % 3) = (tyP (p4 q.1 q.2.1 q.2.2.1 q.2.2.2) (tyN a f) + 2) % 3) ∨
     (tyP (p4 q.1 q.2.1 q.2.2.1 q.2.2.2) ((tyN a f + 1) % 3) = (tyP (p4 q.1 q.2.1 q.2.2.1 q.2.2.2) (tyN a f) + 2) % 3 ∧ tyP (p4 q.1 q.2.1 q.2.2.1 q.2.2.2) ((tyN a f + 2) % 3) = (tyP (p4 q.1 q.2.1 q.2.2.1 q.2.2.2) (tyN a f) + 1) % 3)) := by decide
theorem tyP_p4 (p : Nat → Nat) {q : Nat} (hq : q < 3) : tyP (p4 (p 0) (p 1) (p 2) (p 3)) q = tyP p q := by
  unfold tyP; rw [p4_eq p (by omega), p4_eq p (by omega)]
theorem types_carry {p : Nat → Nat} (hp : Ok4 p) {a f : Nat} (ha : a < 4) (hf : f < 4) (h : a ≠ f) :
    tyN (p a) (p f) = tyP p (tyN a f) ∧
    ((tyP p ((tyN a f + 1) % 3) = (tyP p (tyN a f) + 1) % 3 ∧ tyP p ((tyN a f + 2) % 3) = (tyP p (tyN a f) + 2) % 3) ∨
     (tyP p ((tyN a f + 1) % 3) = (tyP p (tyN a f) + 2) % 3 ∧ tyP p ((tyN a f + 2) % 3) = (tyP p (tyN a f) + 1) % 3)) := by
  have := types24 _ (ok4_mem hp) a (List.mem_range.2 ha) f (List.mem_range.2 hf) h
  have h3 := tyN_lt a f
  dsimp only at this
  rw [p4_eq p ha, p4_eq p hf, tyP_p4 p h3, tyP_p4 p (Nat.mod_lt _ (by omega)), tyP_p4 p (Nat.mod_lt _ (by omega))] at this
  exact this
/-- The three types, each once. -/
theorem tyP_three {p : Nat → Nat} (hp : Ok4 p) : (tyP p 0, tyP p 1, tyP p 2) ∈ [(0, 1, 2), (0, 2, 1), (1, 0, 2), (1, 2, 0), (2, 0, 1), (2, 1, 0)] := by
  have key : ∀ q ∈ perms24, (tyP (p4 q.1 q.2.1 q.2.2.1 q.2.2.2) 0, tyP (p4 q.1 q.2.1 q.2.2.1 q.2.2.2) 1, tyP (p4 q.1 q.2.1 q.2.2.1 q.2.2.2) 2) ∈ [(0, 1, 2), (0, 2, 1), (1, 0, 2), (1, 2, 0), (2, 0, 1), (2, 1, 0)] := by decide
  have := key _ (ok4_mem hp)
  dsimp only at this
  rwa [tyP_p4 p (by omega), tyP_p4 p (by omega), tyP_p4 p (by omega)] at this
theorem tyP_lt (p : Nat → Nat) (q : Nat) : tyP p q < 3 := tyN_lt _ _

/-- Where an entry of a tetrahedron is carried from. -/
def entP (p : Nat → Nat) (b : Nat) : Nat := if b < 4 then p b else if b < 7 then 4 + tyP p (b - 4) else 7 + tyP p (b - 7)
theorem entP_lt {p : Nat → Nat} (hp : Ok4 p) {b : Nat} (hb : b < 10) : entP p b < 10 := by
  unfold entP
  have := tyP_lt p (b - 4); have := tyP_lt p (b - 7)
  split
  · have := hp.1 b (by omega); omega
  · split <;> omega
theorem entP_inj {p : Nat → Nat} (hp : Ok4 p) {a b : Nat} (ha : a < 10) (hb : b < 10) (h : entP p a = entP p b) : a = b := by
  have h3 := tyP_three hp
  have k4 : ∀ j, j < 4 → p j < 4 := hp.1
  have inj : ∀ i j, i < 3 → j < 3 → tyP p i = tyP p j → i = j := by
    intro i j hi hj e
    have hi : i = 0 ∨ i = 1 ∨ i = 2 := by omega
    have hj : j = 0 ∨ j = 1 ∨ j = 2 := by omega
    simp only [List.mem_cons, Prod.mk.injEq, List.not_mem_nil, or_false] at h3
    rcases hi with rfl | rfl | rfl <;> rcases hj with rfl | rfl | rfl <;> first | rfl | (exfalso; omega)
  unfold entP at h
  have q1 := tyP_lt p (a - 4); have q2 := tyP_lt p (a - 7); have q3 := tyP_lt p (b - 4); have q4 := tyP_lt p (b - 7)
  split at h
  · have := k4 a (by omega)
    split at h
    · exact hp.2 a b (by omega) (by omega) h
    · split at h <;> omega
  · split at h
    · split at h
      · have := k4 b (by omega); omega
      · split at h
        · have := inj (a - 4) (b - 4) (by omega) (by omega) (by omega); omega
        · omega
    · split at h
      · have := k4 b (by omega); omega
      · split at h
        · omega
        · have := inj (a - 7) (b - 7) (by omega) (by omega) (by omega); omega
end Go.Proofs.YtlkbokbcfajhjaaGreat
namespace Go.Proofs.YtlkbokbcfajhjaaGreat
set_option linter.unusedVariables false
set_option linter.unusedSimpArgs false

/-! ### one tetrahedron: w at i is v at t, its vertices renumbered by p -/
def CarT (w v : Nat → Int) (i t : Nat) (p : Nat → Nat) : Prop := ∀ b, b < 10 → w (10 * i + b) = v (10 * t + entP p b)
theorem CarT.tri {w v : Nat → Int} {i t : Nat} {p : Nat → Nat} (h : CarT w v i t p) {a : Nat} (ha : a < 4) : w (10 * i + a) = v (10 * t + p a) := by
  rw [h a (by omega)]; unfold entP; rw [if_pos ha]
theorem CarT.quad {w v : Nat → Int} {i t : Nat} {p : Nat → Nat} (h : CarT w v i t p) {q : Nat} (hq : q < 3) : w (10 * i + 4 + q) = v (10 * t + 4 + tyP p q) := by
  rw [Nat.add_assoc, h (4 + q) (by omega)]; unfold entP; rw [if_neg (by omega), if_pos (by omega), show 4 + q - 4 = q by omega, Nat.add_assoc]
theorem CarT.oct {w v : Nat → Int} {i t : Nat} {p : Nat → Nat} (h : CarT w v i t p) {q : Nat} (hq : q < 3) : w (10 * i + 7 + q) = v (10 * t + 7 + tyP p q) := by
  rw [Nat.add_assoc, h (7 + q) (by omega)]; unfold entP; rw [if_neg (by omega), if_neg (by omega), show 7 + q - 7 = q by omega, Nat.add_assoc]

theorem arcs_carry {w v : Nat → Int} {i t : Nat} {p : Nat → Nat} (h : CarT w v i t p) (hp : Ok4 p) {f a : Nat} (hf : f < 4) (ha : a < 4) (hne : a ≠ f) : arcP w i f a = arcP v t (p f) (p a) := by
  obtain ⟨h1, h2⟩ := types_carry hp ha hf hne
  unfold arcP
  rw [h.tri ha, h.quad (tyN_lt a f), h.oct (Nat.mod_lt _ (by omega)), h.oct (Nat.mod_lt _ (by omega)), h1]
  rcases h2 with ⟨e1, e2⟩ | ⟨e1, e2⟩ <;> rw [e1, e2] <;> omega

/-- The sum of three entries, renumbered. -/
theorem three_carry {p : Nat → Nat} (hp : Ok4 p) (F : Nat → Int) : F (tyP p 0) + F (tyP p 1) + F (tyP p 2) = F 0 + F 1 + F 2 := by
  have h3 := tyP_three hp
  simp only [List.mem_cons, Prod.mk.injEq, List.not_mem_nil, or_false] at h3
  rcases h3 with ⟨e0, e1, e2⟩ | ⟨e0, e1, e2⟩ | ⟨e0, e1, e2⟩ | ⟨e0, e1, e2⟩ | ⟨e0, e1, e2⟩ | ⟨e0, e1, e2⟩ <;> rw [e0, e1, e2] <;> omega

/-- The weight of the edge between i and k, of a face's arcs: f is a face on which it lies. -/
theorem wt_arcs (v : Nat → Int) (t : Nat) {f i k : Nat} (hf : f < 4) (hi : i < 4) (hk : k < 4) (h1 : i ≠ f) (h2 : k ≠ f) (h3 : i ≠ k) : wtP v t (edgeN i k) = arcP v t f i + arcP v t f k := by
  have hf : f = 0 ∨ f = 1 ∨ f = 2 ∨ f = 3 := by omega
  have hi : i = 0 ∨ i = 1 ∨ i = 2 ∨ i = 3 := by omega
  have hk : k = 0 ∨ k = 1 ∨ k = 2 ∨ k = 3 := by omega
  rcases hf with rfl | rfl | rfl | rfl <;> rcases hi with rfl | rfl | rfl | rfl <;> rcases hk with rfl | rfl | rfl | rfl <;> first | (exfalso; omega) | (simp [wtP, arcP, edgeN, sdN, tyN, Nat.add_assoc]; omega)

/-- The edge between the images of an edge's ends. -/
def edP (p : Nat → Nat) (e : Nat) : Nat := edgeN (p (sdN e 0)) (p (sdN e 1))
theorem sd_facts : ∀ e ∈ List.range 6, sdN e 0 < 4 ∧ sdN e 1 < 4 ∧ sdN e 0 ≠ sdN e 1 ∧ edgeN (sdN e 0) (sdN e 1) = e := by decide
theorem edge_facts : ∀ i ∈ List.range 4, ∀ j ∈ List.range 4, i ≠ j → edgeN i j = edgeN j i ∧ ((sdN (edgeN i j) 0 = i ∧ sdN (edgeN i j) 1 = j) ∨ (sdN (edgeN i j) 0 = j ∧ sdN (edgeN i j) 1 = i)) := by decide
theorem edgeN_symm {i j : Nat} (hi : i < 4) (hj : j < 4) (h : i ≠ j) : edgeN i j = edgeN j i := (edge_facts i (List.mem_range.2 hi) j (List.mem_range.2 hj) h).1
theorem edP_edge {p : Nat → Nat} (hp : Ok4 p) {i j : Nat} (hi : i < 4) (hj : j < 4) (h : i ≠ j) : edP p (edgeN i j) = edgeN (p i) (p j) := by
  unfold edP
  rcases (edge_facts i (List.mem_range.2 hi) j (List.mem_range.2 hj) h).2 with ⟨e1, e2⟩ | ⟨e1, e2⟩ <;> rw [e1, e2]
  exact edgeN_symm (hp.1 j hj) (hp.1 i hi) fun e => h (hp.2 j i hj hi e).symm
theorem edP_lt {p : Nat → Nat} (hp : Ok4 p) {e : Nat} (he : e < 6) : edP p e < 6 := by
  obtain ⟨h1, h2, h3, _⟩ := sd_facts e (List.mem_range.2 he)
  exact edgeN_lt (hp.1 _ h1) (hp.1 _ h2)
/-- A third and a fourth vertex. -/
theorem other_vertex : ∀ i ∈ List.range 4, ∀ j ∈ List.range 4, ∃ f ∈ List.range 4, f ≠ i ∧ f ≠ j := by decide

theorem wt_carry {w v : Nat → Int} {i t : Nat} {p : Nat → Nat} (h : CarT w v i t p) (hp : Ok4 p) {e : Nat} (he : e < 6) : wtP w i e = wtP v t (edP p e) := by
  obtain ⟨h1, h2, h3, h4⟩ := sd_facts e (List.mem_range.2 he)
  obtain ⟨f, hf, f1, f2⟩ := other_vertex _ (List.mem_range.2 h1) _ (List.mem_range.2 h2)
  have hf := List.mem_range.1 hf
  have n1 : p (sdN e 0) ≠ p f := fun x => f1 (hp.2 _ _ h1 hf x).symm
  have n2 : p (sdN e 1) ≠ p f := fun x => f2 (hp.2 _ _ h2 hf x).symm
  have n3 : p (sdN e 0) ≠ p (sdN e 1) := fun x => h3 (hp.2 _ _ h1 h2 x)
  rw [← h4, edP_edge hp h1 h2 h3, wt_arcs w i hf h1 h2 (Ne.symm f1) (Ne.symm f2) h3, wt_arcs v t (hp.1 f hf) (hp.1 _ h1) (hp.1 _ h2) n1 n2 n3, arcs_carry h hp hf h1 (Ne.symm f1), arcs_carry h hp hf h2 (Ne.symm f2)]

theorem cntD_six (v : Nat → Int) (t : Nat) : cntD v t 6 = (if v (10 * t + 4) = 0 then 0 else 1) + (if v (10 * t + 5) = 0 then 0 else 1) + (if v (10 * t + 6) = 0 then 0 else 1) + (if v (10 * t + 7) = 0 then 0 else 1) + (if v (10 * t + 8) = 0 then 0 else 1) + (if v (10 * t + 9) = 0 then 0 else 1) := by
  simp [cntD]
theorem cntD_carry {w v : Nat → Int} {i t : Nat} {p : Nat → Nat} (h : CarT w v i t p) (hp : Ok4 p) : cntD w i 6 = cntD v t 6 := by
  have a := three_carry hp fun q => if v (10 * t + 4 + q) = 0 then 0 else 1
  have b := three_carry hp fun q => if v (10 * t + 7 + q) = 0 then 0 else 1
  have q0 := h.quad (q := 0) (by omega); have q1 := h.quad (q := 1) (by omega); have q2 := h.quad (q := 2) (by omega)
  have o0 := h.oct (q := 0) (by omega); have o1 := h.oct (q := 1) (by omega); have o2 := h.oct (q := 2) (by omega)
  try dsimp only at a b
  rw [← q0, ← q1, ← q2] at a
  rw [← o0, ← o1, ← o2] at b
  rw [cntD_six, cntD_six]
  simp only [Nat.add_zero, Nat.add_assoc, Nat.reduceAdd] at a b ⊢
  have c : ∀ z : Int, (if z = 0 then (0 : Int) else 1) = (((if z = 0 then 0 else 1 : Nat)) : Int) := fun z => by split <;> rfl
  simp only [c] at a b
  omega
theorem okT_carry {w v : Nat → Int} {i t : Nat} {p : Nat → Nat} (h : CarT w v i t p) (hp : Ok4 p) (k : okT v t) : okT w i := by
  obtain ⟨k1, k2, k3, k4⟩ := k
  refine ⟨by rw [cntD_carry h hp]; exact k1, ?_, ?_, ?_⟩
  all_goals
    rw [h.oct (by omega)]
    have hl := tyP_lt p
    first
    | (generalize hz : tyP p 0 = z; have := hl 0; have hz : z = 0 ∨ z = 1 ∨ z = 2 := by omega
       rcases hz with rfl | rfl | rfl <;> assumption)
    | (generalize hz : tyP p 1 = z; have := hl 1; have hz : z = 0 ∨ z = 1 ∨ z = 2 := by omega
       rcases hz with rfl | rfl | rfl <;> assumption)
    | (generalize hz : tyP p 2 = z; have := hl 2; have hz : z = 0 ∨ z = 1 ∨ z = 2 := by omega
       rcases hz with rfl | rfl | rfl <;> assumption)
theorem oct3_carry {w v : Nat → Int} {i t : Nat} {p : Nat → Nat} (h : CarT w v i t p) (hp : Ok4 p) : w (10 * i + 7 + 0) + w (10 * i + 7 + 1) + w (10 * i + 7 + 2) = v (10 * t + 7 + 0) + v (10 * t + 7 + 1) + v (10 * t + 7 + 2) := by
  rw [h.oct (q := 0) (by omega), h.oct (q := 1) (by omega), h.oct (q := 2) (by omega)]
  exact three_carry hp fun q => v (10 * t + 7 + q)
end Go.Proofs.YtlkbokbcfajhjaaGreat
namespace Go.Proofs.YtlkbokbcfajhjaaGreat
set_option linter.unusedVariables false
set_option linter.unusedSimpArgs false

/-! ### a gluing, as numbers -/
def gl (c : Nat → Nat → Int) (t f : Nat) : Prop := 0 ≤ c t (f * 5)
def tt (c : Nat → Nat → Int) (t f : Nat) : Nat := (c t (f * 5)).toNat
def pp (c : Nat → Nat → Int) (t f k : Nat) : Nat := (c t (f * 5 + 1 + k)).toNat
theorem inv_sel {a b c d : Int} (h : OkPerm a b c d) {i : Nat} (hi : i < 4) : inv a b c d (sel a b c d i) = i := by
  obtain ⟨_, _, _, _, _, _, _, _, _, _, _, _, _, _⟩ := h
  have h1 : i = 0 ∨ i = 1 ∨ i = 2 ∨ i = 3 := by omega
  rcases h1 with rfl | rfl | rfl | rfl <;> simp [sel, inv] <;> omega
theorem okperm_sel {c : Nat → Nat → Int} {t f : Nat} : OkPerm (c t (f * 5 + 1)) (c t (f * 5 + 2)) (c t (f * 5 + 3)) (c t (f * 5 + 4)) ↔
    (∀ k, k < 4 → 0 ≤ c t (f * 5 + 1 + k) ∧ c t (f * 5 + 1 + k) < 4) ∧ ∀ j k, j < 4 → k < 4 → c t (f * 5 + 1 + j) = c t (f * 5 + 1 + k) → j = k := by
  constructor
  · intro h
    refine ⟨fun k hk => ?_, fun j k hj hk e => ?_⟩
    · have := sel_lt h k; rw [sel_at c t f hk] at this; exact this
    · rcases Nat.decEq j k with hne | he
      · exact absurd (by rw [sel_at c t f hj, sel_at c t f hk]; exact e) (sel_ne h hj hk hne)
      · exact he
  · rintro ⟨h1, h2⟩
    have a0 := h1 0 (by omega); have a1 := h1 1 (by omega); have a2 := h1 2 (by omega); have a3 := h1 3 (by omega)
    refine ⟨a0.1, a0.2, a1.1, a1.2, a2.1, a2.2, a3.1, a3.2, ?_, ?_, ?_, ?_, ?_, ?_⟩ <;> intro e
    · exact absurd (h2 0 1 (by omega) (by omega) e) (by omega)
    · exact absurd (h2 0 2 (by omega) (by omega) e) (by omega)
    · exact absurd (h2 0 3 (by omega) (by omega) e) (by omega)
    · exact absurd (h2 1 2 (by omega) (by omega) e) (by omega)
    · exact absurd (h2 1 3 (by omega) (by omega) e) (by omega)
    · exact absurd (h2 2 3 (by omega) (by omega) e) (by omega)

/-- A gluing that fits, as numbers. -/
structure Fits (n : Nat) (c : Nat → Nat → Int) : Prop where
  lt : ∀ t f, t < n → f < 4 → gl c t f → tt c t f < n
  ok : ∀ t f, t < n → f < 4 → gl c t f → Ok4 (pp c t f)
  back : ∀ t f, t < n → f < 4 → gl c t f → gl c (tt c t f) (pp c t f f) ∧ tt c (tt c t f) (pp c t f f) = t ∧ ∀ k, k < 4 → pp c (tt c t f) (pp c t f f) (pp c t f k) = k
  ne : ∀ t f, t < n → f < 4 → gl c t f → ¬ (tt c t f = t ∧ pp c t f f = f)

theorem face_of {n : Nat} {c : Nat → Nat → Int} (hg : GlueOK n c) {t f : Nat} (ht : t < n) (hf : f < 4) : FaceOK n c t f := by
  have hF := hg.2 (4 * t + f) (by omega)
  rwa [show (4 * t + f) / 4 = t by omega, show (4 * t + f) % 4 = f by omega] at hF

theorem GlueOK.fits {n : Nat} {c : Nat → Nat → Int} (hg : GlueOK n c) : Fits n c := by
  have main : ∀ t f, t < n → f < 4 → gl c t f → 0 ≤ c t (f * 5) ∧ c t (f * 5) < n ∧ OkPerm (c t (f * 5 + 1)) (c t (f * 5 + 2)) (c t (f * 5 + 3)) (c t (f * 5 + 4)) ∧
      ¬ (c t (f * 5) = t ∧ c t (f * 5 + 1 + f) = f) ∧ c (tt c t f) (pp c t f f * 5) = t ∧ ∀ k, k < 4 → c (tt c t f) (pp c t f f * 5 + 1 + k) = inv (c t (f * 5 + 1)) (c t (f * 5 + 2)) (c t (f * 5 + 3)) (c t (f * 5 + 4)) k := by
    intro t f ht hf hl
    rcases face_of hg ht hf with ⟨h1, _⟩ | ⟨h1, h2, h3, h4, h, e, e0, e1, e2, e3, e4⟩
    · unfold gl at hl; omega
    · rw [sel_at c t f hf] at h4 e
      have hh : pp c t f f = h := by unfold pp; omega
      refine ⟨h1, h2, h3, h4, by rw [hh]; exact e0, fun k hk => ?_⟩
      rw [hh]
      have hk : k = 0 ∨ k = 1 ∨ k = 2 ∨ k = 3 := by omega
      rcases hk with rfl | rfl | rfl | rfl
      · exact e1
      · exact e2
      · exact e3
      · exact e4
  refine ⟨fun t f ht hf hl => ?_, fun t f ht hf hl => ?_, fun t f ht hf hl => ?_, fun t f ht hf hl => ?_⟩
  · obtain ⟨h1, h2, _⟩ := main t f ht hf hl; unfold tt; omega
  · obtain ⟨h1, h2, h3, _⟩ := main t f ht hf hl
    obtain ⟨k1, k2⟩ := okperm_sel.1 h3
    refine ⟨fun k hk => ?_, fun j k hj hk e => k2 j k hj hk ?_⟩
    · have := k1 k hk; unfold pp; omega
    · have := k1 j hj; have := k1 k hk; unfold pp at e; omega
  · obtain ⟨h1, h2, h3, h4, h5, h6⟩ := main t f ht hf hl
    refine ⟨by unfold gl; omega, by rw [show tt c (tt c t f) (pp c t f f) = (c (tt c t f) (pp c t f f * 5)).toNat from rfl, h5]; omega, fun k hk => ?_⟩
    obtain ⟨k1, k2⟩ := okperm_sel.1 h3
    have hk4 : pp c t f k < 4 := by have := k1 k hk; unfold pp; omega
    show (c (tt c t f) (pp c t f f * 5 + 1 + pp c t f k)).toNat = k
    rw [h6 _ hk4]
    have e : ((pp c t f k : Nat) : Int) = sel (c t (f * 5 + 1)) (c t (f * 5 + 2)) (c t (f * 5 + 3)) (c t (f * 5 + 4)) k := by
      rw [sel_at c t f hk]; have := k1 k hk; unfold pp; omega
    rw [e, inv_sel h3 hk]; omega
  · obtain ⟨h1, h2, h3, h4, _⟩ := main t f ht hf hl
    obtain ⟨k1, k2⟩ := okperm_sel.1 h3
    have := k1 f hf
    rintro ⟨e1, e2⟩
    unfold tt at e1; unfold pp at e2
    exact h4 ⟨by omega, by omega⟩

/-- Both sides of an equation alike, at all faces that are glued. -/
def AllEq (n : Nat) (c : Nat → Nat → Int) (v : Nat → Int) : Prop := ∀ t f i, t < n → f < 4 → i < 4 → i ≠ f → gl c t f → arcP v t f i = arcP v (tt c t f) (pp c t f f) (pp c t f i)

theorem gl_of_not_skip {c : Nat → Nat → Int} {t f : Nat} (h : ¬ Skip c t f) : gl c t f := by
  unfold Skip at h; unfold gl; omega
theorem skip_iff {n : Nat} {c : Nat → Nat → Int} (hF : GlueOK n c) {t f : Nat} (ht : t < n) (hf : f < 4) : Skip c t f ↔ ¬ gl c t f ∨ tt c t f < t ∨ (tt c t f = t ∧ pp c t f f < f) := by
  unfold Skip gl tt pp
  by_cases h : 0 ≤ c t (f * 5)
  · rcases face_of hF ht hf with h1 | ⟨h1, h2, h3, _⟩
    · omega
    · have := (okperm_sel.1 h3).1 f hf
      omega
  · omega
/-- Of two glued faces one is passed over. -/
theorem skip_back {n : Nat} {c : Nat → Nat → Int} (hF : GlueOK n c) {t f : Nat} (ht : t < n) (hf : f < 4) (hg : gl c t f) : Skip c (tt c t f) (pp c t f f) ↔ ¬ Skip c t f := by
  have F := hF.fits
  obtain ⟨b1, b2, b3⟩ := F.back t f ht hf hg
  have h4 := (F.ok t f ht hf hg).1 f hf
  rw [skip_iff hF (F.lt t f ht hf hg) h4, skip_iff hF ht hf, b2, b3 f hf]
  have := F.ne t f ht hf hg
  constructor
  · intro h
    rcases h with h | h | h
    · exact absurd b1 h
    · rintro (k | k | k)
      · exact k hg
      · omega
      · omega
    · rintro (k | k | k)
      · exact k hg
      · omega
      · omega
  · intro h
    have k1 : ¬ tt c t f < t := fun k => h (.inr (.inl k))
    have k2 : ¬ (tt c t f = t ∧ pp c t f f < f) := fun k => h (.inr (.inr k))
    omega

theorem mem_eqns_iff {n : Nat} {c : Nat → Nat → Int} {p : Nat × Nat × Nat} : p ∈ eqns n c ↔ p.1 < n ∧ p.2.1 < 4 ∧ p.2.2 < 4 ∧ p.2.2 ≠ p.2.1 ∧ ¬ Skip c p.1 p.2.1 := by
  refine ⟨mem_eqns, fun ⟨h1, h2, h3, h4, h5⟩ => ?_⟩
  obtain ⟨t, f, i⟩ := p
  simp only [eqns, restT, List.mem_flatMap, List.mem_range'_1]
  refine ⟨t, ⟨by omega, by dsimp at h1; omega⟩, ?_⟩
  simp only [restF, List.mem_flatMap, List.mem_range'_1]
  refine ⟨f, ⟨by omega, by dsimp at h2; omega⟩, ?_⟩
  unfold rowF
  rw [if_neg h5]
  simp only [restI, List.mem_map, List.mem_filter, List.mem_range'_1]
  exact ⟨i, ⟨⟨by omega, by dsimp at h3; omega⟩, by simpa using h4⟩, rfl⟩

theorem eqOK_iff {c : Nat → Nat → Int} {v : Nat → Int} {t f i : Nat} : EqOK c v (t, f, i) ↔ arcP v t f i = arcP v (tt c t f) (pp c t f f) (pp c t f i) := Iff.rfl

theorem allEq_iff {n : Nat} {c : Nat → Nat → Int} {v : Nat → Int} (hF : GlueOK n c) : (∀ k, k < (eqns n c).length → EqOK c v ((eqns n c).getD k (0, 0, 0))) ↔ AllEq n c v := by
  have F := hF.fits
  constructor
  · intro h t f i ht hf hi hne hg
    have h' : ∀ p ∈ eqns n c, EqOK c v p := fun p hp => by
      obtain ⟨k, hk, e⟩ := List.getElem_of_mem hp
      have := h k hk
      rwa [List.getD, List.getElem?_eq_getElem hk, Option.getD_some, e] at this
    by_cases hs : Skip c t f
    · obtain ⟨b1, b2, b3⟩ := F.back t f ht hf hg
      have O := F.ok t f ht hf hg
      have hne' : pp c t f i ≠ pp c t f f := fun e => hne (O.2 i f hi hf e)
      have := h' (tt c t f, pp c t f f, pp c t f i) (mem_eqns_iff.2 ⟨F.lt t f ht hf hg, O.1 f hf, O.1 i hi, hne', fun k => ((skip_back hF ht hf hg).1 k) hs⟩)
      rw [eqOK_iff, b2, b3 f hf, b3 i hi] at this
      exact this.symm
    · exact h' (t, f, i) (mem_eqns_iff.2 ⟨ht, hf, hi, hne, hs⟩)
  · intro h k hk
    have hm := getD_mem' (d := ((0, 0, 0) : Nat × Nat × Nat)) hk
    generalize (eqns n c).getD k (0, 0, 0) = p at hm ⊢
    obtain ⟨t, f, i⟩ := p
    obtain ⟨m1, m2, m3, m4, m5⟩ := mem_eqns hm
    exact h t f i m1 m2 m3 m4 (gl_of_not_skip m5)

/-! ### renumbering -/
/-- c' is c renumbered: tetrahedron i is o i, its vertex k is p i k. -/
structure Renum (n : Nat) (c c' : Nat → Nat → Int) (o : Nat → Nat) (p : Nat → Nat → Nat) : Prop where
  lt : ∀ i, i < n → o i < n
  inj : ∀ i j, i < n → j < n → o i = o j → i = j
  ok : ∀ i, i < n → Ok4 (p i)
  gl : ∀ i f, i < n → f < 4 → (gl c' i f ↔ gl c (o i) (p i f))
  none : ∀ i f, i < n → f < 4 → ¬ _root_.Go.Proofs.YtlkbokbcfajhjaaGreat.gl c' i f → c' i (f * 5) = -1 ∧ c' i (f * 5 + 1) = 0 ∧ c' i (f * 5 + 2) = 0 ∧ c' i (f * 5 + 3) = 0 ∧ c' i (f * 5 + 4) = 0
  tt : ∀ i f, i < n → f < 4 → _root_.Go.Proofs.YtlkbokbcfajhjaaGreat.gl c' i f → tt c' i f < n ∧ o (tt c' i f) = tt c (o i) (p i f)
  pp : ∀ i f, i < n → f < 4 → _root_.Go.Proofs.YtlkbokbcfajhjaaGreat.gl c' i f → ∀ k, k < 4 → 0 ≤ c' i (f * 5 + 1 + k) ∧ pp c' i f k < 4 ∧ p (_root_.Go.Proofs.YtlkbokbcfajhjaaGreat.tt c' i f) (pp c' i f k) = pp c (o i) (p i f) (p i k)

theorem Renum.back {n : Nat} {c c' : Nat → Nat → Int} {o : Nat → Nat} {p : Nat → Nat → Nat} (h : Renum n c c' o p) (F : Fits n c) {i f : Nat} (hi : i < n) (hf : f < 4) (hg : _root_.Go.Proofs.YtlkbokbcfajhjaaGreat.gl c' i f) :
    _root_.Go.Proofs.YtlkbokbcfajhjaaGreat.gl c' (_root_.Go.Proofs.YtlkbokbcfajhjaaGreat.tt c' i f) (_root_.Go.Proofs.YtlkbokbcfajhjaaGreat.pp c' i f f) ∧ _root_.Go.Proofs.YtlkbokbcfajhjaaGreat.tt c' (_root_.Go.Proofs.YtlkbokbcfajhjaaGreat.tt c' i f) (_root_.Go.Proofs.YtlkbokbcfajhjaaGreat.pp c' i f f) = i ∧
      ∀ k, k < 4 → _root_.Go.Proofs.YtlkbokbcfajhjaaGreat.pp c' (_root_.Go.Proofs.YtlkbokbcfajhjaaGreat.tt c' i f) (_root_.Go.Proofs.YtlkbokbcfajhjaaGreat.pp c' i f f) (_root_.Go.Proofs.YtlkbokbcfajhjaaGreat.pp c' i f k) = k := by
  obtain ⟨t1, t2⟩ := h.tt i f hi hf hg
  have hgc := (h.gl i f hi hf).1 hg
  have hpf := (h.ok i hi).1 f hf
  obtain ⟨b1, b2, b3⟩ := F.back (o i) (p i f) (h.lt i hi) hpf hgc
  obtain ⟨q0, q1, q2⟩ := h.pp i f hi hf hg f hf
  have g' : _root_.Go.Proofs.YtlkbokbcfajhjaaGreat.gl c' (_root_.Go.Proofs.YtlkbokbcfajhjaaGreat.tt c' i f) (_root_.Go.Proofs.YtlkbokbcfajhjaaGreat.pp c' i f f) := by
    rw [h.gl _ _ t1 q1, t2, q2]; exact b1
  obtain ⟨t3, t4⟩ := h.tt _ _ t1 q1 g'
  rw [t2, q2, b2] at t4
  have e := h.inj _ _ t3 hi t4
  refine ⟨g', e, fun k hk => ?_⟩
  obtain ⟨_, r1, r2⟩ := h.pp i f hi hf hg k hk
  obtain ⟨_, s1, s2⟩ := h.pp _ _ t1 q1 g' (_root_.Go.Proofs.YtlkbokbcfajhjaaGreat.pp c' i f k) r1
  rw [e, t2, q2, r2, b3 _ ((h.ok i hi).1 k hk)] at s2
  exact (h.ok i hi).2 _ _ s1 hk s2

theorem Renum.glueOK {n : Nat} {c c' : Nat → Nat → Int} {o : Nat → Nat} {p : Nat → Nat → Nat} (h : Renum n c c' o p) (hg : GlueOK n c) : GlueOK n c' := by
  have F := hg.fits
  refine ⟨hg.1, fun k hk => ?_⟩
  have hi : k / 4 < n := by omega
  have hf : k % 4 < 4 := by omega
  generalize k / 4 = i at hi
  generalize k % 4 = f at hf
  by_cases hl : _root_.Go.Proofs.YtlkbokbcfajhjaaGreat.gl c' i f
  · obtain ⟨t1, t2⟩ := h.tt i f hi hf hl
    obtain ⟨b1, b2, b3⟩ := h.back F hi hf hl
    have P := h.pp i f hi hf hl
    have hl' : 0 ≤ c' i (f * 5) := hl
    have tN : c' i (f * 5) = ((_root_.Go.Proofs.YtlkbokbcfajhjaaGreat.tt c' i f : Nat) : Int) := by unfold Go.Proofs.YtlkbokbcfajhjaaGreat.tt; omega
    have pN : ∀ k, k < 4 → c' i (f * 5 + 1 + k) = ((_root_.Go.Proofs.YtlkbokbcfajhjaaGreat.pp c' i f k : Nat) : Int) := fun k hk => by have := (P k hk).1; unfold Go.Proofs.YtlkbokbcfajhjaaGreat.pp; omega
    have hok : OkPerm (c' i (f * 5 + 1)) (c' i (f * 5 + 2)) (c' i (f * 5 + 3)) (c' i (f * 5 + 4)) := by
      refine okperm_sel.2 ⟨fun k hk => ?_, fun j k hj hk e => ?_⟩
      · have := P k hk; rw [pN k hk]; omega
      · rw [pN j hj, pN k hk] at e
        have e : _root_.Go.Proofs.YtlkbokbcfajhjaaGreat.pp c' i f j = _root_.Go.Proofs.YtlkbokbcfajhjaaGreat.pp c' i f k := by omega
        have := b3 j hj
        rw [e, b3 k hk] at this
        exact this.symm
    have q1 := (P f hf).2.1
    have P2 := h.pp _ _ t1 q1 b1
    have pN2 : ∀ k, k < 4 → c' (_root_.Go.Proofs.YtlkbokbcfajhjaaGreat.tt c' i f) (_root_.Go.Proofs.YtlkbokbcfajhjaaGreat.pp c' i f f * 5 + 1 + k) = inv (c' i (f * 5 + 1)) (c' i (f * 5 + 2)) (c' i (f * 5 + 3)) (c' i (f * 5 + 4)) k := by
      intro k hk
      -- k is the image of some m
      have : ∃ m, m < 4 ∧ _root_.Go.Proofs.YtlkbokbcfajhjaaGreat.pp c' i f m = k := by
        have l0 := (P 0 (by omega)).2.1; have l1 := (P 1 (by omega)).2.1; have l2 := (P 2 (by omega)).2.1; have l3 := (P 3 (by omega)).2.1
        have n1 := pN 0 (by omega); have n2 := pN 1 (by omega); have n3 := pN 2 (by omega); have n4 := pN 3 (by omega)
        obtain ⟨_, _, _, _, _, _, _, _, h1, h2, h3, h4, h5, h6⟩ := hok
        simp only [Nat.add_zero] at n1
        simp only [Nat.add_assoc, Nat.reduceAdd] at n2 n3 n4
        by_cases z0 : _root_.Go.Proofs.YtlkbokbcfajhjaaGreat.pp c' i f 0 = k
        · exact ⟨0, by omega, z0⟩
        by_cases z1 : _root_.Go.Proofs.YtlkbokbcfajhjaaGreat.pp c' i f 1 = k
        · exact ⟨1, by omega, z1⟩
        by_cases z2 : _root_.Go.Proofs.YtlkbokbcfajhjaaGreat.pp c' i f 2 = k
        · exact ⟨2, by omega, z2⟩
        by_cases z3 : _root_.Go.Proofs.YtlkbokbcfajhjaaGreat.pp c' i f 3 = k
        · exact ⟨3, by omega, z3⟩
        exfalso; omega
      obtain ⟨m, hm, e⟩ := this
      have e2 : ((k : Nat) : Int) = sel (c' i (f * 5 + 1)) (c' i (f * 5 + 2)) (c' i (f * 5 + 3)) (c' i (f * 5 + 4)) m := by rw [sel_at c' i f hm, pN m hm, e]
      rw [e2, inv_sel hok hm]
      have := b3 m hm
      rw [e] at this
      have h0 := (P2 k hk).1
      unfold _root_.Go.Proofs.YtlkbokbcfajhjaaGreat.pp at this h0 ⊢
      unfold _root_.Go.Proofs.YtlkbokbcfajhjaaGreat.pp at *
      omega
    refine .inr ⟨hl', by omega, hok, ?_, _root_.Go.Proofs.YtlkbokbcfajhjaaGreat.pp c' i f f, by rw [sel_at c' i f hf, pN f hf], ?_, ?_, ?_, ?_, ?_⟩
    · rintro ⟨e1, e2⟩
      rw [sel_at c' i f hf, pN f hf] at e2
      have e1 : _root_.Go.Proofs.YtlkbokbcfajhjaaGreat.tt c' i f = i := by omega
      have e2 : _root_.Go.Proofs.YtlkbokbcfajhjaaGreat.pp c' i f f = f := by omega
      refine F.ne (o i) (p i f) (h.lt i hi) ((h.ok i hi).1 f hf) ((h.gl i f hi hf).1 hl) ⟨?_, ?_⟩
      · rw [← t2, e1]
      · rw [← (P f hf).2.2, e1, e2]
    · show c' (_root_.Go.Proofs.YtlkbokbcfajhjaaGreat.tt c' i f) _ = _
      have g0 : 0 ≤ c' (_root_.Go.Proofs.YtlkbokbcfajhjaaGreat.tt c' i f) (_root_.Go.Proofs.YtlkbokbcfajhjaaGreat.pp c' i f f * 5) := b1
      have : (c' (_root_.Go.Proofs.YtlkbokbcfajhjaaGreat.tt c' i f) (_root_.Go.Proofs.YtlkbokbcfajhjaaGreat.pp c' i f f * 5)).toNat = i := b2
      omega
    · exact pN2 0 (by omega)
    · exact pN2 1 (by omega)
    · exact pN2 2 (by omega)
    · exact pN2 3 (by omega)
  · exact .inl (h.none i f hi hf hl)

/-- The coordinates, renumbered. -/
def CarV (n : Nat) (o : Nat → Nat) (p : Nat → Nat → Nat) (v w : Nat → Int) : Prop := ∀ i, i < n → CarT w v i (o i) (p i)

theorem allEq_carry {n : Nat} {c c' : Nat → Nat → Int} {o : Nat → Nat} {p : Nat → Nat → Nat} {v w : Nat → Int} (h : Renum n c c' o p) (hF : GlueOK n c) (hw : CarV n o p v w) (hv : AllEq n c v) : AllEq n c' w := by
  intro i f a hi hf ha hne hg
  have F := hF.fits
  obtain ⟨t1, t2⟩ := h.tt i f hi hf hg
  obtain ⟨_, q1, q2⟩ := h.pp i f hi hf hg f hf
  obtain ⟨_, r1, r2⟩ := h.pp i f hi hf hg a ha
  have O := h.ok i hi
  have hne' : pp c' i f a ≠ pp c' i f f := fun e => by
    rw [e, q2] at r2
    have O2 := F.ok (o i) (p i f) (h.lt i hi) (O.1 f hf) ((h.gl i f hi hf).1 hg)
    exact hne (O.2 a f ha hf (O2.2 _ _ (O.1 a ha) (O.1 f hf) r2.symm))
  rw [arcs_carry (hw i hi) O hf ha hne, arcs_carry (hw _ t1) (h.ok _ t1) q1 r1 hne', t2, q2, r2]
  exact hv (o i) (p i f) (p i a) (h.lt i hi) (O.1 f hf) (O.1 a ha) (fun e => hne (O.2 a f ha hf e)) ((h.gl i f hi hf).1 hg)
end Go.Proofs.YtlkbokbcfajhjaaGreat
namespace Go.Proofs.YtlkbokbcfajhjaaGreat
set_option linter.unusedVariables false
set_option linter.unusedSimpArgs false

/-! ### sums -/
def sumL (l : List Int) : Int := l.foldr (· + ·) 0
theorem sumL_perm {l l' : List Int} (h : l.Perm l') : sumL l = sumL l' := by
  unfold sumL
  induction h with
  | nil => rfl
  | cons x _ ih => simp only [List.foldr_cons, ih]
  | swap x y l => simp only [List.foldr_cons]; omega
  | trans _ _ ih1 ih2 => exact ih1.trans ih2
theorem sumL_append (a b : List Int) : sumL (a ++ b) = sumL a + sumL b := by
  unfold sumL
  induction a with
  | nil => simp
  | cons x a ih => simp only [List.cons_append, List.foldr_cons, ih]; omega
def sumTo (n : Nat) (F : Nat → Int) : Int := sumL ((List.range n).map F)
theorem sumTo_zero (F : Nat → Int) : sumTo 0 F = 0 := rfl
theorem sumTo_succ (n : Nat) (F : Nat → Int) : sumTo (n + 1) F = sumTo n F + F n := by
  unfold sumTo; rw [List.range_succ, List.map_append, sumL_append]; simp [sumL]
theorem sumTo_congr {n : Nat} {F G : Nat → Int} (h : ∀ i, i < n → F i = G i) : sumTo n F = sumTo n G := by
  unfold sumTo; rw [List.map_congr_left fun a ha => h a (List.mem_range.1 ha)]
theorem sumTo_add (n : Nat) (F G : Nat → Int) : sumTo n (fun i => F i + G i) = sumTo n F + sumTo n G := by
  induction n with
  | zero => rfl
  | succ n ih => rw [sumTo_succ, sumTo_succ, sumTo_succ, ih]; omega
/-- Numbers below n, renumbered. -/
theorem range_perm {n : Nat} {σ : Nat → Nat} (h1 : ∀ i, i < n → σ i < n) (h2 : ∀ i j, i < n → j < n → σ i = σ j → i = j) : ((List.range n).map σ).Perm (List.range n) := by
  have hn : ((List.range n).map σ).Nodup := by
    rw [List.nodup_iff_pairwise_ne, List.pairwise_map]
    refine List.Pairwise.imp_of_mem ?_ (List.nodup_range (n := n))
    intro a b ha hb hne e
    exact hne (h2 a b (List.mem_range.1 ha) (List.mem_range.1 hb) e)
  have hsub : ∀ x ∈ (List.range n).map σ, x ∈ List.range n := by
    intro x hx
    obtain ⟨i, hi, rfl⟩ := List.mem_map.1 hx
    exact List.mem_range.2 (h1 i (List.mem_range.1 hi))
  refine (List.perm_ext_iff_of_nodup hn List.nodup_range).2 fun a => ⟨hsub a, fun ha => ?_⟩
  rcases Classical.em (a ∈ (List.range n).map σ) with h | h
  · exact h
  · have h1 : (a :: (List.range n).map σ).Nodup := List.nodup_cons.2 ⟨h, hn⟩
    have := h1.length_le_of_subset (l₂ := List.range n) fun x hx => by
      rcases List.mem_cons.1 hx with rfl | hx
      · exact ha
      · exact hsub x hx
    simp at this
    omega
theorem sumTo_perm {n : Nat} {σ : Nat → Nat} (h1 : ∀ i, i < n → σ i < n) (h2 : ∀ i j, i < n → j < n → σ i = σ j → i = j) (F : Nat → Int) : sumTo n (fun i => F (σ i)) = sumTo n F := by
  have := sumL_perm ((range_perm h1 h2).map F)
  rw [List.map_map] at this
  exact this
theorem perm_surj {n : Nat} {σ : Nat → Nat} (h1 : ∀ i, i < n → σ i < n) (h2 : ∀ i j, i < n → j < n → σ i = σ j → i = j) {k : Nat} (hk : k < n) : ∃ i, i < n ∧ σ i = k := by
  have := (range_perm h1 h2).mem_iff.2 (List.mem_range.2 hk)
  obtain ⟨i, hi, e⟩ := List.mem_map.1 this
  exact ⟨i, List.mem_range.1 hi, e⟩

/-! ### a renumbering of blocks of m -/
/-- Block i goes to block o i, place b in it to place q i b. -/
def blk (m : Nat) (o : Nat → Nat) (q : Nat → Nat → Nat) (x : Nat) : Nat := m * o (x / m) + q (x / m) (x % m)
theorem blk_at {m : Nat} {o : Nat → Nat} {q : Nat → Nat → Nat} {i b : Nat} (hb : b < m) : blk m o q (m * i + b) = m * o i + q i b := by
  unfold blk
  have h1 : (m * i + b) / m = i := by rw [Nat.mul_add_div (by omega), Nat.div_eq_of_lt hb]; omega
  have h2 : (m * i + b) % m = b := by rw [Nat.mul_add_mod, Nat.mod_eq_of_lt hb]
  rw [h1, h2]
theorem div_mod_lt {m n x : Nat} (hx : x < m * n) : x / m < n ∧ x % m < m ∧ x = m * (x / m) + x % m := by
  have hm : 0 < m := by rcases Nat.eq_zero_or_pos m with h | h; (subst h; simp at hx); exact h
  exact ⟨(Nat.div_lt_iff_lt_mul hm).2 (by rw [Nat.mul_comm]; exact hx), Nat.mod_lt _ hm, (Nat.div_add_mod x m).symm⟩
theorem blk_lt_of {m n i b : Nat} (hi : i < n) (hb : b < m) : m * i + b < m * n := by
  calc m * i + b < m * i + m := by omega
    _ = m * (i + 1) := by rw [Nat.mul_add, Nat.mul_one]
    _ ≤ m * n := Nat.mul_le_mul_left _ hi
structure BlkOK (m n : Nat) (o : Nat → Nat) (q : Nat → Nat → Nat) : Prop where
  lt : ∀ i, i < n → o i < n
  inj : ∀ i j, i < n → j < n → o i = o j → i = j
  qlt : ∀ i b, i < n → b < m → q i b < m
  qinj : ∀ i a b, i < n → a < m → b < m → q i a = q i b → a = b
theorem BlkOK.blk_lt {m n : Nat} {o : Nat → Nat} {q : Nat → Nat → Nat} (h : BlkOK m n o q) {x : Nat} (hx : x < m * n) : blk m o q x < m * n := by
  obtain ⟨h1, h2, h3⟩ := div_mod_lt hx
  exact blk_lt_of (h.lt _ h1) (h.qlt _ _ h1 h2)
theorem BlkOK.blk_inj {m n : Nat} {o : Nat → Nat} {q : Nat → Nat → Nat} (h : BlkOK m n o q) {x y : Nat} (hx : x < m * n) (hy : y < m * n) (e : blk m o q x = blk m o q y) : x = y := by
  obtain ⟨h1, h2, h3⟩ := div_mod_lt hx
  obtain ⟨k1, k2, k3⟩ := div_mod_lt hy
  unfold blk at e
  have q1 := h.qlt _ _ h1 h2; have q2 := h.qlt _ _ k1 k2
  have hm : 0 < m := by omega
  have d : ∀ a b, b < m → (m * a + b) / m = a := fun a b hb => by rw [Nat.mul_add_div hm, Nat.div_eq_of_lt hb]; omega
  have eo : o (x / m) = o (y / m) := by
    have := congrArg (· / m) e
    simpa [d _ _ q1, d _ _ q2] using this
  have ei := h.inj _ _ h1 k1 eo
  rw [eo, ei] at e
  have := h.qinj _ _ _ k1 h2 k2 (by omega)
  rw [h3, k3, ei, this]
theorem BlkOK.sum {m n : Nat} {o : Nat → Nat} {q : Nat → Nat → Nat} (h : BlkOK m n o q) (F : Nat → Int) : sumTo (m * n) (fun x => F (blk m o q x)) = sumTo (m * n) F :=
  sumTo_perm (fun i hi => h.blk_lt hi) (fun i j hi hj e => h.blk_inj hi hj e) F

variable {n : Nat} {c c' : Nat → Nat → Int} {o : Nat → Nat} {p : Nat → Nat → Nat} {v w : Nat → Int}
theorem Renum.ent (h : Renum n c c' o p) : BlkOK 10 n o (fun i => entP (p i)) :=
  ⟨h.lt, h.inj, fun i b hi hb => entP_lt (h.ok i hi) hb, fun i a b hi ha hb e => entP_inj (h.ok i hi) ha hb e⟩
theorem CarV.eq (hw : CarV n o p v w) {x : Nat} (hx : x < 10 * n) : w x = v (blk 10 o (fun i => entP (p i)) x) := by
  obtain ⟨h1, h2, h3⟩ := div_mod_lt hx
  have := hw _ h1 _ h2
  rw [← h3] at this
  exact this
theorem sumV_carry (h : Renum n c c' o p) (hw : CarV n o p v w) : sumTo (10 * n) w = sumTo (10 * n) v := by
  rw [← h.ent.sum v]
  exact sumTo_congr fun x hx => hw.eq hx
theorem octS_eq (v : Nat → Int) : ∀ n, octS v n = sumTo n fun t => v (10 * t + 7 + 0) + v (10 * t + 7 + 1) + v (10 * t + 7 + 2)
  | 0 => rfl
  | n + 1 => by rw [sumTo_succ, ← octS_eq v n, octS]; omega

/-- Coordinates that fit are carried over. -/
theorem holds_carry (h : Renum n c c' o p) (hF : GlueOK n c) (hw : CarV n o p v w) {nv : Nat} (hv : Holds n c nv v) : Holds n c' nv w := by
  obtain ⟨h1, h2, h3, h4, h5⟩ := hv
  subst h1
  refine ⟨rfl, fun x hx => ?_, fun t ht => okT_carry (hw t ht) (h.ok t ht) (h3 _ (h.lt t ht)), ?_, ?_⟩
  · rw [hw.eq hx]; exact h2 _ (h.ent.blk_lt hx)
  · rw [← h4, octS_eq w, octS_eq v]
    exact (sumTo_congr fun i hi => oct3_carry (hw i hi) (h.ok i hi)).trans (sumTo_perm h.lt h.inj fun t => v (10 * t + 7 + 0) + v (10 * t + 7 + 1) + v (10 * t + 7 + 2))
  · exact (allEq_iff (h.glueOK hF)).2 (allEq_carry h hF hw ((allEq_iff hF).1 h5))

/-! ### the edges -/
/-- Edges that a glued face identifies. -/
def EdgeRel (n : Nat) (c : Nat → Nat → Int) (x y : Nat) : Prop := ∃ t f i k, t < n ∧ f < 4 ∧ i < 4 ∧ k < 4 ∧ i ≠ f ∧ k ≠ f ∧ i ≠ k ∧ gl c t f ∧ x = 6 * t + edgeN i k ∧ y = 6 * tt c t f + edgeN (pp c t f i) (pp c t f k)
theorem mem_edgesTo {c : Nat → Nat → Int} {t f i : Nat} {x : Nat × Nat} : x ∈ edgesTo c (t, f, i) 4 ↔ ∃ k, k < 4 ∧ k ≠ f ∧ k ≠ i ∧ x = (6 * t + edgeN i k, 6 * tt c t f + edgeN (pp c t f i) (pp c t f k)) := by
  simp only [edgesTo, List.mem_map, List.mem_filter, List.mem_range, decide_eq_true_eq]
  constructor
  · rintro ⟨k, ⟨h1, h2, h3⟩, rfl⟩; exact ⟨k, h1, h2, h3, rfl⟩
  · rintro ⟨k, h1, h2, h3, rfl⟩; exact ⟨k, ⟨h1, h2, h3⟩, rfl⟩
theorem mem_joins {c : Nat → Nat → Int} {x : Nat × Nat} : x ∈ joinsTo n c (eqns n c).length ↔ ∃ t f i k, t < n ∧ f < 4 ∧ i < 4 ∧ i ≠ f ∧ ¬ Skip c t f ∧ k < 4 ∧ k ≠ f ∧ k ≠ i ∧ x = (6 * t + edgeN i k, 6 * tt c t f + edgeN (pp c t f i) (pp c t f k)) := by
  unfold joinsTo
  rw [List.take_length, List.mem_flatMap]
  constructor
  · rintro ⟨⟨t, f, i⟩, hm, hx⟩
    obtain ⟨m1, m2, m3, m4, m5⟩ := mem_eqns hm
    obtain ⟨k, k1, k2, k3, rfl⟩ := mem_edgesTo.1 hx
    exact ⟨t, f, i, k, m1, m2, m3, m4, m5, k1, k2, k3, rfl⟩
  · rintro ⟨t, f, i, k, m1, m2, m3, m4, m5, k1, k2, k3, rfl⟩
    exact ⟨(t, f, i), mem_eqns_iff.2 ⟨m1, m2, m3, m4, m5⟩, mem_edgesTo.2 ⟨k, k1, k2, k3, rfl⟩⟩
theorem edge_cls (hF : GlueOK n c) : Cls (EdgeRel n c) (edgeR n c) := by
  have F := hF.fits
  refine (cls_of (joinsTo n c (eqns n c).length)).congr (fun a b h => ?_) (fun a b h => ?_)
  · obtain ⟨t, f, i, k, m1, m2, m3, m4, m5, k1, k2, k3, e⟩ := mem_joins.1 h
    cases e
    exact .step ⟨t, f, i, k, m1, m2, m3, k1, m4, k2, Ne.symm k3, gl_of_not_skip m5, rfl, rfl⟩
  · obtain ⟨t, f, i, k, m1, m2, m3, k1, m4, k2, k3, hg, rfl, rfl⟩ := h
    by_cases hs : Skip c t f
    · obtain ⟨b1, b2, b3⟩ := F.back t f m1 m2 hg
      have O := F.ok t f m1 m2 hg
      refine .symm (.step (mem_joins.2 ⟨tt c t f, pp c t f f, pp c t f i, pp c t f k, F.lt t f m1 m2 hg, O.1 f m2, O.1 i m3, fun e => m4 (O.2 i f m3 m2 e), fun hs' => ((skip_back hF m1 m2 hg).1 hs') hs, O.1 k k1, fun e => k2 (O.2 k f k1 m2 e), fun e => k3 (O.2 k i k1 m3 e).symm, ?_⟩))
      rw [b2, b3 i m3, b3 k k1]
    · exact .step (mem_joins.2 ⟨t, f, i, k, m1, m2, m3, m4, hs, k1, k2, Ne.symm k3, rfl⟩)
end Go.Proofs.YtlkbokbcfajhjaaGreat
namespace Go.Proofs.YtlkbokbcfajhjaaGreat
set_option linter.unusedVariables false
set_option linter.unusedSimpArgs false
variable {n : Nat} {c c' : Nat → Nat → Int} {o : Nat → Nat} {p : Nat → Nat → Nat} {v w : Nat → Int}

theorem carry_of {N : Nat} {r s : Nat → Nat → Prop} {σ : Nat → Nat} (h1 : ∀ i, i < N → σ i < N) (h2 : ∀ i j, i < N → j < N → σ i = σ j → i = j)
    (fwd : ∀ a b, s a b → a < N ∧ b < N ∧ Conn r (σ a) (σ b)) (bwd : ∀ a b, r a b → ∃ a' b', a' < N ∧ b' < N ∧ σ a' = a ∧ σ b' = b ∧ Conn s a' b') : ∃ τ, Carry N r s σ τ := by
  have hs : ∀ x, ∃ y, x < N → y < N ∧ σ y = x := fun x => by
    rcases Nat.lt_or_ge x N with h | h
    · obtain ⟨y, hy, e⟩ := perm_surj h1 h2 h; exact ⟨y, fun _ => ⟨hy, e⟩⟩
    · exact ⟨0, fun h' => by omega⟩
  have hτ := Classical.axiomOfChoice hs
  obtain ⟨τ, hτ⟩ := hτ
  refine ⟨τ, ⟨h1, fun a ha => (hτ a ha).1, fun a ha => h2 _ _ (hτ _ (h1 a ha)).1 ha (hτ _ (h1 a ha)).2, fun a ha => (hτ a ha).2, fwd, fun a b hab => ?_⟩⟩
  obtain ⟨a', b', ha, hb, rfl, rfl, hc⟩ := bwd a b hab
  refine ⟨h1 a' ha, h1 b' hb, ?_⟩
  rw [h2 _ _ (hτ _ (h1 a' ha)).1 ha (hτ _ (h1 a' ha)).2, h2 _ _ (hτ _ (h1 b' hb)).1 hb (hτ _ (h1 b' hb)).2]
  exact hc

theorem Ok4.surj {q : Nat → Nat} (h : Ok4 q) {k : Nat} (hk : k < 4) : ∃ i, i < 4 ∧ q i = k := perm_surj h.1 h.2 hk
theorem edP_inj {q : Nat → Nat} (h : Ok4 q) {a b : Nat} (ha : a < 6) (hb : b < 6) (e : edP q a = edP q b) : a = b := by
  obtain ⟨a1, a2, a3, a4⟩ := sd_facts a (List.mem_range.2 ha)
  obtain ⟨b1, b2, b3, b4⟩ := sd_facts b (List.mem_range.2 hb)
  have na : q (sdN a 0) ≠ q (sdN a 1) := fun x => a3 (h.2 _ _ a1 a2 x)
  have nb : q (sdN b 0) ≠ q (sdN b 1) := fun x => b3 (h.2 _ _ b1 b2 x)
  have ea := (edge_facts _ (List.mem_range.2 (h.1 _ a1)) _ (List.mem_range.2 (h.1 _ a2)) na).2
  have eb := (edge_facts _ (List.mem_range.2 (h.1 _ b1)) _ (List.mem_range.2 (h.1 _ b2)) nb).2
  unfold edP at e
  rw [e] at ea
  have : (q (sdN a 0) = q (sdN b 0) ∧ q (sdN a 1) = q (sdN b 1)) ∨ (q (sdN a 0) = q (sdN b 1) ∧ q (sdN a 1) = q (sdN b 0)) := by
    rcases ea with ⟨x1, x2⟩ | ⟨x1, x2⟩ <;> rcases eb with ⟨y1, y2⟩ | ⟨y1, y2⟩
    · exact .inl ⟨by rw [← x1, y1], by rw [← x2, y2]⟩
    · exact .inr ⟨by rw [← x1, y1], by rw [← x2, y2]⟩
    · exact .inr ⟨by rw [← x2, y2], by rw [← x1, y1]⟩
    · exact .inl ⟨by rw [← x2, y2], by rw [← x1, y1]⟩
  rcases this with ⟨x1, x2⟩ | ⟨x1, x2⟩
  · rw [← a4, ← b4, h.2 _ _ a1 b1 x1, h.2 _ _ a2 b2 x2]
  · rw [← a4, ← b4, h.2 _ _ a1 b2 x1, h.2 _ _ a2 b1 x2]; exact edgeN_symm b2 b1 (Ne.symm b3)
theorem Renum.edges (h : Renum n c c' o p) : BlkOK 6 n o (fun i => edP (p i)) :=
  ⟨h.lt, h.inj, fun i b hi hb => edP_lt (h.ok i hi) hb, fun i a b hi ha hb e => edP_inj (h.ok i hi) ha hb e⟩

theorem edges_carry (h : Renum n c c' o p) (hF : GlueOK n c) : ∃ τ, Carry (6 * n) (EdgeRel n c) (EdgeRel n c') (blk 6 o fun i => edP (p i)) τ := by
  have F := hF.fits
  refine carry_of (fun i hi => h.edges.blk_lt hi) (fun i j hi hj e => h.edges.blk_inj hi hj e) (fun a b hab => ?_) (fun a b hab => ?_)
  · obtain ⟨i, f, x, k, h1, h2, h3, h4, h5, h6, h7, hg, rfl, rfl⟩ := hab
    obtain ⟨t1, t2⟩ := h.tt i f h1 h2 hg
    have O := h.ok i h1
    obtain ⟨_, x1, x2⟩ := h.pp i f h1 h2 hg x h3
    obtain ⟨_, k1, k2⟩ := h.pp i f h1 h2 hg k h4
    have hgc := (h.gl i f h1 h2).1 hg
    have O2 := F.ok (o i) (p i f) (h.lt i h1) (O.1 f h2) hgc
    have hne : pp c' i f x ≠ pp c' i f k := fun e => by
      rw [e, k2] at x2
      exact h7 (O.2 x k h3 h4 (O2.2 _ _ (O.1 x h3) (O.1 k h4) x2.symm))
    refine ⟨blk_lt_of h1 (edgeN_lt h3 h4), blk_lt_of t1 (edgeN_lt x1 k1), ?_⟩
    rw [blk_at (edgeN_lt h3 h4), blk_at (edgeN_lt x1 k1), edP_edge O h3 h4 h7, edP_edge (h.ok _ t1) x1 k1 hne, t2, x2, k2]
    exact .step ⟨o i, p i f, p i x, p i k, h.lt i h1, O.1 f h2, O.1 x h3, O.1 k h4, fun e => h5 (O.2 _ _ h3 h2 e), fun e => h6 (O.2 _ _ h4 h2 e), fun e => h7 (O.2 _ _ h3 h4 e), hgc, rfl, rfl⟩
  · obtain ⟨t, f, x, k, h1, h2, h3, h4, h5, h6, h7, hg, rfl, rfl⟩ := hab
    obtain ⟨i, hi, rfl⟩ := perm_surj h.lt h.inj h1
    have O := h.ok i hi
    obtain ⟨f', hf', rfl⟩ := O.surj h2
    obtain ⟨x', hx', rfl⟩ := O.surj h3
    obtain ⟨k', hk', rfl⟩ := O.surj h4
    have hg' := (h.gl i f' hi hf').2 hg
    obtain ⟨t1, t2⟩ := h.tt i f' hi hf' hg'
    obtain ⟨_, x1, x2⟩ := h.pp i f' hi hf' hg' x' hx'
    obtain ⟨_, k1, k2⟩ := h.pp i f' hi hf' hg' k' hk'
    have O2 := F.ok (o i) (p i f') (h.lt i hi) (O.1 f' hf') hg
    have hne : pp c' i f' x' ≠ pp c' i f' k' := fun e => by
      rw [e, k2] at x2
      exact h7 (O2.2 _ _ (O.1 x' hx') (O.1 k' hk') x2.symm)
    refine ⟨6 * i + edgeN x' k', 6 * tt c' i f' + edgeN (pp c' i f' x') (pp c' i f' k'), blk_lt_of hi (edgeN_lt hx' hk'), blk_lt_of t1 (edgeN_lt x1 k1), ?_, ?_, ?_⟩
    · rw [blk_at (edgeN_lt hx' hk'), edP_edge O hx' hk' fun e => h7 (by rw [e])]
    · rw [blk_at (edgeN_lt x1 k1), edP_edge (h.ok _ t1) x1 k1 hne, t2, x2, k2]
    · exact .step ⟨i, f', x', k', hi, hf', hx', hk', fun e => h5 (by rw [e]), fun e => h6 (by rw [e]), fun e => h7 (by rw [e]), hg', rfl, rfl⟩

/-- The weight is the same along a class of edges. -/
theorem wt_class (hF : GlueOK n c) (hv : AllEq n c v) {a b : Nat} (hab : Conn (EdgeRel n c) a b) : wtP v (a / 6) (a % 6) = wtP v (b / 6) (b % 6) := by
  have F := hF.fits
  induction hab with
  | refl a => rfl
  | symm _ ih => exact ih.symm
  | trans _ _ ih1 ih2 => exact ih1.trans ih2
  | step hab =>
    obtain ⟨t, f, i, k, h1, h2, h3, h4, h5, h6, h7, hg, rfl, rfl⟩ := hab
    have O := F.ok t f h1 h2 hg
    have d : ∀ t e, e < 6 → (6 * t + e) / 6 = t ∧ (6 * t + e) % 6 = e := fun t e he => by omega
    have e1 := d t _ (edgeN_lt h3 h4)
    have e2 := d (tt c t f) _ (edgeN_lt (O.1 i h3) (O.1 k h4))
    rw [e1.1, e1.2, e2.1, e2.2, wt_arcs v t h2 h3 h4 h5 h6 h7, wt_arcs v _ (O.1 f h2) (O.1 i h3) (O.1 k h4) (fun e => h5 (O.2 _ _ h3 h2 e)) (fun e => h6 (O.2 _ _ h4 h2 e)) (fun e => h7 (O.2 _ _ h3 h4 e)),
      hv t f i h1 h2 h3 h5 hg, hv t f k h1 h2 h4 h6 hg]

theorem wts_carry (h : Renum n c c' o p) (hF : GlueOK n c) (hw : CarV n o p v w) (hv : AllEq n c v) : (wtsTo n c' w (6 * n)).Perm (wtsTo n c v (6 * n)) := by
  obtain ⟨τ, hc⟩ := edges_carry h hF
  refine vals_perm hc (edge_cls hF) (edge_cls (h.glueOK hF)) (fun x => wtP v (x / 6) (x % 6)) (fun x => wtP w (x / 6) (x % 6)) (fun a b ha hb e => wt_class hF hv (((edge_cls hF).iff a b).1 e)) fun x hx => ?_
  obtain ⟨h1, h2, h3⟩ := div_mod_lt hx
  have e : blk 6 o (fun i => edP (p i)) x = 6 * o (x / 6) + edP (p (x / 6)) (x % 6) := rfl
  have hl := edP_lt (h.ok _ h1) h2
  rw [e, show (6 * o (x / 6) + edP (p (x / 6)) (x % 6)) / 6 = o (x / 6) by omega, show (6 * o (x / 6) + edP (p (x / 6)) (x % 6)) % 6 = edP (p (x / 6)) (x % 6) by omega]
  exact wt_carry (hw _ h1) (h.ok _ h1) h2

/-! ### the faces -/
/-- The arcs of a face. -/
def faceA (v : Nat → Int) (t f : Nat) : Int := (if 0 = f then 0 else arcP v t f 0) + (if 1 = f then 0 else arcP v t f 1) + (if 2 = f then 0 else arcP v t f 2) + (if 3 = f then 0 else arcP v t f 3)
/-- A face that has been counted before. -/
def SkipE (c : Nat → Nat → Int) (t f : Nat) : Prop := 0 ≤ c t (f * 5) ∧ (c t (f * 5) < t ∨ (c t (f * 5) = t ∧ c t (f * 5 + 1 + f) < f))
instance (c : Nat → Nat → Int) (t f : Nat) : Decidable (SkipE c t f) := by unfold SkipE; infer_instance
instance (c : Nat → Nat → Int) (t f : Nat) : Decidable (gl c t f) := by unfold gl; infer_instance
/-- The arcs of the faces, each once. -/
def faceS (n : Nat) (c : Nat → Nat → Int) (v : Nat → Int) : Int := sumTo (4 * n) fun x => if SkipE c (x / 4) (x % 4) then 0 else faceA v (x / 4) (x % 4)
/-- The Euler characteristic. -/
def eulP (n : Nat) (c : Nat → Nat → Int) (v : Nat → Int) : Int := sumL (wtsTo n c v (6 * n)) + sumTo (10 * n) v - faceS n c v

theorem four_carry {q : Nat → Nat} (hq : Ok4 q) (F : Nat → Int) : F (q 0) + F (q 1) + F (q 2) + F (q 3) = F 0 + F 1 + F 2 + F 3 := by
  have h := sumTo_perm hq.1 hq.2 F
  simpa [sumTo, sumL, List.range_succ, Int.add_assoc] using h
theorem faceA_map {q : Nat → Nat} (hq : Ok4 q) {v w : Nat → Int} {t t' f : Nat} (hf : f < 4) (h : ∀ i, i < 4 → i ≠ f → arcP w t f i = arcP v t' (q f) (q i)) : faceA w t f = faceA v t' (q f) := by
  have := four_carry hq fun i => if i = q f then 0 else arcP v t' (q f) i
  unfold faceA
  try dsimp only at this
  have e : ∀ i, i < 4 → (if q i = q f then 0 else arcP v t' (q f) (q i)) = (if i = f then 0 else arcP w t f i) := fun i hi => by
    by_cases hif : i = f
    · rw [if_pos hif, if_pos (by rw [hif])]
    · rw [if_neg hif, if_neg (fun x => hif (hq.2 _ _ hi hf x)), h i hi hif]
  rw [e 0 (by omega), e 1 (by omega), e 2 (by omega), e 3 (by omega)] at this
  exact this
theorem faceA_glued (hF : GlueOK n c) (hv : AllEq n c v) {t f : Nat} (ht : t < n) (hf : f < 4) (hg : gl c t f) : faceA v t f = faceA v (tt c t f) (pp c t f f) :=
  faceA_map (hF.fits.ok t f ht hf hg) hf fun i hi hne => hv t f i ht hf hi hne hg
theorem faceA_carry (h : Renum n c c' o p) (hw : CarV n o p v w) {i f : Nat} (hi : i < n) (hf : f < 4) : faceA w i f = faceA v (o i) (p i f) :=
  faceA_map (h.ok i hi) hf fun a ha hne => arcs_carry (hw i hi) (h.ok i hi) hf ha hne

theorem skipE_iff (hF : GlueOK n c) {t f : Nat} (ht : t < n) (hf : f < 4) : SkipE c t f ↔ gl c t f ∧ Skip c t f := by
  unfold SkipE gl Skip
  constructor
  · rintro ⟨h, k⟩; exact ⟨h, by omega⟩
  · rintro ⟨h, k⟩; exact ⟨h, by omega⟩

/-- To where a face is glued. -/
def opp (c : Nat → Nat → Int) (x : Nat) : Nat := if gl c (x / 4) (x % 4) then 4 * tt c (x / 4) (x % 4) + pp c (x / 4) (x % 4) (x % 4) else x
theorem opp_lt (hF : GlueOK n c) {x : Nat} (hx : x < 4 * n) : opp c x < 4 * n := by
  obtain ⟨h1, h2, h3⟩ := div_mod_lt hx
  unfold opp
  split
  · rename_i hg
    exact blk_lt_of (hF.fits.lt _ _ h1 h2 hg) ((hF.fits.ok _ _ h1 h2 hg).1 _ h2)
  · exact hx
theorem opp_opp (hF : GlueOK n c) {x : Nat} (hx : x < 4 * n) : opp c (opp c x) = x := by
  obtain ⟨h1, h2, h3⟩ := div_mod_lt hx
  by_cases hg : gl c (x / 4) (x % 4)
  · obtain ⟨b1, b2, b3⟩ := hF.fits.back _ _ h1 h2 hg
    have hl := (hF.fits.ok _ _ h1 h2 hg).1 _ h2
    have e : opp c x = 4 * tt c (x / 4) (x % 4) + pp c (x / 4) (x % 4) (x % 4) := by unfold opp; rw [if_pos hg]
    have e1 : opp c x / 4 = tt c (x / 4) (x % 4) := by rw [e]; omega
    have e2 : opp c x % 4 = pp c (x / 4) (x % 4) (x % 4) := by rw [e]; omega
    rw [opp, e1, e2, if_pos b1, b2, b3 _ h2]; omega
  · have e : opp c x = x := by unfold opp; rw [if_neg hg]
    rw [e, e]
theorem faceS_two (hF : GlueOK n c) (hv : AllEq n c v) : 2 * faceS n c v = sumTo (4 * n) fun x => if gl c (x / 4) (x % 4) then faceA v (x / 4) (x % 4) else 2 * faceA v (x / 4) (x % 4) := by
  let A := fun x => faceA v (x / 4) (x % 4)
  let F := fun x => if SkipE c (x / 4) (x % 4) then A x else 0
  let G := fun x => if SkipE c (x / 4) (x % 4) then 0 else A x
  have h1 : sumTo (4 * n) (fun x => F (opp c x)) = sumTo (4 * n) F := sumTo_perm (fun x hx => opp_lt hF hx) (fun x y hx hy e => by rw [← opp_opp hF hx, e, opp_opp hF hy]) F
  have h2 : sumTo (4 * n) (fun x => G x + (G x + (F x - F (opp c x)))) = sumTo (4 * n) fun x => if gl c (x / 4) (x % 4) then A x else 2 * A x := by
    refine sumTo_congr fun x hx => ?_
    obtain ⟨l1, l2, l3⟩ := div_mod_lt hx
    by_cases hg : gl c (x / 4) (x % 4)
    · rw [if_pos hg]
      have hl := (hF.fits.ok _ _ l1 l2 hg).1 _ l2
      have hlt := hF.fits.lt _ _ l1 l2 hg
      obtain ⟨b1, b2, b3⟩ := hF.fits.back _ _ l1 l2 hg
      have e : opp c x = 4 * tt c (x / 4) (x % 4) + pp c (x / 4) (x % 4) (x % 4) := by unfold opp; rw [if_pos hg]
      have e1 : opp c x / 4 = tt c (x / 4) (x % 4) := by rw [e]; omega
      have e2 : opp c x % 4 = pp c (x / 4) (x % 4) (x % 4) := by rw [e]; omega
      have eA : A (opp c x) = A x := by show faceA v _ _ = faceA v _ _; rw [e1, e2]; exact (faceA_glued hF hv l1 l2 hg).symm
      have hs := skip_back hF l1 l2 hg
      have k1 := skipE_iff hF l1 l2
      have k2 := skipE_iff hF hlt hl
      show (if _ then _ else _) + ((if _ then _ else _) + ((if _ then _ else _) - (if SkipE c (opp c x / 4) (opp c x % 4) then A (opp c x) else 0))) = _
      rw [eA, e1, e2]
      by_cases hk : Skip c (x / 4) (x % 4)
      · rw [if_pos (k1.2 ⟨hg, hk⟩), if_pos (k1.2 ⟨hg, hk⟩), if_neg (fun z => (hs.1 (k2.1 z).2) hk)]; omega
      · rw [if_neg (fun z => hk (k1.1 z).2), if_neg (fun z => hk (k1.1 z).2), if_pos (k2.2 ⟨b1, hs.2 hk⟩)]; omega
    · rw [if_neg hg]
      have e : opp c x = x := by unfold opp; rw [if_neg hg]
      have k1 := skipE_iff hF l1 l2
      have hn : ¬ SkipE c (x / 4) (x % 4) := fun z => hg (k1.1 z).1
      show (if _ then _ else _) + ((if _ then _ else _) + (F x - F (opp c x))) = _
      rw [e, if_neg hn]; omega
  have h3 : sumTo (4 * n) (fun x => G x + (G x + (F x - F (opp c x)))) = sumTo (4 * n) G + (sumTo (4 * n) G + (sumTo (4 * n) F - sumTo (4 * n) fun x => F (opp c x))) := by
    have sub : ∀ (N : Nat) (F G : Nat → Int), sumTo N (fun i => F i - G i) = sumTo N F - sumTo N G := by
      intro N F G
      induction N with
      | zero => rfl
      | succ N ih => rw [sumTo_succ, sumTo_succ, sumTo_succ, ih]; omega
    rw [sumTo_add, sumTo_add, sub]
  rw [h1] at h3
  rw [← h2, h3]
  show 2 * sumTo (4 * n) G = _
  omega
theorem Renum.faces (h : Renum n c c' o p) : BlkOK 4 n o p := ⟨h.lt, h.inj, fun i b hi hb => (h.ok i hi).1 b hb, fun i a b hi ha hb e => (h.ok i hi).2 a b ha hb e⟩
theorem faceS_carry (h : Renum n c c' o p) (hF : GlueOK n c) (hw : CarV n o p v w) (hv : AllEq n c v) : faceS n c' w = faceS n c v := by
  have h1 := faceS_two hF hv
  have h2 := faceS_two (h.glueOK hF) (allEq_carry h hF hw hv)
  have h3 := h.faces.sum fun x => if gl c (x / 4) (x % 4) then faceA v (x / 4) (x % 4) else 2 * faceA v (x / 4) (x % 4)
  rw [← h1] at h3
  have h4 : 2 * faceS n c' w = 2 * faceS n c v := by
    rw [h2, ← h3]
    refine sumTo_congr fun x hx => ?_
    obtain ⟨l1, l2, l3⟩ := div_mod_lt hx
    have hl := (h.ok _ l1).1 _ l2
    have e : blk 4 o p x = 4 * o (x / 4) + p (x / 4) (x % 4) := rfl
    have e1 : blk 4 o p x / 4 = o (x / 4) := by rw [e]; omega
    have e2 : blk 4 o p x % 4 = p (x / 4) (x % 4) := by rw [e]; omega
    rw [e1, e2, ← faceA_carry h hw l1 l2]
    have hg := h.gl _ _ l1 l2
    by_cases g : gl c' (x / 4) (x % 4)
    · rw [if_pos g, if_pos (hg.1 g)]
    · rw [if_neg g, if_neg (fun z => g (hg.2 z))]
  omega
theorem eul_carry (h : Renum n c c' o p) (hF : GlueOK n c) (hw : CarV n o p v w) (hv : AllEq n c v) : eulP n c' w = eulP n c v := by
  unfold eulP
  rw [sumL_perm (wts_carry h hF hw hv), sumV_carry h hw, faceS_carry h hF hw hv]
end Go.Proofs.YtlkbokbcfajhjaaGreat
namespace Go.Proofs.YtlkbokbcfajhjaaGreat
set_option linter.unusedVariables false
set_option linter.unusedSimpArgs false

/-! ### classes of keys -/
section
variable {κ : Type} [DecidableEq κ]
/-- Where a key stands. -/
def ixK (ks : List κ) (x : κ) : Nat := ks.idxOf x
theorem ixK_lt {ks : List κ} {x : κ} (h : x ∈ ks) : ixK ks x < ks.length := List.idxOf_lt_length_of_mem h
theorem ixK_get {ks : List κ} {x : κ} (h : x ∈ ks) (d : κ) : ks.getD (ixK ks x) d = x := by
  rw [List.getD, List.getElem?_eq_getElem (ixK_lt h), Option.getD_some]; exact List.getElem_idxOf _
def idxR (ks : List κ) (r : κ → κ → Prop) (a b : Nat) : Prop := ∃ x y, x ∈ ks ∧ y ∈ ks ∧ r x y ∧ a = ixK ks x ∧ b = ixK ks y
theorem idxOf_getElem' {ks : List κ} (hn : ks.Nodup) {j : Nat} (hj : j < ks.length) : ixK ks ks[j] = j := List.Nodup.idxOf_getElem hn j hj
theorem getElem_idxOf' {ks : List κ} {x : κ} (hx : x ∈ ks) : ks[ixK ks x]'(ixK_lt hx) = x := List.getElem_idxOf _
theorem carry_keys {ks ks' : List κ} (hn : ks.Nodup) (hn' : ks'.Nodup) (d : κ) (π : κ → κ) (hπ : ∀ x ∈ ks', π x ∈ ks) (inj : ∀ x ∈ ks', ∀ y ∈ ks', π x = π y → x = y) (surj : ∀ y ∈ ks, ∃ x ∈ ks', π x = y)
    {r s : κ → κ → Prop} (fwd : ∀ x ∈ ks', ∀ y ∈ ks', s x y → r (π x) (π y)) (bwd : ∀ x ∈ ks', ∀ y ∈ ks', r (π x) (π y) → s x y) :
    ks'.length = ks.length ∧ ∃ τ, Carry ks.length (idxR ks r) (idxR ks' s) (fun j => ixK ks (π (ks'.getD j d))) τ := by
  have hp : (ks'.map π).Perm ks := by
    refine (List.perm_ext_iff_of_nodup ?_ hn).2 fun a => ?_
    · rw [List.nodup_iff_pairwise_ne, List.pairwise_map]
      refine List.Pairwise.imp_of_mem ?_ hn'
      intro a b ha hb hne e
      exact hne (inj a ha b hb e)
    · rw [List.mem_map]
      constructor
      · rintro ⟨x, hx, rfl⟩; exact hπ x hx
      · intro ha; obtain ⟨x, hx, e⟩ := surj a ha; exact ⟨x, hx, e⟩
  have hl : ks'.length = ks.length := by rw [← hp.length_eq, List.length_map]
  have g : ∀ j (hj : j < ks.length), ks'.getD j d = ks'[j]'(by omega) := fun j hj => by simp [List.getD, hl, hj]
  have gm : ∀ j, j < ks.length → ks'.getD j d ∈ ks' := fun j hj => by rw [g j hj]; exact List.getElem_mem _
  have gi : ∀ x ∈ ks', ks'.getD (ixK ks' x) d = x := fun x hx => by
    rw [g _ (by rw [← hl]; exact ixK_lt hx)]; exact getElem_idxOf' hx
  refine ⟨hl, carry_of (fun i hi => ixK_lt (hπ _ (gm i hi))) (fun i j hi hj e => ?_) (fun a b hab => ?_) (fun a b hab => ?_)⟩
  · have e1 := inj _ (gm i hi) _ (gm j hj) (by
      have := getElem_idxOf' (hπ _ (gm i hi))
      have h2 := getElem_idxOf' (hπ _ (gm j hj))
      rw [← this, ← h2]; congr 1)
    have := congrArg (ixK ks') e1
    rw [g i hi, g j hj, idxOf_getElem' hn', idxOf_getElem' hn'] at this
    exact this
  · obtain ⟨x, y, hx, hy, hs, rfl, rfl⟩ := hab
    refine ⟨by rw [← hl]; exact ixK_lt hx, by rw [← hl]; exact ixK_lt hy, ?_⟩
    rw [gi x hx, gi y hy]
    exact .step ⟨π x, π y, hπ x hx, hπ y hy, fwd x hx y hy hs, rfl, rfl⟩
  · obtain ⟨x, y, hx, hy, hr, rfl, rfl⟩ := hab
    obtain ⟨x', hx', rfl⟩ := surj x hx
    obtain ⟨y', hy', rfl⟩ := surj y hy
    refine ⟨ixK ks' x', ixK ks' y', by rw [← hl]; exact ixK_lt hx', by rw [← hl]; exact ixK_lt hy', by rw [gi x' hx'], by rw [gi y' hy'], .step ⟨x', y', hx', hy', bwd x' hx' y' hy' hr, rfl, rfl⟩⟩
end

/-! ### pieces -/
/-- How many pieces an entry has. -/
abbrev vn (v : Nat → Int) (x : Nat) : Nat := (v x).toNat
/-- The pieces. -/
def pcs (N : Nat) (v : Nat → Int) : List (Nat × Nat) := (List.range N).flatMap fun e => (List.range (vn v e)).map fun k => (e, k)
theorem mem_pcs {N : Nat} {v : Nat → Int} {x : Nat × Nat} : x ∈ pcs N v ↔ x.1 < N ∧ x.2 < vn v x.1 := by
  obtain ⟨e, k⟩ := x
  simp only [pcs, List.mem_flatMap, List.mem_range, List.mem_map, Prod.mk.injEq]
  constructor
  · rintro ⟨a, ha, b, hb, rfl, rfl⟩; exact ⟨ha, hb⟩
  · rintro ⟨h1, h2⟩; exact ⟨e, h1, k, h2, rfl, rfl⟩
theorem nodup_pcs (N : Nat) (v : Nat → Int) : (pcs N v).Nodup := by
  induction N with
  | zero => simp [pcs]
  | succ N ih =>
    have : pcs (N + 1) v = pcs N v ++ (List.range (vn v N)).map fun k => (N, k) := by simp [pcs, List.range_succ]
    rw [this, List.nodup_append]
    refine ⟨ih, ?_, fun a ha b hb e => ?_⟩
    · rw [List.nodup_iff_pairwise_ne, List.pairwise_map]
      exact List.Pairwise.imp (fun h e => h (by simpa using e)) List.nodup_range
    · subst e
      obtain ⟨k, hk, rfl⟩ := List.mem_map.1 hb
      have := (mem_pcs.1 ha).1
      simp at this
def nearB (k i : Nat) : Bool := decide (i = 0 ∨ i = k + 1)
/-- The piece with the r-th arc. -/
def atN (v : Nat → Int) (t f i r : Nat) : Nat × Nat :=
  if r < vn v (10 * t + i) then (10 * t + i, r)
  else if r - vn v (10 * t + i) < vn v (10 * t + 4 + tyN i f) then (10 * t + 4 + tyN i f, if nearB (tyN i f) i then r - vn v (10 * t + i) else vn v (10 * t + 4 + tyN i f) - 1 - (r - vn v (10 * t + i)))
  else if r - vn v (10 * t + i) - vn v (10 * t + 4 + tyN i f) < vn v (10 * t + 7 + (tyN i f + 1) % 3) then (10 * t + 7 + (tyN i f + 1) % 3, r - vn v (10 * t + i) - vn v (10 * t + 4 + tyN i f))
  else (10 * t + 7 + (tyN i f + 2) % 3, r - vn v (10 * t + i) - vn v (10 * t + 4 + tyN i f) - vn v (10 * t + 7 + (tyN i f + 1) % 3))
theorem atN_mem {n : Nat} {v : Nat → Int} (hv : InR (10 * n) v) {t f i r : Nat} (ht : t < n) (hi : i < 4) (hr : r < (arcP v t f i).toNat) : atN v t f i r ∈ pcs (10 * n) v := by
  have h3 := tyN_lt i f
  have m1 : (tyN i f + 1) % 3 < 3 := Nat.mod_lt _ (by omega)
  have m2 : (tyN i f + 2) % 3 < 3 := Nat.mod_lt _ (by omega)
  have a1 := (hv (10 * t + i) (by omega)).1
  have a2 := (hv (10 * t + 4 + tyN i f) (by omega)).1
  have a3 := (hv (10 * t + 7 + (tyN i f + 1) % 3) (by omega)).1
  have a4 := (hv (10 * t + 7 + (tyN i f + 2) % 3) (by omega)).1
  unfold arcP at hr
  rw [mem_pcs]
  unfold atN
  split
  · exact ⟨by show 10 * t + i < _; omega, by assumption⟩
  · split
    · refine ⟨by show 10 * t + 4 + tyN i f < _; omega, ?_⟩
      dsimp only
      split <;> omega
    · split
      · exact ⟨by show 10 * t + 7 + _ < _; omega, by assumption⟩
      · exact ⟨by show 10 * t + 7 + _ < _; omega, by dsimp only; unfold vn at *; omega⟩

/-- Where a piece comes from, in a tetrahedron. -/
def numP (q : Nat → Nat) (m b r : Nat) : Nat := if 4 ≤ b ∧ b < 7 ∧ nearB (tyP q (b - 4)) (q 0) = false then m - 1 - r else r
theorem near24 : ∀ q ∈ perms24, ∀ a ∈ List.range 4, ∀ f ∈ List.range 4, a ≠ f →
    (nearB (tyN (p4 q.1 q.2.1 q.2.2.1 q.2.2.2 a) (p4 q.1 q.2.1 q.2.2.1 q.2.2.2 f)) (p4 q.1 q.2.1 q.2.2.1 q.2.2.2 a) = (nearB (tyN a f) a == nearB (tyP (p4 q.1 q.2.1 q.2.2.1 q.2.2.2) (tyN a f)) (p4 q.1 q.2.1 q.2.2.1 q.2.2.2 0))) := by decide
theorem near_carry {q : Nat → Nat} (hq : Ok4 q) {a f : Nat} (ha : a < 4) (hf : f < 4) (h : a ≠ f) : nearB (tyN (q a) (q f)) (q a) = (nearB (tyN a f) a == nearB (tyP q (tyN a f)) (q 0)) := by
  have := near24 _ (ok4_mem hq) a (List.mem_range.2 ha) f (List.mem_range.2 hf) h
  dsimp only at this
  rw [p4_eq q ha, p4_eq q hf, tyP_p4 q (tyN_lt a f), p4_eq q (k := 0) (by omega)] at this
  exact this
/-- A piece of w, as one of v. -/
def pieceP (o : Nat → Nat) (p : Nat → Nat → Nat) (w : Nat → Int) (x : Nat × Nat) : Nat × Nat := (blk 10 o (fun i => entP (p i)) x.1, numP (p (x.1 / 10)) (vn w x.1) (x.1 % 10) x.2)

theorem okT_one {v : Nat → Int} {t : Nat} (h : okT v t) (h0 : ∀ b, b < 10 → 0 ≤ v (10 * t + b)) {j k : Nat} (hj : j < 3) (hk : k < 3) (hne : j ≠ k) : v (10 * t + 7 + j) = 0 ∨ v (10 * t + 7 + k) = 0 := by
  have h1 := h.1
  rw [cntD_six] at h1
  have e1 : 10 * t + 7 + 0 = 10 * t + 7 := rfl
  have e2 : 10 * t + 7 + 1 = 10 * t + 8 := rfl
  have e3 : 10 * t + 7 + 2 = 10 * t + 9 := rfl
  have hj : j = 0 ∨ j = 1 ∨ j = 2 := by omega
  have hk : k = 0 ∨ k = 1 ∨ k = 2 := by omega
  rcases Classical.em (v (10 * t + 7 + j) = 0) with z | z
  · exact .inl z
  · right
    rcases Classical.em (v (10 * t + 7 + k) = 0) with y | y
    · exact y
    · exfalso
      rcases hj with rfl | rfl | rfl <;> rcases hk with rfl | rfl | rfl <;> first | omega | (simp only [Nat.add_zero, Nat.add_assoc, Nat.reduceAdd] at z y h1; rw [if_neg z, if_neg y] at h1; omega)

variable {n : Nat} {c c' : Nat → Nat → Int} {o : Nat → Nat} {p : Nat → Nat → Nat} {v w : Nat → Int}
theorem at_carry (h : Renum n c c' o p) (hw : CarV n o p v w) (hin : InR (10 * n) v) (hok : ∀ t, t < n → okT v t) {i f a r : Nat} (hi : i < n) (hf : f < 4) (ha : a < 4) (hne : a ≠ f) (hr : r < (arcP w i f a).toNat) :
    pieceP o p w (atN w i f a r) = atN v (o i) (p i f) (p i a) r := by
  have O := h.ok i hi
  have C := hw i hi
  have e1 : vn w (10 * i + a) = vn v (10 * o i + p i a) := by unfold vn; rw [C.tri ha]
  have k3 := tyN_lt a f
  obtain ⟨t1, t2⟩ := types_carry O ha hf hne
  have e2 : vn w (10 * i + 4 + tyN a f) = vn v (10 * o i + 4 + tyN (p i a) (p i f)) := by unfold vn; rw [C.quad k3, t1]
  have m1 : (tyN a f + 1) % 3 < 3 := Nat.mod_lt _ (by omega)
  have m2 : (tyN a f + 2) % 3 < 3 := Nat.mod_lt _ (by omega)
  have x1 : vn w (10 * i + 7 + (tyN a f + 1) % 3) = vn v (10 * o i + 7 + tyP (p i) ((tyN a f + 1) % 3)) := by unfold vn; rw [C.oct m1]
  have x2 : vn w (10 * i + 7 + (tyN a f + 2) % 3) = vn v (10 * o i + 7 + tyP (p i) ((tyN a f + 2) % 3)) := by unfold vn; rw [C.oct m2]
  have blkq : ∀ b, b < 10 → blk 10 o (fun i => entP (p i)) (10 * i + b) = 10 * o i + entP (p i) b := fun b hb => blk_at hb
  have dm : ∀ b, b < 10 → (10 * i + b) / 10 = i ∧ (10 * i + b) % 10 = b := fun b hb => by omega
  have hpos : ∀ b, b < 10 → 0 ≤ v (10 * o i + b) := fun b hb => (hin _ (by have := h.lt i hi; omega)).1
  have tl1 := tyP_lt (p i) ((tyN a f + 1) % 3)
  have tl2 := tyP_lt (p i) ((tyN a f + 2) % 3)
  have hneT : tyP (p i) ((tyN a f + 1) % 3) ≠ tyP (p i) ((tyN a f + 2) % 3) := by
    have := tyP_lt (p i) (tyN a f)
    rcases t2 with ⟨y1, y2⟩ | ⟨y1, y2⟩ <;> rw [y1, y2] <;> omega
  have one := okT_one (hok _ (h.lt i hi)) hpos tl1 tl2 hneT
  have small : ∀ q, q < 3 → v (10 * o i + 7 + q) ≤ 1 := fun q hq => by
    have hk := hok _ (h.lt i hi)
    have hq : q = 0 ∨ q = 1 ∨ q = 2 := by omega
    rcases hq with rfl | rfl | rfl
    · exact hk.2.1
    · exact hk.2.2.1
    · exact hk.2.2.2
  have hr' : r < (arcP v (o i) (p i f) (p i a)).toNat := by rw [← arcs_carry C O hf ha hne]; exact hr
  unfold atN
  rw [e1, e2, x1]
  by_cases c1 : r < vn v (10 * o i + p i a)
  · rw [if_pos c1, if_pos c1]
    unfold pieceP
    rw [blkq a (by omega), (dm a (by omega)).1, (dm a (by omega)).2]
    unfold entP numP
    rw [if_pos ha, if_neg (by omega)]
  · rw [if_neg c1, if_neg c1]
    by_cases c2 : r - vn v (10 * o i + p i a) < vn v (10 * o i + 4 + tyN (p i a) (p i f))
    · rw [if_pos c2, if_pos c2]
      unfold pieceP
      rw [Nat.add_assoc (10 * i), blkq (4 + tyN a f) (by omega), (dm (4 + tyN a f) (by omega)).1, (dm (4 + tyN a f) (by omega)).2]
      dsimp only
      rw [← Nat.add_assoc (10 * i), e2, near_carry O ha hf hne]
      have ee : entP (p i) (4 + tyN a f) = 4 + tyN (p i a) (p i f) := by
        unfold entP; rw [if_neg (by omega), if_pos (by omega), t1, show 4 + tyN a f - 4 = tyN a f by omega]
      rw [ee, ← Nat.add_assoc]
      congr 1
      unfold numP
      rw [show 4 + tyN a f - 4 = tyN a f by omega]
      have l7 : 4 + tyN a f < 7 := by omega
      cases nearB (tyN a f) a <;> cases nearB (tyP (p i) (tyN a f)) (p i 0) <;> simp [l7] <;> omega
    · rw [if_neg c2, if_neg c2]
      have pc : ∀ q, q < 3 → ∀ s, pieceP o p w (10 * i + 7 + q, s) = (10 * o i + 7 + tyP (p i) q, s) := fun q hq s => by
        unfold pieceP
        rw [Nat.add_assoc (10 * i), blkq (7 + q) (by omega), (dm (7 + q) (by omega)).1, (dm (7 + q) (by omega)).2]
        unfold entP numP
        rw [if_neg (by omega), if_neg (by omega), if_neg (by omega), show 7 + q - 7 = q by omega, Nat.add_assoc]
      have hp4 := O.1 a ha
      have p1 := hpos (p i a) (by omega)
      have p2 := hpos (4 + tyN (p i a) (p i f)) (by have := tyN_lt (p i a) (p i f); omega)
      rw [← Nat.add_assoc] at p2
      have p3 := hpos (7 + tyP (p i) ((tyN a f + 1) % 3)) (by omega)
      have p4' := hpos (7 + tyP (p i) ((tyN a f + 2) % 3)) (by omega)
      rw [← Nat.add_assoc] at p3 p4'
      have s1 := small _ tl1
      have s2 := small _ tl2
      unfold arcP at hr'
      rw [t1] at hr' c2 p2
      rw [t1]
      rcases t2 with ⟨y1, y2⟩ | ⟨y1, y2⟩
      · rw [← y1, ← y2] at hr' ⊢
        split
        · rw [pc _ m1]
        · rw [pc _ m2]
      · rw [← y1, ← y2] at hr' ⊢
        generalize hs : r - vn v (10 * o i + p i a) - vn v (10 * o i + 4 + tyP (p i) (tyN a f)) = s
        have hs2 : s < vn v (10 * o i + 7 + tyP (p i) ((tyN a f + 1) % 3)) + vn v (10 * o i + 7 + tyP (p i) ((tyN a f + 2) % 3)) := by unfold vn at *; omega
        by_cases z : s < vn v (10 * o i + 7 + tyP (p i) ((tyN a f + 1) % 3))
        · rw [if_pos z, pc _ m1, if_neg (by unfold vn at *; omega)]
          congr 1; unfold vn at *; omega
        · rw [if_neg z, pc _ m2, if_pos (by unfold vn at *; omega)]
          congr 1; unfold vn at *; omega
end Go.Proofs.YtlkbokbcfajhjaaGreat
namespace Go.Proofs.YtlkbokbcfajhjaaGreat
set_option linter.unusedVariables false
set_option linter.unusedSimpArgs false
variable {n : Nat} {c c' : Nat → Nat → Int} {o : Nat → Nat} {p : Nat → Nat → Nat} {v w : Nat → Int}

theorem numP_lt {q : Nat → Nat} {m b r : Nat} (h : r < m) : numP q m b r < m := by unfold numP; split <;> omega
theorem numP_inv {q : Nat → Nat} {m b r : Nat} (h : r < m) : numP q m b (numP q m b r) = r := by unfold numP; split <;> omega
theorem pieceP_mem (h : Renum n c c' o p) (hw : CarV n o p v w) {x : Nat × Nat} (hx : x ∈ pcs (10 * n) w) : pieceP o p w x ∈ pcs (10 * n) v := by
  obtain ⟨h1, h2⟩ := mem_pcs.1 hx
  refine mem_pcs.2 ⟨h.ent.blk_lt h1, ?_⟩
  show numP _ (vn w x.1) _ _ < vn v (blk 10 o (fun i => entP (p i)) x.1)
  rw [show vn v (blk 10 o (fun i => entP (p i)) x.1) = vn w x.1 by unfold vn; rw [hw.eq h1]]
  exact numP_lt h2
theorem pieceP_inj (h : Renum n c c' o p) (hw : CarV n o p v w) {x y : Nat × Nat} (hx : x ∈ pcs (10 * n) w) (hy : y ∈ pcs (10 * n) w) (e : pieceP o p w x = pieceP o p w y) : x = y := by
  obtain ⟨x1, x2⟩ := x
  obtain ⟨y1, y2⟩ := y
  obtain ⟨h1, h2⟩ := mem_pcs.1 hx
  obtain ⟨k1, k2⟩ := mem_pcs.1 hy
  simp only [pieceP, Prod.mk.injEq] at e
  have e1 : x1 = y1 := h.ent.blk_inj h1 k1 e.1
  subst e1
  have e2 := congrArg (numP (p (x1 / 10)) (vn w x1) (x1 % 10)) e.2
  rw [numP_inv h2, numP_inv k2] at e2
  exact Prod.ext rfl e2
theorem pieceP_surj (h : Renum n c c' o p) (hw : CarV n o p v w) {y : Nat × Nat} (hy : y ∈ pcs (10 * n) v) : ∃ x ∈ pcs (10 * n) w, pieceP o p w x = y := by
  obtain ⟨y1, y2⟩ := y
  obtain ⟨k1, k2⟩ := mem_pcs.1 hy
  obtain ⟨x1, h1, e⟩ := perm_surj (fun i hi => h.ent.blk_lt hi) (fun i j hi hj e => h.ent.blk_inj hi hj e) k1
  have hv : vn v y1 = vn w x1 := by unfold vn; rw [hw.eq h1, e]
  dsimp only at k2
  rw [hv] at k2
  refine ⟨(x1, numP (p (x1 / 10)) (vn w x1) (x1 % 10) y2), mem_pcs.2 ⟨h1, numP_lt k2⟩, ?_⟩
  simp only [pieceP, numP_inv k2, e]

/-- Pieces that an arc joins. -/
def PRel (n : Nat) (c : Nat → Nat → Int) (v : Nat → Int) (x y : Nat × Nat) : Prop :=
  ∃ t f i r, t < n ∧ f < 4 ∧ i < 4 ∧ i ≠ f ∧ gl c t f ∧ r < (arcP v t f i).toNat ∧ x = atN v t f i r ∧ y = atN v (tt c t f) (pp c t f f) (pp c t f i) r
/-- The numbers of pieces that the equations join. -/
def partL (n : Nat) (c : Nat → Nat → Int) (v : Nat → Int) (k : Nat) : List (Nat × Nat) :=
  ((eqns n c).take k).flatMap fun e => (List.range (arcP v e.1 e.2.1 e.2.2).toNat).map fun r =>
    (ixK (pcs (10 * n) v) (atN v e.1 e.2.1 e.2.2 r), ixK (pcs (10 * n) v) (atN v (tt c e.1 e.2.1) (pp c e.1 e.2.1 e.2.1) (pp c e.1 e.2.1 e.2.2) r))
/-- The classes of pieces. -/
def partR (n : Nat) (c : Nat → Nat → Int) (v : Nat → Int) : Nat → Nat := (partL n c v (eqns n c).length).foldl joinR fun j => j

theorem part_cls (hF : GlueOK n c) (hin : InR (10 * n) v) (hv : AllEq n c v) : Cls (idxR (pcs (10 * n) v) (PRel n c v)) (partR n c v) := by
  have F := hF.fits
  refine (cls_of (partL n c v (eqns n c).length)).congr (fun a b h => ?_) (fun a b h => ?_)
  · unfold partL at h
    rw [List.take_length, List.mem_flatMap] at h
    obtain ⟨⟨t, f, i⟩, hm, h⟩ := h
    obtain ⟨m1, m2, m3, m4, m5⟩ := mem_eqns hm
    dsimp only at m1 m2 m3 m4 m5
    obtain ⟨r, hr, e⟩ := List.mem_map.1 h
    have hr := List.mem_range.1 hr
    dsimp only at hr
    cases e
    have hg := gl_of_not_skip m5
    have O := F.ok t f m1 m2 hg
    have hr2 : r < (arcP v (tt c t f) (pp c t f f) (pp c t f i)).toNat := by rw [← hv t f i m1 m2 m3 m4 hg]; exact hr
    exact .step ⟨_, _, atN_mem hin m1 m3 hr, atN_mem hin (F.lt t f m1 m2 hg) (O.1 i m3) hr2, ⟨t, f, i, r, m1, m2, m3, m4, hg, hr, rfl, rfl⟩, rfl, rfl⟩
  · obtain ⟨x, y, hx, hy, ⟨t, f, i, r, m1, m2, m3, m4, hg, hr, rfl, rfl⟩, rfl, rfl⟩ := h
    have hr2 : r < (arcP v (tt c t f) (pp c t f f) (pp c t f i)).toNat := by rw [← hv t f i m1 m2 m3 m4 hg]; exact hr
    have O := F.ok t f m1 m2 hg
    by_cases hs : Skip c t f
    · obtain ⟨b1, b2, b3⟩ := F.back t f m1 m2 hg
      refine .symm (.step ?_)
      unfold partL
      rw [List.take_length, List.mem_flatMap]
      refine ⟨(tt c t f, pp c t f f, pp c t f i), mem_eqns_iff.2 ⟨F.lt t f m1 m2 hg, O.1 f m2, O.1 i m3, fun e => m4 (O.2 i f m3 m2 e), fun hs' => ((skip_back hF m1 m2 hg).1 hs') hs⟩, List.mem_map.2 ⟨r, List.mem_range.2 hr2, ?_⟩⟩
      dsimp only
      rw [b2, b3 f m2, b3 i m3]
    · refine .step ?_
      unfold partL
      rw [List.take_length, List.mem_flatMap]
      exact ⟨(t, f, i), mem_eqns_iff.2 ⟨m1, m2, m3, m4, hs⟩, List.mem_map.2 ⟨r, List.mem_range.2 hr, rfl⟩⟩

theorem parts_carry (h : Renum n c c' o p) (hF : GlueOK n c) (hw : CarV n o p v w) (hin : InR (10 * n) v) (hok : ∀ t, t < n → okT v t) (hv : AllEq n c v) :
    (pcs (10 * n) w).length = (pcs (10 * n) v).length ∧ ∃ τ, Carry (pcs (10 * n) v).length (idxR (pcs (10 * n) v) (PRel n c v)) (idxR (pcs (10 * n) w) (PRel n c' w)) (fun j => ixK (pcs (10 * n) v) (pieceP o p w ((pcs (10 * n) w).getD j (0, 0)))) τ := by
  have F := hF.fits
  have hF' := h.glueOK hF
  have F' := hF'.fits
  have hvw := allEq_carry h hF hw hv
  have hinw : InR (10 * n) w := fun x hx => by rw [hw.eq hx]; exact hin _ (h.ent.blk_lt hx)
  have base : ∀ i f a r, i < n → f < 4 → a < 4 → a ≠ f → gl c' i f → r < (arcP w i f a).toNat →
      pieceP o p w (atN w i f a r) = atN v (o i) (p i f) (p i a) r ∧ pieceP o p w (atN w (tt c' i f) (pp c' i f f) (pp c' i f a) r) = atN v (tt c (o i) (p i f)) (pp c (o i) (p i f) (p i f)) (pp c (o i) (p i f) (p i a)) r ∧
        atN w i f a r ∈ pcs (10 * n) w ∧ atN w (tt c' i f) (pp c' i f f) (pp c' i f a) r ∈ pcs (10 * n) w := by
    intro i f a r hi hf ha hne hg hr
    obtain ⟨t1, t2⟩ := h.tt i f hi hf hg
    obtain ⟨_, q1, q2⟩ := h.pp i f hi hf hg f hf
    obtain ⟨_, r1, r2⟩ := h.pp i f hi hf hg a ha
    have O' := F'.ok i f hi hf hg
    have hr2 : r < (arcP w (tt c' i f) (pp c' i f f) (pp c' i f a)).toNat := by rw [← hvw i f a hi hf ha hne hg]; exact hr
    refine ⟨at_carry h hw hin hok hi hf ha hne hr, ?_, atN_mem hinw hi ha hr, atN_mem hinw t1 r1 hr2⟩
    rw [at_carry h hw hin hok t1 q1 r1 (fun e => hne (O'.2 a f ha hf e)) hr2, t2, q2, r2]
  refine carry_keys (nodup_pcs _ _) (nodup_pcs _ _) (0, 0) (pieceP o p w) (fun x hx => pieceP_mem h hw hx) (fun x hx y hy e => pieceP_inj h hw hx hy e) (fun y hy => pieceP_surj h hw hy) (fun x hx y hy hs => ?_) (fun x hx y hy hr => ?_)
  · obtain ⟨i, f, a, r, hi, hf, ha, hne, hg, hr, rfl, rfl⟩ := hs
    obtain ⟨e1, e2, _, _⟩ := base i f a r hi hf ha hne hg hr
    have O := h.ok i hi
    rw [e1, e2]
    exact ⟨o i, p i f, p i a, r, h.lt i hi, O.1 f hf, O.1 a ha, fun e => hne (O.2 a f ha hf e), (h.gl i f hi hf).1 hg, by rw [← arcs_carry (hw i hi) O hf ha hne]; exact hr, rfl, rfl⟩
  · obtain ⟨t, f, a, r, ht, hf, ha, hne, hg, hr, ex, ey⟩ := hr
    obtain ⟨i, hi, rfl⟩ := perm_surj h.lt h.inj ht
    have O := h.ok i hi
    obtain ⟨f', hf', rfl⟩ := O.surj hf
    obtain ⟨a', ha', rfl⟩ := O.surj ha
    have hg' := (h.gl i f' hi hf').2 hg
    have hne' : a' ≠ f' := fun e => hne (by rw [e])
    have hr' : r < (arcP w i f' a').toNat := by rw [arcs_carry (hw i hi) O hf' ha' hne']; exact hr
    obtain ⟨e1, e2, m1, m2⟩ := base i f' a' r hi hf' ha' hne' hg' hr'
    refine ⟨i, f', a', r, hi, hf', ha', hne', hg', hr', pieceP_inj h hw hx m1 (by rw [ex, e1]), pieceP_inj h hw hy m2 (by rw [ey, e2])⟩

/-- How many parts. -/
def partN (n : Nat) (c : Nat → Nat → Int) (v : Nat → Int) : Nat := ((List.range (pcs (10 * n) v).length).filter fun x => partR n c v x = x).length
theorem partN_carry (h : Renum n c c' o p) (hF : GlueOK n c) (hw : CarV n o p v w) (hin : InR (10 * n) v) (hok : ∀ t, t < n → okT v t) (hv : AllEq n c v) : partN n c' w = partN n c v := by
  obtain ⟨hl, τ, hc⟩ := parts_carry h hF hw hin hok hv
  have hinw : InR (10 * n) w := fun x hx => by rw [hw.eq hx]; exact hin _ (h.ent.blk_lt hx)
  unfold partN
  rw [hl]
  exact roots_length hc (part_cls hF hin hv) (part_cls (h.glueOK hF) hinw (allEq_carry h hF hw hv))

/-- How many pieces of an entry lie in the part of a piece. -/
def mainP (n : Nat) (c : Nat → Nat → Int) (v : Nat → Int) (home : Nat × Nat) (e : Nat) : Nat :=
  (List.range (vn v e)).countP fun r => partR n c v (ixK (pcs (10 * n) v) (e, r)) = partR n c v (ixK (pcs (10 * n) v) home)
theorem mainP_carry (h : Renum n c c' o p) (hF : GlueOK n c) (hw : CarV n o p v w) (hin : InR (10 * n) v) (hok : ∀ t, t < n → okT v t) (hv : AllEq n c v) {home : Nat × Nat} (hh : home ∈ pcs (10 * n) w) {x : Nat} (hx : x < 10 * n) :
    mainP n c' w home x = mainP n c v (pieceP o p w home) (blk 10 o (fun i => entP (p i)) x) := by
  obtain ⟨hl, τ, hc⟩ := parts_carry h hF hw hin hok hv
  have hinw : InR (10 * n) w := fun x hx => by rw [hw.eq hx]; exact hin _ (h.ent.blk_lt hx)
  have hr := part_cls hF hin hv
  have hs := part_cls (h.glueOK hF) hinw (allEq_carry h hF hw hv)
  have hm : vn v (blk 10 o (fun i => entP (p i)) x) = vn w x := by unfold vn; rw [hw.eq hx]
  have key : ∀ y, y ∈ pcs (10 * n) w → (partR n c' w (ixK (pcs (10 * n) w) y) = partR n c' w (ixK (pcs (10 * n) w) home) ↔ partR n c v (ixK (pcs (10 * n) v) (pieceP o p w y)) = partR n c v (ixK (pcs (10 * n) v) (pieceP o p w home))) := fun y hy => by
    have := carry_iff hc hr hs (a := ixK (pcs (10 * n) w) y) (b := ixK (pcs (10 * n) w) home) (by rw [← hl]; exact ixK_lt hy) (by rw [← hl]; exact ixK_lt hh)
    have gi : ∀ z ∈ pcs (10 * n) w, (pcs (10 * n) w).getD (ixK (pcs (10 * n) w) z) (0, 0) = z := fun z hz => ixK_get hz _
    rwa [gi y hy, gi home hh] at this
  unfold mainP
  rw [hm]
  have hp : ((List.range (vn w x)).map (numP (p (x / 10)) (vn w x) (x % 10))).Perm (List.range (vn w x)) :=
    range_perm (fun i hi => numP_lt hi) fun i j hi hj e => by rw [← numP_inv (q := p (x / 10)) (b := x % 10) hi, e, numP_inv hj]
  conv => rhs; rw [← hp.countP_eq, List.countP_map]
  refine List.countP_congr fun r hr' => ?_
  have hr' := List.mem_range.1 hr'
  simp only [Function.comp, decide_eq_true_eq]
  exact key (x, r) (mem_pcs.2 ⟨hx, hr'⟩)

/-! ### the octagon -/
theorem sumTo_two {N : Nat} {F : Nat → Int} (h : ∀ i, i < N → 0 ≤ F i) {a b : Nat} (hab : a < b) (hb : b < N) : F a + F b ≤ sumTo N F := by
  induction N with
  | zero => omega
  | succ N ih =>
    rw [sumTo_succ]
    by_cases e : b = N
    · subst e
      have one : ∀ M, (∀ i, i < M → 0 ≤ F i) → a < M → F a ≤ sumTo M F ∧ 0 ≤ sumTo M F := by
        intro M
        induction M with
        | zero => intro _ h; omega
        | succ M ih =>
          intro h0 hM
          rw [sumTo_succ]
          have := h0 M (by omega)
          by_cases e : a = M
          · subst e
            have nn : ∀ K, K ≤ a → 0 ≤ sumTo K F := by
              intro K
              induction K with
              | zero => intro _; simp [sumTo, sumL]
              | succ K ih => intro hK; rw [sumTo_succ]; have := ih (by omega); have := h0 K (by omega); omega
            have := nn a (by omega)
            omega
          · have := ih (fun i hi => h0 i (by omega)) (by omega)
            omega
      have := (one b (fun i hi => h i (by omega)) hab).1
      omega
    · have := ih (fun i hi => h i (by omega)) (by omega)
      have := h N (by omega)
      omega
/-- The sum over blocks of ten. -/
theorem sumTo_ten (F : Nat → Int) : ∀ n, sumTo (10 * n) F = sumTo n fun t => F (10 * t) + F (10 * t + 1) + F (10 * t + 2) + F (10 * t + 3) + F (10 * t + 4) + F (10 * t + 5) + F (10 * t + 6) + F (10 * t + 7) + F (10 * t + 8) + F (10 * t + 9)
  | 0 => rfl
  | n + 1 => by
    rw [sumTo_succ, ← sumTo_ten F n, show 10 * (n + 1) = 10 * n + 1 + 1 + 1 + 1 + 1 + 1 + 1 + 1 + 1 + 1 by omega]
    simp only [sumTo_succ, Nat.add_assoc, Nat.reduceAdd]
    omega
/-- The entry of the octagon. -/
def IsOct (n : Nat) (v : Nat → Int) (e : Nat) : Prop := e < 10 * n ∧ 7 ≤ e % 10 ∧ v e = 1
theorem oct_unique (hin : InR (10 * n) v) (h1 : octS v n = 1) {a b : Nat} (ha : IsOct n v a) (hb : IsOct n v b) : a = b := by
  have hs : sumTo (10 * n) (fun x => if 7 ≤ x % 10 then v x else 0) = 1 := by
    rw [sumTo_ten, ← h1, octS_eq]
    refine sumTo_congr fun t ht => ?_
    try dsimp only
    rw [if_neg (by omega), if_neg (by omega), if_neg (by omega), if_neg (by omega), if_neg (by omega), if_neg (by omega), if_neg (by omega), if_pos (by omega), if_pos (by omega), if_pos (by omega)]
    simp only [Nat.add_zero, Nat.add_assoc, Nat.reduceAdd]
    omega
  have nn : ∀ i, i < 10 * n → 0 ≤ (if 7 ≤ i % 10 then v i else 0) := fun i hi => by split; exact (hin i hi).1; omega
  rcases Nat.lt_trichotomy a b with h | h | h
  · have := sumTo_two nn h hb.1
    try dsimp only at this
    rw [hs, if_pos ha.2.1, if_pos hb.2.1, ha.2.2, hb.2.2] at this
    omega
  · exact h
  · have := sumTo_two nn h ha.1
    try dsimp only at this
    rw [hs, if_pos ha.2.1, if_pos hb.2.1, ha.2.2, hb.2.2] at this
    omega
theorem oct_carry (h : Renum n c c' o p) (hw : CarV n o p v w) {x : Nat} (hx : IsOct n w x) : IsOct n v (blk 10 o (fun i => entP (p i)) x) ∧ pieceP o p w (x, 0) = (blk 10 o (fun i => entP (p i)) x, 0) := by
  obtain ⟨h1, h2, h3⟩ := hx
  obtain ⟨l1, l2, l3⟩ := div_mod_lt h1
  have he : 7 ≤ entP (p (x / 10)) (x % 10) := by unfold entP; rw [if_neg (by omega), if_neg (by omega)]; omega
  have hl := entP_lt (h.ok _ l1) l2
  have e : blk 10 o (fun i => entP (p i)) x = 10 * o (x / 10) + entP (p (x / 10)) (x % 10) := rfl
  refine ⟨⟨h.ent.blk_lt h1, by rw [e]; omega, by rw [← hw.eq h1]; exact h3⟩, ?_⟩
  unfold pieceP numP
  dsimp only
  rw [if_neg (by omega)]
end Go.Proofs.YtlkbokbcfajhjaaGreat
namespace Go.Proofs.YtlkbokbcfajhjaaGreat
set_option linter.unusedVariables false
set_option linter.unusedSimpArgs false

/-! ### what Renumber makes -/
def metTo (n : Nat) (ord : Nat → Int) (k : Nat) : List Bool := (List.range k).foldl (fun l i => l.set (ord i).toNat true) (List.replicate n false)
def backTo (n : Nat) (ord : Nat → Int) (k : Nat) : List Int := (List.range k).foldl (fun l i => l.set (ord i).toNat (i : Int)) (List.replicate n 0)
theorem metTo_zero (n : Nat) (ord : Nat → Int) : metTo n ord 0 = List.replicate n false := rfl
theorem backTo_zero (n : Nat) (ord : Nat → Int) : backTo n ord 0 = List.replicate n 0 := rfl
theorem metTo_succ (n : Nat) (ord : Nat → Int) (k : Nat) : metTo n ord (k + 1) = (metTo n ord k).set (ord k).toNat true := by simp [metTo, List.range_succ, List.foldl_append]
theorem backTo_succ (n : Nat) (ord : Nat → Int) (k : Nat) : backTo n ord (k + 1) = (backTo n ord k).set (ord k).toNat (k : Int) := by simp [backTo, List.range_succ, List.foldl_append]
theorem metTo_len (n : Nat) (ord : Nat → Int) : ∀ k, (metTo n ord k).length = n
  | 0 => by simp [metTo]
  | k + 1 => by rw [metTo_succ, List.length_set, metTo_len]
theorem backTo_len (n : Nat) (ord : Nat → Int) : ∀ k, (backTo n ord k).length = n
  | 0 => by simp [backTo]
  | k + 1 => by rw [backTo_succ, List.length_set, backTo_len]
/-- The first k numbers of an order. -/
def OrdOK (n : Nat) (ord : Nat → Int) (k : Nat) : Prop := ∀ i, i < k → 0 ≤ ord i ∧ ord i < n ∧ ∀ j, j < i → ord j ≠ ord i
theorem metTo_get {n : Nat} {ord : Nat → Int} {t : Nat} (ht : t < n) : ∀ {k : Nat}, (metTo n ord k).getD t false = true ↔ ∃ j, j < k ∧ (ord j).toNat = t
  | 0 => by simp [metTo, List.getD, ht]
  | k + 1 => by
    have ih := metTo_get (ord := ord) ht (k := k)
    rw [metTo_succ]
    by_cases h : (ord k).toNat = t
    · have hl : (ord k).toNat < (metTo n ord k).length := by rw [metTo_len]; omega
      constructor
      · intro _; exact ⟨k, by omega, h⟩
      · intro _
        subst h
        simp [List.getD, hl]
    · have e1 : ((metTo n ord k).set (ord k).toNat true).getD t false = (metTo n ord k).getD t false := by simp [List.getD, List.getElem?_set, h]
      rw [e1, ih]
      constructor
      · rintro ⟨j, hj, e⟩; exact ⟨j, by omega, e⟩
      · rintro ⟨j, hj, e⟩
        rcases Nat.lt_or_ge j k with h' | h'
        · exact ⟨j, h', e⟩
        · have : j = k := by omega
          subst this; exact absurd e h
theorem OrdOK.step {n : Nat} {ord : Nat → Int} {k : Nat} (h : OrdOK n ord k) (h0 : 0 ≤ ord k) (h1 : ord k < n) (hm : (metTo n ord k).getD (ord k).toNat false = false) : OrdOK n ord (k + 1) := fun i hi => by
  rcases Nat.lt_or_ge i k with h' | h'
  · exact h i h'
  · have : i = k := by omega
    subst this
    refine ⟨h0, h1, fun j hj e => ?_⟩
    have := (metTo_get (n := n) (ord := ord) (t := (ord i).toNat) (by omega) (k := i)).2 ⟨j, hj, by rw [e]⟩
    rw [hm] at this; cases this
theorem backTo_get {n : Nat} {ord : Nat → Int} {k : Nat} (h : OrdOK n ord k) : ∀ {m : Nat}, m ≤ k → ∀ i, i < m → (backTo n ord m).getD (ord i).toNat 0 = i
  | 0, _, i, hi => by omega
  | m + 1, hm, i, hi => by
    rw [backTo_succ]
    have hk := h m (by omega)
    have hl : (ord m).toNat < (backTo n ord m).length := by rw [backTo_len]; omega
    rcases Nat.lt_or_ge i m with h' | h'
    · have hne : ord i ≠ ord m := (hk.2.2 i h')
      have hi2 := h i (by omega)
      have : (ord m).toNat ≠ (ord i).toNat := by omega
      have ih := backTo_get h (m := m) (by omega) i h'
      rw [← ih]
      simp [List.getD, List.getElem?_set, this]
    · have : i = m := by omega
      subst this
      simp [List.getD, hl]
/-- Which tetrahedron has become x's. -/
def jN (n : Nat) (ord : Nat → Int) (x : Nat) : Nat := ((backTo n ord n).getD x 0).toNat
theorem backTo_nn {n : Nat} {ord : Nat → Int} : ∀ {k : Nat} (x : Nat), 0 ≤ (backTo n ord k).getD x 0
  | 0, x => by
    rw [backTo_zero]
    rcases Nat.lt_or_ge x n with h | h <;> simp [List.getD, h]
  | k + 1, x => by
    rw [backTo_succ]
    have ih := backTo_nn (n := n) (ord := ord) (k := k) x
    by_cases h : (ord k).toNat = x
    · rcases Nat.lt_or_ge x (backTo n ord k).length with h' | h'
      · subst h; simp [List.getD, h']
      · subst h; simp [List.getD, h']
    · have e : ((backTo n ord k).set (ord k).toNat (k : Int)).getD x 0 = (backTo n ord k).getD x 0 := by simp [List.getD, List.getElem?_set, h]
      rw [e]; exact ih
theorem jN_eq {n : Nat} {ord : Nat → Int} (x : Nat) : (backTo n ord n).getD x 0 = ((jN n ord x : Nat) : Int) := by
  have := backTo_nn (n := n) (ord := ord) (k := n) x
  unfold jN; omega
theorem OrdOK.inj {n : Nat} {ord : Nat → Int} (h : OrdOK n ord n) : ∀ i j, i < n → j < n → (ord i).toNat = (ord j).toNat → i = j := fun i j hi hj e => by
  have a := h i hi; have b := h j hj
  rcases Nat.lt_trichotomy i j with h' | h' | h'
  · exact absurd (by omega : ord i = ord j) (b.2.2 i h')
  · exact h'
  · exact absurd (by omega : ord j = ord i) (a.2.2 j h')
theorem OrdOK.lt {n : Nat} {ord : Nat → Int} (h : OrdOK n ord n) : ∀ i, i < n → (ord i).toNat < n := fun i hi => by have := h i hi; omega
theorem jN_ord {n : Nat} {ord : Nat → Int} (h : OrdOK n ord n) {x : Nat} (hx : x < n) : jN n ord x < n ∧ (ord (jN n ord x)).toNat = x := by
  obtain ⟨i, hi, e⟩ := perm_surj h.lt h.inj hx
  have := backTo_get h (Nat.le_refl _) i hi
  rw [e] at this
  have hj : jN n ord x = i := by unfold jN; omega
  rw [hj]; exact ⟨hi, e⟩

/-- A permutation. -/
abbrev PermOK' (pm : Nat → Nat → Int) (t : Nat) : Prop := OkPerm (pm t 0) (pm t 1) (pm t 2) (pm t 3)
/-- inverse(p) after x after q, at k. -/
def cmpI (c pm : Nat → Nat → Int) (J t g i k : Nat) : Int :=
  sel (inv (pm J 0) (pm J 1) (pm J 2) (pm J 3) 0) (inv (pm J 0) (pm J 1) (pm J 2) (pm J 3) 1) (inv (pm J 0) (pm J 1) (pm J 2) (pm J 3) 2) (inv (pm J 0) (pm J 1) (pm J 2) (pm J 3) 3)
    (sel (c t (g * 5 + 1)) (c t (g * 5 + 2)) (c t (g * 5 + 3)) (c t (g * 5 + 4)) (pm i k))
/-- Face f of the new tetrahedron i. -/
def renF (n : Nat) (c : Nat → Nat → Int) (ord : Nat → Int) (pm : Nat → Nat → Int) (i f : Nat) : List Int :=
  if 0 ≤ c (ord i).toNat ((pm i f).toNat * 5) then
    [((jN n ord (c (ord i).toNat ((pm i f).toNat * 5)).toNat : Nat) : Int), cmpI c pm (jN n ord (c (ord i).toNat ((pm i f).toNat * 5)).toNat) (ord i).toNat (pm i f).toNat i 0, cmpI c pm (jN n ord (c (ord i).toNat ((pm i f).toNat * 5)).toNat) (ord i).toNat (pm i f).toNat i 1,
      cmpI c pm (jN n ord (c (ord i).toNat ((pm i f).toNat * 5)).toNat) (ord i).toNat (pm i f).toNat i 2, cmpI c pm (jN n ord (c (ord i).toNat ((pm i f).toNat * 5)).toNat) (ord i).toNat (pm i f).toNat i 3]
  else [c (ord i).toNat ((pm i f).toNat * 5), c (ord i).toNat ((pm i f).toNat * 5 + 1), c (ord i).toNat ((pm i f).toNat * 5 + 2), c (ord i).toNat ((pm i f).toNat * 5 + 3), c (ord i).toNat ((pm i f).toNat * 5 + 4)]
theorem renF_len (n : Nat) (c : Nat → Nat → Int) (ord : Nat → Int) (pm : Nat → Nat → Int) (i f : Nat) : (renF n c ord pm i f).length = 5 := by unfold renF; split <;> rfl
/-- The new gluing. -/
def renC (n : Nat) (c : Nat → Nat → Int) (ord : Nat → Int) (pm : Nat → Nat → Int) (i k : Nat) : Int := (renF n c ord pm i (k / 5)).getD (k % 5) 0

theorem sel_nat {a b c d : Int} (h : OkPerm a b c d) (i : Int) : ((sel a b c d i).toNat : Int) = sel a b c d i := by
  have := (sel_lt h i).1; omega
theorem sel_pm {pm : Nat → Nat → Int} {i k : Nat} (hk : k < 4) : sel (pm i 0) (pm i 1) (pm i 2) (pm i 3) k = pm i k := by
  have h1 : k = 0 ∨ k = 1 ∨ k = 2 ∨ k = 3 := by omega
  rcases h1 with rfl | rfl | rfl | rfl <;> rfl
theorem permOK_iff {pm : Nat → Nat → Int} {i : Nat} (h : PermOK' pm i) : (∀ k, k < 4 → 0 ≤ pm i k ∧ pm i k < 4) ∧ Ok4 fun k => (pm i k).toNat := by
  have h1 : ∀ k, k < 4 → 0 ≤ pm i k ∧ pm i k < 4 := fun k hk => by
    have := sel_lt h k; rwa [sel_pm hk] at this
  refine ⟨h1, fun k hk => by have := h1 k hk; dsimp only; omega, fun j k hj hk e => ?_⟩
  dsimp only at e
  have a := h1 j hj; have b := h1 k hk
  rcases Nat.decEq j k with hne | he
  · exact absurd (by rw [sel_pm hj, sel_pm hk]; omega) (sel_ne h hj hk hne)
  · exact he
theorem inv_perm {a b c d : Int} (h : OkPerm a b c d) : OkPerm (inv a b c d 0) (inv a b c d 1) (inv a b c d 2) (inv a b c d 3) := by
  have key : ∀ a b c d : Fin 4, OkPerm a.1 b.1 c.1 d.1 → OkPerm (inv a.1 b.1 c.1 d.1 0) (inv a.1 b.1 c.1 d.1 1) (inv a.1 b.1 c.1 d.1 2) (inv a.1 b.1 c.1 d.1 3) := by decide
  obtain ⟨a, rfl⟩ : ∃ x : Fin 4, a = x.1 := ⟨⟨a.toNat, by omega⟩, by simp; omega⟩
  obtain ⟨b, rfl⟩ : ∃ x : Fin 4, b = x.1 := ⟨⟨b.toNat, by omega⟩, by simp; omega⟩
  obtain ⟨c, rfl⟩ : ∃ x : Fin 4, c = x.1 := ⟨⟨c.toNat, by omega⟩, by simp; omega⟩
  obtain ⟨d, rfl⟩ : ∃ x : Fin 4, d = x.1 := ⟨⟨d.toNat, by omega⟩, by simp; omega⟩
  exact key a b c d h
theorem sel_inv {a b c d : Int} (h : OkPerm a b c d) {y : Int} (h0 : 0 ≤ y) (h4 : y < 4) : sel a b c d (sel (inv a b c d 0) (inv a b c d 1) (inv a b c d 2) (inv a b c d 3) y) = y := by
  have key : ∀ a b c d y : Fin 4, OkPerm a.1 b.1 c.1 d.1 → sel a.1 b.1 c.1 d.1 (sel (inv a.1 b.1 c.1 d.1 0) (inv a.1 b.1 c.1 d.1 1) (inv a.1 b.1 c.1 d.1 2) (inv a.1 b.1 c.1 d.1 3) y.1) = y.1 := by decide
  obtain ⟨a, rfl⟩ : ∃ x : Fin 4, a = x.1 := ⟨⟨a.toNat, by omega⟩, by simp; omega⟩
  obtain ⟨b, rfl⟩ : ∃ x : Fin 4, b = x.1 := ⟨⟨b.toNat, by omega⟩, by simp; omega⟩
  obtain ⟨c, rfl⟩ : ∃ x : Fin 4, c = x.1 := ⟨⟨c.toNat, by omega⟩, by simp; omega⟩
  obtain ⟨d, rfl⟩ : ∃ x : Fin 4, d = x.1 := ⟨⟨d.toNat, by omega⟩, by simp; omega⟩
  obtain ⟨y, rfl⟩ : ∃ x : Fin 4, y = x.1 := ⟨⟨y.toNat, by omega⟩, by simp; omega⟩
  exact key a b c d y h
theorem sel_comp {a b c d : Int} (h : OkPerm a b c d) {p0 p1 p2 p3 : Int} (hp : OkPerm p0 p1 p2 p3) : OkPerm (sel a b c d p0) (sel a b c d p1) (sel a b c d p2) (sel a b c d p3) := by
  have q : ∀ x y : Int, 0 ≤ x → x < 4 → 0 ≤ y → y < 4 → x ≠ y → sel a b c d x ≠ sel a b c d y := fun x y h0 h1 h2 h3 hne => by
    have := sel_ne h (i := x.toNat) (j := y.toNat) (by omega) (by omega) (by omega)
    rwa [show ((x.toNat : Nat) : Int) = x by omega, show ((y.toNat : Nat) : Int) = y by omega] at this
  obtain ⟨a0, a1, a2, a3, a4, a5, a6, a7, b0, b1, b2, b3, b4, b5⟩ := hp
  have s0 := sel_lt h p0; have s1 := sel_lt h p1; have s2 := sel_lt h p2; have s3 := sel_lt h p3
  exact ⟨s0.1, s0.2, s1.1, s1.2, s2.1, s2.2, s3.1, s3.2, q _ _ a0 a1 a2 a3 b0, q _ _ a0 a1 a4 a5 b1, q _ _ a0 a1 a6 a7 b2, q _ _ a2 a3 a4 a5 b3, q _ _ a2 a3 a6 a7 b4, q _ _ a4 a5 a6 a7 b5⟩

theorem renum_of {n : Nat} {c : Nat → Nat → Int} {ord : Nat → Int} {pm : Nat → Nat → Int} (hg : GlueOK n c) (ho : OrdOK n ord n) (hp : ∀ i, i < n → PermOK' pm i) :
    Renum n c (renC n c ord pm) (fun i => (ord i).toNat) (fun i k => (pm i k).toNat) := by
  have R : ∀ i f j, f < 4 → j < 5 → renC n c ord pm i (f * 5 + j) = (renF n c ord pm i f).getD j 0 := fun i f j hf hj => by
    unfold renC; rw [show (f * 5 + j) / 5 = f by omega, show (f * 5 + j) % 5 = j by omega]
  have G : ∀ i f, i < n → f < 4 → (gl (renC n c ord pm) i f ↔ gl c (ord i).toNat (pm i f).toNat) := fun i f hi hf => by
    unfold gl
    rw [show f * 5 = f * 5 + 0 by omega, R i f 0 hf (by omega)]
    unfold renF
    split
    · rename_i h; exact ⟨fun _ => h, fun _ => by simp⟩
    · rename_i h; simp
  have face : ∀ i f, i < n → f < 4 → FaceOK n c (ord i).toNat (pm i f).toNat := fun i f hi hf => by
    have := ((permOK_iff (hp i hi)).1 f hf)
    exact face_of hg (ho.lt i hi) (by omega)
  refine ⟨ho.lt, ho.inj, fun i hi => (permOK_iff (hp i hi)).2, G, fun i f hi hf h => ?_, fun i f hi hf h => ?_, fun i f hi hf h k hk => ?_⟩
  · have hc : ¬ gl c (ord i).toNat (pm i f).toNat := fun x => h ((G i f hi hf).2 x)
    have hc' : ¬ 0 ≤ c (ord i).toNat ((pm i f).toNat * 5) := hc
    rcases face i f hi hf with ⟨e0, e1, e2, e3, e4⟩ | ⟨e0, _⟩
    · have q0 := R i f 0 hf (by omega); have q1 := R i f 1 hf (by omega); have q2 := R i f 2 hf (by omega); have q3 := R i f 3 hf (by omega); have q4 := R i f 4 hf (by omega)
      unfold renF at q0 q1 q2 q3 q4
      rw [if_neg hc'] at q0 q1 q2 q3 q4
      simp only [Nat.add_zero] at q0
      refine ⟨by rw [q0]; exact e0, by rw [q1]; exact e1, by rw [q2]; exact e2, by rw [q3]; exact e3, by rw [q4]; exact e4⟩
    · exact absurd e0 hc'
  · have hc : 0 ≤ c (ord i).toNat ((pm i f).toNat * 5) := (G i f hi hf).1 h
    have hlt : (c (ord i).toNat ((pm i f).toNat * 5)).toNat < n := by
      rcases face i f hi hf with ⟨e0, _⟩ | ⟨e0, e1, _⟩ <;> omega
    have q0 := R i f 0 hf (by omega)
    unfold renF at q0
    rw [if_pos hc] at q0
    have e : tt (renC n c ord pm) i f = jN n ord (c (ord i).toNat ((pm i f).toNat * 5)).toNat := by
      unfold tt; rw [show f * 5 = f * 5 + 0 by omega, q0]; rfl
    rw [e]
    exact jN_ord ho hlt
  · have hc : 0 ≤ c (ord i).toNat ((pm i f).toNat * 5) := (G i f hi hf).1 h
    rcases face i f hi hf with ⟨e0, _⟩ | ⟨e0, e1, e2, _⟩
    · omega
    · have hlt : (c (ord i).toNat ((pm i f).toNat * 5)).toNat < n := by omega
      have hJ := jN_ord ho hlt
      have q0 := R i f 0 hf (by omega)
      have qk := R i f (k + 1) hf (by omega)
      unfold renF at q0 qk
      rw [if_pos hc] at q0 qk
      have e : tt (renC n c ord pm) i f = jN n ord (c (ord i).toNat ((pm i f).toNat * 5)).toNat := by
        unfold tt; rw [show f * 5 = f * 5 + 0 by omega, q0]; rfl
      have qk' : renC n c ord pm i (f * 5 + 1 + k) = cmpI c pm (jN n ord (c (ord i).toNat ((pm i f).toNat * 5)).toNat) (ord i).toNat (pm i f).toNat i k := by
        rw [show f * 5 + 1 + k = f * 5 + (k + 1) by omega, qk]
        have h1 : k = 0 ∨ k = 1 ∨ k = 2 ∨ k = 3 := by omega
        rcases h1 with rfl | rfl | rfl | rfl <;> rfl
      have hpJ := hp _ hJ.1
      have hpi := (permOK_iff (hp i hi)).1 k hk
      have hs := sel_lt e2 (pm i k)
      have hsi := sel_lt (inv_perm hpJ) (sel (c (ord i).toNat ((pm i f).toNat * 5 + 1)) (c (ord i).toNat ((pm i f).toNat * 5 + 2)) (c (ord i).toNat ((pm i f).toNat * 5 + 3)) (c (ord i).toNat ((pm i f).toNat * 5 + 4)) (pm i k))
      have hb := sel_inv hpJ hs.1 hs.2
      have hcm : ∀ J, cmpI c pm J (ord i).toNat (pm i f).toNat i k = sel (inv (pm J 0) (pm J 1) (pm J 2) (pm J 3) 0) (inv (pm J 0) (pm J 1) (pm J 2) (pm J 3) 1) (inv (pm J 0) (pm J 1) (pm J 2) (pm J 3) 2) (inv (pm J 0) (pm J 1) (pm J 2) (pm J 3) 3) (sel (c (ord i).toNat ((pm i f).toNat * 5 + 1)) (c (ord i).toNat ((pm i f).toNat * 5 + 2)) (c (ord i).toNat ((pm i f).toNat * 5 + 3)) (c (ord i).toNat ((pm i f).toNat * 5 + 4)) (pm i k)) := fun _ => rfl
      refine ⟨by rw [qk', hcm]; exact hsi.1, ?_, ?_⟩
      · unfold pp; rw [qk', hcm]; omega
      · rw [e]
        unfold pp
        rw [qk', hcm]
        generalize sel (inv (pm (jN n ord (c (ord i).toNat ((pm i f).toNat * 5)).toNat) 0) _ _ _ 0) _ _ _ _ = z at hb hsi ⊢
        have hz : z = ((z.toNat : Nat) : Int) := by omega
        rw [hz, sel_pm (by omega)] at hb
        rw [hb]
        have hpk : pm i k = (((pm i k).toNat : Nat) : Int) := by omega
        rw [hpk, sel_at c _ _ (by omega)]
        simp only [Int.toNat_natCast]
end Go.Proofs.YtlkbokbcfajhjaaGreat
