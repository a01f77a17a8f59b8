/- The base of the walks, fourth part: regions that draw their order: a head of operations each of which comes to one value whatever has come before, then a tail in the text's order. -/
import Derived.Test.YtlkbokbcfajhjaaGreatB2
namespace Go.Proofs.Walk
open Go
set_option linter.unusedVariables false
set_option linter.unusedSimpArgs false

/-- What operation i waits for. -/
def depsOf (ops : Array Oper) (i : Nat) : List Nat :=
  match ops[i]? with
  | some o => (o.after.toList.filter fun e => Region.binds .any e).map (·.on)
  | none => []

def dstOf (ops : Array Oper) (i : Nat) : Option Nat := (ops[i]?).bind (·.dst)

def looksOf (ops : Array Oper) (i : Nat) : List Nat :=
  match ops[i]? with
  | some o => (o.op.operands.toList.filterMap fun | .tmp t => some t | _ => none) ++
    (match o.guard with
      | some (g, _) => (dstOf ops g).toList
      | none => [])
  | none => []

/-- The order within the region is as the rule wants it: m operations at the head. -/
def orderB (ops : Array Oper) (m : Nat) : Bool :=
  Nat.ble m ops.size &&
  ((List.range ops.size).all fun i => (depsOf ops i).all fun j => Nat.blt j i) &&
  ((List.range m).all fun i => (dstOf ops i).isSome && (List.range m).all fun k => i == k || dstOf ops i != dstOf ops k) &&
  ((List.range m).all fun i => (looksOf ops i).all fun s => (List.range m).all fun k => dstOf ops k != some s || (Nat.blt k i && (depsOf ops i).elem k)) &&
  (m == ops.size || (((List.range m).all fun i => (List.range (m + 1)).any fun j => Nat.blt i j && (depsOf ops j).elem i) &&
    (List.range ops.size).all fun t => Nat.ble t m || (depsOf ops t).elem (t - 1)))

structure OrderOk (ops : Array Oper) (m : Nat) : Prop where
  le : m ≤ ops.size
  back : ∀ i, i < ops.size → ∀ j ∈ depsOf ops i, j < i
  dst : ∀ i, i < m → ∃ d, dstOf ops i = some d
  apart : ∀ i k, i < m → k < m → i ≠ k → dstOf ops i ≠ dstOf ops k
  reads : ∀ i, i < m → ∀ s ∈ looksOf ops i, ∀ k, k < m → dstOf ops k = some s → k < i ∧ k ∈ depsOf ops i
  sink : m < ops.size → ∀ i, i < m → ∃ j, j ≤ m ∧ i < j ∧ i ∈ depsOf ops j
  chain : m < ops.size → ∀ t, m < t → t < ops.size → t - 1 ∈ depsOf ops t

theorem orderOk {ops : Array Oper} {m : Nat} (h : orderB ops m = true) : OrderOk ops m := by
  unfold orderB at h
  simp only [Bool.and_eq_true] at h
  obtain ⟨⟨⟨⟨h1, h2⟩, h3⟩, h4⟩, h5⟩ := h
  refine ⟨Nat.le_of_ble_eq_true h1, fun i hi j hj => ?_, fun i hi => ?_, fun i k hi hk hne => ?_, fun i hi s hs k hk hd => ?_, fun hm i hi => ?_, fun hm t h1 h2 => ?_⟩
  · have := List.all_eq_true.1 (List.all_eq_true.1 h2 i (List.mem_range.2 hi)) j hj
    exact Nat.le_of_ble_eq_true this
  · have := List.all_eq_true.1 h3 i (List.mem_range.2 hi)
    simp only [Bool.and_eq_true] at this
    exact Option.isSome_iff_exists.1 this.1
  · have := List.all_eq_true.1 h3 i (List.mem_range.2 hi)
    simp only [Bool.and_eq_true] at this
    have h := List.all_eq_true.1 this.2 k (List.mem_range.2 hk)
    simp only [Bool.or_eq_true, beq_iff_eq, bne_iff_ne] at h
    exact h.resolve_left hne
  · have := List.all_eq_true.1 (List.all_eq_true.1 (List.all_eq_true.1 h4 i (List.mem_range.2 hi)) s hs) k (List.mem_range.2 hk)
    simp only [Bool.or_eq_true, bne_iff_ne, Bool.and_eq_true] at this
    rcases this with h | h
    · exact absurd hd h
    · exact ⟨Nat.le_of_ble_eq_true h.1, by simpa using h.2⟩
  · have hne : (m == ops.size) = false := by simp; omega
    rw [hne, Bool.false_or, Bool.and_eq_true] at h5
    obtain ⟨j, hj, hb⟩ := List.any_eq_true.1 (List.all_eq_true.1 h5.1 i (List.mem_range.2 hi))
    simp only [Bool.and_eq_true] at hb
    exact ⟨j, by have := List.mem_range.1 hj; omega, Nat.le_of_ble_eq_true hb.1, by simpa using hb.2⟩
  · have hne : (m == ops.size) = false := by simp; omega
    rw [hne, Bool.false_or, Bool.and_eq_true] at h5
    have := List.all_eq_true.1 h5.2 t (List.mem_range.2 h2)
    simp only [Bool.or_eq_true] at this
    rcases this with h | h
    · have := Nat.le_of_ble_eq_true h; omega
    · simpa using h

section
variable {P : Program} {r : Option Nat} {n : Nat} {ds : List Deferred} {W0 : World} {M : List Nat} {ops : Array Oper} {Q : Exit → Act → World → Prop} {l : List (Nat × Value)} {hs : List (Nat × Obj)} {Inv : World → Prop}

/-- An operation that comes to v, wherever it is carried out among its fellows. -/
structure OpQ (P : Program) (n : Nat) (Inv : World → Prop) (ops : Array Oper) (lk : List (Nat × Value)) (i : Nat) (v : Value) : Prop where
  here : ∃ o d, ops[i]? = some o ∧ o.dst = some d ∧ d < n ∧
    ((wantedL ops lk o = some false ∧ v = undef) ∨
     (wantedL ops lk o = some true ∧ known lk o.op = true ∧ ∀ W, Inv W → (execOp (evD lk) o).run P W = .ok (.value v) W) ∨
     (wantedL ops lk o = some true ∧ known lk o.op = true ∧ ∃ f args, (∀ W : World, (execOp (evD lk) o).run P W = .ok (.enter f args) W) ∧
       ∀ W, Inv W → Calls P f args W fun e W' => e = .returned v ∧ Inv W'))

theorem OpQ.step {lk : List (Nat × Value)} {i : Nat} {v : Value} (h : OpQ P n Inv ops lk i v) {a : Act} {W : World} (ha : Agree n ds lk a) (hR : Inv W) {K : Act → World → Prop}
    (hK : ∀ d W', dstOf ops i = some d → d < n → Inv W' → K (a.put (some d) v) W') : wpOpIn (FR r) 0 P ops Q i K a W := by
  obtain ⟨o, d, ho, hd, hdn, h⟩ := h.here
  have hdst : dstOf ops i = some d := by simp [dstOf, ho, hd]
  unfold wpOpIn
  rw [ho]
  rcases h with ⟨hw, hv⟩ | ⟨hw, hk, hrun⟩ | ⟨hw, hk, f, args, hrun, hc⟩
  · simp only [wantedL_spec hw ha, Bool.false_eq_true, if_false]
    rw [hd, ← hv]
    exact ⟨fun _ _ => trivial, hK d W hdst hdn hR⟩
  · simp only [wantedL_spec hw ha, if_true]
    refine ⟨fun _ _ => trivial, ?_⟩
    rw [known_sem hk ha, hrun W hR, Oper.uponIn_value, hd]
    exact hK d W hdst hdn hR
  · simp only [wantedL_spec hw ha, if_true]
    refine ⟨fun _ _ => trivial, ?_⟩
    rw [known_sem hk ha, hrun W, Oper.uponIn_enter]
    refine ⟨FR_depth, callsFR.2 ((hc W hR).mono fun e W' ⟨he, hR'⟩ => ?_)⟩
    subst he
    show K (a.put o.dst v) W'
    rw [hd]
    exact hK d W' hdst hdn hR'

/-- The frame when the first operations have left their values, in the text's order. -/
def lexL (ops : Array Oper) : List (Nat × Value) → Nat → List Value → List (Nat × Value)
  | l, _, [] => l
  | l, i, v :: vs => lexL ops (setL l ((dstOf ops i).getD 0) v) (i + 1) vs

/-- Each of the head's operations comes to its value. -/
def QAll (P : Program) (n : Nat) (Inv : World → Prop) (ops : Array Oper) : List (Nat × Value) → Nat → List Value → Prop
  | _, _, [] => True
  | l, i, v :: vs => OpQ P n Inv ops (keepL (looksOf ops i) l) i v ∧ QAll P n Inv ops (setL l ((dstOf ops i).getD 0) v) (i + 1) vs

theorem QAll.get : ∀ {vs : List Value} {l : List (Nat × Value)} {i : Nat}, QAll P n Inv ops l i vs → ∀ j v, vs[j]? = some v → OpQ P n Inv ops (keepL (looksOf ops (i + j)) (lexL ops l i (vs.take j))) (i + j) v
  | [], _, _, _, j, v, h => by simp at h
  | u :: vs, l, i, h, 0, v, hj => by simp at hj; subst hj; exact h.1
  | u :: vs, l, i, h, j + 1, v, hj => by
    have := QAll.get h.2 j v (by simpa using hj)
    rw [show i + 1 + j = i + (j + 1) by omega] at this
    simpa [lexL] using this

theorem lexL_take : ∀ (vs : List Value) (l : List (Nat × Value)) (i j : Nat) (v : Value), vs[j]? = some v → lexL ops l i (vs.take (j + 1)) = setL (lexL ops l i (vs.take j)) ((dstOf ops (i + j)).getD 0) v
  | [], _, _, _, _, h => by simp at h
  | u :: vs, l, i, 0, v, h => by simp at h; subst h; simp [lexL]
  | u :: vs, l, i, j + 1, v, h => by
    have := lexL_take vs (setL l ((dstOf ops i).getD 0) u) (i + 1) j v (by simpa using h)
    rw [show i + 1 + j = i + (j + 1) by omega] at this
    simpa [lexL] using this

/-- Where a known slot of the lexical frame comes from. -/
theorem look_lexL {m : Nat} (hok : OrderOk ops m) {vs : List Value} (hlen : vs.length = m) : ∀ (j : Nat), j ≤ m → ∀ s v, look (lexL ops l 0 (vs.take j)) s = some v →
    (∃ k, k < j ∧ dstOf ops k = some s ∧ vs[k]? = some v) ∨ ((∀ k, k < j → dstOf ops k ≠ some s) ∧ look l s = some v)
  | 0, _, s, v, h => .inr ⟨fun k hk => by omega, by simpa [lexL] using h⟩
  | j + 1, hj, s, v, h => by
    have hlt : j < vs.length := by omega
    rw [lexL_take vs l 0 j vs[j] (List.getElem?_eq_getElem hlt), Nat.zero_add, look_setL] at h
    obtain ⟨d, hd⟩ := hok.dst j (by omega)
    rw [hd, Option.getD_some] at h
    by_cases hds : d = s
    · subst hds
      rw [if_pos rfl] at h
      exact .inl ⟨j, by omega, hd, by rw [List.getElem?_eq_getElem hlt]; exact h⟩
    · rw [if_neg hds] at h
      rcases look_lexL hok hlen j (by omega) s v h with ⟨k, hk, h1, h2⟩ | ⟨h1, h2⟩
      · exact .inl ⟨k, by omega, h1, h2⟩
      · refine .inr ⟨fun k hk => ?_, h2⟩
        by_cases hkj : k = j
        · subst hkj; rw [hd]; exact fun e => hds (Option.some.inj e)
        · exact h1 k (by omega)

/-- A frame in which some of the head's operations have left their values. -/
structure Filled (n : Nat) (ds : List Deferred) (ops : Array Oper) (m : Nat) (l : List (Nat × Value)) (vs : List Value) (listed : Array Bool) (a : Act) : Prop where
  size : a.tmps.size = n
  defers : a.defers = ds
  done : ∀ k, k < m → listed.getD k false = true → ∀ d v, dstOf ops k = some d → vs[k]? = some v → a.tmps[d]? = some v
  old : ∀ s v, (∀ k, k < m → listed.getD k false = true → dstOf ops k ≠ some s) → look l s = some v → a.tmps[s]? = some v

theorem deps_ready {i : Nat} {listed : Array Bool} (h : i ∈ Region.ready .any ops listed) : listed.getD i true = false ∧ i < ops.size ∧ ∀ j ∈ depsOf ops i, listed.getD j false = true := by
  obtain ⟨h1, o, ho, h2⟩ := mem_ready.1 h
  refine ⟨h1, (Array.getElem?_eq_some_iff.1 ho).1, fun j hj => ?_⟩
  simp only [depsOf, ho, List.mem_map, List.mem_filter] at hj
  obtain ⟨e, ⟨he, hb⟩, rfl⟩ := hj
  exact h2 e (by simpa using he) hb

theorem ready_of {i : Nat} {listed : Array Bool} (hi : i < ops.size) (h1 : listed.getD i true = false) (h2 : ∀ j ∈ depsOf ops i, listed.getD j false = true) : i ∈ Region.ready .any ops listed := by
  refine mem_ready.2 ⟨h1, ops[i], Array.getElem?_eq_getElem hi, fun e he hb => h2 e.on ?_⟩
  simp only [depsOf, Array.getElem?_eq_getElem hi, List.mem_map, List.mem_filter]
  exact ⟨e, ⟨by simpa using he, hb⟩, rfl⟩

theorem getD_set {listed : Array Bool} {i j : Nat} {x y : Bool} (hi : i < listed.size) : (listed.setIfInBounds i x).getD j y = if i = j then x else listed.getD j y := by
  simp only [Array.getD_eq_getD_getElem?, Array.getElem?_setIfInBounds]
  by_cases h : i = j
  · subst h; simp [hi]
  · simp [h]

theorem getD_bool {listed : Array Bool} {i : Nat} (hi : i < listed.size) (x y : Bool) : listed.getD i x = listed.getD i y := by
  simp [hi]

/-- What holds while the order is picked. -/
structure Picked (ops : Array Oper) (m fuel : Nat) (listed : Array Bool) : Prop where
  size : listed.size = ops.size
  closed : ∀ i, i < ops.size → listed.getD i false = true → ∀ j ∈ depsOf ops i, listed.getD j false = true
  count : fuel + (List.range ops.size).countP (fun j => listed.getD j false) = ops.size
  tail : ∀ t, m ≤ t → t < ops.size → listed.getD t false = true → ∀ k, k < t → listed.getD k false = true

theorem countP_set {listed : Array Bool} {i N : Nat} (hi : i < N) (hs : listed.size = N) (h0 : listed.getD i false = false) :
    (List.range N).countP (fun j => (listed.setIfInBounds i true).getD j false) = (List.range N).countP (fun j => listed.getD j false) + 1 := by
  have key : ∀ K, K ≤ N → (List.range K).countP (fun j => (listed.setIfInBounds i true).getD j false) = (List.range K).countP (fun j => listed.getD j false) + if i < K then 1 else 0 := by
    intro K
    induction K with
    | zero => intro _; simp
    | succ K ih =>
      intro hK
      rw [List.range_succ, List.countP_append, List.countP_append, ih (by omega)]
      simp only [List.countP_cons, List.countP_nil, getD_set (by omega : i < listed.size)]
      by_cases hiK : i = K
      · subst hiK; simp [h0]
      · by_cases hlt : i < K
        · have : i < K + 1 := by omega
          simp [hiK, hlt, this]; omega
        · have : ¬ i < K + 1 := by omega
          simp [hiK, hlt, this]
  have := key N (Nat.le_refl _)
  rw [if_pos hi] at this
  exact this

theorem countP_all {N : Nat} {p : Nat → Bool} (h : (List.range N).countP p = N) : ∀ i, i < N → p i = true := by
  have := List.countP_eq_length.1 (by rw [h, List.length_range] : (List.range N).countP p = (List.range N).length)
  exact fun i hi => this i (List.mem_range.2 hi)

theorem least_ready {m fuel : Nat} (hok : OrderOk ops m) {listed : Array Bool} (hp : Picked ops m fuel listed) (hr : Region.ready .any ops listed = []) : ∀ i, i < ops.size → listed.getD i false = true := by
  intro i
  induction i using Nat.strongRecOn with
  | _ i ih =>
    intro hi
    cases h : listed.getD i false with
    | true => rfl
    | false =>
      exfalso
      have hm : i ∈ Region.ready .any ops listed := ready_of hi (by rw [getD_bool (by rw [hp.size]; exact hi) true false]; exact h)
        fun j hj => ih j (hok.back i hi j hj) (Nat.lt_trans (hok.back i hi j hj) hi)
      rw [hr] at hm; cases hm

/-- If one that belongs to the tail may come up, all ahead of it are done. -/
theorem tail_after {m fuel : Nat} (hok : OrderOk ops m) {listed : Array Bool} (hp : Picked ops m fuel listed) {t : Nat} (ht : m ≤ t) (hr : t ∈ Region.ready .any ops listed) : ∀ k, k < t → listed.getD k false = true := by
  obtain ⟨h1, h2, h3⟩ := deps_ready hr
  have hm : m < ops.size := by omega
  by_cases htm : t = m
  · subst htm
    have key : ∀ d k, t - k = d → k < t → listed.getD k false = true := by
      intro d
      induction d using Nat.strongRecOn with
      | _ d ih =>
        intro k hd hk
        obtain ⟨j, hj1, hj2, hj3⟩ := hok.sink hm k hk
        by_cases hjt : j = t
        · subst hjt; exact h3 k hj3
        · exact hp.closed j (by omega) (ih (t - j) (by omega) j rfl (by omega)) k hj3
    exact fun k hk => key _ k rfl hk
  · have h4 := h3 (t - 1) (hok.chain hm t (by omega) h2)
    intro k hk
    by_cases hkt : k = t - 1
    · rw [hkt]; exact h4
    · exact hp.tail (t - 1) (by omega) (by omega) h4 k (by omega)

theorem Picked.set {m fuel i : Nat} (hok : OrderOk ops m) {listed : Array Bool} (hp : Picked ops m (fuel + 1) listed) (hr : i ∈ Region.ready .any ops listed) : Picked ops m fuel (listed.setIfInBounds i true) := by
  obtain ⟨h1, h2, h3⟩ := deps_ready hr
  have hil : i < listed.size := by rw [hp.size]; exact h2
  have h0 : listed.getD i false = false := by rw [getD_bool hil false true]; exact h1
  refine ⟨by simp [hp.size], fun k hk hl j hj => ?_, ?_, fun t ht ht2 hl k hk => ?_⟩
  · rw [getD_set hil] at hl ⊢
    split
    · rfl
    · by_cases hik : i = k
      · subst hik; exact h3 j hj
      · rw [if_neg hik] at hl; exact hp.closed k hk hl j hj
  · have := hp.count
    rw [countP_set h2 hp.size h0]; omega
  · rw [getD_set hil] at hl ⊢
    split
    · rfl
    · by_cases hit : i = t
      · subst hit; exact tail_after hok hp ht hr k hk
      · rw [if_neg hit] at hl; exact hp.tail t ht ht2 hl k hk

/-- The tail, one behind the other. -/
theorem any_tail {m : Nat} (hok : OrderOk ops m) : ∀ (fuel k : Nat) (listed : Array Bool) (a : Act) (W : World), Picked ops m fuel listed → m ≤ k → fuel + k = ops.size → (∀ j, listed.getD j false = true ↔ j < k) →
    wpOpsIn (FR r) 0 P ops Q (List.range' k fuel) a W → wpAnyIn (FR r) 0 P .any ops Q fuel listed a W
  | 0, k, listed, a, W, hp, hk, he, hl, h => by
    refine ⟨?_, by simpa [wpOpsIn] using h⟩
    cases hr : Region.ready .any ops listed with
    | nil => rfl
    | cons j js =>
      have hj : j ∈ Region.ready .any ops listed := by rw [hr]; simp
      obtain ⟨h1, h2, _⟩ := deps_ready hj
      have := (hl j).2 (by omega)
      rw [getD_bool (by rw [hp.size]; exact h2) false true, h1] at this
      cases this
  | fuel + 1, k, listed, a, W, hp, hk, he, hl, h => by
    have hks : k < ops.size := by omega
    have hkl : k < listed.size := by rw [hp.size]; exact hks
    have hkf : listed.getD k false = false := by
      cases hx : listed.getD k false with
      | false => rfl
      | true => have := (hl k).1 hx; omega
    have hkr : k ∈ Region.ready .any ops listed := ready_of hks (by rw [getD_bool hkl true false]; exact hkf) fun j hj => (hl j).2 (hok.back k hks j hj)
    refine ⟨fun h0 => (by rw [h0] at hkr; cases hkr), fun i hi => ?_⟩
    have hik : i = k := by
      obtain ⟨h1, h2, h3⟩ := deps_ready hi
      rcases Nat.lt_trichotomy i k with hlt | heq | hgt
      · have := (hl i).2 hlt
        rw [getD_bool (by rw [hp.size]; exact h2) false true, h1] at this; cases this
      · exact heq
      · have h4 := tail_after hok hp (by omega) hi k hgt
        rw [hkf] at h4; cases h4
    subst hik
    rw [List.range'_succ, wpOpsIn_cons] at h
    refine wpOpIn_mono (fun a' W' h' => any_tail hok fuel (i + 1) _ a' W' (hp.set hok hi) (by omega) (by omega) (fun j => ?_) h') h
    rw [getD_set hkl]
    by_cases hij : i = j
    · rw [if_pos hij]; simp; omega
    · rw [if_neg hij, hl j]; omega

theorem any_head {m : Nat} (hok : OrderOk ops m) {vs : List Value} (hlen : vs.length = m) (hq : QAll P n Inv ops l 0 vs)
    (hend : ∀ a W, Agree n ds (lexL ops l 0 vs) a → Inv W → wpOpsIn (FR r) 0 P ops Q (List.range' m (ops.size - m)) a W) :
    ∀ (fuel : Nat) (listed : Array Bool) (a : Act) (W : World), Picked ops m fuel listed → (∀ j, m ≤ j → listed.getD j false = false) → Filled n ds ops m l vs listed a → Inv W → wpAnyIn (FR r) 0 P .any ops Q fuel listed a W := by
  have full : ∀ (fuel : Nat) (listed : Array Bool) (a : Act) (W : World), Picked ops m fuel listed → (∀ j, m ≤ j → listed.getD j false = false) → (∀ j, j < m → listed.getD j false = true) →
      Filled n ds ops m l vs listed a → Inv W → wpAnyIn (FR r) 0 P .any ops Q fuel listed a W := by
    intro fuel listed a W hp hge hlt hf hR
    have hiff : ∀ j, listed.getD j false = true ↔ j < m := by
      intro j
      refine ⟨fun h => ?_, hlt j⟩
      rcases Nat.lt_or_ge j m with h' | h'
      · exact h'
      · rw [hge j h'] at h; cases h
    have hcnt : (List.range ops.size).countP (fun j => listed.getD j false) = m := by
      have key : ∀ K, (List.range K).countP (fun j => listed.getD j false) = min K m := by
        intro K
        induction K with
        | zero => simp
        | succ K ih =>
          rw [List.range_succ, List.countP_append, ih]
          by_cases hK : K < m
          · rw [Nat.min_eq_left (by omega), Nat.min_eq_left (by omega), List.countP_cons, hlt K hK]; simp
          · rw [Nat.min_eq_right (by omega), Nat.min_eq_right (by omega), List.countP_cons, hge K (by omega)]; simp
      rw [key, Nat.min_eq_right hok.le]
    have hfu : fuel = ops.size - m := by have := hp.count; omega
    refine any_tail hok fuel m listed a W hp (Nat.le_refl _) (by have := hok.le; omega) hiff ?_
    rw [hfu]
    refine hend a W ⟨hf.size, hf.defers, fun s v hs => ?_⟩ hR
    have hs' : look (lexL ops l 0 (vs.take m)) s = some v := by rw [← hlen, List.take_length]; exact hs
    rcases look_lexL hok hlen m (Nat.le_refl _) s v hs' with ⟨k, hk, h1, h2⟩ | ⟨h1, h2⟩
    · exact hf.done k hk (hlt k hk) s v h1 h2
    · exact hf.old s v (fun k hk _ => h1 k hk) h2
  intro fuel
  induction fuel with
  | zero =>
    intro listed a W hp hge hf hR
    refine full 0 listed a W hp hge (fun j hj => ?_) hf hR
    have hc := hp.count
    rw [Nat.zero_add] at hc
    exact countP_all hc j (Nat.lt_of_lt_of_le hj hok.le)
  | succ fuel ih =>
    intro listed a W hp hge hf hR
    by_cases hall : ∀ j, j < m → listed.getD j false = true
    · exact full _ listed a W hp hge hall hf hR
    · refine ⟨fun h0 => absurd (fun j hj => least_ready hok hp h0 j (by have := hok.le; omega)) hall, fun i hi => ?_⟩
      obtain ⟨h1, h2, h3⟩ := deps_ready hi
      have hil : i < listed.size := by rw [hp.size]; exact h2
      have hif : listed.getD i false = false := by rw [getD_bool hil false true]; exact h1
      have him : i < m := by
        rcases Nat.lt_or_ge i m with h | h
        · exact h
        · exact absurd (fun j hj => tail_after hok hp h hi j (by omega)) hall
      have hvi : i < vs.length := by omega
      have hv : vs[i]? = some vs[i] := List.getElem?_eq_getElem hvi
      have hop := hq.get i vs[i] hv
      rw [Nat.zero_add] at hop
      have hag : Agree n ds (keepL (looksOf ops i) (lexL ops l 0 (vs.take i))) a := by
        refine ⟨hf.size, hf.defers, fun s v hs => ?_⟩
        have hmem : s ∈ looksOf ops i := by
          clear hf hop
          generalize lexL ops l 0 (vs.take i) = L at hs
          induction L with
          | nil => cases hs
          | cons p L ihL =>
            obtain ⟨e, u⟩ := p
            unfold keepL at hs
            split at hs
            · rename_i he
              unfold look at hs
              split at hs
              · rename_i hb; rw [← Nat.eq_of_beq_eq_true hb]; simpa using he
              · exact ihL hs
            · exact ihL hs
        rcases look_lexL hok hlen i (by omega) s v (look_keepL hs) with ⟨k, hk, hd, hvk⟩ | ⟨hno, hl0⟩
        · have hkm : k < m := by omega
          exact hf.done k hkm (h3 k (hok.reads i him s hmem k hkm hd).2) s v hd hvk
        · refine hf.old s v (fun k hkm hkl hd => ?_) hl0
          exact hno k (hok.reads i him s hmem k hkm hd).1 hd
      refine hop.step hag hR fun d W' hd hdn hR' => ?_
      refine ih (listed.setIfInBounds i true) (a.put (some d) vs[i]) W' (hp.set hok hi) (fun j hj => ?_) ?_ hR'
      · rw [getD_set hil, if_neg (by omega)]; exact hge j hj
      · refine ⟨by simp [Act.put, hf.size], by simp [Act.put, hf.defers], fun k hkm hkl e v hde hvk => ?_, fun s v hno hl0 => ?_⟩
        · simp only [Act.put, Array.getElem?_setIfInBounds]
          by_cases hik : i = k
          · subst hik
            rw [hd] at hde
            cases hde
            rw [hv] at hvk
            cases hvk
            have : d < a.tmps.size := by rw [hf.size]; exact hdn
            simp [this]
          · rw [getD_set hil, if_neg hik] at hkl
            have hne : d ≠ e := fun h => hok.apart i k him hkm hik (by rw [hd, hde, h])
            rw [if_neg hne]
            exact hf.done k hkm hkl e v hde hvk
        · simp only [Act.put, Array.getElem?_setIfInBounds]
          have hne : d ≠ s := fun h => hno i him (by rw [getD_set hil, if_pos rfl]) (by rw [hd, h])
          rw [if_neg hne]
          refine hf.old s v (fun k hkm hkl => hno k hkm ?_) hl0
          rw [getD_set hil]; split
          · rfl
          · exact hkl

/-- A region that draws its order; the head keeps Inv. -/
theorem tri_drawI {id : Nat} (m : Nat) (vs : List Value) {todo : List Nat} {l' : List (Nat × Value)} (hm : P.follows .mixedOrders = true) (hB : orderB ops m = true) (hlen : Nat.beq vs.length m = true)
    (hq : QAll P n Inv ops l 0 vs) (hl' : lexL ops l 0 vs = l') (ht : List.range' m (ops.size - m) = todo)
    (h0 : ∀ W, Rep W0 M hs W → Inv W) (hend : ∀ a W, Agree n ds l' a → Inv W → wpOpsIn (FR r) 0 P ops Q todo a W) : Tri P r n ds W0 M (.region id ops true) Q l hs := by
  subst hl'
  intro a W ha hR
  have hok := orderOk hB
  refine wpIn_region_any hm (any_head (ds := ds) hok (Nat.eq_of_beq_eq_true hlen) hq (fun a W h1 h2 => by rw [ht]; exact hend a W h1 h2) _ _ _ _ ⟨by simp, fun i hi h => ?_, ?_, fun t _ _ h => ?_⟩ (fun j _ => ?_) ⟨ha.size, ha.defers, fun k hk h => ?_, fun s v _ h => ha.slot s v h⟩ (h0 _ (hR.drawn _)))
  · simp [Array.getElem?_replicate] at h; split at h <;> simp_all
  · have : (List.range ops.size).countP (fun j => (Array.replicate ops.size false).getD j false) = 0 := by
      rw [List.countP_eq_zero]; intro j hj; simp [Array.getElem?_replicate]; split <;> simp
    omega
  · simp [Array.getElem?_replicate] at h; split at h <;> simp_all
  · simp [Array.getElem?_replicate]; split <;> simp
  · simp [Array.getElem?_replicate] at h; split at h <;> simp_all

theorem tri_draw {id : Nat} (m : Nat) (vs : List Value) {todo : List Nat} {l' : List (Nat × Value)} (hm : P.follows .mixedOrders = true) (hB : orderB ops m = true) (hlen : Nat.beq vs.length m = true)
    (hq : QAll P n (Rep W0 M hs) ops l 0 vs) (hl' : lexL ops l 0 vs = l') (ht : List.range' m (ops.size - m) = todo)
    (hend : OpsT P r n ds W0 M ops Q todo l' hs) : Tri P r n ds W0 M (.region id ops true) Q l hs := tri_drawI m vs hm hB hlen hq hl' ht (fun _ h => h) hend

/-! ### the head's operations, kind by kind -/

/-- A run of the head's operations that only reckon. -/
def segQ (P : Program) (n : Nat) (ops : Array Oper) : List How → List (Nat × Value) → Nat → Option (List (Nat × Value) × List Value × List Prop)
  | [], l, _ => some (l, [], [])
  | h :: js, l, i =>
    match ops[i]? with
    | none => none
    | some o =>
      match o.dst with
      | none => none
      | some d =>
        if Nat.blt d n then
          match h with
          | .no =>
            match wantedL ops (keepL (looksOf ops i) l) o with
            | some false => (segQ P n ops js (setL l d undef) (i + 1)).map fun (l', vs, obl) => (l', undef :: vs, obl)
            | _ => none
          | h =>
            match wantedL ops (keepL (looksOf ops i) l) o, known (keepL (looksOf ops i) l) o.op, reckon P (keepL (looksOf ops i) l) h o with
            | some true, true, some (v, obl) => (segQ P n ops js (setL l d v) (i + 1)).map fun (l', vs, obl') => (l', v :: vs, obl ++ obl')
            | _, _, _ => none
        else none

theorem qall_seg : ∀ (js : List How) {l l' : List (Nat × Value)} {i : Nat} {vs vs' : List Value} {obl : List Prop} (_ : segQ P n ops js l i = some (l', vs, obl)) (_ : AllP obl)
    (_ : QAll P n Inv ops l' (i + js.length) vs'), QAll P n Inv ops l i (vs ++ vs')
  | [], l, l', i, vs, vs', obl, h, _, k => by cases h; exact k
  | hw :: js, l, l', i, vs, vs', obl, h, hp, k => by
    unfold segQ at h
    split at h
    · cases h
    · rename_i o ho
      split at h
      · cases h
      · rename_i d hd
        have hdst : dstOf ops i = some d := by simp [dstOf, ho, hd]
        have hi : i + (hw :: js).length = i + 1 + js.length := by simp; omega
        rw [hi] at k
        split at h
        · rename_i hdn
          have hdn' : d < n := Nat.le_of_ble_eq_true hdn
          split at h
          · split at h
            · rename_i hwant
              obtain ⟨⟨l2, vs2, ob2⟩, h2, he⟩ := Option.map_eq_some_iff.1 h
              cases he
              refine ⟨⟨o, d, ho, hd, hdn', .inl ⟨hwant, rfl⟩⟩, ?_⟩
              rw [hdst]
              exact qall_seg js h2 hp k
            · cases h
          · split at h
            · rename_i v ob hwant hk hr
              obtain ⟨⟨l2, vs2, ob2⟩, h2, he⟩ := Option.map_eq_some_iff.1 h
              cases he
              refine ⟨⟨o, d, ho, hd, hdn', .inr (.inl ⟨hwant, hk, fun W _ => reckon_run hr hp.left W⟩)⟩, ?_⟩
              rw [hdst]
              exact qall_seg js h2 hp.right k
            · cases h
        · cases h

theorem opQ_loadBase {lk : List (Nat × Value)} {i d : Nat} {o : Oper} {t : TypeId} {x : Operand} (b off : Nat) (vs : List Value) {v : Value}
    (ho : ops[i]? = some o) (hw : wantedL ops lk o = some true) (hk : known lk o.op = true) (hd : o.dst = some d) (hdn : Nat.blt d n = true)
    (hop : o.op = .load t x) (hx : ev lk x = some (.pointer (some ⟨b, off, none⟩))) (hl : loaded P t vs = some v) (hb : b ∉ M) (hc : Cells W0 b off vs) : OpQ P n (Rep W0 M hs) ops lk i v :=
  ⟨o, d, ho, hd, Nat.le_of_ble_eq_true hdn, .inr (.inl ⟨hw, hk, fun _ hR => run_load hop hx hl (hc.base hR hb)⟩)⟩

theorem opQ_loadOwn {lk : List (Nat × Value)} {i d : Nat} {o : Oper} {t : TypeId} {x : Operand} (k : Nat) (b off m : Nat) (c : Array Value) (e : TypeId) (fz : Nat × Nat) {v : Value}
    (ho : ops[i]? = some o) (hw : wantedL ops lk o = some true) (hk : known lk o.op = true) (hd : o.dst = some d) (hdn : Nat.blt d n = true)
    (hop : o.op = .load t x) (hx : ev lk x = some (.pointer (some ⟨b, off, none⟩))) (hh : hs[k]? = some (b, .cells c e fz)) (hl : loaded P t (c.extract off (off + m)).toList = some v) : OpQ P n (Rep W0 M hs) ops lk i v :=
  ⟨o, d, ho, hd, Nat.le_of_ble_eq_true hdn, .inr (.inl ⟨hw, hk, fun _ hR => run_load hop hx hl (cells_own (hR.own _ _ (List.mem_of_getElem? hh)))⟩)⟩

theorem opQ_callx {lk : List (Nat × Value)} {i d : Nat} {o : Oper} {f : FuncId} {args : Array Value} {v : Value}
    (ho : ops[i]? = some o) (hw : wantedL ops lk o = some true) (hk : known lk o.op = true) (hd : o.dst = some d) (hdn : Nat.blt d n = true)
    (hrun : ∀ W : World, (execOp (evD lk) o).run P W = .ok (.enter f args) W) (hc : ∀ W, Rep W0 M hs W → Calls P f args W fun e W' => e = .returned v ∧ Ext W W') : OpQ P n (Rep W0 M hs) ops lk i v :=
  ⟨o, d, ho, hd, Nat.le_of_ble_eq_true hdn, .inr (.inr ⟨hw, hk, f, args, hrun, fun W hR => (hc W hR).mono fun e W' ⟨he, hx⟩ => ⟨he, hR.extend hx⟩⟩)⟩

/-- A whole head at once: what is not reckoned (none) has a value that is told; what each of these looks at comes out. -/
def segW (P : Program) (n : Nat) (ops : Array Oper) : List (Option How) → List Value → List (Nat × Value) → Nat → Option (List Value × List (Nat × List (Nat × Value) × Value) × List Prop)
  | [], _, _, _ => some ([], [], [])
  | none :: js, v :: ws, l, i => (segW P n ops js ws (setL l ((dstOf ops i).getD 0) v) (i + 1)).map fun p => (v :: p.1, (i, keepL (looksOf ops i) l, v) :: p.2.1, p.2.2)
  | none :: _, [], _, _ => none
  | some h :: js, ws, l, i =>
    match segQ P n ops [h] l i with
    | some (l', [v], ob) => (segW P n ops js ws l' (i + 1)).map fun p => (v :: p.1, p.2.1, ob ++ p.2.2)
    | _ => none
def AllQ (P : Program) (n : Nat) (Inv : World → Prop) (ops : Array Oper) : List (Nat × List (Nat × Value) × Value) → Prop
  | [] => True
  | x :: xs => OpQ P n Inv ops x.2.1 x.1 x.2.2 ∧ AllQ P n Inv ops xs
theorem aq0 : AllQ P n Inv ops [] := trivial
theorem aq {i : Nat} {lk : List (Nat × Value)} {v : Value} {xs : List (Nat × List (Nat × Value) × Value)} (h : OpQ P n Inv ops lk i v) (k : AllQ P n Inv ops xs) : AllQ P n Inv ops ((i, lk, v) :: xs) := ⟨h, k⟩
theorem qallW : ∀ (js : List (Option How)) (ws : List Value) {l : List (Nat × Value)} {i : Nat} {vs : List Value} (Wl : List (Nat × List (Nat × Value) × Value)) (obl : List Prop) (_ : segW P n ops js ws l i = some (vs, Wl, obl)) (_ : AllP obl) (_ : AllQ P n Inv ops Wl), QAll P n Inv ops l i vs
  | [], _, l, i, vs, Wl, obl, h, _, _ => by
    unfold segW at h
    cases h
    exact trivial
  | none :: js, [], l, i, vs, Wl, obl, h, _, _ => by simp [segW] at h
  | none :: js, v :: ws, l, i, vs, Wl, obl, h, hp, hq => by
    unfold segW at h
    obtain ⟨⟨vs2, W2, ob2⟩, h2, he⟩ := Option.map_eq_some_iff.1 h
    cases he
    exact ⟨hq.1, qallW js ws W2 ob2 h2 hp hq.2⟩
  | some hw :: js, ws, l, i, vs, Wl, obl, h, hp, hq => by
    unfold segW at h
    split at h
    · rename_i l' v ob hs
      obtain ⟨⟨vs2, W2, ob2⟩, h2, he⟩ := Option.map_eq_some_iff.1 h
      cases he
      exact qall_seg [hw] (vs' := vs2) hs hp.left (qallW js ws W2 ob2 h2 hp.right hq)
    · cases h
theorem qall_segN (js : List How) {l' : List (Nat × Value)} {i : Nat} {us : List Value} {obl : List Prop} (h : segQ P n ops js l i = some (l', us.take js.length, obl)) (hp : AllP obl)
    (k : QAll P n Inv ops l' (i + js.length) (us.drop js.length)) : QAll P n Inv ops l i us := by
  have := qall_seg js (vs' := us.drop js.length) h hp k
  rwa [List.take_append_drop] at this
theorem qall_cons {i : Nat} {v : Value} {vs : List Value} (h : OpQ P n Inv ops (keepL (looksOf ops i) l) i v) (k : QAll P n Inv ops (setL l ((dstOf ops i).getD 0) v) (i + 1) vs) : QAll P n Inv ops l i (v :: vs) := ⟨h, k⟩
theorem qall_nil {i : Nat} : QAll P n Inv ops l i [] := trivial

/-! ### a block of ints -/

/-- A block that holds the ints xs. -/
def intsB (xs : List Int) (t : TypeId) : Obj := .cells (xs.map (Value.int .i64)).toArray t (0, 0)

theorem tri_heq {c : Code} {hs' : List (Nat × Obj)} (h : hs = hs') (k : Tri P r n ds W0 M c Q l hs') : Tri P r n ds W0 M c Q l hs := by subst h; exact k
theorem opsT_heq {todo : List Nat} {hs' : List (Nat × Obj)} (h : hs = hs') (k : OpsT P r n ds W0 M ops Q todo l hs') : OpsT P r n ds W0 M ops Q todo l hs := by subst h; exact k
theorem opsT_leq {todo : List Nat} {l' : List (Nat × Value)} (h : l = l') (k : OpsT P r n ds W0 M ops Q todo l' hs) : OpsT P r n ds W0 M ops Q todo l hs := by subst h; exact k

/-- The m ints from off on. -/
def getInts (xs : List Int) (off m : Nat) : List Value := (List.range m).map fun j => Value.int .i64 (xs.getD (off + j) 0)

theorem cells_ints {W : World} {b off m : Nat} {xs : List Int} {t : TypeId} (h : W.heap[b]? = some (intsB xs t)) (hle : off + m ≤ xs.length) : Cells W b off (getInts xs off m) := by
  intro i v hi
  rw [cell_own h]
  have him : i < m := by
    rcases Nat.lt_or_ge i m with h' | h'
    · exact h'
    · simp [getInts, List.getElem?_eq_none (by simpa using h' : (List.range m).length ≤ i)] at hi
  simp only [getInts, List.getElem?_map, List.getElem?_range him, Option.map_some, Option.some.injEq] at hi
  have hlt : off + i < xs.length := by omega
  rw [← hi]
  simp [List.getD, hlt]

theorem opsT_loadInts {i : Nat} {rest : List Nat} {o : Oper} {d : Nat} {t : TypeId} {x : Operand} (k : Nat) (b off m : Nat) (xs : List Int) (e : TypeId) (v : Value)
    (ho : ops[i]? = some o) (hw : wantedL ops l o = some true) (hk : known l o.op = true) (hd : o.dst = some d) (hdn : Nat.blt d n = true)
    (hop : o.op = .load t x) (hx : ev l x = some (.pointer (some ⟨b, off, none⟩))) (hh : hs[k]? = some (b, intsB xs e)) (hle : off + m ≤ xs.length) (hl : loaded P t (getInts xs off m) = some v)
    (kk : OpsT P r n ds W0 M ops Q rest (setL l d v) hs) : OpsT P r n ds W0 M ops Q (i :: rest) l hs :=
  opsT_value ho hw hk hd hdn (fun _ hR => run_load hop hx hl (cells_ints (hR.own _ _ (List.mem_of_getElem? hh)) hle)) kk

theorem opQ_loadInts {lk : List (Nat × Value)} {i d : Nat} {o : Oper} {t : TypeId} {x : Operand} (k : Nat) (b off m : Nat) (xs : List Int) (e : TypeId) {v : Value}
    (ho : ops[i]? = some o) (hw : wantedL ops lk o = some true) (hk : known lk o.op = true) (hd : o.dst = some d) (hdn : Nat.blt d n = true)
    (hop : o.op = .load t x) (hx : ev lk x = some (.pointer (some ⟨b, off, none⟩))) (hh : hs[k]? = some (b, intsB xs e)) (hle : off + m ≤ xs.length) (hl : loaded P t (getInts xs off m) = some v) : OpQ P n (Rep W0 M hs) ops lk i v :=
  ⟨o, d, ho, hd, Nat.le_of_ble_eq_true hdn, .inr (.inl ⟨hw, hk, fun _ hR => run_load hop hx hl (cells_ints (hR.own _ _ (List.mem_of_getElem? hh)) hle)⟩)⟩

theorem opsT_storeInt {i : Nat} {rest : List Nat} {o : Oper} {t : TypeId} {x y : Operand} (k : Nat) (b off : Nat) (xs : List Int) (e : TypeId) (z : Int)
    (ho : ops[i]? = some o) (hw : wantedL ops l o = some true) (hk : known l o.op = true) (hd : o.dst = none)
    (hop : o.op = .store t x y) (hx : ev l x = some (.pointer (some ⟨b, off, none⟩))) (hy : ev l y = some (.int .i64 z)) (hh : hs[k]? = some (b, intsB xs e))
    (hsz : (P.info? t).map (·.size) = some 1) (hlt : off < xs.length)
    (kk : OpsT P r n ds W0 M ops Q rest l (hs.set k (b, intsB (xs.set off z) e))) : OpsT P r n ds W0 M ops Q (i :: rest) l hs := by
  refine opsT_store k b off _ ((xs.set off z).map (Value.int .i64)).toArray e (.int .i64 z) ho hw hk hd hop hx hy hh hsz rfl (Nat.ble_eq_true_of_le (by simp [Value.cells]; omega)) ?_ kk
  simp [Value.cells, setCells, List.map_set]

end
end Go.Proofs.Walk
