/- The base of the walks: partial frames (which slots are known), partial heaps (which blocks are the call's own, all others as they were), and rules of the fenced calculus at the wide fence said over them. -/
import Derived.RangeFuncIn
import Derived.OrdersIn
import Derived.DefersIn
import Derived.StillTail
import Derived.KernelRfl
namespace Go.Proofs.Walk
open Go

/-- The wide fence, in a round of the loop r (or in none). -/
def FR (r : Option Nat) : Fence := { Fence.wide with round := r }
theorem FR_fn (r : Option Nat) (f : FuncId) : (FR r).fn f := trivial
theorem FR_room (r : Option Nat) (n : Nat) : (FR r).room n := fun d hd => by simp [FR, Fence.wide] at hd
theorem FR_depth {r : Option Nat} {p : Prop} : (FR r).depth.isSome = true → p := fun h => by simp [FR, Fence.wide] at h
theorem FR_none : FR none = Fence.wide := rfl
theorem FR_inRound (l : Nat) : Fence.wide.inRound l = FR (some l) := rfl
theorem FR_fenced (r : Option Nat) (P : Program) (m : Machine) : m.fenced P (FR r) := fenced_wide P m

theorem callsFR {r : Option Nat} {n : Nat} {P : Program} {f : FuncId} {args : Array Value} {w : World} {R : Ending → World → Prop} :
    CallsIn (FR r) n P f args w R ↔ Calls P f args w R := by
  rw [← callsIn_wide (n := n)]
  exact Iff.rfl

/-! ### frames -/

def look : List (Nat × Value) → Nat → Option Value
  | [], _ => none
  | (d, v) :: l, t => if Nat.beq d t then some v else look l t
def dropL (d : Nat) : List (Nat × Value) → List (Nat × Value)
  | [] => []
  | (e, v) :: l => if Nat.beq e d then dropL d l else (e, v) :: dropL d l
def setL (l : List (Nat × Value)) (d : Nat) (v : Value) : List (Nat × Value) := (d, v) :: dropL d l

theorem look_dropL_ne {d t : Nat} (h : d ≠ t) : ∀ l, look (dropL d l) t = look l t
  | [] => rfl
  | (e, v) :: l => by
    unfold dropL
    by_cases he : e = d
    · subst he
      have h1 : Nat.beq e e = true := Nat.beq_refl e
      have h2 : Nat.beq e t = false := by rw [← Bool.not_eq_true]; exact fun hb => h (Nat.eq_of_beq_eq_true hb)
      rw [if_pos h1, look_dropL_ne h l]
      simp [look, h2]
    · have h1 : Nat.beq e d = false := by rw [← Bool.not_eq_true]; exact fun hb => he (Nat.eq_of_beq_eq_true hb)
      rw [h1]
      simp only [Bool.false_eq_true, if_false, look, look_dropL_ne h l]

theorem look_setL {l : List (Nat × Value)} {d t : Nat} {v : Value} : look (setL l d v) t = if d = t then some v else look l t := by
  show (if Nat.beq d t then some v else look (dropL d l) t) = _
  by_cases h : d = t
  · subst h; simp
  · have h1 : Nat.beq d t = false := by rw [← Bool.not_eq_true]; exact fun hb => h (Nat.eq_of_beq_eq_true hb)
    rw [h1, if_neg h, look_dropL_ne h l]; rfl

/-- The frame a has n slots, and holds what l says; no deferred calls but ds. -/
structure Agree (n : Nat) (ds : List Deferred) (l : List (Nat × Value)) (a : Act) : Prop where
  size : a.tmps.size = n
  defers : a.defers = ds
  slot : ∀ d v, look l d = some v → a.tmps[d]? = some v

theorem Agree.put {n : Nat} {ds : List Deferred} {l : List (Nat × Value)} {a : Act} (h : Agree n ds l a) {d : Nat} (hd : Nat.blt d n = true) (v : Value) :
    Agree n ds (setL l d v) (a.put (some d) v) := by
  have hd' : d < n := Nat.le_of_ble_eq_true hd
  refine ⟨by simp [Act.put, h.size], by simp [Act.put, h.defers], fun e u he => ?_⟩
  rw [look_setL] at he
  simp only [Act.put]
  rw [Array.getElem?_setIfInBounds]
  by_cases hde : d = e
  · subst hde
    rw [if_pos rfl] at he
    cases he
    have : d < a.tmps.size := by rw [h.size]; exact hd'
    simp [this]
  · rw [if_neg hde] at he
    simp [hde, h.slot e u he]

theorem Agree.putNone {n : Nat} {ds : List Deferred} {l : List (Nat × Value)} {a : Act} (h : Agree n ds l a) (v : Value) : Agree n ds l (a.put none v) := h

theorem Agree.sub {n : Nat} {ds : List Deferred} {l l' : List (Nat × Value)} {a : Act} (h : Agree n ds l a) (hs : ∀ d v, look l' d = some v → look l d = some v) : Agree n ds l' a :=
  ⟨h.size, h.defers, fun d v hd => h.slot d v (hs d v hd)⟩

/-- Only the slots with these numbers. -/
def keepL (ks : List Nat) : List (Nat × Value) → List (Nat × Value)
  | [] => []
  | (e, v) :: l => if ks.elem e then (e, v) :: keepL ks l else keepL ks l
theorem look_keepL {ks : List Nat} : ∀ {l : List (Nat × Value)} {d : Nat} {v : Value}, look (keepL ks l) d = some v → look l d = some v
  | [], _, _, h => h
  | (e, u) :: l, d, v, h => by
    unfold keepL at h
    unfold look
    by_cases hk : ks.elem e = true
    · rw [if_pos hk] at h
      unfold look at h
      by_cases hb : Nat.beq e d = true
      · rw [if_pos hb] at h ⊢; exact h
      · rw [if_neg hb] at h ⊢; exact look_keepL h
    · rw [if_neg hk] at h
      have h1 := look_keepL h
      by_cases hb : Nat.beq e d = true
      · -- the dropped entry shadows: then the kept one must not be of this number
        exfalso
        have hed : e = d := Nat.eq_of_beq_eq_true hb
        subst hed
        clear h1
        exact hk (by
          clear hk hb u
          induction l with
          | nil => cases h
          | cons p l ih =>
            obtain ⟨e', u'⟩ := p
            unfold keepL at h
            by_cases hk' : ks.elem e' = true
            · rw [if_pos hk'] at h
              unfold look at h
              by_cases hb' : Nat.beq e' e = true
              · rw [Nat.eq_of_beq_eq_true hb'] at hk'; exact hk'
              · rw [if_neg hb'] at h; exact ih h
            · rw [if_neg hk'] at h; exact ih h)
      · rw [if_neg hb]; exact h1

/-- An operand's value, where the frame's known slots tell it. -/
def ev (l : List (Nat × Value)) : Operand → Option Value
  | .tmp t => look l t
  | .const v => some v
  | .global g => some (.pointer (some ⟨g, 0, none⟩))
  | .func f => some (.func (.func f) #[] #[])

theorem Agree.eval {n : Nat} {ds : List Deferred} {l : List (Nat × Value)} {a : Act} (h : Agree n ds l a) {x : Operand} {v : Value} (hx : ev l x = some v) : a.eval x = v := by
  cases x with
  | tmp t => simp [Act.eval, h.slot t v hx]
  | const u => simpa [ev, Act.eval] using hx
  | global g => simpa [ev, Act.eval] using hx
  | func f => simpa [ev, Act.eval] using hx

/-- Short words for values. -/
abbrev ii (z : Int) : Value := .int .i64 z
abbrev pt (b o : Nat) : Value := .pointer (some ⟨b, o, none⟩)
abbrev sl (b o n c : Nat) : Value := .slice (some ⟨b, o, none⟩) n c

/-! ### heaps -/

/-- Nothing but the heap and the count of draws has turned. -/
structure Calm (w w' : World) : Prop where
  tape : w'.tape = w.tape
  os : w'.os = w.os
  output : w'.output = w.output
  drawn : w.drawn ≤ w'.drawn
theorem Calm.refl (w : World) : Calm w w := ⟨rfl, rfl, rfl, Nat.le_refl _⟩
theorem Calm.trans {a b c : World} (h : Calm a b) (k : Calm b c) : Calm a c := ⟨k.tape.trans h.tape, k.os.trans h.os, k.output.trans h.output, Nat.le_trans h.drawn k.drawn⟩

/-- w' is w and more: each block of w lies in w' as it lay. -/
structure Ext (w w' : World) : Prop where
  size : w.heap.size ≤ w'.heap.size
  same : ∀ b, b < w.heap.size → w'.heap[b]? = w.heap[b]?
  calm : Calm w w'

theorem Ext.refl (w : World) : Ext w w := ⟨Nat.le_refl _, fun _ _ => rfl, .refl w⟩
theorem Ext.trans {a b c : World} (h : Ext a b) (k : Ext b c) : Ext a c :=
  ⟨Nat.le_trans h.size k.size, fun i hi => (k.same i (Nat.lt_of_lt_of_le hi h.size)).trans (h.same i hi), h.calm.trans k.calm⟩
theorem Ext.keep {w w' : World} (h : Ext w w') {b : Nat} {o : Obj} (hb : w.heap[b]? = some o) : w'.heap[b]? = some o :=
  (h.same b (Array.getElem?_eq_some_iff.1 hb).1).trans hb

theorem cell_of_block {w w' : World} {a : Addr} (h : w'.heap[a.block]? = w.heap[a.block]?) : w'.cell? a = w.cell? a := by
  simp only [World.cell?, h]
theorem block_of_cell {w : World} {a : Addr} {v : Value} (h : w.cell? a = some v) : a.block < w.heap.size := by
  unfold World.cell? at h
  by_cases hb : a.block < w.heap.size
  · exact hb
  · rw [Array.getElem?_eq_none (Nat.le_of_not_lt hb)] at h; cases h
theorem Ext.cell {w w' : World} (h : Ext w w') {a : Addr} {v : Value} (hc : w.cell? a = some v) : w'.cell? a = some v :=
  (cell_of_block (h.same _ (block_of_cell hc))).trans hc

/-- W is W0 but for the blocks in M and what is new; the blocks in hs hold what hs says: they are new, or in M; no block stands twice in hs. -/
structure Rep (W0 : World) (M : List Nat) (hs : List (Nat × Obj)) (W : World) : Prop where
  size : W0.heap.size ≤ W.heap.size
  same : ∀ b, b < W0.heap.size → b ∉ M → W.heap[b]? = W0.heap[b]?
  own : ∀ b o, (b, o) ∈ hs → W.heap[b]? = some o
  new : ∀ b o, (b, o) ∈ hs → W0.heap.size ≤ b ∨ b ∈ M
  nodup : (hs.map (·.1)).Nodup
  calm : Calm W0 W

theorem Rep.refl (W : World) : Rep W [] [] W := ⟨Nat.le_refl _, fun _ _ _ => rfl, fun _ _ h => by simp at h, fun _ _ h => by simp at h, by simp, .refl W⟩
theorem Rep.ext {W0 W : World} {hs : List (Nat × Obj)} (h : Rep W0 [] hs W) : Ext W0 W := ⟨h.size, fun b hb => h.same b hb (by simp), h.calm⟩
theorem Rep.drawn {W0 : World} {M : List Nat} {hs : List (Nat × Obj)} {W : World} (h : Rep W0 M hs W) (n : Nat) : Rep W0 M hs { W with drawn := W.drawn + n } :=
  ⟨h.size, h.same, h.own, h.new, h.nodup, h.calm.trans ⟨rfl, rfl, rfl, Nat.le_add_right _ _⟩⟩

/-- A step that only adds blocks keeps what is known. -/
theorem Rep.extend {W0 : World} {M : List Nat} {hs : List (Nat × Obj)} {W W' : World} (h : Rep W0 M hs W) (e : Ext W W') : Rep W0 M hs W' :=
  ⟨Nat.le_trans h.size e.size, fun b hb hM => (e.same b (Nat.lt_of_lt_of_le hb h.size)).trans (h.same b hb hM), fun b o hm => e.keep (h.own b o hm), h.new, h.nodup, h.calm.trans e.calm⟩

theorem Rep.lt {W0 : World} {M : List Nat} {hs : List (Nat × Obj)} {W : World} (h : Rep W0 M hs W) {b : Nat} {o : Obj} (hm : (b, o) ∈ hs) : b < W.heap.size :=
  (Array.getElem?_eq_some_iff.1 (h.own b o hm)).1

/-- A new block. -/
theorem Rep.push {W0 : World} {M : List Nat} {hs : List (Nat × Obj)} {W : World} (h : Rep W0 M hs W) (o : Obj) :
    Rep W0 M ((W.heap.size, o) :: hs) { W with heap := W.heap.push o } := by
  refine ⟨by simp; exact Nat.le_succ_of_le h.size, fun b hb hM => ?_, fun b o' hm => ?_, fun b o' hm => ?_, ?_, ⟨h.calm.tape, h.calm.os, h.calm.output, h.calm.drawn⟩⟩
  · have hlt : b < W.heap.size := Nat.lt_of_lt_of_le hb h.size
    rw [← h.same b hb hM]
    simp only [Array.getElem?_push]
    rw [if_neg (by omega)]
  · rcases List.mem_cons.1 hm with e | hm
    · cases e; simp
    · have hlt := h.lt hm
      simp only [Array.getElem?_push]
      rw [if_neg (by omega)]
      exact h.own b o' hm
  · rcases List.mem_cons.1 hm with e | hm
    · cases e; exact .inl h.size
    · exact h.new b o' hm
  · simp only [List.map_cons, List.nodup_cons]
    refine ⟨fun hm => ?_, h.nodup⟩
    obtain ⟨p, hp, he⟩ := List.mem_map.1 hm
    have := h.lt (b := p.1) (o := p.2) hp
    omega

/-- The k-th block of one's own is turned. -/
theorem Rep.turn {W0 : World} {M : List Nat} {hs : List (Nat × Obj)} {W : World} (h : Rep W0 M hs W) {k b : Nat} {o : Obj} (hk : hs[k]? = some (b, o)) (o' : Obj) {W' : World}
    (hsz : W'.heap.size = W.heap.size) (hb : W'.heap[b]? = some o') (hne : ∀ c, c ≠ b → W'.heap[c]? = W.heap[c]?) (hcm : Calm W W') :
    Rep W0 M (hs.set k (b, o')) W' := by
  have hmem : (b, o) ∈ hs := List.mem_of_getElem? hk
  have hkl : k < hs.length := (List.getElem?_eq_some_iff.1 hk).1
  have hkeys : (hs.set k (b, o')).map (·.1) = hs.map (·.1) := by
    rw [List.map_set]
    have : (hs.map (·.1))[k]? = some b := by rw [List.getElem?_map, hk]; rfl
    have hkl' : k < (hs.map (·.1)).length := by simpa using hkl
    rw [List.getElem?_eq_getElem hkl', Option.some.injEq] at this
    conv => lhs; rw [← this]
    exact List.set_getElem_self hkl'
  refine ⟨by rw [hsz]; exact h.size, fun c hc hM => ?_, fun c oc hm => ?_, fun c oc hm => ?_, by rw [hkeys]; exact h.nodup, h.calm.trans hcm⟩
  · have : c ≠ b := by
      intro e; subst e
      rcases h.new _ _ hmem with hn | hn
      · omega
      · exact hM hn
    rw [hne c this]; exact h.same c hc hM
  · obtain ⟨j, hj⟩ := List.getElem?_of_mem hm
    rw [List.getElem?_set] at hj
    by_cases hjk : k = j
    · rw [if_pos hjk, if_pos hkl] at hj
      cases hj; exact hb
    · rw [if_neg hjk] at hj
      have hmj : (c, oc) ∈ hs := List.mem_of_getElem? hj
      have hcb : c ≠ b := by
        intro e; subst e
        have h1 : (hs.map (·.1))[j]? = some c := by rw [List.getElem?_map, hj]; rfl
        have h2 : (hs.map (·.1))[k]? = some c := by rw [List.getElem?_map, hk]; rfl
        exact hjk ((List.getElem?_inj (by simpa using hkl) h.nodup).1 (h2.trans h1.symm))
      rw [hne c hcb]; exact h.own c oc hmj
  · obtain ⟨j, hj⟩ := List.getElem?_of_mem hm
    rw [List.getElem?_set] at hj
    by_cases hjk : k = j
    · rw [if_pos hjk, if_pos hkl] at hj
      cases hj; exact h.new _ _ hmem
    · rw [if_neg hjk] at hj
      exact h.new c oc (List.mem_of_getElem? hj)

/-- Some of the blocks may be forgotten. -/
theorem Rep.forget {W0 : World} {M : List Nat} {hs hs' : List (Nat × Obj)} {W : World} (h : Rep W0 M hs W) (hsub : List.Sublist hs' hs) : Rep W0 M hs' W :=
  ⟨h.size, h.same, fun b o hm => h.own b o (hsub.subset hm), fun b o hm => h.new b o (hsub.subset hm), h.nodup.sublist (hsub.map _), h.calm⟩

end Go.Proofs.Walk
