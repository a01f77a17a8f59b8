/- The base of the walks, second part: operations over partial frames and heaps; runs of operations that only reckon, by reflection. -/
import Derived.Test.YtlkbokbcfajhjaaGreatB0
import Derived.WalkKit
import Derived.ChangeKeysEq
namespace Go.Proofs.Walk
open Go
set_option linter.unusedVariables false
set_option linter.unusedSimpArgs false

section
variable {P : Program} {r : Option Nat} {n : Nat} {ds : List Deferred} {W0 : World} {M : List Nat}

/-- The rest of a region, from what is known of the frame and of the heap. -/
def OpsT (P : Program) (r : Option Nat) (n : Nat) (ds : List Deferred) (W0 : World) (M : List Nat) (ops : Array Oper) (Q : Exit → Act → World → Prop) (todo : List Nat)
    (l : List (Nat × Value)) (hs : List (Nat × Obj)) : Prop :=
  ∀ a W, Agree n ds l a → Rep W0 M hs W → wpOpsIn (FR r) 0 P ops Q todo a W

/-- A piece of code, likewise. -/
def Tri (P : Program) (r : Option Nat) (n : Nat) (ds : List Deferred) (W0 : World) (M : List Nat) (c : Code) (Q : Exit → Act → World → Prop)
    (l : List (Nat × Value)) (hs : List (Nat × Obj)) : Prop :=
  ∀ a W, Agree n ds l a → Rep W0 M hs W → c.wpIn (FR r) 0 P Q a W

/-! ### what an operation looks at -/

def evD (l : List (Nat × Value)) (x : Operand) : Value := (ev l x).getD undef

/-- All that the operation looks at is known, and it is no select and no defer. -/
def known (l : List (Nat × Value)) (op : Op) : Bool :=
  match op with
  | .select .. | .defer _ => false
  | op => op.operands.toList.all fun x => (ev l x).isSome

theorem known_sem {l : List (Nat × Value)} {a : Act} {o : Oper} (hk : known l o.op = true) (ha : Agree n ds l a) (ro : Option Nat) : o.semAt ro a.eval = execOp (evD l) o := by
  have hsel : ∀ cs b, o.op ≠ .select cs b := fun cs b e => by rw [e] at hk; simp [known] at hk
  have hdef : ∀ c, o.op ≠ .defer c := fun c e => by rw [e] at hk; simp [known] at hk
  rw [Oper.semAt_eq ro _ _ hdef]
  refine execOp_congr o hsel fun x hx => ?_
  have hall : (o.op.operands.toList.all fun x => (ev l x).isSome) = true := by
    revert hk; unfold known; split
    · rename_i e; exact absurd e (hsel _ _)
    · rename_i e; exact absurd e (hdef _)
    · exact id
  have hx' := List.all_eq_true.1 hall x (by simpa using hx)
  obtain ⟨v, hv⟩ := Option.isSome_iff_exists.1 hx'
  rw [ha.eval hv]; simp [evD, hv]

/-- Does the guard let the operation by? -/
def wantedL (ops : Array Oper) (l : List (Nat × Value)) (o : Oper) : Option Bool :=
  match o.guard with
  | none => some true
  | some (j, want) =>
    match ops[j]? with
    | some oj =>
      match oj.dst with
      | some d =>
        match look l d with
        | some (.bool b) => some (b == want)
        | some (.tuple _) => some false
        | _ => none
      | none => none
    | none => none

theorem wantedL_spec {ops : Array Oper} {l : List (Nat × Value)} {a : Act} {o : Oper} {x : Bool} (h : wantedL ops l o = some x) (ha : Agree n ds l a) :
    Region.wanted o (yielded ops a.tmps) = x := by
  unfold wantedL at h
  unfold Region.wanted
  split at h
  · rename_i hg; rw [hg]; simpa using h
  · rename_i j want hg
    rw [hg]
    split at h
    · rename_i oj hj
      split at h
      · rename_i d hd
        split at h
        · rename_i b hb
          have := ha.slot d _ hb
          simp only [yielded, hj, Option.bind_some, hd, this]
          simp at h
          rw [← h]
          cases b <;> cases want <;> rfl
        · rename_i xs hb
          have := ha.slot d _ hb
          simp only [yielded, hj, Option.bind_some, hd, this]
          simp at h
          subst h
          cases want <;> rfl
        · cases h
      · cases h
    · cases h

/-! ### the steps of a region -/

theorem opsT_done {ops : Array Oper} {Q : Exit → Act → World → Prop} {l : List (Nat × Value)} {hs : List (Nat × Obj)}
    (h : ∀ a W, Agree n ds l a → Rep W0 M hs W → Q .normal a W) : OpsT P r n ds W0 M ops Q [] l hs := h

/-- The general step: the operation runs; what follows. -/
theorem opsT_op {ops : Array Oper} {Q : Exit → Act → World → Prop} {i : Nat} {rest : List Nat} {l : List (Nat × Value)} {hs : List (Nat × Obj)} {o : Oper}
    (ho : ops[i]? = some o) (hw : wantedL ops l o = some true) (hk : known l o.op = true)
    (h : ∀ a W, Agree n ds l a → Rep W0 M hs W → o.uponIn (FR r) 0 P a (wpOpsIn (FR r) 0 P ops Q rest) Q ((execOp (evD l) o).run P W)) :
    OpsT P r n ds W0 M ops Q (i :: rest) l hs := by
  intro a W ha hR
  rw [wpOpsIn_cons]
  unfold wpOpIn
  rw [ho]
  simp only [wantedL_spec hw ha, if_true]
  exact ⟨fun _ _ => trivial, by rw [known_sem hk ha]; exact h a W ha hR⟩

theorem opsT_skip {ops : Array Oper} {Q : Exit → Act → World → Prop} {i : Nat} {rest : List Nat} {l : List (Nat × Value)} {hs : List (Nat × Obj)} {o : Oper} {d : Nat}
    (ho : ops[i]? = some o) (hw : wantedL ops l o = some false) (hd : o.dst = some d) (hdn : Nat.blt d n = true)
    (k : OpsT P r n ds W0 M ops Q rest (setL l d undef) hs) : OpsT P r n ds W0 M ops Q (i :: rest) l hs := by
  intro a W ha hR
  rw [wpOpsIn_cons]
  unfold wpOpIn
  rw [ho]
  simp only [wantedL_spec hw ha, Bool.false_eq_true, if_false, hd]
  exact ⟨fun _ _ => trivial, k _ _ (ha.put hdn _) hR⟩

theorem opsT_value {ops : Array Oper} {Q : Exit → Act → World → Prop} {i : Nat} {rest : List Nat} {l : List (Nat × Value)} {hs : List (Nat × Obj)} {o : Oper} {d : Nat} {v : Value}
    (ho : ops[i]? = some o) (hw : wantedL ops l o = some true) (hk : known l o.op = true) (hd : o.dst = some d) (hdn : Nat.blt d n = true)
    (hrun : ∀ W, Rep W0 M hs W → (execOp (evD l) o).run P W = .ok (.value v) W)
    (k : OpsT P r n ds W0 M ops Q rest (setL l d v) hs) : OpsT P r n ds W0 M ops Q (i :: rest) l hs := by
  refine opsT_op ho hw hk fun a W ha hR => ?_
  rw [hrun W hR, Oper.uponIn_value, hd]
  exact k _ _ (ha.put hdn _) hR

theorem opsT_unit {ops : Array Oper} {Q : Exit → Act → World → Prop} {i : Nat} {rest : List Nat} {l : List (Nat × Value)} {hs hs' : List (Nat × Obj)} {o : Oper}
    (ho : ops[i]? = some o) (hw : wantedL ops l o = some true) (hk : known l o.op = true) (hd : o.dst = none)
    (hrun : ∀ W, Rep W0 M hs W → ∃ W', (execOp (evD l) o).run P W = .ok .skip W' ∧ Rep W0 M hs' W')
    (k : OpsT P r n ds W0 M ops Q rest l hs') : OpsT P r n ds W0 M ops Q (i :: rest) l hs := by
  refine opsT_op ho hw hk fun a W ha hR => ?_
  obtain ⟨W', he, hR'⟩ := hrun W hR
  rw [he, Oper.uponIn_skip, hd]
  exact k _ _ ha hR'

/-- A value that is chosen as the operation runs, and what it leaves. -/
theorem opsT_some {ops : Array Oper} {Q : Exit → Act → World → Prop} {i : Nat} {rest : List Nat} {l : List (Nat × Value)} {hs : List (Nat × Obj)} {o : Oper} {d : Nat}
    {β : Type} (v : β → Value) (hs' : β → List (Nat × Obj))
    (ho : ops[i]? = some o) (hw : wantedL ops l o = some true) (hk : known l o.op = true) (hd : o.dst = some d) (hdn : Nat.blt d n = true)
    (hrun : ∀ W, Rep W0 M hs W → ∃ b W', (execOp (evD l) o).run P W = .ok (.value (v b)) W' ∧ Rep W0 M (hs' b) W')
    (k : ∀ b, OpsT P r n ds W0 M ops Q rest (setL l d (v b)) (hs' b)) : OpsT P r n ds W0 M ops Q (i :: rest) l hs := by
  refine opsT_op ho hw hk fun a W ha hR => ?_
  obtain ⟨b, W', he, hR'⟩ := hrun W hR
  rw [he, Oper.uponIn_value, hd]
  exact k b _ _ (ha.put hdn _) hR'

/-- A call of a Go function: by its contract. -/
theorem opsT_call {ops : Array Oper} {Q : Exit → Act → World → Prop} {i : Nat} {rest : List Nat} {l : List (Nat × Value)} {hs : List (Nat × Obj)} {o : Oper}
    {f : FuncId} {args : Array Value} {β : Type} (v : β → Value) (hs' : β → List (Nat × Obj))
    (ho : ops[i]? = some o) (hw : wantedL ops l o = some true) (hk : known l o.op = true)
    (hrun : ∀ W, Rep W0 M hs W → (execOp (evD l) o).run P W = .ok (.enter f args) W)
    (hc : ∀ W, Rep W0 M hs W → Calls P f args W fun e W' => ∃ b, e = .returned (v b) ∧ Rep W0 M (hs' b) W')
    (k : ∀ b a W, Agree n ds l a → Rep W0 M (hs' b) W → wpOpsIn (FR r) 0 P ops Q rest (a.put o.dst (v b)) W) : OpsT P r n ds W0 M ops Q (i :: rest) l hs := by
  refine opsT_op ho hw hk fun a W ha hR => ?_
  rw [hrun W hR, Oper.uponIn_enter]
  refine ⟨FR_depth, callsFR.2 ((hc W hR).mono fun e W' ⟨b, he, hR'⟩ => ?_)⟩
  subst he
  exact k b a W' ha hR'

theorem opsT_calld {ops : Array Oper} {Q : Exit → Act → World → Prop} {i : Nat} {rest : List Nat} {l : List (Nat × Value)} {hs : List (Nat × Obj)} {o : Oper} {d : Nat}
    {f : FuncId} {args : Array Value} {β : Type} (v : β → Value) (hs' : β → List (Nat × Obj))
    (ho : ops[i]? = some o) (hw : wantedL ops l o = some true) (hk : known l o.op = true) (hd : o.dst = some d) (hdn : Nat.blt d n = true)
    (hrun : ∀ W, Rep W0 M hs W → (execOp (evD l) o).run P W = .ok (.enter f args) W)
    (hc : ∀ W, Rep W0 M hs W → Calls P f args W fun e W' => ∃ b, e = .returned (v b) ∧ Rep W0 M (hs' b) W')
    (k : ∀ b, OpsT P r n ds W0 M ops Q rest (setL l d (v b)) (hs' b)) : OpsT P r n ds W0 M ops Q (i :: rest) l hs :=
  opsT_call v hs' ho hw hk hrun hc fun b a W ha hR => by rw [hd]; exact k b _ _ (ha.put hdn _) hR

/-! ### what a computation comes to that asks nothing of the world -/

def valS {α : Type} (P : Program) : Sem α → Option α
  | .pure a => some a
  | .program k => valS P (k P)
  | .mark _ k => valS P k
  | _ => none

theorem valS_run {α : Type} {P : Program} : ∀ {s : Sem α} {a : α} (w : World), valS P s = some a → s.run P w = .ok a w
  | .pure a, b, w, h => by simp only [valS, Option.some.injEq] at h; subst h; rfl
  | .program k, b, w, h => valS_run (s := k P) w h
  | .mark _ k, b, w, h => valS_run (s := k) w h
  | .load .., _, _, h => by cases h
  | .store .., _, _, h => by cases h
  | .new .., _, _, h => by cases h
  | .shape .., _, _, h => by cases h
  | .freeze .., _, _, h => by cases h
  | .frozen .., _, _, h => by cases h
  | .getObj .., _, _, h => by cases h
  | .setObj .., _, _, h => by cases h
  | .choose .., _, _, h => by cases h
  | .sys .., _, _, h => by cases h
  | .halt .., _, _, h => by cases h

/-! ### how an operation is reckoned -/

abbrev I64 (x : Int) : Prop := -9223372036854775808 ≤ x ∧ x ≤ 9223372036854775807
theorem wrap_i64 {x : Int} (h : I64 x) : IntKind.i64.wrap x = x := by
  have := h.1; have := h.2
  show IntKind.wrap .i64 x = x
  simp only [IntKind.wrap, IntKind.bits, IntKind.signed]
  simp
  omega

inductive How where
  /-- by running it -/
  | ex
  /-- passed over: the guard says no -/
  | no
  /-- + - * of ints, the result in range -/
  | ar
  /-- / of ints, from 0 on by more than 0 -/
  | quo
  | rem
  /-- a comparison of ints, left open -/
  | cmp
  /-- a comparison of ints, which is so ¦ is not so -/
  | yes
  | nay
  /-- one of two bools -/
  | mux
  /-- an element's address: the index in range -/
  | at
  /-- an element of an array of ints -/
  | el
  /-- an element of an array of arrays or structs of ints -/
  | row
  /-- a shift of an int, by 0 or more -/
  | sh
  /-- == or != of structs or arrays of ints -/
  | eq
  /-- the same, which is so ¦ is not so -/
  | eqy
  | eqn
  deriving DecidableEq

def cmpP (op : BinOp) (x y : Int) : Option Prop :=
  match op with
  | .eql => some (x = y) | .neq => some (x ≠ y) | .lss => some (x < y) | .leq => some (x ≤ y) | .gtr => some (y < x) | .geq => some (y ≤ x)
  | _ => none

def cmpB (op : BinOp) (x y : Int) : Option Bool :=
  match op with
  | .eql => some (decide (x = y)) | .neq => some (!decide (x = y)) | .lss => some (decide (x < y)) | .leq => some (decide (x ≤ y)) | .gtr => some (decide (y < x)) | .geq => some (decide (y ≤ x))
  | _ => none

theorem cmpB_run {op : BinOp} {x y : Int} {b : Bool} (h : cmpB op x y = some b) (w : World) : (Op.intCmp op x y).run P w = .ok (.bool b) w := by
  cases op <;> simp only [cmpB, Option.some.injEq, reduceCtorEq] at h <;> subst h <;> rfl

theorem cmpB_of {op : BinOp} {x y : Int} {p : Prop} (h : cmpP op x y = some p) : ∃ b, cmpB op x y = some b ∧ (p ↔ b = true) := by
  cases op <;> simp only [cmpP, Option.some.injEq, reduceCtorEq] at h <;> subst h <;> exact ⟨_, rfl, by simp⟩

theorem binOp_cmp {op : BinOp} {t : TypeId} {k : IntKind} {x y : Int} {b : Bool} (h : cmpB op x y = some b) (w : World) : (binOp op t (.int k x) (.int k y)).run P w = .ok (.bool b) w := by
  have h2 := cmpB_run (P := P) h w
  cases op <;> simp only [cmpB, Option.some.injEq, reduceCtorEq] at h <;> simpa [binOp] using h2

def elemSize (P : Program) (t : TypeId) : Option (Nat × TypeId × Nat) :=
  match P.underlying t with
  | some (.array len e) => (P.info? e).map fun i => (len, e, i.size)
  | _ => none

def ints? : List Value → Option (List Int)
  | [] => some []
  | .int .i64 x :: vs => (ints? vs).map (x :: ·)
  | _ :: _ => none

/-- j times m, written as it is wanted. -/
def scale (j : Nat) : Nat → Nat
  | 1 => j
  | m => j * m
theorem scale_eq (j m : Nat) : scale j m = j * m := by
  unfold scale
  split
  · simp
  · rfl

def orI (a b : Int) : Int := IntKind.i64.wrap (((BitVec.ofInt 64 a ||| BitVec.ofInt 64 b).toNat : Nat) : Int)
def andI (a b : Int) : Int := IntKind.i64.wrap (((BitVec.ofInt 64 a &&& BitVec.ofInt 64 b).toNat : Nat) : Int)
def shlI (a b : Int) : Int := IntKind.i64.wrap (a * 2 ^ (min b.toNat 64))
def shrI (a b : Int) : Int := a.fdiv (2 ^ (min b.toNat 64))

def isAggB (P : Program) (t : TypeId) : Option Bool :=
  match P.underlying t with
  | some (.struct _) | some (.array _ _) => some true
  | some _ => some false
  | none => none

/-- Are the fields alike? -/
def eqFS (P : Program) (eq : TypeId → Value → Value → Option Bool) (xs ys : Array Value) : List Field → Option Bool
  | [] => some true
  | f :: fs =>
    if f.name == "_" then none else
    match valS P (part f.type xs f.offset), valS P (part f.type ys f.offset) with
    | some a, some b =>
      match eq f.type a b, eqFS P eq xs ys fs with
      | some r, some s => some (r && s)
      | _, _ => none
    | _, _ => none
def eqIS (P : Program) (eq : Value → Value → Option Bool) (e : TypeId) (xs ys : Array Value) : List Nat → Option Bool
  | [] => some true
  | i :: is =>
    match valS P (part e xs (i * P.cellsOf e)), valS P (part e ys (i * P.cellsOf e)) with
    | some a, some b =>
      match eq a b, eqIS P eq e xs ys is with
      | some r, some s => some (r && s)
      | _, _ => none
    | _, _ => none
/-- Are values of a type of ints alike? -/
def eqS (P : Program) : Nat → TypeId → Value → Value → Option Bool
  | 0, _, _, _ => none
  | d + 1, t, .int .i64 a, .int .i64 b =>
    match P.underlying t with
    | some (.int _) => some (decide (a = b))
    | _ => none
  | d + 1, t, .agg xs, .agg ys =>
    match P.underlying t with
    | some (.struct fs) => if P.stoodInHeld t then none else eqFS P (eqS P d) xs ys fs.toList
    | some (.array len e) => match P.info? e with
      | some _ => eqIS P (eqS P d e) e xs ys (List.range len)
      | none => none
    | _ => none
  | _ + 1, _, _, _ => none

/-- == or != of structs or arrays of ints. -/
def reckonEq (P : Program) (l : List (Nat × Value)) (o : Oper) : Option Bool :=
  match o.op with
  | .binOp op t x y _ =>
    match ev l x, ev l y with
    | some (.agg xs), some (.agg ys) =>
      if P.eqGuardType P.depth t then none else
      match op, eqS P 5 t (.agg xs) (.agg ys) with
      | .eql, some b => some b
      | .neq, some b => some (!b)
      | _, _ => none
    | _, _ => none
  | _ => none

/-- The value and what is owed for it. -/
def reckon (P : Program) (l : List (Nat × Value)) (h : How) (o : Oper) : Option (Value × List Prop) :=
  match h with
  | .ex =>
    match valS P (execOp (evD l) o) with
    | some (.value v) => some (v, [])
    | _ => none
  | .ar =>
    match o.op with
    | .binOp op _ x y _ =>
      match ev l x, ev l y with
      | some (.int .i64 a), some (.int .i64 b) =>
        match op with
        | .add => some (.int .i64 (a + b), [I64 (a + b)])
        | .sub => some (.int .i64 (a - b), [I64 (a - b)])
        | .mul => some (.int .i64 (a * b), [I64 (a * b)])
        | _ => none
      | _, _ => none
    | _ => none
  | .quo =>
    match o.op with
    | .binOp .quo _ x y _ =>
      match ev l x, ev l y with
      | some (.int .i64 a), some (.int .i64 b) => some (.int .i64 (a / b), [0 ≤ a, a ≤ 9223372036854775807, 0 < b])
      | _, _ => none
    | _ => none
  | .rem =>
    match o.op with
    | .binOp .rem _ x y _ =>
      match ev l x, ev l y with
      | some (.int .i64 a), some (.int .i64 b) => some (.int .i64 (a % b), [0 ≤ a, 0 < b])
      | _, _ => none
    | _ => none
  | .cmp =>
    match o.op with
    | .binOp op _ x y _ =>
      match ev l x, ev l y with
      | some (.int .i64 a), some (.int .i64 b) => (cmpB op a b).map fun c => (.bool c, [])
      | _, _ => none
    | _ => none
  | .yes =>
    match o.op with
    | .binOp op _ x y _ =>
      match ev l x, ev l y with
      | some (.int .i64 a), some (.int .i64 b) => (cmpP op a b).map fun p => (.bool true, [p])
      | _, _ => none
    | _ => none
  | .nay =>
    match o.op with
    | .binOp op _ x y _ =>
      match ev l x, ev l y with
      | some (.int .i64 a), some (.int .i64 b) => (cmpP op a b).map fun p => (.bool false, [¬ p])
      | _, _ => none
    | _ => none
  | .mux =>
    match o.op with
    | .pick c x y =>
      match ev l c, ev l x, ev l y with
      | some (.bool c), some (.bool a), some (.bool b) => some (.bool ((c && a) || (!c && b)), [])
      | _, _, _ => none
    | _ => none
  | .at =>
    match o.op with
    | .indexAddr t x i =>
      match ev l x, ev l i with
      | some (.slice (some ⟨b, off, none⟩) len _), some (.int .i64 j) =>
        match P.underlying t with
        | some (.slice e) => (P.info? e).map fun inf => (.pointer (some ⟨b, off + scale j.toNat inf.size, none⟩), [0 ≤ j, j < (len : Int)])
        | _ => none
      | some (.pointer (some ⟨b, off, none⟩)), some (.int .i64 j) =>
        match P.underlying t with
        | some (.array len e) => (P.info? e).map fun inf => (.pointer (some ⟨b, off + scale j.toNat inf.size, none⟩), [0 ≤ j, j < (len : Int)])
        | _ => none
      | _, _ => none
    | _ => none
  | .el =>
    match o.op with
    | .index t x i =>
      match ev l x, ev l i with
      | some (.agg cs), some (.int .i64 j) =>
        match P.underlying t, ints? cs.toList with
        | some (.array len e), some xs =>
          match P.underlying e, P.info? e with
          | some (.int .i64), some inf =>
            if Nat.beq inf.size 1 && Nat.beq xs.length len then some (.int .i64 (xs.getD j.toNat 0), [0 ≤ j, j < (len : Int)]) else none
          | _, _ => none
        | _, _ => none
      | _, _ => none
    | _ => none
  | .row =>
    match o.op with
    | .index t x i =>
      match ev l x, ev l i with
      | some (.agg cs), some (.int .i64 j) =>
        match P.underlying t, ints? cs.toList with
        | some (.array len e), some xs =>
          match isAggB P e, P.info? e with
          | some true, some inf =>
            if Nat.beq xs.length (len * inf.size) then some (.agg ((List.range inf.size).map fun k => .int .i64 (xs.getD (j.toNat * inf.size + k) 0)).toArray, [0 ≤ j, j < (len : Int)]) else none
          | _, _ => none
        | _, _ => none
      | _, _ => none
    | _ => none
  | .sh =>
    match o.op with
    | .binOp op _ x y _ =>
      match ev l x, ev l y with
      | some (.int .i64 a), some (.int .i64 b) =>
        match op with
        | .shl => some (.int .i64 (shlI a b), [0 ≤ b])
        | .shr => some (.int .i64 (shrI a b), [0 ≤ b])
        | _ => none
      | _, _ => none
    | _ => none
  | .eq => (reckonEq P l o).map fun b => (.bool b, [])
  | .eqy => (reckonEq P l o).map fun b => (.bool true, [b = true])
  | .eqn => (reckonEq P l o).map fun b => (.bool false, [b = false])
  | .no => none

/-- All of them. -/
def AllP : List Prop → Prop
  | [] => True
  | [p] => p
  | p :: ps => p ∧ AllP ps

theorem ap1 {p : Prop} (h : p) : AllP [p] := h
theorem ap {p q : Prop} {qs : List Prop} (h : p) (k : AllP (q :: qs)) : AllP (p :: q :: qs) := ⟨h, k⟩
theorem AllP.head {p : Prop} {ps : List Prop} (h : AllP (p :: ps)) : p := by
  cases ps with
  | nil => exact h
  | cons q ps => exact h.1
theorem AllP.tail {p : Prop} {ps : List Prop} (h : AllP (p :: ps)) : AllP ps := by
  cases ps with
  | nil => trivial
  | cons q ps => exact h.2
theorem AllP.left : ∀ {ps qs : List Prop}, AllP (ps ++ qs) → AllP ps
  | [], _, _ => trivial
  | p :: ps, qs, h => by
    have h1 := AllP.head (ps := ps ++ qs) h
    have h2 := AllP.left (AllP.tail (ps := ps ++ qs) h)
    cases ps with
    | nil => exact h1
    | cons q ps => exact ⟨h1, h2⟩
theorem AllP.right : ∀ {ps qs : List Prop}, AllP (ps ++ qs) → AllP qs
  | [], _, h => h
  | _ :: ps, qs, h => AllP.right (AllP.tail (ps := ps ++ qs) h)

theorem addr_add (b off n : Nat) : (⟨b, off, none⟩ : Addr).add n = ⟨b, off + n, none⟩ := by
  unfold Addr.add
  split
  · rename_i h; subst h; rfl
  · rfl

theorem ints?_spec : ∀ {vs : List Value} {xs : List Int}, ints? vs = some xs → vs = xs.map (Value.int .i64)
  | [], xs, h => by simp [ints?] at h; subst h; rfl
  | v :: vs, xs, h => by
    cases v with
    | int k x =>
      cases k <;> simp only [ints?, reduceCtorEq] at h
      obtain ⟨ys, hy, rfl⟩ := Option.map_eq_some_iff.1 h
      simp [ints?_spec hy]
    | _ => simp [ints?] at h

theorem run_typeInfo {t : TypeId} {i : TypeInfo} (h : P.info? t = some i) (w : World) : (typeInfo t).run P w = .ok i w := by
  simp [typeInfo, program, h, Sem.run]
theorem run_under {t : TypeId} {d : TypeDesc} (h : P.underlying t = some d) (w : World) : (underlying t).run P w = .ok d w := by
  simp [underlying, program, h, Sem.run]

theorem run_value {s : Sem Value} {v : Value} {w w' : World} (h : s.run P w = .ok v w') : (do pure (Next.value (← s)) : Sem Next).run P w = .ok (.value v) w' := by
  rw [Sem.run_bind, h]; rfl

theorem eqGuard_int (op : BinOp) (t : TypeId) (x y : Operand) (k k' : IntKind) (a b : Int) (w : World) : (eqGuard op t x y (.int k a) (.int k' b)).run P w = .ok () w := by
  cases op <;> rfl

theorem run_binOp {op : BinOp} {t t' : TypeId} {x y : Operand} {l : List (Nat × Value)} {a b : Int} {v : Value} (hx : ev l x = some (.int .i64 a)) (hy : ev l y = some (.int .i64 b)) {o : Oper}
    (ho : o.op = .binOp op t x y t') {w : World} (h : (binOp op t (.int .i64 a) (.int .i64 b)).run P w = .ok v w) : (execOp (evD l) o).run P w = .ok (.value v) w := by
  unfold execOp
  rw [ho]
  refine run_value ?_
  have e1 : evD l x = .int .i64 a := by simp [evD, hx]
  have e2 : evD l y = .int .i64 b := by simp [evD, hy]
  rw [e1, e2, Sem.run_bind, eqGuard_int]
  exact h

theorem reckon_ex {l : List (Nat × Value)} {o : Oper} {v : Value} {obl : List Prop} (h : reckon P l .ex o = some (v, obl)) (w : World) : (execOp (evD l) o).run P w = .ok (.value v) w := by
  unfold reckon at h
  dsimp only at h
  split at h
  · rename_i u hv
    cases h
    exact valS_run w hv
  · cases h

theorem reckon_ar {l : List (Nat × Value)} {o : Oper} {v : Value} {obl : List Prop} (h : reckon P l .ar o = some (v, obl)) (hp : AllP obl) (w : World) : (execOp (evD l) o).run P w = .ok (.value v) w := by
  unfold reckon at h
  dsimp only at h
  split at h
  · rename_i op t x y t' ho
    split at h
    · rename_i a b hx hy
      split at h
      all_goals first
        | (cases h; have hw := wrap_i64 hp; refine run_binOp hx hy ho ?_; simp [binOp, Op.intArith, hw]; done)
        | cases h
    · cases h
  · cases h

theorem reckon_quo {l : List (Nat × Value)} {o : Oper} {v : Value} {obl : List Prop} (h : reckon P l .quo o = some (v, obl)) (hp : AllP obl) (w : World) : (execOp (evD l) o).run P w = .ok (.value v) w := by
  unfold reckon at h
  dsimp only at h
  split at h
  · rename_i t x y t' ho
    split at h
    · rename_i a b hx hy
      cases h
      obtain ⟨h0, h1, (h2 : 0 < b)⟩ := hp
      refine run_binOp hx hy ho ?_
      have hb : ¬ b = 0 := by omega
      have hq : a.tdiv b = a / b := Int.tdiv_eq_ediv_of_nonneg h0
      have hr : I64 (a / b) := ⟨by have := Int.ediv_nonneg h0 (Int.le_of_lt h2); omega, by have := Int.ediv_le_self b h0; omega⟩
      simp [binOp, Op.intDiv, hb, hq, wrap_i64 hr]
    · cases h
  · cases h

theorem reckon_rem {l : List (Nat × Value)} {o : Oper} {v : Value} {obl : List Prop} (h : reckon P l .rem o = some (v, obl)) (hp : AllP obl) (w : World) : (execOp (evD l) o).run P w = .ok (.value v) w := by
  unfold reckon at h
  dsimp only at h
  split at h
  · rename_i t x y t' ho
    split at h
    · rename_i a b hx hy
      cases h
      obtain ⟨h0, (h2 : 0 < b)⟩ := hp
      refine run_binOp hx hy ho ?_
      have hb : ¬ b = 0 := by omega
      have hq : a.tmod b = a % b := Int.tmod_eq_emod_of_nonneg h0
      simp [binOp, Op.intDiv, hb, hq]
    · cases h
  · cases h

theorem reckon_cmp {l : List (Nat × Value)} {o : Oper} {v : Value} {obl : List Prop} (h : reckon P l .cmp o = some (v, obl)) (w : World) : (execOp (evD l) o).run P w = .ok (.value v) w := by
  unfold reckon at h
  dsimp only at h
  split at h
  · rename_i op t x y t' ho
    split at h
    · rename_i a b hx hy
      obtain ⟨c, hc, he⟩ := Option.map_eq_some_iff.1 h
      cases he
      exact run_binOp hx hy ho (binOp_cmp hc w)
    · cases h
  · cases h

theorem reckon_yes {l : List (Nat × Value)} {o : Oper} {v : Value} {obl : List Prop} (h : reckon P l .yes o = some (v, obl)) (hp : AllP obl) (w : World) : (execOp (evD l) o).run P w = .ok (.value v) w := by
  unfold reckon at h
  dsimp only at h
  split at h
  · rename_i op t x y t' ho
    split at h
    · rename_i a b hx hy
      obtain ⟨p, hc, he⟩ := Option.map_eq_some_iff.1 h
      cases he
      obtain ⟨c, hc', hpc⟩ := cmpB_of hc
      have hb : c = true := hpc.1 hp
      subst hb
      exact run_binOp hx hy ho (binOp_cmp hc' w)
    · cases h
  · cases h

theorem reckon_nay {l : List (Nat × Value)} {o : Oper} {v : Value} {obl : List Prop} (h : reckon P l .nay o = some (v, obl)) (hp : AllP obl) (w : World) : (execOp (evD l) o).run P w = .ok (.value v) w := by
  unfold reckon at h
  dsimp only at h
  split at h
  · rename_i op t x y t' ho
    split at h
    · rename_i a b hx hy
      obtain ⟨p, hc, he⟩ := Option.map_eq_some_iff.1 h
      cases he
      obtain ⟨c, hc', hpc⟩ := cmpB_of hc
      have hb : c = false := by
        cases c
        · rfl
        · exact absurd (hpc.2 rfl) hp
      subst hb
      exact run_binOp hx hy ho (binOp_cmp hc' w)
    · cases h
  · cases h

theorem reckon_mux {l : List (Nat × Value)} {o : Oper} {v : Value} {obl : List Prop} (h : reckon P l .mux o = some (v, obl)) (w : World) : (execOp (evD l) o).run P w = .ok (.value v) w := by
  unfold reckon at h
  dsimp only at h
  split at h
  · rename_i c x y ho
    split at h
    · rename_i c' a b hc hx hy
      cases h
      unfold execOp
      rw [ho]
      have e0 : evD l c = .bool c' := by simp [evD, hc]
      have e1 : evD l x = .bool a := by simp [evD, hx]
      have e2 : evD l y = .bool b := by simp [evD, hy]
      dsimp only
      rw [e0, e1, e2]
      cases c' <;> cases a <;> cases b <;> rfl
    · cases h
  · cases h

theorem reckon_at {l : List (Nat × Value)} {o : Oper} {v : Value} {obl : List Prop} (h : reckon P l .at o = some (v, obl)) (hp : AllP obl) (w : World) : (execOp (evD l) o).run P w = .ok (.value v) w := by
  unfold reckon at h
  dsimp only at h
  split at h
  · rename_i t x i ho
    split at h
    · rename_i b off len cap j hx hi
      split at h
      · rename_i e hu
        obtain ⟨inf, hinf, he⟩ := Option.map_eq_some_iff.1 h
        cases he
        unfold execOp
        rw [ho]
        refine run_value ?_
        have e1 : evD l x = .slice (some ⟨b, off, none⟩) len cap := by simp [evD, hx]
        have e2 : evD l i = .int .i64 j := by simp [evD, hi]
        rw [e1, e2]
        have h01 : 0 ≤ j ∧ j < (len : Int) := hp
        simp only [Instr.indexAt, asIntOf, Sem.run_bind, Sem.run_pure, Result.andThen_ok, run_under hu, h01, and_self, if_true, sizeOf, run_typeInfo hinf, addr_add, scale_eq]
      · cases h
    · rename_i b off j hx hi
      split at h
      · rename_i len e hu
        obtain ⟨inf, hinf, he⟩ := Option.map_eq_some_iff.1 h
        cases he
        unfold execOp
        rw [ho]
        refine run_value ?_
        have e1 : evD l x = .pointer (some ⟨b, off, none⟩) := by simp [evD, hx]
        have e2 : evD l i = .int .i64 j := by simp [evD, hi]
        rw [e1, e2]
        have h01 : 0 ≤ j ∧ j < (len : Int) := hp
        simp only [Instr.indexAt, Instr.sureAddr, asIntOf, Sem.run_bind, Sem.run_pure, Result.andThen_ok, run_under hu, h01, and_self, if_true, sizeOf, run_typeInfo hinf, addr_add, scale_eq]
      · cases h
    · cases h
  · cases h

theorem run_isAggB {t : TypeId} {b : Bool} (h : isAggB P t = some b) (w : World) : (isAgg t).run P w = .ok b w := by
  unfold isAggB at h
  cases hu : P.underlying t with
  | none => rw [hu] at h; simp at h
  | some d =>
    rw [hu] at h
    simp only [isAgg, Sem.run_bind, run_under hu, Result.andThen]
    cases d <;> simp at h <;> subst h <;> rfl

theorem reckon_el {l : List (Nat × Value)} {o : Oper} {v : Value} {obl : List Prop} (h : reckon P l .el o = some (v, obl)) (hp : AllP obl) (w : World) : (execOp (evD l) o).run P w = .ok (.value v) w := by
  unfold reckon at h
  dsimp only at h
  split at h
  · rename_i t x i ho
    split at h
    · rename_i cs j hx hi
      split at h
      · rename_i len e xs hu hxs
        split at h
        · rename_i inf hue hinf
          split at h
          · rename_i hsz
            cases h
            simp only [Bool.and_eq_true] at hsz
            have hs1 : inf.size = 1 := Nat.eq_of_beq_eq_true hsz.1
            have hs2 : xs.length = len := Nat.eq_of_beq_eq_true hsz.2
            have h01 : 0 ≤ j ∧ j < (len : Int) := hp
            have hag : isAggB P e = some false := by simp [isAggB, hue]
            have hcs := ints?_spec hxs
            have hlt : j.toNat < xs.length := by omega
            have hget : cs[j.toNat]? = some (.int .i64 (xs.getD j.toNat 0)) := by
              rw [← Array.getElem?_toList, hcs, List.getElem?_map, List.getElem?_eq_getElem hlt]
              simp [List.getD, List.getElem?_eq_getElem hlt]
            unfold execOp
            rw [ho]
            refine run_value ?_
            have e1 : evD l x = .agg cs := by simp [evD, hx]
            have e2 : evD l i = .int .i64 j := by simp [evD, hi]
            rw [e1, e2]
            simp only [Instr.index, asIntOf, Sem.run_bind, Sem.run_pure, Result.andThen_ok, run_under hu, h01, and_self, if_true, sizeOf, run_typeInfo hinf, hs1, Nat.mul_one, part, run_isAggB hag, Bool.false_eq_true, if_false, hget]
          · cases h
        · cases h
      · cases h
    · cases h
  · cases h

theorem extract_ints {cs : Array Value} {xs : List Int} (hcs : cs.toList = xs.map (Value.int .i64)) {a m : Nat} (h : a + m ≤ xs.length) :
    cs.extract a (a + m) = ((List.range m).map fun k => Value.int .i64 (xs.getD (a + k) 0)).toArray := by
  apply Array.toList_inj.1
  rw [Array.toList_extract, hcs]
  apply List.ext_getElem?
  intro i
  by_cases hi : i < m
  · have h2 : a + i < xs.length := by omega
    simp only [List.extract]
    rw [List.getElem?_take, if_pos (by omega), List.getElem?_drop, List.getElem?_map, List.getElem?_eq_getElem h2]
    simp [hi, List.getD, h2]
  · rw [List.getElem?_eq_none (by simp only [List.extract, List.length_take]; omega), List.getElem?_eq_none (by simp; omega)]

theorem reckon_row {l : List (Nat × Value)} {o : Oper} {v : Value} {obl : List Prop} (h : reckon P l .row o = some (v, obl)) (hp : AllP obl) (w : World) : (execOp (evD l) o).run P w = .ok (.value v) w := by
  unfold reckon at h
  dsimp only at h
  split at h
  · rename_i t x i ho
    split at h
    · rename_i cs j hx hi
      split at h
      · rename_i len e xs hu hxs
        split at h
        · rename_i inf hag hinf
          split at h
          · rename_i hsz
            cases h
            have hs2 : xs.length = len * inf.size := Nat.eq_of_beq_eq_true hsz
            have h01 : 0 ≤ j ∧ j < (len : Int) := hp
            have hcs := ints?_spec hxs
            have hlt : j.toNat * inf.size + inf.size ≤ xs.length := by
              rw [hs2, ← Nat.succ_mul]; exact Nat.mul_le_mul_right _ (by omega)
            unfold execOp
            rw [ho]
            refine run_value ?_
            have e1 : evD l x = .agg cs := by simp [evD, hx]
            have e2 : evD l i = .int .i64 j := by simp [evD, hi]
            rw [e1, e2]
            simp only [Instr.index, asIntOf, Sem.run_bind, Sem.run_pure, Result.andThen_ok, run_under hu, h01, and_self, if_true, sizeOf, run_typeInfo hinf, part, run_isAggB hag, extract_ints hcs hlt]
          · cases h
        · cases h
      · cases h
    · cases h
  · cases h

theorem reckon_sh {l : List (Nat × Value)} {o : Oper} {v : Value} {obl : List Prop} (h : reckon P l .sh o = some (v, obl)) (hp : AllP obl) (w : World) : (execOp (evD l) o).run P w = .ok (.value v) w := by
  unfold reckon at h
  dsimp only at h
  split at h
  · rename_i op t x y t' ho
    split at h
    · rename_i a b hx hy
      split at h
      · cases h
        have h0 : 0 ≤ b := hp
        refine run_binOp hx hy ho ?_
        have hb : ¬ b < 0 := by omega
        simp only [binOp, Op.shift, hb, if_false, Sem.run_pure]
        rfl
      · cases h
        have h0 : 0 ≤ b := hp
        refine run_binOp hx hy ho ?_
        have hb : ¬ b < 0 := by omega
        simp only [binOp, Op.shift, hb, if_false, Sem.run_pure]
        rfl
      · cases h
    · cases h
  · cases h

theorem eqFS_run {d : Nat} {eq : TypeId → Value → Value → Option Bool} (heq : ∀ t x y b, eq t x y = some b → ∀ w, (Op.equalIn d t x y).run P w = .ok b w) (xs ys : Array Value) :
    ∀ (fs : List Field) (b : Bool), eqFS P eq xs ys fs = some b → ∀ w, (Op.eqFields d xs ys fs).run P w = .ok b w
  | [], b, h, w => by simp [eqFS] at h; subst h; simp [Op.eqFields]
  | f :: fs, b, h, w => by
    unfold eqFS at h
    split at h
    · cases h
    · rename_i hn
      have hn' : f.name ≠ "_" := by simpa using hn
      split at h
      · rename_i a c ha hc
        split at h
        · rename_i r s hr hs
          cases h
          simp only [Op.eqFields, if_pos hn', Sem.run_bind, valS_run w ha, valS_run w hc, heq _ _ _ _ hr w, Result.andThen_ok]
          cases r
          · simp
          · simpa using eqFS_run heq xs ys fs s hs w
        · cases h
      · cases h
theorem eqIS_run {d : Nat} {e : TypeId} {eq : Value → Value → Option Bool} (heq : ∀ x y b, eq x y = some b → ∀ w, (Op.equalIn d e x y).run P w = .ok b w) (xs ys : Array Value) :
    ∀ (is : List Nat) (b : Bool), eqIS P eq e xs ys is = some b → ∀ w, (Op.eqItems d e (P.cellsOf e) xs ys is).run P w = .ok b w
  | [], b, h, w => by simp [eqIS] at h; subst h; simp [Op.eqItems]
  | i :: is, b, h, w => by
    unfold eqIS at h
    split at h
    · rename_i a c ha hc
      split at h
      · rename_i r s hr hs
        cases h
        simp only [Op.eqItems, Sem.run_bind, valS_run w ha, valS_run w hc, heq _ _ _ hr w, Result.andThen_ok]
        cases r
        · simp
        · simpa using eqIS_run heq xs ys is s hs w
      · cases h
    · cases h
theorem eqS_run : ∀ (k : Nat) (t : TypeId) (x y : Value) (b : Bool), eqS P k t x y = some b → ∀ (d : Nat) w, (Op.equalIn (d + k) t x y).run P w = .ok b w
  | 0, t, x, y, b, h, d, w => by simp [eqS] at h
  | k + 1, t, x, y, b, h, d, w => by
    unfold eqS at h
    split at h
    · simp_all
    · rename_i t n t' v1 v2 d' a c hk
      split at h
      · rename_i q hu
        cases h
        rw [show d + (k + 1) = (d + k) + 1 from rfl, run_equalIn_int w (d + k) t .i64 q a c hu]
        rfl
      · cases h
    · rename_i t n t' v1 v2 d' xs ys hk
      obtain rfl : k = d' := by simpa using hk
      split at h
      · rename_i fs hu
        split at h
        · cases h
        · rename_i hst
          have hf : P.fieldsOf t = fs := by simp [Program.fieldsOf, hu]
          rw [show d + (k + 1) = (d + k) + 1 from rfl, run_equalIn_struct w (d + k) t xs ys (by rw [hf]; exact hu) (by simpa using hst), hf]
          exact eqFS_run (fun t x y b h w => eqS_run k t x y b h d w) xs ys _ b h w
      · rename_i len e hu
        split at h
        · rename_i i hi
          rw [show d + (k + 1) = (d + k) + 1 from rfl, run_equalIn_array w (d + k) xs ys hu hi]
          exact eqIS_run (fun x y b h w => eqS_run k e x y b h d w) xs ys _ b h w
        · cases h
      · cases h
    · cases h

theorem reckonEq_run {l : List (Nat × Value)} {o : Oper} {b : Bool} (h : reckonEq P l o = some b) (w : World) : (execOp (evD l) o).run P w = .ok (.value (.bool b)) w := by
  unfold reckonEq at h
  split at h
  · rename_i op t x y t' ho
    split at h
    · rename_i xs ys hx hy
      split at h
      · cases h
      · rename_i hg
        have hg' : P.eqGuardType P.depth t = false := by simpa using hg
        unfold execOp
        rw [ho]
        refine run_value ?_
        have e1 : evD l x = .agg xs := by simp [evD, hx]
        have e2 : evD l y = .agg ys := by simp [evD, hy]
        rw [e1, e2, Sem.run_bind, run_eqGuard_agg w op t x y xs ys hg']
        simp only [Result.andThen_ok]
        split at h
        · rename_i b hb
          cases h
          rw [run_eql_struct w t xs ys, show (10000 : Nat) = 9995 + 5 from rfl, eqS_run 5 t _ _ b hb 9995 w]; rfl
        · rename_i b hb
          cases h
          rw [run_neq_struct w t xs ys, show (10000 : Nat) = 9995 + 5 from rfl, eqS_run 5 t _ _ b hb 9995 w]; rfl
        · cases h
    · cases h
  · cases h
theorem reckon_eq {l : List (Nat × Value)} {o : Oper} {v : Value} {obl : List Prop} (h : reckon P l .eq o = some (v, obl)) (w : World) : (execOp (evD l) o).run P w = .ok (.value v) w := by
  obtain ⟨b, hb, he⟩ := Option.map_eq_some_iff.1 h
  cases he
  exact reckonEq_run hb w
theorem reckon_eqy {l : List (Nat × Value)} {o : Oper} {v : Value} {obl : List Prop} (h : reckon P l .eqy o = some (v, obl)) (hp : AllP obl) (w : World) : (execOp (evD l) o).run P w = .ok (.value v) w := by
  obtain ⟨b, hb, he⟩ := Option.map_eq_some_iff.1 h
  cases he
  have : b = true := hp
  subst this
  exact reckonEq_run hb w
theorem reckon_eqn {l : List (Nat × Value)} {o : Oper} {v : Value} {obl : List Prop} (h : reckon P l .eqn o = some (v, obl)) (hp : AllP obl) (w : World) : (execOp (evD l) o).run P w = .ok (.value v) w := by
  obtain ⟨b, hb, he⟩ := Option.map_eq_some_iff.1 h
  cases he
  have : b = false := hp
  subst this
  exact reckonEq_run hb w

theorem reckon_run {h : How} {l : List (Nat × Value)} {o : Oper} {v : Value} {obl : List Prop} (hr : reckon P l h o = some (v, obl)) (hp : AllP obl) (w : World) : (execOp (evD l) o).run P w = .ok (.value v) w := by
  cases h with
  | ex => exact reckon_ex hr w
  | no => simp [reckon] at hr
  | ar => exact reckon_ar hr hp w
  | quo => exact reckon_quo hr hp w
  | rem => exact reckon_rem hr hp w
  | cmp => exact reckon_cmp hr w
  | yes => exact reckon_yes hr hp w
  | nay => exact reckon_nay hr hp w
  | mux => exact reckon_mux hr w
  | «at» => exact reckon_at hr hp w
  | el => exact reckon_el hr hp w
  | row => exact reckon_row hr hp w
  | sh => exact reckon_sh hr hp w
  | eq => exact reckon_eq hr w
  | eqy => exact reckon_eqy hr hp w
  | eqn => exact reckon_eqn hr hp w

/-! ### a run of operations that only reckon -/

def seg (P : Program) (n : Nat) (ops : Array Oper) : List (Nat × How) → List (Nat × Value) → Option (List (Nat × Value) × List Prop)
  | [], l => some (l, [])
  | (i, h) :: js, l =>
    match ops[i]? with
    | none => none
    | some o =>
      match o.dst with
      | none => none
      | some d =>
        if Nat.blt d n then
          match h with
          | .no =>
            match wantedL ops l o with
            | some false => seg P n ops js (setL l d undef)
            | _ => none
          | h =>
            match wantedL ops l o, known l o.op, reckon P l h o with
            | some true, true, some (v, obl) => (seg P n ops js (setL l d v)).map fun (l', obl') => (l', obl ++ obl')
            | _, _, _ => none
        else none

theorem opsT_seg {ops : Array Oper} {Q : Exit → Act → World → Prop} {rest : List Nat} {hs : List (Nat × Obj)} : ∀ (js : List (Nat × How)) {l l' : List (Nat × Value)} {obl : List Prop}
    (_ : seg P n ops js l = some (l', obl)) (_ : AllP obl) (_ : OpsT P r n ds W0 M ops Q rest l' hs), OpsT P r n ds W0 M ops Q (js.map (·.1) ++ rest) l hs
  | [], l, l', obl, h, _, k => by cases h; exact k
  | (i, hw) :: js, l, l', obl, h, hp, k => by
    unfold seg at h
    split at h
    · cases h
    · rename_i o ho
      split at h
      · cases h
      · rename_i d hd
        split at h
        · rename_i hdn
          split at h
          · split at h
            · rename_i hwant
              exact opsT_skip ho hwant hd hdn (opsT_seg js h hp k)
            · cases h
          · split at h
            · rename_i v ob hwant hk hr
              obtain ⟨⟨l2, ob2⟩, h2, he⟩ := Option.map_eq_some_iff.1 h
              cases he
              exact opsT_value ho hwant hk hd hdn (fun W _ => reckon_run hr hp.left W) (opsT_seg js h2 hp.right k)
            · cases h
        · cases h

theorem opsT_keep {ops : Array Oper} {Q : Exit → Act → World → Prop} {todo : List Nat} {hs : List (Nat × Obj)} {l : List (Nat × Value)} (ks : List Nat)
    (k : OpsT P r n ds W0 M ops Q todo (keepL ks l) hs) : OpsT P r n ds W0 M ops Q todo l hs := fun a W ha hR => k a W (ha.sub fun _ _ h => look_keepL h) hR

theorem tri_keep {c : Code} {Q : Exit → Act → World → Prop} {hs : List (Nat × Obj)} {l : List (Nat × Value)} (ks : List Nat)
    (k : Tri P r n ds W0 M c Q (keepL ks l) hs) : Tri P r n ds W0 M c Q l hs := fun a W ha hR => k a W (ha.sub fun _ _ h => look_keepL h) hR

end
end Go.Proofs.Walk
