/- B17: short words for walks: what a step needs is reckoned in one check by the kernel. -/
import Derived.Test.YtlkbokbcfajhjaaGreatB8
namespace Go.Proofs.Walk
open Go
set_option linter.unusedVariables false
set_option linter.unusedSimpArgs false
section
variable {P : Program} {r : Option Nat} {n : Nat} {ds : List Deferred} {W0 : World} {M : List Nat} {ops : Array Oper} {Q : Exit → Act → World → Prop} {l l' : List (Nat × Value)} {hs : List (Nat × Obj)} {todo rest : List Nat} {Inv : World → Prop}

/-- How, by its digit. -/
def howOf : Nat → How
  | 0 => .ex | 1 => .no | 2 => .ar | 3 => .quo | 4 => .rem | 5 => .cmp | 6 => .yes | 7 => .nay
  | 8 => .mux | 9 => .at | 10 => .el | 11 => .row | 12 => .sh | 13 => .eq | 14 => .eqy | _ => .eqn
/-- m of them; the last digit comes first. -/
def howsOf : Nat → Nat → List How
  | 0, _ => []
  | m + 1, c => howOf (c % 16) :: howsOf m (c / 16)
def takeH : List How → List Nat → Option (List (Nat × How) × List Nat)
  | [], t => some ([], t)
  | h :: hw, i :: t => (takeH hw t).map fun p => ((i, h) :: p.1, p.2)
  | _ :: _, [] => none
theorem takeH_spec : ∀ {hw : List How} {todo : List Nat} {js : List (Nat × How)} {rest : List Nat}, takeH hw todo = some (js, rest) → todo = js.map (·.1) ++ rest
  | [], t, js, rest, h => by cases h; rfl
  | h :: hw, i :: t, js, rest, e => by
    obtain ⟨⟨j2, r2⟩, h2, he⟩ := Option.map_eq_some_iff.1 e
    cases he
    rw [takeH_spec h2]; rfl
  | _ :: _, [], _, _, e => by cases e

/-- New slots, then these of the old ones. -/
def pickN (l : List (Nat × Value)) : List (Nat × Value) → List Nat → Option (List (Nat × Value))
  | [], ks => pickL l ks
  | p :: ps, ks => match pickN l ps ks with
    | some q => some (p :: q)
    | none => none
def dropN : Nat → List Nat → Option (List Nat)
  | 0, t => some t
  | m + 1, _ :: t => dropN m t
  | _ + 1, [] => none
def stepN (l new : List (Nat × Value)) (ks : List Nat) (m : Nat) (todo : List Nat) : Option (List (Nat × Value) × List Nat) :=
  match pickN l new ks, dropN m todo with
  | some l', some t => some (l', t)
  | _, _ => none

def segZ (P : Program) (n : Nat) (ops : Array Oper) (hw : List How) (todo : List Nat) (l : List (Nat × Value)) (ks : List Nat) : Option (List (Nat × Value) × List Prop × List Nat) :=
  match takeH hw todo with
  | some (js, rest) => match seg P n ops js l with
    | some (l2, obl) => (pickL l2 ks).map fun q => (q, obl, rest)
    | none => none
  | none => none
theorem segZ_spec {hw : List How} {ks : List Nat} {obl : List Prop} (h : segZ P n ops hw todo l ks = some (l', obl, rest)) (hp : AllP obl) (k : OpsT P r n ds W0 M ops Q rest l' hs) : OpsT P r n ds W0 M ops Q todo l hs := by
  unfold segZ at h
  split at h
  · rename_i js rs ht
    split at h
    · rename_i l2 ob h2
      obtain ⟨q, hq, he⟩ := Option.map_eq_some_iff.1 h
      cases he
      rw [takeH_spec ht]
      exact opsT_seg js h2 hp (opsT_pick ks hq k)
    · cases h
  · cases h
/-- A segment that owes nothing. -/
theorem kS (m c : Nat) (new : List (Nat × Value)) (ks : List Nat) (k : OpsT P r n ds W0 M ops Q rest l' hs)
    (hl : stepN l new ks m todo = some (l', rest) := by exact rfl) (h : segZ P n ops (howsOf m c) todo l (l'.map (·.1)) = some (l', [], rest) := by kernel_rfl) : OpsT P r n ds W0 M ops Q todo l hs := segZ_spec h trivial k
/-- A segment that owes obl. -/
theorem kO (m c : Nat) (new : List (Nat × Value)) (ks : List Nat) (obl : List Prop) (hp : AllP obl) (k : OpsT P r n ds W0 M ops Q rest l' hs)
    (hl : stepN l new ks m todo = some (l', rest) := by exact rfl) (h : segZ P n ops (howsOf m c) todo l (l'.map (·.1)) = some (l', obl, rest) := by kernel_rfl) : OpsT P r n ds W0 M ops Q todo l hs := segZ_spec h hp k
/-- A segment, the region's last. -/
theorem kSe {y : Code} (m c : Nat) (new : List (Nat × Value)) (ks : List Nat) (k : Tri P r n ds W0 M y Q l' hs)
    (hl : pickN l new ks = some l' := by exact rfl) (h : segZ P n ops (howsOf m c) todo l (l'.map (·.1)) = some (l', [], []) := by kernel_rfl) : OpsT P r n ds W0 M ops (Then P r y Q) todo l hs := segZ_spec h trivial (we k)
theorem kOe {y : Code} (m c : Nat) (new : List (Nat × Value)) (ks : List Nat) (obl : List Prop) (hp : AllP obl) (k : Tri P r n ds W0 M y Q l' hs)
    (hl : pickN l new ks = some l' := by exact rfl) (h : segZ P n ops (howsOf m c) todo l (l'.map (·.1)) = some (l', obl, []) := by kernel_rfl) : OpsT P r n ds W0 M ops (Then P r y Q) todo l hs := segZ_spec h hp (we k)
/-- Behind it another region. -/
theorem kSn {id : Nat} {ops' : Array Oper} {y : Code} (m c : Nat) (new : List (Nat × Value)) (ks : List Nat) (todo' : List Nat) (k : OpsT P r n ds W0 M ops' (Then P r y Q) todo' l' hs)
    (hl : pickN l new ks = some l' := by exact rfl) (ht : List.range ops'.size = todo' := by exact rfl) (h : segZ P n ops (howsOf m c) todo l (l'.map (·.1)) = some (l', [], []) := by kernel_rfl) : OpsT P r n ds W0 M ops (Then P r (.seq (.region id ops' false) y) Q) todo l hs := segZ_spec h trivial (wn todo' ht k)
theorem kOn {id : Nat} {ops' : Array Oper} {y : Code} (m c : Nat) (new : List (Nat × Value)) (ks : List Nat) (obl : List Prop) (todo' : List Nat) (hp : AllP obl) (k : OpsT P r n ds W0 M ops' (Then P r y Q) todo' l' hs)
    (hl : pickN l new ks = some l' := by exact rfl) (ht : List.range ops'.size = todo' := by exact rfl) (h : segZ P n ops (howsOf m c) todo l (l'.map (·.1)) = some (l', obl, []) := by kernel_rfl) : OpsT P r n ds W0 M ops (Then P r (.seq (.region id ops' false) y) Q) todo l hs := segZ_spec h hp (wn todo' ht k)
/-- These slots alone. -/
theorem kP (ks : List Nat) (k : OpsT P r n ds W0 M ops Q todo l' hs) (hl : pickL l ks = some l' := by exact rfl) : OpsT P r n ds W0 M ops Q todo l hs := opsT_pick ks hl k
theorem kPe {y : Code} (ks : List Nat) (k : Tri P r n ds W0 M y Q l' hs) (hl : pickL l ks = some l' := by exact rfl) : OpsT P r n ds W0 M ops (Then P r y Q) [] l hs := opsT_pick ks hl (we k)

/-! ### single operations -/

/-- The operation, if it is carried out and all that it looks at is known. -/
def opB (ops : Array Oper) (l : List (Nat × Value)) (i : Nat) : Option Oper :=
  match ops[i]? with
  | some o => match wantedL ops l o, known l o.op with
    | some true, true => some o
    | _, _ => none
  | none => none
theorem opB_spec {i : Nat} {o : Oper} (h : opB ops l i = some o) : ops[i]? = some o ∧ wantedL ops l o = some true ∧ known l o.op = true := by
  unfold opB at h
  split at h
  · rename_i o' ho
    split at h
    · rename_i h1 h2; cases h; exact ⟨ho, h1, h2⟩
    · cases h
  · cases h
/-- The head's slot, and the rest. -/
def hdO (ops : Array Oper) : List Nat → Option (Nat × List Nat)
  | i :: rest => match ops[i]? with
    | some o => match o.dst with
      | some d => some (d, rest)
      | none => none
    | none => none
  | [] => none
/-- The head's slot, the rest, and the name of the k-th block. -/
def hdK (ops : Array Oper) (hs : List (Nat × Obj)) (k : Nat) (todo : List Nat) : Option (Nat × List Nat × Nat) :=
  match hdO ops todo, hs[k]? with
  | some (d, rest), some (b, _) => some (d, rest, b)
  | _, _ => none
/-- The rest; the k-th block's name and type. -/
def hdS (hs : List (Nat × Obj)) (k : Nat) (todo : List Nat) : Option (List Nat × Nat × TypeId) :=
  match todo, hs[k]? with
  | _ :: rest, some (b, .cells _ e _) => some (rest, b, e)
  | _, _ => none
theorem hdO_spec {d : Nat} (h : hdO ops todo = some (d, rest)) : ∃ i o, todo = i :: rest ∧ ops[i]? = some o ∧ o.dst = some d := by
  unfold hdO at h
  split at h
  · rename_i i rs
    split at h
    · rename_i o ho
      split at h
      · rename_i d' hd; cases h; exact ⟨i, o, rfl, ho, hd⟩
      · cases h
    · cases h
  · cases h
theorem hdK_spec {d k b : Nat} (h : hdK ops hs k todo = some (d, rest, b)) : hdO ops todo = some (d, rest) := by
  unfold hdK at h
  split at h
  · rename_i h1 h2; cases h; exact h1
  · cases h

def ldI (P : Program) (n : Nat) (ops : Array Oper) (l : List (Nat × Value)) (hs : List (Nat × Obj)) (k i : Nat) : Option (Nat × Nat × Nat × Value) :=
  match opB ops l i with
  | some o => match o.dst, o.op with
    | some d, .load t x => if Nat.blt d n then
        match ev l x, hs[k]?, P.info? t with
        | some (.pointer (some ⟨b, off, none⟩)), some (b', .cells c e fz), some inf => (loaded P t (c.extract off (off + inf.size)).toList).map fun v => (d, b, b', v)
        | _, _, _ => none
      else none
    | _, _ => none
  | none => none
theorem ldI_spec {k i d b : Nat} {v : Value} (h : ldI P n ops l hs k i = some (d, b, b, v)) : ∃ o t x off m c e fz, ops[i]? = some o ∧ wantedL ops l o = some true ∧ known l o.op = true ∧ o.dst = some d ∧ Nat.blt d n = true ∧
    o.op = .load t x ∧ ev l x = some (.pointer (some ⟨b, off, none⟩)) ∧ hs[k]? = some (b, .cells c e fz) ∧ loaded P t (c.extract off (off + m)).toList = some v := by
  unfold ldI at h
  split at h
  · rename_i o ho
    obtain ⟨h1, h2, h3⟩ := opB_spec ho
    split at h
    · rename_i d' t x hd hop
      split at h
      · rename_i hdn
        split at h
        · rename_i hx hh hi
          obtain ⟨u, hu, he⟩ := Option.map_eq_some_iff.1 h
          cases he
          exact ⟨o, t, x, _, _, _, _, _, h1, h2, h3, hd, hdn, hop, hx, hh, hu⟩
        · cases h
      · cases h
    · cases h
  · cases h
/-- A load of the k-th block of one's own. -/
theorem kL {d b : Nat} (k : Nat) (v : Value) (kk : OpsT P r n ds W0 M ops Q rest (setL l d v) hs)
    (hd : hdK ops hs k todo = some (d, rest, b) := by exact rfl) (h : ldI P n ops l hs k (todo.headD 0) = some (d, b, b, v) := by kernel_rfl) : OpsT P r n ds W0 M ops Q todo l hs := by
  obtain ⟨i, o, rfl, ho, hdd⟩ := hdO_spec (hdK_spec hd)
  obtain ⟨o', t, x, off, m, c, e, fz, h1, h2, h3, h4, h5, h6, h7, h8, h9⟩ := ldI_spec h
  exact opsT_loadOwn k b off m c e fz v h1 h2 h3 h4 h5 h6 h7 h8 h9 kk

def stI (P : Program) (ops : Array Oper) (l : List (Nat × Value)) (hs : List (Nat × Obj)) (k i : Nat) : Option (Nat × Nat × Array Value) :=
  match opB ops l i with
  | some o => match o.dst, o.op with
    | none, .store t x y =>
      match ev l x, ev l y, hs[k]?, P.info? t with
      | some (.pointer (some ⟨b, off, none⟩)), some v, some (b', .cells c e (0, 0)), some inf =>
        if Nat.beq inf.size v.cells.size && v.cells.toList.all oneCell && Nat.ble (off + v.cells.size) c.size then some (b, b', setCells c off v.cells.toList) else none
      | _, _, _, _ => none
    | _, _ => none
  | none => none
/-- A store into the k-th block of one's own; what the block is then. -/
theorem kW {b : Nat} {e : TypeId} (k : Nat) (c' : Array Value) (kk : OpsT P r n ds W0 M ops Q rest l (hs.set k (b, .cells c' e (0, 0))))
    (hd : hdS hs k todo = some (rest, b, e) := by exact rfl) (h : stI P ops l hs k (todo.headD 0) = some (b, b, c') := by kernel_rfl) : OpsT P r n ds W0 M ops Q todo l hs := by
  unfold hdS at hd
  split at hd
  · rename_i i rs b' c0 e0 fz0 hh0
    cases hd
    unfold stI at h
    simp only [List.headD_cons] at h
    split at h
    · rename_i o ho
      obtain ⟨h1, h2, h3⟩ := opB_spec ho
      split at h
      · rename_i t x y hdst hop
        split at h
        · rename_i bb off v b2 c e2 inf hx hy hh hi
          split at h
          · rename_i hc
            simp only [Bool.and_eq_true] at hc
            cases h
            rw [hh] at hh0
            cases hh0
            refine opsT_store k _ _ _ _ _ _ h1 h2 h3 hdst hop hx hy hh ?_ hc.1.2 hc.2 rfl kk
            rw [hi, Option.map_some, Nat.eq_of_beq_eq_true hc.1.1]
          · cases h
        · cases h
      · cases h
    · cases h
  · cases hd

/-- The head's slot, the rest, and the type of a block that it lays. -/
def hdT (ops : Array Oper) (todo : List Nat) : Option (Nat × List Nat × TypeId) :=
  match hdO ops todo, todo with
  | some (d, rest), i :: _ => match ops[i]? with
    | some o => match o.op with
      | .box t _ => some (d, rest, t)
      | .alloc t => some (d, rest, t)
      | _ => none
    | none => none
  | _, _ => none
theorem hdT_spec {d : Nat} {t : TypeId} (h : hdT ops todo = some (d, rest, t)) : hdO ops todo = some (d, rest) := by
  unfold hdT at h
  split at h
  · rename_i h1
    split at h
    · split at h
      · cases h; exact h1
      · cases h; exact h1
      · cases h
    · cases h
  · cases h
def bxI (n : Nat) (ops : Array Oper) (l : List (Nat × Value)) (i : Nat) : Option (Nat × TypeId × Value) :=
  match opB ops l i with
  | some o => match o.dst, o.op with
    | some d, .box t x => if Nat.blt d n then (ev l x).map fun v => (d, t, v) else none
    | _, _ => none
  | none => none
theorem kB {d : Nat} {t : TypeId} (v : Value) (k : ∀ b, OpsT P r n ds W0 M ops Q rest (setL l d (.pointer (some ⟨b, 0, none⟩))) ((b, .cells v.cells t (0, 0)) :: hs))
    (hd : hdT ops todo = some (d, rest, t) := by exact rfl) (h : bxI n ops l (todo.headD 0) = some (d, t, v) := by kernel_rfl) : OpsT P r n ds W0 M ops Q todo l hs := by
  obtain ⟨i, o, rfl, ho, hdd⟩ := hdO_spec (hdT_spec hd)
  unfold bxI at h
  simp only [List.headD_cons] at h
  split at h
  · rename_i o ho
    obtain ⟨h1, h2, h3⟩ := opB_spec ho
    split at h
    · rename_i d' t' x hdst hop
      split at h
      · rename_i hdn
        obtain ⟨u, hu, he⟩ := Option.map_eq_some_iff.1 h
        cases he
        exact opsT_box v h1 h2 h3 hdst hdn hop hu k
      · cases h
    · cases h
  · cases h
def alI (P : Program) (n : Nat) (ops : Array Oper) (l : List (Nat × Value)) (i : Nat) : Option (Nat × TypeId × Value) :=
  match opB ops l i with
  | some o => match o.dst, o.op with
    | some d, .alloc t => if Nat.blt d n then (valS P (zeroValue t)).map fun v => (d, t, v) else none
    | _, _ => none
  | none => none
theorem kA {d : Nat} {t : TypeId} (v : Value) (k : ∀ b, OpsT P r n ds W0 M ops Q rest (setL l d (.pointer (some ⟨b, 0, none⟩))) ((b, .cells v.cells t (0, 0)) :: hs))
    (hd : hdT ops todo = some (d, rest, t) := by exact rfl) (h : alI P n ops l (todo.headD 0) = some (d, t, v) := by kernel_rfl) : OpsT P r n ds W0 M ops Q todo l hs := by
  obtain ⟨i, o, rfl, ho, hdd⟩ := hdO_spec (hdT_spec hd)
  unfold alI at h
  simp only [List.headD_cons] at h
  split at h
  · rename_i o ho
    obtain ⟨h1, h2, h3⟩ := opB_spec ho
    split at h
    · rename_i d' t' hdst hop
      split at h
      · rename_i hdn
        obtain ⟨u, hu, he⟩ := Option.map_eq_some_iff.1 h
        cases he
        exact opsT_alloc v h1 h2 h3 hdst hdn hop hu k
      · cases h
    · cases h
  · cases h

/-- A call of a function by its name, or of one with captured values. -/
def clI (n : Nat) (ops : Array Oper) (l : List (Nat × Value)) (i : Nat) : Option (Nat × FuncId × Array Value) :=
  match opB ops l i with
  | some o => match o.dst, o.op with
    | some d, .call c => if Nat.blt d n then
        match c.callee with
        | .value x => match ev l x with
          | some (.func (.func f) first captured) => some (d, f, (first ++ c.args.map (evD l)) ++ captured)
          | _ => none
        | _ => none
      else none
    | _, _ => none
  | none => none
theorem clI_spec {i d : Nat} {f : FuncId} {args : Array Value} (he : Enters P f) (h : clI n ops l i = some (d, f, args)) : ∃ o, ops[i]? = some o ∧ wantedL ops l o = some true ∧ known l o.op = true ∧ o.dst = some d ∧ Nat.blt d n = true ∧
    ∀ W : World, (execOp (evD l) o).run P W = .ok (.enter f args) W := by
  unfold clI at h
  split at h
  · rename_i o ho
    obtain ⟨h1, h2, h3⟩ := opB_spec ho
    split at h
    · rename_i d' c hdst hop
      split at h
      · rename_i hdn
        split at h
        · rename_i x hc
          split at h
          · rename_i f' first captured hx
            cases h
            exact ⟨o, h1, h2, h3, hdst, hdn, run_call he hop hc hx rfl⟩
          · cases h
        · cases h
      · cases h
    · cases h
  · cases h
/-- A call that hands back v and only adds memory. -/
theorem kC {d : Nat} {f : FuncId} (he : Enters P f) (args : Array Value) (v : Value) (hd : hdO ops todo = some (d, rest)) (hc : ∀ W, Rep W0 M hs W → Calls P f args W fun e W' => e = .returned v ∧ Ext W W')
    (k : OpsT P r n ds W0 M ops Q rest (setL l d v) hs) (h : clI n ops l (todo.headD 0) = some (d, f, args)) : OpsT P r n ds W0 M ops Q todo l hs := by
  obtain ⟨i, o, rfl, ho, hdd⟩ := hdO_spec hd
  obtain ⟨o', h1, h2, h3, h4, h5, h6⟩ := clI_spec he h
  exact opsT_callx h1 h2 h3 h4 h5 h6 hc k
theorem kR {d : Nat} {f : FuncId} (he : Enters P f) (args : Array Value) {β : Type} (mine own : List (Nat × Obj)) (v : β → Value) (ns : β → List (Nat × Obj)) (C : β → Prop) (hd : hdO ops todo = some (d, rest)) (hp : hs.Perm (mine ++ own))
    (hc : ∀ W, Rep W0 M (mine ++ own) W → Calls P f args W fun e W' => ∃ b, C b ∧ e = .returned (v b) ∧ Rep W (mine.map (·.1)) (ns b) W')
    (k : ∀ b, C b → OpsT P r n ds W0 M ops Q rest (setL l d (v b)) (ns b ++ own)) (h : clI n ops l (todo.headD 0) = some (d, f, args)) : OpsT P r n ds W0 M ops Q todo l hs := by
  obtain ⟨i, o, rfl, ho, hdd⟩ := hdO_spec hd
  obtain ⟨o', h1, h2, h3, h4, h5, h6⟩ := clI_spec he h
  exact opsT_callR mine own v ns C h1 h2 h3 h4 h5 h6 hp hc k

def lbI (P : Program) (n : Nat) (ops : Array Oper) (l : List (Nat × Value)) (vs : List Value) (i : Nat) : Option (Nat × Nat × Nat × Value) :=
  match opB ops l i with
  | some o => match o.dst, o.op with
    | some d, .load t x => if Nat.blt d n then
        match ev l x, loaded P t vs with
        | some (.pointer (some ⟨b, off, none⟩)), some v => some (d, b, off, v)
        | _, _ => none
      else none
    | _, _ => none
  | none => none
theorem lbI_spec {i d b off : Nat} {v : Value} {vs : List Value} (h : lbI P n ops l vs i = some (d, b, off, v)) : ∃ o t x, ops[i]? = some o ∧ wantedL ops l o = some true ∧ known l o.op = true ∧ o.dst = some d ∧ Nat.blt d n = true ∧
    o.op = .load t x ∧ ev l x = some (.pointer (some ⟨b, off, none⟩)) ∧ loaded P t vs = some v := by
  unfold lbI at h
  split at h
  · rename_i o ho
    obtain ⟨h1, h2, h3⟩ := opB_spec ho
    split at h
    · rename_i d' t x hd hop
      split at h
      · rename_i hdn
        split at h
        · rename_i hx hl
          cases h
          exact ⟨o, t, x, h1, h2, h3, hd, hdn, hop, hx, hl⟩
        · cases h
      · cases h
    · cases h
  · cases h
/-- A load of memory that was there. -/
theorem kM {d : Nat} (b off : Nat) (vs : List Value) (v : Value) (hc : Cells W0 b off vs) (kk : OpsT P r n ds W0 M ops Q rest (setL l d v) hs)
    (hb : b ∉ M := by simp) (hd : hdO ops todo = some (d, rest) := by exact rfl) (h : lbI P n ops l vs (todo.headD 0) = some (d, b, off, v) := by kernel_rfl) : OpsT P r n ds W0 M ops Q todo l hs := by
  obtain ⟨i, o, rfl, ho, hdd⟩ := hdO_spec hd
  obtain ⟨o', t, x, h1, h2, h3, h4, h5, h6, h7, h8⟩ := lbI_spec h
  exact opsT_loadBase b off vs v h1 h2 h3 h4 h5 h6 h7 h8 hb hc kk

/-! ### a region that draws its order -/

theorem qL {lk : List (Nat × Value)} {i b d : Nat} {v : Value} (k : Nat) (hb : (hs[k]?).map (·.1) = some b := by exact rfl) (hd : dstOf ops i = some d := by exact rfl) (h : ldI P n ops lk hs k i = some (d, b, b, v) := by kernel_rfl) : OpQ P n (Rep W0 M hs) ops lk i v := by
  obtain ⟨o', t, x, off, m, c, e, fz, h1, h2, h3, h4, h5, h6, h7, h8, h9⟩ := ldI_spec h
  exact opQ_loadOwn k b off m c e fz h1 h2 h3 h4 h5 h6 h7 h8 h9
theorem qM {lk : List (Nat × Value)} {i d : Nat} {v : Value} (b off : Nat) (vs : List Value) (hc : Cells W0 b off vs) (hb : b ∉ M := by simp) (hd : dstOf ops i = some d := by exact rfl) (h : lbI P n ops lk vs i = some (d, b, off, v) := by kernel_rfl) : OpQ P n (Rep W0 M hs) ops lk i v := by
  obtain ⟨o', t, x, h1, h2, h3, h4, h5, h6, h7, h8⟩ := lbI_spec h
  exact opQ_loadBase b off vs h1 h2 h3 h4 h5 h6 h7 h8 hb hc
theorem qC {lk : List (Nat × Value)} {i d : Nat} {v : Value} {f : FuncId} (he : Enters P f) (args : Array Value) (hd : dstOf ops i = some d) (hc : ∀ W, Rep W0 M hs W → Calls P f args W fun e W' => e = .returned v ∧ Ext W W')
    (h : clI n ops lk i = some (d, f, args)) : OpQ P n (Rep W0 M hs) ops lk i v := by
  obtain ⟨o', h1, h2, h3, h4, h5, h6⟩ := clI_spec he h
  exact opQ_callx h1 h2 h3 h4 h5 h6 hc

/-- The frame that it looks at, written out. -/
theorem qK {lk : List (Nat × Value)} {i : Nat} {v : Value} (lk' : List (Nat × Value)) (e : lk = lk') (h : OpQ P n Inv ops lk' i v) : OpQ P n Inv ops lk i v := e ▸ h
theorem qI {lk : List (Nat × Value)} {i d b : Nat} {e : TypeId} {v : Value} (k off m : Nat) (xs : List Int) (hle : off + m ≤ xs.length) (hh : hs[k]? = some (b, intsB xs e) := by exact rfl) (hd : dstOf ops i = some d := by exact rfl)
    (h : lbI P n ops lk (getInts xs off m) i = some (d, b, off, v) := by kernel_rfl) : OpQ P n (Rep W0 M hs) ops lk i v := by
  obtain ⟨o', t, x, h1, h2, h3, h4, h5, h6, h7, h8⟩ := lbI_spec h
  exact opQ_loadInts k b off m xs e h1 h2 h3 h4 h5 h6 h7 hh hle h8
/-- A load of ints out of the k-th block. -/
theorem kI {d b : Nat} {e : TypeId} (k off m : Nat) (xs : List Int) (v : Value) (hle : off + m ≤ xs.length) (kk : OpsT P r n ds W0 M ops Q rest (setL l d v) hs) (hh : hs[k]? = some (b, intsB xs e) := by exact rfl)
    (hd : hdO ops todo = some (d, rest) := by exact rfl) (h : lbI P n ops l (getInts xs off m) (todo.headD 0) = some (d, b, off, v) := by kernel_rfl) : OpsT P r n ds W0 M ops Q todo l hs := by
  obtain ⟨i, o, rfl, ho, hdd⟩ := hdO_spec hd
  obtain ⟨o', t, x, h1, h2, h3, h4, h5, h6, h7, h8⟩ := lbI_spec h
  exact opsT_loadInts k b off m xs e v h1 h2 h3 h4 h5 h6 h7 hh hle h8 kk

def headV (P : Program) (n : Nat) (ops : Array Oper) (h : How) (idx : List Nat) (ws : List Value) (l : List (Nat × Value)) (i : Nat) : Option (Value × List Prop × List Nat × List Value) :=
  match idx with
  | k :: is => if Nat.beq k i then
      match ws with
      | w :: ws => some (w, [], is, ws)
      | [] => none
    else match segQ P n ops [h] l i with
      | some (_, [v], ob) => some (v, ob, idx, ws)
      | _ => none
  | [] => match segQ P n ops [h] l i with
      | some (_, [v], ob) => some (v, ob, idx, ws)
      | _ => none
/-- A head's values: those at idx are told. -/
def segV (P : Program) (n : Nat) (ops : Array Oper) : List How → List Nat → List Value → List (Nat × Value) → Nat → Option (List Value × List Prop)
  | [], _, _, _, _ => some ([], [])
  | h :: js, idx, ws, l, i =>
    match headV P n ops h idx ws l i with
    | some (v, ob, idx', ws') => if idx'.all (Nat.blt i) then (segV P n ops js idx' ws' (setL l ((dstOf ops i).getD 0) v) (i + 1)).map fun p => (v :: p.1, ob ++ p.2) else none
    | none => none
def AllI (F : Nat → Value → Prop) : List Nat → List Value → Prop
  | i :: is, w :: ws => F i w ∧ AllI F is ws
  | _, _ => True
theorem AllI.mono {F G : Nat → Value → Prop} : ∀ {is : List Nat} {ws : List Value}, (∀ i w, i ∈ is → F i w → G i w) → AllI F is ws → AllI G is ws
  | [], _, _, _ => by unfold AllI; trivial
  | _ :: _, [], _, _ => by unfold AllI; trivial
  | i :: is, w :: ws, h, k => ⟨h i w (List.mem_cons_self ..) k.1, AllI.mono (fun j w hj => h j w (List.mem_cons_of_mem _ hj)) k.2⟩
theorem qA {F : Nat → Value → Prop} {i : Nat} {is : List Nat} {w : Value} {ws : List Value} (h : F i w) (k : AllI F is ws) : AllI F (i :: is) (w :: ws) := ⟨h, k⟩
theorem qZ {F : Nat → Value → Prop} : AllI F [] [] := trivial
theorem segQ_one {h : How} {i : Nat} {v : Value} {ob : List Prop} (e : segQ P n ops [h] l i = some (l', [v], ob)) : l' = setL l ((dstOf ops i).getD 0) v := by
  unfold segQ at e
  split at e
  · cases e
  · rename_i o ho
    split at e
    · cases e
    · rename_i d hd
      have hdst : (dstOf ops i).getD 0 = d := by simp [dstOf, ho, hd]
      rw [hdst]
      split at e
      · split at e
        · split at e
          · obtain ⟨p, h2, he⟩ := Option.map_eq_some_iff.1 e
            simp only [segQ, Option.some.injEq] at h2
            subst h2; cases he; rfl
          · cases e
        · split at e
          · obtain ⟨p, h2, he⟩ := Option.map_eq_some_iff.1 e
            simp only [segQ, Option.some.injEq] at h2
            subst h2; cases he; rfl
          · cases e
      · cases e
theorem headV_spec {h : How} {idx idx' : List Nat} {ws ws' : List Value} {i : Nat} {v : Value} {ob : List Prop} (e : headV P n ops h idx ws l i = some (v, ob, idx', ws')) :
    (idx = i :: idx' ∧ ws = v :: ws' ∧ ob = []) ∨ (idx' = idx ∧ ws' = ws ∧ segQ P n ops [h] l i = some (setL l ((dstOf ops i).getD 0) v, [v], ob)) := by
  unfold headV at e
  split at e
  · rename_i k is
    split at e
    · rename_i hk
      split at e
      · cases e; exact .inl ⟨by rw [Nat.eq_of_beq_eq_true hk], rfl, rfl⟩
      · cases e
    · split at e
      · rename_i l2 u ob2 hq
        cases e
        refine .inr ⟨rfl, rfl, ?_⟩
        have := segQ_one hq
        rw [this] at hq; exact hq
      · cases e
  · split at e
    · rename_i l2 u ob2 hq
      cases e
      refine .inr ⟨rfl, rfl, ?_⟩
      have := segQ_one hq
      rw [this] at hq; exact hq
    · cases e
theorem segV_qall : ∀ (js : List How) {idx : List Nat} {ws : List Value} {l : List (Nat × Value)} {i : Nat} {vs : List Value} {obl : List Prop} (_ : segV P n ops js idx ws l i = some (vs, obl)) (_ : AllP obl)
    (_ : AllI (fun k w => OpQ P n Inv ops (keepL (looksOf ops k) (lexL ops l i (vs.take (k - i)))) k w) idx ws), QAll P n Inv ops l i vs
  | [], idx, ws, l, i, vs, obl, h, _, _ => by
    unfold segV at h; cases h; trivial
  | hw :: js, idx, ws, l, i, vs, obl, h, hp, hq => by
    unfold segV at h
    split at h
    · rename_i v ob idx' ws' hv
      split at h
      · rename_i hall
        obtain ⟨⟨vs2, ob2⟩, h2, he⟩ := Option.map_eq_some_iff.1 h
        cases he
        have hgt : ∀ k, k ∈ idx' → i < k := fun k hk => Nat.le_of_ble_eq_true (List.all_eq_true.1 hall k hk)
        have tail : ∀ {ws : List Value}, AllI (fun k w => OpQ P n Inv ops (keepL (looksOf ops k) (lexL ops l i ((v :: vs2).take (k - i)))) k w) idx' ws →
            AllI (fun k w => OpQ P n Inv ops (keepL (looksOf ops k) (lexL ops (setL l ((dstOf ops i).getD 0) v) (i + 1) (vs2.take (k - (i + 1))))) k w) idx' ws := fun hh => AllI.mono (fun k w hk hF => by
          have := hgt k hk
          rw [show k - i = (k - (i + 1)) + 1 by omega] at hF
          simpa [lexL] using hF) hh
        rcases headV_spec hv with ⟨rfl, rfl, rfl⟩ | ⟨rfl, rfl, hs⟩
        · obtain ⟨hF, hr⟩ := hq
          rw [Nat.sub_self] at hF
          exact ⟨by simpa [lexL] using hF, segV_qall js h2 hp.right (tail hr)⟩
        · exact qall_seg [hw] (vs' := vs2) hs hp.left (segV_qall js h2 hp.right (tail hq))
      · cases h
    · cases h

def valsV (P : Program) (n : Nat) (ops : Array Oper) (m c : Nat) (idx : List Nat) (ws : List Value) (l : List (Nat × Value)) : List Value := ((segV P n ops (howsOf m c) idx ws l 0).map (·.1)).getD []
def drawB (P : Program) (n : Nat) (ops : Array Oper) (m c : Nat) (idx : List Nat) (ws : List Value) (l : List (Nat × Value)) (ks : List Nat) : Option (List (Nat × Value) × List Prop × List Nat) :=
  if P.follows .mixedOrders && orderB ops m then
    match segV P n ops (howsOf m c) idx ws l 0 with
    | some (vs, obl) => if Nat.beq vs.length m then (pickL (lexL ops l 0 vs) ks).map fun q => (q, obl, List.range' m (ops.size - m)) else none
    | none => none
  else none
/-- A region that draws its order: the head, m operations, of which those at idx come to ws. -/
theorem kD {id : Nat} (m c : Nat) (idx : List Nat) (ws : List Value) (new : List (Nat × Value)) (ks : List Nat) (obl : List Prop) (todo : List Nat) (hl : pickN l new ks = some l') (hp : AllP obl)
    (hq : AllI (fun i w => OpQ P n (Rep W0 M hs) ops (keepL (looksOf ops i) (lexL ops l 0 ((valsV P n ops m c idx ws l).take i))) i w) idx ws) (k : OpsT P r n ds W0 M ops Q todo l' hs)
    (h : drawB P n ops m c idx ws l (l'.map (·.1)) = some (l', obl, todo)) : Tri P r n ds W0 M (.region id ops true) Q l hs := by
  unfold drawB at h
  split at h
  · rename_i hb
    simp only [Bool.and_eq_true] at hb
    split at h
    · rename_i vs ob hv
      split at h
      · rename_i hlen
        obtain ⟨q, h2, he⟩ := Option.map_eq_some_iff.1 h
        cases he
        have hvs : valsV P n ops m c idx ws l = vs := by simp [valsV, hv]
        rw [hvs] at hq
        exact tri_draw m vs hb.1 hb.2 hlen (segV_qall _ hv hp (by simpa using hq)) rfl rfl (opsT_pick _ h2 k)
      · cases h
    · cases h
  · cases h

end
end Go.Proofs.Walk
