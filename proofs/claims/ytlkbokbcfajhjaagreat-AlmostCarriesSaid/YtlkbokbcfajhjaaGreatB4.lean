/- The base of the walks, fifth part: function values that are called; a range over a function. -/
import Derived.Test.YtlkbokbcfajhjaaGreatB3
import Derived.RangeFuncRecord
namespace Go.Proofs.Walk
open Go
set_option linter.unusedVariables false
set_option linter.unusedSimpArgs false

section
variable {P : Program} {r : Option Nat} {n : Nat} {ds : List Deferred} {W0 : World} {M : List Nat} {ops : Array Oper} {Q : Exit → Act → World → Prop} {l : List (Nat × Value)} {hs : List (Nat × Obj)}

theorem Rep.perm {hs' : List (Nat × Obj)} {W : World} (h : Rep W0 M hs W) (hp : hs.Perm hs') : Rep W0 M hs' W :=
  ⟨h.size, h.same, fun b o hm => h.own b o (hp.mem_iff.2 hm), fun b o hm => h.new b o (hp.mem_iff.2 hm), (hp.map _).nodup_iff.1 h.nodup, h.calm⟩

theorem tri_perm {c : Code} {hs' : List (Nat × Obj)} (hp : hs.Perm hs') (k : Tri P r n ds W0 M c Q l hs') : Tri P r n ds W0 M c Q l hs := fun a W ha hR => k a W ha (hR.perm hp)
theorem post_perm {e : Exit} {hs' : List (Nat × Obj)} (hp : hs.Perm hs') (k : PostT n ds W0 M Q e l hs') : PostT n ds W0 M Q e l hs := fun a W ha hR => k a W ha (hR.perm hp)

/-- A call of a function value. -/
def CallV (P : Program) (y : Value) (args : Array Value) (W : World) (R : Ending → World → Prop) : Prop :=
  match (do let d ← Deferred.ofValue y args; invoke d.target d.args : Sem Next).run P W with
  | .ok (.enter f as) W' => Calls P f as W' R
  | .ok (.round l f tmps as bo) W' => RoundIn Fence.wide 0 P l f tmps as bo W' R
  | _ => False

theorem CallV.mono {y : Value} {args : Array Value} {W : World} {R R' : Ending → World → Prop} (h : CallV P y args W R) (hr : ∀ e W', R e W' → R' e W') : CallV P y args W R' := by
  unfold CallV at *
  split at h
  · exact Calls.mono h hr
  · exact RoundIn.mono h hr
  · exact h.elim

theorem roundFR {rd : Option Nat} {l : Nat} {f : FuncId} {tmps : Array Value} {as bo : Code} {w : World} {R : Ending → World → Prop} : RoundIn (FR rd) 0 P l f tmps as bo w R ↔ RoundIn Fence.wide 0 P l f tmps as bo w R := Iff.rfl

theorem callV_func {f : FuncId} {first captured args as : Array Value} {W : World} {R : Ending → World → Prop} (he : Enters P f) (ha : (first ++ args) ++ captured = as) (h : Calls P f as W R) :
    CallV P (.func (.func f) first captured) args W R := by
  unfold CallV
  simp only [Deferred.ofValue, Sem.run_bind, Sem.run_pure, Result.andThen_ok, invoke, he.run, ha]
  exact h

/-- The step: a function value is called in a region. -/
theorem opsT_callv {i : Nat} {rest : List Nat} {o : Oper} {d : Nat} {c : Call} {x : Operand} {y : Value} {args : Array Value} {β : Type} (v : β → Value) (hs' : β → List (Nat × Obj)) (C : β → Prop)
    (ho : ops[i]? = some o) (hw : wantedL ops l o = some true) (hk : known l o.op = true) (hd : o.dst = some d) (hdn : Nat.blt d n = true)
    (hop : o.op = .call c) (hc : c.callee = .value x) (hx : ev l x = some y) (hargs : c.args.map (evD l) = args)
    (hcall : ∀ W, Rep W0 M hs W → CallV P y args W fun e W' => ∃ b, C b ∧ e = .returned (v b) ∧ Rep W0 M (hs' b) W')
    (k : ∀ b, C b → OpsT P r n ds W0 M ops Q rest (setL l d (v b)) (hs' b)) : OpsT P r n ds W0 M ops Q (i :: rest) l hs := by
  refine opsT_op ho hw hk fun a W ha hR => ?_
  have e1 : evD l x = y := by simp [evD, hx]
  have h := hcall W hR
  have hrun : (execOp (evD l) o).run P W = (do let d ← Deferred.ofValue y args; invoke d.target d.args : Sem Next).run P W := by
    unfold execOp
    rw [hop]
    simp only [resolve, hc, e1, hargs]
  rw [hrun]
  unfold CallV at h
  split at h
  · rename_i f as W' he
    rw [he, Oper.uponIn_enter]
    refine ⟨FR_depth, callsFR.2 (h.mono fun e W' ⟨b, hC, hb, hR'⟩ => ?_)⟩
    subst hb
    show wpOpsIn (FR r) 0 P ops Q rest (a.put o.dst (v b)) W'
    rw [hd]
    exact k b hC _ _ (ha.put hdn _) hR'
  · rename_i he
    rw [he, Oper.uponIn_round]
    refine ⟨FR_depth, roundFR.2 (h.mono fun e W' ⟨b, hC, hb, hR'⟩ => ?_)⟩
    subst hb
    show wpOpsIn (FR r) 0 P ops Q rest (a.put o.dst (v b)) W'
    rw [hd]
    exact k b hC _ _ (ha.put hdn _) hR'
  · exact h.elim

/-- What a round comes to, k rounds being over. -/
def YPost (W0 : World) (M : List Nat) {β : Type} (H : β → List (Nat × Obj)) (I Ix : β → Prop) (own : List (Nat × Obj)) (e : Ending) (W : World) : Prop :=
  (e = .returned (.bool true) ∧ ∃ x, I x ∧ Rep W0 M (H x ++ own) W) ∨ (e = .returned (.bool false) ∧ ∃ x, Ix x ∧ Rep W0 M (H x ++ own) W)

/-- Function f, on what it has captured, is an iterator over xs 0, .., xs (N - 1): it calls what it is given at each of them, in order, till it is told to stop. -/
structure Iter (P : Program) (f : FuncId) (caps : Array Value) (capt : List (Nat × Obj)) (N : Nat) (xs : Nat → Array Value) (W0 : World) (M : List Nat) : Prop where
  run : ∀ (β : Type) (H : β → List (Nat × Obj)) (I : Nat → β → Prop) (Ix : β → Prop) (yv : Value),
    (∀ k, k < N → ∀ x, I k x → ∀ own W, Rep W0 M (H x ++ own) W → CallV P yv (xs k) W (YPost W0 M H (I (k + 1)) Ix own)) →
    ∀ x, I 0 x → ∀ own W, Rep W0 M (H x ++ (capt ++ own)) W →
      Calls P f (#[yv] ++ caps) W fun e W' => e = .returned (.tuple #[]) ∧ ((∃ x, I N x ∧ Rep W0 M (H x ++ (capt ++ own)) W') ∨ (∃ x, Ix x ∧ Rep W0 M (H x ++ (capt ++ own)) W'))

/-! ### the statement -/

def foldP : List (Nat × Value) → List (Nat × Value) → List (Nat × Value)
  | l, [] => l
  | l, (t, v) :: ps => foldP (setL l t v) ps

theorem agree_fold : ∀ (ps : List (Nat × Value)) (l : List (Nat × Value)) (tmps : Array Value), (ps.all fun p => Nat.blt p.1 n) = true → Agree n [] l ⟨tmps, []⟩ →
    Agree n [] (foldP l ps) ⟨ps.foldl (fun tmps p => tmps.setIfInBounds p.1 p.2) tmps, []⟩
  | [], _, _, _, h => h
  | (t, v) :: ps, l, tmps, hb, h => by
    simp only [List.all_cons, Bool.and_eq_true] at hb
    exact agree_fold ps _ _ hb.2 (h.put hb.1 v)

/-- The mark that an outermost loop lays among the deferred calls. -/
abbrev markOf (D : Nat) : Deferred := { target := .collected D, args := #[] }

/-- What is asked at the end of a round of loop L: what went on, or stopped. -/
def RoundQ (W0 : World) (M : List Nat) (L : Nat) (rc : Loop) {β : Type} (H : β → List (Nat × Obj)) (I : β → Prop) (J : Code → β → Prop) (own : List (Nat × Obj)) : Exit → Act → World → Prop
  | .normal, _, W => ∃ x, I x ∧ Rep W0 M ((L, .loop { rc with state := .busy }) :: (H x ++ own)) W
  | .ret, _, W => ∃ x, J .ret x ∧ Rep W0 M ((L, .loop { rc with state := .busy }) :: (H x ++ own)) W
  | .exit id, _, W => ∃ x, J (.exit id) x ∧ Rep W0 M ((L, .loop { rc with state := .busy }) :: (H x ++ own)) W
  | _, _, _ => False

theorem rep_putObj {b : Nat} {o o' : Obj} {rest : List (Nat × Obj)} {W : World} (h : Rep W0 M ((b, o) :: rest) W) : Rep W0 M ((b, o') :: rest) (W.putObj b o') := by
  have := h.turn (k := 0) (b := b) (o := o) rfl o' (W' := W.putObj b o') (by simp) (World.putObj_heap_same (h.lt (List.mem_cons_self ..))) (fun c hc => World.putObj_heap_other hc) ⟨rfl, rfl, rfl, Nat.le_refl _⟩
  simpa using this

/-- The frame of a round's assign code goes on into the round's body. -/
def AssignQ (P : Program) (n : Nat) (W0 : World) (M : List Nat) (L : Nat) (body : Code) (Q : Exit → Act → World → Prop) : Exit → Act → World → Prop :=
  Exit.then (fun a W => ∃ W', (Instr.beginRound L).run P W = .ok () W' ∧ body.wpIn (FR (some L)) 0 P Q a W') (fun _ _ _ => False)

theorem post_assign {L : Nat} {rc : Loop} {body : Code} {pre rest : List (Nat × Obj)} (hst : rc.state = .ready) (h : Tri P (some L) n [] W0 M body Q l ((L, .loop { rc with state := .busy }) :: (pre ++ rest))) :
    PostT n [] W0 M (AssignQ P n W0 M L body Q) .normal l (pre ++ (L, .loop rc) :: rest) := by
  intro a W ha hR
  have hR' : Rep W0 M ((L, .loop rc) :: (pre ++ rest)) W := hR.perm List.perm_middle
  have hL := hR'.own L _ (List.mem_cons_self ..)
  exact ⟨_, run_beginRound hL hst, h a _ ha (rep_putObj hR')⟩

theorem callV_yield {L : Nat} {rc : Loop} {args : Array Value} {β : Type} {H : β → List (Nat × Obj)} {I : β → Prop} {J : Code → β → Prop} {ps : List (Nat × Value)} {own rest : List (Nat × Obj)} {W : World}
    (hst : rc.state = .ready) (hpe : rc.pending = none) (hag : Agree n [] l ⟨rc.tmps, []⟩) (hps : rc.params.toList.zip args.toList = ps) (hsz : args.size = rc.params.size) (hb : (ps.all fun p => Nat.blt p.1 n) = true)
    (hR : Rep W0 M ((L, .loop rc) :: rest) W)
    (h : Tri P (some L) n [] W0 M rc.assign (AssignQ P n W0 M L rc.body (RoundQ W0 M L rc H I J own)) (foldP l ps) ((L, .loop rc) :: rest)) :
    CallV P (.func (.yield L) #[] #[]) args W (YPost W0 M (fun y : β × Loop => (L, Obj.loop y.2) :: H y.1) (fun y => y.2 = rc ∧ I y.1) (fun y => ∃ c, y.2 = { rc with state := .done, pending := some c } ∧ J c y.1) own) := by
  have hL := hR.own L _ (List.mem_cons_self ..)
  unfold CallV
  have e0 : (#[] ++ args : Array Value) = args := by simp
  simp only [Deferred.ofValue, Sem.run_bind, Sem.run_pure, Result.andThen_ok, invoke, e0, run_yield hL hsz]
  refine roundIn_of_wpIn (F := Fence.wide) (n := 0) trivial ?_
  have hfold : (rc.params.zip args).foldl (fun tmps (p : Nat × Value) => tmps.setIfInBounds p.1 p.2) rc.tmps = ps.foldl (fun tmps p => tmps.setIfInBounds p.1 p.2) rc.tmps := by
    rw [← hps, ← Array.foldl_toList, Array.toList_zip]
  have hag' := agree_fold ps l rc.tmps hb hag
  rw [← hfold] at hag'
  have hw := h _ W hag' hR
  refine wpIn_mono hw fun e a W' hq => ?_
  cases e with
  | normal =>
    obtain ⟨W2, hbr, hbody⟩ := hq
    refine ⟨W2, hbr, wpIn_mono hbody fun e a W3 hq => ?_⟩
    have hend : ∀ (jump : Option Code) {x : β}, Rep W0 M ((L, .loop { rc with state := .busy }) :: (H x ++ own)) W3 →
        (Instr.endRound L jump).run P W3 = .ok (.bool jump.isNone) (W3.putObj L (.loop { rc with state := if jump.isNone then .ready else .done, pending := jump })) ∧
        Rep W0 M ((L, .loop { rc with state := if jump.isNone then .ready else .done, pending := jump }) :: (H x ++ own)) (W3.putObj L (.loop { rc with state := if jump.isNone then .ready else .done, pending := jump })) := fun jump x hR3 =>
      ⟨run_endRound (r := { rc with state := .busy }) jump (hR3.own L _ (List.mem_cons_self ..)), rep_putObj hR3⟩
    cases e with
    | normal =>
      obtain ⟨x, hI, hR3⟩ := hq
      obtain ⟨h1, h2⟩ := hend none hR3
      refine ⟨_, _, h1, .inl ⟨rfl, (x, rc), ⟨rfl, hI⟩, ?_⟩⟩
      have : ({ rc with state := if (none : Option Code).isNone then .ready else .done, pending := none } : Loop) = rc := by
        cases rc; simp_all
      rw [this] at h2 ⊢
      simpa using h2
    | ret =>
      obtain ⟨x, hJ, hR3⟩ := hq
      obtain ⟨h1, h2⟩ := hend (some .ret) hR3
      exact ⟨_, _, h1, .inr ⟨rfl, (x, { rc with state := .done, pending := some .ret }), ⟨.ret, rfl, hJ⟩, by simpa using h2⟩⟩
    | exit id =>
      obtain ⟨x, hJ, hR3⟩ := hq
      obtain ⟨h1, h2⟩ := hend (some (.exit id)) hR3
      exact ⟨_, _, h1, .inr ⟨rfl, (x, { rc with state := .done, pending := some (.exit id) }), ⟨.exit id, rfl, hJ⟩, by simpa using h2⟩⟩
    | goto t => exact hq.elim
    | panic c => exact hq.elim
    | outgrown => exact hq.elim
  | exit id => exact hq.elim
  | goto t => exact hq.elim
  | ret => exact hq.elim
  | panic c => exact hq.elim
  | outgrown => exact hq.elim

/-- **A range over a function, not within a round.** -/
theorem tri_range {g : Operand} {ps : Array Tmp} {assign body : Code} {f : FuncId} {caps : Array Value} {capt own : List (Nat × Obj)} {N : Nat} {xs : Nat → Array Value} {β : Type} (H : β → List (Nat × Obj)) (I : Nat → β → Prop) (J : Code → β → Prop) (x₀ : β)
    (hg : ev l g = some (.func (.func f) #[] caps)) (he : Enters P f) (hit : Iter P f caps capt N xs W0 M) (hhs : hs = capt ++ (H x₀ ++ own)) (h0 : I 0 x₀)
    (hsz : ∀ k, k < N → (xs k).size = ps.size) (hb : ∀ k, k < N → ((ps.toList.zip (xs k).toList).all fun p => Nat.blt p.1 n) = true)
    (round : ∀ k, k < N → ∀ x, I k x → ∀ (L : Nat) (rc : Loop) (own' : List (Nat × Obj)), rc.state = .ready →
      Tri P (some L) n [] W0 M assign (AssignQ P n W0 M L body (RoundQ W0 M L rc H (I (k + 1)) J own')) (foldP l (ps.toList.zip (xs k).toList)) ((L, .loop rc) :: (H x ++ own')))
    (done : ∀ x, I N x → ∀ (D L : Nat) (rc : Loop), PostT n (markOf D :: ds) W0 M Q .normal l ((D, .deferred (some [])) :: (L, .loop rc) :: (H x ++ (capt ++ own))))
    (stop : ∀ c x, J c x → ∀ (D L : Nat) (rc : Loop), Tri P none n (markOf D :: ds) W0 M c Q l ((D, .deferred (some [])) :: (L, .loop rc) :: (H x ++ (capt ++ own)))) :
    Tri P none n ds W0 M (.rangeFunc g ps assign body) Q l hs := by
  subst hhs
  intro a W ha hR
  refine wpIn_rangeFunc fun fn _ => ?_
  have hent := run_enterLoop_outer (P := P) (w := W) fn a.tmps ps assign body
  have hgv : a.eval g = .func (.func f) #[] caps := ha.eval hg
  let rc : Loop := { state := .ready, pending := none, fn := fn, tmps := a.tmps, params := ps, assign := assign, body := body, defers := W.heap.size }
  have hR1 : Rep W0 M ((W.heap.size, .deferred (some [])) :: (capt ++ (H x₀ ++ own))) (W.alloc (.deferred (some []))) := hR.push _
  have hR2 : Rep W0 M ((W.heap.size + 1, .loop rc) :: (W.heap.size, .deferred (some [])) :: (capt ++ (H x₀ ++ own))) ((W.alloc (.deferred (some []))).alloc (.loop rc)) := by
    have := hR1.push (.loop rc)
    have e : (W.alloc (Obj.deferred (some []))).heap.size = W.heap.size + 1 := World.size_alloc _ _
    rw [e] at this
    exact this
  refine ⟨W.heap.size + 1, [markOf W.heap.size], (W.alloc (.deferred (some []))).alloc (.loop rc), { target := .fn (.func f) caps, args := #[.func (.yield (W.heap.size + 1)) #[] #[]] }, (W.alloc (.deferred (some []))).alloc (.loop rc), f, #[.func (.yield (W.heap.size + 1)) #[] #[]] ++ caps, (W.alloc (.deferred (some []))).alloc (.loop rc), hent, ?_, fun _ _ => trivial, ?_, FR_depth (r := none) (p := 1 ≤ 0), ?_⟩
  · simp only [rangeCall, resolve, hgv, Deferred.ofValue, Sem.run_pure]
    simp [Act.eval]
  · simp only [invoke, he.run]
  · refine callsFR.2 ?_
    let H2 : β × Loop → List (Nat × Obj) := fun y => (W.heap.size + 1, Obj.loop y.2) :: H y.1
    have permA : ∀ (x : β) (o : Obj), ((W.heap.size, o) :: (capt ++ (H x ++ own))).Perm (H x ++ (capt ++ ((W.heap.size, o) :: own))) := fun x o => by
      rw [← List.append_assoc (H x), ← List.append_assoc capt]
      exact (List.Perm.cons _ (List.perm_append_comm.append_right own)).trans List.perm_middle.symm
    have permC : ∀ (x : β) (o : Obj), (H x ++ (capt ++ ((W.heap.size, o) :: own))).Perm ((W.heap.size, o) :: (H x ++ (capt ++ own))) := fun x o => by
      have := List.perm_middle (l₁ := H x ++ capt) (l₂ := own) (a := (W.heap.size, o))
      simpa [List.append_assoc] using this
    have permB : ∀ (x : β) (o : Obj) (lp : Loop), (H2 (x, lp) ++ (capt ++ ((W.heap.size, o) :: own))).Perm ((W.heap.size, o) :: (W.heap.size + 1, Obj.loop lp) :: (H x ++ (capt ++ own))) := fun x o lp =>
      List.Perm.trans (List.Perm.cons _ (permC x o)) (List.Perm.swap _ _ _)
    have hR3 : Rep W0 M (H2 (x₀, rc) ++ (capt ++ ((W.heap.size, .deferred (some [])) :: own))) ((W.alloc (.deferred (some []))).alloc (.loop rc)) := hR2.perm (List.Perm.cons _ (permA x₀ _))
    have hrec : Agree n [] l ⟨rc.tmps, []⟩ := ⟨ha.size, rfl, ha.slot⟩
    have hbody := hit.run (β × Loop) H2 (fun k y => y.2 = rc ∧ I k y.1) (fun y => ∃ c, y.2 = { rc with state := .done, pending := some c } ∧ J c y.1) (.func (.yield (W.heap.size + 1)) #[] #[])
      (fun k hk y hy own' W' hW' => by
        obtain ⟨x, lp⟩ := y
        obtain ⟨rfl, hI⟩ := hy
        exact callV_yield (n := n) (l := l) (rc := rc) (H := H) (I := I (k + 1)) (J := J) (own := own') rfl rfl hrec rfl (hsz k hk) (hb k hk) hW' (round k hk x hI _ rc own' rfl))
      (x₀, rc) ⟨rfl, h0⟩ _ _ hR3
    refine hbody.mono fun e W' ⟨he, hq⟩ => ?_
    subst he
    have hag : Agree n (markOf W.heap.size :: ds) l { a with defers := [markOf W.heap.size] ++ a.defers } := ⟨ha.size, by simp [ha.defers], ha.slot⟩
    have hend : ∀ (x : β) (lp : Loop), lp.state ≠ .busy → Rep W0 M (H2 (x, lp) ++ (capt ++ ((W.heap.size, .deferred (some [])) :: own))) W' →
        ∃ w4, (Instr.endLoop (W.heap.size + 1)).run P W' = .ok lp.pending w4 ∧ Rep W0 M ((W.heap.size, .deferred (some [])) :: (W.heap.size + 1, .loop { lp with state := .exhausted }) :: (H x ++ (capt ++ own))) w4 := fun x lp hst hW' => by
      have hL := hW'.own (W.heap.size + 1) (.loop lp) (by simp [H2])
      refine ⟨_, run_endLoop hL hst, ?_⟩
      have h1 : Rep W0 M ((W.heap.size + 1, Obj.loop lp) :: (H x ++ (capt ++ ((W.heap.size, .deferred (some [])) :: own)))) W' := hW'
      exact (rep_putObj h1 (o' := .loop { lp with state := .exhausted })).perm (permB x _ { lp with state := .exhausted })
    rcases hq with ⟨⟨x, lp⟩, ⟨rfl, hI⟩, hW'⟩ | ⟨⟨x, lp⟩, ⟨c, rfl, hJ⟩, hW'⟩
    · obtain ⟨w4, h1, h2⟩ := hend x rc (by simp [rc]) hW'
      exact ⟨none, w4, h1, done x hI _ _ _ _ _ hag h2⟩
    · obtain ⟨w4, h1, h2⟩ := hend x _ (by simp) hW'
      exact ⟨some c, w4, h1, stop c x hJ _ _ _ _ _ hag h2⟩

/-! ### functions that hold such a statement -/

theorem calls_ofMarks {f : FuncId} {fn : Func} {c : Code} {args : Array Value} {w : World} {R : Ending → World → Prop} (hf : P.funcs[f]? = some fn) (hb : fn.body = some c) (hn : fn.ntmps = n) (hle : Nat.ble args.size n = true)
    (hR : Rep W0 M hs w) (h : Tri P none n [] W0 M c (bodyPostM (FR none) 0 P fn R) (initL 0 args.toList) hs) : Calls P f args w R := by
  refine callsFR (r := none) (n := 0) |>.1 (callsIn_of_wp_marks hf hb trivial ?_)
  refine h _ _ ⟨?_, rfl, fun d v hd => ?_⟩ hR
  · have := Nat.le_of_ble_eq_true hle
    simp [hn]; omega
  · obtain ⟨_, h2⟩ := look_initL hd
    have h3 : args[d]? = some v := by simpa using h2
    have h4 : d < args.size := (Array.getElem?_eq_some_iff.1 h3).1
    rw [Array.getElem?_append_left h4]; exact h3

/-- The same without such a statement, from whatever is known of the heap. -/
theorem calls_ofR {f : FuncId} {fn : Func} {c : Code} {args : Array Value} {w : World} {R : Ending → World → Prop} (hf : P.funcs[f]? = some fn) (hb : fn.body = some c) (hn : fn.ntmps = n) (hle : Nat.ble args.size n = true)
    (hR : Rep W0 M hs w) (h : Tri P none n [] W0 M c (bodyPost P fn R) (initL 0 args.toList) hs) : Calls P f args w R := by
  refine callsFR (r := none) (n := 0) |>.1 (callsIn_of_wp hf hb trivial ?_)
  refine h _ _ ⟨?_, rfl, fun d v hd => ?_⟩ hR
  · have := Nat.le_of_ble_eq_true hle
    simp [hn]; omega
  · obtain ⟨_, h2⟩ := look_initL hd
    have h3 : args[d]? = some v := by simpa using h2
    have h4 : d < args.size := (Array.getElem?_eq_some_iff.1 h3).1
    rw [Array.getElem?_append_left h4]; exact h3

/-- The way out through the marks. -/
def OutM (P : Program) (n : Nat) (W0 : World) (M : List Nat) (fn : Func) (R : Ending → World → Prop) (ds : List Deferred) (l : List (Nat × Value)) (hs : List (Nat × Obj)) : Prop :=
  ∀ (tmps : Array Value) W, (∀ d v, look l d = some v → tmps[d]? = some v) → Rep W0 M hs W → LeavesInM (FR none) 0 P fn tmps R ds .returning W

theorem post_outM {fn : Func} {R : Ending → World → Prop} (h : OutM P n W0 M fn R ds l hs) : PostT n ds W0 M (bodyPostM (FR none) 0 P fn R) .ret l hs := fun a W ha hR => by
  show LeavesInM (FR none) 0 P fn a.tmps R a.defers .returning W
  rw [ha.defers]; exact h a.tmps W ha.slot hR
theorem post_outMn {fn : Func} {R : Ending → World → Prop} (h : OutM P n W0 M fn R ds l hs) : PostT n ds W0 M (bodyPostM (FR none) 0 P fn R) .normal l hs := fun a W ha hR => by
  show LeavesInM (FR none) 0 P fn a.tmps R a.defers .returning W
  rw [ha.defers]; exact h a.tmps W ha.slot hR

theorem outM_mark {fn : Func} {R : Ending → World → Prop} {D : Nat} (k : Nat) (hk : hs[k]? = some (D, .deferred (some []))) (h : OutM P n W0 M fn R ds l (hs.set k (D, .deferred none))) : OutM P n W0 M fn R (markOf D :: ds) l hs := by
  intro tmps W ht hR
  refine ⟨by simp, .inl ⟨D, _, rfl, run_takeDeferred (hR.own _ _ (List.mem_of_getElem? hk)), h tmps _ ht ?_⟩⟩
  exact hR.turn hk _ (by simp) (World.putObj_heap_same (hR.lt (List.mem_of_getElem? hk))) (fun c hc => World.putObj_heap_other hc) ⟨rfl, rfl, rfl, Nat.le_refl _⟩

theorem ResV.runT {rv : ResultVar} {v : Value} (h : ResV P l hs rv v) {tmps : Array Value} {W : World} (ht : ∀ d v, look l d = some v → tmps[d]? = some v) (hR : Rep W0 M hs W) : (rvSem tmps rv).run P W = .ok v W :=
  h.run (n := tmps.size) (ds := []) (a := ⟨tmps, []⟩) ⟨rfl, rfl, ht⟩ hR

theorem outM_ret1 {fn : Func} {R : Ending → World → Prop} {rv : ResultVar} {v : Value} (hr : fn.results = #[rv]) (h : ResV P l hs rv v) (hR : ∀ W, Rep W0 M hs W → R (.returned v) W) : OutM P n W0 M fn R [] l hs := by
  intro tmps W ht hW
  refine ⟨v, ?_, hR W hW⟩
  rw [results_eq, hr]
  simp [Sem.run_bind, Result.andThen, h.runT ht hW]
theorem outM_ret0 {fn : Func} {R : Ending → World → Prop} (hr : fn.results = #[]) (hR : ∀ W, Rep W0 M hs W → R (.returned (.tuple #[])) W) : OutM P n W0 M fn R [] l hs := by
  intro tmps W ht hW
  refine ⟨_, ?_, hR W hW⟩
  rw [results_eq, hr]
  simp [Sem.run_bind, Result.andThen]
theorem outM_ret2 {fn : Func} {R : Ending → World → Prop} {rv rv' : ResultVar} {v v' : Value} (hr : fn.results = #[rv, rv']) (h : ResV P l hs rv v) (h' : ResV P l hs rv' v') (hR : ∀ W, Rep W0 M hs W → R (.returned (.tuple #[v, v'])) W) : OutM P n W0 M fn R [] l hs := by
  intro tmps W ht hW
  refine ⟨_, ?_, hR W hW⟩
  rw [results_eq, hr]
  simp [Sem.run_bind, Result.andThen, h.runT ht hW, h'.runT ht hW]
theorem outM_ret3 {fn : Func} {R : Ending → World → Prop} {rv rv' rw : ResultVar} {v v' u : Value} (hr : fn.results = #[rv, rv', rw]) (h : ResV P l hs rv v) (h' : ResV P l hs rv' v') (h'' : ResV P l hs rw u)
    (hR : ∀ W, Rep W0 M hs W → R (.returned (.tuple #[v, v', u])) W) : OutM P n W0 M fn R [] l hs := by
  intro tmps W ht hW
  refine ⟨_, ?_, hR W hW⟩
  rw [results_eq, hr]
  simp [Sem.run_bind, Result.andThen, h.runT ht hW, h'.runT ht hW, h''.runT ht hW]

/-- The ends of a round. -/
theorem post_rq {L : Nat} {rc : Loop} {β : Type} {H : β → List (Nat × Obj)} {I : β → Prop} {J : Code → β → Prop} {own : List (Nat × Obj)} (x : β) (hI : I x) (hh : (((L, Obj.loop { rc with state := .busy }) :: (H x ++ own)) : List (Nat × Obj)).Sublist hs) :
    PostT n ds W0 M (RoundQ W0 M L rc H I J own) .normal l hs := fun a W ha hR => ⟨x, hI, hR.forget hh⟩
theorem post_rq_ret {L : Nat} {rc : Loop} {β : Type} {H : β → List (Nat × Obj)} {I : β → Prop} {J : Code → β → Prop} {own : List (Nat × Obj)} (x : β) (hJ : J .ret x) (hh : (((L, Obj.loop { rc with state := .busy }) :: (H x ++ own)) : List (Nat × Obj)).Sublist hs) :
    PostT n ds W0 M (RoundQ W0 M L rc H I J own) .ret l hs := fun a W ha hR => ⟨x, hJ, hR.forget hh⟩
theorem post_rq_exit {L : Nat} {rc : Loop} {β : Type} {H : β → List (Nat × Obj)} {I : β → Prop} {J : Code → β → Prop} {own : List (Nat × Obj)} {id : Nat} (x : β) (hJ : J (.exit id) x) (hh : (((L, Obj.loop { rc with state := .busy }) :: (H x ++ own)) : List (Nat × Obj)).Sublist hs) :
    PostT n ds W0 M (RoundQ W0 M L rc H I J own) (.exit id) l hs := fun a W ha hR => ⟨x, hJ, hR.forget hh⟩

/-- The assign code of a round ends: on with the body. -/
theorem post_assign' {L : Nat} {rc : Loop} {body : Code} {pre rest : List (Nat × Obj)} (hst : rc.state = .ready) (hhs : hs = pre ++ (L, .loop rc) :: rest) (h : Tri P (some L) n [] W0 M body Q l ((L, .loop { rc with state := .busy }) :: (pre ++ rest))) :
    PostT n [] W0 M (AssignQ P n W0 M L body Q) .normal l hs := by subst hhs; exact post_assign hst h

/-- An iterator's call of what it was given: it goes on, or it is told to stop. -/
theorem opsT_yield {i : Nat} {rest : List Nat} {o : Oper} {d : Nat} {c : Call} {x : Operand} {y : Value} {args : Array Value} {β : Type} {H : β → List (Nat × Obj)} {I' Ix : β → Prop} {z : β} (pre own : List (Nat × Obj))
    (ho : ops[i]? = some o) (hw : wantedL ops l o = some true) (hk : known l o.op = true) (hd : o.dst = some d) (hdn : Nat.blt d n = true)
    (hop : o.op = .call c) (hc : c.callee = .value x) (hx : ev l x = some y) (hargs : c.args.map (evD l) = args) (hhs : hs = pre ++ (H z ++ own))
    (hy : ∀ own W, Rep W0 M (H z ++ own) W → CallV P y args W (YPost W0 M H I' Ix own))
    (k1 : ∀ z', I' z' → OpsT P r n ds W0 M ops Q rest (setL l d (.bool true)) (pre ++ (H z' ++ own)))
    (k2 : ∀ z', Ix z' → OpsT P r n ds W0 M ops Q rest (setL l d (.bool false)) (pre ++ (H z' ++ own))) : OpsT P r n ds W0 M ops Q (i :: rest) l hs := by
  subst hhs
  have perm : ∀ z, (pre ++ (H z ++ own)).Perm (H z ++ (pre ++ own)) := fun z => List.perm_append_comm_assoc _ _ _
  refine opsT_callv (β := Bool × β) (fun b => .bool b.1) (fun b => pre ++ (H b.2 ++ own)) (fun b => (b.1 = true → I' b.2) ∧ (b.1 = false → Ix b.2)) ho hw hk hd hdn hop hc hx hargs
    (fun W hR => (hy (pre ++ own) W (hR.perm (perm z))).mono fun e W' h => ?_) (fun b hC => ?_)
  · rcases h with ⟨rfl, z', hI, hR'⟩ | ⟨rfl, z', hI, hR'⟩
    · exact ⟨(true, z'), ⟨fun _ => hI, fun h => by cases h⟩, rfl, hR'.perm (perm z').symm⟩
    · exact ⟨(false, z'), ⟨(fun h => by cases h), fun _ => hI⟩, rfl, hR'.perm (perm z').symm⟩
  · obtain ⟨bb, z'⟩ := b
    cases bb with
    | true => exact k1 z' (hC.1 rfl)
    | false => exact k2 z' (hC.2 rfl)

/-- An iterator's walk begins. -/
theorem calls_iter {f : FuncId} {fn : Func} {c : Code} {args : Array Value} {w : World} {R : Ending → World → Prop} {β : Type} {H : β → List (Nat × Obj)} {z : β} {capt own : List (Nat × Obj)} (hf : P.funcs[f]? = some fn) (hb : fn.body = some c) (hn : fn.ntmps = n)
    (hle : Nat.ble args.size n = true) (hR : Rep W0 M (H z ++ (capt ++ own)) w) (h : Tri P none n [] W0 M c (bodyPost P fn R) (initL 0 args.toList) (capt ++ (H z ++ own))) : Calls P f args w R :=
  calls_ofR hf hb hn hle (hR.perm (List.perm_append_comm_assoc _ _ _)) h
theorem Rep.back {β : Type} {H : β → List (Nat × Obj)} {z : β} {capt own : List (Nat × Obj)} {W : World} (hR : Rep W0 M (capt ++ (H z ++ own)) W) : Rep W0 M (H z ++ (capt ++ own)) W :=
  hR.perm (List.perm_append_comm_assoc _ _ _)

end
end Go.Proofs.Walk
