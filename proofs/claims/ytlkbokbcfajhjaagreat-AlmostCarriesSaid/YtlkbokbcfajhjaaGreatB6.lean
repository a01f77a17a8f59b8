/- B6: slices that are made. -/
import Derived.Test.YtlkbokbcfajhjaaGreatB5
import Derived.Laws.MakeOwn
import Derived.Great.BuildSlice
import Derived.Deep.AppendSrc
namespace Go.Proofs.Walk
open Go.Proofs
set_option linter.unusedVariables false
set_option linter.unusedSimpArgs false
section
variable {P : Program} {r : Option Nat} {n : Nat} {ds : List Deferred} {W0 : World} {M : List Nat} {ops : Array Oper} {Q : Exit → Act → World → Prop} {l : List (Nat × Value)} {hs : List (Nat × Obj)}

/-- A block of values. -/
def vecB (vs : List Value) (t : TypeId) : Obj := .cells vs.toArray t (0, 0)
/-- A block of bools. -/
def boolsB (xs : List Bool) (t : TypeId) : Obj := .cells (xs.map Value.bool).toArray t (0, 0)

theorem cells_bools {W : World} {b off : Nat} {xs : List Bool} {t : TypeId} (h : W.heap[b]? = some (boolsB xs t)) (hle : off < xs.length) : Cells W b off [.bool (xs.getD off false)] := by
  intro i v hi
  rw [cell_own h]
  rcases i with _ | i
  · simp at hi
    subst hi
    simp [List.getD, hle]
  · simp at hi

theorem opsT_loadBool {i : Nat} {rest : List Nat} {o : Oper} {d : Nat} {t : TypeId} {x : Operand} (k : Nat) (b off : Nat) (xs : List Bool) (e : TypeId)
    (ho : ops[i]? = some o) (hw : wantedL ops l o = some true) (hk : known l o.op = true) (hd : o.dst = some d) (hdn : Nat.blt d n = true)
    (hop : o.op = .load t x) (hx : ev l x = some (.pointer (some ⟨b, off, none⟩))) (hh : hs[k]? = some (b, boolsB xs e)) (hle : off < xs.length) (hl : ∀ bb, loaded P t [.bool bb] = some (.bool bb))
    (kk : OpsT P r n ds W0 M ops Q rest (setL l d (.bool (xs.getD off false))) hs) : OpsT P r n ds W0 M ops Q (i :: rest) l hs :=
  opsT_value ho hw hk hd hdn (fun _ hR => run_load hop hx (hl _) (cells_bools (hR.own _ _ (List.mem_of_getElem? hh)) hle)) kk

theorem opQ_loadBool {lk : List (Nat × Value)} {i d : Nat} {o : Oper} {t : TypeId} {x : Operand} (k : Nat) (b off : Nat) (xs : List Bool) (e : TypeId)
    (ho : ops[i]? = some o) (hw : wantedL ops lk o = some true) (hk : known lk o.op = true) (hd : o.dst = some d) (hdn : Nat.blt d n = true)
    (hop : o.op = .load t x) (hx : ev lk x = some (.pointer (some ⟨b, off, none⟩))) (hh : hs[k]? = some (b, boolsB xs e)) (hle : off < xs.length) (hl : ∀ bb, loaded P t [.bool bb] = some (.bool bb)) : OpQ P n (Rep W0 M hs) ops lk i (.bool (xs.getD off false)) :=
  ⟨o, d, ho, hd, Nat.le_of_ble_eq_true hdn, .inr (.inl ⟨hw, hk, fun _ hR => run_load hop hx (hl _) (cells_bools (hR.own _ _ (List.mem_of_getElem? hh)) hle)⟩)⟩

theorem opsT_storeBool {i : Nat} {rest : List Nat} {o : Oper} {t : TypeId} {x y : Operand} (k : Nat) (b off : Nat) (xs : List Bool) (e : TypeId) (z : Bool)
    (ho : ops[i]? = some o) (hw : wantedL ops l o = some true) (hk : known l o.op = true) (hd : o.dst = none)
    (hop : o.op = .store t x y) (hx : ev l x = some (.pointer (some ⟨b, off, none⟩))) (hy : ev l y = some (.bool z)) (hh : hs[k]? = some (b, boolsB xs e))
    (hsz : (P.info? t).map (·.size) = some 1) (hlt : off < xs.length)
    (kk : OpsT P r n ds W0 M ops Q rest l (hs.set k (b, boolsB (xs.set off z) e))) : OpsT P r n ds W0 M ops Q (i :: rest) l hs := by
  refine opsT_store k b off _ ((xs.set off z).map Value.bool).toArray e (.bool z) ho hw hk hd hop hx hy hh hsz rfl (Nat.ble_eq_true_of_le (by simp [Value.cells]; omega)) ?_ kk
  simp [Value.cells, setCells, List.map_set]

/-! ### making -/

theorem madeCells_one (z : Value) (n : Nat) : madeCells #[z] n = (List.replicate n z).toArray := by
  unfold madeCells
  apply Array.ext
  · simp
  · intro i h1 h2
    simp [Nat.mod_one]

theorem opsT_make {i : Nat} {rest : List Nat} {o : Oper} {d : Nat} {t e : TypeId} {x y : Operand} (len : Int) (z : Value) (bytes : Nat)
    (ho : ops[i]? = some o) (hw : wantedL ops l o = some true) (hk : known l o.op = true) (hd : o.dst = some d) (hdn : Nat.blt d n = true)
    (hop : o.op = .makeSlice t x y) (hx : ev l x = some (.int .i64 len)) (hy : ev l y = some (.int .i64 len)) (ht : P.underlying t = some (.slice e))
    (hi : (P.info? e).map (fun i => (i.size, i.zero, i.bytes)) = some (1, some z, bytes)) (hz : z.cells = #[z]) (h0 : 0 ≤ len) (hb : (bytes : Int) * len ≤ 281474976710656) (h63 : len ≤ 9223372036854775807)
    (k : ∀ b, OpsT P r n ds W0 M ops Q rest (setL l d (.slice (some ⟨b, 0, none⟩) len.toNat len.toNat)) ((b, vecB (List.replicate len.toNat z) e) :: hs)) : OpsT P r n ds W0 M ops Q (i :: rest) l hs := by
  refine opsT_some (β := Nat) (fun b => .slice (some ⟨b, 0, none⟩) len.toNat len.toNat) (fun b => (b, vecB (List.replicate len.toNat z) e) :: hs) ho hw hk hd hdn (fun W hR => ⟨W.heap.size, _, ?_, hR.push _⟩) k
  obtain ⟨inf, hinf, hs⟩ := Option.map_eq_some_iff.1 hi
  have h1 : inf.size = 1 := congrArg (·.1) hs
  have h2 : inf.zero = some z := congrArg (·.2.1) hs
  have h3 : inf.bytes = bytes := congrArg (·.2.2) hs
  have e1 : evD l x = .int .i64 len := by simp [evD, hx]
  have e2 : evD l y = .int .i64 len := by simp [evD, hy]
  unfold execOp
  rw [hop]
  refine run_value ?_
  rw [e1, e2, run_make W t e inf z ht hinf h2 .i64 .i64 len len h0 (Int.le_refl _) (by rw [h3]; exact hb) h63, h1, hz, Nat.mul_one, madeCells_one]
  rfl

/-! ### appending -/

/-- A slice of one's own, in the blocks hv: the cells vs, in m elements of a given size. -/
def Vec (e : TypeId) (size : Nat) (vs : List Value) (m : Nat) (sv : Value) (hv : List (Nat × Obj)) : Prop :=
  vs.length = m * size ∧ ((sv = .slice none 0 0 ∧ m = 0 ∧ hv = []) ∨ ∃ b cap spare, sv = .slice (some ⟨b, 0, none⟩) m cap ∧ m ≤ cap ∧ (vs ++ spare).length = cap * size ∧ hv = [(b, vecB (vs ++ spare) e)])

theorem Vec.nil {e : TypeId} {size : Nat} : Vec e size [] 0 (.slice none 0 0) [] := ⟨by simp, .inl ⟨rfl, rfl, rfl⟩⟩
theorem Vec.full {e : TypeId} {size : Nat} {vs : List Value} {m b : Nat} (h : vs.length = m * size) : Vec e size vs m (.slice (some ⟨b, 0, none⟩) m m) [(b, vecB vs e)] :=
  ⟨h, .inr ⟨b, m, [], rfl, Nat.le_refl _, by simpa using h, by simp⟩⟩
theorem Vec.pos {e : TypeId} {size : Nat} {vs : List Value} {m : Nat} {sv : Value} {hv : List (Nat × Obj)} (h : Vec e size vs m sv hv) (hm : 0 < m) :
    ∃ b cap spare, sv = .slice (some ⟨b, 0, none⟩) m cap ∧ m ≤ cap ∧ (vs ++ spare).length = cap * size ∧ hv = [(b, vecB (vs ++ spare) e)] := by
  obtain ⟨_, ⟨_, h0, _⟩ | h⟩ := h
  · omega
  · exact h

theorem cells_vec {W : World} {b off : Nat} {vs us : List Value} {t : TypeId} (h : W.heap[b]? = some (vecB vs t)) (hu : ∀ i v, us[i]? = some v → vs[off + i]? = some v) : Cells W b off us := by
  intro i v hi
  rw [cell_own h]
  simpa using hu i v hi

theorem oneCell'_of {v : Value} (h : oneCell v = true) : v.oneCell' = true := by
  cases v <;> first | rfl | simp [oneCell] at h

theorem run_builtin {o : Oper} {c : Call} {b : Builtin} {ρ : Operand → Value} (hop : o.op = .call c) (hc : c.callee = .builtin b) (W : World) :
    (execOp ρ o).run P W = (builtin b c.argTypes o.type (c.args.map fun | .const _ => true | _ => false) (c.args.map ρ)).run P W := by
  unfold execOp
  rw [hop]
  simp only [resolve, hc, Sem.run_bind, Sem.run_pure, Result.andThen_ok, invoke]
  rfl

theorem setCells_append (vs : List Value) : ∀ (us spare : List Value), us.length ≤ spare.length → ∃ sp, setCells (vs ++ spare).toArray vs.length us = (vs ++ (us ++ sp)).toArray ∧ us.length + sp.length = spare.length := by
  intro us
  induction us generalizing vs with
  | nil => intro spare _; exact ⟨spare, by simp [setCells], by simp⟩
  | cons u us ih =>
    intro spare hle
    rcases spare with _ | ⟨s, spare⟩
    · simp at hle
    obtain ⟨sp, h1, h2⟩ := ih (vs ++ [u]) spare (by simpa using hle)
    refine ⟨sp, ?_, by simp; omega⟩
    have : (vs ++ (s :: spare)).toArray.setIfInBounds vs.length u = (vs ++ [u] ++ spare).toArray := by
      apply Array.ext'
      simp [List.set_append]
    simp only [setCells, this]
    have h3 : (vs ++ [u]).length = vs.length + 1 := by simp
    rw [h3] at h1
    rw [h1]
    simp

theorem opsT_append {i : Nat} {rest : List Nat} {o : Oper} {d : Nat} {c : Call} {t tx e : TypeId} {size bytes : Nat} {z : Value} {x y : Operand} {vs news : List Value} {m k : Nat} {sv yv : Value} {hv own : List (Nat × Obj)}
    (ho : ops[i]? = some o) (hw : wantedL ops l o = some true) (hk : known l o.op = true) (hd : o.dst = some d) (hdn : Nat.blt d n = true)
    (hop : o.op = .call c) (hc : c.callee = .builtin .append) (hat : c.argTypes = #[t, tx]) (hargs : c.args = #[x, y]) (hx : ev l x = some sv) (hy : ev l y = some yv)
    (ht : P.underlying t = some (.slice e)) (hi : (P.info? e).map (fun i => (i.size, i.zero, i.bytes)) = some (size, some z, bytes)) (hz : z.cells.size = size)
    (hp : hs.Perm (hv ++ own)) (hV : Vec e size vs m sv hv) (hone : news.all oneCell = true) (hmk : 2 * (m + k) * bytes ≤ 281474976710656) (hmk' : m + k ≤ 281474976710656)
    (hsrc : ∀ W, Rep W0 M (hv ++ own) W → Src P size tx yv k news W)
    (kk : ∀ sv' hv', Vec e size (vs ++ news) (m + k) sv' hv' → OpsT P r n ds W0 M ops Q rest (setL l d sv') (hv' ++ own)) : OpsT P r n ds W0 M ops Q (i :: rest) l hs := by
  refine opsT_some (β := { p : Value × List (Nat × Obj) // Vec e size (vs ++ news) (m + k) p.1 p.2 }) (fun p => p.1.1) (fun p => p.1.2 ++ own) ho hw hk hd hdn (fun W hR => ?_) (fun b => kk _ _ b.2)
  have hR := hR.perm hp
  obtain ⟨inf, hinf, hs⟩ := Option.map_eq_some_iff.1 hi
  have h1 : inf.size = size := congrArg (·.1) hs
  have h2 : inf.zero = some z := congrArg (·.2.1) hs
  have h3 : inf.bytes = bytes := congrArg (·.2.2) hs
  have e1 : evD l x = sv := by simp [evD, hx]
  have e2 : evD l y = yv := by simp [evD, hy]
  have hS := hsrc W hR
  subst h1
  rw [run_builtin hop hc, hat, hargs]
  simp only [List.map_toArray, List.map_cons, List.map_nil, e1, e2, builtin, Sem.run_bind]
  obtain ⟨hlen, hcase⟩ := hV
  have hnews := hS.newsLen
  -- the arm that grows, for both
  have grow : ∀ base cap, sv = .slice base m cap → cap < m + k → (Builtin.firstCells inf.size m (.slice base m cap)).run P W.drew = .ok vs.toArray W.drew →
      ∃ b, ∃ W', (((Builtin.append_ #[t, tx] o.type #[sv, yv]).run P W).andThen fun a w => (Sem.pure (Next.value a)).run P w) = .ok (.value (b : { p : Value × List (Nat × Obj) // Vec e inf.size (vs ++ news) (m + k) p.1 p.2 }).1.1) W' ∧ Rep W0 M (b.1.2 ++ own) W' := by
    intro base cap hsv hg hold
    have hgc := grownCap_ge W (m + k) cap e
    have hfit : Builtin.nextslicecap (m + k) cap * inf.bytes ≤ 281474976710656 := by
      refine Nat.le_trans (Nat.mul_le_mul_right _ (nextslicecap_le hg)) ?_
      rw [h3]; exact hmk
    rw [hsv, run_append_grow_src W t tx o.type e inf z ht hinf h2 base m cap vs hold yv k news hS hg (by omega) hfit]
    have harr : (vs ++ news).toArray ++ Builtin.zeroCells z.cells (grownCap W (m + k) cap e - (m + k)) = ((vs ++ news) ++ (Builtin.zeroCells z.cells (grownCap W (m + k) cap e - (m + k))).toList).toArray := by
      apply Array.ext'; simp
    rw [harr]
    refine ⟨⟨(.slice (some ⟨W.heap.size, 0, none⟩) (m + k) (grownCap W (m + k) cap e), [(W.heap.size, vecB ((vs ++ news) ++ (Builtin.zeroCells z.cells (grownCap W (m + k) cap e - (m + k))).toList) e)]), ?_, .inr ⟨_, _, _, rfl, hgc, ?_, rfl⟩⟩, _, rfl, ?_⟩
    · simp only [List.length_append, hlen, hnews, Nat.add_mul]
    · simp only [List.length_append, hlen, hnews, Array.length_toList, Builtin.zeroCells, Array.size_map, Array.size_range, hz]
      rw [← Nat.add_mul, ← Nat.add_mul]
      congr 1
      omega
    · have hR2 := (hR.drawn 1).push (vecB ((vs ++ news) ++ (Builtin.zeroCells z.cells (grownCap W (m + k) cap e - (m + k))).toList) e)
      exact hR2.forget (.cons_cons _ (List.sublist_append_right _ _))
  rcases hcase with ⟨hsv, hm0, rfl⟩ | ⟨b, cap, spare, hsv, hmc, hsp, rfl⟩
  · subst hm0
    have hvs : vs = [] := List.eq_nil_of_length_eq_zero (by simpa using hlen)
    subst hvs
    by_cases hk0 : k = 0
    · subst hk0
      have hn0 : news = [] := List.eq_nil_of_length_eq_zero (by simpa using hnews)
      subst hn0
      refine ⟨⟨(.slice none 0 0, []), by simp, .inl ⟨rfl, rfl, rfl⟩⟩, W, ?_, hR⟩
      subst hsv
      rcases hS.kind with ⟨e', hk'⟩ | hk' <;> simp [Builtin.append_, run_underlying ht, run_underlying hk', sizeOf, typeInfo, hinf, hS.len, hS.cells] <;> rfl
    · exact grow none 0 hsv (by omega) (run_firstCells_none W.drew inf.size 0 0 0)
  · by_cases hroom : m + k ≤ cap
    · have hown : W.heap[b]? = some (vecB (vs ++ spare) e) := hR.own b _ (by simp)
      have hle : news.length ≤ spare.length := by
        have : (m + k) * inf.size ≤ cap * inf.size := Nat.mul_le_mul_right _ hroom
        rw [← hsp, Nat.add_mul, ← hnews, ← hlen, List.length_append] at this
        omega
      have hcell : ∀ j, j < news.length → (W.cell? ⟨b, m * inf.size + 0 + j, none⟩).isSome = true := by
        intro j hj
        rw [cell_own hown]
        have : m * inf.size + 0 + j < (vs ++ spare).length := by rw [List.length_append, hlen]; omega
        simp only [List.getElem?_toArray, List.getElem?_eq_getElem this, Option.isSome_some]
      have hst := run_storeCells_cells (P := P) b (m * inf.size) news 0 W hcell (fun j hj => by simp [World.frozen?, hown, vecB]) (fun v hv => oneCell'_of (List.all_eq_true.1 hone v hv))
      obtain ⟨W', hr, hs1, hs2, hs3, hs4⟩ := run_storeCells (P := P) (b := b) (e := e) news (m * inf.size) 0 W _ (fun u hu => List.all_eq_true.1 hone u hu) hown (by simp; rw [hlen]; omega)
      rw [hst] at hr
      obtain ⟨rfl⟩ : W' = W.setCells b (m * inf.size + 0) news := by simpa using hr.symm
      obtain ⟨sp, hsc, hspl⟩ := setCells_append vs news spare hle
      rw [Nat.add_zero, ← hlen, hsc] at hs2
      refine ⟨⟨(.slice (some ⟨b, 0, none⟩) (m + k) cap, [(b, vecB ((vs ++ news) ++ sp) e)]), by simp [hlen, hnews, Nat.add_mul], .inr ⟨b, cap, sp, rfl, hroom, ?_, rfl⟩⟩, W.setCells b (m * inf.size) news, ?_, ?_⟩
      · simp only [List.length_append] at hsp ⊢; omega
      · have := run_append_room_src (P := P) W t tx o.type e inf ht hinf b 0 m cap yv k news hS hroom (by simpa using hcell) (fun j hj => by simp [World.frozen?, hown, vecB])
        rw [hsv, this, Nat.zero_add]
        rfl
      · refine hR.turn (k := 0) rfl _ hs1 ?_ (fun c hc => hs3 c hc) (by simpa using hs4)
        rw [← hlen, hs2]; simp [vecB]
    · refine grow (some ⟨b, 0, none⟩) cap hsv (by omega) (run_firstCells_some W.drew inf.size m ⟨b, 0, none⟩ m cap vs hlen fun j v hj => ?_)
      have hown : W.heap[b]? = some (vecB (vs ++ spare) e) := hR.own b _ (by simp)
      have hjl := (List.getElem?_eq_some_iff.1 hj).1
      have : ((⟨b, 0, none⟩ : Addr).add j) = ⟨b, j, none⟩ := by unfold Addr.add; split <;> simp_all
      rw [this]
      have hown' : W.drew.heap[b]? = some (vecB (vs ++ spare) e) := hown
      rw [cell_own hown']
      simp only [List.getElem?_toArray, List.getElem?_append_left hjl, hj]

/-- What an own slice yields to an append. -/
theorem src_own {W : World} {hs : List (Nat × Obj)} {tx e2 e : TypeId} {size b k cap off : Nat} {us news : List Value} (hR : Rep W0 M hs W) (hk : P.underlying tx = some (.slice e2)) (hm : (b, vecB us e) ∈ hs) (hl : news.length = k * size)
    (hu : ∀ j v, news[j]? = some v → us[off + j]? = some v) (hone : news.all oneCell = true) : Src P size tx (.slice (some ⟨b, off, none⟩) k cap) k news W :=
  Src.ofSlice W hk _ k cap news hl (fun j v hj => by
    have : ((⟨b, off, none⟩ : Addr).add j) = ⟨b, off + j, none⟩ := by unfold Addr.add; split <;> simp_all
    rw [this, cell_own (hR.own b _ hm)]
    simpa using hu j v hj) (fun u hu => oneCell'_of (List.all_eq_true.1 hone u hu))

/-! ### a slice of a slice -/
theorem opsT_slice {i : Nat} {rest : List Nat} {o : Oper} {d : Nat} {t e : TypeId} {x y z : Operand} (b off len cap size : Nat) (lo hi : Int) (v : Value)
    (ho : ops[i]? = some o) (hw : wantedL ops l o = some true) (hk : known l o.op = true) (hd : o.dst = some d) (hdn : Nat.blt d n = true)
    (hop : o.op = .slice t x (some y) (some z) none) (hx : ev l x = some (.slice (some ⟨b, off, none⟩) len cap)) (hy : ev l y = some (.int .i64 lo)) (hz : ev l z = some (.int .i64 hi))
    (ht : P.underlying t = some (.slice e)) (hi' : (P.info? e).map (·.size) = some size) (h0 : 0 ≤ lo) (h1 : lo ≤ hi) (h2 : hi ≤ cap) (h3 : lo < cap)
    (hv : v = .slice (some ⟨b, off + lo.toNat * size, none⟩) (hi.toNat - lo.toNat) (cap - lo.toNat))
    (k : OpsT P r n ds W0 M ops Q rest (setL l d v) hs) : OpsT P r n ds W0 M ops Q (i :: rest) l hs := by
  refine opsT_value ho hw hk hd hdn (fun W _ => ?_) k
  obtain ⟨inf, hinf, hs⟩ := Option.map_eq_some_iff.1 hi'
  have e1 : evD l x = .slice (some ⟨b, off, none⟩) len cap := by simp [evD, hx]
  have e2 : evD l y = .int .i64 lo := by simp [evD, hy]
  have e3 : evD l z = .int .i64 hi := by simp [evD, hz]
  unfold execOp
  rw [hop]
  refine run_value ?_
  have h4 : lo ≤ (hi.toNat : Int) := by omega
  have h5 : ¬ cap = lo.toNat := by omega
  have h6 : 0 ≤ hi := by omega
  have hadd : (⟨b, off, none⟩ : Addr).add (lo.toNat * size) = ⟨b, off + lo.toNat * size, none⟩ := by unfold Addr.add; split <;> simp_all
  subst hs
  subst hv
  simp only [Option.map_some, Option.map_none, e1, e2, e3]
  show (Instr.sliceAt t _ _ _ _).run P W = _
  simp [Instr.sliceAt, Instr.slice, Instr.sliceBounds, run_underlying ht, sizeOf, typeInfo, hinf, run_sliceBound, h2, h6]
  rw [run_sliceBound W .i64 lo hi.toNat .sliceB h0 h4]
  simp [h5, hadd]

/-! ### a slice that is written out -/
theorem opsT_buildSlice {i : Nat} {rest : List Nat} {o : Oper} {d : Nat} {t e : TypeId} {len size : Nat} {z : Value} {parts : Array (Nat × Operand)} (cells : List Value)
    (ho : ops[i]? = some o) (hw : wantedL ops l o = some true) (hk : known l o.op = true) (hd : o.dst = some d) (hdn : Nat.blt d n = true)
    (hop : o.op = .buildSlice t len parts) (ht : P.underlying t = some (.slice e)) (hi : (P.info? e).map (fun i => (i.size, i.zero)) = some (size, some z)) (hsm : Nat.ble (len * size) (2 ^ 24) = true)
    (hf : Instr.fill (fun i => some (i * size, size)) ((Array.range (len * size)).map (z.cells[· % z.cells.size]!)) (parts.map fun p => (p.1, evD l p.2)).toList = some cells.toArray)
    (k : ∀ b, OpsT P r n ds W0 M ops Q rest (setL l d (.slice (some ⟨b, 0, none⟩) len len)) ((b, vecB cells e) :: hs)) : OpsT P r n ds W0 M ops Q (i :: rest) l hs := by
  refine opsT_some (β := Nat) (fun b => .slice (some ⟨b, 0, none⟩) len len) (fun b => (b, vecB cells e) :: hs) ho hw hk hd hdn (fun W hR => ⟨W.heap.size, _, ?_, hR.push _⟩) k
  obtain ⟨inf, hinf, hs⟩ := Option.map_eq_some_iff.1 hi
  have h1 : inf.size = size := congrArg (·.1) hs
  have h2 : inf.zero = some z := congrArg (·.2) hs
  subst h1
  unfold execOp
  rw [hop]
  refine run_value ?_
  have hsm' : ¬ (2 ^ 24 < len * inf.size) := by have := Nat.le_of_ble_eq_true hsm; omega
  by_cases hz0 : len * inf.size = 0
  · have hr : (Array.range (len * inf.size)).map (z.cells[· % z.cells.size]!) = #[] := by rw [hz0]; simp
    rw [hr] at hf
    simp only [Array.toList_map] at hf
    simp [Instr.buildSlice, run_underlying ht, sizeOf, typeInfo, zeroValue, hinf, h2, hz0, hf, newRow, Array.range_zero']
    rfl
  · rw [run_buildSlice (P := P) W t e len _ cells.toArray inf z ht hinf h2 (by omega) hz0 hf]
    rfl
end
end Go.Proofs.Walk
