/- For every gluing, every list of numbers, every order and every list of permutations, nil or not, of whatever length: sphenoidlaw20.AlmostCarries returns true, and its arguments read behind the call as they read before. -/
import Derived.Test.YtlkbokbcfajhjaaGreatRows
import Derived.Test.YtlkbokbcfajhjaaGreatG36
import Derived.ProofKit
import Derived.OpenShut
import Derived.Deep.Slices
namespace Go.Proofs.YtlkbokbcfajhjaaGreat
open Go.ChangeShapes Go.WideShapes Go.ChangeAt Go.RowKit
open Go.Proofs.Walk
set_option linter.unusedVariables false
set_option maxRecDepth 100000

theorem own : ownKnob Tryz.prog.godebug = none := by kernel_rfl
theorem laidOut : laidOutB Tryz.prog = true := by kernel_rfl

section
variable {H : Type} {enc : TypeId × Value → H} {W : World} {base : Nat} {sp : Nat → Bool} {held : Bool}

/-- All of these cells are whole numbers. -/
def AllI (cs : List Value) : Prop := ∀ k, k < cs.length → ∃ z : Int, cs[k]? = some (.int .i64 z)
theorem allI_int {fuel : Nat} {cs : List Value} {x : DataW H × List MemPlace} (h : DataW.trod enc Tryz.prog W base sp held fuel 3 cs = some x) : AllI cs := by
  obtain ⟨z, rfl, _⟩ := DataW.trod_int Tryz.underlying3 h
  intro k hk
  rcases k with _ | k
  · exact ⟨z, rfl⟩
  · simp at hk
theorem chunk_at {cs : List Value} {o m k : Nat} (h : k < m) : ((cs.drop o).take m)[k]? = cs[o + k]? := by
  rw [List.getElem?_take_of_lt h, List.getElem?_drop]
theorem allI_arr {t e : TypeId} {n m : Nat} (ht : Tryz.prog.underlying t = some (.array n e)) (hc : Tryz.prog.cellsOf t = n * m) (he : Tryz.prog.cellsOf e = m) (hm : 0 < m)
    (hI : ∀ (fuel : Nat) (cs : List Value) (x : DataW H × List MemPlace), DataW.trod enc Tryz.prog W base sp held fuel e cs = some x → AllI cs)
    {fuel : Nat} {cs : List Value} {x : DataW H × List MemPlace} (h : DataW.trod enc Tryz.prog W base sp held fuel t cs = some x) : AllI cs := by
  obtain ⟨xs, q, _, _, hlen, hxs, hx⟩ := DataW.trod_array ht h
  intro k hk
  have hkn : k / m < n := by rw [hlen, hc] at hk; exact Nat.div_lt_of_lt_mul (by rw [Nat.mul_comm]; exact hk)
  have h1 := hx (k / m) hkn
  rw [he, List.getElem?_eq_getElem (by omega)] at h1
  have hmod := Nat.mod_lt k hm
  have hdm : k / m * m + k % m = k := by rw [Nat.mul_comm]; exact Nat.div_add_mod k m
  obtain ⟨z, hz⟩ := hI _ _ _ h1 (k % m) (by
    rw [List.length_take, List.length_drop]
    have : k / m * m + m ≤ n * m := by rw [← Nat.succ_mul]; exact Nat.mul_le_mul_right m hkn
    rw [hlen, hc]
    omega)
  rw [chunk_at hmod, hdm] at hz
  exact ⟨z, hz⟩
theorem allI72 {fuel : Nat} {cs : List Value} {x : DataW H × List MemPlace} (h : DataW.trod enc Tryz.prog W base sp held fuel 72 cs = some x) : AllI cs :=
  allI_arr (n := 4) (m := 1) Tryz.underlying72 (by kernel_rfl) (by kernel_rfl) (by decide) (fun _ _ _ h => allI_int h) h
theorem allI75 {fuel : Nat} {cs : List Value} {x : DataW H × List MemPlace} (h : DataW.trod enc Tryz.prog W base sp held fuel 75 cs = some x) : AllI cs := by
  have c75 : Tryz.prog.cellsOf 75 = 5 := by kernel_rfl
  have c3 : Tryz.prog.cellsOf 3 = 1 := by kernel_rfl
  have c72 : Tryz.prog.cellsOf 72 = 4 := by kernel_rfl
  obtain ⟨y0, y1, q, _, hlen, h0, h1⟩ := trod_struct2 Tryz.underlying75 h
  dsimp only at h0 h1
  rw [c75] at hlen
  rw [c3] at h0
  rw [c72] at h1
  intro k hk
  by_cases hk0 : k = 0
  · subst hk0
    obtain ⟨z, hz⟩ := allI_int h0 0 (by rw [List.length_take, List.length_drop]; omega)
    rw [chunk_at (by decide)] at hz
    exact ⟨z, hz⟩
  · obtain ⟨z, hz⟩ := allI72 h1 (k - 1) (by rw [List.length_take, List.length_drop]; omega)
    rw [chunk_at (by omega), show 1 + (k - 1) = k by omega] at hz
    exact ⟨z, hz⟩
theorem allI76 {fuel : Nat} {cs : List Value} {x : DataW H × List MemPlace} (h : DataW.trod enc Tryz.prog W base sp held fuel 76 cs = some x) : AllI cs :=
  allI_arr (n := 4) (m := 5) Tryz.underlying76 (by kernel_rfl) (by kernel_rfl) (by decide) (fun _ _ _ h => allI75 h) h

/-- The number that a cell holds. -/
def cellZ (W : World) (b o : Nat) : Int := match W.cell? ⟨b, o, none⟩ with | some (.int _ z) => z | _ => 0

theorem slice_ok {r : Reach} {b0 : Nat} {t e : TypeId} {a : Addr} {len cap : Nat} (ht : Tryz.prog.underlying t = some (.slice e)) (h : Cell.okWide Tryz.prog W r b0 t (.slice (some a) len cap)) : a.spot = none := by
  simp only [Cell.okWide, ht, Cell.ok] at h
  exact h.2.2.2.1

theorem add_at (b o j : Nat) : (⟨b, o, none⟩ : Addr).add j = ⟨b, o + j, none⟩ := by unfold Addr.add; split <;> simp_all
theorem open_all {r : Reach} {b0 : Nat} {t e : TypeId} {m fuel : Nat} {v : Value} {x : DataW H × List MemPlace} (ht : Tryz.prog.underlying t = some (.slice e)) (hc : Tryz.prog.cellsOf e = m)
    (hI : ∀ (fuel : Nat) (cs : List Value) (x : DataW H × List MemPlace), DataW.trod enc Tryz.prog W 0 (fun _ => true) true fuel e cs = some x → AllI cs)
    (h : DataW.trod enc Tryz.prog W 0 (fun _ => true) true fuel t [v] = some x) (hv : Cell.okWide Tryz.prog W r b0 t v) :
    v = .slice none 0 0 ∨ ∃ b off len cap, v = .slice (some ⟨b, off, none⟩) len cap ∧ len ≤ cap ∧ ∀ i, i < len → ∀ k, k < m → W.cell? ⟨b, off + (i * m + k), none⟩ = some (.int .i64 (cellZ W b (off + (i * m + k)))) := by
  rcases _root_.Go.Deep.open_slice ht h with ⟨h1, _⟩ | ⟨a, len, cap, q, n, D, Pl, h1, _, hl, _, hq, _, hx⟩
  · exact .inl (by simpa using h1)
  · obtain rfl : v = .slice (some a) len cap := by simpa using h1
    have hs := slice_ok ht hv
    obtain ⟨b, off, spot⟩ := a
    dsimp only at hs
    subst hs
    refine .inr ⟨b, off, len, cap, rfl, hl, fun i hi k hk => ?_⟩
    obtain ⟨cs, h2, h3⟩ := hx i (by rw [hq]; simp; omega)
    rw [hc] at h2
    obtain ⟨_, hlen, hcell⟩ := World.cells?_some h2
    obtain ⟨z, hz⟩ := hI _ _ _ h3 k (by omega)
    have h4 := hcell k hk
    have e1 : (((⟨b, off, none⟩ : Addr).add (i * m)).add k) = ⟨b, off + (i * m + k), none⟩ := by rw [add_at, add_at, Nat.add_assoc]
    rw [e1, hz] at h4
    rw [h4]
    simp [cellZ, h4]
end

theorem one_cell : ∀ (cs : Array Value), cs.size = 1 → ∃ g, cs = #[g]
  | ⟨[g]⟩, _ => ⟨g, rfl⟩
  | ⟨[]⟩, h => by simp at h
  | ⟨_ :: _ :: _⟩, h => by simp at h
theorem open_g {H : Type} {enc : TypeId × Value → H} {W : World} {base : Nat} {v : Value} {d : DataW H} {ps : List MemPlace} (k : Value.okWide Tryz.prog W .any base 24 v) (h : DataW.Trod enc Tryz.prog W 0 (fun _ => true) true 24 v d ps) :
    ∃ g, v = .agg #[g] ∧ Cell.okWide Tryz.prog W .any base 22 g ∧ ∃ f x, DataW.trod enc Tryz.prog W 0 (fun _ => true) true f 22 [g] = some x := by
  simp only [Value.okWide, Tryz.underlying24] at k
  obtain ⟨cs, rfl, hsz, ts, hts, _, hrow⟩ := k
  have h24 : Tryz.prog.cellsOf 24 = 1 := by kernel_rfl
  have h22 : Tryz.prog.cellsOf 22 = 1 := by kernel_rfl
  have hct : Tryz.prog.cellTypes Tryz.prog.depth 24 = some [22] := by kernel_rfl
  rw [h24] at hsz
  rw [hct] at hts
  obtain ⟨g, rfl⟩ := one_cell cs hsz
  obtain ⟨u, hu, hgok⟩ := hrow 0 g rfl
  rw [← Option.some.inj hts] at hu
  have hu' : u = 22 := (Option.some.inj hu).symm
  rw [hu'] at hgok
  obtain ⟨f, e⟩ := h
  obtain ⟨y0, m0, _, _, e'⟩ := trod_struct1 Tryz.underlying24 e
  dsimp only at e'
  rw [h22] at e'
  exact ⟨g, rfl, hgok, m0, y0, e'⟩
theorem law_all {W : World} {g v ov pv : Value}
    (hg : g = .slice none 0 0 ∨ ∃ b off len cap, g = .slice (some ⟨b, off, none⟩) len cap ∧ len ≤ cap ∧ ∀ i, i < len → ∀ k, k < 20 → W.cell? ⟨b, off + (i * 20 + k), none⟩ = some (.int .i64 (cellZ W b (off + (i * 20 + k)))))
    (hv : v = .slice none 0 0 ∨ ∃ b off len cap, v = .slice (some ⟨b, off, none⟩) len cap ∧ len ≤ cap ∧ ∀ i, i < len → ∀ k, k < 1 → W.cell? ⟨b, off + (i * 1 + k), none⟩ = some (.int .i64 (cellZ W b (off + (i * 1 + k)))))
    (ho : ov = .slice none 0 0 ∨ ∃ b off len cap, ov = .slice (some ⟨b, off, none⟩) len cap ∧ len ≤ cap ∧ ∀ i, i < len → ∀ k, k < 1 → W.cell? ⟨b, off + (i * 1 + k), none⟩ = some (.int .i64 (cellZ W b (off + (i * 1 + k)))))
    (hp : pv = .slice none 0 0 ∨ ∃ b off len cap, pv = .slice (some ⟨b, off, none⟩) len cap ∧ len ≤ cap ∧ ∀ i, i < len → ∀ k, k < 4 → W.cell? ⟨b, off + (i * 4 + k), none⟩ = some (.int .i64 (cellZ W b (off + (i * 4 + k))))) :
    Calls Tryz.prog 3 #[.agg #[g], v, ov, pv] W fun e w' => e = .returned (.bool true) ∧ Ext W w' := by
  have one : ∀ {b off len : Nat}, (∀ i, i < len → ∀ k, k < 1 → W.cell? ⟨b, off + (i * 1 + k), none⟩ = some (.int .i64 (cellZ W b (off + (i * 1 + k))))) → AtV W b off len (fun i => cellZ W b (off + i)) := fun h i hi => by
    have := h i hi 0 (by decide)
    simpa using this
  rcases hg with rfl | ⟨b, off, n, cap, rfl, hn, hc⟩
  · rcases hv with rfl | ⟨bv, of, nv, cv, rfl, hnv, hv⟩
    · exact lawNilGV _ _ _
    · exact lawNilG (one hv)
  · have hc' : At W b off n (fun t k => cellZ W b (off + (t * 20 + k))) := hc
    rcases hv with rfl | ⟨bv, of, nv, cv, rfl, hnv, hv⟩
    · exact lawNilV hc'
    · rcases ho with rfl | ⟨bo, oo, no, co, rfl, _, ho⟩
      · exact lawNilO hc' (one hv) hnv
      · rcases hp with rfl | ⟨bp, op, np, cp, rfl, _, hp⟩
        · exact lawNilP hc' (one hv) hnv
        · exact law_ hc' (one hv) (one ho) (pm := fun t k => cellZ W bp (op + (t * 4 + k))) hp hnv

theorem lifted (os : Os) (started : os.Started) (H : Type) (enc : TypeId × Value → H) :
    ReturnsInHanded {} Tryz.checked os 3 .any (Rows.almostCarriesSpec.pre6 enc Tryz.prog Tryz.f3 Rows.almostCarriesRow.domain false) (Rows.almostCarriesSpec.post enc Tryz.prog Tryz.f3 false true false false) := by
  refine returnsInHanded_of_change (C := Tryz.checked) own started (by kernel_rfl) Tryz.func3
    (ChangeSpec.witness6 (enc := enc) (C := Tryz.checked) false ⟨#[], #[.agg #[.slice none 0 0], .slice none 0 0, .slice none 0 0, .slice none 0 0], []⟩ 8 (by kernel_rfl) (by kernel_rfl) (by kernel_rfl) (by kernel_rfl)) ?_
  intro W base args ds gs before hval0 hW hcnd _
  have hval : ∀ (j : Nat) t v, Tryz.f3.params[j]? = some t → args[j]? = some v → Value.okWide Tryz.prog W .any base t v := hval0
  have hW' := hW
  obtain ⟨p, q, hA0, hV, rfl, hfz, hnd⟩ := hW
  have hA : DataW.TrodAll enc Tryz.prog W 0 (fun _ => true) true Tryz.f3.params.toList args.toList ds p := hA0
  rw [Tryz.params3] at hA hval
  obtain ⟨v0, v1, v2, v3, d0, d1, d2, d3, p0, p1, p2, p3, rfl, rfl, rfl, h0, h1, h2, h3⟩ := trodAll_four hA
  obtain ⟨rfl, rfl⟩ := trodVars_none hV
  clear hA0 hval0
  simp only [List.append_nil] at hW'
  have hlt : ∀ x ∈ p0 ++ p1 ++ p2 ++ p3, x.block < W.heap.size := fun x hx => hW'.lt x hx
  have k0 := hval 0 24 v0 rfl rfl
  have k1 := hval 1 25 v1 rfl rfl
  have k2 := hval 2 25 v2 rfl rfl
  have k3 := hval 3 26 v3 rfl rfl
  have hwalk : Calls Tryz.prog 3 #[v0, v1, v2, v3] W fun e w' => e = .returned (.bool true) ∧ Ext W w' := by
    simp only [Value.okWide, Tryz.underlying25] at k1 k2
    simp only [Value.okWide, Tryz.underlying26] at k3
    obtain ⟨g, rfl, hgok, f0, y0, e0'⟩ := open_g k0 h0
    obtain ⟨f1, e1⟩ := h1
    obtain ⟨f2, e2⟩ := h2
    obtain ⟨f3, e3⟩ := h3
    have cell1 : ∀ {v : Value} {t e : TypeId} {f : Nat} {x : DataW H × List MemPlace}, Tryz.prog.underlying t = some (.slice e) → DataW.trod enc Tryz.prog W 0 (fun _ => true) true f t v.cells.toList = some x → Cell.okWide Tryz.prog W .any base t v → DataW.trod enc Tryz.prog W 0 (fun _ => true) true f t [v] = some x := fun {v t e f x} ht h hk => by
      simp only [Cell.okWide, ht] at hk
      cases v <;> first | exact h | simp_all [Cell.ok]
    exact law_all (open_all Tryz.underlying22 (by kernel_rfl) (fun _ _ _ h => allI76 h) e0' hgok) (open_all Tryz.underlying25 (by kernel_rfl) (fun _ _ _ h => allI_int h) (cell1 Tryz.underlying25 e1 k1) k1)
      (open_all Tryz.underlying25 (by kernel_rfl) (fun _ _ _ h => allI_int h) (cell1 Tryz.underlying25 e2 k2) k2) (open_all Tryz.underlying26 (by kernel_rfl) (fun _ _ _ h => allI72 h) (cell1 Tryz.underlying26 e3 k3) k3)
  refine hwalk.mono fun e W' ⟨he, hx⟩ => ?_
  subst he
  have hB : Below W.heap.size W W' := ⟨hx.calm.os, hx.calm.tape, hx.calm.output, hx.size, hx.same⟩
  have back : ∀ {t : TypeId} {v : Value} {d : DataW H} {ps : List MemPlace}, Tryz.prog.readableRec t = true → t < Tryz.prog.types.size → DataW.Trod enc Tryz.prog W 0 (fun _ => true) true t v d ps → (∀ x ∈ ps, x.block < W.heap.size) → DataW.Trod enc Tryz.prog W' 0 (fun b => decide (b < W.heap.size)) true t v d ps :=
    fun hr hrow h hl => Below.trod laidOut hr hrow h hB hl
  refine ⟨_, rfl, _, _, _, [], _, [], hW', ?_, trodAll_mk4 (back (by kernel_rfl) (of_decide_eq_true (by kernel_rfl)) h0 fun x hx => hlt x (by simp [hx])) (back (by kernel_rfl) (of_decide_eq_true (by kernel_rfl)) h1 fun x hx => hlt x (by simp [hx])) (back (by kernel_rfl) (of_decide_eq_true (by kernel_rfl)) h2 fun x hx => hlt x (by simp [hx])) (back (by kernel_rfl) (of_decide_eq_true (by kernel_rfl)) h3 fun x hx => hlt x (by simp [hx])), rfl, hB.frame _, fun h => by cases h⟩
  exact trodAll_mk1 (shut_bool Tryz.underlying4 true)

theorem almostCarries_holds : Rows.AlmostCarriesSaid :=
  OpenClaim.holds_of_wide 3 Tryz.f3 rfl rfl rfl rfl rfl rfl rfl ⟨rfl, rfl, rfl, rfl, rfl⟩ rfl rfl rfl rfl rfl (by kernel_rfl) Tryz.func3 (by kernel_rfl)
    (of_decide_eq_true (by kernel_rfl)) (by unfold Func.isWrapper; first | (rw [if_pos (by decide +kernel)]; kernel_rfl) | (rw [if_neg (by decide +kernel)]; exact ⟨rfl, rfl⟩))
    (fun os started H enc _ => lifted os started H enc)
end Go.Proofs.YtlkbokbcfajhjaaGreat
