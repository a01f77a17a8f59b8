/- G18: the parts -/
import Derived.Test.YtlkbokbcfajhjaaGreatG17
import Derived.Test.YtlkbokbcfajhjaaGreatB17
import Derived.Test.YtlkbokbcfajhjaaGreatD1
namespace Go.Proofs.YtlkbokbcfajhjaaGreat
open Go.Proofs.Walk
set_option maxRecDepth 100000
set_option linter.unusedVariables false
set_option linter.unusedSimpArgs false

theorem en54 : Walk.Enters Tryz.prog 54 := Walk.enters Tryz.func54 (by kernel_rfl) rfl
theorem en113 : Walk.Enters Tryz.prog 113 := Walk.enters Tryz.func113 (by kernel_rfl) rfl
theorem quiet113 {W0 : World} {M : List Nat} (hs : List (Nat × Obj)) (p q : Nat) : Quiet Tryz.prog 113 #[.pointer (some ⟨p, 0, none⟩), .pointer (some ⟨q, 0, none⟩)] (Rep W0 M hs) (Rep W0 M hs) := by
  refine quiet_recover (n := 11) Tryz.func113 rfl Tryz.ntmps113 rfl rfl rfl rfl rfl rfl rfl (fun Q hQ => ?_)
  refine tri_eq (l' := [(5, .nilIface), (0, .pointer (some ⟨p, 0, none⟩)), (1, .pointer (some ⟨q, 0, none⟩))]) (hs' := hs) rfl rfl ?_
  refine tri_block ?_
  refine wr [0] rfl ?_
  refine kSe 1 0 [(7, .bool true)] [5, 0, 1] ?_
  refine tri_cond_true rfl ?_
  refine tri_region (todo := [0]) rfl ?_
  refine kS 1 0 [] [] ?_
  refine opsT_end ?_
  refine post_block ?_
  exact hQ _
def zz (x : Nat × Nat) : Int × Int := ((x.1 : Int), (x.2 : Int))
theorem zz_inj {x y : Nat × Nat} (h : zz x = zz y) : x = y := by
  obtain ⟨a, b⟩ := x; obtain ⟨c, d⟩ := y
  simp only [zz, Prod.mk.injEq] at h
  exact Prod.ext (by omega) (by omega)
theorem ixOf_map {α β : Type} [DecidableEq α] [DecidableEq β] (g : α → β) (hg : ∀ x y, g x = g y → x = y) (ks : List α) (x : α) : ixOf (ks.map g) (g x) = ixK ks x := by
  unfold ixOf ixK
  induction ks with
  | nil => rfl
  | cons y ks ih =>
    rw [List.map_cons, List.idxOf_cons, List.idxOf_cons, ih]
    by_cases h : y = x
    · subst h; simp
    · have h2 : g y ≠ g x := fun e => h (hg _ _ e)
      rw [show (y == x) = false from beq_eq_false_iff_ne.2 h, show (g y == g x) = false from beq_eq_false_iff_ne.2 h2]
theorem ix_zz (ks : List (Nat × Nat)) (x : Nat × Nat) : ixOf (ks.map zz) (zz x) = ixK ks x := ixOf_map zz (fun _ _ => zz_inj) ks x
/-- A union in which the pieces ks have been met. -/
def RegP (bu : Nat) (ks : List (Nat × Nat)) (uns : List (Nat × Obj)) : Prop := (ks = [] ∧ U0 (κ := Int × Int) 165 pairV bu uns) ∨ (0 < ks.length ∧ UN 165 pairV bu (ks.map zz) (fun j => j) uns)
theorem regP_step {bu : Nat} {ks : List (Nat × Nat)} {uns : List (Nat × Obj)} {w : World} (h : RegP bu ks uns) (hR0 : Rep w (uns.map (·.1)) uns w) (x : Nat × Nat) (hx : x ∉ ks) (hl : ks.length ≤ 1000000) :
    Calls Tryz.prog 115 #[.pointer (some ⟨bu, 0, none⟩), pcV x] w fun e w' => ∃ uns', RegP bu (ks ++ [x]) uns' ∧ e = .returned (.int .i64 (ks.length : Int)) ∧ Rep w (uns.map (·.1)) uns' w' := by
  rcases h with ⟨rfl, h⟩ | ⟨h0, h⟩
  · exact (numNilP (zz x) h hR0).mono fun e w' ⟨u, h1, h2, h3⟩ => ⟨u, .inr ⟨by simp, h1⟩, h2, h3⟩
  · refine (numNewP (zz x) h hR0 (fun hm => hx ?_) (by simpa using hl)).mono fun e w' ⟨u, h1, h2, h3⟩ => ⟨u, .inr ⟨by simp, ?_⟩, by rw [h2, List.length_map], h3⟩
    · obtain ⟨y, hy, e⟩ := List.mem_map.1 hm
      rw [← zz_inj e]; exact hy
    · rw [List.map_append]
      rw [show (fun j => if j = (ks.map zz).length then j else j) = (fun j : Nat => j) by funext j; split <;> rfl] at h1
      exact h1
theorem pcs_succ (N : Nat) (v : Nat → Int) : pcs (N + 1) v = pcs N v ++ (List.range (vn v N)).map fun k => (N, k) := by simp [pcs, List.range_succ]
theorem pcs_zero (v : Nat → Int) : pcs 0 v = [] := rfl
theorem pcs_mono {v : Nat → Int} {a N : Nat} (h : a ≤ N) : (pcs a v).length ≤ (pcs N v).length := by
  obtain ⟨d, rfl⟩ := Nat.le.dest h
  clear h
  induction d with
  | zero => exact Nat.le_refl _
  | succ d ih => rw [← Nat.add_assoc, pcs_succ, List.length_append]; omega
/-- The pieces of the entries below e, and the first k of e. -/
def pcsK (v : Nat → Int) (e k : Nat) : List (Nat × Nat) := pcs e v ++ (List.range k).map fun k => (e, k)
theorem pcsK_zero (v : Nat → Int) (e : Nat) : pcsK v e 0 = pcs e v := by simp [pcsK]
theorem pcsK_succ (v : Nat → Int) (e k : Nat) : pcsK v e (k + 1) = pcsK v e k ++ [(e, k)] := by simp [pcsK, List.range_succ]
theorem pcsK_full (v : Nat → Int) (e : Nat) : pcsK v e (vn v e) = pcs (e + 1) v := by rw [pcs_succ]; rfl
theorem pcsK_not (v : Nat → Int) (e k : Nat) : (e, k) ∉ pcsK v e k := by
  unfold pcsK
  rw [List.mem_append]
  rintro (h | h)
  · have := (mem_pcs.1 h).1; simp at this
  · obtain ⟨j, hj, e⟩ := List.mem_map.1 h
    have := List.mem_range.1 hj
    simp at e; omega
theorem pcsK_len {v : Nat → Int} {e k N : Nat} (he : e < N) (hk : k ≤ vn v e) : (pcsK v e k).length ≤ (pcs N v).length := by
  have := pcs_mono (v := v) (a := e + 1) (N := N) (by omega)
  rw [pcs_succ] at this
  simp only [pcsK, List.length_append, List.length_map, List.length_range] at this ⊢
  omega
/-- The pairs that the first r arcs of an equation join. -/
def rowL (n : Nat) (c : Nat → Nat → Int) (v : Nat → Int) (e : Nat × Nat × Nat) (r : Nat) : List (Nat × Nat) := (List.range r).map fun r =>
    (ixK (pcs (10 * n) v) (atN v e.1 e.2.1 e.2.2 r), ixK (pcs (10 * n) v) (atN v (tt c e.1 e.2.1) (pp c e.1 e.2.1 e.2.1) (pp c e.1 e.2.1 e.2.2) r))
theorem rowL_succ (n : Nat) (c : Nat → Nat → Int) (v : Nat → Int) (e : Nat × Nat × Nat) (r : Nat) : rowL n c v e (r + 1) = rowL n c v e r ++ [(ixK (pcs (10 * n) v) (atN v e.1 e.2.1 e.2.2 r), ixK (pcs (10 * n) v) (atN v (tt c e.1 e.2.1) (pp c e.1 e.2.1 e.2.1) (pp c e.1 e.2.1 e.2.2) r))] := by simp [rowL, List.range_succ]
theorem partL_succ {n : Nat} {c : Nat → Nat → Int} {v : Nat → Int} {k : Nat} {p : Nat × Nat × Nat} (hk : k < (eqns n c).length) (hp : (eqns n c).getD k (0, 0, 0) = p) : partL n c v (k + 1) = partL n c v k ++ rowL n c v p (arcP v p.1 p.2.1 p.2.2).toNat := by
  unfold partL
  rw [List.take_add_one, List.flatMap_append]
  have : (eqns n c)[k]? = some p := by rw [← hp]; simp [List.getD, hk]
  rw [this]
  simp [rowL]
theorem joinP_at {bu : Nat} {ks : List (Nat × Nat)} {R : Nat → Nat} {uns : List (Nat × Obj)} {w : World} (h : UN 165 pairV bu (ks.map zz) R uns) (hR0 : Rep w (uns.map (·.1)) uns w) {x y : Nat × Nat} (hx : x ∈ ks) (hy : y ∈ ks) :
    Calls Tryz.prog 116 #[.pointer (some ⟨bu, 0, none⟩), pcV x, pcV y] w fun e w' => ∃ uns', UN 165 pairV bu (ks.map zz) (joinR R (ixK ks x, ixK ks y)) uns' ∧ e = .returned (.tuple #[]) ∧ Rep w (uns.map (·.1)) uns' w' := by
  have := joinP (zz x) (zz y) h hR0 (List.mem_map_of_mem hx) (List.mem_map_of_mem hy)
  rw [ix_zz, ix_zz] at this
  exact this
theorem atI_ {b off n cap bs bv ov nv cv : Nat} {v : Nat → Int} {w : World} (hs : SurfAt w bs (.slice (some ⟨b, off, none⟩) n cap) (.slice (some ⟨bv, ov, none⟩) nv cv)) (hv : AtV w bv ov nv v) (hin : InR nv v) (hnv : nv ≤ 1000000) {t f i r : Int} (t0 : 0 ≤ t) (ht : 10 * t + 10 ≤ nv) (f0 : 0 ≤ f) (f4 : f < 4) (i0 : 0 ≤ i) (i4 : i < 4) (hif : i ≠ f) (r0 : 0 ≤ r) (hr : r < arcP v t.toNat f.toNat i.toNat) :
    Calls Tryz.prog 117 #[.pointer (some ⟨bs, 0, none⟩), .int .i64 t, .int .i64 f, .int .i64 i, .int .i64 r] w fun e w' => e = .returned (pcV (atN v t.toNat f.toNat i.toNat r.toNat)) ∧ Ext w w' := by
  obtain ⟨T, rfl⟩ : ∃ T : Nat, t = T := ⟨t.toNat, by omega⟩
  obtain ⟨F, rfl⟩ : ∃ F : Nat, f = F := ⟨f.toNat, by omega⟩
  obtain ⟨I, rfl⟩ : ∃ I : Nat, i = I := ⟨i.toNat, by omega⟩
  obtain ⟨R, rfl⟩ : ∃ R : Nat, r = R := ⟨r.toNat, by omega⟩
  simp only [Int.toNat_natCast] at hr ⊢
  exact at_ hs hv hin hnv (by omega) (by omega) (by omega) (fun e => hif (by rw [e])) hr

theorem parts_ {b off n cap bs bv ov nv cv : Nat} {c : Nat → Nat → Int} {v : Nat → Int} {w : World} (hs : SurfAt w bs (.slice (some ⟨b, off, none⟩) n cap) (.slice (some ⟨bv, ov, none⟩) nv cv)) (hc : At w b off n c) (hv : AtV w bv ov nv v) (hg : GlueOK n c) (hn : n ≤ 60) (hH : Holds n c nv v) (hN : (pcs (10 * n) v).length ≤ 20000) : Calls Tryz.prog 54 #[pt bs 0] w fun e w' => ∃ p : Nat × List (Nat × Obj), UN 165 pairV p.1 ((pcs (10 * n) v).map zz) (partR n c v) p.2 ∧ e = .returned (.tuple #[.pointer (some ⟨p.1, 0, none⟩), .bool true]) ∧ Rep w [] p.2 w' := by
  have hnv := hH.1
  have hin : InR nv v := hH.2.1
  have hin10 : InR (10 * n) v := hnv ▸ hin
  have hAE := (allEq_iff hg).1 hH.2.2.2.2
  have hpos : 0 < (pcs (10 * n) v).length := by
    obtain ⟨x, hx⟩ := oct_exists hH
    exact List.length_pos_of_mem (mem_pcs.2 ⟨hx.1, by show 0 < vn v x; unfold vn; rw [hx.2.2]; decide⟩ : (x, 0) ∈ pcs (10 * n) v)
  refine calls_ofMarks (n := 88) Tryz.func54 rfl Tryz.ntmps54 rfl (Rep.refl _) ?_
  refine tri_eq (l' := [(0, pt bs 0)]) (hs' := []) rfl rfl ?_
  refine wr [0, 1, 2] rfl ?_
  refine kB (pt bs 0) fun b1 => ?_
  refine kA (.pointer none) fun b2 => ?_
  refine kA (.bool false) fun b3 => ?_
  refine kP [3, 2, 1] ?_
  refine wn [0, 1] rfl ?_
  refine kS 1 0 [(9, .func (.func 113) #[] #[pt b2 0, pt b3 0])] [3, 2, 1] ?_
  refine opsT_defer (f := 113) rfl rfl rfl rfl rfl rfl rfl ?_
  refine kP [3, 2, 1] ?_
  refine wn [0, 1] rfl ?_
  refine opsT_callR (f := 114) (args := #[]) [] [(b3, .cells #[.bool false] 4 (0, 0)), (b2, .cells #[.pointer none] 85 (0, 0)), (b1, .cells #[pt bs 0] 87 (0, 0))] (fun b : Nat × List (Nat × Obj) => .pointer (some ⟨b.1, 0, none⟩)) (fun b => b.2) (fun b => U0 (κ := Int × Int) 165 pairV b.1 b.2) rfl rfl rfl rfl rfl (run_call en114 rfl rfl rfl (by kernel_rfl)) (List.Perm.refl _) (fun W hR => newP W) ?_
  rintro ⟨bu, u0⟩ hU0
  refine opsT_perm (hs' := (b3, .cells #[.bool false] 4 (0, 0)) :: (b2, .cells #[.pointer none] 85 (0, 0)) :: (b1, .cells #[pt bs 0] 87 (0, 0)) :: u0) (List.perm_append_comm (l₂ := ([(b3, .cells #[.bool false] 4 (0, 0)), (b2, .cells #[.pointer none] 85 (0, 0)), (b1, .cells #[pt bs 0] 87 (0, 0))] : List (Nat × Obj)))) ?_
  refine kW 1 #[pt bu 0] ?_
  refine kPe [3, 2, 1] ?_
  refine tri_seq ?_
  refine wr [0, 1, 2, 3, 4, 5, 6] rfl ?_
  refine kL 2 (pt bs 0) ?_
  refine kS 3 0 [(14, pt bs 0)] [3, 2, 1] ?_
  refine kM bs 0 [sl b off n cap] (sl b off n cap) (hs.g) ?_
  refine kSe 2 0 [(17, ii 0), (16, ii ((n : Nat) : Int))] [3, 2, 1] ?_
  refine tri_block ?_
  refine tri_loop (β := Nat × List (Nat × Obj)) (fun xz => [(16, ii ((n : Nat) : Int)), (3, pt b3 0), (2, pt b2 0), (1, pt b1 0), (17, ii (xz.1 : Int))]) (fun xz => (b3, .cells #[.bool false] 4 (0, 0)) :: (b2, .cells #[pt bu 0] 85 (0, 0)) :: (b1, .cells #[pt bs 0] 87 (0, 0)) :: xz.2) (fun xz => xz.1 ≤ n ∧ RegP bu (pcs (10 * xz.1) v) xz.2) (fun xz => n - xz.1) (0, u0) (look_pickL (ks := [16, 3, 2, 1, 17]) (by kernel_rfl)) (List.Sublist.refl _) ⟨Nat.zero_le _, .inl ⟨pcs_zero v, hU0⟩⟩ ?_
  rintro ⟨t, u⟩ hC0
  try dsimp only at hC0
  refine tri_eq (l' := [(16, ii ((n : Nat) : Int)), (3, pt b3 0), (2, pt b2 0), (1, pt b1 0), (17, ii (t : Int))]) (hs' := (b3, .cells #[.bool false] 4 (0, 0)) :: (b2, .cells #[pt bu 0] 85 (0, 0)) :: (b1, .cells #[pt bs 0] 87 (0, 0)) :: u) rfl rfl ?_
  refine wr [0] rfl ?_
  refine kSe 1 5 [(18, .bool (decide ((t : Int) < ((n : Nat) : Int))))] [16, 3, 2, 1, 17] ?_
  refine tri_seq ?_
  refine tri_cond_dec (p := (t : Int) < ((n : Nat) : Int)) rfl (fun h1 => ?_) (fun h1 => ?_)
  · refine tri_skip ?_
    refine post_then ?_
    refine tri_seq ?_
    refine tri_block ?_
    refine wr [0, 1] rfl ?_
    refine kSn 2 0 [(4, ii (t : Int))] [16, 3, 2, 1, 17] [0, 1, 2] ?_
    refine kOe 3 32 [(5, ii (10 * (t : Int)))] [4, 16, 3, 2, 1, 17] [I64 (10 * (t : Int))] (ap1 (by first | omega | assumption | (have z1 := hin e (by omega); omega))) ?_
    refine tri_block ?_
    refine tri_eq (l' := [(5, ii ((10 * t : Nat) : Int)), (4, ii (t : Int)), (16, ii ((n : Nat) : Int)), (3, pt b3 0), (2, pt b2 0), (1, pt b1 0), (17, ii (t : Int))]) (hs' := (b3, .cells #[.bool false] 4 (0, 0)) :: (b2, .cells #[pt bu 0] 85 (0, 0)) :: (b1, .cells #[pt bs 0] 87 (0, 0)) :: u) (by simp) rfl ?_
    refine tri_loop (β := Nat × List (Nat × Obj)) (fun xz => [(4, ii (t : Int)), (16, ii ((n : Nat) : Int)), (3, pt b3 0), (2, pt b2 0), (1, pt b1 0), (17, ii (t : Int)), (5, ii (xz.1 : Int))]) (fun xz => (b3, .cells #[.bool false] 4 (0, 0)) :: (b2, .cells #[pt bu 0] 85 (0, 0)) :: (b1, .cells #[pt bs 0] 87 (0, 0)) :: xz.2) (fun xz => 10 * t ≤ xz.1 ∧ xz.1 ≤ 10 * t + 10 ∧ RegP bu (pcs xz.1 v) xz.2) (fun xz => 10 * t + 10 - xz.1) ((10 * t), u) (look_pickL (ks := [4, 16, 3, 2, 1, 17, 5]) (by kernel_rfl)) (List.Sublist.refl _) ⟨Nat.le_refl _, by omega, hC0.2⟩ ?_
    rintro ⟨e, u1⟩ hC1
    try dsimp only at hC1
    refine tri_eq (l' := [(4, ii (t : Int)), (16, ii ((n : Nat) : Int)), (3, pt b3 0), (2, pt b2 0), (1, pt b1 0), (17, ii (t : Int)), (5, ii (e : Int))]) (hs' := (b3, .cells #[.bool false] 4 (0, 0)) :: (b2, .cells #[pt bu 0] 85 (0, 0)) :: (b1, .cells #[pt bs 0] 87 (0, 0)) :: u1) rfl rfl ?_
    refine tri_seq ?_
    refine wr [0, 1, 2, 3, 4] rfl ?_
    refine kOe 5 336384 [(26, .bool (decide ((e : Int) < (10 * (t : Int)) + 10)))] [4, 16, 3, 2, 1, 17, 5] [I64 (10 * (t : Int)), I64 ((10 * (t : Int)) + 10)] (by refine ap ?_ (ap1 ?_) <;> (first | omega | assumption | (have z1 := hin e (by omega); omega))) ?_
    refine tri_cond_dec (p := (e : Int) < (10 * (t : Int)) + 10) rfl (fun h2 => ?_) (fun h2 => ?_)
    · refine tri_skip ?_
      refine post_then ?_
      refine tri_seq ?_
      refine tri_block ?_
      refine wr [0, 1, 2, 3, 4, 5, 6, 7] rfl ?_
      refine kL 2 (pt bs 0) ?_
      refine kS 2 0 [(31, pt bs 1)] [4, 16, 3, 2, 1, 17, 5] ?_
      refine kM bs 1 [sl bv ov nv cv] (sl bv ov nv cv) (hs.v) ?_
      refine kO 2 144 [(34, pt bv (ov + e))] [4, 16, 3, 2, 1, 17, 5] [(0 : Int) ≤ (e : Int), (e : Int) < ((nv : Nat) : Int)] (by refine ap ?_ (ap1 ?_) <;> (first | omega | assumption | (have z1 := hin e (by omega); omega))) ?_
      refine kM bv (ov + e) [ii (v e)] (ii (v e)) (hv.one (by omega)) ?_
      refine kSe 1 0 [(36, ii 0)] [35, 4, 16, 3, 2, 1, 17, 5] ?_
      refine tri_block ?_
      refine tri_loop (β := Nat × List (Nat × Obj)) (fun xz => [(35, ii (v e)), (4, ii (t : Int)), (16, ii ((n : Nat) : Int)), (3, pt b3 0), (2, pt b2 0), (1, pt b1 0), (17, ii (t : Int)), (5, ii (e : Int)), (36, ii (xz.1 : Int))]) (fun xz => (b3, .cells #[.bool false] 4 (0, 0)) :: (b2, .cells #[pt bu 0] 85 (0, 0)) :: (b1, .cells #[pt bs 0] 87 (0, 0)) :: xz.2) (fun xz => xz.1 ≤ vn v e ∧ RegP bu (pcsK v e xz.1) xz.2) (fun xz => vn v e - xz.1) (0, u1) (look_pickL (ks := [35, 4, 16, 3, 2, 1, 17, 5, 36]) (by kernel_rfl)) (List.Sublist.refl _) ⟨Nat.zero_le _, by rw [pcsK_zero]; exact hC1.2.2⟩ ?_
      rintro ⟨k, u2⟩ hC2
      try dsimp only at hC2
      refine tri_eq (l' := [(35, ii (v e)), (4, ii (t : Int)), (16, ii ((n : Nat) : Int)), (3, pt b3 0), (2, pt b2 0), (1, pt b1 0), (17, ii (t : Int)), (5, ii (e : Int)), (36, ii (k : Int))]) (hs' := (b3, .cells #[.bool false] 4 (0, 0)) :: (b2, .cells #[pt bu 0] 85 (0, 0)) :: (b1, .cells #[pt bs 0] 87 (0, 0)) :: u2) rfl rfl ?_
      refine wr [0] rfl ?_
      refine kSe 1 5 [(37, .bool (decide ((k : Int) < v e)))] [35, 4, 16, 3, 2, 1, 17, 5, 36] ?_
      refine tri_seq ?_
      refine tri_cond_dec (p := (k : Int) < v e) rfl (fun h3 => ?_) (fun h3 => ?_)
      · refine tri_skip ?_
        refine post_then ?_
        refine tri_seq ?_
        refine tri_block ?_
        refine wr [0, 1] rfl ?_
        refine kSe 2 0 [(6, ii (k : Int))] [35, 4, 16, 3, 2, 1, 17, 5, 36] ?_
        refine tri_region (todo := [0, 1, 2, 3, 4]) rfl ?_
        refine kL 1 (pt bu 0) ?_
        refine kS 3 0 [(42, .agg #[ii (e : Int), ii (k : Int)])] [39, 35, 4, 16, 3, 2, 1, 17, 5, 36] ?_
        refine kR en115 #[pt bu 0, .agg #[ii (e : Int), ii (k : Int)]] u2 ([(b3, .cells #[.bool false] 4 (0, 0)), (b2, .cells #[pt bu 0] 85 (0, 0)), (b1, .cells #[pt bs 0] 87 (0, 0))]) (fun _ => ii ((pcsK v e k).length : Int)) (fun u => u) (fun u => RegP bu (pcsK v e (k + 1)) u) rfl (List.perm_append_comm (l₁ := ([(b3, .cells #[.bool false] 4 (0, 0)), (b2, .cells #[pt bu 0] 85 (0, 0)), (b1, .cells #[pt bs 0] 87 (0, 0))] : List (Nat × Obj))) (l₂ := u2)) (fun W hR => (by rw [pcsK_succ]; exact regP_step hC2.2 (Rep.mineOf hR) (e, k) (pcsK_not v e k) (by have := pcsK_len (v := v) (e := e) (k := k) (N := 10 * n) (by omega) hC2.1; omega))) (fun u1 hU1 => ?_) (by kernel_rfl)
        refine opsT_perm (hs' := (b3, .cells #[.bool false] 4 (0, 0)) :: (b2, .cells #[pt bu 0] 85 (0, 0)) :: (b1, .cells #[pt bs 0] 87 (0, 0)) :: u1) (List.perm_append_comm (l₁ := u1) (l₂ := ([(b3, .cells #[.bool false] 4 (0, 0)), (b2, .cells #[pt bu 0] 85 (0, 0)), (b1, .cells #[pt bs 0] 87 (0, 0))] : List (Nat × Obj)))) ?_
        refine kP [35, 4, 16, 3, 2, 1, 17, 5, 36] ?_
        refine opsT_end ?_
        refine post_block ?_
        refine post_then ?_
        refine tri_region (todo := [0, 1]) rfl ?_
        refine kO 2 2 [(36, ii ((k : Int) + 1))] [35, 4, 16, 3, 2, 1, 17, 5] [I64 ((k : Int) + 1)] (ap1 (by first | omega | assumption | (have z1 := hin e (by omega); omega))) ?_
        refine opsT_end ?_
        refine post_round ((k + 1), u1) ⟨by unfold vn; omega, hU1⟩ (by show vn v e - (k + 1) < vn v e - k; unfold vn; omega) (look_pickL (ks := [35, 4, 16, 3, 2, 1, 17, 5, 36]) (by kernel_rfl)) (List.Sublist.refl _)
      · refine tri_exit ?_
        refine post_then_exit ?_
        refine post_round_exit ?_
        refine post_block_hit ?_
        refine post_block ?_
        refine post_then ?_
        refine tri_region (todo := [0, 1, 2]) rfl ?_
        refine kO 3 32 [(5, ii ((e : Int) + 1))] [4, 16, 3, 2, 1, 17] [I64 ((e : Int) + 1)] (ap1 (by first | omega | assumption | (have z1 := hin e (by omega); omega))) ?_
        refine opsT_end ?_
        refine post_round ((e + 1), u2) ⟨by omega, by omega, by rw [← pcsK_full, show vn v e = k by have := hC2.1; unfold vn at *; omega]; exact hC2.2⟩ (by show 10 * t + 10 - (e + 1) < 10 * t + 10 - e; omega) (look_pickL (ks := [4, 16, 3, 2, 1, 17, 5]) (by kernel_rfl)) (List.Sublist.refl _)
    · refine tri_exit ?_
      refine post_then_exit ?_
      refine post_round_exit ?_
      refine post_block_hit ?_
      refine post_block ?_
      refine post_then ?_
      refine tri_region (todo := [0, 1]) rfl ?_
      refine kO 2 2 [(17, ii ((t : Int) + 1))] [16, 3, 2, 1] [I64 ((t : Int) + 1)] (ap1 (by first | omega | assumption | (have z1 := hin e (by omega); omega))) ?_
      refine opsT_end ?_
      refine post_round ((t + 1), u1) ⟨by omega, by rw [show 10 * (t + 1) = e by omega]; exact hC1.2.2⟩ (by show n - (t + 1) < n - t; omega) (look_pickL (ks := [16, 3, 2, 1, 17]) (by kernel_rfl)) (List.Sublist.refl _)
  · refine tri_exit ?_
    refine post_then_exit ?_
    refine post_round_exit ?_
    refine post_block_hit ?_
    refine post_then ?_
    refine tri_seq ?_
    refine wr [0, 1, 2, 3, 4] rfl ?_
    refine kL 2 (pt bs 0) ?_
    refine kS 2 0 [(48, pt bs 0)] [3, 2, 1] ?_
    refine kM bs 0 [sl b off n cap] (.agg #[sl b off n cap]) (hs.g) ?_
    refine opsT_callR (f := 96) (args := #[.agg #[sl b off n cap]]) [] ((b3, .cells #[.bool false] 4 (0, 0)) :: (b2, .cells #[pt bu 0] 85 (0, 0)) :: (b1, .cells #[pt bs 0] 87 (0, 0)) :: u) (fun bg => .func (.func 167) #[] #[.pointer (some ⟨bg, 0, none⟩)]) (fun bg => [(bg, .cells #[sl b off n cap] 24 (0, 0))]) (fun _ => True) rfl rfl rfl rfl rfl (run_call en96 rfl rfl rfl (by kernel_rfl)) (List.Perm.refl _) (fun W hR => matches_ _ W) (fun bg1 _ => ?_)
    refine opsT_heq (hs' := (bg1, .cells #[sl b off n cap] 24 (0, 0)) :: (b3, .cells #[.bool false] 4 (0, 0)) :: (b2, .cells #[pt bu 0] 85 (0, 0)) :: (b1, .cells #[pt bs 0] 87 (0, 0)) :: u) rfl ?_
    have hUN : UN 165 pairV bu ((pcs (10 * n) v).map zz) (fun j => j) u := by
      rw [show n = t by omega]
      rcases hC0.2 with ⟨h0, _⟩ | ⟨_, h⟩
      · exfalso; rw [show n = t by omega, h0] at hpos; simp at hpos
      · exact h
    refine kPe [50, 3, 2, 1] ?_
    refine tri_block ?_
    refine tri_range (β := List (Nat × Obj)) (capt := [(bg1, .cells #[sl b off n cap] 24 (0, 0))]) (own := []) (N := (eqns n c).length) (xs := (fun k => matchV c ((eqns n c).getD k (0, 0, 0)))) (fun xz => (b3, .cells #[.bool false] 4 (0, 0)) :: (b2, .cells #[pt bu 0] 85 (0, 0)) :: (b1, .cells #[pt bs 0] 87 (0, 0)) :: xz) (fun k xz => UN 165 pairV bu ((pcs (10 * n) v).map zz) ((partL n c v k).foldl joinR (fun j => j)) xz) (fun cx xz => False) u rfl en167 (matches_iter (by omega) hc (by simp)) (by first | rfl | simp) hUN (fun k hk => rfl) (fun k hk => rfl) ?_ ?_ ?_
    · rintro k hk u3 hI L1 rc1 own1 hst
      dsimp only at hI ⊢
      have hm := getD_mem' (d := (0, 0, 0)) hk
      generalize hp : (eqns n c).getD k (0, 0, 0) = p at hm ⊢
      obtain ⟨t, f, i⟩ := p
      obtain ⟨m1, m2, m3, m4, m5⟩ := mem_eqns hm
      dsimp only at m1 m2 m3 m4 m5
      obtain ⟨g1, g2, g3, g4, g5, g6, g7⟩ := glued hg m1 m2 m3 m5
      have g8 := g7 m4
      have g0 : tt c t f < n := by unfold tt; omega
      have g6n : pp c t f i < 4 := by unfold pp; omega
      have gA := arcP_bound (f := f) hin10 (t := t) (i := i) (by omega) m3
      refine tri_eq (l' := [(51, .agg #[ii (t : Int), ii (f : Int), ii (i : Int), ii (c t (f * 5)), ii (c t (f * 5 + 1 + f)), ii (c t (f * 5 + 1 + i))]), (50, .func (.func 167) #[] #[pt bg1 0]), (3, pt b3 0), (2, pt b2 0), (1, pt b1 0)]) (hs' := (L1, .loop rc1) :: (b3, .cells #[.bool false] 4 (0, 0)) :: (b2, .cells #[pt bu 0] 85 (0, 0)) :: (b1, .cells #[pt bs 0] 87 (0, 0)) :: (u3 ++ (own1))) rfl rfl ?_
      refine tri_region (todo := [0, 1]) rfl ?_
      refine kA (.agg #[ii 0, ii 0, ii 0, ii 0, ii 0, ii 0]) fun b4 => ?_
      refine kW 0 #[ii (t : Int), ii (f : Int), ii (i : Int), ii (c t (f * 5)), ii (c t (f * 5 + 1 + f)), ii (c t (f * 5 + 1 + i))] ?_
      refine kP [7, 2, 1] ?_
      refine opsT_end ?_
      refine post_assign' (pre := [(b4, .cells #[ii (t : Int), ii (f : Int), ii (i : Int), ii (c t (f * 5)), ii (c t (f * 5 + 1 + f)), ii (c t (f * 5 + 1 + i))] 143 (0, 0))]) hst rfl ?_
      refine tri_eq (l' := [(7, pt b4 0), (2, pt b2 0), (1, pt b1 0)]) (hs' := (L1, .loop { rc1 with state := .busy }) :: (b4, .cells #[ii (t : Int), ii (f : Int), ii (i : Int), ii (c t (f * 5)), ii (c t (f * 5 + 1 + f)), ii (c t (f * 5 + 1 + i))] 143 (0, 0)) :: (b3, .cells #[.bool false] 4 (0, 0)) :: (b2, .cells #[pt bu 0] 85 (0, 0)) :: (b1, .cells #[pt bs 0] 87 (0, 0)) :: (u3 ++ (own1))) rfl rfl ?_
      refine tri_block ?_
      refine tri_seq ?_
      refine kD 12 0 [0, 3, 5, 7, 9, 10] [pt bs 0, sl bv ov nv cv, ii (t : Int), ii (f : Int), ii (i : Int), ii (arcP v t f i)] [(63, ii 0), (62, ii (arcP v t f i))] [7, 2, 1] [] [] rfl trivial (qA (qL 4) (qA (qM bs 1 [sl bv ov nv cv] (hs.v)) (qA (qL 1) (qA (qL 1) (qA (qL 1) (qA (qC en101 #[sl bv ov nv cv, ii (t : Int), ii (f : Int), ii (i : Int)] rfl (fun W hR => (arcsN_ (hv.rep hR (by simp)) hin (by omega) (by omega) (by omega) (by omega) (by omega))) (by kernel_rfl)) qZ)))))) ?_ (by kernel_rfl)
      refine we ?_
      refine tri_block ?_
      refine tri_loop (β := Nat × List (Nat × Obj)) (fun xz => [(62, ii (arcP v t f i)), (7, pt b4 0), (2, pt b2 0), (1, pt b1 0), (63, ii (xz.1 : Int))]) (fun xz => (L1, .loop { rc1 with state := .busy }) :: (b4, .cells #[ii (t : Int), ii (f : Int), ii (i : Int), ii (c t (f * 5)), ii (c t (f * 5 + 1 + f)), ii (c t (f * 5 + 1 + i))] 143 (0, 0)) :: (b3, .cells #[.bool false] 4 (0, 0)) :: (b2, .cells #[pt bu 0] 85 (0, 0)) :: (b1, .cells #[pt bs 0] 87 (0, 0)) :: (xz.2 ++ (own1))) (fun xz => xz.1 ≤ (arcP v t f i).toNat ∧ UN 165 pairV bu ((pcs (10 * n) v).map zz) ((rowL n c v (t, f, i) xz.1).foldl joinR ((partL n c v k).foldl joinR (fun j => j))) xz.2) (fun xz => (arcP v t f i).toNat - xz.1) (0, u3) (look_pickL (ks := [62, 7, 2, 1, 63]) (by kernel_rfl)) (List.Sublist.refl _) ⟨Nat.zero_le _, hI⟩ ?_
      rintro ⟨r, u4⟩ hC4
      try dsimp only at hC4
      refine tri_eq (l' := [(62, ii (arcP v t f i)), (7, pt b4 0), (2, pt b2 0), (1, pt b1 0), (63, ii (r : Int))]) (hs' := (L1, .loop { rc1 with state := .busy }) :: (b4, .cells #[ii (t : Int), ii (f : Int), ii (i : Int), ii (c t (f * 5)), ii (c t (f * 5 + 1 + f)), ii (c t (f * 5 + 1 + i))] 143 (0, 0)) :: (b3, .cells #[.bool false] 4 (0, 0)) :: (b2, .cells #[pt bu 0] 85 (0, 0)) :: (b1, .cells #[pt bs 0] 87 (0, 0)) :: (u4 ++ (own1))) rfl rfl ?_
      refine wr [0] rfl ?_
      refine kSe 1 5 [(64, .bool (decide ((r : Int) < arcP v t f i)))] [62, 7, 2, 1, 63] ?_
      refine tri_seq ?_
      refine tri_cond_dec (p := (r : Int) < arcP v t f i) rfl (fun h2 => ?_) (fun h2 => ?_)
      · refine tri_skip ?_
        refine post_then ?_
        refine tri_seq ?_
        refine tri_block ?_
        refine wr [0, 1] rfl ?_
        refine kSe 2 0 [(8, ii (r : Int))] [62, 7, 2, 1, 63] ?_
        refine kD 19 0 [0, 1, 3, 5, 7, 9, 10, 12, 14, 16, 18] [pt bu 0, pt bs 0, ii (t : Int), ii (f : Int), ii (i : Int), .agg #[ii ((atN v t f i r).1 : Int), ii ((atN v t f i r).2 : Int)], pt bs 0, ii (c t (f * 5)), ii (c t (f * 5 + 1 + f)), ii (c t (f * 5 + 1 + i)), .agg #[ii ((atN v (tt c t f) (pp c t f f) (pp c t f i) r).1 : Int), ii ((atN v (tt c t f) (pp c t f f) (pp c t f i) r).2 : Int)]] [(84, .agg #[ii ((atN v (tt c t f) (pp c t f f) (pp c t f i) r).1 : Int), ii ((atN v (tt c t f) (pp c t f f) (pp c t f i) r).2 : Int)]), (75, .agg #[ii ((atN v t f i r).1 : Int), ii ((atN v t f i r).2 : Int)]), (66, pt bu 0)] [62, 7, 2, 1, 63] [] [19] rfl trivial (qA (qL 3) (qA (qL 4) (qA (qL 1) (qA (qL 1) (qA (qL 1) (qA (qC en117 #[pt bs 0, ii (t : Int), ii (f : Int), ii (i : Int), ii (r : Int)] rfl (fun W hR => (at_ (hs.rep hR (by simp)) (hv.rep hR (by simp)) hin (by omega) (by omega) (by omega) (by omega) (by omega) (by omega))) (by kernel_rfl)) (qA (qL 4) (qA (qL 1) (qA (qL 1) (qA (qL 1) (qA (qC en117 #[pt bs 0, ii (c t (f * 5)), ii (c t (f * 5 + 1 + f)), ii (c t (f * 5 + 1 + i)), ii (r : Int)] rfl (fun W hR => (atI_ (hs.rep hR (by simp)) (hv.rep hR (by simp)) hin (by omega) (t := c t (f * 5)) (f := c t (f * 5 + 1 + f)) (i := c t (f * 5 + 1 + i)) (r := (r : Int)) (by omega) (by omega) (by omega) (by omega) (by omega) (by omega) (by omega) (by omega) (by rw [show arcP v (c t (f * 5)).toNat (c t (f * 5 + 1 + f)).toNat (c t (f * 5 + 1 + i)).toNat = arcP v t f i from (hAE t f i m1 m2 m3 m4 (gl_of_not_skip m5)).symm]; omega))) (by kernel_rfl)) qZ))))))))))) ?_ (by kernel_rfl)
        refine kR en116 #[pt bu 0, .agg #[ii ((atN v t f i r).1 : Int), ii ((atN v t f i r).2 : Int)], .agg #[ii ((atN v (tt c t f) (pp c t f f) (pp c t f i) r).1 : Int), ii ((atN v (tt c t f) (pp c t f f) (pp c t f i) r).2 : Int)]] u4 ((L1, .loop { rc1 with state := .busy }) :: (b4, .cells #[ii (t : Int), ii (f : Int), ii (i : Int), ii (c t (f * 5)), ii (c t (f * 5 + 1 + f)), ii (c t (f * 5 + 1 + i))] 143 (0, 0)) :: (b3, .cells #[.bool false] 4 (0, 0)) :: (b2, .cells #[pt bu 0] 85 (0, 0)) :: (b1, .cells #[pt bs 0] 87 (0, 0)) :: own1) (fun _ => .tuple #[]) (fun u => u) (fun u => UN 165 pairV bu ((pcs (10 * n) v).map zz) (joinR ((rowL n c v (t, f, i) r).foldl joinR ((partL n c v k).foldl joinR (fun j => j))) (ixK (pcs (10 * n) v) (atN v t f i r), ixK (pcs (10 * n) v) (atN v (tt c t f) (pp c t f f) (pp c t f i) r))) u) rfl (List.perm_append_comm_assoc ([(L1, .loop { rc1 with state := .busy }), (b4, .cells #[ii (t : Int), ii (f : Int), ii (i : Int), ii (c t (f * 5)), ii (c t (f * 5 + 1 + f)), ii (c t (f * 5 + 1 + i))] 143 (0, 0)), (b3, .cells #[.bool false] 4 (0, 0)), (b2, .cells #[pt bu 0] 85 (0, 0)), (b1, .cells #[pt bs 0] 87 (0, 0))] : List (Nat × Obj)) u4 (own1 : List (Nat × Obj))) (fun W hR => joinP_at hC4.2 (Rep.mineOf hR) (atN_mem hin10 m1 m3 (by omega)) (atN_mem hin10 g0 g6n (by rw [← hAE t f i m1 m2 m3 m4 (gl_of_not_skip m5)]; omega))) (fun u1 hU1 => ?_) (by kernel_rfl)
        refine opsT_perm (hs' := (L1, .loop { rc1 with state := .busy }) :: (b4, .cells #[ii (t : Int), ii (f : Int), ii (i : Int), ii (c t (f * 5)), ii (c t (f * 5 + 1 + f)), ii (c t (f * 5 + 1 + i))] 143 (0, 0)) :: (b3, .cells #[.bool false] 4 (0, 0)) :: (b2, .cells #[pt bu 0] 85 (0, 0)) :: (b1, .cells #[pt bs 0] 87 (0, 0)) :: (u1 ++ (own1))) (List.perm_append_comm_assoc u1 ([(L1, .loop { rc1 with state := .busy }), (b4, .cells #[ii (t : Int), ii (f : Int), ii (i : Int), ii (c t (f * 5)), ii (c t (f * 5 + 1 + f)), ii (c t (f * 5 + 1 + i))] 143 (0, 0)), (b3, .cells #[.bool false] 4 (0, 0)), (b2, .cells #[pt bu 0] 85 (0, 0)), (b1, .cells #[pt bs 0] 87 (0, 0))] : List (Nat × Obj)) (own1 : List (Nat × Obj))) ?_
        refine kP [62, 7, 2, 1, 63] ?_
        refine opsT_end ?_
        refine post_block ?_
        refine post_then ?_
        refine tri_region (todo := [0, 1]) rfl ?_
        refine kO 2 2 [(63, ii ((r : Int) + 1))] [62, 7, 2, 1] [I64 ((r : Int) + 1)] (ap1 (by first | omega | assumption | (have z1 := hin e (by omega); omega))) ?_
        refine opsT_end ?_
        refine post_round ((r + 1), u1) ⟨by omega, (by show UN _ _ _ _ _ _; rw [rowL_succ, List.foldl_append]; exact hU1)⟩ (by show (arcP v t f i).toNat - (r + 1) < (arcP v t f i).toNat - r; omega) (look_pickL (ks := [62, 7, 2, 1, 63]) (by kernel_rfl)) (List.Sublist.refl _)
      · refine tri_exit ?_
        refine post_then_exit ?_
        refine post_round_exit ?_
        refine post_block_hit ?_
        refine post_block ?_
        exact post_rq u4 (by show UN _ _ _ _ _ _; rw [partL_succ hk hp, List.foldl_append]; have hh := hC4.2; rw [show r = (arcP v t f i).toNat by omega] at hh; exact hh) (.cons_cons _ (.cons _ (List.Sublist.refl _)))
    · rintro u3 hI D1 L2 rc2
      refine post_perm (hs' := (D1, .deferred (some [])) :: (L2, .loop rc2) :: (b3, .cells #[.bool false] 4 (0, 0)) :: (b2, .cells #[pt bu 0] 85 (0, 0)) :: (b1, .cells #[pt bs 0] 87 (0, 0)) :: (u3 ++ ([(bg1, .cells #[sl b off n cap] 24 (0, 0))]))) (List.Perm.refl _) ?_
      refine post_block ?_
      refine post_then ?_
      refine wr [0, 1, 2] rfl ?_
      refine kL 3 (pt bu 0) ?_
      refine kW 3 #[pt bu 0] ?_
      refine kW 2 #[.bool true] ?_
      refine kPe [3, 2] ?_
      refine tri_ret ?_
      refine post_outM ?_
      refine outM_mark 0 rfl ?_
      refine outM_call en113 (quiet113 _ _ _) ?_
      refine outM_ret2 (v := pt bu 0) (v' := .bool true) rfl (.cell 3 b2 0 1 #[pt bu 0] 85 (0, 0) rfl rfl (by kernel_rfl)) (.cell 2 b3 0 1 #[.bool true] 4 (0, 0) rfl rfl (by kernel_rfl)) (fun W hR => ?_)
      exact ⟨(bu, u3), hI, rfl, hR.forget (.cons _ (.cons _ (.cons _ (.cons _ (.cons _ (List.sublist_append_left _ _))))))⟩
    · exact fun c x h => h.elim
end Go.Proofs.YtlkbokbcfajhjaaGreat
