/- G19: Parts -/
import Derived.Test.YtlkbokbcfajhjaaGreatG18
import Derived.Test.YtlkbokbcfajhjaaGreatB17
import Derived.Test.YtlkbokbcfajhjaaGreatD1
namespace Go.Proofs.YtlkbokbcfajhjaaGreat
open Go.Proofs.Walk
set_option maxRecDepth 100000
set_option linter.unusedVariables false
set_option linter.unusedSimpArgs false

theorem en18 : Walk.Enters Tryz.prog 18 := Walk.enters Tryz.func18 (by kernel_rfl) rfl
theorem pcs_len {v : Nat → Int} : ∀ {N : Nat}, InR N v → ((pcs N v).length : Int) = sumTo N v
  | 0, _ => rfl
  | N + 1, h => by
    have ih := pcs_len (N := N) fun i hi => h i (by omega)
    have := (h N (by omega)).1
    rw [pcs_succ, List.length_append, sumTo_succ, ← ih, List.length_map, List.length_range]
    unfold vn; omega
theorem rootP_at {bu : Nat} {ks : List (Nat × Nat)} {R : Nat → Nat} {uns : List (Nat × Obj)} {w : World} (h : UN 165 pairV bu (ks.map zz) R uns) (hR0 : Rep w (uns.map (·.1)) uns w) {x : Nat × Nat} (hx : x ∈ ks) :
    Calls Tryz.prog 55 #[.pointer (some ⟨bu, 0, none⟩), pcV x] w fun e w' => ∃ uns', UN 165 pairV bu (ks.map zz) R uns' ∧ e = .returned (.int .i64 (R (ixK ks x) : Int)) ∧ Rep w (uns.map (·.1)) uns' w' := by
  have := rootP (zz x) h hR0 (List.mem_map_of_mem hx)
  rw [ix_zz] at this
  exact this
/-- How many of the first r pieces of an entry lie in the part of a piece. -/
def cntTo (n : Nat) (c : Nat → Nat → Int) (v : Nat → Int) (home : Nat × Nat) (e r : Nat) : Nat :=
  (List.range r).countP fun r => partR n c v (ixK (pcs (10 * n) v) (e, r)) = partR n c v (ixK (pcs (10 * n) v) home)
/-- The coordinates of the part, as far as they have been counted. -/
def mainTo (n : Nat) (c : Nat → Nat → Int) (v : Nat → Int) (home : Nat × Nat) (e r : Nat) : List Int :=
  (List.range (10 * n)).map fun x => ((if x < e then mainP n c v home x else if x = e then cntTo n c v home e r else 0 : Nat) : Int)
theorem mainTo_zero (n : Nat) (c : Nat → Nat → Int) (v : Nat → Int) (home : Nat × Nat) : mainTo n c v home 0 0 = List.replicate (10 * n) 0 := by
  apply List.ext_getElem
  · simp [mainTo]
  · intro i h1 h2
    simp [mainTo, cntTo]
theorem mainTo_next (n : Nat) (c : Nat → Nat → Int) (v : Nat → Int) (home : Nat × Nat) (e : Nat) : mainTo n c v home e (vn v e) = mainTo n c v home (e + 1) 0 := by
  unfold mainTo
  refine List.map_congr_left fun x _ => ?_
  congr 1
  by_cases h : x < e
  · rw [if_pos h, if_pos (by omega)]
  · rw [if_neg h]
    by_cases h2 : x = e
    · subst h2; rw [if_pos rfl, if_pos (by omega)]; rfl
    · rw [if_neg h2, if_neg (by omega)]; split <;> simp [cntTo]
theorem mainTo_len (n : Nat) (c : Nat → Nat → Int) (v : Nat → Int) (home : Nat × Nat) (e r : Nat) : (mainTo n c v home e r).length = 10 * n := by simp [mainTo]
theorem mainTo_at {n : Nat} {c : Nat → Nat → Int} {v : Nat → Int} {home : Nat × Nat} {e r : Nat} (he : e < 10 * n) : (mainTo n c v home e r).getD e 0 = (cntTo n c v home e r : Int) := by
  simp [mainTo, List.getD, he]
theorem cntTo_le (n : Nat) (c : Nat → Nat → Int) (v : Nat → Int) (home : Nat × Nat) (e r : Nat) : cntTo n c v home e r ≤ r := by
  have := List.countP_le_length (p := fun r => decide (partR n c v (ixK (pcs (10 * n) v) (e, r)) = partR n c v (ixK (pcs (10 * n) v) home))) (l := List.range r)
  simpa [cntTo] using this
theorem mainTo_yes {n : Nat} {c : Nat → Nat → Int} {v : Nat → Int} {home : Nat × Nat} {e r : Nat} (he : e < 10 * n) (h : partR n c v (ixK (pcs (10 * n) v) (e, r)) = partR n c v (ixK (pcs (10 * n) v) home)) :
    (mainTo n c v home e r).set e ((mainTo n c v home e r).getD e 0 + 1) = mainTo n c v home e (r + 1) := by
  have hc : cntTo n c v home e (r + 1) = cntTo n c v home e r + 1 := by simp [cntTo, List.range_succ, List.countP_append, h]
  rw [mainTo_at he]
  apply List.ext_getElem
  · simp [mainTo]
  · intro i h1 h2
    rw [List.getElem_set]
    by_cases hi : e = i
    · subst hi; simp [mainTo, hc]
    · have hi' : ¬ i = e := fun x => hi x.symm
      simp [mainTo, hi, hi']
theorem mainTo_no {n : Nat} {c : Nat → Nat → Int} {v : Nat → Int} {home : Nat × Nat} {e r : Nat} (h : ¬ partR n c v (ixK (pcs (10 * n) v) (e, r)) = partR n c v (ixK (pcs (10 * n) v) home)) :
    mainTo n c v home e r = mainTo n c v home e (r + 1) := by
  have hc : cntTo n c v home e (r + 1) = cntTo n c v home e r := by simp [cntTo, List.range_succ, List.countP_append, h]
  unfold mainTo; rw [hc]
/-- The coordinates of the part. -/
def mainL (n : Nat) (c : Nat → Nat → Int) (v : Nat → Int) (home : Nat × Nat) : List Int := (List.range (10 * n)).map fun x => (mainP n c v home x : Int)
theorem mainTo_all (n : Nat) (c : Nat → Nat → Int) (v : Nat → Int) (home : Nat × Nat) : mainTo n c v home (10 * n) 0 = mainL n c v home := by
  unfold mainTo mainL
  refine List.map_congr_left fun x hx => ?_
  rw [if_pos (List.mem_range.1 hx)]
/-- The roots of the pieces that have been met. -/
def Seen (n : Nat) (c : Nat → Nat → Int) (v : Nat → Int) (ks : List (Nat × Nat)) (ms : List Int) : Prop := ms.Nodup ∧ ∀ z, z ∈ ms ↔ ∃ y ∈ ks, z = (partR n c v (ixK (pcs (10 * n) v) y) : Int)
theorem Seen.nil (n : Nat) (c : Nat → Nat → Int) (v : Nat → Int) : Seen n c v [] [] := ⟨List.nodup_nil, fun z => by simp⟩
theorem Seen.old {n : Nat} {c : Nat → Nat → Int} {v : Nat → Int} {ks : List (Nat × Nat)} {ms : List Int} {y : Nat × Nat} (h : Seen n c v ks ms) (hy : (partR n c v (ixK (pcs (10 * n) v) y) : Int) ∈ ms) : Seen n c v (ks ++ [y]) ms :=
  ⟨h.1, fun z => by
    rw [h.2]
    constructor
    · rintro ⟨x, hx, e⟩; exact ⟨x, by simp [hx], e⟩
    · rintro ⟨x, hx, e⟩
      rcases List.mem_append.1 hx with hx | hx
      · exact ⟨x, hx, e⟩
      · simp at hx; subst hx
        rw [e]; exact (h.2 _).1 hy⟩
theorem Seen.new {n : Nat} {c : Nat → Nat → Int} {v : Nat → Int} {ks : List (Nat × Nat)} {ms : List Int} {y : Nat × Nat} (h : Seen n c v ks ms) (hy : (partR n c v (ixK (pcs (10 * n) v) y) : Int) ∉ ms) : Seen n c v (ks ++ [y]) (ms ++ [(partR n c v (ixK (pcs (10 * n) v) y) : Int)]) := by
  refine ⟨List.nodup_append.2 ⟨h.1, by simp, fun a ha b hb e => ?_⟩, fun z => ?_⟩
  · simp at hb; subst hb; subst e; exact hy ha
  · rw [List.mem_append, h.2]
    constructor
    · rintro (⟨x, hx, e⟩ | e)
      · exact ⟨x, by simp [hx], e⟩
      · simp at e; exact ⟨y, by simp, e⟩
    · rintro ⟨x, hx, e⟩
      rcases List.mem_append.1 hx with hx | hx
      · exact .inl ⟨x, hx, e⟩
      · simp at hx; subst hx; exact .inr (by simp [e])
theorem Seen.len {n : Nat} {c : Nat → Nat → Int} {v : Nat → Int} {ms : List Int} (h : Seen n c v (pcs (10 * n) v) ms) {r : Nat → Nat → Prop} (hc : Cls r (partR n c v)) : ms.length = partN n c v := by
  have hp : ms.Perm (((List.range (pcs (10 * n) v).length).filter fun x => partR n c v x = x).map fun x : Nat => (x : Int)) := by
    refine (List.perm_ext_iff_of_nodup h.1 ?_).2 fun z => ?_
    · rw [List.nodup_iff_pairwise_ne, List.pairwise_map]
      have hn : ((List.range (pcs (10 * n) v).length).filter fun x => partR n c v x = x).Nodup := List.Nodup.sublist List.filter_sublist List.nodup_range
      exact List.Pairwise.imp (fun h e => h (by omega)) hn
    · rw [h.2]
      simp only [List.mem_map, List.mem_filter, List.mem_range, decide_eq_true_eq]
      constructor
      · rintro ⟨y, hy, e⟩; exact ⟨_, ⟨hc.lt (ixK_lt hy), hc.idem _⟩, e.symm⟩
      · rintro ⟨x, ⟨hx, hr⟩, e⟩
        refine ⟨(pcs (10 * n) v)[x], List.getElem_mem _, ?_⟩
        rw [idxOf_getElem' (nodup_pcs _ _), hr, e]
  rw [hp.length_eq, List.length_map]; rfl
/-- All keys have this value. -/
def tru {κ : Type} : Nat → κ → Value := fun _ _ => .bool true

theorem Parts_ok {b off n cap bv ov nv cv : Nat} {c : Nat → Nat → Int} {v : Nat → Int} {w : World} (hc : At w b off n c) (hv : AtV w bv ov nv v) (hcv : nv ≤ cv) (hg : GlueOK n c) (hn : n ≤ 60) (hH : Holds n c nv v) (hN : (pcs (10 * n) v).length ≤ 20000) : Calls Tryz.prog 18 #[.agg #[sl b off n cap], sl bv ov nv cv] w fun e w' => ∃ p : Nat × Nat, IsOct n v p.1 ∧ e = .returned (.tuple #[.int .i64 (partN n c v : Int), .slice (some ⟨p.2, 0, none⟩) nv nv, .int .i64 0]) ∧ Rep w [] [(p.2, intsB (mainL n c v (p.1, 0)) 3)] w' := by
  have hnv := hH.1
  have hin : InR nv v := hH.2.1
  have hin10 : InR (10 * n) v := hnv ▸ hin
  have hAE := (allEq_iff hg).1 hH.2.2.2.2
  have hcls := part_cls hg hin10 hAE
  have hS := pcs_len hin10
  have hSk : ∀ k, k ≤ nv → 0 ≤ sumTo k v ∧ sumTo k v ≤ 1000000 * k := fun k hk => sumTo_bound (N := nv) (by omega) hin k hk
  refine calls_of (n := 101) Tryz.func18 rfl Tryz.ntmps18 rfl ?_
  refine tri_eq (l' := [(0, .agg #[sl b off n cap]), (1, sl bv ov nv cv)]) (hs' := []) rfl rfl ?_
  refine wr [0, 1, 2, 3] rfl ?_
  refine kB (.agg #[sl b off n cap]) fun b1 => ?_
  refine kSe 3 0 [] [2, 1] ?_
  refine tri_seq ?_
  refine wr [0, 1, 2, 3] rfl ?_
  refine kL 0 (.agg #[sl b off n cap]) ?_
  refine kS 1 0 [(23, sl bv ov nv cv)] [22, 2, 1] ?_
  refine kC en42 #[.agg #[sl b off n cap], sl bv ov nv cv] (ii 0) rfl (fun W hR => check_ok (hc.rep hR (by simp)) (hv.rep hR (by simp)) hcv hg hn hH) ?_ (by kernel_rfl)
  refine kSn 1 0 [(7, ii 0)] [2, 1] [0, 1] ?_
  refine kSe 2 0 [(26, .bool false)] [7, 2, 1] ?_
  refine tri_cond_false rfl ?_
  refine tri_skip ?_
  refine post_then ?_
  refine wr [0] rfl ?_
  refine kSe 1 0 [(8, ii 0)] [2, 1] ?_
  refine tri_seq ?_
  refine wr [0, 1, 2] rfl ?_
  refine kSe 3 0 [(30, ii 0), (29, ii ((nv : Nat) : Int)), (28, sl bv ov nv cv)] [8, 2, 1] ?_
  refine tri_block ?_
  refine tri_eq (l' := [(30, ii 0), (29, ii ((nv : Nat) : Int)), (28, sl bv ov nv cv), (8, ii (sumTo 0 v)), (2, pt b1 0), (1, sl bv ov nv cv)]) (hs' := [(b1, .cells #[sl b off n cap] 24 (0, 0))]) rfl rfl ?_
  refine tri_loop (β := Nat) (fun xz => [(29, ii ((nv : Nat) : Int)), (28, sl bv ov nv cv), (2, pt b1 0), (1, sl bv ov nv cv), (30, ii (xz : Int)), (8, ii (sumTo xz v))]) (fun xz => [(b1, .cells #[sl b off n cap] 24 (0, 0))]) (fun xz => xz ≤ nv) (fun xz => nv - xz) 0 (look_pickL (ks := [29, 28, 2, 1, 30, 8]) (by kernel_rfl)) (List.Sublist.refl _) (Nat.zero_le _) ?_
  rintro k hC0
  try dsimp only at hC0
  refine tri_eq (l' := [(29, ii ((nv : Nat) : Int)), (28, sl bv ov nv cv), (2, pt b1 0), (1, sl bv ov nv cv), (30, ii (k : Int)), (8, ii (sumTo k v))]) (hs' := [(b1, .cells #[sl b off n cap] 24 (0, 0))]) rfl rfl ?_
  refine wr [0] rfl ?_
  refine kSe 1 5 [(31, .bool (decide ((k : Int) < ((nv : Nat) : Int))))] [29, 28, 2, 1, 30, 8] ?_
  refine tri_seq ?_
  refine tri_cond_dec (p := (k : Int) < ((nv : Nat) : Int)) rfl (fun h1 => ?_) (fun h1 => ?_)
  · refine tri_skip ?_
    refine post_then ?_
    refine tri_seq ?_
    refine tri_block ?_
    refine wr [0, 1, 2] rfl ?_
    refine kO 1 9 [(32, pt bv (ov + k))] [29, 28, 2, 1, 30, 8] [(0 : Int) ≤ (k : Int), (k : Int) < ((nv : Nat) : Int)] (by refine ap ?_ (ap1 ?_) <;> (first | omega | assumption | (have z1 := hin e (by omega); omega) | (have z1 := hSk k (by omega); have z2 := hin k (by omega); omega) | (have z1 := mainTo_at (n := n) (c := c) (v := v) (home := (x, 0)) (e := e) (r := r) (by omega); have z2 := cntTo_le n c v (x, 0) e r; have z3 := hin e (by omega); simp only [Nat.zero_add, Nat.add_zero] at *; omega))) ?_
    refine kM bv (ov + k) [ii (v k)] (ii (v k)) (hv.one (by omega)) ?_
    refine kSe 1 0 [(10, ii (v k))] [29, 28, 2, 1, 30, 8] ?_
    refine tri_region (todo := [0, 1, 2, 3]) rfl ?_
    refine kO 4 512 [(8, ii ((sumTo k v) + (v k)))] [29, 28, 2, 1, 30] [I64 ((sumTo k v) + (v k))] (ap1 (by first | omega | assumption | (have z1 := hin e (by omega); omega) | (have z1 := hSk k (by omega); have z2 := hin k (by omega); omega) | (have z1 := mainTo_at (n := n) (c := c) (v := v) (home := (x, 0)) (e := e) (r := r) (by omega); have z2 := cntTo_le n c v (x, 0) e r; have z3 := hin e (by omega); simp only [Nat.zero_add, Nat.add_zero] at *; omega))) ?_
    refine opsT_end ?_
    refine post_block ?_
    refine post_then ?_
    refine tri_region (todo := [0, 1]) rfl ?_
    refine kO 2 2 [(30, ii ((k : Int) + 1))] [8, 29, 28, 2, 1] [I64 ((k : Int) + 1)] (ap1 (by first | omega | assumption | (have z1 := hin e (by omega); omega) | (have z1 := hSk k (by omega); have z2 := hin k (by omega); omega) | (have z1 := mainTo_at (n := n) (c := c) (v := v) (home := (x, 0)) (e := e) (r := r) (by omega); have z2 := cntTo_le n c v (x, 0) e r; have z3 := hin e (by omega); simp only [Nat.zero_add, Nat.add_zero] at *; omega))) ?_
    refine opsT_end ?_
    refine post_leq (l' := [(30, ii ((k : Int) + 1)), (8, ii (sumTo (k + 1) v)), (29, ii ((nv : Nat) : Int)), (28, sl bv ov nv cv), (2, pt b1 0), (1, sl bv ov nv cv)]) (by rw [show sumTo (k + 1) v = (sumTo k v) + (v k) from sumTo_succ _ _]) ?_
    refine post_round (k + 1) (by omega) (by show nv - (k + 1) < nv - k; omega) (look_pickL (ks := [29, 28, 2, 1, 30, 8]) (by kernel_rfl)) (List.Sublist.refl _)
  · refine tri_exit ?_
    refine post_then_exit ?_
    refine post_round_exit ?_
    refine post_block_hit ?_
    refine post_then ?_
    refine tri_seq ?_
    refine wr [0, 1] rfl ?_
    refine kSe 2 80 [(39, .bool (decide (20000 < sumTo k v)))] [2, 1] ?_
    refine tri_cond_dec (p := 20000 < sumTo k v) rfl (fun h2 => ?_) (fun h2 => ?_)
    · refine wr [0, 1, 2] rfl ?_
      refine kSe 3 0 [(6, ii 2), (5, .slice none 0 0), (4, ii 0)] [] ?_
      refine tri_ret ?_
      refine post_then_ret ?_
      refine post_ret3 (v := ii 0) (v' := .slice none 0 0) (u := ii 2) rfl (.tmp rfl) (.tmp rfl) (.tmp rfl) (fun W hR => ?_)
      exfalso
      first | omega | (have hk : k = 10 * n := (by omega); subst hk; omega)
    · refine tri_skip ?_
      refine post_then ?_
      refine wr [0, 1, 2, 3, 4, 5, 6, 7, 8, 9] rfl ?_
      refine kL 0 (.agg #[sl b off n cap]) ?_
      refine kS 2 0 [(43, .agg #[sl b off n cap, sl bv ov nv cv])] [2, 1] ?_
      refine kB (.agg #[sl b off n cap, sl bv ov nv cv]) fun b2 => ?_
      refine opsT_callR (f := 54) (args := #[pt b2 0]) [] [(b2, .cells #[sl b off n cap, sl bv ov nv cv] 89 (0, 0)), (b1, .cells #[sl b off n cap] 24 (0, 0))] (fun p : Nat × List (Nat × Obj) => .tuple #[.pointer (some ⟨p.1, 0, none⟩), .bool true]) (fun p => p.2) (fun p => UN 165 pairV p.1 ((pcs (10 * n) v).map zz) (partR n c v) p.2) rfl rfl rfl rfl rfl (run_call en54 rfl rfl rfl (by kernel_rfl)) (List.Perm.refl _) (fun W hR => parts_ (b := b) (off := off) (n := n) (cap := cap) (bv := bv) (ov := ov) (nv := nv) (cv := cv) (show SurfAt W b2 _ _ from cells_own (c := #[sl b off n cap, sl bv ov nv cv]) (e := 89) (fz := (0, 0)) (off := 0) (m := 2) (hR.own b2 _ (by simp))) (hc.rep hR (by simp)) (hv.rep hR (by simp)) hg hn hH hN) ?_
      rintro ⟨bu, u0⟩ hU0
      dsimp only at hU0
      refine opsT_perm (hs' := (b2, .cells #[sl b off n cap, sl bv ov nv cv] 89 (0, 0)) :: (b1, .cells #[sl b off n cap] 24 (0, 0)) :: u0) (List.perm_append_comm (l₂ := ([(b2, .cells #[sl b off n cap, sl bv ov nv cv] 89 (0, 0)), (b1, .cells #[sl b off n cap] 24 (0, 0))] : List (Nat × Obj)))) ?_
      refine kSe 5 0 [(12, .bool true), (11, pt bu 0)] [2, 1] ?_
      refine tri_seq ?_
      refine wr [0, 1] rfl ?_
      refine kSe 2 0 [(49, .bool false)] [11, 2, 1] ?_
      refine tri_cond_false rfl ?_
      refine tri_skip ?_
      refine post_then ?_
      refine wr [0, 1, 2, 3, 4, 5, 6, 7, 8, 9] rfl ?_
      refine kL 1 (.agg #[sl b off n cap]) ?_
      refine kS 1 0 [(52, sl bv ov nv cv)] [51, 11, 1] ?_
      refine opsT_callR (f := 38) (args := #[.agg #[sl b off n cap], sl bv ov nv cv]) [] ((b2, .cells #[sl b off n cap, sl bv ov nv cv] 89 (0, 0)) :: (b1, .cells #[sl b off n cap] 24 (0, 0)) :: u0) (fun x : Nat => .tuple #[.int .i64 ((x : Int) / 10), .int .i64 ((x : Int) % 10 - 7), .int .i64 0]) (fun _ => []) (fun x => IsOct n v x) rfl rfl rfl rfl rfl (run_call en38 rfl rfl rfl (by kernel_rfl)) (List.Perm.refl _) (fun W hR => (Octagon_ok (hc.rep hR (by simp)) (hv.rep hR (by simp)) hcv hg hn hH).mono fun e w' ⟨r, h1, h2, h3⟩ => ⟨r, h1, h2, Ext.rep h3⟩) (fun x hx => ?_)
      refine opsT_heq (hs' := (b2, .cells #[sl b off n cap, sl bv ov nv cv] 89 (0, 0)) :: (b1, .cells #[sl b off n cap] 24 (0, 0)) :: u0) rfl ?_
      have hx1 := hx.1
      have hx2 := hx.2.1
      have hxm : (x, 0) ∈ (pcs (10 * n) v) := mem_pcs.2 ⟨hx.1, by show 0 < vn v x; unfold vn; rw [hx.2.2]; decide⟩
      refine kSn 7 0 [(14, ii ((x : Int) % 10 - 7)), (13, ii ((x : Int) / 10))] [11, 1] [0, 1, 2, 3, 4, 5, 6, 7, 8] ?_
      refine kO 7 2105856 [(63, .agg #[ii (((10 * ((x : Int) / 10)) + 7) + ((x : Int) % 10 - 7)), ii 0]), (57, pt bu 0)] [11, 1] [I64 (10 * ((x : Int) / 10)), I64 ((10 * ((x : Int) / 10)) + 7), I64 (((10 * ((x : Int) / 10)) + 7) + ((x : Int) % 10 - 7))] (by refine ap ?_ (ap ?_ (ap1 ?_)) <;> (first | omega | assumption | (have z1 := hin e (by omega); omega) | (have z1 := hSk k (by omega); have z2 := hin k (by omega); omega) | (have z1 := mainTo_at (n := n) (c := c) (v := v) (home := (x, 0)) (e := e) (r := r) (by omega); have z2 := cntTo_le n c v (x, 0) e r; have z3 := hin e (by omega); simp only [Nat.zero_add, Nat.add_zero] at *; omega))) ?_
      rw [show ((10 * ((x : Int) / 10)) + 7) + ((x : Int) % 10 - 7) = (x : Int) from by omega]
      refine kR en55 #[pt bu 0, .agg #[ii (x : Int), ii 0]] u0 ([(b2, .cells #[sl b off n cap, sl bv ov nv cv] 89 (0, 0)), (b1, .cells #[sl b off n cap] 24 (0, 0))]) (fun _ => ii (partR n c v (ixK (pcs (10 * n) v) (x, 0)) : Int)) (fun u => u) (fun u => UN 165 pairV bu ((pcs (10 * n) v).map zz) (partR n c v) u) rfl (List.perm_append_comm (l₁ := ([(b2, .cells #[sl b off n cap, sl bv ov nv cv] 89 (0, 0)), (b1, .cells #[sl b off n cap] 24 (0, 0))] : List (Nat × Obj))) (l₂ := u0)) (fun W hR => rootP_at hU0 (Rep.mineOf hR) hxm) (fun u1 hU1 => ?_) (by kernel_rfl)
      refine opsT_perm (hs' := (b2, .cells #[sl b off n cap, sl bv ov nv cv] 89 (0, 0)) :: (b1, .cells #[sl b off n cap] 24 (0, 0)) :: u1) (List.perm_append_comm (l₁ := u1) (l₂ := ([(b2, .cells #[sl b off n cap, sl bv ov nv cv] 89 (0, 0)), (b1, .cells #[sl b off n cap] 24 (0, 0))] : List (Nat × Obj)))) ?_
      refine kSn 1 0 [(16, ii (partR n c v (ixK (pcs (10 * n) v) (x, 0)) : Int))] [11, 1] [0, 1, 2, 3] ?_
      refine kS 2 0 [(66, ii ((nv : Nat) : Int))] [16, 11, 1] ?_
      refine opsT_make (e := 3) ((nv : Nat) : Int) (ii 0) 8 rfl rfl rfl rfl rfl rfl rfl rfl (by kernel_rfl) (by kernel_rfl) rfl (by first | omega | assumption | (have z1 := hin e (by omega); omega) | (have z1 := hSk k (by omega); have z2 := hin k (by omega); omega) | (have z1 := mainTo_at (n := n) (c := c) (v := v) (home := (x, 0)) (e := e) (r := r) (by omega); have z2 := cntTo_le n c v (x, 0) e r; have z3 := hin e (by omega); simp only [Nat.zero_add, Nat.add_zero] at *; omega)) (by first | omega | assumption | (have z1 := hin e (by omega); omega) | (have z1 := hSk k (by omega); have z2 := hin k (by omega); omega) | (have z1 := mainTo_at (n := n) (c := c) (v := v) (home := (x, 0)) (e := e) (r := r) (by omega); have z2 := cntTo_le n c v (x, 0) e r; have z3 := hin e (by omega); simp only [Nat.zero_add, Nat.add_zero] at *; omega)) (by first | omega | assumption | (have z1 := hin e (by omega); omega) | (have z1 := hSk k (by omega); have z2 := hin k (by omega); omega) | (have z1 := mainTo_at (n := n) (c := c) (v := v) (home := (x, 0)) (e := e) (r := r) (by omega); have z2 := cntTo_le n c v (x, 0) e r; have z3 := hin e (by omega); simp only [Nat.zero_add, Nat.add_zero] at *; omega)) (fun b3 => ?_)
      refine opsT_heq (hs' := (b3, intsB (List.replicate nv 0) 3) :: (b2, .cells #[sl b off n cap, sl bv ov nv cv] 89 (0, 0)) :: (b1, .cells #[sl b off n cap] 24 (0, 0)) :: u1) (by simp [vecB, intsB, boolsB, Value.cells]) ?_
      refine kSn 1 0 [(5, sl b3 0 nv nv)] [16, 11, 1] [0, 1] ?_
      refine opsT_makeMap (Value.int .i64) tru rfl rfl rfl rfl rfl rfl (fun b4 => ?_)
      refine kSe 1 0 [(17, .map (some b4))] [5, 16, 11, 1] ?_
      refine tri_seq ?_
      refine wr [0, 1, 2] rfl ?_
      refine kSe 3 0 [(71, ii 0), (70, ii ((nv : Nat) : Int)), (69, sl bv ov nv cv)] [17, 5, 16, 11] ?_
      refine tri_block ?_
      refine tri_heq (hs' := (b4, mapB (Value.int .i64) tru []) :: (b3, intsB (mainTo n c v (x, 0) 0 0) 3) :: (b2, .cells #[sl b off n cap, sl bv ov nv cv] 89 (0, 0)) :: (b1, .cells #[sl b off n cap] 24 (0, 0)) :: u1) (by rw [mainTo_zero, hnv] <;> simp) ?_
      refine tri_loop (β := Nat × List (Nat × Obj) × List Int) (fun xz => [(70, ii ((nv : Nat) : Int)), (69, sl bv ov nv cv), (17, .map (some b4)), (5, sl b3 0 nv nv), (16, ii (partR n c v (ixK (pcs (10 * n) v) (x, 0)) : Int)), (11, pt bu 0), (71, ii (xz.1 : Int))]) (fun xz => (b4, mapB (Value.int .i64) tru xz.2.2) :: (b3, intsB (mainTo n c v (x, 0) xz.1 0) 3) :: (b2, .cells #[sl b off n cap, sl bv ov nv cv] 89 (0, 0)) :: (b1, .cells #[sl b off n cap] 24 (0, 0)) :: xz.2.1) (fun xz => xz.1 ≤ nv ∧ UN 165 pairV bu ((pcs (10 * n) v).map zz) (partR n c v) xz.2.1 ∧ Seen n c v (pcs xz.1 v) xz.2.2) (fun xz => nv - xz.1) (0, u1, []) (look_pickL (ks := [70, 69, 17, 5, 16, 11, 71]) (by kernel_rfl)) (List.Sublist.refl _) ⟨Nat.zero_le _, hU1, Seen.nil n c v⟩ ?_
      rintro ⟨e, u, ms⟩ hC1
      try dsimp only at hC1
      refine tri_eq (l' := [(70, ii ((nv : Nat) : Int)), (69, sl bv ov nv cv), (17, .map (some b4)), (5, sl b3 0 nv nv), (16, ii (partR n c v (ixK (pcs (10 * n) v) (x, 0)) : Int)), (11, pt bu 0), (71, ii (e : Int))]) (hs' := (b4, mapB (Value.int .i64) tru ms) :: (b3, intsB (mainTo n c v (x, 0) e 0) 3) :: (b2, .cells #[sl b off n cap, sl bv ov nv cv] 89 (0, 0)) :: (b1, .cells #[sl b off n cap] 24 (0, 0)) :: u) rfl rfl ?_
      refine wr [0] rfl ?_
      refine kSe 1 5 [(72, .bool (decide ((e : Int) < ((nv : Nat) : Int))))] [70, 69, 17, 5, 16, 11, 71] ?_
      refine tri_seq ?_
      refine tri_cond_dec (p := (e : Int) < ((nv : Nat) : Int)) rfl (fun h3 => ?_) (fun h3 => ?_)
      · refine tri_skip ?_
        refine post_then ?_
        refine tri_seq ?_
        refine tri_block ?_
        refine wr [0, 1, 2, 3, 4] rfl ?_
        refine kO 2 144 [(74, pt bv (ov + e)), (73, ii (e : Int))] [70, 69, 17, 5, 16, 11, 71] [(0 : Int) ≤ (e : Int), (e : Int) < ((nv : Nat) : Int)] (by refine ap ?_ (ap1 ?_) <;> (first | omega | assumption | (have z1 := hin e (by omega); omega) | (have z1 := hSk k (by omega); have z2 := hin k (by omega); omega) | (have z1 := mainTo_at (n := n) (c := c) (v := v) (home := (x, 0)) (e := e) (r := r) (by omega); have z2 := cntTo_le n c v (x, 0) e r; have z3 := hin e (by omega); simp only [Nat.zero_add, Nat.add_zero] at *; omega))) ?_
        refine kM bv (ov + e) [ii (v e)] (ii (v e)) (hv.one (by omega)) ?_
        refine kSn 2 0 [(19, ii (v e)), (18, ii (e : Int))] [70, 69, 17, 5, 16, 11, 71] [0, 1] ?_
        refine kSe 2 0 [(77, ii 0), (76, ii (v e))] [18, 70, 69, 17, 5, 16, 11, 71] ?_
        refine tri_block ?_
        refine tri_loop (β := Nat × List (Nat × Obj) × List Int) (fun xz => [(76, ii (v e)), (18, ii (e : Int)), (70, ii ((nv : Nat) : Int)), (69, sl bv ov nv cv), (17, .map (some b4)), (5, sl b3 0 nv nv), (16, ii (partR n c v (ixK (pcs (10 * n) v) (x, 0)) : Int)), (11, pt bu 0), (71, ii (e : Int)), (77, ii (xz.1 : Int))]) (fun xz => (b4, mapB (Value.int .i64) tru xz.2.2) :: (b3, intsB (mainTo n c v (x, 0) e xz.1) 3) :: (b2, .cells #[sl b off n cap, sl bv ov nv cv] 89 (0, 0)) :: (b1, .cells #[sl b off n cap] 24 (0, 0)) :: xz.2.1) (fun xz => xz.1 ≤ vn v e ∧ UN 165 pairV bu ((pcs (10 * n) v).map zz) (partR n c v) xz.2.1 ∧ Seen n c v (pcsK v e xz.1) xz.2.2) (fun xz => vn v e - xz.1) (0, u, ms) (look_pickL (ks := [76, 18, 70, 69, 17, 5, 16, 11, 71, 77]) (by kernel_rfl)) (List.Sublist.refl _) ⟨Nat.zero_le _, hC1.2.1, by rw [pcsK_zero]; exact hC1.2.2⟩ ?_
        rintro ⟨r, u2, ms2⟩ hC2
        try dsimp only at hC2
        refine tri_eq (l' := [(76, ii (v e)), (18, ii (e : Int)), (70, ii ((nv : Nat) : Int)), (69, sl bv ov nv cv), (17, .map (some b4)), (5, sl b3 0 nv nv), (16, ii (partR n c v (ixK (pcs (10 * n) v) (x, 0)) : Int)), (11, pt bu 0), (71, ii (e : Int)), (77, ii (r : Int))]) (hs' := (b4, mapB (Value.int .i64) tru ms2) :: (b3, intsB (mainTo n c v (x, 0) e r) 3) :: (b2, .cells #[sl b off n cap, sl bv ov nv cv] 89 (0, 0)) :: (b1, .cells #[sl b off n cap] 24 (0, 0)) :: u2) rfl rfl ?_
        refine wr [0] rfl ?_
        refine kSe 1 5 [(78, .bool (decide ((r : Int) < v e)))] [76, 18, 70, 69, 17, 5, 16, 11, 71, 77] ?_
        refine tri_seq ?_
        refine tri_cond_dec (p := (r : Int) < v e) rfl (fun h4 => ?_) (fun h4 => ?_)
        · refine tri_skip ?_
          refine post_then ?_
          refine tri_seq ?_
          refine tri_block ?_
          refine wr [0, 1] rfl ?_
          refine kSn 2 0 [(20, ii (r : Int))] [76, 18, 70, 69, 17, 5, 16, 11, 71, 77] [0, 1, 2, 3, 4, 5] ?_
          refine kS 4 0 [(83, .agg #[ii (e : Int), ii (r : Int)]), (80, pt bu 0)] [76, 18, 70, 69, 17, 5, 16, 11, 71, 77] ?_
          refine kR en55 #[pt bu 0, .agg #[ii (e : Int), ii (r : Int)]] u2 ([(b4, mapB (Value.int .i64) tru ms2), (b3, intsB (mainTo n c v (x, 0) e r) 3), (b2, .cells #[sl b off n cap, sl bv ov nv cv] 89 (0, 0)), (b1, .cells #[sl b off n cap] 24 (0, 0))]) (fun _ => ii (partR n c v (ixK (pcs (10 * n) v) (e, r)) : Int)) (fun u => u) (fun u => UN 165 pairV bu ((pcs (10 * n) v).map zz) (partR n c v) u) rfl (List.perm_append_comm (l₁ := ([(b4, mapB (Value.int .i64) tru ms2), (b3, intsB (mainTo n c v (x, 0) e r) 3), (b2, .cells #[sl b off n cap, sl bv ov nv cv] 89 (0, 0)), (b1, .cells #[sl b off n cap] 24 (0, 0))] : List (Nat × Obj))) (l₂ := u2)) (fun W hR => rootP_at hC2.2.1 (Rep.mineOf hR) (mem_pcs.2 ⟨by show e < 10 * n; omega, by show r < vn v e; unfold vn; omega⟩)) (fun u2 hU2 => ?_) (by kernel_rfl)
          refine opsT_perm (hs' := (b4, mapB (Value.int .i64) tru ms2) :: (b3, intsB (mainTo n c v (x, 0) e r) 3) :: (b2, .cells #[sl b off n cap, sl bv ov nv cv] 89 (0, 0)) :: (b1, .cells #[sl b off n cap] 24 (0, 0)) :: u2) (List.perm_append_comm (l₁ := u2) (l₂ := ([(b4, mapB (Value.int .i64) tru ms2), (b3, intsB (mainTo n c v (x, 0) e r) 3), (b2, .cells #[sl b off n cap, sl bv ov nv cv] 89 (0, 0)), (b1, .cells #[sl b off n cap] 24 (0, 0))] : List (Nat × Obj)))) ?_
          refine kSe 1 0 [(21, ii (partR n c v (ixK (pcs (10 * n) v) (e, r)) : Int))] [76, 18, 70, 69, 17, 5, 16, 11, 71, 77] ?_
          refine tri_seq ?_
          by_cases h5 : (partR n c v (ixK (pcs (10 * n) v) (e, r)) : Int) ∈ ms2
          · refine tri_region (todo := [0, 1, 2]) rfl ?_
            refine kS 2 0 [(86, ii (partR n c v (ixK (pcs (10 * n) v) (e, r)) : Int)), (85, .map (some b4))] [21, 76, 18, 70, 69, 17, 5, 16, 11, 71, 77] ?_
            refine opsT_mapOld (e := 4) keyI tru 0 b4 ms2 (partR n c v (ixK (pcs (10 * n) v) (e, r)) : Int) rfl rfl rfl rfl rfl rfl rfl rfl (by kernel_rfl) rfl h5 ?_
            refine kP [21, 76, 18, 70, 69, 17, 5, 16, 11, 71, 77] ?_
            refine wn [0, 1, 2] rfl ?_
            refine kSe 3 1280 [(89, .bool (decide ((partR n c v (ixK (pcs (10 * n) v) (e, r)) : Int) = (partR n c v (ixK (pcs (10 * n) v) (x, 0)) : Int))))] [76, 18, 70, 69, 17, 5, 16, 11, 71, 77] ?_
            refine tri_cond_dec (p := (partR n c v (ixK (pcs (10 * n) v) (e, r)) : Int) = (partR n c v (ixK (pcs (10 * n) v) (x, 0)) : Int)) rfl (fun h6 => ?_) (fun h6 => ?_)
            · refine tri_region (todo := [0, 1, 2, 3, 4, 5, 6]) rfl ?_
              refine kO 3 2304 [(92, pt b3 (0 + e)), (91, ii (e : Int)), (90, sl b3 0 nv nv)] [76, 18, 70, 69, 17, 5, 16, 11, 71, 77] [(0 : Int) ≤ (e : Int), (e : Int) < ((nv : Nat) : Int)] (by refine ap ?_ (ap1 ?_) <;> (first | omega | assumption | (have z1 := hin e (by omega); omega) | (have z1 := hSk k (by omega); have z2 := hin k (by omega); omega) | (have z1 := mainTo_at (n := n) (c := c) (v := v) (home := (x, 0)) (e := e) (r := r) (by omega); have z2 := cntTo_le n c v (x, 0) e r; have z3 := hin e (by omega); simp only [Nat.zero_add, Nat.add_zero] at *; omega))) ?_
              refine kI 1 (0 + e) 1 (mainTo n c v (x, 0) e r) (ii ((mainTo n c v (x, 0) e r).getD (0 + e + 0) 0)) (by first | omega | (rw [mainTo_len]; omega) | (simp only [Nat.zero_add]; rw [mainTo_len]; omega)) ?_
              refine kO 2 146 [(95, pt b3 (0 + e)), (94, ii (((mainTo n c v (x, 0) e r).getD (0 + e + 0) 0) + 1))] [76, 18, 70, 69, 17, 5, 16, 11, 71, 77] [I64 (((mainTo n c v (x, 0) e r).getD (0 + e + 0) 0) + 1), (0 : Int) ≤ (e : Int), (e : Int) < ((nv : Nat) : Int)] (by refine ap ?_ (ap ?_ (ap1 ?_)) <;> (first | omega | assumption | (have z1 := hin e (by omega); omega) | (have z1 := hSk k (by omega); have z2 := hin k (by omega); omega) | (have z1 := mainTo_at (n := n) (c := c) (v := v) (home := (x, 0)) (e := e) (r := r) (by omega); have z2 := cntTo_le n c v (x, 0) e r; have z3 := hin e (by omega); simp only [Nat.zero_add, Nat.add_zero] at *; omega))) ?_
              refine opsT_storeInt 1 b3 (0 + e) (mainTo n c v (x, 0) e r) 3 (((mainTo n c v (x, 0) e r).getD (0 + e + 0) 0) + 1) rfl rfl rfl rfl rfl rfl rfl rfl (by kernel_rfl) (by first | omega | (rw [mainTo_len]; omega) | (simp only [Nat.zero_add]; rw [mainTo_len]; omega)) ?_
              refine kP [76, 18, 70, 69, 17, 5, 16, 11, 71, 77] ?_
              refine opsT_end ?_
              refine post_block ?_
              refine post_then ?_
              refine tri_region (todo := [0, 1]) rfl ?_
              refine kO 2 2 [(77, ii ((r : Int) + 1))] [76, 18, 70, 69, 17, 5, 16, 11, 71] [I64 ((r : Int) + 1)] (ap1 (by first | omega | assumption | (have z1 := hin e (by omega); omega) | (have z1 := hSk k (by omega); have z2 := hin k (by omega); omega) | (have z1 := mainTo_at (n := n) (c := c) (v := v) (home := (x, 0)) (e := e) (r := r) (by omega); have z2 := cntTo_le n c v (x, 0) e r; have z3 := hin e (by omega); simp only [Nat.zero_add, Nat.add_zero] at *; omega))) ?_
              refine opsT_end ?_
              refine post_heq (hs' := (b4, mapB (Value.int .i64) tru ms2) :: (b3, intsB (mainTo n c v (x, 0) e (r + 1)) 3) :: (b2, .cells #[sl b off n cap, sl bv ov nv cv] 89 (0, 0)) :: (b1, .cells #[sl b off n cap] 24 (0, 0)) :: u2) (by simp only [Nat.zero_add, Nat.add_zero]; rw [mainTo_yes (by omega) (by omega)] <;> rfl) ?_
              refine post_round ((r + 1), u2, ms2) ⟨by unfold vn; omega, hU2, by rw [pcsK_succ]; exact hC2.2.2.old (by assumption)⟩ (by show vn v e - (r + 1) < vn v e - r; unfold vn; omega) (look_pickL (ks := [76, 18, 70, 69, 17, 5, 16, 11, 71, 77]) (by kernel_rfl)) (List.Sublist.refl _)
            · refine tri_skip ?_
              refine post_block ?_
              refine post_then ?_
              refine tri_region (todo := [0, 1]) rfl ?_
              refine kO 2 2 [(77, ii ((r : Int) + 1))] [76, 18, 70, 69, 17, 5, 16, 11, 71] [I64 ((r : Int) + 1)] (ap1 (by first | omega | assumption | (have z1 := hin e (by omega); omega) | (have z1 := hSk k (by omega); have z2 := hin k (by omega); omega) | (have z1 := mainTo_at (n := n) (c := c) (v := v) (home := (x, 0)) (e := e) (r := r) (by omega); have z2 := cntTo_le n c v (x, 0) e r; have z3 := hin e (by omega); simp only [Nat.zero_add, Nat.add_zero] at *; omega))) ?_
              refine opsT_end ?_
              refine post_heq (hs' := (b4, mapB (Value.int .i64) tru ms2) :: (b3, intsB (mainTo n c v (x, 0) e (r + 1)) 3) :: (b2, .cells #[sl b off n cap, sl bv ov nv cv] 89 (0, 0)) :: (b1, .cells #[sl b off n cap] 24 (0, 0)) :: u2) (by rw [mainTo_no (by omega)] <;> rfl) ?_
              refine post_round ((r + 1), u2, ms2) ⟨by unfold vn; omega, hU2, by rw [pcsK_succ]; exact hC2.2.2.old (by assumption)⟩ (by show vn v e - (r + 1) < vn v e - r; unfold vn; omega) (look_pickL (ks := [76, 18, 70, 69, 17, 5, 16, 11, 71, 77]) (by kernel_rfl)) (List.Sublist.refl _)
          · refine tri_region (todo := [0, 1, 2]) rfl ?_
            refine kS 2 0 [(86, ii (partR n c v (ixK (pcs (10 * n) v) (e, r)) : Int)), (85, .map (some b4))] [21, 76, 18, 70, 69, 17, 5, 16, 11, 71, 77] ?_
            refine opsT_mapNew (e := 4) keyI tru 0 b4 ms2 (partR n c v (ixK (pcs (10 * n) v) (e, r)) : Int) rfl rfl rfl rfl rfl rfl rfl rfl (by kernel_rfl) rfl h5 ?_
            refine kP [21, 76, 18, 70, 69, 17, 5, 16, 11, 71, 77] ?_
            refine wn [0, 1, 2] rfl ?_
            refine kSe 3 1280 [(89, .bool (decide ((partR n c v (ixK (pcs (10 * n) v) (e, r)) : Int) = (partR n c v (ixK (pcs (10 * n) v) (x, 0)) : Int))))] [76, 18, 70, 69, 17, 5, 16, 11, 71, 77] ?_
            refine tri_cond_dec (p := (partR n c v (ixK (pcs (10 * n) v) (e, r)) : Int) = (partR n c v (ixK (pcs (10 * n) v) (x, 0)) : Int)) rfl (fun h6 => ?_) (fun h6 => ?_)
            · refine tri_region (todo := [0, 1, 2, 3, 4, 5, 6]) rfl ?_
              refine kO 3 2304 [(92, pt b3 (0 + e)), (91, ii (e : Int)), (90, sl b3 0 nv nv)] [76, 18, 70, 69, 17, 5, 16, 11, 71, 77] [(0 : Int) ≤ (e : Int), (e : Int) < ((nv : Nat) : Int)] (by refine ap ?_ (ap1 ?_) <;> (first | omega | assumption | (have z1 := hin e (by omega); omega) | (have z1 := hSk k (by omega); have z2 := hin k (by omega); omega) | (have z1 := mainTo_at (n := n) (c := c) (v := v) (home := (x, 0)) (e := e) (r := r) (by omega); have z2 := cntTo_le n c v (x, 0) e r; have z3 := hin e (by omega); simp only [Nat.zero_add, Nat.add_zero] at *; omega))) ?_
              refine kI 1 (0 + e) 1 (mainTo n c v (x, 0) e r) (ii ((mainTo n c v (x, 0) e r).getD (0 + e + 0) 0)) (by first | omega | (rw [mainTo_len]; omega) | (simp only [Nat.zero_add]; rw [mainTo_len]; omega)) ?_
              refine kO 2 146 [(95, pt b3 (0 + e)), (94, ii (((mainTo n c v (x, 0) e r).getD (0 + e + 0) 0) + 1))] [76, 18, 70, 69, 17, 5, 16, 11, 71, 77] [I64 (((mainTo n c v (x, 0) e r).getD (0 + e + 0) 0) + 1), (0 : Int) ≤ (e : Int), (e : Int) < ((nv : Nat) : Int)] (by refine ap ?_ (ap ?_ (ap1 ?_)) <;> (first | omega | assumption | (have z1 := hin e (by omega); omega) | (have z1 := hSk k (by omega); have z2 := hin k (by omega); omega) | (have z1 := mainTo_at (n := n) (c := c) (v := v) (home := (x, 0)) (e := e) (r := r) (by omega); have z2 := cntTo_le n c v (x, 0) e r; have z3 := hin e (by omega); simp only [Nat.zero_add, Nat.add_zero] at *; omega))) ?_
              refine opsT_storeInt 1 b3 (0 + e) (mainTo n c v (x, 0) e r) 3 (((mainTo n c v (x, 0) e r).getD (0 + e + 0) 0) + 1) rfl rfl rfl rfl rfl rfl rfl rfl (by kernel_rfl) (by first | omega | (rw [mainTo_len]; omega) | (simp only [Nat.zero_add]; rw [mainTo_len]; omega)) ?_
              refine kP [76, 18, 70, 69, 17, 5, 16, 11, 71, 77] ?_
              refine opsT_end ?_
              refine post_block ?_
              refine post_then ?_
              refine tri_region (todo := [0, 1]) rfl ?_
              refine kO 2 2 [(77, ii ((r : Int) + 1))] [76, 18, 70, 69, 17, 5, 16, 11, 71] [I64 ((r : Int) + 1)] (ap1 (by first | omega | assumption | (have z1 := hin e (by omega); omega) | (have z1 := hSk k (by omega); have z2 := hin k (by omega); omega) | (have z1 := mainTo_at (n := n) (c := c) (v := v) (home := (x, 0)) (e := e) (r := r) (by omega); have z2 := cntTo_le n c v (x, 0) e r; have z3 := hin e (by omega); simp only [Nat.zero_add, Nat.add_zero] at *; omega))) ?_
              refine opsT_end ?_
              refine post_heq (hs' := (b4, mapB (Value.int .i64) tru (ms2 ++ [(partR n c v (ixK (pcs (10 * n) v) (e, r)) : Int)])) :: (b3, intsB (mainTo n c v (x, 0) e (r + 1)) 3) :: (b2, .cells #[sl b off n cap, sl bv ov nv cv] 89 (0, 0)) :: (b1, .cells #[sl b off n cap] 24 (0, 0)) :: u2) (by simp only [Nat.zero_add, Nat.add_zero]; rw [mainTo_yes (by omega) (by omega)] <;> rfl) ?_
              refine post_round ((r + 1), u2, ms2 ++ [(partR n c v (ixK (pcs (10 * n) v) (e, r)) : Int)]) ⟨by unfold vn; omega, hU2, by rw [pcsK_succ]; exact hC2.2.2.new (by assumption)⟩ (by show vn v e - (r + 1) < vn v e - r; unfold vn; omega) (look_pickL (ks := [76, 18, 70, 69, 17, 5, 16, 11, 71, 77]) (by kernel_rfl)) (List.Sublist.refl _)
            · refine tri_skip ?_
              refine post_block ?_
              refine post_then ?_
              refine tri_region (todo := [0, 1]) rfl ?_
              refine kO 2 2 [(77, ii ((r : Int) + 1))] [76, 18, 70, 69, 17, 5, 16, 11, 71] [I64 ((r : Int) + 1)] (ap1 (by first | omega | assumption | (have z1 := hin e (by omega); omega) | (have z1 := hSk k (by omega); have z2 := hin k (by omega); omega) | (have z1 := mainTo_at (n := n) (c := c) (v := v) (home := (x, 0)) (e := e) (r := r) (by omega); have z2 := cntTo_le n c v (x, 0) e r; have z3 := hin e (by omega); simp only [Nat.zero_add, Nat.add_zero] at *; omega))) ?_
              refine opsT_end ?_
              refine post_heq (hs' := (b4, mapB (Value.int .i64) tru (ms2 ++ [(partR n c v (ixK (pcs (10 * n) v) (e, r)) : Int)])) :: (b3, intsB (mainTo n c v (x, 0) e (r + 1)) 3) :: (b2, .cells #[sl b off n cap, sl bv ov nv cv] 89 (0, 0)) :: (b1, .cells #[sl b off n cap] 24 (0, 0)) :: u2) (by rw [mainTo_no (by omega)] <;> rfl) ?_
              refine post_round ((r + 1), u2, ms2 ++ [(partR n c v (ixK (pcs (10 * n) v) (e, r)) : Int)]) ⟨by unfold vn; omega, hU2, by rw [pcsK_succ]; exact hC2.2.2.new (by assumption)⟩ (by show vn v e - (r + 1) < vn v e - r; unfold vn; omega) (look_pickL (ks := [76, 18, 70, 69, 17, 5, 16, 11, 71, 77]) (by kernel_rfl)) (List.Sublist.refl _)
        · refine tri_exit ?_
          refine post_then_exit ?_
          refine post_round_exit ?_
          refine post_block_hit ?_
          refine post_block ?_
          refine post_then ?_
          refine tri_region (todo := [0, 1]) rfl ?_
          refine kO 2 2 [(71, ii ((e : Int) + 1))] [70, 69, 17, 5, 16, 11] [I64 ((e : Int) + 1)] (ap1 (by first | omega | assumption | (have z1 := hin e (by omega); omega) | (have z1 := hSk k (by omega); have z2 := hin k (by omega); omega) | (have z1 := mainTo_at (n := n) (c := c) (v := v) (home := (x, 0)) (e := e) (r := r) (by omega); have z2 := cntTo_le n c v (x, 0) e r; have z3 := hin e (by omega); simp only [Nat.zero_add, Nat.add_zero] at *; omega))) ?_
          refine opsT_end ?_
          refine post_heq (hs' := (b4, mapB (Value.int .i64) tru ms2) :: (b3, intsB (mainTo n c v (x, 0) (e + 1) 0) 3) :: (b2, .cells #[sl b off n cap, sl bv ov nv cv] 89 (0, 0)) :: (b1, .cells #[sl b off n cap] 24 (0, 0)) :: u2) (by rw [← mainTo_next, show vn v e = r by have := hC2.1; unfold vn at *; omega] <;> rfl) ?_
          refine post_round ((e + 1), u2, ms2) ⟨by omega, hC2.2.1, by rw [← pcsK_full, show vn v e = r by have := hC2.1; unfold vn at *; omega]; exact hC2.2.2⟩ (by show nv - (e + 1) < nv - e; omega) (look_pickL (ks := [70, 69, 17, 5, 16, 11, 71]) (by kernel_rfl)) (List.Sublist.refl _)
      · refine tri_exit ?_
        refine post_then_exit ?_
        refine post_round_exit ?_
        refine post_block_hit ?_
        refine post_then ?_
        refine wr [0, 1, 2, 3, 4, 5] rfl ?_
        refine kS 1 0 [(98, .map (some b4))] [5] ?_
        refine opsT_lenMap (kt := 3) (e := 4) tru 0 b4 ms rfl rfl rfl rfl rfl rfl rfl rfl rfl rfl (by kernel_rfl) rfl ?_
        refine kSe 4 0 [(6, ii 0), (5, sl b3 0 nv nv), (4, ii (ms.length : Int))] [] ?_
        refine tri_ret ?_
        refine post_ret3 (v := ii (ms.length : Int)) (v' := sl b3 0 nv nv) (u := ii 0) rfl (.tmp rfl) (.tmp rfl) (.tmp rfl) (fun W hR => ?_)
        have hee : e = 10 * n := by omega
        subst hee
        exact ⟨(x, b3), hx, by rw [← hC1.2.2.len hcls, hnv], by rw [mainTo_all] at hR; exact hR.forget (.cons _ (.cons_cons _ (List.nil_sublist _)))⟩
end Go.Proofs.YtlkbokbcfajhjaaGreat
