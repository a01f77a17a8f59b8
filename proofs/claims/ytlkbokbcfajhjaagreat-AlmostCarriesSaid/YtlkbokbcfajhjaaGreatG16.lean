/- G16: Weights, Euler, Octagon -/
import Derived.Test.YtlkbokbcfajhjaaGreatG15
import Derived.Test.YtlkbokbcfajhjaaGreatB17
import Derived.Test.YtlkbokbcfajhjaaGreatD1
namespace Go.Proofs.YtlkbokbcfajhjaaGreat
open Go.Proofs.Walk
set_option maxRecDepth 100000
set_option linter.unusedVariables false
set_option linter.unusedSimpArgs false

theorem en12 : Walk.Enters Tryz.prog 12 := Walk.enters Tryz.func12 (by kernel_rfl) rfl
theorem en13 : Walk.Enters Tryz.prog 13 := Walk.enters Tryz.func13 (by kernel_rfl) rfl
theorem en38 : Walk.Enters Tryz.prog 38 := Walk.enters Tryz.func38 (by kernel_rfl) rfl
theorem Holds.pos {n : Nat} {c : Nat → Nat → Int} {nv : Nat} {v : Nat → Int} (h : Holds n c nv v) : 0 < n := by
  rcases Nat.eq_zero_or_pos n with e | e
  · subst e; have := h.2.2.2.1; simp [octS] at this
  · exact e
theorem oct_exists {n : Nat} {c : Nat → Nat → Int} {nv : Nat} {v : Nat → Int} (h : Holds n c nv v) : ∃ x, IsOct n v x := by
  obtain ⟨h1, h2, h3, h4, _⟩ := h
  subst h1
  rcases Classical.em (∃ x, IsOct n v x) with h | h
  · exact h
  · exfalso
    have hz : octS v n = sumTo n fun _ => 0 := by
      rw [octS_eq]
      refine sumTo_congr fun t ht => ?_
      have k := h3 t ht
      have e0 := h2 (10 * t + 7 + 0) (by omega); have e1 := h2 (10 * t + 7 + 1) (by omega); have e2 := h2 (10 * t + 7 + 2) (by omega)
      have n0 : v (10 * t + 7 + 0) ≠ 1 := fun e => h ⟨_, by omega, by omega, e⟩
      have n1 : v (10 * t + 7 + 1) ≠ 1 := fun e => h ⟨_, by omega, by omega, e⟩
      have n2 : v (10 * t + 7 + 2) ≠ 1 := fun e => h ⟨_, by omega, by omega, e⟩
      obtain ⟨_, k1, k2, k3⟩ := k
      omega
    have : ∀ k, sumTo k (fun _ => (0 : Int)) = 0 := by
      intro k
      induction k with
      | zero => rfl
      | succ k ih => rw [sumTo_succ, ih]; rfl
    rw [this] at hz
    omega
theorem check_ok {b off n cap bv ov nv cv : Nat} {c : Nat → Nat → Int} {v : Nat → Int} {w : World} (hc : At w b off n c) (hv : AtV w bv ov nv v) (hcv : nv ≤ cv) (hg : GlueOK n c) (hn : n ≤ 60) (hH : Holds n c nv v) : Calls Tryz.prog 42 #[.agg #[sl b off n cap], sl bv ov nv cv] w fun e w' => e = .returned (.int .i64 0) ∧ Ext w w' :=
  (check42 hc hv hcv (by have := hH.1; omega) (by omega)).mono fun e w' ⟨r, h, he, hx⟩ => by
    rcases h with h | h | h | h
    · exact absurd hg h.2
    · omega
    · exact absurd hH h.2.2.2
    · exact ⟨by rw [he, h.1], hx⟩

theorem Weights_ok {b off n cap bv ov nv cv : Nat} {c : Nat → Nat → Int} {v : Nat → Int} {w : World} (hc : At w b off n c) (hv : AtV w bv ov nv v) (hcv : nv ≤ cv) (hg : GlueOK n c) (hn : n ≤ 60) (hH : Holds n c nv v) : Calls Tryz.prog 12 #[.agg #[sl b off n cap], sl bv ov nv cv] w fun e w' => ∃ p : Value × List (Nat × Obj), Vec 3 1 ((wtsTo n c v (6 * n)).map (Value.int .i64)) (wtsTo n c v (6 * n)).length p.1 p.2 ∧ e = .returned (.tuple #[p.1, .int .i64 0]) ∧ Rep w [] p.2 w' := by
  refine calls_of (n := 16) Tryz.func12 rfl Tryz.ntmps12 rfl ?_
  refine tri_eq (l' := [(0, .agg #[sl b off n cap]), (1, sl bv ov nv cv)]) (hs' := []) rfl rfl ?_
  refine wr [0, 1, 2] rfl ?_
  refine kB (.agg #[sl b off n cap]) fun b1 => ?_
  refine kSe 2 0 [] [2, 1] ?_
  refine tri_seq ?_
  refine wr [0, 1, 2, 3] rfl ?_
  refine kL 0 (.agg #[sl b off n cap]) ?_
  refine kS 1 0 [(8, sl bv ov nv cv)] [7, 2, 1] ?_
  refine kC en42 #[.agg #[sl b off n cap], sl bv ov nv cv] (ii 0) rfl (fun W hR => check_ok (hc.rep hR (by simp)) (hv.rep hR (by simp)) hcv hg hn hH) ?_ (by kernel_rfl)
  refine kSn 1 0 [(6, ii 0)] [2, 1] [0, 1] ?_
  refine kSe 2 0 [(11, .bool false)] [6, 2, 1] ?_
  refine tri_cond_false rfl ?_
  refine tri_skip ?_
  refine post_then ?_
  refine wr [0, 1, 2, 3, 4] rfl ?_
  refine kL 0 (.agg #[sl b off n cap]) ?_
  refine kS 1 0 [(14, sl bv ov nv cv)] [13] ?_
  refine opsT_callR (f := 50) (args := #[.agg #[sl b off n cap], sl bv ov nv cv]) [] [(b1, .cells #[sl b off n cap] 24 (0, 0))] (fun p : Value × List (Nat × Obj) => p.1) (fun p => p.2) (fun p => Vec 3 1 ((wtsTo n c v (6 * n)).map (Value.int .i64)) (wtsTo n c v (6 * n)).length p.1 p.2) rfl rfl rfl rfl rfl (run_call en50 rfl rfl rfl (by kernel_rfl)) (List.Perm.refl _) (fun W hR => weights_ (hc.rep hR (by simp)) (hv.rep hR (by simp)) hg hn hH.pos hH.1 hH.2.1) ?_
  rintro ⟨sv, hvs⟩ hV
  dsimp only at hV
  refine opsT_leq (l' := [(15, sv), (14, sl bv ov nv cv), (13, .agg #[sl b off n cap])]) rfl ?_
  refine opsT_heq (hs' := (hvs ++ ([(b1, .cells #[sl b off n cap] 24 (0, 0))]))) rfl ?_
  refine kSe 2 0 [(5, ii 0), (4, sv)] [] ?_
  refine tri_ret ?_
  refine post_ret2 (v := sv) (v' := ii 0) rfl (.tmp rfl) (.tmp rfl) (fun W hR => ?_)
  exact ⟨(sv, hvs), hV, rfl, hR.forget (List.sublist_append_left _ _)⟩
theorem Euler_ok {b off n cap bv ov nv cv : Nat} {c : Nat → Nat → Int} {v : Nat → Int} {w : World} (hc : At w b off n c) (hv : AtV w bv ov nv v) (hcv : nv ≤ cv) (hg : GlueOK n c) (hn : n ≤ 60) (hH : Holds n c nv v) : Calls Tryz.prog 13 #[.agg #[sl b off n cap], sl bv ov nv cv] w fun e w' => e = .returned (.tuple #[.int .i64 (eulP n c v), .int .i64 0]) ∧ Ext w w' := by
  refine calls_of (n := 16) Tryz.func13 rfl Tryz.ntmps13 rfl ?_
  refine tri_eq (l' := [(0, .agg #[sl b off n cap]), (1, sl bv ov nv cv)]) (hs' := []) rfl rfl ?_
  refine wr [0, 1, 2] rfl ?_
  refine kB (.agg #[sl b off n cap]) fun b1 => ?_
  refine kSe 2 0 [] [2, 1] ?_
  refine tri_seq ?_
  refine wr [0, 1, 2, 3] rfl ?_
  refine kL 0 (.agg #[sl b off n cap]) ?_
  refine kS 1 0 [(8, sl bv ov nv cv)] [7, 2, 1] ?_
  refine kC en42 #[.agg #[sl b off n cap], sl bv ov nv cv] (ii 0) rfl (fun W hR => check_ok (hc.rep hR (by simp)) (hv.rep hR (by simp)) hcv hg hn hH) ?_ (by kernel_rfl)
  refine kSn 1 0 [(6, ii 0)] [2, 1] [0, 1] ?_
  refine kSe 2 0 [(11, .bool false)] [6, 2, 1] ?_
  refine tri_cond_false rfl ?_
  refine tri_skip ?_
  refine post_then ?_
  refine wr [0, 1, 2, 3, 4] rfl ?_
  refine kL 0 (.agg #[sl b off n cap]) ?_
  refine kS 1 0 [(14, sl bv ov nv cv)] [13] ?_
  refine kC en51 #[.agg #[sl b off n cap], sl bv ov nv cv] (ii (eulP n c v)) rfl (fun W hR => euler_ (hc.rep hR (by simp)) (hv.rep hR (by simp)) hg hn hH.pos hH.1 hH.2.1) ?_ (by kernel_rfl)
  refine kSe 2 0 [(5, ii 0), (4, ii (eulP n c v))] [] ?_
  refine tri_ret ?_
  refine post_ret2 (v := ii (eulP n c v)) (v' := ii 0) rfl (.tmp rfl) (.tmp rfl) (fun W hR => ?_)
  exact ⟨rfl, hR.ext⟩
theorem Octagon_ok {b off n cap bv ov nv cv : Nat} {c : Nat → Nat → Int} {v : Nat → Int} {w : World} (hc : At w b off n c) (hv : AtV w bv ov nv v) (hcv : nv ≤ cv) (hg : GlueOK n c) (hn : n ≤ 60) (hH : Holds n c nv v) : Calls Tryz.prog 38 #[.agg #[sl b off n cap], sl bv ov nv cv] w fun e w' => ∃ x : Nat, IsOct n v x ∧ e = .returned (.tuple #[.int .i64 ((x : Int) / 10), .int .i64 ((x : Int) % 10 - 7), .int .i64 0]) ∧ Ext w w' := by
  refine calls_of (n := 36) Tryz.func38 rfl Tryz.ntmps38 rfl ?_
  refine tri_eq (l' := [(0, .agg #[sl b off n cap]), (1, sl bv ov nv cv)]) (hs' := []) rfl rfl ?_
  refine wr [0, 1, 2, 3] rfl ?_
  refine kB (.agg #[sl b off n cap]) fun b1 => ?_
  refine kSe 3 0 [] [2, 1] ?_
  refine tri_seq ?_
  refine wr [0, 1, 2, 3] rfl ?_
  refine kL 0 (.agg #[sl b off n cap]) ?_
  refine kS 1 0 [(11, sl bv ov nv cv)] [10, 1] ?_
  refine kC en42 #[.agg #[sl b off n cap], sl bv ov nv cv] (ii 0) rfl (fun W hR => check_ok (hc.rep hR (by simp)) (hv.rep hR (by simp)) hcv hg hn hH) ?_ (by kernel_rfl)
  refine kSn 1 0 [(7, ii 0)] [1] [0, 1] ?_
  refine kSe 2 0 [(14, .bool false)] [7, 1] ?_
  refine tri_cond_false rfl ?_
  refine tri_skip ?_
  refine post_then ?_
  refine tri_seq ?_
  refine wr [0, 1, 2] rfl ?_
  refine kSe 3 0 [(18, ii 0), (17, ii ((nv : Nat) : Int)), (16, sl bv ov nv cv)] [] ?_
  refine tri_block ?_
  refine tri_loop (β := Nat) (fun xz => [(17, ii ((nv : Nat) : Int)), (16, sl bv ov nv cv), (18, ii (xz : Int))]) (fun xz => [(b1, .cells #[sl b off n cap] 24 (0, 0))]) (fun xz => xz ≤ nv ∧ ∀ j, j < xz → ¬ IsOct n v j) (fun xz => nv - xz) 0 (look_pickL (ks := [17, 16, 18]) (by kernel_rfl)) (List.Sublist.refl _) ⟨Nat.zero_le _, fun j h => absurd h (by omega)⟩ ?_
  rintro i hC0
  try dsimp only at hC0
  refine tri_eq (l' := [(17, ii ((nv : Nat) : Int)), (16, sl bv ov nv cv), (18, ii (i : Int))]) (hs' := [(b1, .cells #[sl b off n cap] 24 (0, 0))]) rfl rfl ?_
  refine wr [0] rfl ?_
  refine kSe 1 5 [(19, .bool (decide ((i : Int) < ((nv : Nat) : Int))))] [17, 16, 18] ?_
  refine tri_seq ?_
  refine tri_cond_dec (p := (i : Int) < ((nv : Nat) : Int)) rfl (fun h1 => ?_) (fun h1 => ?_)
  · refine tri_skip ?_
    refine post_then ?_
    refine tri_seq ?_
    refine tri_block ?_
    refine wr [0, 1, 2, 3, 4] rfl ?_
    refine kO 2 144 [(21, pt bv (ov + i)), (20, ii (i : Int))] [17, 16, 18] [(0 : Int) ≤ (i : Int), (i : Int) < ((nv : Nat) : Int)] (by refine ap ?_ (ap1 ?_) <;> (first | omega | assumption | (have := hH.1; omega))) ?_
    refine kM bv (ov + i) [ii (v i)] (ii (v i)) (hv.one (by omega)) ?_
    refine kSe 2 0 [(9, ii (v i)), (8, ii (i : Int))] [17, 16, 18] ?_
    refine tri_seq ?_
    by_cases h2 : 7 ≤ (i : Int) % 10
    · refine tri_region (todo := [0, 1, 2, 3, 4, 5, 6]) rfl ?_
      refine kOe 7 5244480 [(29, .bool (decide (v i = 1)))] [8, 17, 16, 18] [(0 : Int) ≤ (i : Int), (0 : Int) < 10, 7 ≤ (i : Int) % 10] (by refine ap ?_ (ap ?_ (ap1 h2)) <;> (first | omega | assumption | (have := hH.1; omega))) ?_
      refine tri_cond_dec (p := v i = 1) rfl (fun h3 => ?_) (fun h3 => ?_)
      · refine wr [0, 1, 2, 3, 4, 5, 6, 7] rfl ?_
        refine kOe 8 147504 [(6, ii 0), (5, ii (((i : Int) % 10) - 7)), (4, ii ((i : Int) / 10))] [] [(0 : Int) ≤ (i : Int), (i : Int) ≤ (9223372036854775807 : Int), (0 : Int) < 10, (0 : Int) ≤ (i : Int), (0 : Int) < 10, I64 (((i : Int) % 10) - 7)] (by refine ap ?_ (ap ?_ (ap ?_ (ap ?_ (ap ?_ (ap1 ?_))))) <;> (first | omega | assumption | (have := hH.1; omega))) ?_
        refine tri_ret ?_
        refine post_block_ret ?_
        refine post_then_ret ?_
        refine post_round_ret ?_
        refine post_block_ret ?_
        refine post_then_ret ?_
        refine post_ret3 (v := ii ((i : Int) / 10)) (v' := ii (((i : Int) % 10) - 7)) (u := ii 0) rfl (.tmp rfl) (.tmp rfl) (.tmp rfl) (fun W hR => ?_)
        refine ⟨i, ⟨by have := hH.1; omega, by omega, by assumption⟩, ?_, hR.ext⟩
        first | rfl | (congr 2 <;> omega)
      · refine tri_skip ?_
        refine post_block ?_
        refine post_then ?_
        refine tri_region (todo := [0, 1]) rfl ?_
        refine kO 2 2 [(18, ii ((i : Int) + 1))] [17, 16] [I64 ((i : Int) + 1)] (ap1 (by first | omega | assumption | (have := hH.1; omega))) ?_
        refine opsT_end ?_
        refine post_round (i + 1) ⟨by omega, fun j hj => by
        by_cases e : j = i
        · subst e; rintro ⟨_, z1, z2⟩; first | omega | contradiction
        · exact hC0.2 j (by omega)⟩ (by show nv - (i + 1) < nv - i; omega) (look_pickL (ks := [17, 16, 18]) (by kernel_rfl)) (List.Sublist.refl _)
    · refine tri_region (todo := [0, 1, 2, 3, 4, 5, 6]) rfl ?_
      refine kOe 7 1115968 [(29, .bool false)] [8, 17, 16, 18] [(0 : Int) ≤ (i : Int), (0 : Int) < 10, ¬ (7 ≤ (i : Int) % 10)] (by refine ap ?_ (ap ?_ (ap1 h2)) <;> (first | omega | assumption | (have := hH.1; omega))) ?_
      refine tri_cond_false rfl ?_
      refine tri_skip ?_
      refine post_block ?_
      refine post_then ?_
      refine tri_region (todo := [0, 1]) rfl ?_
      refine kO 2 2 [(18, ii ((i : Int) + 1))] [17, 16] [I64 ((i : Int) + 1)] (ap1 (by first | omega | assumption | (have := hH.1; omega))) ?_
      refine opsT_end ?_
      refine post_round (i + 1) ⟨by omega, fun j hj => by
        by_cases e : j = i
        · subst e; rintro ⟨_, z1, z2⟩; first | omega | contradiction
        · exact hC0.2 j (by omega)⟩ (by show nv - (i + 1) < nv - i; omega) (look_pickL (ks := [17, 16, 18]) (by kernel_rfl)) (List.Sublist.refl _)
  · refine tri_exit ?_
    refine post_then_exit ?_
    refine post_round_exit ?_
    refine post_block_hit ?_
    refine post_then ?_
    refine wr [0, 1, 2] rfl ?_
    refine kSe 3 0 [(6, ii 200), (5, ii 0), (4, ii 0)] [] ?_
    refine tri_ret ?_
    refine post_ret3 (v := ii 0) (v' := ii 0) (u := ii 200) rfl (.tmp rfl) (.tmp rfl) (.tmp rfl) (fun W hR => ?_)
    exfalso
    obtain ⟨x, hx⟩ := oct_exists hH
    exact hC0.2 x (by have := hx.1; have := hH.1; omega) hx
end Go.Proofs.YtlkbokbcfajhjaaGreat
