/- G11: almost normal coordinates -/
import Derived.Test.YtlkbokbcfajhjaaGreatG10
import Derived.Test.YtlkbokbcfajhjaaGreatB17
import Derived.Test.YtlkbokbcfajhjaaGreatD1
namespace Go.Proofs.YtlkbokbcfajhjaaGreat
open Go.Proofs.Walk
set_option maxRecDepth 100000
set_option linter.unusedVariables false
set_option linter.unusedSimpArgs false

theorem en88 : Walk.Enters Tryz.prog 88 := Walk.enters Tryz.func88 (by kernel_rfl) rfl
theorem en90 : Walk.Enters Tryz.prog 90 := Walk.enters Tryz.func90 (by kernel_rfl) rfl
theorem en42 : Walk.Enters Tryz.prog 42 := Walk.enters Tryz.func42 (by kernel_rfl) rfl
theorem en9 : Walk.Enters Tryz.prog 9 := Walk.enters Tryz.func9 (by kernel_rfl) rfl
theorem holds_ {b off n cap bv ov nv cv : Nat} {c : Nat → Nat → Int} {v : Nat → Int} {w : World} (hc : At w b off n c) (hv : AtV w bv ov nv v) (hcv : nv ≤ cv) (hnv : nv ≤ 1000000000000) (hg : GlueOK n c) (hn : n ≤ 60) : Calls Tryz.prog 90 #[.agg #[sl b off n cap], sl bv ov nv cv] w fun e w' => ∃ r : Bool, (r = true ↔ Holds n c nv v) ∧ e = .returned (.bool r) ∧ Ext w w' := by
  refine calls_ofMarks (n := 73) Tryz.func90 rfl Tryz.ntmps90 rfl (Rep.refl _) ?_
  refine tri_eq (l' := [(0, .agg #[sl b off n cap]), (1, sl bv ov nv cv)]) (hs' := []) rfl rfl ?_
  refine wr [0, 1, 2] rfl ?_
  refine kB (.agg #[sl b off n cap]) fun b1 => ?_
  refine kB (sl bv ov nv cv) fun b2 => ?_
  refine kA (.bool false) fun b3 => ?_
  refine kPe [4, 3, 2] ?_
  refine tri_seq ?_
  refine tri_seq ?_
  by_cases h1 : ((nv : Nat) : Int) = 10 * ((n : Nat) : Int)
  · by_cases h2 : InR nv v
    · refine tri_region (todo := [0, 1, 2, 3, 4, 5, 6, 7, 8, 9, 10]) rfl ?_
      refine kL 1 (sl bv ov nv cv) ?_
      refine kS 2 0 [(12, pt b1 0), (11, ii ((nv : Nat) : Int))] [4, 3, 2] ?_
      refine kL 2 (sl b off n cap) ?_
      refine kO 4 1824 [(17, .bool false)] [4, 3, 2] [I64 (10 * ((n : Nat) : Int)), ¬ (((nv : Nat) : Int) ≠ 10 * ((n : Nat) : Int))] ⟨(show I64 (10 * ((n : Nat) : Int)) from by first | omega | assumption | (have q1 := hC0.1; (try have w0 := h2 (10 * t + 7 + 0) (by omega)); (try have w1 := h2 (10 * t + 7 + 1) (by omega)); (try have w2 := h2 (10 * t + 7 + 2) (by omega)); omega)), (fun hn => hn h1)⟩ ?_
      refine kL 1 (sl bv ov nv cv) ?_
      refine kC en126 #[sl bv ov nv cv, .func (.func 164) #[] #[]] (.bool false) rfl (fun W hR => contains_no (hv.rep hR (by simp)) (by omega) h2) ?_ (by kernel_rfl)
      refine kSe 1 0 [(20, .bool false)] [4, 3, 2] ?_
      refine tri_cond_false rfl ?_
      refine tri_skip ?_
      refine post_then ?_
      refine wr [0] rfl ?_
      refine kSe 1 0 [(5, ii 0)] [4, 3, 2] ?_
      refine tri_seq ?_
      refine wr [0, 1, 2, 3] rfl ?_
      refine kS 1 0 [(21, pt b1 0)] [5, 4, 3, 2] ?_
      refine kL 2 (sl b off n cap) ?_
      refine kSe 2 0 [(24, ii 0), (23, ii ((n : Nat) : Int))] [5, 4, 3, 2] ?_
      refine tri_block ?_
      refine tri_loop (β := Nat) (fun xz => [(23, ii ((n : Nat) : Int)), (4, pt b3 0), (3, pt b2 0), (2, pt b1 0), (24, ii (xz : Int)), (5, ii (octS v xz))]) (fun xz => [(b3, .cells #[.bool false] 4 (0, 0)), (b2, .cells #[sl bv ov nv cv] 25 (0, 0)), (b1, .cells #[sl b off n cap] 24 (0, 0))]) (fun xz => (xz ≤ n ∧ 0 ≤ octS v xz ∧ octS v xz ≤ 3 * xz) ∧ ∀ s, s < xz → okT v s) (fun xz => n - xz) 0 (look_pickL (ks := [23, 4, 3, 2, 24, 5]) (by kernel_rfl)) (List.Sublist.refl _) ⟨⟨by omega, by simp [octS], by simp [octS]⟩, fun s h => absurd h (by omega)⟩ ?_
      rintro t hC0
      try dsimp only at hC0
      refine tri_eq (l' := [(23, ii ((n : Nat) : Int)), (4, pt b3 0), (3, pt b2 0), (2, pt b1 0), (24, ii (t : Int)), (5, ii (octS v t))]) (hs' := [(b3, .cells #[.bool false] 4 (0, 0)), (b2, .cells #[sl bv ov nv cv] 25 (0, 0)), (b1, .cells #[sl b off n cap] 24 (0, 0))]) rfl rfl ?_
      refine wr [0] rfl ?_
      refine kSe 1 5 [(25, .bool (decide ((t : Int) < ((n : Nat) : Int))))] [23, 4, 3, 2, 24, 5] ?_
      refine tri_seq ?_
      refine tri_cond_dec (p := (t : Int) < ((n : Nat) : Int)) rfl (fun h3 => ?_) (fun h3 => ?_)
      · refine tri_skip ?_
        refine post_then ?_
        refine tri_seq ?_
        refine tri_block ?_
        refine wr [0, 1] rfl ?_
        refine kSe 2 0 [(6, ii (t : Int))] [23, 4, 3, 2, 24, 5] ?_
        refine tri_seq ?_
        refine wr [0, 1, 2, 3] rfl ?_
        refine kL 1 (sl bv ov nv cv) ?_
        refine kS 1 0 [(28, ii (t : Int))] [27, 6, 23, 4, 3, 2, 24, 5] ?_
        refine kC en165 #[sl bv ov nv cv, ii (t : Int)] (ii ((cntD v t 6 : Nat) : Int)) rfl (fun W hR => discs_ (hv.rep hR (by simp)) (by omega) hcv (by omega)) ?_ (by kernel_rfl)
        refine kSe 1 5 [(30, .bool (decide (1 < ((cntD v t 6 : Nat) : Int))))] [6, 23, 4, 3, 2, 24, 5] ?_
        refine tri_cond_dec (p := 1 < ((cntD v t 6 : Nat) : Int)) rfl (fun h4 => ?_) (fun h4 => ?_)
        · refine wr [0] rfl ?_
          refine kW 0 #[.bool false] ?_
          refine kPe [4] ?_
          refine tri_ret ?_
          refine post_then_ret ?_
          refine post_block_ret ?_
          refine post_then_ret ?_
          refine post_round_ret ?_
          refine post_block_ret ?_
          refine post_then_ret ?_
          refine post_outM ?_
          refine outM_ret1 (v := .bool false) rfl (.cell 0 b3 0 1 #[.bool false] 4 (0, 0) rfl rfl (by kernel_rfl)) (fun W hR => ?_)
          refine ⟨false, ⟨(fun h => by cases h), fun h => ?_⟩, rfl, hR.ext⟩
          exfalso
          obtain ⟨q1, q2, q3, q4, q5⟩ := h
          first | omega | contradiction | (have q6 := q3 t (by omega); unfold okT at q6; omega) | (rw [show n = t by omega] at q4; omega)
        · refine tri_skip ?_
          refine post_then ?_
          refine wr [0, 1, 2, 3, 4, 5, 6, 7, 8, 9] rfl ?_
          refine kL 1 (sl bv ov nv cv) ?_
          refine kO 6 2228768 [(37, ii ((10 * (t : Int)) + 10)), (34, ii ((10 * (t : Int)) + 7))] [31, 23, 4, 3, 2, 24, 5] [I64 (10 * (t : Int)), I64 ((10 * (t : Int)) + 7), I64 (10 * (t : Int)), I64 ((10 * (t : Int)) + 10)] (by refine ap ?_ (ap ?_ (ap ?_ (ap1 ?_))) <;> (first | omega | assumption | (have q1 := hC0.1; (try have w0 := h2 (10 * t + 7 + 0) (by omega)); (try have w1 := h2 (10 * t + 7 + 1) (by omega)); (try have w2 := h2 (10 * t + 7 + 2) (by omega)); omega))) ?_
          refine opsT_slice (e := 3) bv ov nv cv 1 (10 * (t : Int) + 7) (10 * (t : Int) + 10) (.slice (some ⟨bv, ov + (10 * t + 7), none⟩) 3 (cv - (10 * t + 7))) rfl rfl rfl rfl rfl rfl rfl rfl rfl (by kernel_rfl) (by kernel_rfl) (by omega) (by omega) (by omega) (by omega) (by rw [show (10 * (t : Int) + 7).toNat = 10 * t + 7 by omega, show (10 * (t : Int) + 10).toNat - (10 * t + 7) = 3 by omega, Nat.mul_one]) ?_
          refine kSe 2 0 [(40, ii 0), (39, ii 3)] [38, 23, 4, 3, 2, 24, 5] ?_
          refine tri_block ?_
          refine tri_rounds 3 ?_
          refine wr [0] rfl ?_
          refine kSe 1 0 [(41, .bool true)] [40, 39, 38, 23, 4, 3, 2, 24, 5] ?_
          refine tri_seq ?_
          refine tri_cond_true rfl ?_
          refine tri_skip ?_
          refine post_then ?_
          refine tri_seq ?_
          refine tri_block ?_
          refine wr [0, 1, 2] rfl ?_
          refine kO 1 9 [(42, pt bv (ov + (10 * t + 7) + 0))] [40, 39, 38, 23, 4, 3, 2, 24, 5] [(0 : Int) ≤ 0, 0 < ((3 : Nat) : Int)] (by refine ap ?_ (ap1 ?_) <;> (first | omega | assumption | (have q1 := hC0.1; (try have w0 := h2 (10 * t + 7 + 0) (by omega)); (try have w1 := h2 (10 * t + 7 + 1) (by omega)); (try have w2 := h2 (10 * t + 7 + 2) (by omega)); omega))) ?_
          refine kM bv (ov + (10 * t + 7) + 0) [ii (v (10 * t + 7 + 0))] (ii (v (10 * t + 7 + 0))) (by rw [Nat.add_assoc]; exact hv.one (by omega)) ?_
          refine kSe 1 0 [(8, ii (v (10 * t + 7 + 0)))] [40, 39, 38, 23, 4, 3, 2, 24, 5] ?_
          refine tri_seq ?_
          refine wr [0, 1] rfl ?_
          refine kSe 2 80 [(45, .bool (decide (1 < v (10 * t + 7 + 0))))] [8, 40, 39, 38, 23, 4, 3, 2, 24, 5] ?_
          refine tri_cond_dec (p := 1 < v (10 * t + 7 + 0)) rfl (fun h5 => ?_) (fun h5 => ?_)
          · refine wr [0] rfl ?_
            refine kW 0 #[.bool false] ?_
            refine kPe [4] ?_
            refine tri_ret ?_
            refine post_then_ret ?_
            refine post_block_ret ?_
            refine post_then_ret ?_
            refine post_more_ret ?_
            refine post_block_ret ?_
            refine post_block_ret ?_
            refine post_then_ret ?_
            refine post_round_ret ?_
            refine post_block_ret ?_
            refine post_then_ret ?_
            refine post_outM ?_
            refine outM_ret1 (v := .bool false) rfl (.cell 0 b3 0 1 #[.bool false] 4 (0, 0) rfl rfl (by kernel_rfl)) (fun W hR => ?_)
            refine ⟨false, ⟨(fun h => by cases h), fun h => ?_⟩, rfl, hR.ext⟩
            exfalso
            obtain ⟨q1, q2, q3, q4, q5⟩ := h
            first | omega | contradiction | (have q6 := q3 t (by omega); unfold okT at q6; omega) | (rw [show n = t by omega] at q4; omega)
          · refine tri_skip ?_
            refine post_then ?_
            refine tri_region (todo := [0, 1, 2, 3]) rfl ?_
            refine kO 4 512 [(5, ii ((octS v t) + (v (10 * t + 7 + 0))))] [40, 39, 38, 23, 4, 3, 2, 24] [I64 ((octS v t) + (v (10 * t + 7 + 0)))] (ap1 (by first | omega | assumption | (have q1 := hC0.1; (try have w0 := h2 (10 * t + 7 + 0) (by omega)); (try have w1 := h2 (10 * t + 7 + 1) (by omega)); (try have w2 := h2 (10 * t + 7 + 2) (by omega)); omega))) ?_
            refine opsT_end ?_
            refine post_block ?_
            refine post_then ?_
            refine tri_region (todo := [0, 1]) rfl ?_
            refine kS 2 0 [(40, ii 1)] [5, 39, 38, 23, 4, 3, 2, 24] ?_
            refine opsT_end ?_
            refine post_more ?_
            refine wr [0] rfl ?_
            refine kSe 1 0 [(41, .bool true)] [40, 5, 39, 38, 23, 4, 3, 2, 24] ?_
            refine tri_seq ?_
            refine tri_cond_true rfl ?_
            refine tri_skip ?_
            refine post_then ?_
            refine tri_seq ?_
            refine tri_block ?_
            refine wr [0, 1, 2] rfl ?_
            refine kO 1 9 [(42, pt bv (ov + (10 * t + 7) + 1))] [40, 5, 39, 38, 23, 4, 3, 2, 24] [(0 : Int) ≤ 1, 1 < ((3 : Nat) : Int)] (by refine ap ?_ (ap1 ?_) <;> (first | omega | assumption | (have q1 := hC0.1; (try have w0 := h2 (10 * t + 7 + 0) (by omega)); (try have w1 := h2 (10 * t + 7 + 1) (by omega)); (try have w2 := h2 (10 * t + 7 + 2) (by omega)); omega))) ?_
            refine kM bv (ov + (10 * t + 7) + 1) [ii (v (10 * t + 7 + 1))] (ii (v (10 * t + 7 + 1))) (by rw [Nat.add_assoc]; exact hv.one (by omega)) ?_
            refine kSe 1 0 [(8, ii (v (10 * t + 7 + 1)))] [40, 5, 39, 38, 23, 4, 3, 2, 24] ?_
            refine tri_seq ?_
            refine wr [0, 1] rfl ?_
            refine kSe 2 80 [(45, .bool (decide (1 < v (10 * t + 7 + 1))))] [8, 40, 5, 39, 38, 23, 4, 3, 2, 24] ?_
            refine tri_cond_dec (p := 1 < v (10 * t + 7 + 1)) rfl (fun h6 => ?_) (fun h6 => ?_)
            · refine wr [0] rfl ?_
              refine kW 0 #[.bool false] ?_
              refine kPe [4] ?_
              refine tri_ret ?_
              refine post_then_ret ?_
              refine post_block_ret ?_
              refine post_then_ret ?_
              refine post_more_ret ?_
              refine post_block_ret ?_
              refine post_block_ret ?_
              refine post_then_ret ?_
              refine post_round_ret ?_
              refine post_block_ret ?_
              refine post_then_ret ?_
              refine post_outM ?_
              refine outM_ret1 (v := .bool false) rfl (.cell 0 b3 0 1 #[.bool false] 4 (0, 0) rfl rfl (by kernel_rfl)) (fun W hR => ?_)
              refine ⟨false, ⟨(fun h => by cases h), fun h => ?_⟩, rfl, hR.ext⟩
              exfalso
              obtain ⟨q1, q2, q3, q4, q5⟩ := h
              first | omega | contradiction | (have q6 := q3 t (by omega); unfold okT at q6; omega) | (rw [show n = t by omega] at q4; omega)
            · refine tri_skip ?_
              refine post_then ?_
              refine tri_region (todo := [0, 1, 2, 3]) rfl ?_
              refine kO 4 512 [(5, ii (((octS v t) + (v (10 * t + 7 + 0))) + (v (10 * t + 7 + 1))))] [40, 39, 38, 23, 4, 3, 2, 24] [I64 (((octS v t) + (v (10 * t + 7 + 0))) + (v (10 * t + 7 + 1)))] (ap1 (by first | omega | assumption | (have q1 := hC0.1; (try have w0 := h2 (10 * t + 7 + 0) (by omega)); (try have w1 := h2 (10 * t + 7 + 1) (by omega)); (try have w2 := h2 (10 * t + 7 + 2) (by omega)); omega))) ?_
              refine opsT_end ?_
              refine post_block ?_
              refine post_then ?_
              refine tri_region (todo := [0, 1]) rfl ?_
              refine kS 2 0 [(40, ii 2)] [5, 39, 38, 23, 4, 3, 2, 24] ?_
              refine opsT_end ?_
              refine post_more ?_
              refine wr [0] rfl ?_
              refine kSe 1 0 [(41, .bool true)] [40, 5, 39, 38, 23, 4, 3, 2, 24] ?_
              refine tri_seq ?_
              refine tri_cond_true rfl ?_
              refine tri_skip ?_
              refine post_then ?_
              refine tri_seq ?_
              refine tri_block ?_
              refine wr [0, 1, 2] rfl ?_
              refine kO 1 9 [(42, pt bv (ov + (10 * t + 7) + 2))] [40, 5, 39, 38, 23, 4, 3, 2, 24] [(0 : Int) ≤ 2, 2 < ((3 : Nat) : Int)] (by refine ap ?_ (ap1 ?_) <;> (first | omega | assumption | (have q1 := hC0.1; (try have w0 := h2 (10 * t + 7 + 0) (by omega)); (try have w1 := h2 (10 * t + 7 + 1) (by omega)); (try have w2 := h2 (10 * t + 7 + 2) (by omega)); omega))) ?_
              refine kM bv (ov + (10 * t + 7) + 2) [ii (v (10 * t + 7 + 2))] (ii (v (10 * t + 7 + 2))) (by rw [Nat.add_assoc]; exact hv.one (by omega)) ?_
              refine kSe 1 0 [(8, ii (v (10 * t + 7 + 2)))] [40, 5, 39, 38, 23, 4, 3, 2, 24] ?_
              refine tri_seq ?_
              refine wr [0, 1] rfl ?_
              refine kSe 2 80 [(45, .bool (decide (1 < v (10 * t + 7 + 2))))] [8, 40, 5, 39, 38, 23, 4, 3, 2, 24] ?_
              refine tri_cond_dec (p := 1 < v (10 * t + 7 + 2)) rfl (fun h7 => ?_) (fun h7 => ?_)
              · refine wr [0] rfl ?_
                refine kW 0 #[.bool false] ?_
                refine kPe [4] ?_
                refine tri_ret ?_
                refine post_then_ret ?_
                refine post_block_ret ?_
                refine post_then_ret ?_
                refine post_more_ret ?_
                refine post_block_ret ?_
                refine post_block_ret ?_
                refine post_then_ret ?_
                refine post_round_ret ?_
                refine post_block_ret ?_
                refine post_then_ret ?_
                refine post_outM ?_
                refine outM_ret1 (v := .bool false) rfl (.cell 0 b3 0 1 #[.bool false] 4 (0, 0) rfl rfl (by kernel_rfl)) (fun W hR => ?_)
                refine ⟨false, ⟨(fun h => by cases h), fun h => ?_⟩, rfl, hR.ext⟩
                exfalso
                obtain ⟨q1, q2, q3, q4, q5⟩ := h
                first | omega | contradiction | (have q6 := q3 t (by omega); unfold okT at q6; omega) | (rw [show n = t by omega] at q4; omega)
              · refine tri_skip ?_
                refine post_then ?_
                refine tri_region (todo := [0, 1, 2, 3]) rfl ?_
                refine kO 4 512 [(5, ii ((((octS v t) + (v (10 * t + 7 + 0))) + (v (10 * t + 7 + 1))) + (v (10 * t + 7 + 2))))] [40, 39, 38, 23, 4, 3, 2, 24] [I64 ((((octS v t) + (v (10 * t + 7 + 0))) + (v (10 * t + 7 + 1))) + (v (10 * t + 7 + 2)))] (ap1 (by first | omega | assumption | (have q1 := hC0.1; (try have w0 := h2 (10 * t + 7 + 0) (by omega)); (try have w1 := h2 (10 * t + 7 + 1) (by omega)); (try have w2 := h2 (10 * t + 7 + 2) (by omega)); omega))) ?_
                refine opsT_end ?_
                refine post_block ?_
                refine post_then ?_
                refine tri_region (todo := [0, 1]) rfl ?_
                refine kS 2 0 [(40, ii 3)] [5, 39, 38, 23, 4, 3, 2, 24] ?_
                refine opsT_end ?_
                refine post_more ?_
                refine wr [0] rfl ?_
                refine kSe 1 0 [(41, .bool false)] [40, 5, 39, 38, 23, 4, 3, 2, 24] ?_
                refine tri_seq ?_
                refine tri_cond_false rfl ?_
                refine tri_exit ?_
                refine post_then_exit ?_
                refine post_more_exit ?_
                refine post_block_hit ?_
                refine post_block ?_
                refine post_then ?_
                refine tri_region (todo := [0, 1]) rfl ?_
                refine kO 2 2 [(24, ii ((t : Int) + 1))] [5, 23, 4, 3, 2] [I64 ((t : Int) + 1)] (ap1 (by first | omega | assumption | (have q1 := hC0.1; (try have w0 := h2 (10 * t + 7 + 0) (by omega)); (try have w1 := h2 (10 * t + 7 + 1) (by omega)); (try have w2 := h2 (10 * t + 7 + 2) (by omega)); omega))) ?_
                refine opsT_end ?_
                have w0 := h2 (10 * t + 7 + 0) (by omega)
                have w1 := h2 (10 * t + 7 + 1) (by omega)
                have w2 := h2 (10 * t + 7 + 2) (by omega)
                refine post_leq (l' := [(24, ii ((t : Int) + 1)), (5, ii (octS v (t + 1))), (23, ii ((n : Nat) : Int)), (4, pt b3 0), (3, pt b2 0), (2, pt b1 0)]) rfl ?_
                refine post_round (t + 1) ⟨⟨by omega, by unfold octS; omega, by unfold octS; omega⟩, okT_step hC0.2 ⟨by omega, by omega, by omega, by omega⟩⟩ (by show n - (t + 1) < n - t; omega) (look_pickL (ks := [23, 4, 3, 2, 24, 5]) (by kernel_rfl)) (List.Sublist.refl _)
      · refine tri_exit ?_
        refine post_then_exit ?_
        refine post_round_exit ?_
        refine post_block_hit ?_
        refine post_then ?_
        refine tri_seq ?_
        refine wr [0, 1] rfl ?_
        refine kSe 2 80 [(52, .bool (!decide (octS v t = 1)))] [4, 3, 2] ?_
        refine tri_cond (b := !decide (octS v t = 1)) rfl (fun h4 => ?_) (fun h4 => ?_)
        · simp only [Bool.not_eq_true', decide_eq_false_iff_not] at h4
          refine wr [0] rfl ?_
          refine kW 0 #[.bool false] ?_
          refine kPe [4] ?_
          refine tri_ret ?_
          refine post_then_ret ?_
          refine post_outM ?_
          refine outM_ret1 (v := .bool false) rfl (.cell 0 b3 0 1 #[.bool false] 4 (0, 0) rfl rfl (by kernel_rfl)) (fun W hR => ?_)
          refine ⟨false, ⟨(fun h => by cases h), fun h => ?_⟩, rfl, hR.ext⟩
          exfalso
          obtain ⟨q1, q2, q3, q4, q5⟩ := h
          first | omega | contradiction | (have q6 := q3 t (by omega); unfold okT at q6; omega) | (rw [show n = t by omega] at q4; omega)
        · simp only [Bool.not_eq_false', decide_eq_true_eq] at h4
          refine tri_skip ?_
          refine post_then ?_
          refine tri_seq ?_
          refine wr [0, 1] rfl ?_
          refine kL 2 (.agg #[sl b off n cap]) ?_
          refine opsT_callR (f := 96) (args := #[.agg #[sl b off n cap]]) [] [(b3, .cells #[.bool false] 4 (0, 0)), (b2, .cells #[sl bv ov nv cv] 25 (0, 0)), (b1, .cells #[sl b off n cap] 24 (0, 0))] (fun bg => .func (.func 167) #[] #[.pointer (some ⟨bg, 0, none⟩)]) (fun bg => [(bg, .cells #[sl b off n cap] 24 (0, 0))]) (fun _ => True) rfl rfl rfl rfl rfl (run_call en96 rfl rfl rfl (by kernel_rfl)) (List.Perm.refl _) (fun W hR => matches_ _ W) (fun bg1 _ => ?_)
          refine opsT_heq (hs' := [(bg1, .cells #[sl b off n cap] 24 (0, 0)), (b3, .cells #[.bool false] 4 (0, 0)), (b2, .cells #[sl bv ov nv cv] 25 (0, 0)), (b1, .cells #[sl b off n cap] 24 (0, 0))]) rfl ?_
          have hin := h2
          have hoct : octS v n = 1 := by rw [show n = t by omega]; omega
          have hokT : ∀ t, t < n → okT v t := fun s hs => hC0.2 s (by omega)
          refine kPe [54, 4, 3] ?_
          refine tri_block ?_
          refine tri_range (β := Bool) (capt := [(bg1, .cells #[sl b off n cap] 24 (0, 0))]) (own := []) (N := (eqns n c).length) (xs := (fun k => matchV c ((eqns n c).getD k (0, 0, 0)))) (fun xz => [(b3, .cells #[.bool xz] 4 (0, 0)), (b2, .cells #[sl bv ov nv cv] 25 (0, 0)), (b1, .cells #[sl b off n cap] 24 (0, 0))]) (fun k xz => xz = false ∧ ∀ j, j < k → EqOK c v ((eqns n c).getD j (0, 0, 0))) (fun cx xz => (cx = .ret ∧ xz = false ∧ ∃ k, k < (eqns n c).length ∧ ¬ EqOK c v ((eqns n c).getD k (0, 0, 0)))) false rfl en167 (matches_iter (by omega) hc (by simp)) (by first | rfl | simp) ⟨rfl, fun _ h => absurd h (by omega)⟩ (fun k hk => rfl) (fun k hk => rfl) ?_ ?_ ?_
          · rintro k hk r hI L1 rc1 own1 hst
            dsimp only at hI ⊢
            have hm := getD_mem' (d := (0, 0, 0)) hk
            generalize hp : (eqns n c).getD k (0, 0, 0) = p at hm ⊢
            obtain ⟨t, f, i⟩ := p
            obtain ⟨m1, m2, m3, m4, m5⟩ := mem_eqns hm
            dsimp only at m1 m2 m3 m4 m5
            obtain ⟨g1, g2, g3, g4, g5, g6, g7⟩ := glued hg m1 m2 m3 m5
            have g8 := g7 m4
            obtain ⟨hr, hI⟩ := hI
            refine tri_eq (l' := [(55, .agg #[ii (t : Int), ii (f : Int), ii (i : Int), ii (c t (f * 5)), ii (c t (f * 5 + 1 + f)), ii (c t (f * 5 + 1 + i))]), (54, .func (.func 167) #[] #[pt bg1 0]), (4, pt b3 0), (3, pt b2 0)]) (hs' := (L1, .loop rc1) :: (b3, .cells #[.bool r] 4 (0, 0)) :: (b2, .cells #[sl bv ov nv cv] 25 (0, 0)) :: (b1, .cells #[sl b off n cap] 24 (0, 0)) :: own1) rfl rfl ?_
            refine tri_region (todo := [0, 1]) rfl ?_
            refine kA (.agg #[ii 0, ii 0, ii 0, ii 0, ii 0, ii 0]) fun b4 => ?_
            refine kW 0 #[ii (t : Int), ii (f : Int), ii (i : Int), ii (c t (f * 5)), ii (c t (f * 5 + 1 + f)), ii (c t (f * 5 + 1 + i))] ?_
            refine kP [9, 4, 3] ?_
            refine opsT_end ?_
            refine post_assign' (pre := [(b4, .cells #[ii (t : Int), ii (f : Int), ii (i : Int), ii (c t (f * 5)), ii (c t (f * 5 + 1 + f)), ii (c t (f * 5 + 1 + i))] 143 (0, 0))]) hst rfl ?_
            refine tri_eq (l' := [(9, pt b4 0), (4, pt b3 0), (3, pt b2 0)]) (hs' := (L1, .loop { rc1 with state := .busy }) :: (b4, .cells #[ii (t : Int), ii (f : Int), ii (i : Int), ii (c t (f * 5)), ii (c t (f * 5 + 1 + f)), ii (c t (f * 5 + 1 + i))] 143 (0, 0)) :: (b3, .cells #[.bool r] 4 (0, 0)) :: (b2, .cells #[sl bv ov nv cv] 25 (0, 0)) :: (b1, .cells #[sl b off n cap] 24 (0, 0)) :: own1) rfl rfl ?_
            refine tri_block ?_
            refine tri_seq ?_
            refine kD 17 0x50000000000000000 [0, 2, 4, 6, 7, 8, 10, 12, 14, 15] [sl bv ov nv cv, ii (t : Int), ii (f : Int), ii (i : Int), ii (arcP v t f i), sl bv ov nv cv, ii (c t (f * 5)), ii (c t (f * 5 + 1 + f)), ii (c t (f * 5 + 1 + i)), ii (arcP v ((c t (f * 5)).toNat) ((c t (f * 5 + 1 + f)).toNat) ((c t (f * 5 + 1 + i)).toNat))] [(72, .bool (!decide (arcP v t f i = arcP v ((c t (f * 5)).toNat) ((c t (f * 5 + 1 + f)).toNat) ((c t (f * 5 + 1 + i)).toNat))))] [4] [] [] rfl trivial (qA (qL 3) (qA (qL 1) (qA (qL 1) (qA (qL 1) (qA (qC en101 #[sl bv ov nv cv, ii (t : Int), ii (f : Int), ii (i : Int)] rfl (fun W hR => arcs_ (hv.rep hR (by simp)) hin (by omega) (t := (t : Int)) (f := (f : Int)) (i := (i : Int)) (by omega) (by omega) (by omega) (by omega) (by omega) (by omega) (by omega)) (by kernel_rfl)) (qA (qL 3) (qA (qL 1) (qA (qL 1) (qA (qL 1) (qA (qC en101 #[sl bv ov nv cv, ii (c t (f * 5)), ii (c t (f * 5 + 1 + f)), ii (c t (f * 5 + 1 + i))] rfl (fun W hR => arcs_ (hv.rep hR (by simp)) hin (by omega) (t := (c t (f * 5))) (f := (c t (f * 5 + 1 + f))) (i := (c t (f * 5 + 1 + i))) (by omega) (by omega) (by omega) (by omega) (by omega) (by omega) (by omega)) (by kernel_rfl)) qZ)))))))))) ?_ (by kernel_rfl)
            refine we ?_
            refine tri_cond (b := !decide (arcP v t f i = arcP v ((c t (f * 5)).toNat) ((c t (f * 5 + 1 + f)).toNat) ((c t (f * 5 + 1 + i)).toNat))) rfl (fun h5 => ?_) (fun h5 => ?_)
            · simp only [Bool.not_eq_true', decide_eq_false_iff_not] at h5
              refine wr [0] rfl ?_
              refine kW 2 #[.bool false] ?_
              refine kPe [] ?_
              refine tri_ret ?_
              refine post_block_ret ?_
              exact post_rq_ret false ⟨rfl, rfl, k, hk, by rw [hp]; show ¬ (_ = _); assumption⟩ (.cons_cons _ (.cons _ (List.Sublist.refl _)))
            · simp only [Bool.not_eq_false', decide_eq_true_eq] at h5
              refine tri_skip ?_
              refine post_block ?_
              exact post_rq r ⟨hr, eqs_step hp hI (by show _ = _; assumption)⟩ (.cons_cons _ (.cons _ (List.Sublist.refl _)))
          · rintro r hI D1 L2 rc2
            refine post_perm (hs' := [(D1, .deferred (some [])), (L2, .loop rc2), (b3, .cells #[.bool r] 4 (0, 0)), (b2, .cells #[sl bv ov nv cv] 25 (0, 0)), (b1, .cells #[sl b off n cap] 24 (0, 0)), (bg1, .cells #[sl b off n cap] 24 (0, 0))]) (List.Perm.refl _) ?_
            refine post_block ?_
            refine post_then ?_
            refine wr [0] rfl ?_
            refine kW 2 #[.bool true] ?_
            refine kPe [4] ?_
            refine tri_ret ?_
            refine post_outM ?_
            refine outM_mark 0 rfl ?_
            refine outM_ret1 (v := .bool true) rfl (.cell 2 b3 0 1 #[.bool true] 4 (0, 0) rfl rfl (by kernel_rfl)) (fun W hR => ?_)
            exact ⟨true, ⟨fun _ => ⟨by omega, hin, hokT, hoct, hI.2⟩, fun _ => rfl⟩, rfl, hR.ext⟩
          · rintro c r ⟨rfl, hJ⟩ D1 L2 rc2
            refine tri_eq (l' := [(54, .func (.func 167) #[] #[pt bg1 0]), (4, pt b3 0), (3, pt b2 0)]) (hs' := [(D1, .deferred (some [])), (L2, .loop rc2), (b3, .cells #[.bool r] 4 (0, 0)), (b2, .cells #[sl bv ov nv cv] 25 (0, 0)), (b1, .cells #[sl b off n cap] 24 (0, 0)), (bg1, .cells #[sl b off n cap] 24 (0, 0))]) rfl rfl ?_
            refine tri_ret ?_
            refine post_block_ret ?_
            refine post_then_ret ?_
            refine post_outM ?_
            refine outM_mark 0 rfl ?_
            refine outM_ret1 (v := .bool r) rfl (.cell 2 b3 0 1 #[.bool r] 4 (0, 0) rfl rfl (by kernel_rfl)) (fun W hR => ?_)
            obtain ⟨rfl, k, hk, hbad⟩ := hJ
            exact ⟨false, ⟨(fun h => by cases h), fun h => absurd (h.2.2.2.2 k hk) hbad⟩, rfl, hR.ext⟩
    · refine tri_region (todo := [0, 1, 2, 3, 4, 5, 6, 7, 8, 9, 10]) rfl ?_
      refine kL 1 (sl bv ov nv cv) ?_
      refine kS 2 0 [(12, pt b1 0), (11, ii ((nv : Nat) : Int))] [4, 3, 2] ?_
      refine kL 2 (sl b off n cap) ?_
      refine kO 4 1824 [(17, .bool false)] [4, 3, 2] [I64 (10 * ((n : Nat) : Int)), ¬ (((nv : Nat) : Int) ≠ 10 * ((n : Nat) : Int))] ⟨(show I64 (10 * ((n : Nat) : Int)) from by first | omega | assumption | (have q1 := hC0.1; (try have w0 := h2 (10 * t + 7 + 0) (by omega)); (try have w1 := h2 (10 * t + 7 + 1) (by omega)); (try have w2 := h2 (10 * t + 7 + 2) (by omega)); omega)), (fun hn => hn h1)⟩ ?_
      refine kL 1 (sl bv ov nv cv) ?_
      refine kC en126 #[sl bv ov nv cv, .func (.func 164) #[] #[]] (.bool true) rfl (fun W hR => contains_yes (hv.rep hR (by simp)) (by omega) h2) ?_ (by kernel_rfl)
      refine kSe 1 0 [(20, .bool true)] [4, 3, 2] ?_
      refine tri_cond_true rfl ?_
      refine wr [0] rfl ?_
      refine kW 0 #[.bool false] ?_
      refine kPe [4] ?_
      refine tri_ret ?_
      refine post_then_ret ?_
      refine post_outM ?_
      refine outM_ret1 (v := .bool false) rfl (.cell 0 b3 0 1 #[.bool false] 4 (0, 0) rfl rfl (by kernel_rfl)) (fun W hR => ?_)
      refine ⟨false, ⟨(fun h => by cases h), fun h => ?_⟩, rfl, hR.ext⟩
      exfalso
      obtain ⟨q1, q2, q3, q4, q5⟩ := h
      first | omega | contradiction | (have q6 := q3 t (by omega); unfold okT at q6; omega) | (rw [show n = t by omega] at q4; omega)
  · refine tri_region (todo := [0, 1, 2, 3, 4, 5, 6, 7, 8, 9, 10]) rfl ?_
    refine kL 1 (sl bv ov nv cv) ?_
    refine kS 2 0 [(12, pt b1 0), (11, ii ((nv : Nat) : Int))] [4, 3, 2] ?_
    refine kL 2 (sl b off n cap) ?_
    refine kOe 7 1115680 [(20, .bool true)] [4, 3, 2] [I64 (10 * ((n : Nat) : Int)), ((nv : Nat) : Int) ≠ 10 * ((n : Nat) : Int)] ⟨(show I64 (10 * ((n : Nat) : Int)) from by first | omega | assumption | (have q1 := hC0.1; (try have w0 := h2 (10 * t + 7 + 0) (by omega)); (try have w1 := h2 (10 * t + 7 + 1) (by omega)); (try have w2 := h2 (10 * t + 7 + 2) (by omega)); omega)), h1⟩ ?_
    refine tri_cond_true rfl ?_
    refine wr [0] rfl ?_
    refine kW 0 #[.bool false] ?_
    refine kPe [4] ?_
    refine tri_ret ?_
    refine post_then_ret ?_
    refine post_outM ?_
    refine outM_ret1 (v := .bool false) rfl (.cell 0 b3 0 1 #[.bool false] 4 (0, 0) rfl rfl (by kernel_rfl)) (fun W hR => ?_)
    refine ⟨false, ⟨(fun h => by cases h), fun h => ?_⟩, rfl, hR.ext⟩
    exfalso
    obtain ⟨q1, q2, q3, q4, q5⟩ := h
    first | omega | contradiction | (have q6 := q3 t (by omega); unfold okT at q6; omega) | (rw [show n = t by omega] at q4; omega)
end Go.Proofs.YtlkbokbcfajhjaaGreat
