/- G9: sides, discs -/
import Derived.Test.YtlkbokbcfajhjaaGreatG7
import Derived.Test.YtlkbokbcfajhjaaGreatB17
import Derived.Test.YtlkbokbcfajhjaaGreatD1
namespace Go.Proofs.YtlkbokbcfajhjaaGreat
open Go.Proofs.Walk
set_option maxRecDepth 100000
set_option linter.unusedVariables false
set_option linter.unusedSimpArgs false

theorem near_ (k i : Nat) (hk : k < 4) (w : World) : Calls Tryz.prog 177 #[ii (k : Int), ii (i : Int)] w fun e w' => e = .returned (.bool (decide ((i : Int) = 0 ∨ (i : Int) = (k : Int) + 1))) ∧ Ext w w' := by
  refine calls_of (n := 13) Tryz.func177 rfl Tryz.ntmps177 rfl ?_
  refine tri_eq (l' := [(0, ii (k : Int)), (1, ii (i : Int))]) (hs' := []) rfl rfl ?_
  refine wr [0] rfl ?_
  refine kSe 1 0 [] [0, 1] ?_
  refine tri_seq ?_
  by_cases h1 : (i : Int) = 0
  · refine tri_region (todo := [0, 1, 2, 3, 4, 5, 6, 7, 8]) rfl ?_
    refine kOe 9 17895520 [(4, .bool true)] [] [(i : Int) = 0] h1 ?_
    refine tri_ret ?_
    refine post_ret1 (v := .bool true) rfl (.tmp rfl) (fun W hR => ?_)
    exact ⟨by first | rw [decide_eq_true (by omega)] | (congr 2; rw [decide_eq_decide]; omega), hR.ext⟩
  · refine tri_region (todo := [0, 1, 2, 3, 4, 5, 6, 7, 8]) rfl ?_
    refine kOe 9 85983344 [(4, .bool (decide ((i : Int) = (k : Int) + 1)))] [] [¬ ((i : Int) = 0), I64 ((k : Int) + 1)] ⟨h1, (show I64 ((k : Int) + 1) from by first | omega | assumption)⟩ ?_
    refine tri_ret ?_
    refine post_ret1 (v := .bool (decide ((i : Int) = (k : Int) + 1))) rfl (.tmp rfl) (fun W hR => ?_)
    exact ⟨by first | rw [decide_eq_true (by omega)] | (congr 2; rw [decide_eq_decide]; omega), hR.ext⟩
theorem discs_ {b off n cap : Nat} {v : Nat → Int} {w : World} (hc : AtV w b off n v) {t : Nat} (ht : 10 * t + 10 ≤ n) (hn : n ≤ cap) (hn2 : n ≤ 1000000) : Calls Tryz.prog 165 #[sl b off n cap, ii (t : Int)] w fun e w' => e = .returned (.int .i64 ((cntD v t 6 : Nat) : Int)) ∧ Ext w w' := by
  refine calls_of (n := 27) Tryz.func165 rfl Tryz.ntmps165 rfl ?_
  refine tri_eq (l' := [(0, sl b off n cap), (1, ii (t : Int))]) (hs' := []) rfl rfl ?_
  refine wr [0] rfl ?_
  refine kSn 1 0 [] [0, 1] [0] ?_
  refine kSe 1 0 [(5, ii 0)] [0, 1] ?_
  refine tri_seq ?_
  refine wr [0, 1, 2, 3, 4, 5, 6, 7, 8, 9] rfl ?_
  refine kO 7 35660288 [(14, ii ((10 * (t : Int)) + 10)), (11, ii ((10 * (t : Int)) + 4)), (8, sl b off n cap)] [5] [I64 (10 * (t : Int)), I64 ((10 * (t : Int)) + 4), I64 (10 * (t : Int)), I64 ((10 * (t : Int)) + 10)] (by refine ap ?_ (ap ?_ (ap ?_ (ap1 ?_))) <;> (first | omega | (have := cntD_le v t j; omega))) ?_
  refine opsT_slice (e := 3) b off n cap 1 (10 * (t : Int) + 4) (10 * (t : Int) + 10) (.slice (some ⟨b, off + (10 * t + 4), none⟩) 6 (cap - (10 * t + 4))) rfl rfl rfl rfl rfl rfl rfl rfl rfl (by kernel_rfl) (by kernel_rfl) (by omega) (by omega) (by omega) (by omega) (by rw [show (10 * (t : Int) + 4).toNat = 10 * t + 4 by omega, show (10 * (t : Int) + 10).toNat - (10 * t + 4) = 6 by omega, Nat.mul_one]) ?_
  refine kSe 2 0 [(17, ii 0), (16, ii 6)] [15, 5] ?_
  refine tri_block ?_
  refine tri_loop (β := Nat) (fun xz => [(16, ii 6), (15, sl b (off + (10 * t + 4)) 6 (cap - (10 * t + 4))), (17, ii (xz : Int)), (5, ii ((cntD v t xz : Nat) : Int))]) (fun xz => []) (fun xz => xz ≤ 6) (fun xz => 6 - xz) 0 (look_pickL (ks := [16, 15, 17, 5]) (by kernel_rfl)) (List.Sublist.refl _) (by first | omega | (have := cntD_le v t j; omega)) ?_
  rintro j hC0
  try dsimp only at hC0
  refine tri_eq (l' := [(16, ii 6), (15, sl b (off + (10 * t + 4)) 6 (cap - (10 * t + 4))), (17, ii (j : Int)), (5, ii ((cntD v t j : Nat) : Int))]) (hs' := []) rfl rfl ?_
  refine wr [0] rfl ?_
  refine kSe 1 5 [(18, .bool (decide ((j : Int) < 6)))] [16, 15, 17, 5] ?_
  refine tri_seq ?_
  refine tri_cond_dec (p := (j : Int) < 6) rfl (fun h1 => ?_) (fun h1 => ?_)
  · refine tri_skip ?_
    refine post_then ?_
    refine tri_seq ?_
    refine tri_block ?_
    refine wr [0, 1, 2] rfl ?_
    refine kO 1 9 [(19, pt b (off + (10 * t + 4) + j))] [16, 15, 17, 5] [(0 : Int) ≤ (j : Int), (j : Int) < ((6 : Nat) : Int)] (by refine ap ?_ (ap1 ?_) <;> (first | omega | (have := cntD_le v t j; omega))) ?_
    refine kM b (off + (10 * t + 4) + j) [ii (v (10 * t + 4 + j))] (ii (v (10 * t + 4 + j))) (by rw [Nat.add_assoc]; exact hc.one (by omega)) ?_
    refine kSn 1 0 [(7, ii (v (10 * t + 4 + j)))] [16, 15, 17, 5] [0, 1] ?_
    refine kSe 2 80 [(22, .bool (!decide (v (10 * t + 4 + j) = 0)))] [16, 15, 17, 5] ?_
    refine tri_cond (b := !decide (v (10 * t + 4 + j) = 0)) rfl (fun h2 => ?_) (fun h2 => ?_)
    · simp only [Bool.not_eq_true', decide_eq_false_iff_not] at h2
      refine tri_region (todo := [0, 1, 2]) rfl ?_
      refine kO 3 32 [(5, ii (((cntD v t j : Nat) : Int) + 1))] [16, 15, 17] [I64 (((cntD v t j : Nat) : Int) + 1)] (ap1 (by first | omega | (have := cntD_le v t j; omega))) ?_
      refine opsT_end ?_
      refine post_block ?_
      refine post_then ?_
      refine tri_region (todo := [0, 1]) rfl ?_
      refine kO 2 2 [(17, ii ((j : Int) + 1))] [5, 16, 15] [I64 ((j : Int) + 1)] (ap1 (by first | omega | (have := cntD_le v t j; omega))) ?_
      refine opsT_end ?_
      refine post_leq (l' := [(17, ii ((j : Int) + 1)), (5, ii ((cntD v t (j + 1) : Nat) : Int)), (16, ii 6), (15, sl b (off + (10 * t + 4)) 6 (cap - (10 * t + 4)))]) (by rw [show ((cntD v t (j + 1) : Nat) : Int) = ((cntD v t j : Nat) : Int) + 1 by rw [cntD, if_neg (by omega)]; rfl]) ?_
      refine post_round (j + 1) (by omega) (by show 6 - (j + 1) < 6 - j; omega) (look_pickL (ks := [16, 15, 17, 5]) (by kernel_rfl)) (List.Sublist.refl _)
    · simp only [Bool.not_eq_false', decide_eq_true_eq] at h2
      refine tri_skip ?_
      refine post_block ?_
      refine post_then ?_
      refine tri_region (todo := [0, 1]) rfl ?_
      refine kO 2 2 [(17, ii ((j : Int) + 1))] [16, 15, 5] [I64 ((j : Int) + 1)] (ap1 (by first | omega | (have := cntD_le v t j; omega))) ?_
      refine opsT_end ?_
      refine post_leq (l' := [(17, ii ((j : Int) + 1)), (16, ii 6), (15, sl b (off + (10 * t + 4)) 6 (cap - (10 * t + 4))), (5, ii ((cntD v t (j + 1) : Nat) : Int))]) (by rw [show cntD v t (j + 1) = cntD v t j by rw [cntD, if_pos (by omega)]; rfl]) ?_
      refine post_round (j + 1) (by omega) (by show 6 - (j + 1) < 6 - j; omega) (look_pickL (ks := [16, 15, 17, 5]) (by kernel_rfl)) (List.Sublist.refl _)
  · refine tri_exit ?_
    refine post_then_exit ?_
    refine post_round_exit ?_
    refine post_block_hit ?_
    refine post_then ?_
    refine wr [0, 1] rfl ?_
    refine kSe 2 0 [(4, ii ((cntD v t j : Nat) : Int))] [] ?_
    refine tri_ret ?_
    refine post_ret1 (v := ii ((cntD v t j : Nat) : Int)) rfl (.tmp rfl) (fun W hR => ?_)
    exact ⟨by rw [show j = 6 by omega], hR.ext⟩
end Go.Proofs.YtlkbokbcfajhjaaGreat
