/- G23: pieces, small, Clone, Equal -/
import Derived.Test.YtlkbokbcfajhjaaGreatG22
import Derived.Test.YtlkbokbcfajhjaaGreatB17
import Derived.Test.YtlkbokbcfajhjaaGreatD1
namespace Go.Proofs.YtlkbokbcfajhjaaGreat
open Go.Proofs.Walk
set_option maxRecDepth 100000
set_option linter.unusedVariables false
set_option linter.unusedSimpArgs false

theorem en8 : Walk.Enters Tryz.prog 8 := Walk.enters Tryz.func8 (by kernel_rfl) rfl
theorem en40 : Walk.Enters Tryz.prog 40 := Walk.enters Tryz.func40 (by kernel_rfl) rfl
theorem en91 : Walk.Enters Tryz.prog 91 := Walk.enters Tryz.func91 (by kernel_rfl) rfl
theorem en41 : Walk.Enters Tryz.prog 41 := Walk.enters Tryz.func41 (by kernel_rfl) rfl
theorem en14 : Walk.Enters Tryz.prog 14 := Walk.enters Tryz.func14 (by kernel_rfl) rfl
theorem en16 : Walk.Enters Tryz.prog 16 := Walk.enters Tryz.func16 (by kernel_rfl) rfl
theorem pieces_ {bv ov nv cv : Nat} {v : Nat → Int} {w : World} (hv : AtV w bv ov nv v) (hin : InR nv v) (hn : nv ≤ 1000000000) : Calls Tryz.prog 17 #[sl bv ov nv cv] w fun e w' => e = .returned (.int .i64 (min (sumTo nv v) 20001)) ∧ Ext w w' := by
  refine calls_of (n := 20) Tryz.func17 rfl Tryz.ntmps17 rfl ?_
  refine tri_eq (l' := [(0, sl bv ov nv cv)]) (hs' := []) rfl rfl ?_
  refine wr [0] rfl ?_
  refine kSn 1 0 [] [0] [0] ?_
  refine kSe 1 0 [(3, ii 0)] [0] ?_
  refine tri_seq ?_
  refine wr [0] rfl ?_
  refine kSe 1 0 [(4, ii 0)] [3, 0] ?_
  refine tri_block ?_
  refine tri_eq (l' := [(4, ii 0), (3, ii (min (sumTo 0 v) 20001)), (0, sl bv ov nv cv)]) (hs' := []) rfl rfl ?_
  refine tri_loop (β := Nat) (fun xz => [(0, sl bv ov nv cv), (4, ii (xz : Int)), (3, ii (min (sumTo xz v) 20001))]) (fun xz => []) (fun xz => xz ≤ nv) (fun xz => nv - xz) 0 (look_pickL (ks := [0, 4, 3]) (by kernel_rfl)) (List.Sublist.refl _) (Nat.zero_le _) ?_
  rintro k hC0
  try dsimp only at hC0
  refine tri_eq (l' := [(0, sl bv ov nv cv), (4, ii (k : Int)), (3, ii (min (sumTo k v) 20001))]) (hs' := []) rfl rfl ?_
  have hk0 : k < nv → 0 ≤ v k ∧ v k ≤ 1000000 := fun h => hin k h
  have hs0 := sumTo_bound (N := nv) (B := 1000000) (by omega) hin k (by omega)
  refine tri_seq ?_
  refine wr [0, 1, 2, 3] rfl ?_
  refine kSe 4 20480 [(8, .bool (decide ((k : Int) < ((nv : Nat) : Int))))] [0, 4, 3] ?_
  refine tri_cond_dec (p := (k : Int) < ((nv : Nat) : Int)) rfl (fun h1 => ?_) (fun h1 => ?_)
  · refine tri_skip ?_
    refine post_then ?_
    refine tri_seq ?_
    refine tri_block ?_
    refine tri_region (todo := [0, 1, 2, 3, 4, 5, 6, 7, 8]) rfl ?_
    refine kO 4 36864 [(14, pt bv (ov + k)), (11, ii (min (sumTo k v) 20001))] [0, 4, 3] [(0 : Int) ≤ (k : Int), (k : Int) < ((nv : Nat) : Int)] (by refine ap ?_ (ap1 ?_) <;> (first | omega | (have := hk0 (by omega); omega) | (have := hk0 (by omega); split <;> omega))) ?_
    refine kM bv (ov + k) [ii (v k)] (ii (v k)) (hv.one (by omega)) ?_
    refine kO 4 32 [(3, ii (if 20001 < (min (sumTo k v) 20001) + (if v k > 0 then v k else 0) then 20001 else (min (sumTo k v) 20001) + (if v k > 0 then v k else 0)))] [0, 4] [I64 ((min (sumTo k v) 20001) + (if v k > 0 then v k else 0))] (ap1 (by first | omega | (have := hk0 (by omega); omega) | (have := hk0 (by omega); split <;> omega))) ?_
    refine opsT_end ?_
    refine post_block ?_
    refine post_then ?_
    refine tri_region (todo := [0, 1, 2]) rfl ?_
    refine kO 3 32 [(4, ii ((k : Int) + 1))] [3, 0] [I64 ((k : Int) + 1)] (ap1 (by first | omega | (have := hk0 (by omega); omega) | (have := hk0 (by omega); split <;> omega))) ?_
    refine opsT_end ?_
    refine post_leq (l' := [(4, ii ((k : Int) + 1)), (3, ii (min (sumTo (k + 1) v) 20001)), (0, sl bv ov nv cv)]) (by rw [show (min (sumTo (k + 1) v) 20001 : Int) = (if 20001 < (min (sumTo k v) 20001) + (if v k > 0 then v k else 0) then 20001 else (min (sumTo k v) 20001) + (if v k > 0 then v k else 0)) by rw [sumTo_succ]; (repeat' split) <;> omega]) ?_
    refine post_round (k + 1) (by omega) (by show nv - (k + 1) < nv - k; omega) (look_pickL (ks := [0, 4, 3]) (by kernel_rfl)) (List.Sublist.refl _)
  · refine tri_exit ?_
    refine post_then_exit ?_
    refine post_round_exit ?_
    refine post_block_hit ?_
    refine post_then ?_
    refine wr [0, 1] rfl ?_
    refine kSe 2 0 [(2, ii (min (sumTo k v) 20001))] [] ?_
    refine tri_ret ?_
    refine post_ret1 (v := ii (min (sumTo k v) 20001)) rfl (.tmp rfl) (fun W hR => ?_)
    exact ⟨by rw [show k = nv by omega], hR.ext⟩
theorem big {bv ov nv cv : Nat} (w : World) : Calls Tryz.prog 41 #[sl bv ov nv cv] w fun e w' => e = .returned (.bool (decide (60 < ((nv : Nat) : Int)))) ∧ Ext w w' := by
  refine calls_of (n := 6) Tryz.func41 rfl Tryz.ntmps41 rfl ?_
  refine tri_eq (l' := [(0, sl bv ov nv cv)]) (hs' := []) rfl rfl ?_
  refine wr [0] rfl ?_
  refine kSn 1 0 [] [0] [0, 1, 2, 3] ?_
  refine kSe 4 1280 [(2, .bool (decide (60 < ((nv : Nat) : Int))))] [] ?_
  refine tri_ret ?_
  refine post_ret1 (v := .bool (decide (60 < ((nv : Nat) : Int)))) rfl (.tmp rfl) (fun W hR => ?_)
  exact ⟨rfl, hR.ext⟩
theorem indexL {bv ov nv cv : Nat} {bl : Nat} {w : World} (hl : Cells w bl 0 [sl bv ov nv cv]) : Calls Tryz.prog 91 #[sl bl 0 1 1, .func (.func 41) #[] #[]] w fun e w' => ∃ r : Int, (0 ≤ r ↔ 60 < ((nv : Nat) : Int)) ∧ e = .returned (.int .i64 r) ∧ Ext w w' := by
  refine calls_of (n := 19) Tryz.func91 rfl Tryz.ntmps91 rfl ?_
  refine tri_eq (l' := [(0, sl bl 0 1 1), (1, .func (.func 41) #[] #[])]) (hs' := []) rfl rfl ?_
  refine wr [0] rfl ?_
  refine kSe 1 0 [] [0, 1] ?_
  refine tri_seq ?_
  refine wr [0, 1, 2] rfl ?_
  refine kSe 3 0 [(8, ii 0), (7, ii 1)] [0, 1] ?_
  refine tri_block ?_
  refine tri_rounds 1 ?_
  refine wr [0] rfl ?_
  refine kSe 1 0 [(9, .bool true)] [8, 7, 0, 1] ?_
  refine tri_seq ?_
  refine tri_cond_true rfl ?_
  refine tri_skip ?_
  refine post_then ?_
  refine tri_seq ?_
  refine tri_block ?_
  refine wr [0, 1] rfl ?_
  refine kSe 2 0 [(5, ii 0)] [8, 7, 0, 1] ?_
  refine tri_seq ?_
  by_cases h1 : 60 < ((nv : Nat) : Int)
  · refine tri_region (todo := [0, 1, 2, 3, 4, 5]) rfl ?_
    refine kS 4 0 [(14, pt bl 0), (11, .func (.func 41) #[] #[])] [5, 8, 7, 0, 1] ?_
    refine kM bl 0 [sl bv ov nv cv] (sl bv ov nv cv) hl ?_
    refine kC en41 #[sl bv ov nv cv] (.bool true) rfl (fun W hR => ((big W).mono fun e w' h => ⟨by rw [h.1, decide_eq_true h1], h.2⟩)) ?_ (by kernel_rfl)
    refine kPe [16, 5, 8, 7, 0, 1] ?_
    refine tri_cond_true rfl ?_
    refine wr [0, 1] rfl ?_
    refine kSe 2 0 [(4, ii 0)] [] ?_
    refine tri_ret ?_
    refine post_block_ret ?_
    refine post_then_ret ?_
    refine post_more_ret ?_
    refine post_block_ret ?_
    refine post_then_ret ?_
    refine post_ret1 (v := ii 0) rfl (.tmp rfl) (fun W hR => ?_)
    exact ⟨_, by omega, rfl, hR.ext⟩
  · refine tri_region (todo := [0, 1, 2, 3, 4, 5]) rfl ?_
    refine kS 4 0 [(14, pt bl 0), (11, .func (.func 41) #[] #[])] [5, 8, 7, 0, 1] ?_
    refine kM bl 0 [sl bv ov nv cv] (sl bv ov nv cv) hl ?_
    refine kC en41 #[sl bv ov nv cv] (.bool false) rfl (fun W hR => ((big W).mono fun e w' h => ⟨by rw [h.1, decide_eq_false h1], h.2⟩)) ?_ (by kernel_rfl)
    refine kPe [16, 5, 8, 7, 0, 1] ?_
    refine tri_cond_false rfl ?_
    refine tri_skip ?_
    refine post_block ?_
    refine post_then ?_
    refine tri_region (todo := [0, 1]) rfl ?_
    refine kS 2 0 [(8, ii 1)] [7, 0, 1] ?_
    refine opsT_end ?_
    refine post_more ?_
    refine wr [0] rfl ?_
    refine kSe 1 0 [(9, .bool false)] [8, 7, 0, 1] ?_
    refine tri_seq ?_
    refine tri_cond_false rfl ?_
    refine tri_exit ?_
    refine post_then_exit ?_
    refine post_more_exit ?_
    refine post_block_hit ?_
    refine post_then ?_
    refine wr [0] rfl ?_
    refine kSe 1 0 [(4, ii (-1))] [] ?_
    refine tri_ret ?_
    refine post_ret1 (v := ii (-1)) rfl (.tmp rfl) (fun W hR => ?_)
    exact ⟨_, by omega, rfl, hR.ext⟩
theorem containsL {bv ov nv cv : Nat} {bl : Nat} {w : World} (hl : Cells w bl 0 [sl bv ov nv cv]) : Calls Tryz.prog 40 #[sl bl 0 1 1, .func (.func 41) #[] #[]] w fun e w' => e = .returned (.bool (decide (60 < ((nv : Nat) : Int)))) ∧ Ext w w' := by
  refine calls_of (n := 9) Tryz.func40 rfl Tryz.ntmps40 rfl ?_
  refine tri_eq (l' := [(0, sl bl 0 1 1), (1, .func (.func 41) #[] #[])]) (hs' := []) rfl rfl ?_
  refine wr [0] rfl ?_
  refine kSn 1 0 [] [0, 1] [0, 1, 2, 3, 4] ?_
  refine kS 2 0 [(6, .func (.func 41) #[] #[]), (5, sl bl 0 1 1)] [] ?_
  refine opsT_callR (f := 91) (args := #[sl bl 0 1 1, .func (.func 41) #[] #[]]) [] [] (fun r => .int .i64 r) (fun _ => []) (fun r => 0 ≤ r ↔ 60 < ((nv : Nat) : Int)) rfl rfl rfl rfl rfl (run_call en91 rfl rfl rfl (by kernel_rfl)) (List.Perm.refl _) (fun W hR => (indexL (hl.base hR (by simp))).mono fun e w' ⟨r, h1, h2, h3⟩ => ⟨r, h1, h2, Ext.rep h3⟩) (fun r hr => ?_)
  refine opsT_heq (hs' := []) rfl ?_
  refine kSe 2 5 [(4, .bool (decide (0 ≤ r)))] [] ?_
  refine tri_ret ?_
  refine post_ret1 (v := .bool (decide (0 ≤ r))) rfl (.tmp rfl) (fun W hR => ?_)
  exact ⟨by congr 2; rw [decide_eq_decide]; exact hr, hR.ext⟩
theorem small {bv ov nv cv : Nat} {b off n cap : Nat} {bl : Nat} {w : World} (hl : Cells w bl 0 [sl bv ov nv cv]) : Calls Tryz.prog 8 #[.agg #[sl b off n cap], sl bl 0 1 1] w fun e w' => e = .returned (.bool (decide (n ≤ 5 ∧ nv ≤ 60))) ∧ Ext w w' := by
  refine calls_of (n := 14) Tryz.func8 rfl Tryz.ntmps8 rfl ?_
  refine tri_eq (l' := [(0, .agg #[sl b off n cap]), (1, sl bl 0 1 1)]) (hs' := []) rfl rfl ?_
  refine wr [0, 1] rfl ?_
  refine kB (.agg #[sl b off n cap]) fun b1 => ?_
  refine kSe 1 0 [] [2, 1] ?_
  refine tri_seq ?_
  by_cases h1 : ((n : Nat) : Int) ≤ 5
  · by_cases h2 : 60 < ((nv : Nat) : Int)
    · refine tri_region (todo := [0, 1, 2, 3, 4, 5, 6, 7, 8, 9]) rfl ?_
      refine kS 1 0 [(5, pt b1 0)] [1] ?_
      refine kL 0 (sl b off n cap) ?_
      refine kO 4 96 [(10, sl bl 0 1 1), (9, .bool true)] [] [((n : Nat) : Int) ≤ 5] h1 ?_
      refine kC en40 #[sl bl 0 1 1, .func (.func 41) #[] #[]] (.bool true) rfl (fun W hR => ((containsL (hl.base hR (by simp))).mono fun e w' h => ⟨by rw [h.1, decide_eq_true h2], h.2⟩)) ?_ (by kernel_rfl)
      refine kSe 3 0 [(4, .bool false)] [] ?_
      refine tri_ret ?_
      refine post_ret1 (v := .bool false) rfl (.tmp rfl) (fun W hR => ?_)
      refine ⟨?_, hR.ext⟩
      first | (rw [decide_eq_true (by omega)]; done) | (rw [decide_eq_false (by omega)]; done)
    · refine tri_region (todo := [0, 1, 2, 3, 4, 5, 6, 7, 8, 9]) rfl ?_
      refine kS 1 0 [(5, pt b1 0)] [1] ?_
      refine kL 0 (sl b off n cap) ?_
      refine kO 4 96 [(10, sl bl 0 1 1), (9, .bool true)] [] [((n : Nat) : Int) ≤ 5] h1 ?_
      refine kC en40 #[sl bl 0 1 1, .func (.func 41) #[] #[]] (.bool false) rfl (fun W hR => ((containsL (hl.base hR (by simp))).mono fun e w' h => ⟨by rw [h.1, decide_eq_false h2], h.2⟩)) ?_ (by kernel_rfl)
      refine kSe 3 0 [(4, .bool true)] [] ?_
      refine tri_ret ?_
      refine post_ret1 (v := .bool true) rfl (.tmp rfl) (fun W hR => ?_)
      refine ⟨?_, hR.ext⟩
      first | (rw [decide_eq_true (by omega)]; done) | (rw [decide_eq_false (by omega)]; done)
  · refine tri_region (todo := [0, 1, 2, 3, 4, 5, 6, 7, 8, 9]) rfl ?_
    refine kS 1 0 [(5, pt b1 0)] [1] ?_
    refine kL 0 (sl b off n cap) ?_
    refine kOe 8 1118320 [(4, .bool false)] [] [¬ (((n : Nat) : Int) ≤ 5)] h1 ?_
    refine tri_ret ?_
    refine post_ret1 (v := .bool false) rfl (.tmp rfl) (fun W hR => ?_)
    refine ⟨?_, hR.ext⟩
    first | (rw [decide_eq_true (by omega)]; done) | (rw [decide_eq_false (by omega)]; done)
theorem smallG0 {bv ov nv cv : Nat} {bl : Nat} {w : World} (hl : Cells w bl 0 [sl bv ov nv cv]) : Calls Tryz.prog 8 #[.agg #[.slice none 0 0], sl bl 0 1 1] w fun e w' => e = .returned (.bool (decide (0 ≤ 5 ∧ nv ≤ 60))) ∧ Ext w w' := by
  refine calls_of (n := 14) Tryz.func8 rfl Tryz.ntmps8 rfl ?_
  refine tri_eq (l' := [(0, .agg #[.slice none 0 0]), (1, sl bl 0 1 1)]) (hs' := []) rfl rfl ?_
  refine wr [0, 1] rfl ?_
  refine kB (.agg #[.slice none 0 0]) fun b1 => ?_
  refine kSe 1 0 [] [2, 1] ?_
  refine tri_seq ?_
  by_cases h1 : 60 < ((nv : Nat) : Int)
  · refine tri_region (todo := [0, 1, 2, 3, 4, 5, 6, 7, 8, 9]) rfl ?_
    refine kS 1 0 [(5, pt b1 0)] [1] ?_
    refine kL 0 (.slice none 0 0) ?_
    refine kS 4 0 [(10, sl bl 0 1 1), (9, .bool true)] [] ?_
    refine kC en40 #[sl bl 0 1 1, .func (.func 41) #[] #[]] (.bool true) rfl (fun W hR => ((containsL (hl.base hR (by simp))).mono fun e w' h => ⟨by rw [h.1, decide_eq_true h1], h.2⟩)) ?_ (by kernel_rfl)
    refine kSe 3 0 [(4, .bool false)] [] ?_
    refine tri_ret ?_
    refine post_ret1 (v := .bool false) rfl (.tmp rfl) (fun W hR => ?_)
    refine ⟨?_, hR.ext⟩
    first | (rw [decide_eq_true (by omega)]; done) | (rw [decide_eq_false (by omega)]; done)
  · refine tri_region (todo := [0, 1, 2, 3, 4, 5, 6, 7, 8, 9]) rfl ?_
    refine kS 1 0 [(5, pt b1 0)] [1] ?_
    refine kL 0 (.slice none 0 0) ?_
    refine kS 4 0 [(10, sl bl 0 1 1), (9, .bool true)] [] ?_
    refine kC en40 #[sl bl 0 1 1, .func (.func 41) #[] #[]] (.bool false) rfl (fun W hR => ((containsL (hl.base hR (by simp))).mono fun e w' h => ⟨by rw [h.1, decide_eq_false h1], h.2⟩)) ?_ (by kernel_rfl)
    refine kSe 3 0 [(4, .bool true)] [] ?_
    refine tri_ret ?_
    refine post_ret1 (v := .bool true) rfl (.tmp rfl) (fun W hR => ?_)
    refine ⟨?_, hR.ext⟩
    first | (rw [decide_eq_true (by omega)]; done) | (rw [decide_eq_false (by omega)]; done)
theorem bigNil (w : World) : Calls Tryz.prog 41 #[.slice none 0 0] w fun e w' => e = .returned (.bool (false)) ∧ Ext w w' := by
  refine calls_of (n := 6) Tryz.func41 rfl Tryz.ntmps41 rfl ?_
  refine tri_eq (l' := [(0, .slice none 0 0)]) (hs' := []) rfl rfl ?_
  refine wr [0] rfl ?_
  refine kSn 1 0 [] [0] [0, 1, 2, 3] ?_
  refine kSe 4 0 [(2, .bool false)] [] ?_
  refine tri_ret ?_
  refine post_ret1 (v := .bool false) rfl (.tmp rfl) (fun W hR => ?_)
  exact ⟨rfl, hR.ext⟩
theorem indexLNil {bl : Nat} {w : World} (hl : Cells w bl 0 [.slice none 0 0]) : Calls Tryz.prog 91 #[sl bl 0 1 1, .func (.func 41) #[] #[]] w fun e w' => ∃ r : Int, (0 ≤ r ↔ 60 < ((0 : Nat) : Int)) ∧ e = .returned (.int .i64 r) ∧ Ext w w' := by
  refine calls_of (n := 19) Tryz.func91 rfl Tryz.ntmps91 rfl ?_
  refine tri_eq (l' := [(0, sl bl 0 1 1), (1, .func (.func 41) #[] #[])]) (hs' := []) rfl rfl ?_
  refine wr [0] rfl ?_
  refine kSe 1 0 [] [0, 1] ?_
  refine tri_seq ?_
  refine wr [0, 1, 2] rfl ?_
  refine kSe 3 0 [(8, ii 0), (7, ii 1)] [0, 1] ?_
  refine tri_block ?_
  refine tri_rounds 1 ?_
  refine wr [0] rfl ?_
  refine kSe 1 0 [(9, .bool true)] [8, 7, 0, 1] ?_
  refine tri_seq ?_
  refine tri_cond_true rfl ?_
  refine tri_skip ?_
  refine post_then ?_
  refine tri_seq ?_
  refine tri_block ?_
  refine wr [0, 1] rfl ?_
  refine kSn 2 0 [(5, ii 0)] [8, 7, 0, 1] [0, 1, 2, 3, 4, 5] ?_
  refine kS 4 0 [(14, pt bl 0), (11, .func (.func 41) #[] #[])] [5, 8, 7, 0, 1] ?_
  refine kM bl 0 [.slice none 0 0] (.slice none 0 0) hl ?_
  refine kC en41 #[.slice none 0 0] (.bool false) rfl (fun W hR => bigNil W) ?_ (by kernel_rfl)
  refine kPe [16, 5, 8, 7, 0, 1] ?_
  refine tri_cond_false rfl ?_
  refine tri_skip ?_
  refine post_block ?_
  refine post_then ?_
  refine tri_region (todo := [0, 1]) rfl ?_
  refine kS 2 0 [(8, ii 1)] [7, 0, 1] ?_
  refine opsT_end ?_
  refine post_more ?_
  refine wr [0] rfl ?_
  refine kSe 1 0 [(9, .bool false)] [8, 7, 0, 1] ?_
  refine tri_seq ?_
  refine tri_cond_false rfl ?_
  refine tri_exit ?_
  refine post_then_exit ?_
  refine post_more_exit ?_
  refine post_block_hit ?_
  refine post_then ?_
  refine wr [0] rfl ?_
  refine kSe 1 0 [(4, ii (-1))] [] ?_
  refine tri_ret ?_
  refine post_ret1 (v := ii (-1)) rfl (.tmp rfl) (fun W hR => ?_)
  exact ⟨_, by omega, rfl, hR.ext⟩
theorem containsLNil {bl : Nat} {w : World} (hl : Cells w bl 0 [.slice none 0 0]) : Calls Tryz.prog 40 #[sl bl 0 1 1, .func (.func 41) #[] #[]] w fun e w' => e = .returned (.bool (decide (60 < ((0 : Nat) : Int)))) ∧ Ext w w' := by
  refine calls_of (n := 9) Tryz.func40 rfl Tryz.ntmps40 rfl ?_
  refine tri_eq (l' := [(0, sl bl 0 1 1), (1, .func (.func 41) #[] #[])]) (hs' := []) rfl rfl ?_
  refine wr [0] rfl ?_
  refine kSn 1 0 [] [0, 1] [0, 1, 2, 3, 4] ?_
  refine kS 2 0 [(6, .func (.func 41) #[] #[]), (5, sl bl 0 1 1)] [] ?_
  refine opsT_callR (f := 91) (args := #[sl bl 0 1 1, .func (.func 41) #[] #[]]) [] [] (fun r => .int .i64 r) (fun _ => []) (fun r => 0 ≤ r ↔ 60 < ((0 : Nat) : Int)) rfl rfl rfl rfl rfl (run_call en91 rfl rfl rfl (by kernel_rfl)) (List.Perm.refl _) (fun W hR => (indexLNil (hl.base hR (by simp))).mono fun e w' ⟨r, h1, h2, h3⟩ => ⟨r, h1, h2, Ext.rep h3⟩) (fun r hr => ?_)
  refine opsT_heq (hs' := []) rfl ?_
  refine kSe 2 5 [(4, .bool (decide (0 ≤ r)))] [] ?_
  refine tri_ret ?_
  refine post_ret1 (v := .bool (decide (0 ≤ r))) rfl (.tmp rfl) (fun W hR => ?_)
  exact ⟨by congr 2; rw [decide_eq_decide]; exact hr, hR.ext⟩
theorem smallNil {b off n cap : Nat} {bl : Nat} {w : World} (hl : Cells w bl 0 [.slice none 0 0]) : Calls Tryz.prog 8 #[.agg #[sl b off n cap], sl bl 0 1 1] w fun e w' => e = .returned (.bool (decide (n ≤ 5 ∧ 0 ≤ 60))) ∧ Ext w w' := by
  refine calls_of (n := 14) Tryz.func8 rfl Tryz.ntmps8 rfl ?_
  refine tri_eq (l' := [(0, .agg #[sl b off n cap]), (1, sl bl 0 1 1)]) (hs' := []) rfl rfl ?_
  refine wr [0, 1] rfl ?_
  refine kB (.agg #[sl b off n cap]) fun b1 => ?_
  refine kSe 1 0 [] [2, 1] ?_
  refine tri_seq ?_
  by_cases h1 : ((n : Nat) : Int) ≤ 5
  · by_cases h2 : 60 < ((0 : Nat) : Int)
    · refine tri_region (todo := [0, 1, 2, 3, 4, 5, 6, 7, 8, 9]) rfl ?_
      refine kS 1 0 [(5, pt b1 0)] [1] ?_
      refine kL 0 (sl b off n cap) ?_
      refine kO 4 96 [(10, sl bl 0 1 1), (9, .bool true)] [] [((n : Nat) : Int) ≤ 5] h1 ?_
      refine kC en40 #[sl bl 0 1 1, .func (.func 41) #[] #[]] (.bool true) rfl (fun W hR => ((containsLNil (hl.base hR (by simp))).mono fun e w' h => ⟨by rw [h.1, decide_eq_true h2], h.2⟩)) ?_ (by kernel_rfl)
      refine kSe 3 0 [(4, .bool false)] [] ?_
      refine tri_ret ?_
      refine post_ret1 (v := .bool false) rfl (.tmp rfl) (fun W hR => ?_)
      refine ⟨?_, hR.ext⟩
      first | (rw [decide_eq_true (by omega)]; done) | (rw [decide_eq_false (by omega)]; done)
    · refine tri_region (todo := [0, 1, 2, 3, 4, 5, 6, 7, 8, 9]) rfl ?_
      refine kS 1 0 [(5, pt b1 0)] [1] ?_
      refine kL 0 (sl b off n cap) ?_
      refine kO 4 96 [(10, sl bl 0 1 1), (9, .bool true)] [] [((n : Nat) : Int) ≤ 5] h1 ?_
      refine kC en40 #[sl bl 0 1 1, .func (.func 41) #[] #[]] (.bool false) rfl (fun W hR => ((containsLNil (hl.base hR (by simp))).mono fun e w' h => ⟨by rw [h.1, decide_eq_false h2], h.2⟩)) ?_ (by kernel_rfl)
      refine kSe 3 0 [(4, .bool true)] [] ?_
      refine tri_ret ?_
      refine post_ret1 (v := .bool true) rfl (.tmp rfl) (fun W hR => ?_)
      refine ⟨?_, hR.ext⟩
      first | (rw [decide_eq_true (by omega)]; done) | (rw [decide_eq_false (by omega)]; done)
  · refine tri_region (todo := [0, 1, 2, 3, 4, 5, 6, 7, 8, 9]) rfl ?_
    refine kS 1 0 [(5, pt b1 0)] [1] ?_
    refine kL 0 (sl b off n cap) ?_
    refine kOe 8 1118320 [(4, .bool false)] [] [¬ (((n : Nat) : Int) ≤ 5)] h1 ?_
    refine tri_ret ?_
    refine post_ret1 (v := .bool false) rfl (.tmp rfl) (fun W hR => ?_)
    refine ⟨?_, hR.ext⟩
    first | (rw [decide_eq_true (by omega)]; done) | (rw [decide_eq_false (by omega)]; done)
theorem smallNilG0 {bl : Nat} {w : World} (hl : Cells w bl 0 [.slice none 0 0]) : Calls Tryz.prog 8 #[.agg #[.slice none 0 0], sl bl 0 1 1] w fun e w' => e = .returned (.bool (decide (0 ≤ 5 ∧ 0 ≤ 60))) ∧ Ext w w' := by
  refine calls_of (n := 14) Tryz.func8 rfl Tryz.ntmps8 rfl ?_
  refine tri_eq (l' := [(0, .agg #[.slice none 0 0]), (1, sl bl 0 1 1)]) (hs' := []) rfl rfl ?_
  refine wr [0, 1] rfl ?_
  refine kB (.agg #[.slice none 0 0]) fun b1 => ?_
  refine kSe 1 0 [] [2, 1] ?_
  refine tri_seq ?_
  by_cases h1 : 60 < ((0 : Nat) : Int)
  · refine tri_region (todo := [0, 1, 2, 3, 4, 5, 6, 7, 8, 9]) rfl ?_
    refine kS 1 0 [(5, pt b1 0)] [1] ?_
    refine kL 0 (.slice none 0 0) ?_
    refine kS 4 0 [(10, sl bl 0 1 1), (9, .bool true)] [] ?_
    refine kC en40 #[sl bl 0 1 1, .func (.func 41) #[] #[]] (.bool true) rfl (fun W hR => ((containsLNil (hl.base hR (by simp))).mono fun e w' h => ⟨by rw [h.1, decide_eq_true h1], h.2⟩)) ?_ (by kernel_rfl)
    refine kSe 3 0 [(4, .bool false)] [] ?_
    refine tri_ret ?_
    refine post_ret1 (v := .bool false) rfl (.tmp rfl) (fun W hR => ?_)
    refine ⟨?_, hR.ext⟩
    first | (rw [decide_eq_true (by omega)]; done) | (rw [decide_eq_false (by omega)]; done)
  · refine tri_region (todo := [0, 1, 2, 3, 4, 5, 6, 7, 8, 9]) rfl ?_
    refine kS 1 0 [(5, pt b1 0)] [1] ?_
    refine kL 0 (.slice none 0 0) ?_
    refine kS 4 0 [(10, sl bl 0 1 1), (9, .bool true)] [] ?_
    refine kC en40 #[sl bl 0 1 1, .func (.func 41) #[] #[]] (.bool false) rfl (fun W hR => ((containsLNil (hl.base hR (by simp))).mono fun e w' h => ⟨by rw [h.1, decide_eq_false h1], h.2⟩)) ?_ (by kernel_rfl)
    refine kSe 3 0 [(4, .bool true)] [] ?_
    refine tri_ret ?_
    refine post_ret1 (v := .bool true) rfl (.tmp rfl) (fun W hR => ?_)
    refine ⟨?_, hR.ext⟩
    first | (rw [decide_eq_true (by omega)]; done) | (rw [decide_eq_false (by omega)]; done)
open Classical in
theorem equal_ {ba oa na ca bb ob nb cb : Nat} {a c : Nat → Int} {w : World} (ha : AtV w ba oa na a) (hb : AtV w bb ob nb c) (hn : na ≤ 1000000000000) : Calls Tryz.prog 16 #[sl ba oa na ca, sl bb ob nb cb] w fun e w' => e = .returned (.bool (decide (na = nb ∧ ∀ j, j < na → a j = c j))) ∧ Ext w w' := by
  refine calls_of (n := 26) Tryz.func16 rfl Tryz.ntmps16 rfl ?_
  refine tri_eq (l' := [(0, sl ba oa na ca), (1, sl bb ob nb cb)]) (hs' := []) rfl rfl ?_
  refine wr [0] rfl ?_
  refine kSe 1 0 [] [0, 1] ?_
  refine tri_seq ?_
  refine wr [0, 1, 2, 3, 4] rfl ?_
  refine kSe 5 327680 [(10, .bool (!decide (((na : Nat) : Int) = ((nb : Nat) : Int))))] [0, 1] ?_
  refine tri_cond (b := !decide (((na : Nat) : Int) = ((nb : Nat) : Int))) rfl (fun h1 => ?_) (fun h1 => ?_)
  · simp only [Bool.not_eq_true', decide_eq_false_iff_not] at h1
    refine wr [0] rfl ?_
    refine kSe 1 0 [(4, .bool false)] [] ?_
    refine tri_ret ?_
    refine post_then_ret ?_
    refine post_ret1 (v := .bool false) rfl (.tmp rfl) (fun W hR => ?_)
    refine ⟨?_, hR.ext⟩
    first | (rw [decide_eq_true (⟨by omega, fun j hj => hC0 j (by omega)⟩ : na = nb ∧ ∀ j, j < na → a j = c j)]; done) | (rw [decide_eq_false]; rintro ⟨h1, h2⟩; first | omega | exact absurd (h2 i (by omega)) (by assumption))
  · simp only [Bool.not_eq_false', decide_eq_true_eq] at h1
    refine tri_skip ?_
    refine post_then ?_
    refine tri_seq ?_
    refine wr [0, 1, 2] rfl ?_
    refine kSe 3 0 [(13, ii 0), (12, ii ((na : Nat) : Int))] [0, 1] ?_
    refine tri_block ?_
    refine tri_loop (β := Nat) (fun xz => [(12, ii ((na : Nat) : Int)), (0, sl ba oa na ca), (1, sl bb ob nb cb), (13, ii (xz : Int))]) (fun xz => []) (fun xz => ∀ j, j < xz → a j = c j) (fun xz => na - xz) 0 (look_pickL (ks := [12, 0, 1, 13]) (by kernel_rfl)) (List.Sublist.refl _) (fun j h => absurd h (by omega)) ?_
    rintro i hC0
    try dsimp only at hC0
    refine tri_eq (l' := [(12, ii ((na : Nat) : Int)), (0, sl ba oa na ca), (1, sl bb ob nb cb), (13, ii (i : Int))]) (hs' := []) rfl rfl ?_
    refine wr [0] rfl ?_
    refine kSe 1 5 [(14, .bool (decide ((i : Int) < ((na : Nat) : Int))))] [12, 0, 1, 13] ?_
    refine tri_seq ?_
    refine tri_cond_dec (p := (i : Int) < ((na : Nat) : Int)) rfl (fun h2 => ?_) (fun h2 => ?_)
    · refine tri_skip ?_
      refine post_then ?_
      refine tri_seq ?_
      refine tri_block ?_
      refine wr [0, 1] rfl ?_
      refine kSe 2 0 [(5, ii (i : Int))] [12, 0, 1, 13] ?_
      refine tri_seq ?_
      refine kD 9 21625833728 [3, 7] [ii (a i), ii (c i)] [(24, .bool (!decide (a i = c i)))] [12, 0, 1, 13] [(0 : Int) ≤ (i : Int), (i : Int) < ((na : Nat) : Int), (0 : Int) ≤ (i : Int), (i : Int) < ((nb : Nat) : Int)] [] rfl (by refine ap ?_ (ap ?_ (ap ?_ (ap1 ?_))) <;> (first | omega | assumption)) (qA (qM ba (oa + i) [ii (a i)] (ha.one (by omega))) (qA (qM bb (ob + i) [ii (c i)] (hb.one (by omega))) qZ)) ?_ (by kernel_rfl)
      refine we ?_
      refine tri_cond (b := !decide (a i = c i)) rfl (fun h3 => ?_) (fun h3 => ?_)
      · simp only [Bool.not_eq_true', decide_eq_false_iff_not] at h3
        refine wr [0] rfl ?_
        refine kSe 1 0 [(4, .bool false)] [] ?_
        refine tri_ret ?_
        refine post_block_ret ?_
        refine post_then_ret ?_
        refine post_round_ret ?_
        refine post_block_ret ?_
        refine post_then_ret ?_
        refine post_ret1 (v := .bool false) rfl (.tmp rfl) (fun W hR => ?_)
        refine ⟨?_, hR.ext⟩
        first | (rw [decide_eq_true (⟨by omega, fun j hj => hC0 j (by omega)⟩ : na = nb ∧ ∀ j, j < na → a j = c j)]; done) | (rw [decide_eq_false]; rintro ⟨h1, h2⟩; first | omega | exact absurd (h2 i (by omega)) (by assumption))
      · simp only [Bool.not_eq_false', decide_eq_true_eq] at h3
        refine tri_skip ?_
        refine post_block ?_
        refine post_then ?_
        refine tri_region (todo := [0, 1]) rfl ?_
        refine kO 2 2 [(13, ii ((i : Int) + 1))] [12, 0, 1] [I64 ((i : Int) + 1)] (ap1 (by first | omega | assumption)) ?_
        refine opsT_end ?_
        refine post_round (i + 1) (fun j hj => by
        by_cases e : j = i
        · subst e; assumption
        · exact hC0 j (by omega)) (by show na - (i + 1) < na - i; omega) (look_pickL (ks := [12, 0, 1, 13]) (by kernel_rfl)) (List.Sublist.refl _)
    · refine tri_exit ?_
      refine post_then_exit ?_
      refine post_round_exit ?_
      refine post_block_hit ?_
      refine post_then ?_
      refine wr [0] rfl ?_
      refine kSe 1 0 [(4, .bool true)] [] ?_
      refine tri_ret ?_
      refine post_ret1 (v := .bool true) rfl (.tmp rfl) (fun W hR => ?_)
      refine ⟨?_, hR.ext⟩
      first | (rw [decide_eq_true (⟨by omega, fun j hj => hC0 j (by omega)⟩ : na = nb ∧ ∀ j, j < na → a j = c j)]; done) | (rw [decide_eq_false]; rintro ⟨h1, h2⟩; first | omega | exact absurd (h2 i (by omega)) (by assumption))
end Go.Proofs.YtlkbokbcfajhjaaGreat
