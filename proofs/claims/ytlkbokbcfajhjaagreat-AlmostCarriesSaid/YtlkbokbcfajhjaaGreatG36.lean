/- G36: the law, at nil -/
import Derived.Test.YtlkbokbcfajhjaaGreatG35
import Derived.Test.YtlkbokbcfajhjaaGreatB17
import Derived.Test.YtlkbokbcfajhjaaGreatD1
namespace Go.Proofs.YtlkbokbcfajhjaaGreat
open Go.Proofs.Walk
set_option maxRecDepth 100000
set_option linter.unusedVariables false
set_option linter.unusedSimpArgs false

theorem lawNilG {bv ov0 nv cv : Nat} {v : Nat → Int} {w : World} {ov pv : Value} (hv : AtV w bv ov0 nv v) : Calls Tryz.prog 3 #[.agg #[.slice none 0 0], sl bv ov0 nv cv, ov, pv] w fun e w' => e = .returned (.bool true) ∧ Ext w w' := by
  refine calls_of (n := 140) Tryz.func3 rfl Tryz.ntmps3 rfl ?_
  refine tri_eq (l' := [(0, .agg #[.slice none 0 0]), (1, sl bv ov0 nv cv), (2, ov), (3, pv)]) (hs' := []) rfl rfl ?_
  refine wr [0, 1] rfl ?_
  refine kB (.agg #[.slice none 0 0]) fun b1 => ?_
  refine kSe 1 0 [] [4, 1, 2, 3] ?_
  refine tri_seq ?_
  refine wr [0, 1] rfl ?_
  refine kC en7 #[] (.bool true) rfl (fun W hR => sane_ W) ?_ (by kernel_rfl)
  refine kSe 1 0 [(24, .bool false)] [4, 1, 2, 3] ?_
  refine tri_cond_false rfl ?_
  refine tri_skip ?_
  refine post_then ?_
  refine tri_seq ?_
  refine tri_seq ?_
  by_cases h1 : 0 ≤ 5 ∧ nv ≤ 60
  · refine tri_region (todo := [0, 1, 2, 3, 4, 5, 6, 7, 8, 9, 10]) rfl ?_
    refine kL 0 (.agg #[.slice none 0 0]) ?_
    refine kS 1 0 [(26, sl bv ov0 nv cv)] [25, 4, 1, 2, 3] ?_
    refine opsT_buildSlice (e := 25) (size := 1) (z := .slice none 0 0) [sl bv ov0 nv cv] rfl rfl rfl rfl rfl rfl (by kernel_rfl) (by kernel_rfl) (by kernel_rfl) (by kernel_rfl) (fun b2 => ?_)
    refine opsT_heq (hs' := [(b2, .cells #[sl bv ov0 nv cv] 25 (0, 0)), (b1, .cells #[.slice none 0 0] 24 (0, 0))]) rfl ?_
    refine kC en8 #[.agg #[.slice none 0 0], sl b2 0 1 1] (.bool true) rfl (fun W hR => (smallG0 (cells_one (us := []) (t := 25) hR (List.mem_of_getElem? (i := 0) rfl))).mono fun e w' h => ⟨by rw [h.1, decide_eq_true h1], h.2⟩) ?_ (by kernel_rfl)
    refine kS 2 0 [(30, .bool false)] [4, 1, 2, 3] ?_
    refine kL 1 (.agg #[.slice none 0 0]) ?_
    refine kS 1 0 [(32, sl bv ov0 nv cv)] [31, 30, 4, 1, 2, 3] ?_
    refine opsT_callR (f := 9) (args := #[.agg #[.slice none 0 0], sl bv ov0 nv cv]) [] ([(b2, .cells #[sl bv ov0 nv cv] 25 (0, 0)), (b1, .cells #[.slice none 0 0] 24 (0, 0))]) (fun r => .int .i64 r) (fun _ => []) (fun r => r ≠ 0) rfl rfl rfl rfl rfl (run_call en9 rfl rfl rfl (by kernel_rfl)) (List.Perm.refl _) (fun W hR => (check9NilG (hv.rep hR (by simp)) (by have := h1.2; omega)).mono fun e w' ⟨r, h1, h2, h3⟩ => ⟨r, h1, h2, Ext.rep h3⟩) (fun r hr => ?_)
    refine opsT_heq (hs' := [(b2, .cells #[sl bv ov0 nv cv] 25 (0, 0)), (b1, .cells #[.slice none 0 0] 24 (0, 0))]) rfl ?_
    refine kOe 2 6 [(35, .bool true)] [4, 1, 2, 3] [r ≠ 0] hr ?_
    refine tri_cond_true rfl ?_
    refine wr [0] rfl ?_
    refine kSe 1 0 [(8, .bool true)] [] ?_
    refine tri_ret ?_
    refine post_then_ret ?_
    refine post_ret1 (v := .bool true) rfl (.tmp rfl) (fun W hR => ?_)
    exact ⟨rfl, hR.ext⟩
  · refine tri_region (todo := [0, 1, 2, 3, 4, 5, 6, 7, 8, 9, 10]) rfl ?_
    refine kL 0 (.agg #[.slice none 0 0]) ?_
    refine kS 1 0 [(26, sl bv ov0 nv cv)] [25, 4, 1, 2, 3] ?_
    refine opsT_buildSlice (e := 25) (size := 1) (z := .slice none 0 0) [sl bv ov0 nv cv] rfl rfl rfl rfl rfl rfl (by kernel_rfl) (by kernel_rfl) (by kernel_rfl) (by kernel_rfl) (fun b2 => ?_)
    refine opsT_heq (hs' := [(b2, .cells #[sl bv ov0 nv cv] 25 (0, 0)), (b1, .cells #[.slice none 0 0] 24 (0, 0))]) rfl ?_
    refine kC en8 #[.agg #[.slice none 0 0], sl b2 0 1 1] (.bool false) rfl (fun W hR => (smallG0 (cells_one (us := []) (t := 25) hR (List.mem_of_getElem? (i := 0) rfl))).mono fun e w' h => ⟨by rw [h.1, decide_eq_false h1], h.2⟩) ?_ (by kernel_rfl)
    refine kSe 7 1118464 [(35, .bool true)] [4, 1, 2, 3] ?_
    refine tri_cond_true rfl ?_
    refine wr [0] rfl ?_
    refine kSe 1 0 [(8, .bool true)] [] ?_
    refine tri_ret ?_
    refine post_then_ret ?_
    refine post_ret1 (v := .bool true) rfl (.tmp rfl) (fun W hR => ?_)
    exact ⟨rfl, hR.ext⟩
theorem lawNilV {b off n cap : Nat} {c : Nat → Nat → Int} {w : World} {ov pv : Value} (hc : At w b off n c) : Calls Tryz.prog 3 #[.agg #[sl b off n cap], .slice none 0 0, ov, pv] w fun e w' => e = .returned (.bool true) ∧ Ext w w' := by
  refine calls_of (n := 140) Tryz.func3 rfl Tryz.ntmps3 rfl ?_
  refine tri_eq (l' := [(0, .agg #[sl b off n cap]), (1, .slice none 0 0), (2, ov), (3, pv)]) (hs' := []) rfl rfl ?_
  refine wr [0, 1] rfl ?_
  refine kB (.agg #[sl b off n cap]) fun b1 => ?_
  refine kSe 1 0 [] [4, 1, 2, 3] ?_
  refine tri_seq ?_
  refine wr [0, 1] rfl ?_
  refine kC en7 #[] (.bool true) rfl (fun W hR => sane_ W) ?_ (by kernel_rfl)
  refine kSe 1 0 [(24, .bool false)] [4, 1, 2, 3] ?_
  refine tri_cond_false rfl ?_
  refine tri_skip ?_
  refine post_then ?_
  refine tri_seq ?_
  refine tri_seq ?_
  by_cases h1 : n ≤ 5 ∧ 0 ≤ 60
  · refine tri_region (todo := [0, 1, 2, 3, 4, 5, 6, 7, 8, 9, 10]) rfl ?_
    refine kL 0 (.agg #[sl b off n cap]) ?_
    refine kS 1 0 [(26, .slice none 0 0)] [25, 4, 1, 2, 3] ?_
    refine opsT_buildSlice (e := 25) (size := 1) (z := .slice none 0 0) [.slice none 0 0] rfl rfl rfl rfl rfl rfl (by kernel_rfl) (by kernel_rfl) (by kernel_rfl) (by kernel_rfl) (fun b2 => ?_)
    refine opsT_heq (hs' := [(b2, .cells #[.slice none 0 0] 25 (0, 0)), (b1, .cells #[sl b off n cap] 24 (0, 0))]) rfl ?_
    refine kC en8 #[.agg #[sl b off n cap], sl b2 0 1 1] (.bool true) rfl (fun W hR => (smallNil (cells_one (us := []) (t := 25) hR (List.mem_of_getElem? (i := 0) rfl))).mono fun e w' h => ⟨by rw [h.1, decide_eq_true h1], h.2⟩) ?_ (by kernel_rfl)
    refine kS 2 0 [(30, .bool false)] [4, 1, 2, 3] ?_
    refine kL 1 (.agg #[sl b off n cap]) ?_
    refine kS 1 0 [(32, .slice none 0 0)] [31, 30, 4, 1, 2, 3] ?_
    refine opsT_callR (f := 9) (args := #[.agg #[sl b off n cap], .slice none 0 0]) [] ([(b2, .cells #[.slice none 0 0] 25 (0, 0)), (b1, .cells #[sl b off n cap] 24 (0, 0))]) (fun r => .int .i64 r) (fun _ => []) (fun r => r ≠ 0) rfl rfl rfl rfl rfl (run_call en9 rfl rfl rfl (by kernel_rfl)) (List.Perm.refl _) (fun W hR => (check9NilV (hc.rep hR (by simp)) (by have := h1.1; omega)).mono fun e w' ⟨r, h1, h2, h3⟩ => ⟨r, h1, h2, Ext.rep h3⟩) (fun r hr => ?_)
    refine opsT_heq (hs' := [(b2, .cells #[.slice none 0 0] 25 (0, 0)), (b1, .cells #[sl b off n cap] 24 (0, 0))]) rfl ?_
    refine kOe 2 6 [(35, .bool true)] [4, 1, 2, 3] [r ≠ 0] hr ?_
    refine tri_cond_true rfl ?_
    refine wr [0] rfl ?_
    refine kSe 1 0 [(8, .bool true)] [] ?_
    refine tri_ret ?_
    refine post_then_ret ?_
    refine post_ret1 (v := .bool true) rfl (.tmp rfl) (fun W hR => ?_)
    exact ⟨rfl, hR.ext⟩
  · refine tri_region (todo := [0, 1, 2, 3, 4, 5, 6, 7, 8, 9, 10]) rfl ?_
    refine kL 0 (.agg #[sl b off n cap]) ?_
    refine kS 1 0 [(26, .slice none 0 0)] [25, 4, 1, 2, 3] ?_
    refine opsT_buildSlice (e := 25) (size := 1) (z := .slice none 0 0) [.slice none 0 0] rfl rfl rfl rfl rfl rfl (by kernel_rfl) (by kernel_rfl) (by kernel_rfl) (by kernel_rfl) (fun b2 => ?_)
    refine opsT_heq (hs' := [(b2, .cells #[.slice none 0 0] 25 (0, 0)), (b1, .cells #[sl b off n cap] 24 (0, 0))]) rfl ?_
    refine kC en8 #[.agg #[sl b off n cap], sl b2 0 1 1] (.bool false) rfl (fun W hR => (smallNil (cells_one (us := []) (t := 25) hR (List.mem_of_getElem? (i := 0) rfl))).mono fun e w' h => ⟨by rw [h.1, decide_eq_false h1], h.2⟩) ?_ (by kernel_rfl)
    refine kSe 7 1118464 [(35, .bool true)] [4, 1, 2, 3] ?_
    refine tri_cond_true rfl ?_
    refine wr [0] rfl ?_
    refine kSe 1 0 [(8, .bool true)] [] ?_
    refine tri_ret ?_
    refine post_then_ret ?_
    refine post_ret1 (v := .bool true) rfl (.tmp rfl) (fun W hR => ?_)
    exact ⟨rfl, hR.ext⟩
theorem lawNilGV (w : World) (ov pv : Value) : Calls Tryz.prog 3 #[.agg #[.slice none 0 0], .slice none 0 0, ov, pv] w fun e w' => e = .returned (.bool true) ∧ Ext w w' := by
  refine calls_of (n := 140) Tryz.func3 rfl Tryz.ntmps3 rfl ?_
  refine tri_eq (l' := [(0, .agg #[.slice none 0 0]), (1, .slice none 0 0), (2, ov), (3, pv)]) (hs' := []) rfl rfl ?_
  refine wr [0, 1] rfl ?_
  refine kB (.agg #[.slice none 0 0]) fun b1 => ?_
  refine kSe 1 0 [] [4, 1, 2, 3] ?_
  refine tri_seq ?_
  refine wr [0, 1] rfl ?_
  refine kC en7 #[] (.bool true) rfl (fun W hR => sane_ W) ?_ (by kernel_rfl)
  refine kSe 1 0 [(24, .bool false)] [4, 1, 2, 3] ?_
  refine tri_cond_false rfl ?_
  refine tri_skip ?_
  refine post_then ?_
  refine tri_seq ?_
  refine tri_seq ?_
  by_cases h1 : 0 ≤ 5 ∧ 0 ≤ 60
  · refine tri_region (todo := [0, 1, 2, 3, 4, 5, 6, 7, 8, 9, 10]) rfl ?_
    refine kL 0 (.agg #[.slice none 0 0]) ?_
    refine kS 1 0 [(26, .slice none 0 0)] [25, 4, 1, 2, 3] ?_
    refine opsT_buildSlice (e := 25) (size := 1) (z := .slice none 0 0) [.slice none 0 0] rfl rfl rfl rfl rfl rfl (by kernel_rfl) (by kernel_rfl) (by kernel_rfl) (by kernel_rfl) (fun b2 => ?_)
    refine opsT_heq (hs' := [(b2, .cells #[.slice none 0 0] 25 (0, 0)), (b1, .cells #[.slice none 0 0] 24 (0, 0))]) rfl ?_
    refine kC en8 #[.agg #[.slice none 0 0], sl b2 0 1 1] (.bool true) rfl (fun W hR => (smallNilG0 (cells_one (us := []) (t := 25) hR (List.mem_of_getElem? (i := 0) rfl))).mono fun e w' h => ⟨by rw [h.1, decide_eq_true h1], h.2⟩) ?_ (by kernel_rfl)
    refine kS 2 0 [(30, .bool false)] [4, 1, 2, 3] ?_
    refine kL 1 (.agg #[.slice none 0 0]) ?_
    refine kS 1 0 [(32, .slice none 0 0)] [31, 30, 4, 1, 2, 3] ?_
    refine opsT_callR (f := 9) (args := #[.agg #[.slice none 0 0], .slice none 0 0]) [] ([(b2, .cells #[.slice none 0 0] 25 (0, 0)), (b1, .cells #[.slice none 0 0] 24 (0, 0))]) (fun r => .int .i64 r) (fun _ => []) (fun r => r ≠ 0) rfl rfl rfl rfl rfl (run_call en9 rfl rfl rfl (by kernel_rfl)) (List.Perm.refl _) (fun W hR => (check9NilGV W).mono fun e w' ⟨r, h1, h2, h3⟩ => ⟨r, h1, h2, Ext.rep h3⟩) (fun r hr => ?_)
    refine opsT_heq (hs' := [(b2, .cells #[.slice none 0 0] 25 (0, 0)), (b1, .cells #[.slice none 0 0] 24 (0, 0))]) rfl ?_
    refine kOe 2 6 [(35, .bool true)] [4, 1, 2, 3] [r ≠ 0] hr ?_
    refine tri_cond_true rfl ?_
    refine wr [0] rfl ?_
    refine kSe 1 0 [(8, .bool true)] [] ?_
    refine tri_ret ?_
    refine post_then_ret ?_
    refine post_ret1 (v := .bool true) rfl (.tmp rfl) (fun W hR => ?_)
    exact ⟨rfl, hR.ext⟩
  · refine tri_region (todo := [0, 1, 2, 3, 4, 5, 6, 7, 8, 9, 10]) rfl ?_
    refine kL 0 (.agg #[.slice none 0 0]) ?_
    refine kS 1 0 [(26, .slice none 0 0)] [25, 4, 1, 2, 3] ?_
    refine opsT_buildSlice (e := 25) (size := 1) (z := .slice none 0 0) [.slice none 0 0] rfl rfl rfl rfl rfl rfl (by kernel_rfl) (by kernel_rfl) (by kernel_rfl) (by kernel_rfl) (fun b2 => ?_)
    refine opsT_heq (hs' := [(b2, .cells #[.slice none 0 0] 25 (0, 0)), (b1, .cells #[.slice none 0 0] 24 (0, 0))]) rfl ?_
    refine kC en8 #[.agg #[.slice none 0 0], sl b2 0 1 1] (.bool false) rfl (fun W hR => (smallNilG0 (cells_one (us := []) (t := 25) hR (List.mem_of_getElem? (i := 0) rfl))).mono fun e w' h => ⟨by rw [h.1, decide_eq_false h1], h.2⟩) ?_ (by kernel_rfl)
    refine kSe 7 1118464 [(35, .bool true)] [4, 1, 2, 3] ?_
    refine tri_cond_true rfl ?_
    refine wr [0] rfl ?_
    refine kSe 1 0 [(8, .bool true)] [] ?_
    refine tri_ret ?_
    refine post_then_ret ?_
    refine post_ret1 (v := .bool true) rfl (.tmp rfl) (fun W hR => ?_)
    exact ⟨rfl, hR.ext⟩
theorem lawNilO {b off n cap bv ov nv cv : Nat} {pv : Value} {c : Nat → Nat → Int} {v : Nat → Int} {w : World} (hc : At w b off n c) (hv : AtV w bv ov nv v) (hcv : nv ≤ cv) : Calls Tryz.prog 3 #[.agg #[sl b off n cap], sl bv ov nv cv, .slice none 0 0, pv] w fun e w' => e = .returned (.bool true) ∧ Ext w w' := by
  refine calls_of (n := 140) Tryz.func3 rfl Tryz.ntmps3 rfl ?_
  refine tri_eq (l' := [(0, .agg #[sl b off n cap]), (1, sl bv ov nv cv), (2, .slice none 0 0), (3, pv)]) (hs' := []) rfl rfl ?_
  refine wr [0, 1] rfl ?_
  refine kB (.agg #[sl b off n cap]) fun b1 => ?_
  refine kSe 1 0 [] [4, 1, 2, 3] ?_
  refine tri_seq ?_
  refine wr [0, 1] rfl ?_
  refine kC en7 #[] (.bool true) rfl (fun W hR => sane_ W) ?_ (by kernel_rfl)
  refine kSe 1 0 [(24, .bool false)] [4, 1, 2, 3] ?_
  refine tri_cond_false rfl ?_
  refine tri_skip ?_
  refine post_then ?_
  refine tri_seq ?_
  refine tri_seq ?_
  by_cases h1 : n ≤ 5 ∧ nv ≤ 60
  · refine tri_region (todo := [0, 1, 2, 3, 4, 5, 6, 7, 8, 9, 10]) rfl ?_
    refine kL 0 (.agg #[sl b off n cap]) ?_
    refine kS 1 0 [(26, sl bv ov nv cv)] [25, 4, 1, 2, 3] ?_
    refine opsT_buildSlice (e := 25) (size := 1) (z := .slice none 0 0) [sl bv ov nv cv] rfl rfl rfl rfl rfl rfl (by kernel_rfl) (by kernel_rfl) (by kernel_rfl) (by kernel_rfl) (fun b2 => ?_)
    refine opsT_heq (hs' := [(b2, .cells #[sl bv ov nv cv] 25 (0, 0)), (b1, .cells #[sl b off n cap] 24 (0, 0))]) rfl ?_
    refine kC en8 #[.agg #[sl b off n cap], sl b2 0 1 1] (.bool true) rfl (fun W hR => (small (cells_one (us := []) (t := 25) hR (List.mem_of_getElem? (i := 0) rfl))).mono fun e w' h => ⟨by rw [h.1, decide_eq_true h1], h.2⟩) ?_ (by kernel_rfl)
    refine kS 2 0 [(30, .bool false)] [4, 1, 2, 3] ?_
    refine kL 1 (.agg #[sl b off n cap]) ?_
    refine kS 1 0 [(32, sl bv ov nv cv)] [31, 30, 4, 1, 2, 3] ?_
    have hn : n ≤ 1000000000 := by have := h1.1; omega
    have hnv : nv ≤ 1000000000000 := by have := h1.2; omega
    refine opsT_callR (f := 9) (args := #[.agg #[sl b off n cap], sl bv ov nv cv]) [] ([(b2, .cells #[sl bv ov nv cv] 25 (0, 0)), (b1, .cells #[sl b off n cap] 24 (0, 0))]) (fun r => .int .i64 r) (fun _ => []) (fun r => ChkR n c nv v r) rfl rfl rfl rfl rfl (run_call en9 rfl rfl rfl (by kernel_rfl)) (List.Perm.refl _) (fun W hR => (check9 (hc.rep hR (by simp)) (hv.rep hR (by simp)) hcv hnv hn).mono fun e w' ⟨r, h1, h2, h3⟩ => ⟨r, h1, h2, Ext.rep h3⟩) (fun r q => ?_)
    refine opsT_heq (hs' := [(b2, .cells #[sl bv ov nv cv] 25 (0, 0)), (b1, .cells #[sl b off n cap] 24 (0, 0))]) rfl ?_
    refine kSe 2 5 [(35, .bool (!decide (r = 0)))] [4, 1, 2, 3] ?_
    refine tri_cond (b := !decide (r = 0)) rfl (fun h2 => ?_) (fun h2 => ?_)
    · simp only [Bool.not_eq_true', decide_eq_false_iff_not] at h2
      refine wr [0] rfl ?_
      refine kSe 1 0 [(8, .bool true)] [] ?_
      refine tri_ret ?_
      refine post_then_ret ?_
      refine post_ret1 (v := .bool true) rfl (.tmp rfl) (fun W hR => ?_)
      exact ⟨rfl, hR.ext⟩
    · simp only [Bool.not_eq_false', decide_eq_true_eq] at h2
      refine tri_skip ?_
      refine post_then ?_
      refine wr [0, 1, 2, 3, 4, 5, 6, 7, 8, 9] rfl ?_
      refine kL 1 (.agg #[sl b off n cap]) ?_
      refine kS 2 0 [(39, pv), (38, .slice none 0 0)] [37, 4, 1, 2, 3] ?_
      obtain ⟨hg, hn60, hH⟩ : GlueOK n c ∧ n ≤ 60 ∧ Holds n c nv v := by rcases q with ⟨q, _⟩ | ⟨q, _⟩ | ⟨q, _⟩ | ⟨_, q1, q2, q3⟩ <;> first | exact ⟨q1, q2, q3⟩ | (exfalso; omega)
      refine opsT_callR (f := 10) (args := #[.agg #[sl b off n cap], .slice none 0 0, pv]) [] ([(b2, .cells #[sl bv ov nv cv] 25 (0, 0)), (b1, .cells #[sl b off n cap] 24 (0, 0))]) (fun r => .tuple #[.agg #[.slice none 0 0], .int .i64 r]) (fun _ => []) (fun r => r ≠ 0) rfl rfl rfl rfl rfl (run_call en10 rfl rfl rfl (by kernel_rfl)) (List.Perm.refl _) (fun W hR => (renumberNilO (hc.rep hR (by simp)) hg hH.pos).mono fun e w' ⟨r, h1, h2, h3⟩ => ⟨r, h1, h2, Ext.rep h3⟩) (fun r2 hr2 => ?_)
      refine opsT_heq (hs' := [(b2, .cells #[sl bv ov nv cv] 25 (0, 0)), (b1, .cells #[sl b off n cap] 24 (0, 0))]) rfl ?_
      refine kS 3 0 [(42, ii r2), (41, .agg #[.slice none 0 0])] [4, 1, 2, 3] ?_
      refine kA (.agg #[.slice none 0 0]) fun b3 => ?_
      refine kW 0 #[.slice none 0 0] ?_
      refine kSe 1 0 [(10, ii r2)] [9, 4, 1, 2, 3] ?_
      refine tri_seq ?_
      refine wr [0, 1] rfl ?_
      refine kOe 2 96 [(44, .bool true)] [9, 4, 1, 2, 3] [r2 ≠ 0] hr2 ?_
      refine tri_cond_true rfl ?_
      refine wr [0] rfl ?_
      refine kSe 1 0 [(8, .bool true)] [] ?_
      refine tri_ret ?_
      refine post_then_ret ?_
      refine post_ret1 (v := .bool true) rfl (.tmp rfl) (fun W hR => ?_)
      exact ⟨rfl, hR.ext⟩
  · refine tri_region (todo := [0, 1, 2, 3, 4, 5, 6, 7, 8, 9, 10]) rfl ?_
    refine kL 0 (.agg #[sl b off n cap]) ?_
    refine kS 1 0 [(26, sl bv ov nv cv)] [25, 4, 1, 2, 3] ?_
    refine opsT_buildSlice (e := 25) (size := 1) (z := .slice none 0 0) [sl bv ov nv cv] rfl rfl rfl rfl rfl rfl (by kernel_rfl) (by kernel_rfl) (by kernel_rfl) (by kernel_rfl) (fun b2 => ?_)
    refine opsT_heq (hs' := [(b2, .cells #[sl bv ov nv cv] 25 (0, 0)), (b1, .cells #[sl b off n cap] 24 (0, 0))]) rfl ?_
    refine kC en8 #[.agg #[sl b off n cap], sl b2 0 1 1] (.bool false) rfl (fun W hR => (small (cells_one (us := []) (t := 25) hR (List.mem_of_getElem? (i := 0) rfl))).mono fun e w' h => ⟨by rw [h.1, decide_eq_false h1], h.2⟩) ?_ (by kernel_rfl)
    refine kSe 7 1118464 [(35, .bool true)] [4, 1, 2, 3] ?_
    refine tri_cond_true rfl ?_
    refine wr [0] rfl ?_
    refine kSe 1 0 [(8, .bool true)] [] ?_
    refine tri_ret ?_
    refine post_then_ret ?_
    refine post_ret1 (v := .bool true) rfl (.tmp rfl) (fun W hR => ?_)
    exact ⟨rfl, hR.ext⟩
theorem lawNilP {b off n cap bv ov nv cv : Nat} {bo oo no co : Nat} {c : Nat → Nat → Int} {v : Nat → Int} {w : World} (hc : At w b off n c) (hv : AtV w bv ov nv v) (hcv : nv ≤ cv) : Calls Tryz.prog 3 #[.agg #[sl b off n cap], sl bv ov nv cv, sl bo oo no co, .slice none 0 0] w fun e w' => e = .returned (.bool true) ∧ Ext w w' := by
  refine calls_of (n := 140) Tryz.func3 rfl Tryz.ntmps3 rfl ?_
  refine tri_eq (l' := [(0, .agg #[sl b off n cap]), (1, sl bv ov nv cv), (2, sl bo oo no co), (3, .slice none 0 0)]) (hs' := []) rfl rfl ?_
  refine wr [0, 1] rfl ?_
  refine kB (.agg #[sl b off n cap]) fun b1 => ?_
  refine kSe 1 0 [] [4, 1, 2, 3] ?_
  refine tri_seq ?_
  refine wr [0, 1] rfl ?_
  refine kC en7 #[] (.bool true) rfl (fun W hR => sane_ W) ?_ (by kernel_rfl)
  refine kSe 1 0 [(24, .bool false)] [4, 1, 2, 3] ?_
  refine tri_cond_false rfl ?_
  refine tri_skip ?_
  refine post_then ?_
  refine tri_seq ?_
  refine tri_seq ?_
  by_cases h1 : n ≤ 5 ∧ nv ≤ 60
  · refine tri_region (todo := [0, 1, 2, 3, 4, 5, 6, 7, 8, 9, 10]) rfl ?_
    refine kL 0 (.agg #[sl b off n cap]) ?_
    refine kS 1 0 [(26, sl bv ov nv cv)] [25, 4, 1, 2, 3] ?_
    refine opsT_buildSlice (e := 25) (size := 1) (z := .slice none 0 0) [sl bv ov nv cv] rfl rfl rfl rfl rfl rfl (by kernel_rfl) (by kernel_rfl) (by kernel_rfl) (by kernel_rfl) (fun b2 => ?_)
    refine opsT_heq (hs' := [(b2, .cells #[sl bv ov nv cv] 25 (0, 0)), (b1, .cells #[sl b off n cap] 24 (0, 0))]) rfl ?_
    refine kC en8 #[.agg #[sl b off n cap], sl b2 0 1 1] (.bool true) rfl (fun W hR => (small (cells_one (us := []) (t := 25) hR (List.mem_of_getElem? (i := 0) rfl))).mono fun e w' h => ⟨by rw [h.1, decide_eq_true h1], h.2⟩) ?_ (by kernel_rfl)
    refine kS 2 0 [(30, .bool false)] [4, 1, 2, 3] ?_
    refine kL 1 (.agg #[sl b off n cap]) ?_
    refine kS 1 0 [(32, sl bv ov nv cv)] [31, 30, 4, 1, 2, 3] ?_
    have hn : n ≤ 1000000000 := by have := h1.1; omega
    have hnv : nv ≤ 1000000000000 := by have := h1.2; omega
    refine opsT_callR (f := 9) (args := #[.agg #[sl b off n cap], sl bv ov nv cv]) [] ([(b2, .cells #[sl bv ov nv cv] 25 (0, 0)), (b1, .cells #[sl b off n cap] 24 (0, 0))]) (fun r => .int .i64 r) (fun _ => []) (fun r => ChkR n c nv v r) rfl rfl rfl rfl rfl (run_call en9 rfl rfl rfl (by kernel_rfl)) (List.Perm.refl _) (fun W hR => (check9 (hc.rep hR (by simp)) (hv.rep hR (by simp)) hcv hnv hn).mono fun e w' ⟨r, h1, h2, h3⟩ => ⟨r, h1, h2, Ext.rep h3⟩) (fun r q => ?_)
    refine opsT_heq (hs' := [(b2, .cells #[sl bv ov nv cv] 25 (0, 0)), (b1, .cells #[sl b off n cap] 24 (0, 0))]) rfl ?_
    refine kSe 2 5 [(35, .bool (!decide (r = 0)))] [4, 1, 2, 3] ?_
    refine tri_cond (b := !decide (r = 0)) rfl (fun h2 => ?_) (fun h2 => ?_)
    · simp only [Bool.not_eq_true', decide_eq_false_iff_not] at h2
      refine wr [0] rfl ?_
      refine kSe 1 0 [(8, .bool true)] [] ?_
      refine tri_ret ?_
      refine post_then_ret ?_
      refine post_ret1 (v := .bool true) rfl (.tmp rfl) (fun W hR => ?_)
      exact ⟨rfl, hR.ext⟩
    · simp only [Bool.not_eq_false', decide_eq_true_eq] at h2
      refine tri_skip ?_
      refine post_then ?_
      refine wr [0, 1, 2, 3, 4, 5, 6, 7, 8, 9] rfl ?_
      refine kL 1 (.agg #[sl b off n cap]) ?_
      refine kS 2 0 [(39, .slice none 0 0), (38, sl bo oo no co)] [37, 4, 1, 2, 3] ?_
      obtain ⟨hg, hn60, hH⟩ : GlueOK n c ∧ n ≤ 60 ∧ Holds n c nv v := by rcases q with ⟨q, _⟩ | ⟨q, _⟩ | ⟨q, _⟩ | ⟨_, q1, q2, q3⟩ <;> first | exact ⟨q1, q2, q3⟩ | (exfalso; omega)
      refine opsT_callR (f := 10) (args := #[.agg #[sl b off n cap], sl bo oo no co, .slice none 0 0]) [] ([(b2, .cells #[sl bv ov nv cv] 25 (0, 0)), (b1, .cells #[sl b off n cap] 24 (0, 0))]) (fun r => .tuple #[.agg #[.slice none 0 0], .int .i64 r]) (fun _ => []) (fun r => r ≠ 0) rfl rfl rfl rfl rfl (run_call en10 rfl rfl rfl (by kernel_rfl)) (List.Perm.refl _) (fun W hR => (renumberNilP (hc.rep hR (by simp)) hg hH.pos).mono fun e w' ⟨r, h1, h2, h3⟩ => ⟨r, h1, h2, Ext.rep h3⟩) (fun r2 hr2 => ?_)
      refine opsT_heq (hs' := [(b2, .cells #[sl bv ov nv cv] 25 (0, 0)), (b1, .cells #[sl b off n cap] 24 (0, 0))]) rfl ?_
      refine kS 3 0 [(42, ii r2), (41, .agg #[.slice none 0 0])] [4, 1, 2, 3] ?_
      refine kA (.agg #[.slice none 0 0]) fun b3 => ?_
      refine kW 0 #[.slice none 0 0] ?_
      refine kSe 1 0 [(10, ii r2)] [9, 4, 1, 2, 3] ?_
      refine tri_seq ?_
      refine wr [0, 1] rfl ?_
      refine kOe 2 96 [(44, .bool true)] [9, 4, 1, 2, 3] [r2 ≠ 0] hr2 ?_
      refine tri_cond_true rfl ?_
      refine wr [0] rfl ?_
      refine kSe 1 0 [(8, .bool true)] [] ?_
      refine tri_ret ?_
      refine post_then_ret ?_
      refine post_ret1 (v := .bool true) rfl (.tmp rfl) (fun W hR => ?_)
      exact ⟨rfl, hR.ext⟩
  · refine tri_region (todo := [0, 1, 2, 3, 4, 5, 6, 7, 8, 9, 10]) rfl ?_
    refine kL 0 (.agg #[sl b off n cap]) ?_
    refine kS 1 0 [(26, sl bv ov nv cv)] [25, 4, 1, 2, 3] ?_
    refine opsT_buildSlice (e := 25) (size := 1) (z := .slice none 0 0) [sl bv ov nv cv] rfl rfl rfl rfl rfl rfl (by kernel_rfl) (by kernel_rfl) (by kernel_rfl) (by kernel_rfl) (fun b2 => ?_)
    refine opsT_heq (hs' := [(b2, .cells #[sl bv ov nv cv] 25 (0, 0)), (b1, .cells #[sl b off n cap] 24 (0, 0))]) rfl ?_
    refine kC en8 #[.agg #[sl b off n cap], sl b2 0 1 1] (.bool false) rfl (fun W hR => (small (cells_one (us := []) (t := 25) hR (List.mem_of_getElem? (i := 0) rfl))).mono fun e w' h => ⟨by rw [h.1, decide_eq_false h1], h.2⟩) ?_ (by kernel_rfl)
    refine kSe 7 1118464 [(35, .bool true)] [4, 1, 2, 3] ?_
    refine tri_cond_true rfl ?_
    refine wr [0] rfl ?_
    refine kSe 1 0 [(8, .bool true)] [] ?_
    refine tri_ret ?_
    refine post_then_ret ?_
    refine post_ret1 (v := .bool true) rfl (.tmp rfl) (fun W hR => ?_)
    exact ⟨rfl, hR.ext⟩
end Go.Proofs.YtlkbokbcfajhjaaGreat
