/- G12: Check -/
import Derived.Test.YtlkbokbcfajhjaaGreatG11
import Derived.Test.YtlkbokbcfajhjaaGreatB17
import Derived.Test.YtlkbokbcfajhjaaGreatD1
namespace Go.Proofs.YtlkbokbcfajhjaaGreat
open Go.Proofs.Walk
set_option maxRecDepth 100000
set_option linter.unusedVariables false
set_option linter.unusedSimpArgs false

theorem Ext.rep {w w' : World} (h : Ext w w') : Rep w [] [] w' := ⟨h.size, fun b hb _ => h.same b hb, fun _ _ h => by simp at h, fun _ _ h => by simp at h, by simp, h.calm⟩
theorem refused_ {b off n cap : Nat} {c : Nat → Nat → Int} {w : World} (hc : At w b off n c) (hn : n ≤ 1000000000) : Calls Tryz.prog 88 #[.agg #[sl b off n cap]] w fun e w' => ∃ r : Int, RefR n c r ∧ e = .returned (.int .i64 r) ∧ Ext w w' := by
  refine calls_of (n := 12) Tryz.func88 rfl Tryz.ntmps88 rfl ?_
  refine tri_eq (l' := [(0, .agg #[sl b off n cap])]) (hs' := []) rfl rfl ?_
  refine wr [0, 1] rfl ?_
  refine kB (.agg #[sl b off n cap]) fun b1 => ?_
  refine kSe 1 0 [] [1] ?_
  refine tri_seq ?_
  refine tri_block ?_
  refine wr [0, 1, 2, 3] rfl ?_
  refine kL 0 (.agg #[sl b off n cap]) ?_
  refine opsT_callR (f := 43) (args := #[.agg #[sl b off n cap]]) [] [(b1, .cells #[sl b off n cap] 24 (0, 0))] (fun r => ii r) (fun _ => []) (fun r => (r = 0 ∧ GlueOK n c) ∨ (r = 7 ∧ ¬ GlueOK n c)) rfl rfl rfl rfl rfl (run_call en43 rfl rfl rfl (by kernel_rfl)) (List.Perm.refl _) (fun W hR => (check (hc.rep hR (by simp))).mono fun e w' ⟨r, h1, h2, h3⟩ => ⟨r, h1, h2, Ext.rep h3⟩) (fun r1 q1 => ?_)
  refine opsT_heq (hs' := [(b1, .cells #[sl b off n cap] 24 (0, 0))]) rfl ?_
  refine kSe 2 5 [(3, .bool (!decide (r1 = 0)))] [1] ?_
  refine tri_cond (b := !decide (r1 = 0)) rfl (fun h1 => ?_) (fun h1 => ?_)
  · simp only [Bool.not_eq_true', decide_eq_false_iff_not] at h1
    refine wr [0] rfl ?_
    refine kSe 1 0 [(2, ii 7)] [] ?_
    refine tri_ret ?_
    refine post_block_ret ?_
    refine post_then_ret ?_
    refine post_ret1 (v := ii 7) rfl (.tmp rfl) (fun W hR => ?_)
    refine ⟨_, ?_, rfl, hR.ext⟩
    rcases q1 with ⟨q1, q2⟩ | ⟨q1, q2⟩ <;> first | exact absurd q1 (by omega) | exact .inl ⟨rfl, q2⟩ | exact .inr (.inl ⟨rfl, q2, by omega⟩) | exact .inr (.inr ⟨rfl, q2, by omega⟩)
  · simp only [Bool.not_eq_false', decide_eq_true_eq] at h1
    refine wr [0, 1, 2, 3, 4] rfl ?_
    refine kS 1 0 [(8, pt b1 0)] [] ?_
    refine kL 0 (sl b off n cap) ?_
    refine kSe 3 80 [(7, .bool (decide (60 < ((n : Nat) : Int))))] [] ?_
    refine tri_cond_dec (p := 60 < ((n : Nat) : Int)) rfl (fun h2 => ?_) (fun h2 => ?_)
    · refine wr [0] rfl ?_
      refine kSe 1 0 [(2, ii 2)] [] ?_
      refine tri_ret ?_
      refine post_block_ret ?_
      refine post_then_ret ?_
      refine post_ret1 (v := ii 2) rfl (.tmp rfl) (fun W hR => ?_)
      refine ⟨_, ?_, rfl, hR.ext⟩
      rcases q1 with ⟨q1, q2⟩ | ⟨q1, q2⟩ <;> first | exact absurd q1 (by omega) | exact .inl ⟨rfl, q2⟩ | exact .inr (.inl ⟨rfl, q2, by omega⟩) | exact .inr (.inr ⟨rfl, q2, by omega⟩)
    · refine tri_skip ?_
      refine post_block ?_
      refine post_then ?_
      refine wr [0] rfl ?_
      refine kSe 1 0 [(2, ii 0)] [] ?_
      refine tri_ret ?_
      refine post_ret1 (v := ii 0) rfl (.tmp rfl) (fun W hR => ?_)
      refine ⟨_, ?_, rfl, hR.ext⟩
      rcases q1 with ⟨q1, q2⟩ | ⟨q1, q2⟩ <;> first | exact absurd q1 (by omega) | exact .inl ⟨rfl, q2⟩ | exact .inr (.inl ⟨rfl, q2, by omega⟩) | exact .inr (.inr ⟨rfl, q2, by omega⟩)
theorem check42 {b off n cap bv ov nv cv : Nat} {c : Nat → Nat → Int} {v : Nat → Int} {w : World} (hc : At w b off n c) (hv : AtV w bv ov nv v) (hcv : nv ≤ cv) (hnv : nv ≤ 1000000000000) (hn : n ≤ 1000000000) : Calls Tryz.prog 42 #[.agg #[sl b off n cap], sl bv ov nv cv] w fun e w' => ∃ r : Int, ChkR n c nv v r ∧ e = .returned (.int .i64 r) ∧ Ext w w' := by
  refine calls_of (n := 15) Tryz.func42 rfl Tryz.ntmps42 rfl ?_
  refine tri_eq (l' := [(0, .agg #[sl b off n cap]), (1, sl bv ov nv cv)]) (hs' := []) rfl rfl ?_
  refine wr [0, 1] rfl ?_
  refine kB (.agg #[sl b off n cap]) fun b1 => ?_
  refine kSe 1 0 [] [2, 1] ?_
  refine tri_seq ?_
  refine wr [0, 1, 2] rfl ?_
  refine kL 0 (.agg #[sl b off n cap]) ?_
  refine opsT_callR (f := 88) (args := #[.agg #[sl b off n cap]]) [] [(b1, .cells #[sl b off n cap] 24 (0, 0))] (fun r => ii r) (fun _ => []) (fun r => RefR n c r) rfl rfl rfl rfl rfl (run_call en88 rfl rfl rfl (by kernel_rfl)) (List.Perm.refl _) (fun W hR => (refused_ (hc.rep hR (by simp)) hn).mono fun e w' ⟨r, h1, h2, h3⟩ => ⟨r, h1, h2, Ext.rep h3⟩) (fun r1 q1 => ?_)
  refine opsT_heq (hs' := [(b1, .cells #[sl b off n cap] 24 (0, 0))]) rfl ?_
  refine kSn 1 0 [(5, ii r1)] [2, 1] [0, 1] ?_
  refine kSe 2 80 [(9, .bool (!decide (r1 = 0)))] [5, 2, 1] ?_
  refine tri_cond (b := !decide (r1 = 0)) rfl (fun h1 => ?_) (fun h1 => ?_)
  · simp only [Bool.not_eq_true', decide_eq_false_iff_not] at h1
    refine wr [0, 1] rfl ?_
    refine kSe 2 0 [(4, ii r1)] [] ?_
    refine tri_ret ?_
    refine post_then_ret ?_
    refine post_ret1 (v := ii r1) rfl (.tmp rfl) (fun W hR => ?_)
    refine ⟨_, ?_, rfl, hR.ext⟩
    rcases q1 with q | q | q
    · exact .inl q
    · exact .inr (.inl q)
    · omega
  · simp only [Bool.not_eq_false', decide_eq_true_eq] at h1
    refine tri_skip ?_
    refine post_then ?_
    refine tri_seq ?_
    refine wr [0, 1, 2, 3] rfl ?_
    refine kL 0 (.agg #[sl b off n cap]) ?_
    refine kS 1 0 [(12, sl bv ov nv cv)] [11] ?_
    obtain ⟨hg, hn60⟩ : GlueOK n c ∧ n ≤ 60 := by rcases q1 with q | q | q <;> first | exact q.2 | (exfalso; omega)
    refine opsT_callR (f := 90) (args := #[.agg #[sl b off n cap], sl bv ov nv cv]) [] [(b1, .cells #[sl b off n cap] 24 (0, 0))] (fun r => .bool r) (fun _ => []) (fun r => (r = true ↔ Holds n c nv v)) rfl rfl rfl rfl rfl (run_call en90 rfl rfl rfl (by kernel_rfl)) (List.Perm.refl _) (fun W hR => (holds_ (hc.rep hR (by simp)) (hv.rep hR (by simp)) hcv hnv hg hn60).mono fun e w' ⟨r, h1, h2, h3⟩ => ⟨r, h1, h2, Ext.rep h3⟩) (fun r2 qh1 => ?_)
    refine opsT_heq (hs' := [(b1, .cells #[sl b off n cap] 24 (0, 0))]) rfl ?_
    refine kSe 1 0 [(14, .bool (!r2))] [] ?_
    refine tri_cond (b := !r2) rfl (fun h2 => ?_) (fun h2 => ?_)
    · refine wr [0] rfl ?_
      refine kSe 1 0 [(4, ii 200)] [] ?_
      refine tri_ret ?_
      refine post_then_ret ?_
      refine post_ret1 (v := ii 200) rfl (.tmp rfl) (fun W hR => ?_)
      exact ⟨200, .inr (.inr (.inl ⟨rfl, hg, hn60, fun h => by simp [qh1.2 h] at *⟩)), rfl, hR.ext⟩
    · refine tri_skip ?_
      refine post_then ?_
      refine wr [0] rfl ?_
      refine kSe 1 0 [(4, ii 0)] [] ?_
      refine tri_ret ?_
      refine post_ret1 (v := ii 0) rfl (.tmp rfl) (fun W hR => ?_)
      exact ⟨0, .inr (.inr (.inr ⟨rfl, hg, hn60, qh1.1 (by simpa using h2)⟩)), rfl, hR.ext⟩
theorem check9 {b off n cap bv ov nv cv : Nat} {c : Nat → Nat → Int} {v : Nat → Int} {w : World} (hc : At w b off n c) (hv : AtV w bv ov nv v) (hcv : nv ≤ cv) (hnv : nv ≤ 1000000000000) (hn : n ≤ 1000000000) : Calls Tryz.prog 9 #[.agg #[sl b off n cap], sl bv ov nv cv] w fun e w' => ∃ r : Int, ChkR n c nv v r ∧ e = .returned (.int .i64 r) ∧ Ext w w' := by
  refine calls_of (n := 8) Tryz.func9 rfl Tryz.ntmps9 rfl ?_
  refine tri_eq (l' := [(0, .agg #[sl b off n cap]), (1, sl bv ov nv cv)]) (hs' := []) rfl rfl ?_
  refine wr [0, 1] rfl ?_
  refine kB (.agg #[sl b off n cap]) fun b1 => ?_
  refine kSn 1 0 [] [2, 1] [0, 1, 2, 3] ?_
  refine kL 0 (.agg #[sl b off n cap]) ?_
  refine kS 1 0 [(6, sl bv ov nv cv)] [5] ?_
  refine opsT_callR (f := 42) (args := #[.agg #[sl b off n cap], sl bv ov nv cv]) [] [(b1, .cells #[sl b off n cap] 24 (0, 0))] (fun r => ii r) (fun _ => []) (fun r => ChkR n c nv v r) rfl rfl rfl rfl rfl (run_call en42 rfl rfl rfl (by kernel_rfl)) (List.Perm.refl _) (fun W hR => (check42 (hc.rep hR (by simp)) (hv.rep hR (by simp)) hcv hnv hn).mono fun e w' ⟨r, h1, h2, h3⟩ => ⟨r, h1, h2, Ext.rep h3⟩) (fun r1 q1 => ?_)
  refine opsT_heq (hs' := [(b1, .cells #[sl b off n cap] 24 (0, 0))]) rfl ?_
  refine kSe 1 0 [(4, ii r1)] [] ?_
  refine tri_ret ?_
  refine post_ret1 (v := ii r1) rfl (.tmp rfl) (fun W hR => ?_)
  exact ⟨_, q1, rfl, hR.ext⟩
end Go.Proofs.YtlkbokbcfajhjaaGreat
