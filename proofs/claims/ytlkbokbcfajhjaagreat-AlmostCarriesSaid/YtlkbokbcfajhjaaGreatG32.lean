/- G32: nil slices -/
import Derived.Test.YtlkbokbcfajhjaaGreatG31
import Derived.Test.YtlkbokbcfajhjaaGreatB17
import Derived.Test.YtlkbokbcfajhjaaGreatD1
namespace Go.Proofs.YtlkbokbcfajhjaaGreat
open Go.Proofs.Walk
set_option maxRecDepth 100000
set_option linter.unusedVariables false
set_option linter.unusedSimpArgs false

theorem faces_iterNil {bg : Nat} {W0 : World} {M : List Nat} : Iter Tryz.prog 166 #[.pointer (some ⟨bg, 0, none⟩)] [(bg, .cells #[.slice none 0 0] 24 (0, 0))] 0 (fun _ => #[.int .i64 0, .int .i64 0]) W0 M := by
  refine ⟨fun β H I Ix yv hy x₀ hI own W hR => ?_⟩
  refine calls_iter (H := H) (z := x₀) (capt := [(bg, .cells #[.slice none 0 0] 24 (0, 0))]) (own := own) Tryz.func166 rfl Tryz.ntmps166 rfl hR ?_
  refine tri_eq (l' := [(0, yv), (1, pt bg 0)]) (hs' := (bg, .cells #[.slice none 0 0] 24 (0, 0)) :: (H x₀ ++ own)) rfl rfl ?_
  refine wr [0, 1, 2, 3] rfl ?_
  refine kS 1 0 [(6, pt bg 0)] [0, 1] ?_
  refine kL 0 (.slice none 0 0) ?_
  refine kSe 2 0 [(9, ii 0), (8, ii 0)] [0, 1] ?_
  refine tri_block ?_
  refine tri_rounds 0 ?_
  refine wr [0] rfl ?_
  refine kSe 1 0 [(10, .bool false)] [9, 8, 0, 1] ?_
  refine tri_seq ?_
  refine tri_cond_false rfl ?_
  refine tri_exit ?_
  refine post_then_exit ?_
  refine post_more_exit ?_
  refine post_block_hit ?_
  refine post_end0 rfl (fun W hR => ?_)
  exact ⟨rfl, .inl ⟨x₀, hI, (Rep.back (capt := [(bg, .cells #[.slice none 0 0] 24 (0, 0))]) (hR.forget (List.Sublist.refl _)))⟩⟩
theorem facesNil_ (w : World) : Calls Tryz.prog 92 #[.agg #[.slice none 0 0]] w fun e w' => ∃ bg : Nat, True ∧ e = .returned (.func (.func 166) #[] #[.pointer (some ⟨bg, 0, none⟩)]) ∧ Rep w [] [(bg, .cells #[.slice none 0 0] 24 (0, 0))] w' := by
  refine calls_of (n := 4) Tryz.func92 rfl Tryz.ntmps92 rfl ?_
  refine tri_eq (l' := [(0, .agg #[.slice none 0 0])]) (hs' := []) rfl rfl ?_
  refine wr [0, 1] rfl ?_
  refine kB (.agg #[.slice none 0 0]) fun b1 => ?_
  refine kSn 1 0 [] [1] [0, 1] ?_
  refine kSe 2 0 [(2, .func (.func 166) #[] #[pt b1 0])] [] ?_
  refine tri_ret ?_
  refine post_ret1 (v := .func (.func 166) #[] #[pt b1 0]) rfl (.tmp rfl) (fun W hR => ?_)
  exact ⟨b1, trivial, rfl, hR⟩
theorem checkNil_ (w : World) : Calls Tryz.prog 43 #[.agg #[.slice none 0 0]] w fun e w' => e = .returned (.int .i64 0) ∧ Ext w w' := by
  refine calls_ofMarks (n := 71) Tryz.func43 rfl Tryz.ntmps43 rfl (Rep.refl _) ?_
  refine tri_eq (l' := [(0, .agg #[.slice none 0 0])]) (hs' := []) rfl rfl ?_
  refine wr [0, 1] rfl ?_
  refine kB (.agg #[.slice none 0 0]) fun b1 => ?_
  refine kA (ii 0) fun b2 => ?_
  refine kPe [2, 1] ?_
  refine tri_seq ?_
  refine wr [0, 1, 2, 3] rfl ?_
  refine kS 1 0 [(6, pt b1 0)] [2, 1] ?_
  refine kL 1 (.slice none 0 0) ?_
  refine kSe 2 0 [(9, .bool false)] [2, 1] ?_
  refine tri_cond_false rfl ?_
  refine tri_skip ?_
  refine post_then ?_
  refine wr [0, 1, 2] rfl ?_
  refine kS 1 0 [(10, .agg #[ii (-1), ii 0, ii 0, ii 0, ii 0])] [2, 1] ?_
  refine kA (.agg #[ii 0, ii 0, ii 0, ii 0, ii 0]) fun b3 => ?_
  refine kW 0 #[ii (-1), ii 0, ii 0, ii 0, ii 0] ?_
  refine kPe [3, 2, 1] ?_
  refine tri_seq ?_
  refine wr [0, 1] rfl ?_
  refine kL 2 (.agg #[.slice none 0 0]) ?_
  refine opsT_callR (f := 92) (args := #[.agg #[.slice none 0 0]]) [] ([(b3, .cells #[ii (-1), ii 0, ii 0, ii 0, ii 0] 75 (0, 0)), (b2, .cells #[ii 0] 29 (0, 0)), (b1, .cells #[.slice none 0 0] 24 (0, 0))]) (fun bg : Nat => .func (.func 166) #[] #[.pointer (some ⟨bg, 0, none⟩)]) (fun bg => [(bg, .cells #[.slice none 0 0] 24 (0, 0))]) (fun _ => True) rfl rfl rfl rfl rfl (run_call en92 rfl rfl rfl (by kernel_rfl)) (List.Perm.refl _) (fun W hR => facesNil_ W) (fun bg _ => ?_)
  refine opsT_heq (hs' := [(bg, .cells #[.slice none 0 0] 24 (0, 0)), (b3, .cells #[ii (-1), ii 0, ii 0, ii 0, ii 0] 75 (0, 0)), (b2, .cells #[ii 0] 29 (0, 0)), (b1, .cells #[.slice none 0 0] 24 (0, 0))]) rfl ?_
  refine kPe [12, 3, 2, 1] ?_
  refine tri_block ?_
  refine tri_range (β := Unit) (capt := [(bg, .cells #[.slice none 0 0] 24 (0, 0))]) (own := []) (N := 0) (xs := (fun _ => #[.int .i64 0, .int .i64 0])) (fun xz => [(b3, .cells #[ii (-1), ii 0, ii 0, ii 0, ii 0] 75 (0, 0)), (b2, .cells #[ii 0] 29 (0, 0)), (b1, .cells #[.slice none 0 0] 24 (0, 0))]) (fun k xz => True) (fun cx xz => False) () rfl en166 faces_iterNil (by first | rfl | simp) trivial (fun k hk => rfl) (fun k hk => rfl) ?_ ?_ ?_
  · exact fun k hk => absurd hk (Nat.not_lt_zero _)
  · rintro u hI D1 L1 rc1
    refine post_perm (hs' := [(D1, .deferred (some [])), (L1, .loop rc1), (b3, .cells #[ii (-1), ii 0, ii 0, ii 0, ii 0] 75 (0, 0)), (b2, .cells #[ii 0] 29 (0, 0)), (b1, .cells #[.slice none 0 0] 24 (0, 0)), (bg, .cells #[.slice none 0 0] 24 (0, 0))]) (List.Perm.refl _) ?_
    refine post_block ?_
    refine post_then ?_
    refine wr [0] rfl ?_
    refine kW 3 #[ii 0] ?_
    refine kPe [2] ?_
    refine tri_ret ?_
    refine post_outM ?_
    refine outM_mark 0 rfl ?_
    refine outM_ret1 (v := ii 0) rfl (.cell 3 b2 0 1 #[ii 0] 29 (0, 0) rfl rfl (by kernel_rfl)) (fun W hR => ?_)
    exact ⟨rfl, hR.ext⟩
  · exact fun c x h => h.elim
theorem refusedNil_ (w : World) : Calls Tryz.prog 88 #[.agg #[.slice none 0 0]] w fun e w' => e = .returned (.int .i64 0) ∧ Ext w w' := by
  refine calls_of (n := 12) Tryz.func88 rfl Tryz.ntmps88 rfl ?_
  refine tri_eq (l' := [(0, .agg #[.slice none 0 0])]) (hs' := []) rfl rfl ?_
  refine wr [0, 1] rfl ?_
  refine kB (.agg #[.slice none 0 0]) fun b1 => ?_
  refine kSe 1 0 [] [1] ?_
  refine tri_seq ?_
  refine tri_block ?_
  refine wr [0, 1, 2, 3] rfl ?_
  refine kL 0 (.agg #[.slice none 0 0]) ?_
  refine kC en43 #[.agg #[.slice none 0 0]] (ii 0) rfl (fun W hR => checkNil_ W) ?_ (by kernel_rfl)
  refine kSe 2 0 [(3, .bool false)] [1] ?_
  refine tri_cond_false rfl ?_
  refine wr [0, 1, 2, 3, 4] rfl ?_
  refine kS 1 0 [(8, pt b1 0)] [] ?_
  refine kL 0 (.slice none 0 0) ?_
  refine kSe 3 0 [(7, .bool false)] [] ?_
  refine tri_cond_false rfl ?_
  refine tri_skip ?_
  refine post_block ?_
  refine post_then ?_
  refine wr [0] rfl ?_
  refine kSe 1 0 [(2, ii 0)] [] ?_
  refine tri_ret ?_
  refine post_ret1 (v := ii 0) rfl (.tmp rfl) (fun W hR => ?_)
  exact ⟨rfl, hR.ext⟩
theorem indexNil_ (w : World) : Calls Tryz.prog 186 #[.slice none 0 0, .func (.func 164) #[] #[]] w fun e w' => e = .returned (.int .i64 (-1)) ∧ Ext w w' := by
  refine calls_of (n := 19) Tryz.func186 rfl Tryz.ntmps186 rfl ?_
  refine tri_eq (l' := [(0, .slice none 0 0), (1, .func (.func 164) #[] #[])]) (hs' := []) rfl rfl ?_
  refine wr [0] rfl ?_
  refine kSe 1 0 [] [0, 1] ?_
  refine tri_seq ?_
  refine wr [0, 1, 2] rfl ?_
  refine kSe 3 0 [(8, ii 0), (7, ii 0)] [0, 1] ?_
  refine tri_block ?_
  refine tri_rounds 0 ?_
  refine wr [0] rfl ?_
  refine kSe 1 0 [(9, .bool false)] [8, 7, 0, 1] ?_
  refine tri_seq ?_
  refine tri_cond_false rfl ?_
  refine tri_exit ?_
  refine post_then_exit ?_
  refine post_more_exit ?_
  refine post_block_hit ?_
  refine post_then ?_
  refine wr [0] rfl ?_
  refine kSe 1 0 [(4, ii (-1))] [] ?_
  refine tri_ret ?_
  refine post_ret1 (v := ii (-1)) rfl (.tmp rfl) (fun W hR => ?_)
  exact ⟨rfl, hR.ext⟩
theorem containsNil_ (w : World) : Calls Tryz.prog 126 #[.slice none 0 0, .func (.func 164) #[] #[]] w fun e w' => e = .returned (.bool false) ∧ Ext w w' := by
  refine calls_of (n := 9) Tryz.func126 rfl Tryz.ntmps126 rfl ?_
  refine tri_eq (l' := [(0, .slice none 0 0), (1, .func (.func 164) #[] #[])]) (hs' := []) rfl rfl ?_
  refine wr [0] rfl ?_
  refine kSn 1 0 [] [0, 1] [0, 1, 2, 3, 4] ?_
  refine kS 2 0 [(6, .func (.func 164) #[] #[]), (5, .slice none 0 0)] [] ?_
  refine kC en186 #[.slice none 0 0, .func (.func 164) #[] #[]] (ii (-1)) rfl (fun W hR => indexNil_ W) ?_ (by kernel_rfl)
  refine kSe 2 0 [(4, .bool false)] [] ?_
  refine tri_ret ?_
  refine post_ret1 (v := .bool false) rfl (.tmp rfl) (fun W hR => ?_)
  exact ⟨rfl, hR.ext⟩
theorem holdsNilG {bv ov nv cv : Nat} {v : Nat → Int} {w : World} (hv : AtV w bv ov nv v) (hnv : nv ≤ 1000000000000) : Calls Tryz.prog 90 #[.agg #[.slice none 0 0], sl bv ov nv cv] w fun e w' => e = .returned (.bool false) ∧ Ext w w' := by
  refine calls_ofMarks (n := 73) Tryz.func90 rfl Tryz.ntmps90 rfl (Rep.refl _) ?_
  refine tri_eq (l' := [(0, .agg #[.slice none 0 0]), (1, sl bv ov nv cv)]) (hs' := []) rfl rfl ?_
  refine wr [0, 1, 2] rfl ?_
  refine kB (.agg #[.slice none 0 0]) fun b1 => ?_
  refine kB (sl bv ov nv cv) fun b2 => ?_
  refine kA (.bool false) fun b3 => ?_
  refine kPe [4, 3, 2] ?_
  refine tri_seq ?_
  refine tri_seq ?_
  by_cases h1 : ((nv : Nat) : Int) = 0
  · by_cases h2 : InR nv v
    · refine tri_region (todo := [0, 1, 2, 3, 4, 5, 6, 7, 8, 9, 10]) rfl ?_
      refine kL 1 (sl bv ov nv cv) ?_
      refine kS 2 0 [(12, pt b1 0), (11, ii ((nv : Nat) : Int))] [4, 3, 2] ?_
      refine kL 2 (.slice none 0 0) ?_
      refine kO 4 1792 [(17, .bool false)] [4, 3, 2] [¬ (((nv : Nat) : Int) ≠ 0)] (fun hn => hn h1) ?_
      refine kL 1 (sl bv ov nv cv) ?_
      refine kC en126 #[sl bv ov nv cv, .func (.func 164) #[] #[]] (.bool false) rfl (fun W hR => contains_no (hv.rep hR (by simp)) hnv h2) ?_ (by kernel_rfl)
      refine kSe 1 0 [(20, .bool false)] [4, 3, 2] ?_
      refine tri_cond_false rfl ?_
      refine tri_skip ?_
      refine post_then ?_
      refine wr [0] rfl ?_
      refine kSe 1 0 [(5, ii 0)] [4, 3, 2] ?_
      refine tri_seq ?_
      refine wr [0, 1, 2, 3] rfl ?_
      refine kS 1 0 [(21, pt b1 0)] [5, 4, 3, 2] ?_
      refine kL 2 (.slice none 0 0) ?_
      refine kSe 2 0 [(24, ii 0), (23, ii 0)] [5, 4, 3, 2] ?_
      refine tri_block ?_
      refine tri_rounds 0 ?_
      refine wr [0] rfl ?_
      refine kSe 1 0 [(25, .bool false)] [24, 23, 5, 4, 3, 2] ?_
      refine tri_seq ?_
      refine tri_cond_false rfl ?_
      refine tri_exit ?_
      refine post_then_exit ?_
      refine post_more_exit ?_
      refine post_block_hit ?_
      refine post_then ?_
      refine tri_seq ?_
      refine wr [0, 1] rfl ?_
      refine kSe 2 0 [(52, .bool true)] [4, 3, 2] ?_
      refine tri_cond_true rfl ?_
      refine wr [0] rfl ?_
      refine kW 0 #[.bool false] ?_
      refine kPe [4] ?_
      refine tri_ret ?_
      refine post_then_ret ?_
      refine post_outM ?_
      refine outM_ret1 (v := .bool false) rfl (.cell 0 b3 0 1 #[.bool false] 4 (0, 0) rfl rfl (by kernel_rfl)) (fun W hR => ?_)
      exact ⟨rfl, hR.ext⟩
    · refine tri_region (todo := [0, 1, 2, 3, 4, 5, 6, 7, 8, 9, 10]) rfl ?_
      refine kL 1 (sl bv ov nv cv) ?_
      refine kS 2 0 [(12, pt b1 0), (11, ii ((nv : Nat) : Int))] [4, 3, 2] ?_
      refine kL 2 (.slice none 0 0) ?_
      refine kO 4 1792 [(17, .bool false)] [4, 3, 2] [¬ (((nv : Nat) : Int) ≠ 0)] (fun hn => hn h1) ?_
      refine kL 1 (sl bv ov nv cv) ?_
      refine kC en126 #[sl bv ov nv cv, .func (.func 164) #[] #[]] (.bool true) rfl (fun W hR => contains_yes (hv.rep hR (by simp)) hnv h2) ?_ (by kernel_rfl)
      refine kSe 1 0 [(20, .bool true)] [4, 3, 2] ?_
      refine tri_cond_true rfl ?_
      refine wr [0] rfl ?_
      refine kW 0 #[.bool false] ?_
      refine kPe [4] ?_
      refine tri_ret ?_
      refine post_then_ret ?_
      refine post_outM ?_
      refine outM_ret1 (v := .bool false) rfl (.cell 0 b3 0 1 #[.bool false] 4 (0, 0) rfl rfl (by kernel_rfl)) (fun W hR => ?_)
      exact ⟨rfl, hR.ext⟩
  · refine tri_region (todo := [0, 1, 2, 3, 4, 5, 6, 7, 8, 9, 10]) rfl ?_
    refine kL 1 (sl bv ov nv cv) ?_
    refine kS 2 0 [(12, pt b1 0), (11, ii ((nv : Nat) : Int))] [4, 3, 2] ?_
    refine kL 2 (.slice none 0 0) ?_
    refine kOe 7 1115648 [(20, .bool true)] [4, 3, 2] [((nv : Nat) : Int) ≠ 0] h1 ?_
    refine tri_cond_true rfl ?_
    refine wr [0] rfl ?_
    refine kW 0 #[.bool false] ?_
    refine kPe [4] ?_
    refine tri_ret ?_
    refine post_then_ret ?_
    refine post_outM ?_
    refine outM_ret1 (v := .bool false) rfl (.cell 0 b3 0 1 #[.bool false] 4 (0, 0) rfl rfl (by kernel_rfl)) (fun W hR => ?_)
    exact ⟨rfl, hR.ext⟩
theorem holdsNilV {b off n cap : Nat} {w : World} (hn : n ≤ 60) : Calls Tryz.prog 90 #[.agg #[sl b off n cap], .slice none 0 0] w fun e w' => e = .returned (.bool false) ∧ Ext w w' := by
  refine calls_ofMarks (n := 73) Tryz.func90 rfl Tryz.ntmps90 rfl (Rep.refl _) ?_
  refine tri_eq (l' := [(0, .agg #[sl b off n cap]), (1, .slice none 0 0)]) (hs' := []) rfl rfl ?_
  refine wr [0, 1, 2] rfl ?_
  refine kB (.agg #[sl b off n cap]) fun b1 => ?_
  refine kB (.slice none 0 0) fun b2 => ?_
  refine kA (.bool false) fun b3 => ?_
  refine kPe [4, 3, 2] ?_
  refine tri_seq ?_
  refine tri_seq ?_
  by_cases h1 : 0 = 10 * ((n : Nat) : Int)
  · refine tri_region (todo := [0, 1, 2, 3, 4, 5, 6, 7, 8, 9, 10]) rfl ?_
    refine kL 1 (.slice none 0 0) ?_
    refine kS 2 0 [(12, pt b1 0), (11, ii 0)] [4, 3, 2] ?_
    refine kL 2 (sl b off n cap) ?_
    refine kO 4 1824 [(17, .bool false)] [4, 3, 2] [I64 (10 * ((n : Nat) : Int)), ¬ (0 ≠ 10 * ((n : Nat) : Int))] ⟨(show I64 (10 * ((n : Nat) : Int)) from by first | omega | assumption), (fun hn => hn h1)⟩ ?_
    refine kL 1 (.slice none 0 0) ?_
    refine kC en126 #[.slice none 0 0, .func (.func 164) #[] #[]] (.bool false) rfl (fun W hR => containsNil_ W) ?_ (by kernel_rfl)
    refine kSe 1 0 [(20, .bool false)] [4, 3, 2] ?_
    refine tri_cond_false rfl ?_
    refine tri_skip ?_
    refine post_then ?_
    refine wr [0] rfl ?_
    refine kSe 1 0 [(5, ii 0)] [4, 3, 2] ?_
    refine tri_seq ?_
    refine wr [0, 1, 2, 3] rfl ?_
    refine kS 1 0 [(21, pt b1 0)] [5, 4, 3, 2] ?_
    refine kL 2 (sl b off n cap) ?_
    refine kSe 2 0 [(24, ii 0), (23, ii ((n : Nat) : Int))] [5, 4, 3, 2] ?_
    refine tri_block ?_
    have hn0 : n = 0 := by omega
    subst hn0
    refine tri_eq (l' := [(24, ii 0), (23, ii 0), (5, ii 0), (4, pt b3 0), (3, pt b2 0), (2, pt b1 0)]) (hs' := [(b3, .cells #[.bool false] 4 (0, 0)), (b2, .cells #[.slice none 0 0] 25 (0, 0)), (b1, .cells #[sl b off 0 cap] 24 (0, 0))]) rfl rfl ?_
    refine tri_rounds 0 ?_
    refine wr [0] rfl ?_
    refine kSe 1 0 [(25, .bool false)] [24, 23, 5, 4, 3, 2] ?_
    refine tri_seq ?_
    refine tri_cond_false rfl ?_
    refine tri_exit ?_
    refine post_then_exit ?_
    refine post_more_exit ?_
    refine post_block_hit ?_
    refine post_then ?_
    refine tri_seq ?_
    refine wr [0, 1] rfl ?_
    refine kSe 2 0 [(52, .bool true)] [4, 3, 2] ?_
    refine tri_cond_true rfl ?_
    refine wr [0] rfl ?_
    refine kW 0 #[.bool false] ?_
    refine kPe [4] ?_
    refine tri_ret ?_
    refine post_then_ret ?_
    refine post_outM ?_
    refine outM_ret1 (v := .bool false) rfl (.cell 0 b3 0 1 #[.bool false] 4 (0, 0) rfl rfl (by kernel_rfl)) (fun W hR => ?_)
    exact ⟨rfl, hR.ext⟩
  · refine tri_region (todo := [0, 1, 2, 3, 4, 5, 6, 7, 8, 9, 10]) rfl ?_
    refine kL 1 (.slice none 0 0) ?_
    refine kS 2 0 [(12, pt b1 0), (11, ii 0)] [4, 3, 2] ?_
    refine kL 2 (sl b off n cap) ?_
    refine kOe 7 1115680 [(20, .bool true)] [4, 3, 2] [I64 (10 * ((n : Nat) : Int)), 0 ≠ 10 * ((n : Nat) : Int)] ⟨(show I64 (10 * ((n : Nat) : Int)) from by first | omega | assumption), h1⟩ ?_
    refine tri_cond_true rfl ?_
    refine wr [0] rfl ?_
    refine kW 0 #[.bool false] ?_
    refine kPe [4] ?_
    refine tri_ret ?_
    refine post_then_ret ?_
    refine post_outM ?_
    refine outM_ret1 (v := .bool false) rfl (.cell 0 b3 0 1 #[.bool false] 4 (0, 0) rfl rfl (by kernel_rfl)) (fun W hR => ?_)
    exact ⟨rfl, hR.ext⟩
theorem holdsNilGV (w : World) : Calls Tryz.prog 90 #[.agg #[.slice none 0 0], .slice none 0 0] w fun e w' => e = .returned (.bool false) ∧ Ext w w' := by
  refine calls_ofMarks (n := 73) Tryz.func90 rfl Tryz.ntmps90 rfl (Rep.refl _) ?_
  refine tri_eq (l' := [(0, .agg #[.slice none 0 0]), (1, .slice none 0 0)]) (hs' := []) rfl rfl ?_
  refine wr [0, 1, 2] rfl ?_
  refine kB (.agg #[.slice none 0 0]) fun b1 => ?_
  refine kB (.slice none 0 0) fun b2 => ?_
  refine kA (.bool false) fun b3 => ?_
  refine kPe [4, 3, 2] ?_
  refine tri_seq ?_
  refine wr [0, 1, 2, 3, 4, 5, 6, 7, 8, 9, 10] rfl ?_
  refine kL 1 (.slice none 0 0) ?_
  refine kS 2 0 [(12, pt b1 0), (11, ii 0)] [4, 3, 2] ?_
  refine kL 2 (.slice none 0 0) ?_
  refine kS 4 0 [(17, .bool false)] [4, 3, 2] ?_
  refine kL 1 (.slice none 0 0) ?_
  refine kC en126 #[.slice none 0 0, .func (.func 164) #[] #[]] (.bool false) rfl (fun W hR => containsNil_ W) ?_ (by kernel_rfl)
  refine kSe 1 0 [(20, .bool false)] [4, 3, 2] ?_
  refine tri_cond_false rfl ?_
  refine tri_skip ?_
  refine post_then ?_
  refine wr [0] rfl ?_
  refine kSe 1 0 [(5, ii 0)] [4, 3, 2] ?_
  refine tri_seq ?_
  refine wr [0, 1, 2, 3] rfl ?_
  refine kS 1 0 [(21, pt b1 0)] [5, 4, 3, 2] ?_
  refine kL 2 (.slice none 0 0) ?_
  refine kSe 2 0 [(24, ii 0), (23, ii 0)] [5, 4, 3, 2] ?_
  refine tri_block ?_
  refine tri_rounds 0 ?_
  refine wr [0] rfl ?_
  refine kSe 1 0 [(25, .bool false)] [24, 23, 5, 4, 3, 2] ?_
  refine tri_seq ?_
  refine tri_cond_false rfl ?_
  refine tri_exit ?_
  refine post_then_exit ?_
  refine post_more_exit ?_
  refine post_block_hit ?_
  refine post_then ?_
  refine tri_seq ?_
  refine wr [0, 1] rfl ?_
  refine kSe 2 0 [(52, .bool true)] [4, 3, 2] ?_
  refine tri_cond_true rfl ?_
  refine wr [0] rfl ?_
  refine kW 0 #[.bool false] ?_
  refine kPe [4] ?_
  refine tri_ret ?_
  refine post_then_ret ?_
  refine post_outM ?_
  refine outM_ret1 (v := .bool false) rfl (.cell 0 b3 0 1 #[.bool false] 4 (0, 0) rfl rfl (by kernel_rfl)) (fun W hR => ?_)
  exact ⟨rfl, hR.ext⟩
theorem check42NilG {bv ov nv cv : Nat} {v : Nat → Int} {w : World} (hv : AtV w bv ov nv v) (hnv : nv ≤ 1000000000000) : Calls Tryz.prog 42 #[.agg #[.slice none 0 0], sl bv ov nv cv] w fun e w' => ∃ r : Int, r ≠ 0 ∧ e = .returned (.int .i64 r) ∧ Ext w w' := by
  refine calls_of (n := 15) Tryz.func42 rfl Tryz.ntmps42 rfl ?_
  refine tri_eq (l' := [(0, .agg #[.slice none 0 0]), (1, sl bv ov nv cv)]) (hs' := []) rfl rfl ?_
  refine wr [0, 1] rfl ?_
  refine kB (.agg #[.slice none 0 0]) fun b1 => ?_
  refine kSe 1 0 [] [2, 1] ?_
  refine tri_seq ?_
  refine wr [0, 1, 2] rfl ?_
  refine kL 0 (.agg #[.slice none 0 0]) ?_
  refine kC en88 #[.agg #[.slice none 0 0]] (ii 0) rfl (fun W hR => refusedNil_ W) ?_ (by kernel_rfl)
  refine kSn 1 0 [(5, ii 0)] [2, 1] [0, 1] ?_
  refine kSe 2 0 [(9, .bool false)] [5, 2, 1] ?_
  refine tri_cond_false rfl ?_
  refine tri_skip ?_
  refine post_then ?_
  refine tri_seq ?_
  refine wr [0, 1, 2, 3] rfl ?_
  refine kL 0 (.agg #[.slice none 0 0]) ?_
  refine kS 1 0 [(12, sl bv ov nv cv)] [11] ?_
  refine kC en90 #[.agg #[.slice none 0 0], sl bv ov nv cv] (.bool false) rfl (fun W hR => holdsNilG (hv.rep hR (by simp)) hnv) ?_ (by kernel_rfl)
  refine kSe 1 0 [(14, .bool true)] [] ?_
  refine tri_cond_true rfl ?_
  refine wr [0] rfl ?_
  refine kSe 1 0 [(4, ii 200)] [] ?_
  refine tri_ret ?_
  refine post_then_ret ?_
  refine post_ret1 (v := ii 200) rfl (.tmp rfl) (fun W hR => ?_)
  exact ⟨_, by omega, rfl, hR.ext⟩
theorem check9NilG {bv ov nv cv : Nat} {v : Nat → Int} {w : World} (hv : AtV w bv ov nv v) (hnv : nv ≤ 1000000000000) : Calls Tryz.prog 9 #[.agg #[.slice none 0 0], sl bv ov nv cv] w fun e w' => ∃ r : Int, r ≠ 0 ∧ e = .returned (.int .i64 r) ∧ Ext w w' := by
  refine calls_of (n := 8) Tryz.func9 rfl Tryz.ntmps9 rfl ?_
  refine tri_eq (l' := [(0, .agg #[.slice none 0 0]), (1, sl bv ov nv cv)]) (hs' := []) rfl rfl ?_
  refine wr [0, 1] rfl ?_
  refine kB (.agg #[.slice none 0 0]) fun b1 => ?_
  refine kSn 1 0 [] [2, 1] [0, 1, 2, 3] ?_
  refine kL 0 (.agg #[.slice none 0 0]) ?_
  refine kS 1 0 [(6, sl bv ov nv cv)] [5] ?_
  refine opsT_callR (f := 42) (args := #[.agg #[.slice none 0 0], sl bv ov nv cv]) [] [(b1, .cells #[.slice none 0 0] 24 (0, 0))] (fun r => ii r) (fun _ => []) (fun r => r ≠ 0) rfl rfl rfl rfl rfl (run_call en42 rfl rfl rfl (by kernel_rfl)) (List.Perm.refl _) (fun W hR => (check42NilG (hv.rep hR (by simp)) hnv).mono fun e w' ⟨r, h1, h2, h3⟩ => ⟨r, h1, h2, Ext.rep h3⟩) (fun r1 q1 => ?_)
  refine opsT_heq (hs' := [(b1, .cells #[.slice none 0 0] 24 (0, 0))]) rfl ?_
  refine kSe 1 0 [(4, ii r1)] [] ?_
  refine tri_ret ?_
  refine post_ret1 (v := ii r1) rfl (.tmp rfl) (fun W hR => ?_)
  exact ⟨_, q1, rfl, hR.ext⟩
theorem check42NilV {b off n cap : Nat} {c : Nat → Nat → Int} {w : World} (hc : At w b off n c) (hn : n ≤ 1000000000) : Calls Tryz.prog 42 #[.agg #[sl b off n cap], .slice none 0 0] w fun e w' => ∃ r : Int, r ≠ 0 ∧ e = .returned (.int .i64 r) ∧ Ext w w' := by
  refine calls_of (n := 15) Tryz.func42 rfl Tryz.ntmps42 rfl ?_
  refine tri_eq (l' := [(0, .agg #[sl b off n cap]), (1, .slice none 0 0)]) (hs' := []) rfl rfl ?_
  refine wr [0, 1] rfl ?_
  refine kB (.agg #[sl b off n cap]) fun b1 => ?_
  refine kSe 1 0 [] [2, 1] ?_
  refine tri_seq ?_
  refine wr [0, 1, 2] rfl ?_
  refine kL 0 (.agg #[sl b off n cap]) ?_
  refine opsT_callR (f := 88) (args := #[.agg #[sl b off n cap]]) [] [(b1, .cells #[sl b off n cap] 24 (0, 0))] (fun r => ii r) (fun _ => []) (fun r => RefR n c r) rfl rfl rfl rfl rfl (run_call en88 rfl rfl rfl (by kernel_rfl)) (List.Perm.refl _) (fun W hR => (refused_ (hc.rep hR (by simp)) hn).mono fun e w' ⟨r, h1, h2, h3⟩ => ⟨r, h1, h2, Ext.rep h3⟩) (fun r1 q1 => ?_)
  refine opsT_heq (hs' := [(b1, .cells #[sl b off n cap] 24 (0, 0))]) rfl ?_
  refine kSn 1 0 [(5, ii r1)] [2, 1] [0, 1] ?_
  refine kSe 2 80 [(9, .bool (!decide (r1 = 0)))] [5, 2, 1] ?_
  refine tri_cond (b := !decide (r1 = 0)) rfl (fun h1 => ?_) (fun h1 => ?_)
  · simp only [Bool.not_eq_true', decide_eq_false_iff_not] at h1
    refine wr [0, 1] rfl ?_
    refine kSe 2 0 [(4, ii r1)] [] ?_
    refine tri_ret ?_
    refine post_then_ret ?_
    refine post_ret1 (v := ii r1) rfl (.tmp rfl) (fun W hR => ?_)
    exact ⟨_, by omega, rfl, hR.ext⟩
  · simp only [Bool.not_eq_false', decide_eq_true_eq] at h1
    refine tri_skip ?_
    refine post_then ?_
    refine tri_seq ?_
    refine wr [0, 1, 2, 3] rfl ?_
    refine kL 0 (.agg #[sl b off n cap]) ?_
    refine kS 1 0 [(12, .slice none 0 0)] [11] ?_
    refine kC en90 #[.agg #[sl b off n cap], .slice none 0 0] (.bool false) rfl (fun W hR => holdsNilV (by rcases q1 with q | q | q <;> omega)) ?_ (by kernel_rfl)
    refine kSe 1 0 [(14, .bool true)] [] ?_
    refine tri_cond_true rfl ?_
    refine wr [0] rfl ?_
    refine kSe 1 0 [(4, ii 200)] [] ?_
    refine tri_ret ?_
    refine post_then_ret ?_
    refine post_ret1 (v := ii 200) rfl (.tmp rfl) (fun W hR => ?_)
    exact ⟨_, by omega, rfl, hR.ext⟩
theorem check9NilV {b off n cap : Nat} {c : Nat → Nat → Int} {w : World} (hc : At w b off n c) (hn : n ≤ 1000000000) : Calls Tryz.prog 9 #[.agg #[sl b off n cap], .slice none 0 0] w fun e w' => ∃ r : Int, r ≠ 0 ∧ e = .returned (.int .i64 r) ∧ Ext w w' := by
  refine calls_of (n := 8) Tryz.func9 rfl Tryz.ntmps9 rfl ?_
  refine tri_eq (l' := [(0, .agg #[sl b off n cap]), (1, .slice none 0 0)]) (hs' := []) rfl rfl ?_
  refine wr [0, 1] rfl ?_
  refine kB (.agg #[sl b off n cap]) fun b1 => ?_
  refine kSn 1 0 [] [2, 1] [0, 1, 2, 3] ?_
  refine kL 0 (.agg #[sl b off n cap]) ?_
  refine kS 1 0 [(6, .slice none 0 0)] [5] ?_
  refine opsT_callR (f := 42) (args := #[.agg #[sl b off n cap], .slice none 0 0]) [] [(b1, .cells #[sl b off n cap] 24 (0, 0))] (fun r => ii r) (fun _ => []) (fun r => r ≠ 0) rfl rfl rfl rfl rfl (run_call en42 rfl rfl rfl (by kernel_rfl)) (List.Perm.refl _) (fun W hR => (check42NilV (hc.rep hR (by simp)) hn).mono fun e w' ⟨r, h1, h2, h3⟩ => ⟨r, h1, h2, Ext.rep h3⟩) (fun r1 q1 => ?_)
  refine opsT_heq (hs' := [(b1, .cells #[sl b off n cap] 24 (0, 0))]) rfl ?_
  refine kSe 1 0 [(4, ii r1)] [] ?_
  refine tri_ret ?_
  refine post_ret1 (v := ii r1) rfl (.tmp rfl) (fun W hR => ?_)
  exact ⟨_, q1, rfl, hR.ext⟩
theorem check42NilGV (w : World) : Calls Tryz.prog 42 #[.agg #[.slice none 0 0], .slice none 0 0] w fun e w' => ∃ r : Int, r ≠ 0 ∧ e = .returned (.int .i64 r) ∧ Ext w w' := by
  refine calls_of (n := 15) Tryz.func42 rfl Tryz.ntmps42 rfl ?_
  refine tri_eq (l' := [(0, .agg #[.slice none 0 0]), (1, .slice none 0 0)]) (hs' := []) rfl rfl ?_
  refine wr [0, 1] rfl ?_
  refine kB (.agg #[.slice none 0 0]) fun b1 => ?_
  refine kSe 1 0 [] [2, 1] ?_
  refine tri_seq ?_
  refine wr [0, 1, 2] rfl ?_
  refine kL 0 (.agg #[.slice none 0 0]) ?_
  refine kC en88 #[.agg #[.slice none 0 0]] (ii 0) rfl (fun W hR => refusedNil_ W) ?_ (by kernel_rfl)
  refine kSn 1 0 [(5, ii 0)] [2, 1] [0, 1] ?_
  refine kSe 2 0 [(9, .bool false)] [5, 2, 1] ?_
  refine tri_cond_false rfl ?_
  refine tri_skip ?_
  refine post_then ?_
  refine tri_seq ?_
  refine wr [0, 1, 2, 3] rfl ?_
  refine kL 0 (.agg #[.slice none 0 0]) ?_
  refine kS 1 0 [(12, .slice none 0 0)] [11] ?_
  refine kC en90 #[.agg #[.slice none 0 0], .slice none 0 0] (.bool false) rfl (fun W hR => holdsNilGV W) ?_ (by kernel_rfl)
  refine kSe 1 0 [(14, .bool true)] [] ?_
  refine tri_cond_true rfl ?_
  refine wr [0] rfl ?_
  refine kSe 1 0 [(4, ii 200)] [] ?_
  refine tri_ret ?_
  refine post_then_ret ?_
  refine post_ret1 (v := ii 200) rfl (.tmp rfl) (fun W hR => ?_)
  exact ⟨_, by omega, rfl, hR.ext⟩
theorem check9NilGV (w : World) : Calls Tryz.prog 9 #[.agg #[.slice none 0 0], .slice none 0 0] w fun e w' => ∃ r : Int, r ≠ 0 ∧ e = .returned (.int .i64 r) ∧ Ext w w' := by
  refine calls_of (n := 8) Tryz.func9 rfl Tryz.ntmps9 rfl ?_
  refine tri_eq (l' := [(0, .agg #[.slice none 0 0]), (1, .slice none 0 0)]) (hs' := []) rfl rfl ?_
  refine wr [0, 1] rfl ?_
  refine kB (.agg #[.slice none 0 0]) fun b1 => ?_
  refine kSn 1 0 [] [2, 1] [0, 1, 2, 3] ?_
  refine kL 0 (.agg #[.slice none 0 0]) ?_
  refine kS 1 0 [(6, .slice none 0 0)] [5] ?_
  refine opsT_callR (f := 42) (args := #[.agg #[.slice none 0 0], .slice none 0 0]) [] [(b1, .cells #[.slice none 0 0] 24 (0, 0))] (fun r => ii r) (fun _ => []) (fun r => r ≠ 0) rfl rfl rfl rfl rfl (run_call en42 rfl rfl rfl (by kernel_rfl)) (List.Perm.refl _) (fun W hR => (check42NilGV W).mono fun e w' ⟨r, h1, h2, h3⟩ => ⟨r, h1, h2, Ext.rep h3⟩) (fun r1 q1 => ?_)
  refine opsT_heq (hs' := [(b1, .cells #[.slice none 0 0] 24 (0, 0))]) rfl ?_
  refine kSe 1 0 [(4, ii r1)] [] ?_
  refine tri_ret ?_
  refine post_ret1 (v := ii r1) rfl (.tmp rfl) (fun W hR => ?_)
  exact ⟨_, q1, rfl, hR.ext⟩
end Go.Proofs.YtlkbokbcfajhjaaGreat
