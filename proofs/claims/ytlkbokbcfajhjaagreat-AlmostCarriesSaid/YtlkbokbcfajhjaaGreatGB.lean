/- G33: Renumber at nil ¦ G34: what renumbering keeps, put together -/
import Derived.Test.YtlkbokbcfajhjaaGreatG32
import Derived.Test.YtlkbokbcfajhjaaGreatB17
import Derived.Test.YtlkbokbcfajhjaaGreatD1
namespace Go.Proofs.YtlkbokbcfajhjaaGreat
open Go.Proofs.Walk
set_option maxRecDepth 100000
set_option linter.unusedVariables false
set_option linter.unusedSimpArgs false

theorem check43_ok {b off n cap : Nat} {c : Nat → Nat → Int} {w : World} (hc : At w b off n c) (hg : GlueOK n c) : Calls Tryz.prog 43 #[.agg #[sl b off n cap]] w fun e w' => e = .returned (.int .i64 0) ∧ Ext w w' :=
  (check hc).mono fun e w' ⟨r, h, he, hx⟩ => ⟨by rcases h with ⟨h, _⟩ | ⟨_, h⟩; rw [he, h]; exact absurd hg h, hx⟩

theorem renumberNilO {pv : Value} {b off n cap : Nat} {c : Nat → Nat → Int} {w : World} (hc : At w b off n c) (hg : GlueOK n c) (hn : 0 < n) : Calls Tryz.prog 10 #[.agg #[sl b off n cap], .slice none 0 0, pv] w fun e w' => ∃ r : Int, r ≠ 0 ∧ e = .returned (.tuple #[.agg #[.slice none 0 0], .int .i64 r]) ∧ Ext w w' := by
  have hn1 : n ≤ 1000 := hg.1
  have hn0 : ¬ ((0 : Int) = ((n : Nat) : Int)) := by omega
  refine calls_of (n := 139) Tryz.func10 rfl Tryz.ntmps10 rfl ?_
  refine tri_eq (l' := [(0, .agg #[sl b off n cap]), (1, .slice none 0 0), (2, pv)]) (hs' := []) rfl rfl ?_
  refine wr [0, 1, 2] rfl ?_
  refine kB (.agg #[sl b off n cap]) fun b1 => ?_
  refine kA (.agg #[.slice none 0 0]) fun b2 => ?_
  refine kSe 1 0 [] [6, 3, 1, 2] ?_
  refine tri_seq ?_
  refine wr [0, 1, 2] rfl ?_
  refine kL 1 (.agg #[sl b off n cap]) ?_
  refine kC en43 #[.agg #[sl b off n cap]] (ii 0) rfl (fun W hR => check43_ok (hc.rep hR (by simp)) hg) ?_ (by kernel_rfl)
  refine kSn 1 0 [(8, ii 0)] [6, 3, 1, 2] [0, 1] ?_
  refine kSe 2 0 [(24, .bool false)] [8, 6, 3, 1, 2] ?_
  refine tri_cond_false rfl ?_
  refine tri_skip ?_
  refine post_then ?_
  refine wr [0, 1, 2, 3] rfl ?_
  refine kS 1 0 [(27, pt b1 0)] [6, 3, 1, 2] ?_
  refine kL 1 (sl b off n cap) ?_
  refine kSn 2 0 [(9, ii ((n : Nat) : Int))] [6, 3, 1, 2] [0, 1, 2] ?_
  refine kS 1 0 [(30, ii ((n : Nat) : Int))] [9, 6, 3, 1, 2] ?_
  refine opsT_make (e := 3) ((n : Nat) : Int) (ii 0) 8 rfl rfl rfl rfl rfl rfl rfl rfl (by kernel_rfl) (by kernel_rfl) rfl (by first | omega | assumption) (by first | omega | assumption) (by first | omega | assumption) (fun b3 => ?_)
  refine opsT_heq (hs' := [(b3, intsB (List.replicate n 0) 3), (b2, .cells #[.slice none 0 0] 24 (0, 0)), (b1, .cells #[sl b off n cap] 24 (0, 0))]) (by simp [vecB, intsB, boolsB, Value.cells]) ?_
  refine kSn 1 0 [(10, sl b3 0 n n)] [9, 6, 3, 1, 2] [0, 1, 2] ?_
  refine kS 1 0 [(32, ii ((n : Nat) : Int))] [10, 9, 6, 3, 1, 2] ?_
  refine opsT_make (e := 4) ((n : Nat) : Int) (.bool false) 1 rfl rfl rfl rfl rfl rfl rfl rfl (by kernel_rfl) (by kernel_rfl) rfl (by first | omega | assumption) (by first | omega | assumption) (by first | omega | assumption) (fun b4 => ?_)
  refine opsT_heq (hs' := [(b4, boolsB (List.replicate n false) 4), (b3, intsB (List.replicate n 0) 3), (b2, .cells #[.slice none 0 0] 24 (0, 0)), (b1, .cells #[sl b off n cap] 24 (0, 0))]) (by simp [vecB, intsB, boolsB, Value.cells]) ?_
  refine kSe 1 0 [(11, sl b4 0 n n)] [10, 9, 6, 3, 1, 2] ?_
  refine tri_seq ?_
  refine wr [0, 1, 2, 3, 4, 5, 6, 7, 8, 9, 10, 11, 12, 13] rfl ?_
  refine kOe 14 299071744008192 [(47, .bool true)] [11, 10, 9, 6, 3, 1, 2] [0 ≠ ((n : Nat) : Int)] hn0 ?_
  refine tri_cond_true rfl ?_
  refine wr [0, 1, 2] rfl ?_
  refine kS 1 0 [(48, .agg #[.slice none 0 0])] [6] ?_
  refine kW 2 #[.slice none 0 0] ?_
  refine kSe 1 0 [(7, ii 1)] [6] ?_
  refine tri_ret ?_
  refine post_then_ret ?_
  refine post_ret2 (v := .agg #[.slice none 0 0]) (v' := ii 1) rfl (.cell 2 b2 0 1 #[.slice none 0 0] 24 (0, 0) rfl rfl (by kernel_rfl)) (.tmp rfl) (fun W hR => ?_)
  exact ⟨1, by decide, rfl, hR.ext⟩
theorem renumberNilP {bo oo no co : Nat} {b off n cap : Nat} {c : Nat → Nat → Int} {w : World} (hc : At w b off n c) (hg : GlueOK n c) (hn : 0 < n) : Calls Tryz.prog 10 #[.agg #[sl b off n cap], sl bo oo no co, .slice none 0 0] w fun e w' => ∃ r : Int, r ≠ 0 ∧ e = .returned (.tuple #[.agg #[.slice none 0 0], .int .i64 r]) ∧ Ext w w' := by
  have hn1 : n ≤ 1000 := hg.1
  have hn0 : ¬ ((0 : Int) = ((n : Nat) : Int)) := by omega
  refine calls_of (n := 139) Tryz.func10 rfl Tryz.ntmps10 rfl ?_
  refine tri_eq (l' := [(0, .agg #[sl b off n cap]), (1, sl bo oo no co), (2, .slice none 0 0)]) (hs' := []) rfl rfl ?_
  refine wr [0, 1, 2] rfl ?_
  refine kB (.agg #[sl b off n cap]) fun b1 => ?_
  refine kA (.agg #[.slice none 0 0]) fun b2 => ?_
  refine kSe 1 0 [] [6, 3, 1, 2] ?_
  refine tri_seq ?_
  refine wr [0, 1, 2] rfl ?_
  refine kL 1 (.agg #[sl b off n cap]) ?_
  refine kC en43 #[.agg #[sl b off n cap]] (ii 0) rfl (fun W hR => check43_ok (hc.rep hR (by simp)) hg) ?_ (by kernel_rfl)
  refine kSn 1 0 [(8, ii 0)] [6, 3, 1, 2] [0, 1] ?_
  refine kSe 2 0 [(24, .bool false)] [8, 6, 3, 1, 2] ?_
  refine tri_cond_false rfl ?_
  refine tri_skip ?_
  refine post_then ?_
  refine wr [0, 1, 2, 3] rfl ?_
  refine kS 1 0 [(27, pt b1 0)] [6, 3, 1, 2] ?_
  refine kL 1 (sl b off n cap) ?_
  refine kSn 2 0 [(9, ii ((n : Nat) : Int))] [6, 3, 1, 2] [0, 1, 2] ?_
  refine kS 1 0 [(30, ii ((n : Nat) : Int))] [9, 6, 3, 1, 2] ?_
  refine opsT_make (e := 3) ((n : Nat) : Int) (ii 0) 8 rfl rfl rfl rfl rfl rfl rfl rfl (by kernel_rfl) (by kernel_rfl) rfl (by first | omega | assumption) (by first | omega | assumption) (by first | omega | assumption) (fun b3 => ?_)
  refine opsT_heq (hs' := [(b3, intsB (List.replicate n 0) 3), (b2, .cells #[.slice none 0 0] 24 (0, 0)), (b1, .cells #[sl b off n cap] 24 (0, 0))]) (by simp [vecB, intsB, boolsB, Value.cells]) ?_
  refine kSn 1 0 [(10, sl b3 0 n n)] [9, 6, 3, 1, 2] [0, 1, 2] ?_
  refine kS 1 0 [(32, ii ((n : Nat) : Int))] [10, 9, 6, 3, 1, 2] ?_
  refine opsT_make (e := 4) ((n : Nat) : Int) (.bool false) 1 rfl rfl rfl rfl rfl rfl rfl rfl (by kernel_rfl) (by kernel_rfl) rfl (by first | omega | assumption) (by first | omega | assumption) (by first | omega | assumption) (fun b4 => ?_)
  refine opsT_heq (hs' := [(b4, boolsB (List.replicate n false) 4), (b3, intsB (List.replicate n 0) 3), (b2, .cells #[.slice none 0 0] 24 (0, 0)), (b1, .cells #[sl b off n cap] 24 (0, 0))]) (by simp [vecB, intsB, boolsB, Value.cells]) ?_
  refine kSe 1 0 [(11, sl b4 0 n n)] [10, 9, 6, 3, 1, 2] ?_
  refine tri_seq ?_
  refine tri_seq ?_
  by_cases h1 : ((no : Nat) : Int) = ((n : Nat) : Int)
  · refine tri_region (todo := [0, 1, 2, 3, 4, 5, 6, 7, 8, 9, 10, 11, 12, 13]) rfl ?_
    refine kOe 14 299092932587520 [(47, .bool true)] [11, 10, 9, 6, 3, 1, 2] [¬ (((no : Nat) : Int) ≠ ((n : Nat) : Int)), 0 ≠ ((n : Nat) : Int)] ⟨(fun hn => hn h1), hn0⟩ ?_
    refine tri_cond_true rfl ?_
    refine wr [0, 1, 2] rfl ?_
    refine kS 1 0 [(48, .agg #[.slice none 0 0])] [6] ?_
    refine kW 2 #[.slice none 0 0] ?_
    refine kSe 1 0 [(7, ii 1)] [6] ?_
    refine tri_ret ?_
    refine post_then_ret ?_
    refine post_ret2 (v := .agg #[.slice none 0 0]) (v' := ii 1) rfl (.cell 2 b2 0 1 #[.slice none 0 0] 24 (0, 0) rfl rfl (by kernel_rfl)) (.tmp rfl) (fun W hR => ?_)
    exact ⟨1, by decide, rfl, hR.ext⟩
  · refine tri_region (todo := [0, 1, 2, 3, 4, 5, 6, 7, 8, 9, 10, 11, 12, 13]) rfl ?_
    refine kOe 14 299071744008192 [(47, .bool true)] [11, 10, 9, 6, 3, 1, 2] [((no : Nat) : Int) ≠ ((n : Nat) : Int)] h1 ?_
    refine tri_cond_true rfl ?_
    refine wr [0, 1, 2] rfl ?_
    refine kS 1 0 [(48, .agg #[.slice none 0 0])] [6] ?_
    refine kW 2 #[.slice none 0 0] ?_
    refine kSe 1 0 [(7, ii 1)] [6] ?_
    refine tri_ret ?_
    refine post_then_ret ?_
    refine post_ret2 (v := .agg #[.slice none 0 0]) (v' := ii 1) rfl (.cell 2 b2 0 1 #[.slice none 0 0] 24 (0, 0) rfl rfl (by kernel_rfl)) (.tmp rfl) (fun W hR => ?_)
    exact ⟨1, by decide, rfl, hR.ext⟩
theorem renumberNilB1 {bo oo no co bp op np cp : Nat} {b off n cap : Nat} {c : Nat → Nat → Int} {w : World} (hc : At w b off n c) (hg : GlueOK n c) (hn : 0 < n) (hb : no ≠ n) : Calls Tryz.prog 10 #[.agg #[sl b off n cap], sl bo oo no co, sl bp op np cp] w fun e w' => ∃ r : Int, r ≠ 0 ∧ e = .returned (.tuple #[.agg #[.slice none 0 0], .int .i64 r]) ∧ Ext w w' := by
  have hn1 : n ≤ 1000 := hg.1
  have hn0 : ¬ ((0 : Int) = ((n : Nat) : Int)) := by omega
  have hb1 : ¬ (((no : Nat) : Int) = ((n : Nat) : Int)) := by omega
  refine calls_of (n := 139) Tryz.func10 rfl Tryz.ntmps10 rfl ?_
  refine tri_eq (l' := [(0, .agg #[sl b off n cap]), (1, sl bo oo no co), (2, sl bp op np cp)]) (hs' := []) rfl rfl ?_
  refine wr [0, 1, 2] rfl ?_
  refine kB (.agg #[sl b off n cap]) fun b1 => ?_
  refine kA (.agg #[.slice none 0 0]) fun b2 => ?_
  refine kSe 1 0 [] [6, 3, 1, 2] ?_
  refine tri_seq ?_
  refine wr [0, 1, 2] rfl ?_
  refine kL 1 (.agg #[sl b off n cap]) ?_
  refine kC en43 #[.agg #[sl b off n cap]] (ii 0) rfl (fun W hR => check43_ok (hc.rep hR (by simp)) hg) ?_ (by kernel_rfl)
  refine kSn 1 0 [(8, ii 0)] [6, 3, 1, 2] [0, 1] ?_
  refine kSe 2 0 [(24, .bool false)] [8, 6, 3, 1, 2] ?_
  refine tri_cond_false rfl ?_
  refine tri_skip ?_
  refine post_then ?_
  refine wr [0, 1, 2, 3] rfl ?_
  refine kS 1 0 [(27, pt b1 0)] [6, 3, 1, 2] ?_
  refine kL 1 (sl b off n cap) ?_
  refine kSn 2 0 [(9, ii ((n : Nat) : Int))] [6, 3, 1, 2] [0, 1, 2] ?_
  refine kS 1 0 [(30, ii ((n : Nat) : Int))] [9, 6, 3, 1, 2] ?_
  refine opsT_make (e := 3) ((n : Nat) : Int) (ii 0) 8 rfl rfl rfl rfl rfl rfl rfl rfl (by kernel_rfl) (by kernel_rfl) rfl (by first | omega | assumption) (by first | omega | assumption) (by first | omega | assumption) (fun b3 => ?_)
  refine opsT_heq (hs' := [(b3, intsB (List.replicate n 0) 3), (b2, .cells #[.slice none 0 0] 24 (0, 0)), (b1, .cells #[sl b off n cap] 24 (0, 0))]) (by simp [vecB, intsB, boolsB, Value.cells]) ?_
  refine kSn 1 0 [(10, sl b3 0 n n)] [9, 6, 3, 1, 2] [0, 1, 2] ?_
  refine kS 1 0 [(32, ii ((n : Nat) : Int))] [10, 9, 6, 3, 1, 2] ?_
  refine opsT_make (e := 4) ((n : Nat) : Int) (.bool false) 1 rfl rfl rfl rfl rfl rfl rfl rfl (by kernel_rfl) (by kernel_rfl) rfl (by first | omega | assumption) (by first | omega | assumption) (by first | omega | assumption) (fun b4 => ?_)
  refine opsT_heq (hs' := [(b4, boolsB (List.replicate n false) 4), (b3, intsB (List.replicate n 0) 3), (b2, .cells #[.slice none 0 0] 24 (0, 0)), (b1, .cells #[sl b off n cap] 24 (0, 0))]) (by simp [vecB, intsB, boolsB, Value.cells]) ?_
  refine kSe 1 0 [(11, sl b4 0 n n)] [10, 9, 6, 3, 1, 2] ?_
  refine tri_seq ?_
  refine wr [0, 1, 2, 3, 4, 5, 6, 7, 8, 9, 10, 11, 12, 13] rfl ?_
  refine kOe 14 299071744008192 [(47, .bool true)] [11, 10, 9, 6, 3, 1, 2] [((no : Nat) : Int) ≠ ((n : Nat) : Int)] hb1 ?_
  refine tri_cond_true rfl ?_
  refine wr [0, 1, 2] rfl ?_
  refine kS 1 0 [(48, .agg #[.slice none 0 0])] [6] ?_
  refine kW 2 #[.slice none 0 0] ?_
  refine kSe 1 0 [(7, ii 1)] [6] ?_
  refine tri_ret ?_
  refine post_then_ret ?_
  refine post_ret2 (v := .agg #[.slice none 0 0]) (v' := ii 1) rfl (.cell 2 b2 0 1 #[.slice none 0 0] 24 (0, 0) rfl rfl (by kernel_rfl)) (.tmp rfl) (fun W hR => ?_)
  exact ⟨1, by decide, rfl, hR.ext⟩
theorem renumberNilB2 {bo oo no co bp op np cp : Nat} {b off n cap : Nat} {c : Nat → Nat → Int} {w : World} (hc : At w b off n c) (hg : GlueOK n c) (hn : 0 < n) (hb : no = n) (hb' : np ≠ n) : Calls Tryz.prog 10 #[.agg #[sl b off n cap], sl bo oo no co, sl bp op np cp] w fun e w' => ∃ r : Int, r ≠ 0 ∧ e = .returned (.tuple #[.agg #[.slice none 0 0], .int .i64 r]) ∧ Ext w w' := by
  have hn1 : n ≤ 1000 := hg.1
  have hn0 : ¬ ((0 : Int) = ((n : Nat) : Int)) := by omega
  have hb1 : ((no : Nat) : Int) = ((n : Nat) : Int) := by omega
  have hb2 : ¬ (((np : Nat) : Int) = ((n : Nat) : Int)) := by omega
  refine calls_of (n := 139) Tryz.func10 rfl Tryz.ntmps10 rfl ?_
  refine tri_eq (l' := [(0, .agg #[sl b off n cap]), (1, sl bo oo no co), (2, sl bp op np cp)]) (hs' := []) rfl rfl ?_
  refine wr [0, 1, 2] rfl ?_
  refine kB (.agg #[sl b off n cap]) fun b1 => ?_
  refine kA (.agg #[.slice none 0 0]) fun b2 => ?_
  refine kSe 1 0 [] [6, 3, 1, 2] ?_
  refine tri_seq ?_
  refine wr [0, 1, 2] rfl ?_
  refine kL 1 (.agg #[sl b off n cap]) ?_
  refine kC en43 #[.agg #[sl b off n cap]] (ii 0) rfl (fun W hR => check43_ok (hc.rep hR (by simp)) hg) ?_ (by kernel_rfl)
  refine kSn 1 0 [(8, ii 0)] [6, 3, 1, 2] [0, 1] ?_
  refine kSe 2 0 [(24, .bool false)] [8, 6, 3, 1, 2] ?_
  refine tri_cond_false rfl ?_
  refine tri_skip ?_
  refine post_then ?_
  refine wr [0, 1, 2, 3] rfl ?_
  refine kS 1 0 [(27, pt b1 0)] [6, 3, 1, 2] ?_
  refine kL 1 (sl b off n cap) ?_
  refine kSn 2 0 [(9, ii ((n : Nat) : Int))] [6, 3, 1, 2] [0, 1, 2] ?_
  refine kS 1 0 [(30, ii ((n : Nat) : Int))] [9, 6, 3, 1, 2] ?_
  refine opsT_make (e := 3) ((n : Nat) : Int) (ii 0) 8 rfl rfl rfl rfl rfl rfl rfl rfl (by kernel_rfl) (by kernel_rfl) rfl (by first | omega | assumption) (by first | omega | assumption) (by first | omega | assumption) (fun b3 => ?_)
  refine opsT_heq (hs' := [(b3, intsB (List.replicate n 0) 3), (b2, .cells #[.slice none 0 0] 24 (0, 0)), (b1, .cells #[sl b off n cap] 24 (0, 0))]) (by simp [vecB, intsB, boolsB, Value.cells]) ?_
  refine kSn 1 0 [(10, sl b3 0 n n)] [9, 6, 3, 1, 2] [0, 1, 2] ?_
  refine kS 1 0 [(32, ii ((n : Nat) : Int))] [10, 9, 6, 3, 1, 2] ?_
  refine opsT_make (e := 4) ((n : Nat) : Int) (.bool false) 1 rfl rfl rfl rfl rfl rfl rfl rfl (by kernel_rfl) (by kernel_rfl) rfl (by first | omega | assumption) (by first | omega | assumption) (by first | omega | assumption) (fun b4 => ?_)
  refine opsT_heq (hs' := [(b4, boolsB (List.replicate n false) 4), (b3, intsB (List.replicate n 0) 3), (b2, .cells #[.slice none 0 0] 24 (0, 0)), (b1, .cells #[sl b off n cap] 24 (0, 0))]) (by simp [vecB, intsB, boolsB, Value.cells]) ?_
  refine kSe 1 0 [(11, sl b4 0 n n)] [10, 9, 6, 3, 1, 2] ?_
  refine tri_seq ?_
  refine wr [0, 1, 2, 3, 4, 5, 6, 7, 8, 9, 10, 11, 12, 13] rfl ?_
  refine kOe 14 299092932587520 [(47, .bool true)] [11, 10, 9, 6, 3, 1, 2] [¬ (((no : Nat) : Int) ≠ ((n : Nat) : Int)), ((np : Nat) : Int) ≠ ((n : Nat) : Int)] ⟨(fun hn => hn hb1), hb2⟩ ?_
  refine tri_cond_true rfl ?_
  refine wr [0, 1, 2] rfl ?_
  refine kS 1 0 [(48, .agg #[.slice none 0 0])] [6] ?_
  refine kW 2 #[.slice none 0 0] ?_
  refine kSe 1 0 [(7, ii 1)] [6] ?_
  refine tri_ret ?_
  refine post_then_ret ?_
  refine post_ret2 (v := .agg #[.slice none 0 0]) (v' := ii 1) rfl (.cell 2 b2 0 1 #[.slice none 0 0] 24 (0, 0) rfl rfl (by kernel_rfl)) (.tmp rfl) (fun W hR => ?_)
  exact ⟨1, by decide, rfl, hR.ext⟩
end Go.Proofs.YtlkbokbcfajhjaaGreat
namespace Go.Proofs.YtlkbokbcfajhjaaGreat
open Go.Proofs.Walk
set_option maxRecDepth 100000
set_option linter.unusedVariables false
set_option linter.unusedSimpArgs false

section
variable {n : Nat} {c : Nat → Nat → Int} {v ord : Nat → Int} {pm : Nat → Nat → Int}
theorem vOf_range {N : Nat} {F : Nat → Int} {x : Nat} (hx : x < N) : vOf ((List.range N).map F) x = F x := by
  simp [vOf, List.getD, hx]
theorem carL_at {x : Nat} (hx : x < 10 * n) : vOf (carL v ord pm (10 * n)) x = v (blk 10 (fun i => (ord i).toNat) (fun i => entP fun k => (pm i k).toNat) x) := by
  unfold carL
  exact vOf_range hx
theorem carL_car : CarV n (fun i => (ord i).toNat) (fun i k => (pm i k).toNat) v (vOf (carL v ord pm (10 * n))) := fun i hi b hb => by
  rw [carL_at (by omega)]
  congr 1
  exact blk_at hb
/-- All that the law asks. -/
structure Kept (n : Nat) (c : Nat → Nat → Int) (v ord : Nat → Int) (pm : Nat → Nat → Int) : Prop where
  glue : GlueOK n (renC n c ord pm)
  holds : Holds n (renC n c ord pm) (10 * n) (vOf (carL v ord pm (10 * n)))
  wts : (wtsTo n c v (6 * n)).mergeSort (fun x y => decide (x ≤ y)) = (wtsTo n (renC n c ord pm) (vOf (carL v ord pm (10 * n))) (6 * n)).mergeSort (fun x y => decide (x ≤ y))
  eul : eulP n (renC n c ord pm) (vOf (carL v ord pm (10 * n))) = eulP n c v
  prt : partN n (renC n c ord pm) (vOf (carL v ord pm (10 * n))) = partN n c v
  len : (pcs (10 * n) (vOf (carL v ord pm (10 * n)))).length = (pcs (10 * n) v).length
  main : ∀ x x', IsOct n v x → IsOct n (vOf (carL v ord pm (10 * n))) x' → mainL n (renC n c ord pm) (vOf (carL v ord pm (10 * n))) (x', 0) = carL (vOf (mainL n c v (x, 0))) ord pm (10 * n)
theorem kept (hg : GlueOK n c) (hH : Holds n c (10 * n) v) (ho : OrdOK n ord n) (hp : ∀ i, i < n → PermOK pm i) : Kept n c v ord pm := by
  have hr := renum_of hg ho hp
  have hc : CarV n (fun i => (ord i).toNat) (fun i k => (pm i k).toNat) v (vOf (carL v ord pm (10 * n))) := carL_car
  have hA := (allEq_iff hg).1 hH.2.2.2.2
  have hin : InR (10 * n) v := hH.2.1
  refine ⟨hr.glueOK hg, holds_carry hr hg hc hH, ?_, eul_carry hr hg hc hA, partN_carry hr hg hc hin hH.2.2.1 hA, (parts_carry hr hg hc hin hH.2.2.1 hA).1, fun x x' hx hx' => ?_⟩
  · have hP := wts_carry hr hg hc hA
    have tr : ∀ a b c : Int, decide (a ≤ b) = true → decide (b ≤ c) = true → decide (a ≤ c) = true := fun a b c h1 h2 => by simp at h1 h2 ⊢; omega
    have tl : ∀ a b : Int, (decide (a ≤ b) || decide (b ≤ a)) = true := fun a b => by simp; omega
    exact List.Perm.eq_of_pairwise (le := fun a b : Int => decide (a ≤ b) = true) (fun a b _ _ h1 h2 => by simp at h1 h2; omega) (List.pairwise_mergeSort tr tl _) (List.pairwise_mergeSort tr tl _) ((List.mergeSort_perm _ _).trans (hP.symm.trans (List.mergeSort_perm _ _).symm))
  · obtain ⟨o1, o2⟩ := oct_carry hr hc hx'
    have hxx := oct_unique hin hH.2.2.2.1 o1 hx
    have hm : (x', 0) ∈ pcs (10 * n) (vOf (carL v ord pm (10 * n))) := mem_pcs.2 ⟨hx'.1, by show 0 < Int.toNat _; rw [hx'.2.2]; decide⟩
    unfold mainL carL
    refine List.map_congr_left fun y hy => ?_
    have hy' := List.mem_range.1 hy
    have := mainP_carry hr hg hc hin hH.2.2.1 hA hm hy'
    rw [vOf_range (hr.ent.blk_lt hy')]
    congr 1
    rw [o2, hxx] at this
    exact this
theorem at_rows {W0 W : World} {M : List Nat} {hs : List (Nat × Obj)} {b : Nat} {sp : List Value} (hR : Rep W0 M hs W) (hm : (b, vecB (rowsTo n c ord pm n ++ sp) 76) ∈ hs) : At W b 0 n (renC n c ord pm) := by
  intro t ht k hk
  rw [cell_own (hR.own b _ hm), Nat.zero_add]
  have h1 := rowsTo_get (n := n) (c := c) (ord := ord) (pm := pm) (m := n) t k ht hk
  have h2 := (List.getElem?_eq_some_iff.1 h1).1
  simp only [List.getElem?_toArray]
  rw [List.getElem?_append_left h2, h1]
end

end Go.Proofs.YtlkbokbcfajhjaaGreat
