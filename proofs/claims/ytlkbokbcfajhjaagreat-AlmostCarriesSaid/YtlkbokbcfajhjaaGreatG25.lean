/- G25: the coordinates of a tetrahedron with entries of at most 1 -/
import Derived.Test.YtlkbokbcfajhjaaGreatG25s
import Derived.Test.YtlkbokbcfajhjaaGreatB17
import Derived.Test.YtlkbokbcfajhjaaGreatD1
namespace Go.Proofs.YtlkbokbcfajhjaaGreat
open Go.Proofs.Walk
set_option maxRecDepth 100000
set_option linter.unusedVariables false
set_option linter.unusedSimpArgs false

theorem en216 : Walk.Enters Tryz.prog 216 := Walk.enters Tryz.func216 (by kernel_rfl) rfl
theorem en217 : Walk.Enters Tryz.prog 217 := Walk.enters Tryz.func217 (by kernel_rfl) rfl
theorem en163 : Walk.Enters Tryz.prog 163 := Walk.enters Tryz.func163 (by kernel_rfl) rfl
/-- The k-th. -/
def lstV (k : Nat) : List Int := [((k / 7 / 2 / 2 / 2 : Nat) : Int), ((k / 7 / 2 / 2 % 2 : Nat) : Int), ((k / 7 / 2 % 2 : Nat) : Int), ((k / 7 % 2 : Nat) : Int), discL.getD (k % 7 * 6 + 0) 0, discL.getD (k % 7 * 6 + 1) 0, discL.getD (k % 7 * 6 + 2) 0, discL.getD (k % 7 * 6 + 3) 0, discL.getD (k % 7 * 6 + 4) 0, discL.getD (k % 7 * 6 + 5) 0]
def lstA (k : Nat) : Array Value := #[.agg ((lstV k).map (Value.int .i64)).toArray]
/-- The first x units. -/
def unitL (x : Nat) : List Int := (List.range (6 * x)).map fun p => if p / 6 = p % 6 then 1 else 0
theorem unitL_succ (x : Nat) : unitL (x + 1) = unitL x ++ [if x = 0 then 1 else 0, if x = 1 then 1 else 0, if x = 2 then 1 else 0, if x = 3 then 1 else 0, if x = 4 then 1 else 0, if x = 5 then 1 else 0] := by
  unfold unitL
  rw [show 6 * (x + 1) = 6 * x + 1 + 1 + 1 + 1 + 1 + 1 by omega]
  simp only [List.range_succ, List.map_append, List.map_cons, List.map_nil, List.append_assoc, List.cons_append, List.nil_append]
  congr 1
  simp only [show (6 * x + 1) / 6 = x by omega, show (6 * x + 1) % 6 = 1 by omega, show (6 * x + 1 + 1) / 6 = x by omega, show (6 * x + 1 + 1) % 6 = 2 by omega, show (6 * x + 1 + 1 + 1) / 6 = x by omega, show (6 * x + 1 + 1 + 1) % 6 = 3 by omega, show (6 * x + 1 + 1 + 1 + 1) / 6 = x by omega, show (6 * x + 1 + 1 + 1 + 1) % 6 = 4 by omega, show (6 * x + 1 + 1 + 1 + 1 + 1) / 6 = x by omega, show (6 * x + 1 + 1 + 1 + 1 + 1) % 6 = 5 by omega, show (6 * x) / 6 = x by omega, show (6 * x) % 6 = 0 by omega]
theorem unit_set : ∀ x : Fin 6, ([0, 0, 0, 0, 0, 0] : List Int).set (0 + x.1) 1 = [if x.1 = 0 then 1 else 0, if x.1 = 1 then 1 else 0, if x.1 = 2 then 1 else 0, if x.1 = 3 then 1 else 0, if x.1 = 4 then 1 else 0, if x.1 = 5 then 1 else 0] := by decide
theorem unit_vals {x : Nat} (hx : x < 6) : [if x = 0 then 1 else 0, if x = 1 then 1 else 0, if x = 2 then 1 else 0, if x = 3 then 1 else 0, if x = 4 then 1 else 0, if x = 5 then 1 else 0].map (Value.int .i64) = [.int .i64 ((([0, 0, 0, 0, 0, 0] : List Int).set (0 + x) 1).getD (0 + 0) 0), .int .i64 ((([0, 0, 0, 0, 0, 0] : List Int).set (0 + x) 1).getD (0 + 1) 0), .int .i64 ((([0, 0, 0, 0, 0, 0] : List Int).set (0 + x) 1).getD (0 + 2) 0), .int .i64 ((([0, 0, 0, 0, 0, 0] : List Int).set (0 + x) 1).getD (0 + 3) 0), .int .i64 ((([0, 0, 0, 0, 0, 0] : List Int).set (0 + x) 1).getD (0 + 4) 0), .int .i64 ((([0, 0, 0, 0, 0, 0] : List Int).set (0 + x) 1).getD (0 + 5) 0)] := by
  have h : x = 0 ∨ x = 1 ∨ x = 2 ∨ x = 3 ∨ x = 4 ∨ x = 5 := by omega
  rcases h with rfl | rfl | rfl | rfl | rfl | rfl <;> rfl
theorem discU_eq : discU = unitL 6 ++ [0, 0, 0, 0, 0, 0] := by decide
theorem discL_len : discL.length = 42 := rfl
theorem lists_ (w : World) : Calls Tryz.prog 163 #[.int .i64 1] w fun e w' => ∃ bm, True ∧ e = .returned (.func (.func 216) #[] #[.pointer (some ⟨bm, 0, none⟩)]) ∧ Rep w [] [(bm, .cells #[.int .i64 1] 3 (0, 0))] w' := by
  refine calls_of (n := 4) Tryz.func163 rfl Tryz.ntmps163 rfl ?_
  refine tri_eq (l' := [(0, ii 1)]) (hs' := []) rfl rfl ?_
  refine wr [0, 1] rfl ?_
  refine kB (ii 1) fun b1 => ?_
  refine kSn 1 0 [] [1] [0, 1] ?_
  refine kSe 2 0 [(2, .func (.func 216) #[] #[pt b1 0])] [] ?_
  refine tri_ret ?_
  refine post_ret1 (v := .func (.func 216) #[] #[pt b1 0]) rfl (.tmp rfl) (fun W hR => ?_)
  exact ⟨b1, trivial, rfl, hR⟩

theorem lists_iter {bm : Nat} {W0 : World} {M : List Nat} : Iter Tryz.prog 216 #[.pointer (some ⟨bm, 0, none⟩)] [(bm, .cells #[.int .i64 1] 3 (0, 0))] 112 lstA W0 M := by
  refine ⟨fun β H I Ix yv hy x₀ hI own W hR => ?_⟩
  refine calls_iter (H := H) (z := x₀) (capt := [(bm, .cells #[.int .i64 1] 3 (0, 0))]) (own := own) Tryz.func216 rfl Tryz.ntmps216 rfl hR ?_
  refine tri_eq (l' := [(0, yv), (1, pt bm 0)]) (hs' := (bm, .cells #[ii 1] 3 (0, 0)) :: (H x₀ ++ own)) rfl rfl ?_
  refine wr [0] rfl ?_
  refine kSe 1 0 [(3, .slice none 0 0)] [0, 1] ?_
  refine tri_seq ?_
  refine wr [0] rfl ?_
  refine kSe 1 0 [(12, ii 0)] [3, 0, 1] ?_
  refine tri_block ?_
  refine tri_heq (hs' := (bm, .cells #[ii 1] 3 (0, 0)) :: ([] ++ ((H x₀ ++ own)))) rfl ?_
  refine tri_loop (β := Nat × Value × List (Nat × Obj)) (fun xz => [(0, yv), (1, pt bm 0), (12, ii (xz.1 : Int)), (3, xz.2.1)]) (fun xz => (bm, .cells #[ii 1] 3 (0, 0)) :: (xz.2.2 ++ ((H x₀ ++ own)))) (fun xz => xz.1 ≤ 6 ∧ Vec 174 6 ((unitL xz.1).map (Value.int .i64)) xz.1 xz.2.1 xz.2.2) (fun xz => 6 - xz.1) (0, (.slice none 0 0), []) (look_pickL (ks := [0, 1, 12, 3]) (by kernel_rfl)) (List.Sublist.refl _) ⟨Nat.zero_le _, Vec.nil⟩ ?_
  rintro ⟨x, sv, hv⟩ hC0
  try dsimp only at hC0
  refine tri_eq (l' := [(0, yv), (1, pt bm 0), (12, ii (x : Int)), (3, sv)]) (hs' := (bm, .cells #[ii 1] 3 (0, 0)) :: (hv ++ ((H x₀ ++ own)))) rfl rfl ?_
  refine wr [0] rfl ?_
  refine kSe 1 5 [(13, .bool (decide ((x : Int) < 6)))] [0, 1, 12, 3] ?_
  refine tri_seq ?_
  refine tri_cond_dec (p := (x : Int) < 6) rfl (fun h1 => ?_) (fun h1 => ?_)
  · refine tri_skip ?_
    refine post_then ?_
    refine tri_seq ?_
    refine tri_block ?_
    refine wr [0, 1] rfl ?_
    refine kSn 2 0 [(4, ii (x : Int))] [0, 1, 12, 3] [0] ?_
    refine kSe 1 0 [(5, ii 1)] [4, 0, 1, 12, 3] ?_
    refine tri_block ?_
    refine tri_rounds 1 ?_
    refine tri_seq ?_
    refine tri_seq ?_
    by_cases h2 : (x : Int) < 3
    · refine tri_region (todo := [0, 1, 2, 3, 4, 5, 6, 7, 8, 9, 10]) rfl ?_
      refine kS 1 0 [(15, ii 1)] [5, 4, 0, 1, 12, 3] ?_
      refine kL 0 (ii 1) ?_
      refine kOe 9 17850368 [(25, .bool true)] [5, 4, 0, 1, 12, 3] [(x : Int) < 3] h2 ?_
      refine tri_cond_true rfl ?_
      refine tri_skip ?_
      refine post_then ?_
      refine tri_seq ?_
      refine tri_block ?_
      refine wr [0] rfl ?_
      refine kA (.agg #[ii 0, ii 0, ii 0, ii 0, ii 0, ii 0]) fun b1 => ?_
      refine kP [6, 5, 4, 0, 1, 12, 3] ?_
      refine wn [0, 1, 2, 3] rfl ?_
      refine kO 3 2304 [(30, pt b1 (0 + x)), (29, ii 1)] [6, 5, 4, 0, 1, 12, 3] [(0 : Int) ≤ (x : Int), (x : Int) < ((6 : Nat) : Int)] (by refine ap ?_ (ap1 ?_) <;> (omega)) ?_
      refine opsT_heq (hs' := (b1, intsB [0, 0, 0, 0, 0, 0] 174) :: (bm, .cells #[ii 1] 3 (0, 0)) :: (hv ++ ((H x₀ ++ own)))) rfl ?_
      refine opsT_storeInt 0 b1 (0 + x) [0, 0, 0, 0, 0, 0] 174 1 rfl rfl rfl rfl rfl rfl rfl rfl (by kernel_rfl) (by first | omega | (rw [List.length_set]; show 0 + 6 ≤ 6; omega) | (show 0 + x < 6; omega) | (simp; omega) | (rw [discL_len]; omega)) ?_
      refine kPe [6, 5, 4, 0, 1, 12, 3] ?_
      refine tri_region (todo := [0, 1, 2, 3, 4]) rfl ?_
      refine kS 1 0 [(31, sv)] [6, 5, 4, 0, 1, 12, 3] ?_
      refine kI 0 0 6 ([0, 0, 0, 0, 0, 0].set (0 + x) 1) (.agg #[ii (([0, 0, 0, 0, 0, 0].set (0 + x) 1).getD (0 + 0) 0), ii (([0, 0, 0, 0, 0, 0].set (0 + x) 1).getD (0 + 1) 0), ii (([0, 0, 0, 0, 0, 0].set (0 + x) 1).getD (0 + 2) 0), ii (([0, 0, 0, 0, 0, 0].set (0 + x) 1).getD (0 + 3) 0), ii (([0, 0, 0, 0, 0, 0].set (0 + x) 1).getD (0 + 4) 0), ii (([0, 0, 0, 0, 0, 0].set (0 + x) 1).getD (0 + 5) 0)]) (by first | omega | (rw [List.length_set]; show 0 + 6 ≤ 6; omega) | (show 0 + x < 6; omega) | (simp; omega) | (rw [discL_len]; omega)) ?_
      refine opsT_buildSlice (e := 174) (size := 6) (z := .agg #[ii 0, ii 0, ii 0, ii 0, ii 0, ii 0]) [ii (([0, 0, 0, 0, 0, 0].set (0 + x) 1).getD (0 + 0) 0), ii (([0, 0, 0, 0, 0, 0].set (0 + x) 1).getD (0 + 1) 0), ii (([0, 0, 0, 0, 0, 0].set (0 + x) 1).getD (0 + 2) 0), ii (([0, 0, 0, 0, 0, 0].set (0 + x) 1).getD (0 + 3) 0), ii (([0, 0, 0, 0, 0, 0].set (0 + x) 1).getD (0 + 4) 0), ii (([0, 0, 0, 0, 0, 0].set (0 + x) 1).getD (0 + 5) 0)] rfl rfl rfl rfl rfl rfl (by kernel_rfl) (by kernel_rfl) (by kernel_rfl) (by kernel_rfl) (fun b2 => ?_)
      refine opsT_heq (hs' := (b2, .cells #[ii (([0, 0, 0, 0, 0, 0].set (0 + x) 1).getD (0 + 0) 0), ii (([0, 0, 0, 0, 0, 0].set (0 + x) 1).getD (0 + 1) 0), ii (([0, 0, 0, 0, 0, 0].set (0 + x) 1).getD (0 + 2) 0), ii (([0, 0, 0, 0, 0, 0].set (0 + x) 1).getD (0 + 3) 0), ii (([0, 0, 0, 0, 0, 0].set (0 + x) 1).getD (0 + 4) 0), ii (([0, 0, 0, 0, 0, 0].set (0 + x) 1).getD (0 + 5) 0)] 174 (0, 0)) :: (b1, intsB ([0, 0, 0, 0, 0, 0].set (0 + x) 1) 174) :: (bm, .cells #[ii 1] 3 (0, 0)) :: (hv ++ ((H x₀ ++ own)))) rfl ?_
      refine opsT_append (e := 174) (size := 6) (bytes := 48) (z := (.agg #[ii 0, ii 0, ii 0, ii 0, ii 0, ii 0])) (vs := (unitL x).map (Value.int .i64)) (news := [ii (([0, 0, 0, 0, 0, 0].set (0 + x) 1).getD (0 + 0) 0), ii (([0, 0, 0, 0, 0, 0].set (0 + x) 1).getD (0 + 1) 0), ii (([0, 0, 0, 0, 0, 0].set (0 + x) 1).getD (0 + 2) 0), ii (([0, 0, 0, 0, 0, 0].set (0 + x) 1).getD (0 + 3) 0), ii (([0, 0, 0, 0, 0, 0].set (0 + x) 1).getD (0 + 4) 0), ii (([0, 0, 0, 0, 0, 0].set (0 + x) 1).getD (0 + 5) 0)]) (m := x) (k := 1) (sv := sv) (hv := hv) (own := (b2, .cells #[ii (([0, 0, 0, 0, 0, 0].set (0 + x) 1).getD (0 + 0) 0), ii (([0, 0, 0, 0, 0, 0].set (0 + x) 1).getD (0 + 1) 0), ii (([0, 0, 0, 0, 0, 0].set (0 + x) 1).getD (0 + 2) 0), ii (([0, 0, 0, 0, 0, 0].set (0 + x) 1).getD (0 + 3) 0), ii (([0, 0, 0, 0, 0, 0].set (0 + x) 1).getD (0 + 4) 0), ii (([0, 0, 0, 0, 0, 0].set (0 + x) 1).getD (0 + 5) 0)] 174 (0, 0)) :: (b1, intsB ([0, 0, 0, 0, 0, 0].set (0 + x) 1) 174) :: (bm, .cells #[ii 1] 3 (0, 0)) :: (H x₀ ++ own)) rfl rfl rfl rfl rfl rfl rfl rfl rfl rfl rfl (by kernel_rfl) (by kernel_rfl) rfl (List.perm_append_comm_assoc ([(b2, .cells #[ii (([0, 0, 0, 0, 0, 0].set (0 + x) 1).getD (0 + 0) 0), ii (([0, 0, 0, 0, 0, 0].set (0 + x) 1).getD (0 + 1) 0), ii (([0, 0, 0, 0, 0, 0].set (0 + x) 1).getD (0 + 2) 0), ii (([0, 0, 0, 0, 0, 0].set (0 + x) 1).getD (0 + 3) 0), ii (([0, 0, 0, 0, 0, 0].set (0 + x) 1).getD (0 + 4) 0), ii (([0, 0, 0, 0, 0, 0].set (0 + x) 1).getD (0 + 5) 0)] 174 (0, 0)), (b1, intsB ([0, 0, 0, 0, 0, 0].set (0 + x) 1) 174), (bm, .cells #[ii 1] 3 (0, 0))] : List (Nat × Obj)) hv ((H x₀ ++ own) : List (Nat × Obj))) hC0.2 rfl (by omega) (by omega) (fun W hR => src_own (e2 := 174) (off := 0) (us := [ii (([0, 0, 0, 0, 0, 0].set (0 + x) 1).getD (0 + 0) 0), ii (([0, 0, 0, 0, 0, 0].set (0 + x) 1).getD (0 + 1) 0), ii (([0, 0, 0, 0, 0, 0].set (0 + x) 1).getD (0 + 2) 0), ii (([0, 0, 0, 0, 0, 0].set (0 + x) 1).getD (0 + 3) 0), ii (([0, 0, 0, 0, 0, 0].set (0 + x) 1).getD (0 + 4) 0), ii (([0, 0, 0, 0, 0, 0].set (0 + x) 1).getD (0 + 5) 0)]) hR (by kernel_rfl) (List.mem_append_right _ (List.mem_of_getElem? (i := 0) rfl)) rfl (fun j v hj => by simpa using hj) rfl) (fun sv1 hv1 hV1 => ?_)
      refine opsT_perm (hs' := (b2, .cells #[ii (([0, 0, 0, 0, 0, 0].set (0 + x) 1).getD (0 + 0) 0), ii (([0, 0, 0, 0, 0, 0].set (0 + x) 1).getD (0 + 1) 0), ii (([0, 0, 0, 0, 0, 0].set (0 + x) 1).getD (0 + 2) 0), ii (([0, 0, 0, 0, 0, 0].set (0 + x) 1).getD (0 + 3) 0), ii (([0, 0, 0, 0, 0, 0].set (0 + x) 1).getD (0 + 4) 0), ii (([0, 0, 0, 0, 0, 0].set (0 + x) 1).getD (0 + 5) 0)] 174 (0, 0)) :: (b1, intsB ([0, 0, 0, 0, 0, 0].set (0 + x) 1) 174) :: (bm, .cells #[ii 1] 3 (0, 0)) :: (hv1 ++ ((H x₀ ++ own)))) (List.perm_append_comm_assoc hv1 ([(b2, .cells #[ii (([0, 0, 0, 0, 0, 0].set (0 + x) 1).getD (0 + 0) 0), ii (([0, 0, 0, 0, 0, 0].set (0 + x) 1).getD (0 + 1) 0), ii (([0, 0, 0, 0, 0, 0].set (0 + x) 1).getD (0 + 2) 0), ii (([0, 0, 0, 0, 0, 0].set (0 + x) 1).getD (0 + 3) 0), ii (([0, 0, 0, 0, 0, 0].set (0 + x) 1).getD (0 + 4) 0), ii (([0, 0, 0, 0, 0, 0].set (0 + x) 1).getD (0 + 5) 0)] 174 (0, 0)), (b1, intsB ([0, 0, 0, 0, 0, 0].set (0 + x) 1) 174), (bm, .cells #[ii 1] 3 (0, 0))] : List (Nat × Obj)) ((H x₀ ++ own) : List (Nat × Obj))) ?_
      refine kS 1 0 [(3, sv1)] [5, 4, 0, 1, 12] ?_
      refine opsT_end ?_
      refine post_block ?_
      refine post_then ?_
      refine tri_region (todo := [0, 1, 2]) rfl ?_
      refine kS 3 0 [(5, ii 2)] [3, 4, 0, 1, 12] ?_
      refine opsT_end ?_
      refine post_more ?_
      refine tri_seq ?_
      refine wr [0, 1, 2, 3, 4, 5, 6, 7, 8, 9, 10] rfl ?_
      refine kS 1 0 [(15, ii 2)] [5, 3, 4, 0, 1, 12] ?_
      refine kL 2 (ii 1) ?_
      refine kSe 9 286331136 [(25, .bool false)] [5, 3, 4, 0, 1, 12] ?_
      refine tri_cond_false rfl ?_
      refine tri_exit ?_
      refine post_then_exit ?_
      refine post_more_exit ?_
      refine post_block_hit ?_
      refine post_block ?_
      refine post_then ?_
      refine tri_region (todo := [0, 1]) rfl ?_
      refine kO 2 2 [(12, ii ((x : Int) + 1))] [3, 0, 1] [I64 ((x : Int) + 1)] (ap1 (by omega)) ?_
      refine opsT_end ?_
      refine post_round ((x + 1), sv1, hv1) ⟨by omega, by rw [unitL_succ, List.map_append, unit_vals (by omega)]; exact hV1⟩ (by show 6 - (x + 1) < 6 - x; omega) (look_pickL (ks := [0, 1, 12, 3]) (by kernel_rfl)) (.cons _ (.cons _ (List.Sublist.refl _)))
    · refine tri_region (todo := [0, 1, 2, 3, 4, 5, 6, 7, 8, 9, 10]) rfl ?_
      refine kS 1 0 [(15, ii 1)] [5, 4, 0, 1, 12, 3] ?_
      refine kL 0 (ii 1) ?_
      refine kOe 9 28672 [(25, .bool true)] [5, 4, 0, 1, 12, 3] [¬ ((x : Int) < 3)] h2 ?_
      refine tri_cond_true rfl ?_
      refine tri_skip ?_
      refine post_then ?_
      refine tri_seq ?_
      refine tri_block ?_
      refine wr [0] rfl ?_
      refine kA (.agg #[ii 0, ii 0, ii 0, ii 0, ii 0, ii 0]) fun b1 => ?_
      refine kP [6, 5, 4, 0, 1, 12, 3] ?_
      refine wn [0, 1, 2, 3] rfl ?_
      refine kO 3 2304 [(30, pt b1 (0 + x)), (29, ii 1)] [6, 5, 4, 0, 1, 12, 3] [(0 : Int) ≤ (x : Int), (x : Int) < ((6 : Nat) : Int)] (by refine ap ?_ (ap1 ?_) <;> (omega)) ?_
      refine opsT_heq (hs' := (b1, intsB [0, 0, 0, 0, 0, 0] 174) :: (bm, .cells #[ii 1] 3 (0, 0)) :: (hv ++ ((H x₀ ++ own)))) rfl ?_
      refine opsT_storeInt 0 b1 (0 + x) [0, 0, 0, 0, 0, 0] 174 1 rfl rfl rfl rfl rfl rfl rfl rfl (by kernel_rfl) (by first | omega | (rw [List.length_set]; show 0 + 6 ≤ 6; omega) | (show 0 + x < 6; omega) | (simp; omega) | (rw [discL_len]; omega)) ?_
      refine kPe [6, 5, 4, 0, 1, 12, 3] ?_
      refine tri_region (todo := [0, 1, 2, 3, 4]) rfl ?_
      refine kS 1 0 [(31, sv)] [6, 5, 4, 0, 1, 12, 3] ?_
      refine kI 0 0 6 ([0, 0, 0, 0, 0, 0].set (0 + x) 1) (.agg #[ii (([0, 0, 0, 0, 0, 0].set (0 + x) 1).getD (0 + 0) 0), ii (([0, 0, 0, 0, 0, 0].set (0 + x) 1).getD (0 + 1) 0), ii (([0, 0, 0, 0, 0, 0].set (0 + x) 1).getD (0 + 2) 0), ii (([0, 0, 0, 0, 0, 0].set (0 + x) 1).getD (0 + 3) 0), ii (([0, 0, 0, 0, 0, 0].set (0 + x) 1).getD (0 + 4) 0), ii (([0, 0, 0, 0, 0, 0].set (0 + x) 1).getD (0 + 5) 0)]) (by first | omega | (rw [List.length_set]; show 0 + 6 ≤ 6; omega) | (show 0 + x < 6; omega) | (simp; omega) | (rw [discL_len]; omega)) ?_
      refine opsT_buildSlice (e := 174) (size := 6) (z := .agg #[ii 0, ii 0, ii 0, ii 0, ii 0, ii 0]) [ii (([0, 0, 0, 0, 0, 0].set (0 + x) 1).getD (0 + 0) 0), ii (([0, 0, 0, 0, 0, 0].set (0 + x) 1).getD (0 + 1) 0), ii (([0, 0, 0, 0, 0, 0].set (0 + x) 1).getD (0 + 2) 0), ii (([0, 0, 0, 0, 0, 0].set (0 + x) 1).getD (0 + 3) 0), ii (([0, 0, 0, 0, 0, 0].set (0 + x) 1).getD (0 + 4) 0), ii (([0, 0, 0, 0, 0, 0].set (0 + x) 1).getD (0 + 5) 0)] rfl rfl rfl rfl rfl rfl (by kernel_rfl) (by kernel_rfl) (by kernel_rfl) (by kernel_rfl) (fun b2 => ?_)
      refine opsT_heq (hs' := (b2, .cells #[ii (([0, 0, 0, 0, 0, 0].set (0 + x) 1).getD (0 + 0) 0), ii (([0, 0, 0, 0, 0, 0].set (0 + x) 1).getD (0 + 1) 0), ii (([0, 0, 0, 0, 0, 0].set (0 + x) 1).getD (0 + 2) 0), ii (([0, 0, 0, 0, 0, 0].set (0 + x) 1).getD (0 + 3) 0), ii (([0, 0, 0, 0, 0, 0].set (0 + x) 1).getD (0 + 4) 0), ii (([0, 0, 0, 0, 0, 0].set (0 + x) 1).getD (0 + 5) 0)] 174 (0, 0)) :: (b1, intsB ([0, 0, 0, 0, 0, 0].set (0 + x) 1) 174) :: (bm, .cells #[ii 1] 3 (0, 0)) :: (hv ++ ((H x₀ ++ own)))) rfl ?_
      refine opsT_append (e := 174) (size := 6) (bytes := 48) (z := (.agg #[ii 0, ii 0, ii 0, ii 0, ii 0, ii 0])) (vs := (unitL x).map (Value.int .i64)) (news := [ii (([0, 0, 0, 0, 0, 0].set (0 + x) 1).getD (0 + 0) 0), ii (([0, 0, 0, 0, 0, 0].set (0 + x) 1).getD (0 + 1) 0), ii (([0, 0, 0, 0, 0, 0].set (0 + x) 1).getD (0 + 2) 0), ii (([0, 0, 0, 0, 0, 0].set (0 + x) 1).getD (0 + 3) 0), ii (([0, 0, 0, 0, 0, 0].set (0 + x) 1).getD (0 + 4) 0), ii (([0, 0, 0, 0, 0, 0].set (0 + x) 1).getD (0 + 5) 0)]) (m := x) (k := 1) (sv := sv) (hv := hv) (own := (b2, .cells #[ii (([0, 0, 0, 0, 0, 0].set (0 + x) 1).getD (0 + 0) 0), ii (([0, 0, 0, 0, 0, 0].set (0 + x) 1).getD (0 + 1) 0), ii (([0, 0, 0, 0, 0, 0].set (0 + x) 1).getD (0 + 2) 0), ii (([0, 0, 0, 0, 0, 0].set (0 + x) 1).getD (0 + 3) 0), ii (([0, 0, 0, 0, 0, 0].set (0 + x) 1).getD (0 + 4) 0), ii (([0, 0, 0, 0, 0, 0].set (0 + x) 1).getD (0 + 5) 0)] 174 (0, 0)) :: (b1, intsB ([0, 0, 0, 0, 0, 0].set (0 + x) 1) 174) :: (bm, .cells #[ii 1] 3 (0, 0)) :: (H x₀ ++ own)) rfl rfl rfl rfl rfl rfl rfl rfl rfl rfl rfl (by kernel_rfl) (by kernel_rfl) rfl (List.perm_append_comm_assoc ([(b2, .cells #[ii (([0, 0, 0, 0, 0, 0].set (0 + x) 1).getD (0 + 0) 0), ii (([0, 0, 0, 0, 0, 0].set (0 + x) 1).getD (0 + 1) 0), ii (([0, 0, 0, 0, 0, 0].set (0 + x) 1).getD (0 + 2) 0), ii (([0, 0, 0, 0, 0, 0].set (0 + x) 1).getD (0 + 3) 0), ii (([0, 0, 0, 0, 0, 0].set (0 + x) 1).getD (0 + 4) 0), ii (([0, 0, 0, 0, 0, 0].set (0 + x) 1).getD (0 + 5) 0)] 174 (0, 0)), (b1, intsB ([0, 0, 0, 0, 0, 0].set (0 + x) 1) 174), (bm, .cells #[ii 1] 3 (0, 0))] : List (Nat × Obj)) hv ((H x₀ ++ own) : List (Nat × Obj))) hC0.2 rfl (by omega) (by omega) (fun W hR => src_own (e2 := 174) (off := 0) (us := [ii (([0, 0, 0, 0, 0, 0].set (0 + x) 1).getD (0 + 0) 0), ii (([0, 0, 0, 0, 0, 0].set (0 + x) 1).getD (0 + 1) 0), ii (([0, 0, 0, 0, 0, 0].set (0 + x) 1).getD (0 + 2) 0), ii (([0, 0, 0, 0, 0, 0].set (0 + x) 1).getD (0 + 3) 0), ii (([0, 0, 0, 0, 0, 0].set (0 + x) 1).getD (0 + 4) 0), ii (([0, 0, 0, 0, 0, 0].set (0 + x) 1).getD (0 + 5) 0)]) hR (by kernel_rfl) (List.mem_append_right _ (List.mem_of_getElem? (i := 0) rfl)) rfl (fun j v hj => by simpa using hj) rfl) (fun sv1 hv1 hV1 => ?_)
      refine opsT_perm (hs' := (b2, .cells #[ii (([0, 0, 0, 0, 0, 0].set (0 + x) 1).getD (0 + 0) 0), ii (([0, 0, 0, 0, 0, 0].set (0 + x) 1).getD (0 + 1) 0), ii (([0, 0, 0, 0, 0, 0].set (0 + x) 1).getD (0 + 2) 0), ii (([0, 0, 0, 0, 0, 0].set (0 + x) 1).getD (0 + 3) 0), ii (([0, 0, 0, 0, 0, 0].set (0 + x) 1).getD (0 + 4) 0), ii (([0, 0, 0, 0, 0, 0].set (0 + x) 1).getD (0 + 5) 0)] 174 (0, 0)) :: (b1, intsB ([0, 0, 0, 0, 0, 0].set (0 + x) 1) 174) :: (bm, .cells #[ii 1] 3 (0, 0)) :: (hv1 ++ ((H x₀ ++ own)))) (List.perm_append_comm_assoc hv1 ([(b2, .cells #[ii (([0, 0, 0, 0, 0, 0].set (0 + x) 1).getD (0 + 0) 0), ii (([0, 0, 0, 0, 0, 0].set (0 + x) 1).getD (0 + 1) 0), ii (([0, 0, 0, 0, 0, 0].set (0 + x) 1).getD (0 + 2) 0), ii (([0, 0, 0, 0, 0, 0].set (0 + x) 1).getD (0 + 3) 0), ii (([0, 0, 0, 0, 0, 0].set (0 + x) 1).getD (0 + 4) 0), ii (([0, 0, 0, 0, 0, 0].set (0 + x) 1).getD (0 + 5) 0)] 174 (0, 0)), (b1, intsB ([0, 0, 0, 0, 0, 0].set (0 + x) 1) 174), (bm, .cells #[ii 1] 3 (0, 0))] : List (Nat × Obj)) ((H x₀ ++ own) : List (Nat × Obj))) ?_
      refine kS 1 0 [(3, sv1)] [5, 4, 0, 1, 12] ?_
      refine opsT_end ?_
      refine post_block ?_
      refine post_then ?_
      refine tri_region (todo := [0, 1, 2]) rfl ?_
      refine kS 3 0 [(5, ii 2)] [3, 4, 0, 1, 12] ?_
      refine opsT_end ?_
      refine post_more ?_
      refine tri_seq ?_
      refine wr [0, 1, 2, 3, 4, 5, 6, 7, 8, 9, 10] rfl ?_
      refine kS 1 0 [(15, ii 2)] [5, 3, 4, 0, 1, 12] ?_
      refine kL 2 (ii 1) ?_
      refine kSe 9 286331136 [(25, .bool false)] [5, 3, 4, 0, 1, 12] ?_
      refine tri_cond_false rfl ?_
      refine tri_exit ?_
      refine post_then_exit ?_
      refine post_more_exit ?_
      refine post_block_hit ?_
      refine post_block ?_
      refine post_then ?_
      refine tri_region (todo := [0, 1]) rfl ?_
      refine kO 2 2 [(12, ii ((x : Int) + 1))] [3, 0, 1] [I64 ((x : Int) + 1)] (ap1 (by omega)) ?_
      refine opsT_end ?_
      refine post_round ((x + 1), sv1, hv1) ⟨by omega, by rw [unitL_succ, List.map_append, unit_vals (by omega)]; exact hV1⟩ (by show 6 - (x + 1) < 6 - x; omega) (look_pickL (ks := [0, 1, 12, 3]) (by kernel_rfl)) (.cons _ (.cons _ (List.Sublist.refl _)))
  · refine tri_exit ?_
    refine post_then_exit ?_
    refine post_round_exit ?_
    refine post_block_hit ?_
    refine post_then ?_
    refine wr [0, 1, 2, 3, 4] rfl ?_
    refine kS 2 0 [(37, .agg #[ii 0, ii 0, ii 0, ii 0, ii 0, ii 0]), (36, sv)] [0, 1, 3] ?_
    refine opsT_buildSlice (e := 174) (size := 6) (z := .agg #[ii 0, ii 0, ii 0, ii 0, ii 0, ii 0]) [ii 0, ii 0, ii 0, ii 0, ii 0, ii 0] rfl rfl rfl rfl rfl rfl (by kernel_rfl) (by kernel_rfl) (by kernel_rfl) (by kernel_rfl) (fun b1 => ?_)
    refine opsT_heq (hs' := (b1, .cells #[ii 0, ii 0, ii 0, ii 0, ii 0, ii 0] 174 (0, 0)) :: (bm, .cells #[ii 1] 3 (0, 0)) :: (hv ++ ((H x₀ ++ own)))) rfl ?_
    refine opsT_append (e := 174) (size := 6) (bytes := 48) (z := (.agg #[ii 0, ii 0, ii 0, ii 0, ii 0, ii 0])) (vs := (unitL x).map (Value.int .i64)) (news := [ii 0, ii 0, ii 0, ii 0, ii 0, ii 0]) (m := x) (k := 1) (sv := sv) (hv := hv) (own := (b1, .cells #[ii 0, ii 0, ii 0, ii 0, ii 0, ii 0] 174 (0, 0)) :: (bm, .cells #[ii 1] 3 (0, 0)) :: (H x₀ ++ own)) rfl rfl rfl rfl rfl rfl rfl rfl rfl rfl rfl (by kernel_rfl) (by kernel_rfl) rfl (List.perm_append_comm_assoc ([(b1, .cells #[ii 0, ii 0, ii 0, ii 0, ii 0, ii 0] 174 (0, 0)), (bm, .cells #[ii 1] 3 (0, 0))] : List (Nat × Obj)) hv ((H x₀ ++ own) : List (Nat × Obj))) hC0.2 rfl (by omega) (by omega) (fun W hR => src_own (e2 := 174) (off := 0) (us := [ii 0, ii 0, ii 0, ii 0, ii 0, ii 0]) hR (by kernel_rfl) (List.mem_append_right _ (List.mem_of_getElem? (i := 0) rfl)) rfl (fun j v hj => by simpa using hj) rfl) (fun sv1 hv1 hV1 => ?_)
    refine opsT_perm (hs' := (b1, .cells #[ii 0, ii 0, ii 0, ii 0, ii 0, ii 0] 174 (0, 0)) :: (bm, .cells #[ii 1] 3 (0, 0)) :: (hv1 ++ ((H x₀ ++ own)))) (List.perm_append_comm_assoc hv1 ([(b1, .cells #[ii 0, ii 0, ii 0, ii 0, ii 0, ii 0] 174 (0, 0)), (bm, .cells #[ii 1] 3 (0, 0))] : List (Nat × Obj)) ((H x₀ ++ own) : List (Nat × Obj))) ?_
    refine kSe 1 0 [(3, sv1)] [0, 1] ?_
    refine tri_seq ?_
    obtain ⟨bq, capq, spq, hsv, _, _, hhv⟩ := hV1.pos (by omega)
    subst hsv; subst hhv
    refine tri_eq (l' := [(3, sl bq 0 7 capq), (0, yv), (1, pt bm 0)]) (hs' := (b1, .cells #[ii 0, ii 0, ii 0, ii 0, ii 0, ii 0] 174 (0, 0)) :: (bm, .cells #[ii 1] 3 (0, 0)) :: (bq, roomB discU spq 174) :: (H x₀ ++ own)) (by rw [show x + 1 = 7 by omega]) (by rw [show x = 6 by omega, discU_eq]; simp [roomB]) ?_
    refine tri_region (todo := [0, 1]) rfl ?_
    refine kS 1 0 [(40, sl bq 0 7 capq)] [3, 0, 1] ?_
    refine opsT_callR (f := 217) (args := #[sl bq 0 7 capq, .func (.func 218) #[] #[]]) [(bq, roomB discU spq 174)] ((b1, .cells #[ii 0, ii 0, ii 0, ii 0, ii 0, ii 0] 174 (0, 0)) :: (bm, .cells #[ii 1] 3 (0, 0)) :: (H x₀ ++ own)) (fun _ : Unit => .tuple #[]) (fun _ => [(bq, roomB discL spq 174)]) (fun _ => True) rfl rfl rfl rfl rfl (run_call en217 rfl rfl rfl (by kernel_rfl)) (List.perm_middle (l₁ := ([(b1, .cells #[ii 0, ii 0, ii 0, ii 0, ii 0, ii 0] 174 (0, 0)), (bm, .cells #[ii 1] 3 (0, 0))] : List (Nat × Obj)))) (fun W hR => (sortDiscs_ (hR.own bq _ (by simp))).mono fun e w' h => ⟨(), trivial, h.1, h.2⟩) (fun _ _ => ?_)
    refine opsT_perm (hs' := (b1, .cells #[ii 0, ii 0, ii 0, ii 0, ii 0, ii 0] 174 (0, 0)) :: (bm, .cells #[ii 1] 3 (0, 0)) :: (bq, roomB discL spq 174) :: (H x₀ ++ own)) (List.perm_middle (l₁ := ([(b1, .cells #[ii 0, ii 0, ii 0, ii 0, ii 0, ii 0] 174 (0, 0)), (bm, .cells #[ii 1] 3 (0, 0))] : List (Nat × Obj)))).symm ?_
    refine kP [3, 0, 1] ?_
    refine wn [0, 1, 2] rfl ?_
    refine kL 1 (ii 1) ?_
    refine kSn 2 0 [(7, ii 2)] [3, 0] [0, 1, 2, 3, 4, 5, 6, 7] ?_
    refine kSe 8 0 [(51, ii 0), (50, ii 16)] [7, 3, 0] ?_
    refine tri_block ?_
    refine tri_loop (β := Nat × β) (fun xz => [(50, ii 16), (7, ii 2), (3, sl bq 0 7 capq), (0, yv), (51, ii (xz.1 : Int))]) (fun xz => (bm, .cells #[ii 1] 3 (0, 0)) :: (bq, roomB discL spq 174) :: (H xz.2 ++ own)) (fun xz => xz.1 ≤ 16 ∧ I (7 * xz.1) xz.2) (fun xz => 16 - xz.1) (0, x₀) (look_pickL (ks := [50, 7, 3, 0, 51]) (by kernel_rfl)) (.cons _ (List.Sublist.refl _)) ⟨by omega, hI⟩ ?_
    rintro ⟨x, z⟩ hC2
    try dsimp only at hC2
    refine tri_eq (l' := [(50, ii 16), (7, ii 2), (3, sl bq 0 7 capq), (0, yv), (51, ii (x : Int))]) (hs' := (bm, .cells #[ii 1] 3 (0, 0)) :: (bq, roomB discL spq 174) :: (H z ++ own)) rfl rfl ?_
    refine wr [0] rfl ?_
    refine kSe 1 5 [(52, .bool (decide ((x : Int) < 16)))] [50, 7, 3, 0, 51] ?_
    refine tri_seq ?_
    refine tri_cond_dec (p := (x : Int) < 16) rfl (fun h2 => ?_) (fun h2 => ?_)
    · refine tri_skip ?_
      refine post_then ?_
      refine tri_seq ?_
      refine tri_block ?_
      refine wr [0, 1] rfl ?_
      refine kSn 2 0 [(8, ii (x : Int))] [50, 7, 3, 0, 51] [0, 1, 2] ?_
      refine kSe 3 0 [(56, ii 0), (55, ii 7), (54, sl bq 0 7 capq)] [8, 50, 7, 3, 0, 51] ?_
      refine tri_block ?_
      refine tri_loop (β := Nat × β) (fun xz => [(55, ii 7), (54, sl bq 0 7 capq), (8, ii (x : Int)), (50, ii 16), (7, ii 2), (3, sl bq 0 7 capq), (0, yv), (51, ii (x : Int)), (56, ii (xz.1 : Int))]) (fun xz => (bm, .cells #[ii 1] 3 (0, 0)) :: (bq, roomB discL spq 174) :: (H xz.2 ++ own)) (fun xz => xz.1 ≤ 7 ∧ I (7 * x + xz.1) xz.2) (fun xz => 7 - xz.1) (0, z) (look_pickL (ks := [55, 54, 8, 50, 7, 3, 0, 51, 56]) (by kernel_rfl)) (List.Sublist.refl _) ⟨by omega, hC2.2⟩ ?_
      rintro ⟨j, z1⟩ hC3
      try dsimp only at hC3
      refine tri_eq (l' := [(55, ii 7), (54, sl bq 0 7 capq), (8, ii (x : Int)), (50, ii 16), (7, ii 2), (3, sl bq 0 7 capq), (0, yv), (51, ii (x : Int)), (56, ii (j : Int))]) (hs' := (bm, .cells #[ii 1] 3 (0, 0)) :: (bq, roomB discL spq 174) :: (H z1 ++ own)) rfl rfl ?_
      refine wr [0] rfl ?_
      refine kSe 1 5 [(57, .bool (decide ((j : Int) < 7)))] [55, 54, 8, 50, 7, 3, 0, 51, 56] ?_
      refine tri_seq ?_
      refine tri_cond_dec (p := (j : Int) < 7) rfl (fun h3 => ?_) (fun h3 => ?_)
      · refine tri_skip ?_
        refine post_then ?_
        refine tri_seq ?_
        refine tri_block ?_
        refine wr [0, 1, 2, 3] rfl ?_
        refine kO 1 9 [(58, pt bq (0 + j * 6))] [55, 54, 8, 50, 7, 3, 0, 51, 56] [(0 : Int) ≤ (j : Int), (j : Int) < ((7 : Nat) : Int)] (by refine ap ?_ (ap1 ?_) <;> (omega)) ?_
        refine opsT_loadRoomM 1 bq (0 + j * 6) 6 discL spq 174 (.agg #[ii (discL.getD (0 + j * 6 + 0) 0), ii (discL.getD (0 + j * 6 + 1) 0), ii (discL.getD (0 + j * 6 + 2) 0), ii (discL.getD (0 + j * 6 + 3) 0), ii (discL.getD (0 + j * 6 + 4) 0), ii (discL.getD (0 + j * 6 + 5) 0)]) rfl rfl rfl rfl rfl rfl rfl rfl (by first | omega | (rw [List.length_set]; show 0 + 6 ≤ 6; omega) | (show 0 + x < 6; omega) | (simp; omega) | (rw [discL_len]; omega)) (by kernel_rfl) ?_
        refine kA (.agg #[ii 0, ii 0, ii 0, ii 0, ii 0, ii 0]) fun b2 => ?_
        refine kW 0 #[ii (discL.getD (0 + j * 6 + 0) 0), ii (discL.getD (0 + j * 6 + 1) 0), ii (discL.getD (0 + j * 6 + 2) 0), ii (discL.getD (0 + j * 6 + 3) 0), ii (discL.getD (0 + j * 6 + 4) 0), ii (discL.getD (0 + j * 6 + 5) 0)] ?_
        refine kPe [10, 55, 54, 8, 50, 7, 3, 0, 51, 56] ?_
        refine tri_seq ?_
        refine tri_drawA 36 35 (fun b3 => [ii (x : Int), ii 2, ii ((x : Int) / 2), ii 2, ii (((x : Int) / 2) / 2), ii 2, ii ((((x : Int) / 2) / 2) / 2), ii (x : Int), ii 2, ii ((x : Int) / 2), ii 2, ii (((x : Int) / 2) / 2), ii 2, ii ((((x : Int) / 2) / 2) % 2), ii (x : Int), ii 2, ii ((x : Int) / 2), ii 2, ii (((x : Int) / 2) % 2), ii (x : Int), ii 2, ii ((x : Int) % 2), pt b2 0, ii (discL.getD (0 + j * 6 + 0) 0), pt b2 1, ii (discL.getD (0 + j * 6 + 1) 0), pt b2 2, ii (discL.getD (0 + j * 6 + 2) 0), pt b2 3, ii (discL.getD (0 + j * 6 + 3) 0), pt b2 4, ii (discL.getD (0 + j * 6 + 4) 0), pt b2 5, ii (discL.getD (0 + j * 6 + 5) 0), .agg #[ii ((((x : Int) / 2) / 2) / 2), ii ((((x : Int) / 2) / 2) % 2), ii (((x : Int) / 2) % 2), ii ((x : Int) % 2), ii (discL.getD (0 + j * 6 + 0) 0), ii (discL.getD (0 + j * 6 + 1) 0), ii (discL.getD (0 + j * 6 + 2) 0), ii (discL.getD (0 + j * 6 + 3) 0), ii (discL.getD (0 + j * 6 + 4) 0), ii (discL.getD (0 + j * 6 + 5) 0)], pt b3 0]) (fun b3 => pt b3 0) (.cells #[ii 0, ii 0, ii 0, ii 0, ii 0, ii 0, ii 0, ii 0, ii 0, ii 0] 224 (0, 0)) (l' := fun b3 => [(11, pt b3 0), (94, .agg #[ii ((((x : Int) / 2) / 2) / 2), ii ((((x : Int) / 2) / 2) % 2), ii (((x : Int) / 2) % 2), ii ((x : Int) % 2), ii (discL.getD (0 + j * 6 + 0) 0), ii (discL.getD (0 + j * 6 + 1) 0), ii (discL.getD (0 + j * 6 + 2) 0), ii (discL.getD (0 + j * 6 + 3) 0), ii (discL.getD (0 + j * 6 + 4) 0), ii (discL.getD (0 + j * 6 + 5) 0)]), (93, ii (discL.getD (0 + j * 6 + 5) 0)), (92, pt b2 5), (91, ii (discL.getD (0 + j * 6 + 4) 0)), (90, pt b2 4), (89, ii (discL.getD (0 + j * 6 + 3) 0)), (88, pt b2 3), (87, ii (discL.getD (0 + j * 6 + 2) 0)), (86, pt b2 2), (85, ii (discL.getD (0 + j * 6 + 1) 0)), (84, pt b2 1), (83, ii (discL.getD (0 + j * 6 + 0) 0)), (82, pt b2 0), (81, ii ((x : Int) % 2)), (80, ii 2), (79, ii (x : Int)), (78, ii (((x : Int) / 2) % 2)), (77, ii 2), (76, ii ((x : Int) / 2)), (75, ii 2), (74, ii (x : Int)), (73, ii ((((x : Int) / 2) / 2) % 2)), (72, ii 2), (71, ii (((x : Int) / 2) / 2)), (70, ii 2), (69, ii ((x : Int) / 2)), (68, ii 2), (67, ii (x : Int)), (66, ii ((((x : Int) / 2) / 2) / 2)), (65, ii 2), (64, ii (((x : Int) / 2) / 2)), (63, ii 2), (62, ii ((x : Int) / 2)), (61, ii 2), (60, ii (x : Int)), (10, pt b2 0), (55, ii 7), (54, sl bq 0 7 capq), (8, ii (x : Int)), (50, ii 16), (7, ii 2), (3, sl bq 0 7 capq), (0, yv), (51, ii (x : Int)), (56, ii (j : Int))]) (todo := [36]) (by kernel_rfl) (by kernel_rfl) (fun _ => rfl) (by kernel_rfl) (fun _ => rfl) (fun xA yA jA hjA => ?_) ?_ ?_ (lk := []) (by kernel_rfl) ?_ (fun _ => by kernel_rfl) rfl (fun b3 => ?_)
        · exact getElem?_but (f := fun b3 => [ii (x : Int), ii 2, ii ((x : Int) / 2), ii 2, ii (((x : Int) / 2) / 2), ii 2, ii ((((x : Int) / 2) / 2) / 2), ii (x : Int), ii 2, ii ((x : Int) / 2), ii 2, ii (((x : Int) / 2) / 2), ii 2, ii ((((x : Int) / 2) / 2) % 2), ii (x : Int), ii 2, ii ((x : Int) / 2), ii 2, ii (((x : Int) / 2) % 2), ii (x : Int), ii 2, ii ((x : Int) % 2), pt b2 0, ii (discL.getD (0 + j * 6 + 0) 0), pt b2 1, ii (discL.getD (0 + j * 6 + 1) 0), pt b2 2, ii (discL.getD (0 + j * 6 + 2) 0), pt b2 3, ii (discL.getD (0 + j * 6 + 3) 0), pt b2 4, ii (discL.getD (0 + j * 6 + 4) 0), pt b2 5, ii (discL.getD (0 + j * 6 + 5) 0), .agg #[ii ((((x : Int) / 2) / 2) / 2), ii ((((x : Int) / 2) / 2) % 2), ii (((x : Int) / 2) % 2), ii ((x : Int) % 2), ii (discL.getD (0 + j * 6 + 0) 0), ii (discL.getD (0 + j * 6 + 1) 0), ii (discL.getD (0 + j * 6 + 2) 0), ii (discL.getD (0 + j * 6 + 3) 0), ii (discL.getD (0 + j * 6 + 4) 0), ii (discL.getD (0 + j * 6 + 5) 0)], pt b3 0]) (g := fun b3 => pt b3 0) 35 (fun _ => ([ii (x : Int), ii 2, ii ((x : Int) / 2), ii 2, ii (((x : Int) / 2) / 2), ii 2, ii ((((x : Int) / 2) / 2) / 2), ii (x : Int), ii 2, ii ((x : Int) / 2), ii 2, ii (((x : Int) / 2) / 2), ii 2, ii ((((x : Int) / 2) / 2) % 2), ii (x : Int), ii 2, ii ((x : Int) / 2), ii 2, ii (((x : Int) / 2) % 2), ii (x : Int), ii 2, ii ((x : Int) % 2), pt b2 0, ii (discL.getD (0 + j * 6 + 0) 0), pt b2 1, ii (discL.getD (0 + j * 6 + 1) 0), pt b2 2, ii (discL.getD (0 + j * 6 + 2) 0), pt b2 3, ii (discL.getD (0 + j * 6 + 3) 0), pt b2 4, ii (discL.getD (0 + j * 6 + 4) 0), pt b2 5, ii (discL.getD (0 + j * 6 + 5) 0), .agg #[ii ((((x : Int) / 2) / 2) / 2), ii ((((x : Int) / 2) / 2) % 2), ii (((x : Int) / 2) % 2), ii ((x : Int) % 2), ii (discL.getD (0 + j * 6 + 0) 0), ii (discL.getD (0 + j * 6 + 1) 0), ii (discL.getD (0 + j * 6 + 2) 0), ii (discL.getD (0 + j * 6 + 3) 0), ii (discL.getD (0 + j * 6 + 4) 0), ii (discL.getD (0 + j * 6 + 5) 0)]] : List Value)) (fun _ => ([] : List Value)) (fun _ _ => rfl) (fun _ _ => rfl) (fun _ => rfl) (fun _ => rfl) xA yA jA hjA
        · show QAllX _ _ _ _ _ _ _ [ii (x : Int), ii 2, ii ((x : Int) / 2), ii 2, ii (((x : Int) / 2) / 2), ii 2, ii ((((x : Int) / 2) / 2) / 2), ii (x : Int), ii 2, ii ((x : Int) / 2), ii 2, ii (((x : Int) / 2) / 2), ii 2, ii ((((x : Int) / 2) / 2) % 2), ii (x : Int), ii 2, ii ((x : Int) / 2), ii 2, ii (((x : Int) / 2) % 2), ii (x : Int), ii 2, ii ((x : Int) % 2), pt b2 0, ii (discL.getD (0 + j * 6 + 0) 0), pt b2 1, ii (discL.getD (0 + j * 6 + 1) 0), pt b2 2, ii (discL.getD (0 + j * 6 + 2) 0), pt b2 3, ii (discL.getD (0 + j * 6 + 3) 0), pt b2 4, ii (discL.getD (0 + j * 6 + 4) 0), pt b2 5, ii (discL.getD (0 + j * 6 + 5) 0), .agg #[ii ((((x : Int) / 2) / 2) / 2), ii ((((x : Int) / 2) / 2) % 2), ii (((x : Int) / 2) % 2), ii ((x : Int) % 2), ii (discL.getD (0 + j * 6 + 0) 0), ii (discL.getD (0 + j * 6 + 1) 0), ii (discL.getD (0 + j * 6 + 2) 0), ii (discL.getD (0 + j * 6 + 3) 0), ii (discL.getD (0 + j * 6 + 4) 0), ii (discL.getD (0 + j * 6 + 5) 0)], pt 0 0]
          refine qallx_appendE (vs := [ii (x : Int), ii 2, ii ((x : Int) / 2), ii 2, ii (((x : Int) / 2) / 2), ii 2, ii ((((x : Int) / 2) / 2) / 2), ii (x : Int), ii 2, ii ((x : Int) / 2), ii 2, ii (((x : Int) / 2) / 2), ii 2, ii ((((x : Int) / 2) / 2) % 2), ii (x : Int), ii 2, ii ((x : Int) / 2), ii 2, ii (((x : Int) / 2) % 2), ii (x : Int), ii 2, ii ((x : Int) % 2), pt b2 0, ii (discL.getD (0 + j * 6 + 0) 0), pt b2 1, ii (discL.getD (0 + j * 6 + 1) 0), pt b2 2, ii (discL.getD (0 + j * 6 + 2) 0), pt b2 3, ii (discL.getD (0 + j * 6 + 3) 0), pt b2 4, ii (discL.getD (0 + j * 6 + 4) 0), pt b2 5, ii (discL.getD (0 + j * 6 + 5) 0), .agg #[ii ((((x : Int) / 2) / 2) / 2), ii ((((x : Int) / 2) / 2) % 2), ii (((x : Int) / 2) % 2), ii ((x : Int) % 2), ii (discL.getD (0 + j * 6 + 0) 0), ii (discL.getD (0 + j * 6 + 1) 0), ii (discL.getD (0 + j * 6 + 2) 0), ii (discL.getD (0 + j * 6 + 3) 0), ii (discL.getD (0 + j * 6 + 4) 0), ii (discL.getD (0 + j * 6 + 5) 0)]]) (vs' := [pt 0 0]) (by kernel_rfl) (by
            exact qallW [some .ex, some .ex, some .quo, some .ex, some .quo, some .ex, some .quo, some .ex, some .ex, some .quo, some .ex, some .quo, some .ex, some .rem, some .ex, some .ex, some .quo, some .ex, some .rem, some .ex, some .ex, some .rem, some .ex, none, some .ex, none, some .ex, none, some .ex, none, some .ex, none, some .ex, none, some .ex] [ii (discL.getD (0 + j * 6 + 0) 0), ii (discL.getD (0 + j * 6 + 1) 0), ii (discL.getD (0 + j * 6 + 2) 0), ii (discL.getD (0 + j * 6 + 3) 0), ii (discL.getD (0 + j * 6 + 4) 0), ii (discL.getD (0 + j * 6 + 5) 0)] [(23, [(82, pt b2 0)], ii (discL.getD (0 + j * 6 + 0) 0)), (25, [(84, pt b2 1)], ii (discL.getD (0 + j * 6 + 1) 0)), (27, [(86, pt b2 2)], ii (discL.getD (0 + j * 6 + 2) 0)), (29, [(88, pt b2 3)], ii (discL.getD (0 + j * 6 + 3) 0)), (31, [(90, pt b2 4)], ii (discL.getD (0 + j * 6 + 4) 0)), (33, [(92, pt b2 5)], ii (discL.getD (0 + j * 6 + 5) 0))] [(0 : Int) ≤ (x : Int), (x : Int) ≤ (9223372036854775807 : Int), (0 : Int) < 2, (0 : Int) ≤ (x : Int) / 2, (x : Int) / 2 ≤ (9223372036854775807 : Int), (0 : Int) < 2, (0 : Int) ≤ ((x : Int) / 2) / 2, ((x : Int) / 2) / 2 ≤ (9223372036854775807 : Int), (0 : Int) < 2, (0 : Int) ≤ (x : Int), (x : Int) ≤ (9223372036854775807 : Int), (0 : Int) < 2, (0 : Int) ≤ (x : Int) / 2, (x : Int) / 2 ≤ (9223372036854775807 : Int), (0 : Int) < 2, (0 : Int) ≤ ((x : Int) / 2) / 2, (0 : Int) < 2, (0 : Int) ≤ (x : Int), (x : Int) ≤ (9223372036854775807 : Int), (0 : Int) < 2, (0 : Int) ≤ (x : Int) / 2, (0 : Int) < 2, (0 : Int) ≤ (x : Int), (0 : Int) < 2] (by kernel_rfl) (by refine ap ?_ (ap ?_ (ap ?_ (ap ?_ (ap ?_ (ap ?_ (ap ?_ (ap ?_ (ap ?_ (ap ?_ (ap ?_ (ap ?_ (ap ?_ (ap ?_ (ap ?_ (ap ?_ (ap ?_ (ap ?_ (ap ?_ (ap ?_ (ap ?_ (ap ?_ (ap ?_ (ap1 ?_))))))))))))))))))))))) <;> (omega)) (aq (opQ_loadOwn 0 b2 0 1 #[ii (discL.getD (0 + j * 6 + 0) 0), ii (discL.getD (0 + j * 6 + 1) 0), ii (discL.getD (0 + j * 6 + 2) 0), ii (discL.getD (0 + j * 6 + 3) 0), ii (discL.getD (0 + j * 6 + 4) 0), ii (discL.getD (0 + j * 6 + 5) 0)] 174 (0, 0) rfl rfl rfl rfl rfl rfl rfl rfl (by kernel_rfl)) (aq (opQ_loadOwn 0 b2 1 1 #[ii (discL.getD (0 + j * 6 + 0) 0), ii (discL.getD (0 + j * 6 + 1) 0), ii (discL.getD (0 + j * 6 + 2) 0), ii (discL.getD (0 + j * 6 + 3) 0), ii (discL.getD (0 + j * 6 + 4) 0), ii (discL.getD (0 + j * 6 + 5) 0)] 174 (0, 0) rfl rfl rfl rfl rfl rfl rfl rfl (by kernel_rfl)) (aq (opQ_loadOwn 0 b2 2 1 #[ii (discL.getD (0 + j * 6 + 0) 0), ii (discL.getD (0 + j * 6 + 1) 0), ii (discL.getD (0 + j * 6 + 2) 0), ii (discL.getD (0 + j * 6 + 3) 0), ii (discL.getD (0 + j * 6 + 4) 0), ii (discL.getD (0 + j * 6 + 5) 0)] 174 (0, 0) rfl rfl rfl rfl rfl rfl rfl rfl (by kernel_rfl)) (aq (opQ_loadOwn 0 b2 3 1 #[ii (discL.getD (0 + j * 6 + 0) 0), ii (discL.getD (0 + j * 6 + 1) 0), ii (discL.getD (0 + j * 6 + 2) 0), ii (discL.getD (0 + j * 6 + 3) 0), ii (discL.getD (0 + j * 6 + 4) 0), ii (discL.getD (0 + j * 6 + 5) 0)] 174 (0, 0) rfl rfl rfl rfl rfl rfl rfl rfl (by kernel_rfl)) (aq (opQ_loadOwn 0 b2 4 1 #[ii (discL.getD (0 + j * 6 + 0) 0), ii (discL.getD (0 + j * 6 + 1) 0), ii (discL.getD (0 + j * 6 + 2) 0), ii (discL.getD (0 + j * 6 + 3) 0), ii (discL.getD (0 + j * 6 + 4) 0), ii (discL.getD (0 + j * 6 + 5) 0)] 174 (0, 0) rfl rfl rfl rfl rfl rfl rfl rfl (by kernel_rfl)) (aq (opQ_loadOwn 0 b2 5 1 #[ii (discL.getD (0 + j * 6 + 0) 0), ii (discL.getD (0 + j * 6 + 1) 0), ii (discL.getD (0 + j * 6 + 2) 0), ii (discL.getD (0 + j * 6 + 3) 0), ii (discL.getD (0 + j * 6 + 4) 0), ii (discL.getD (0 + j * 6 + 5) 0)] 174 (0, 0) rfl rfl rfl rfl rfl rfl rfl rfl (by kernel_rfl)) aq0))))))) rfl ?_
          refine qallx_skip rfl (qallx_of_qall (by
            exact qallW [] [] [] [] (by kernel_rfl) trivial aq0))
        · intro b3
          refine qallx_appendE (vs := [ii (x : Int), ii 2, ii ((x : Int) / 2), ii 2, ii (((x : Int) / 2) / 2), ii 2, ii ((((x : Int) / 2) / 2) / 2), ii (x : Int), ii 2, ii ((x : Int) / 2), ii 2, ii (((x : Int) / 2) / 2), ii 2, ii ((((x : Int) / 2) / 2) % 2), ii (x : Int), ii 2, ii ((x : Int) / 2), ii 2, ii (((x : Int) / 2) % 2), ii (x : Int), ii 2, ii ((x : Int) % 2), pt b2 0, ii (discL.getD (0 + j * 6 + 0) 0), pt b2 1, ii (discL.getD (0 + j * 6 + 1) 0), pt b2 2, ii (discL.getD (0 + j * 6 + 2) 0), pt b2 3, ii (discL.getD (0 + j * 6 + 3) 0), pt b2 4, ii (discL.getD (0 + j * 6 + 4) 0), pt b2 5, ii (discL.getD (0 + j * 6 + 5) 0), .agg #[ii ((((x : Int) / 2) / 2) / 2), ii ((((x : Int) / 2) / 2) % 2), ii (((x : Int) / 2) % 2), ii ((x : Int) % 2), ii (discL.getD (0 + j * 6 + 0) 0), ii (discL.getD (0 + j * 6 + 1) 0), ii (discL.getD (0 + j * 6 + 2) 0), ii (discL.getD (0 + j * 6 + 3) 0), ii (discL.getD (0 + j * 6 + 4) 0), ii (discL.getD (0 + j * 6 + 5) 0)]]) (vs' := [pt b3 0]) (by kernel_rfl) (by
            exact qallW [some .ex, some .ex, some .quo, some .ex, some .quo, some .ex, some .quo, some .ex, some .ex, some .quo, some .ex, some .quo, some .ex, some .rem, some .ex, some .ex, some .quo, some .ex, some .rem, some .ex, some .ex, some .rem, some .ex, none, some .ex, none, some .ex, none, some .ex, none, some .ex, none, some .ex, none, some .ex] [ii (discL.getD (0 + j * 6 + 0) 0), ii (discL.getD (0 + j * 6 + 1) 0), ii (discL.getD (0 + j * 6 + 2) 0), ii (discL.getD (0 + j * 6 + 3) 0), ii (discL.getD (0 + j * 6 + 4) 0), ii (discL.getD (0 + j * 6 + 5) 0)] [(23, [(82, pt b2 0)], ii (discL.getD (0 + j * 6 + 0) 0)), (25, [(84, pt b2 1)], ii (discL.getD (0 + j * 6 + 1) 0)), (27, [(86, pt b2 2)], ii (discL.getD (0 + j * 6 + 2) 0)), (29, [(88, pt b2 3)], ii (discL.getD (0 + j * 6 + 3) 0)), (31, [(90, pt b2 4)], ii (discL.getD (0 + j * 6 + 4) 0)), (33, [(92, pt b2 5)], ii (discL.getD (0 + j * 6 + 5) 0))] [(0 : Int) ≤ (x : Int), (x : Int) ≤ (9223372036854775807 : Int), (0 : Int) < 2, (0 : Int) ≤ (x : Int) / 2, (x : Int) / 2 ≤ (9223372036854775807 : Int), (0 : Int) < 2, (0 : Int) ≤ ((x : Int) / 2) / 2, ((x : Int) / 2) / 2 ≤ (9223372036854775807 : Int), (0 : Int) < 2, (0 : Int) ≤ (x : Int), (x : Int) ≤ (9223372036854775807 : Int), (0 : Int) < 2, (0 : Int) ≤ (x : Int) / 2, (x : Int) / 2 ≤ (9223372036854775807 : Int), (0 : Int) < 2, (0 : Int) ≤ ((x : Int) / 2) / 2, (0 : Int) < 2, (0 : Int) ≤ (x : Int), (x : Int) ≤ (9223372036854775807 : Int), (0 : Int) < 2, (0 : Int) ≤ (x : Int) / 2, (0 : Int) < 2, (0 : Int) ≤ (x : Int), (0 : Int) < 2] (by kernel_rfl) (by refine ap ?_ (ap ?_ (ap ?_ (ap ?_ (ap ?_ (ap ?_ (ap ?_ (ap ?_ (ap ?_ (ap ?_ (ap ?_ (ap ?_ (ap ?_ (ap ?_ (ap ?_ (ap ?_ (ap ?_ (ap ?_ (ap ?_ (ap ?_ (ap ?_ (ap ?_ (ap ?_ (ap1 ?_))))))))))))))))))))))) <;> (omega)) (aq (opQ_loadOwn 1 b2 0 1 #[ii (discL.getD (0 + j * 6 + 0) 0), ii (discL.getD (0 + j * 6 + 1) 0), ii (discL.getD (0 + j * 6 + 2) 0), ii (discL.getD (0 + j * 6 + 3) 0), ii (discL.getD (0 + j * 6 + 4) 0), ii (discL.getD (0 + j * 6 + 5) 0)] 174 (0, 0) rfl rfl rfl rfl rfl rfl rfl rfl (by kernel_rfl)) (aq (opQ_loadOwn 1 b2 1 1 #[ii (discL.getD (0 + j * 6 + 0) 0), ii (discL.getD (0 + j * 6 + 1) 0), ii (discL.getD (0 + j * 6 + 2) 0), ii (discL.getD (0 + j * 6 + 3) 0), ii (discL.getD (0 + j * 6 + 4) 0), ii (discL.getD (0 + j * 6 + 5) 0)] 174 (0, 0) rfl rfl rfl rfl rfl rfl rfl rfl (by kernel_rfl)) (aq (opQ_loadOwn 1 b2 2 1 #[ii (discL.getD (0 + j * 6 + 0) 0), ii (discL.getD (0 + j * 6 + 1) 0), ii (discL.getD (0 + j * 6 + 2) 0), ii (discL.getD (0 + j * 6 + 3) 0), ii (discL.getD (0 + j * 6 + 4) 0), ii (discL.getD (0 + j * 6 + 5) 0)] 174 (0, 0) rfl rfl rfl rfl rfl rfl rfl rfl (by kernel_rfl)) (aq (opQ_loadOwn 1 b2 3 1 #[ii (discL.getD (0 + j * 6 + 0) 0), ii (discL.getD (0 + j * 6 + 1) 0), ii (discL.getD (0 + j * 6 + 2) 0), ii (discL.getD (0 + j * 6 + 3) 0), ii (discL.getD (0 + j * 6 + 4) 0), ii (discL.getD (0 + j * 6 + 5) 0)] 174 (0, 0) rfl rfl rfl rfl rfl rfl rfl rfl (by kernel_rfl)) (aq (opQ_loadOwn 1 b2 4 1 #[ii (discL.getD (0 + j * 6 + 0) 0), ii (discL.getD (0 + j * 6 + 1) 0), ii (discL.getD (0 + j * 6 + 2) 0), ii (discL.getD (0 + j * 6 + 3) 0), ii (discL.getD (0 + j * 6 + 4) 0), ii (discL.getD (0 + j * 6 + 5) 0)] 174 (0, 0) rfl rfl rfl rfl rfl rfl rfl rfl (by kernel_rfl)) (aq (opQ_loadOwn 1 b2 5 1 #[ii (discL.getD (0 + j * 6 + 0) 0), ii (discL.getD (0 + j * 6 + 1) 0), ii (discL.getD (0 + j * 6 + 2) 0), ii (discL.getD (0 + j * 6 + 3) 0), ii (discL.getD (0 + j * 6 + 4) 0), ii (discL.getD (0 + j * 6 + 5) 0)] 174 (0, 0) rfl rfl rfl rfl rfl rfl rfl rfl (by kernel_rfl)) aq0))))))) rfl ?_
          refine qallx_skip rfl (qallx_of_qall (by
            exact qallW [] [] [] [] (by kernel_rfl) trivial aq0))
        · exact opA_alloc (.agg #[ii 0, ii 0, ii 0, ii 0, ii 0, ii 0, ii 0, ii 0, ii 0, ii 0]) rfl rfl rfl rfl rfl rfl (by kernel_rfl)
        refine opsT_heq (hs' := (b3, .cells #[ii 0, ii 0, ii 0, ii 0, ii 0, ii 0, ii 0, ii 0, ii 0, ii 0] 224 (0, 0)) :: (b2, .cells #[ii (discL.getD (0 + j * 6 + 0) 0), ii (discL.getD (0 + j * 6 + 1) 0), ii (discL.getD (0 + j * 6 + 2) 0), ii (discL.getD (0 + j * 6 + 3) 0), ii (discL.getD (0 + j * 6 + 4) 0), ii (discL.getD (0 + j * 6 + 5) 0)] 174 (0, 0)) :: (bm, .cells #[ii 1] 3 (0, 0)) :: (bq, roomB discL spq 174) :: (H z1 ++ own)) rfl ?_
        refine kW 0 #[ii ((((x : Int) / 2) / 2) / 2), ii ((((x : Int) / 2) / 2) % 2), ii (((x : Int) / 2) % 2), ii ((x : Int) % 2), ii (discL.getD (0 + j * 6 + 0) 0), ii (discL.getD (0 + j * 6 + 1) 0), ii (discL.getD (0 + j * 6 + 2) 0), ii (discL.getD (0 + j * 6 + 3) 0), ii (discL.getD (0 + j * 6 + 4) 0), ii (discL.getD (0 + j * 6 + 5) 0)] ?_
        refine kP [11, 55, 54, 8, 50, 7, 3, 0, 51, 56] ?_
        refine wn [0, 1, 2, 3] rfl ?_
        refine kS 1 0 [(95, yv)] [11, 55, 54, 8, 50, 7, 3, 0, 51, 56] ?_
        refine kL 0 (.agg #[ii ((((x : Int) / 2) / 2) / 2), ii ((((x : Int) / 2) / 2) % 2), ii (((x : Int) / 2) % 2), ii ((x : Int) % 2), ii (discL.getD (0 + j * 6 + 0) 0), ii (discL.getD (0 + j * 6 + 1) 0), ii (discL.getD (0 + j * 6 + 2) 0), ii (discL.getD (0 + j * 6 + 3) 0), ii (discL.getD (0 + j * 6 + 4) 0), ii (discL.getD (0 + j * 6 + 5) 0)]) ?_
        refine opsT_yield (H := H) (I' := I ((7 * x + j) + 1)) (Ix := Ix) (z := z1) (y := yv) (args := #[.agg #[ii ((((x : Int) / 2) / 2) / 2), ii ((((x : Int) / 2) / 2) % 2), ii (((x : Int) / 2) % 2), ii ((x : Int) % 2), ii (discL.getD (0 + j * 6 + 0) 0), ii (discL.getD (0 + j * 6 + 1) 0), ii (discL.getD (0 + j * 6 + 2) 0), ii (discL.getD (0 + j * 6 + 3) 0), ii (discL.getD (0 + j * 6 + 4) 0), ii (discL.getD (0 + j * 6 + 5) 0)]]) [(b3, .cells #[ii ((((x : Int) / 2) / 2) / 2), ii ((((x : Int) / 2) / 2) % 2), ii (((x : Int) / 2) % 2), ii ((x : Int) % 2), ii (discL.getD (0 + j * 6 + 0) 0), ii (discL.getD (0 + j * 6 + 1) 0), ii (discL.getD (0 + j * 6 + 2) 0), ii (discL.getD (0 + j * 6 + 3) 0), ii (discL.getD (0 + j * 6 + 4) 0), ii (discL.getD (0 + j * 6 + 5) 0)] 224 (0, 0)), (b2, .cells #[ii (discL.getD (0 + j * 6 + 0) 0), ii (discL.getD (0 + j * 6 + 1) 0), ii (discL.getD (0 + j * 6 + 2) 0), ii (discL.getD (0 + j * 6 + 3) 0), ii (discL.getD (0 + j * 6 + 4) 0), ii (discL.getD (0 + j * 6 + 5) 0)] 174 (0, 0)), (bm, .cells #[ii 1] 3 (0, 0)), (bq, roomB discL spq 174)] own rfl rfl rfl rfl rfl rfl rfl rfl (by kernel_rfl) rfl (fun own' W' hW' => (by have e1 : (7 * x + j) / 7 = x := (by omega); have e2 : (7 * x + j) % 7 = j := (by omega); have e3 : (#[.agg #[ii ((((x : Int) / 2) / 2) / 2), ii ((((x : Int) / 2) / 2) % 2), ii (((x : Int) / 2) % 2), ii ((x : Int) % 2), ii (discL.getD (0 + j * 6 + 0) 0), ii (discL.getD (0 + j * 6 + 1) 0), ii (discL.getD (0 + j * 6 + 2) 0), ii (discL.getD (0 + j * 6 + 3) 0), ii (discL.getD (0 + j * 6 + 4) 0), ii (discL.getD (0 + j * 6 + 5) 0)]] : Array Value) = lstA (7 * x + j) := (by unfold lstA lstV; rw [e1, e2]; simp only [Nat.zero_add, List.map_cons, List.map_nil, Int.natCast_ediv, Int.natCast_emod]; rfl); rw [e3]; exact hy (7 * x + j) (by omega) z1 hC3.2 own' W' hW')) (fun z1 hI1 => ?_) (fun z2 hX1 => ?_)
        · refine opsT_heq (hs' := (b3, .cells #[ii ((((x : Int) / 2) / 2) / 2), ii ((((x : Int) / 2) / 2) % 2), ii (((x : Int) / 2) % 2), ii ((x : Int) % 2), ii (discL.getD (0 + j * 6 + 0) 0), ii (discL.getD (0 + j * 6 + 1) 0), ii (discL.getD (0 + j * 6 + 2) 0), ii (discL.getD (0 + j * 6 + 3) 0), ii (discL.getD (0 + j * 6 + 4) 0), ii (discL.getD (0 + j * 6 + 5) 0)] 224 (0, 0)) :: (b2, .cells #[ii (discL.getD (0 + j * 6 + 0) 0), ii (discL.getD (0 + j * 6 + 1) 0), ii (discL.getD (0 + j * 6 + 2) 0), ii (discL.getD (0 + j * 6 + 3) 0), ii (discL.getD (0 + j * 6 + 4) 0), ii (discL.getD (0 + j * 6 + 5) 0)] 174 (0, 0)) :: (bm, .cells #[ii 1] 3 (0, 0)) :: (bq, roomB discL spq 174) :: (H z1 ++ own)) rfl ?_
          refine kSe 1 0 [(98, .bool false)] [55, 54, 8, 50, 7, 3, 0, 51, 56] ?_
          refine tri_cond_false rfl ?_
          refine tri_skip ?_
          refine post_block ?_
          refine post_then ?_
          refine tri_region (todo := [0, 1]) rfl ?_
          refine kO 2 2 [(56, ii ((j : Int) + 1))] [55, 54, 8, 50, 7, 3, 0, 51] [I64 ((j : Int) + 1)] (ap1 (by omega)) ?_
          refine opsT_end ?_
          refine post_round ((j + 1), z1) ⟨by omega, hI1⟩ (by show 7 - (j + 1) < 7 - j; omega) (look_pickL (ks := [55, 54, 8, 50, 7, 3, 0, 51, 56]) (by kernel_rfl)) (.cons _ (.cons _ (List.Sublist.refl _)))
        · refine opsT_heq (hs' := (b3, .cells #[ii ((((x : Int) / 2) / 2) / 2), ii ((((x : Int) / 2) / 2) % 2), ii (((x : Int) / 2) % 2), ii ((x : Int) % 2), ii (discL.getD (0 + j * 6 + 0) 0), ii (discL.getD (0 + j * 6 + 1) 0), ii (discL.getD (0 + j * 6 + 2) 0), ii (discL.getD (0 + j * 6 + 3) 0), ii (discL.getD (0 + j * 6 + 4) 0), ii (discL.getD (0 + j * 6 + 5) 0)] 224 (0, 0)) :: (b2, .cells #[ii (discL.getD (0 + j * 6 + 0) 0), ii (discL.getD (0 + j * 6 + 1) 0), ii (discL.getD (0 + j * 6 + 2) 0), ii (discL.getD (0 + j * 6 + 3) 0), ii (discL.getD (0 + j * 6 + 4) 0), ii (discL.getD (0 + j * 6 + 5) 0)] 174 (0, 0)) :: (bm, .cells #[ii 1] 3 (0, 0)) :: (bq, roomB discL spq 174) :: (H z2 ++ own)) rfl ?_
          refine kSe 1 0 [(98, .bool true)] [55, 54, 8, 50, 7, 3, 0, 51, 56] ?_
          refine tri_cond_true rfl ?_
          refine tri_ret ?_
          refine post_block_ret ?_
          refine post_then_ret ?_
          refine post_round_ret ?_
          refine post_block_ret ?_
          refine post_block_ret ?_
          refine post_then_ret ?_
          refine post_round_ret ?_
          refine post_block_ret ?_
          refine post_ret0 rfl (fun W hR => ?_)
          exact ⟨rfl, .inr ⟨z2, hX1, (Rep.back (capt := [(bm, .cells #[.int .i64 1] 3 (0, 0))]) (hR.forget (.cons _ (.cons _ (.cons_cons _ (.cons _ (List.Sublist.refl _)))))))⟩⟩
      · refine tri_exit ?_
        refine post_then_exit ?_
        refine post_round_exit ?_
        refine post_block_hit ?_
        refine post_block ?_
        refine post_then ?_
        refine tri_region (todo := [0, 1]) rfl ?_
        refine kO 2 2 [(51, ii ((x : Int) + 1))] [50, 7, 3, 0] [I64 ((x : Int) + 1)] (ap1 (by omega)) ?_
        refine opsT_end ?_
        refine post_round ((x + 1), z1) ⟨by omega, by rw [show 7 * (x + 1) = 7 * x + j by omega]; exact hC3.2⟩ (by show 16 - (x + 1) < 16 - x; omega) (look_pickL (ks := [50, 7, 3, 0, 51]) (by kernel_rfl)) (List.Sublist.refl _)
    · refine tri_exit ?_
      refine post_then_exit ?_
      refine post_round_exit ?_
      refine post_block_hit ?_
      refine post_end0 rfl (fun W hR => ?_)
      exact ⟨rfl, .inl ⟨z, (by rw [show 112 = 7 * x by omega]; exact hC2.2), (Rep.back (capt := [(bm, .cells #[.int .i64 1] 3 (0, 0))]) (hR.forget (.cons_cons _ (.cons _ (List.Sublist.refl _)))))⟩⟩
end Go.Proofs.YtlkbokbcfajhjaaGreat
