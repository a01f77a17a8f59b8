/- G26: the coordinates of one tetrahedron -/
import Derived.Test.YtlkbokbcfajhjaaGreatG25
import Derived.Test.YtlkbokbcfajhjaaGreatBA
import Derived.Test.YtlkbokbcfajhjaaGreatB17
import Derived.Test.YtlkbokbcfajhjaaGreatD1
namespace Go.Proofs.YtlkbokbcfajhjaaGreat
open Go.Proofs.Walk
set_option maxRecDepth 100000
set_option linter.unusedVariables false
set_option linter.unusedSimpArgs false

theorem en89 : Walk.Enters Tryz.prog 89 := Walk.enters Tryz.func89 (by kernel_rfl) rfl
theorem en161 : Walk.Enters Tryz.prog 161 := Walk.enters Tryz.func161 (by kernel_rfl) rfl
theorem en162 : Walk.Enters Tryz.prog 162 := Walk.enters Tryz.func162 (by kernel_rfl) rfl
theorem lstV_len (k : Nat) : (lstV k).length = 10 := rfl
theorem coords_ (w : World) : Calls Tryz.prog 89 #[.int .i64 1, .int .i64 1] w fun e w' => ∃ p : Nat × Nat, True ∧ e = .returned (.func (.func 161) #[] #[.pointer (some ⟨p.1, 0, none⟩), .pointer (some ⟨p.2, 0, none⟩)]) ∧ Rep w [] [(p.1, .cells #[.int .i64 1] 3 (0, 0)), (p.2, .cells #[.int .i64 1] 3 (0, 0))] w' := by
  refine calls_of (n := 6) Tryz.func89 rfl Tryz.ntmps89 rfl ?_
  refine tri_eq (l' := [(0, ii 1), (1, ii 1)]) (hs' := []) rfl rfl ?_
  refine wr [0, 1, 2] rfl ?_
  refine kB (ii 1) fun b1 => ?_
  refine kB (ii 1) fun b2 => ?_
  refine kSn 1 0 [] [3, 2] [0, 1] ?_
  refine kSe 2 0 [(4, .func (.func 161) #[] #[pt b1 0, pt b2 0])] [] ?_
  refine tri_ret ?_
  refine post_ret1 (v := .func (.func 161) #[] #[pt b1 0, pt b2 0]) rfl (.tmp rfl) (fun W hR => ?_)
  exact ⟨(b1, b2), trivial, rfl, hR.perm (List.Perm.swap _ _ _)⟩

theorem visit_leaf {β : Type} {H : β → List (Nat × Obj)} {I' Ix : β → Prop} {yv : Value} {W0 : World} {M : List Nat} {k bv bn by_ bm bs : Nat} {x₀ : β} (hy : ∀ own W, Rep W0 M (H x₀ ++ ([(bv, intsB (lstV k) 3)] ++ own)) W → CallV Tryz.prog yv #[.slice (some ⟨bv, 0, none⟩) 10 10] W (YPost W0 M H I' Ix ([(bv, intsB (lstV k) 3)] ++ own))) {own : List (Nat × Obj)} {W : World} (hR : Rep W0 M (H x₀ ++ ([(bv, intsB (lstV k) 3), (bn, .cells #[ii 1] 3 (0, 0)), (by_, .cells #[yv] 67 (0, 0)), (bm, .cells #[ii 1] 3 (0, 0)), (bs, .cells #[.func (.func 162) #[] #[pt bn 0, pt by_ 0, pt bm 0, pt bs 0]] 67 (0, 0))] ++ own)) W) :
    Calls Tryz.prog 162 #[sl bv 0 10 10, pt bn 0, pt by_ 0, pt bm 0, pt bs 0] W (YPost W0 M H I' Ix ([(bv, intsB (lstV k) 3), (bn, .cells #[ii 1] 3 (0, 0)), (by_, .cells #[yv] 67 (0, 0)), (bm, .cells #[ii 1] 3 (0, 0)), (bs, .cells #[.func (.func 162) #[] #[pt bn 0, pt by_ 0, pt bm 0, pt bs 0]] 67 (0, 0))] ++ own)) := by
  refine calls_ofMarks (n := 25) Tryz.func162 rfl Tryz.ntmps162 rfl (hR.perm (List.perm_append_comm_assoc _ _ _)) ?_
  refine tri_eq (l' := [(0, sl bv 0 10 10), (1, pt bn 0), (2, pt by_ 0), (3, pt bm 0), (4, pt bs 0)]) (hs' := (bv, intsB (lstV k) 3) :: (bn, .cells #[ii 1] 3 (0, 0)) :: (by_, .cells #[yv] 67 (0, 0)) :: (bm, .cells #[ii 1] 3 (0, 0)) :: (bs, .cells #[.func (.func 162) #[] #[pt bn 0, pt by_ 0, pt bm 0, pt bs 0]] 67 (0, 0)) :: (H x₀ ++ own)) rfl rfl ?_
  refine wr [0, 1] rfl ?_
  refine kB (sl bv 0 10 10) fun b1 => ?_
  refine kA (.bool false) fun b2 => ?_
  refine kPe [6, 5, 1, 2, 3, 4] ?_
  refine tri_seq ?_
  refine wr [0, 1, 2, 3, 4] rfl ?_
  refine kL 1 (sl bv 0 10 10) ?_
  refine kS 1 0 [(9, ii 10)] [6, 5, 1, 2, 3, 4] ?_
  refine kL 3 (ii 1) ?_
  refine kSe 2 0 [(12, .bool true)] [6, 5, 2, 3, 4] ?_
  refine tri_cond_true rfl ?_
  refine wr [0, 1, 2, 3] rfl ?_
  refine kL 4 (yv) ?_
  refine kL 1 (sl bv 0 10 10) ?_
  refine opsT_yieldG (H := H) (I' := I') (Ix := Ix) (z := x₀) (y := yv) (args := #[sl bv 0 10 10]) [(bv, intsB (lstV k) 3)] ((b2, .cells #[.bool false] 4 (0, 0)) :: (b1, .cells #[sl bv 0 10 10] 25 (0, 0)) :: (bn, .cells #[ii 1] 3 (0, 0)) :: (by_, .cells #[yv] 67 (0, 0)) :: (bm, .cells #[ii 1] 3 (0, 0)) :: (bs, .cells #[.func (.func 162) #[] #[pt bn 0, pt by_ 0, pt bm 0, pt bs 0]] 67 (0, 0)) :: own) (fun z => (b2, .cells #[.bool false] 4 (0, 0)) :: (b1, .cells #[sl bv 0 10 10] 25 (0, 0)) :: (bv, intsB (lstV k) 3) :: (bn, .cells #[ii 1] 3 (0, 0)) :: (by_, .cells #[yv] 67 (0, 0)) :: (bm, .cells #[ii 1] 3 (0, 0)) :: (bs, .cells #[.func (.func 162) #[] #[pt bn 0, pt by_ 0, pt bm 0, pt bs 0]] 67 (0, 0)) :: (H z ++ own)) rfl rfl rfl rfl rfl rfl rfl rfl (by kernel_rfl) (fun z => perm_yield ([(b2, .cells #[.bool false] 4 (0, 0)), (b1, .cells #[sl bv 0 10 10] 25 (0, 0))]) [(bv, intsB (lstV k) 3)] ([(bn, .cells #[ii 1] 3 (0, 0)), (by_, .cells #[yv] 67 (0, 0)), (bm, .cells #[ii 1] 3 (0, 0)), (bs, .cells #[.func (.func 162) #[] #[pt bn 0, pt by_ 0, pt bm 0, pt bs 0]] 67 (0, 0))]) (H z) own) rfl (fun own' W' hW' => hy own' W' hW') (fun z1 hI1 => ?_) (fun z2 hX1 => ?_)
  · refine opsT_heq (hs' := (b2, .cells #[.bool false] 4 (0, 0)) :: (b1, .cells #[sl bv 0 10 10] 25 (0, 0)) :: (bv, intsB (lstV k) 3) :: (bn, .cells #[ii 1] 3 (0, 0)) :: (by_, .cells #[yv] 67 (0, 0)) :: (bm, .cells #[ii 1] 3 (0, 0)) :: (bs, .cells #[.func (.func 162) #[] #[pt bn 0, pt by_ 0, pt bm 0, pt bs 0]] 67 (0, 0)) :: (H z1 ++ own)) rfl ?_
    refine kW 0 #[.bool true] ?_
    refine kPe [6] ?_
    refine tri_ret ?_
    refine post_then_ret ?_
    refine post_outM ?_
    refine outM_ret1 (v := .bool true) rfl (.cell 0 b2 0 1 #[.bool true] 4 (0, 0) rfl rfl (by kernel_rfl)) (fun W hR => ?_)
    exact .inl ⟨rfl, z1, hI1, (Rep.back (capt := [(bv, intsB (lstV k) 3), (bn, .cells #[ii 1] 3 (0, 0)), (by_, .cells #[yv] 67 (0, 0)), (bm, .cells #[ii 1] 3 (0, 0)), (bs, .cells #[.func (.func 162) #[] #[pt bn 0, pt by_ 0, pt bm 0, pt bs 0]] 67 (0, 0))]) (hR.forget (.cons _ (.cons _ (List.Sublist.refl _)))))⟩
  · refine opsT_heq (hs' := (b2, .cells #[.bool false] 4 (0, 0)) :: (b1, .cells #[sl bv 0 10 10] 25 (0, 0)) :: (bv, intsB (lstV k) 3) :: (bn, .cells #[ii 1] 3 (0, 0)) :: (by_, .cells #[yv] 67 (0, 0)) :: (bm, .cells #[ii 1] 3 (0, 0)) :: (bs, .cells #[.func (.func 162) #[] #[pt bn 0, pt by_ 0, pt bm 0, pt bs 0]] 67 (0, 0)) :: (H z2 ++ own)) rfl ?_
    refine kW 0 #[.bool false] ?_
    refine kPe [6] ?_
    refine tri_ret ?_
    refine post_then_ret ?_
    refine post_outM ?_
    refine outM_ret1 (v := .bool false) rfl (.cell 0 b2 0 1 #[.bool false] 4 (0, 0) rfl rfl (by kernel_rfl)) (fun W hR => ?_)
    exact .inr ⟨rfl, z2, hX1, (Rep.back (capt := [(bv, intsB (lstV k) 3), (bn, .cells #[ii 1] 3 (0, 0)), (by_, .cells #[yv] 67 (0, 0)), (bm, .cells #[ii 1] 3 (0, 0)), (bs, .cells #[.func (.func 162) #[] #[pt bn 0, pt by_ 0, pt bm 0, pt bs 0]] 67 (0, 0))]) (hR.forget (.cons _ (.cons _ (List.Sublist.refl _)))))⟩
theorem src_arr {W0 W : World} {M : List Nat} {hs : List (Nat × Obj)} {b cap : Nat} {us : List Value} {e : TypeId} {tx e2 : TypeId} (hR : Rep W0 M hs W) (hk : Tryz.prog.underlying tx = some (.slice e2)) (hm : (b, Obj.cells us.toArray e (0, 0)) ∈ hs) (hl : us.length = 10) (hone : us.all oneCell = true) :
    Src Tryz.prog 1 tx (.slice (some ⟨b, 0, none⟩) 10 cap) 10 us W := src_own (off := 0) (us := us) (e := e) hR hk hm (by omega) (fun j v hj => by simpa using hj) hone

theorem visit_root {β : Type} {H : β → List (Nat × Obj)} {I : Nat → β → Prop} {Ix : β → Prop} {yv : Value} {W0 : World} {M : List Nat} {bv bn by_ bm bs : Nat} {x₀ : β} (h0 : I 0 x₀) (hy : ∀ k, k < 112 → ∀ bv x, I k x → ∀ own W, Rep W0 M (H x ++ ([(bv, intsB (lstV k) 3)] ++ own)) W → CallV Tryz.prog yv #[.slice (some ⟨bv, 0, none⟩) 10 10] W (YPost W0 M H (I (k + 1)) Ix ([(bv, intsB (lstV k) 3)] ++ own))) {own : List (Nat × Obj)} {W : World} (hR : Rep W0 M (H x₀ ++ ([(bv, intsB (List.replicate 10 0) 3), (bn, .cells #[ii 1] 3 (0, 0)), (by_, .cells #[yv] 67 (0, 0)), (bm, .cells #[ii 1] 3 (0, 0)), (bs, .cells #[.func (.func 162) #[] #[pt bn 0, pt by_ 0, pt bm 0, pt bs 0]] 67 (0, 0))] ++ own)) W) :
    Calls Tryz.prog 162 #[sl bv 0 0 10, pt bn 0, pt by_ 0, pt bm 0, pt bs 0] W (YPost W0 M H (I 112) Ix ([(bn, .cells #[.int .i64 1] 3 (0, 0)), (bm, .cells #[.int .i64 1] 3 (0, 0))] ++ own)) := by
  refine calls_ofMarks (n := 25) Tryz.func162 rfl Tryz.ntmps162 rfl (hR.perm (List.perm_append_comm_assoc _ _ _)) ?_
  refine tri_eq (l' := [(0, sl bv 0 0 10), (1, pt bn 0), (2, pt by_ 0), (3, pt bm 0), (4, pt bs 0)]) (hs' := (bv, intsB (List.replicate 10 0) 3) :: (bn, .cells #[ii 1] 3 (0, 0)) :: (by_, .cells #[yv] 67 (0, 0)) :: (bm, .cells #[ii 1] 3 (0, 0)) :: (bs, .cells #[.func (.func 162) #[] #[pt bn 0, pt by_ 0, pt bm 0, pt bs 0]] 67 (0, 0)) :: (H x₀ ++ (own))) rfl rfl ?_
  refine wr [0, 1] rfl ?_
  refine kB (sl bv 0 0 10) fun b1 => ?_
  refine kA (.bool false) fun b2 => ?_
  refine kPe [6, 5, 1, 2, 3, 4] ?_
  refine tri_seq ?_
  refine wr [0, 1, 2, 3, 4] rfl ?_
  refine kL 1 (sl bv 0 0 10) ?_
  refine kS 1 0 [(9, ii 0)] [6, 5, 1, 2, 3, 4] ?_
  refine kL 3 (ii 1) ?_
  refine kSe 2 0 [(12, .bool false)] [6, 5, 2, 3, 4] ?_
  refine tri_cond_false rfl ?_
  refine tri_skip ?_
  refine post_then ?_
  refine tri_seq ?_
  refine wr [0, 1] rfl ?_
  refine kL 5 (ii 1) ?_
  refine opsT_callR (f := 163) (args := #[.int .i64 1]) [] ((b2, .cells #[.bool false] 4 (0, 0)) :: (b1, .cells #[sl bv 0 0 10] 25 (0, 0)) :: (bv, intsB (List.replicate 10 0) 3) :: (bn, .cells #[ii 1] 3 (0, 0)) :: (by_, .cells #[yv] 67 (0, 0)) :: (bm, .cells #[ii 1] 3 (0, 0)) :: (bs, .cells #[.func (.func 162) #[] #[pt bn 0, pt by_ 0, pt bm 0, pt bs 0]] 67 (0, 0)) :: (H x₀ ++ (own))) (fun bl => .func (.func 216) #[] #[.pointer (some ⟨bl, 0, none⟩)]) (fun bl => [(bl, .cells #[.int .i64 1] 3 (0, 0))]) (fun _ => True) rfl rfl rfl rfl rfl (run_call en163 rfl rfl rfl (by kernel_rfl)) (List.Perm.refl _) (fun W hR => lists_ W) (fun bl _ => ?_)
  refine opsT_heq (hs' := (bl, .cells #[ii 1] 3 (0, 0)) :: (b2, .cells #[.bool false] 4 (0, 0)) :: (b1, .cells #[sl bv 0 0 10] 25 (0, 0)) :: (bv, intsB (List.replicate 10 0) 3) :: (bn, .cells #[ii 1] 3 (0, 0)) :: (by_, .cells #[yv] 67 (0, 0)) :: (bm, .cells #[ii 1] 3 (0, 0)) :: (bs, .cells #[.func (.func 162) #[] #[pt bn 0, pt by_ 0, pt bm 0, pt bs 0]] 67 (0, 0)) :: (H x₀ ++ (own))) rfl ?_
  refine kPe [17, 6, 5, 4] ?_
  refine tri_block ?_
  refine tri_range (β := β × List Int) (capt := [(bl, .cells #[ii 1] 3 (0, 0))]) (own := own) (N := 112) (xs := lstA) (fun xz => (b2, .cells #[.bool false] 4 (0, 0)) :: (b1, .cells #[sl bv 0 0 10] 25 (0, 0)) :: (bv, intsB xz.2 3) :: (bn, .cells #[ii 1] 3 (0, 0)) :: (by_, .cells #[yv] 67 (0, 0)) :: (bm, .cells #[ii 1] 3 (0, 0)) :: (bs, .cells #[.func (.func 162) #[] #[pt bn 0, pt by_ 0, pt bm 0, pt bs 0]] 67 (0, 0)) :: H xz.1) (fun k xz => I k xz.1 ∧ xz.2.length = 10) (fun cx xz => (cx = .ret ∧ Ix xz.1 ∧ xz.2.length = 10)) (x₀, (List.replicate 10 0)) rfl en216 lists_iter (by first | rfl | simp) ⟨h0, rfl⟩ (fun k hk => rfl) (fun k hk => rfl) ?_ ?_ ?_
  · rintro k hk ⟨z, ws⟩ hI L1 rc1 own1 hst
    have hws : ws.length = 10 := hI.2
    refine tri_eq (l' := [(18, .agg #[ii ((k / 7 / 2 / 2 / 2 : Nat) : Int), ii ((k / 7 / 2 / 2 % 2 : Nat) : Int), ii ((k / 7 / 2 % 2 : Nat) : Int), ii ((k / 7 % 2 : Nat) : Int), ii (discL.getD (k % 7 * 6 + 0) 0), ii (discL.getD (k % 7 * 6 + 1) 0), ii (discL.getD (k % 7 * 6 + 2) 0), ii (discL.getD (k % 7 * 6 + 3) 0), ii (discL.getD (k % 7 * 6 + 4) 0), ii (discL.getD (k % 7 * 6 + 5) 0)]), (17, .func (.func 216) #[] #[pt bl 0]), (6, pt b2 0), (5, pt b1 0), (4, pt bs 0)]) (hs' := (L1, .loop rc1) :: (b2, .cells #[.bool false] 4 (0, 0)) :: (b1, .cells #[sl bv 0 0 10] 25 (0, 0)) :: (bv, intsB ws 3) :: (bn, .cells #[ii 1] 3 (0, 0)) :: (by_, .cells #[yv] 67 (0, 0)) :: (bm, .cells #[ii 1] 3 (0, 0)) :: (bs, .cells #[.func (.func 162) #[] #[pt bn 0, pt by_ 0, pt bm 0, pt bs 0]] 67 (0, 0)) :: (H z ++ (own1))) rfl rfl ?_
    refine tri_region (todo := [0, 1]) rfl ?_
    refine kA (.agg #[ii 0, ii 0, ii 0, ii 0, ii 0, ii 0, ii 0, ii 0, ii 0, ii 0]) fun b3 => ?_
    refine kW 0 #[ii ((k / 7 / 2 / 2 / 2 : Nat) : Int), ii ((k / 7 / 2 / 2 % 2 : Nat) : Int), ii ((k / 7 / 2 % 2 : Nat) : Int), ii ((k / 7 % 2 : Nat) : Int), ii (discL.getD (k % 7 * 6 + 0) 0), ii (discL.getD (k % 7 * 6 + 1) 0), ii (discL.getD (k % 7 * 6 + 2) 0), ii (discL.getD (k % 7 * 6 + 3) 0), ii (discL.getD (k % 7 * 6 + 4) 0), ii (discL.getD (k % 7 * 6 + 5) 0)] ?_
    refine kP [7, 6, 5, 4] ?_
    refine opsT_end ?_
    refine post_assign' (pre := [(b3, .cells #[ii ((k / 7 / 2 / 2 / 2 : Nat) : Int), ii ((k / 7 / 2 / 2 % 2 : Nat) : Int), ii ((k / 7 / 2 % 2 : Nat) : Int), ii ((k / 7 % 2 : Nat) : Int), ii (discL.getD (k % 7 * 6 + 0) 0), ii (discL.getD (k % 7 * 6 + 1) 0), ii (discL.getD (k % 7 * 6 + 2) 0), ii (discL.getD (k % 7 * 6 + 3) 0), ii (discL.getD (k % 7 * 6 + 4) 0), ii (discL.getD (k % 7 * 6 + 5) 0)] 224 (0, 0))]) hst rfl ?_
    refine tri_eq (l' := [(7, pt b3 0), (6, pt b2 0), (5, pt b1 0), (4, pt bs 0)]) (hs' := (L1, .loop { rc1 with state := .busy }) :: (b3, .cells #[ii ((k / 7 / 2 / 2 / 2 : Nat) : Int), ii ((k / 7 / 2 / 2 % 2 : Nat) : Int), ii ((k / 7 / 2 % 2 : Nat) : Int), ii ((k / 7 % 2 : Nat) : Int), ii (discL.getD (k % 7 * 6 + 0) 0), ii (discL.getD (k % 7 * 6 + 1) 0), ii (discL.getD (k % 7 * 6 + 2) 0), ii (discL.getD (k % 7 * 6 + 3) 0), ii (discL.getD (k % 7 * 6 + 4) 0), ii (discL.getD (k % 7 * 6 + 5) 0)] 224 (0, 0)) :: (b2, .cells #[.bool false] 4 (0, 0)) :: (b1, .cells #[sl bv 0 0 10] 25 (0, 0)) :: (bv, intsB ws 3) :: (bn, .cells #[ii 1] 3 (0, 0)) :: (by_, .cells #[yv] 67 (0, 0)) :: (bm, .cells #[ii 1] 3 (0, 0)) :: (bs, .cells #[.func (.func 162) #[] #[pt bn 0, pt by_ 0, pt bm 0, pt bs 0]] 67 (0, 0)) :: (H z ++ (own1))) rfl rfl ?_
    refine tri_block ?_
    refine tri_seq ?_
    refine tri_drawE 4 3 [.func (.func 162) #[] #[pt bn 0, pt by_ 0, pt bm 0, pt bs 0], sl bv 0 0 10, sl b3 0 10 10, sl bv 0 10 10] (sl bv 0 10 10) ((L1, .loop { rc1 with state := .busy }) :: (b3, .cells #[ii ((k / 7 / 2 / 2 / 2 : Nat) : Int), ii ((k / 7 / 2 / 2 % 2 : Nat) : Int), ii ((k / 7 / 2 % 2 : Nat) : Int), ii ((k / 7 % 2 : Nat) : Int), ii (discL.getD (k % 7 * 6 + 0) 0), ii (discL.getD (k % 7 * 6 + 1) 0), ii (discL.getD (k % 7 * 6 + 2) 0), ii (discL.getD (k % 7 * 6 + 3) 0), ii (discL.getD (k % 7 * 6 + 4) 0), ii (discL.getD (k % 7 * 6 + 5) 0)] 224 (0, 0)) :: (b2, .cells #[.bool false] 4 (0, 0)) :: (b1, .cells #[sl bv 0 0 10] 25 (0, 0)) :: (bv, intsB (lstV k) 3) :: (bn, .cells #[ii 1] 3 (0, 0)) :: (by_, .cells #[yv] 67 (0, 0)) :: (bm, .cells #[ii 1] 3 (0, 0)) :: (bs, .cells #[.func (.func 162) #[] #[pt bn 0, pt by_ 0, pt bm 0, pt bs 0]] 67 (0, 0)) :: (H z ++ (own1))) (l' := [(22, sl bv 0 10 10), (21, sl b3 0 10 10), (20, sl bv 0 0 10), (19, .func (.func 162) #[] #[pt bn 0, pt by_ 0, pt bm 0, pt bs 0]), (7, pt b3 0), (6, pt b2 0), (5, pt b1 0), (4, pt bs 0)]) (todo := [4, 5]) (by kernel_rfl) (by kernel_rfl) rfl (by kernel_rfl) rfl ?_ ?_ (lk := [(21, sl b3 0 10 10), (20, sl bv 0 0 10)]) (by kernel_rfl) ?_ (by kernel_rfl) rfl ?_
    · refine qallx_appendE (vs := [.func (.func 162) #[] #[pt bn 0, pt by_ 0, pt bm 0, pt bs 0], sl bv 0 0 10, sl b3 0 10 10]) (vs' := [sl bv 0 10 10]) (by kernel_rfl) (by
        refine qall_cons (opQ_loadOwn 8 bs 0 1 #[.func (.func 162) #[] #[pt bn 0, pt by_ 0, pt bm 0, pt bs 0]] 67 (0, 0) rfl rfl rfl rfl rfl rfl rfl rfl (by kernel_rfl)) ?_
        refine qall_cons (opQ_loadOwn 3 b1 0 1 #[sl bv 0 0 10] 25 (0, 0) rfl rfl rfl rfl rfl rfl rfl rfl (by kernel_rfl)) ?_
        refine qall_seg [.ex] (l' := [(21, sl b3 0 10 10), (20, sl bv 0 0 10), (19, .func (.func 162) #[] #[pt bn 0, pt by_ 0, pt bm 0, pt bs 0]), (7, pt b3 0), (6, pt b2 0), (5, pt b1 0), (4, pt bs 0)]) (vs := [sl b3 0 10 10]) (vs' := []) (obl := []) (by kernel_rfl) trivial ?_
        exact qall_nil) rfl ?_
      exact qallx_skip rfl (qallx_of_qall qall_nil)
    · refine qallx_appendE (vs := [.func (.func 162) #[] #[pt bn 0, pt by_ 0, pt bm 0, pt bs 0], sl bv 0 0 10, sl b3 0 10 10]) (vs' := [sl bv 0 10 10]) (by kernel_rfl) (by
        refine qall_cons (opQ_loadOwn 8 bs 0 1 #[.func (.func 162) #[] #[pt bn 0, pt by_ 0, pt bm 0, pt bs 0]] 67 (0, 0) rfl rfl rfl rfl rfl rfl rfl rfl (by kernel_rfl)) ?_
        refine qall_cons (opQ_loadOwn 3 b1 0 1 #[sl bv 0 0 10] 25 (0, 0) rfl rfl rfl rfl rfl rfl rfl rfl (by kernel_rfl)) ?_
        refine qall_seg [.ex] (l' := [(21, sl b3 0 10 10), (20, sl bv 0 0 10), (19, .func (.func 162) #[] #[pt bn 0, pt by_ 0, pt bm 0, pt bs 0]), (7, pt b3 0), (6, pt b2 0), (5, pt b1 0), (4, pt bs 0)]) (vs := [sl b3 0 10 10]) (vs' := []) (obl := []) (by kernel_rfl) trivial ?_
        exact qall_nil) rfl ?_
      exact qallx_skip rfl (qallx_of_qall qall_nil)
    · exact opA_appendRoom (e := 3) (size := 1) [] (ws.map (Value.int .i64)) ((lstV k).map (Value.int .i64)) 0 10 10 bv 4 (sl b3 0 10 10) rfl rfl rfl rfl rfl rfl rfl rfl rfl rfl rfl (by kernel_rfl) (by kernel_rfl) rfl rfl (by omega) (by rw [List.length_map, List.length_map, lstV_len]; omega) (by simp [oneCell]) (fun W hR => src_arr (us := (lstV k).map (Value.int .i64)) (e := 224) (e2 := 3) hR (by kernel_rfl) (List.mem_of_getElem? (i := 1) rfl) rfl (by simp [oneCell])) (by rw [List.length_map, lstV_len, List.drop_eq_nil_of_le (by rw [List.length_map]; omega), List.append_nil]; rfl)
    refine opsT_yieldG (H := H) (I' := I (k + 1)) (Ix := Ix) (z := z) (y := .func (.func 162) #[] #[pt bn 0, pt by_ 0, pt bm 0, pt bs 0]) (args := #[sl bv 0 10 10]) [(bv, intsB (lstV k) 3), (bn, .cells #[ii 1] 3 (0, 0)), (by_, .cells #[yv] 67 (0, 0)), (bm, .cells #[ii 1] 3 (0, 0)), (bs, .cells #[.func (.func 162) #[] #[pt bn 0, pt by_ 0, pt bm 0, pt bs 0]] 67 (0, 0))] ((L1, .loop { rc1 with state := .busy }) :: (b3, .cells #[ii ((k / 7 / 2 / 2 / 2 : Nat) : Int), ii ((k / 7 / 2 / 2 % 2 : Nat) : Int), ii ((k / 7 / 2 % 2 : Nat) : Int), ii ((k / 7 % 2 : Nat) : Int), ii (discL.getD (k % 7 * 6 + 0) 0), ii (discL.getD (k % 7 * 6 + 1) 0), ii (discL.getD (k % 7 * 6 + 2) 0), ii (discL.getD (k % 7 * 6 + 3) 0), ii (discL.getD (k % 7 * 6 + 4) 0), ii (discL.getD (k % 7 * 6 + 5) 0)] 224 (0, 0)) :: (b2, .cells #[.bool false] 4 (0, 0)) :: (b1, .cells #[sl bv 0 0 10] 25 (0, 0)) :: own1) (fun z => (L1, .loop { rc1 with state := .busy }) :: (b3, .cells #[ii ((k / 7 / 2 / 2 / 2 : Nat) : Int), ii ((k / 7 / 2 / 2 % 2 : Nat) : Int), ii ((k / 7 / 2 % 2 : Nat) : Int), ii ((k / 7 % 2 : Nat) : Int), ii (discL.getD (k % 7 * 6 + 0) 0), ii (discL.getD (k % 7 * 6 + 1) 0), ii (discL.getD (k % 7 * 6 + 2) 0), ii (discL.getD (k % 7 * 6 + 3) 0), ii (discL.getD (k % 7 * 6 + 4) 0), ii (discL.getD (k % 7 * 6 + 5) 0)] 224 (0, 0)) :: (b2, .cells #[.bool false] 4 (0, 0)) :: (b1, .cells #[sl bv 0 0 10] 25 (0, 0)) :: (bv, intsB (lstV k) 3) :: (bn, .cells #[ii 1] 3 (0, 0)) :: (by_, .cells #[yv] 67 (0, 0)) :: (bm, .cells #[ii 1] 3 (0, 0)) :: (bs, .cells #[.func (.func 162) #[] #[pt bn 0, pt by_ 0, pt bm 0, pt bs 0]] 67 (0, 0)) :: (H z ++ (own1))) rfl rfl rfl rfl rfl rfl rfl rfl (by kernel_rfl) (fun z => perm_yield ([(L1, .loop { rc1 with state := .busy }), (b3, .cells #[ii ((k / 7 / 2 / 2 / 2 : Nat) : Int), ii ((k / 7 / 2 / 2 % 2 : Nat) : Int), ii ((k / 7 / 2 % 2 : Nat) : Int), ii ((k / 7 % 2 : Nat) : Int), ii (discL.getD (k % 7 * 6 + 0) 0), ii (discL.getD (k % 7 * 6 + 1) 0), ii (discL.getD (k % 7 * 6 + 2) 0), ii (discL.getD (k % 7 * 6 + 3) 0), ii (discL.getD (k % 7 * 6 + 4) 0), ii (discL.getD (k % 7 * 6 + 5) 0)] 224 (0, 0)), (b2, .cells #[.bool false] 4 (0, 0)), (b1, .cells #[sl bv 0 0 10] 25 (0, 0))]) [(bv, intsB (lstV k) 3), (bn, .cells #[ii 1] 3 (0, 0)), (by_, .cells #[yv] 67 (0, 0)), (bm, .cells #[ii 1] 3 (0, 0)), (bs, .cells #[.func (.func 162) #[] #[pt bn 0, pt by_ 0, pt bm 0, pt bs 0]] 67 (0, 0))] ([]) (H z) own1) rfl (fun own' W' hW' => callV_func en162 (by kernel_rfl) (visit_leaf (hy k hk bv z hI.1) hW')) (fun z1 hI1 => ?_) (fun z2 hX1 => ?_)
    · refine opsT_heq (hs' := (L1, .loop { rc1 with state := .busy }) :: (b3, .cells #[ii ((k / 7 / 2 / 2 / 2 : Nat) : Int), ii ((k / 7 / 2 / 2 % 2 : Nat) : Int), ii ((k / 7 / 2 % 2 : Nat) : Int), ii ((k / 7 % 2 : Nat) : Int), ii (discL.getD (k % 7 * 6 + 0) 0), ii (discL.getD (k % 7 * 6 + 1) 0), ii (discL.getD (k % 7 * 6 + 2) 0), ii (discL.getD (k % 7 * 6 + 3) 0), ii (discL.getD (k % 7 * 6 + 4) 0), ii (discL.getD (k % 7 * 6 + 5) 0)] 224 (0, 0)) :: (b2, .cells #[.bool false] 4 (0, 0)) :: (b1, .cells #[sl bv 0 0 10] 25 (0, 0)) :: (bv, intsB (lstV k) 3) :: (bn, .cells #[ii 1] 3 (0, 0)) :: (by_, .cells #[yv] 67 (0, 0)) :: (bm, .cells #[ii 1] 3 (0, 0)) :: (bs, .cells #[.func (.func 162) #[] #[pt bn 0, pt by_ 0, pt bm 0, pt bs 0]] 67 (0, 0)) :: (H z1 ++ (own1))) rfl ?_
      refine kSe 1 0 [(24, .bool false)] [6] ?_
      refine tri_cond_false rfl ?_
      refine tri_skip ?_
      refine post_block ?_
      exact post_rq (z1, (lstV k)) ⟨hI1, lstV_len k⟩ (.cons_cons _ (.cons _ (List.Sublist.refl _)))
    · refine opsT_heq (hs' := (L1, .loop { rc1 with state := .busy }) :: (b3, .cells #[ii ((k / 7 / 2 / 2 / 2 : Nat) : Int), ii ((k / 7 / 2 / 2 % 2 : Nat) : Int), ii ((k / 7 / 2 % 2 : Nat) : Int), ii ((k / 7 % 2 : Nat) : Int), ii (discL.getD (k % 7 * 6 + 0) 0), ii (discL.getD (k % 7 * 6 + 1) 0), ii (discL.getD (k % 7 * 6 + 2) 0), ii (discL.getD (k % 7 * 6 + 3) 0), ii (discL.getD (k % 7 * 6 + 4) 0), ii (discL.getD (k % 7 * 6 + 5) 0)] 224 (0, 0)) :: (b2, .cells #[.bool false] 4 (0, 0)) :: (b1, .cells #[sl bv 0 0 10] 25 (0, 0)) :: (bv, intsB (lstV k) 3) :: (bn, .cells #[ii 1] 3 (0, 0)) :: (by_, .cells #[yv] 67 (0, 0)) :: (bm, .cells #[ii 1] 3 (0, 0)) :: (bs, .cells #[.func (.func 162) #[] #[pt bn 0, pt by_ 0, pt bm 0, pt bs 0]] 67 (0, 0)) :: (H z2 ++ (own1))) rfl ?_
      refine kSe 1 0 [(24, .bool true)] [6] ?_
      refine tri_cond_true rfl ?_
      refine wr [0] rfl ?_
      refine kW 2 #[.bool false] ?_
      refine kPe [] ?_
      refine tri_ret ?_
      refine post_block_ret ?_
      exact post_rq_ret (z2, (lstV k)) ⟨rfl, hX1, lstV_len k⟩ (.cons_cons _ (.cons _ (List.Sublist.refl _)))
  · rintro ⟨z, ws⟩ hI D1 L2 rc2
    refine post_perm (hs' := (D1, .deferred (some [])) :: (L2, .loop rc2) :: (b2, .cells #[.bool false] 4 (0, 0)) :: (b1, .cells #[sl bv 0 0 10] 25 (0, 0)) :: (bv, intsB ws 3) :: (bn, .cells #[ii 1] 3 (0, 0)) :: (by_, .cells #[yv] 67 (0, 0)) :: (bm, .cells #[ii 1] 3 (0, 0)) :: (bs, .cells #[.func (.func 162) #[] #[pt bn 0, pt by_ 0, pt bm 0, pt bs 0]] 67 (0, 0)) :: (H z ++ ((bl, .cells #[ii 1] 3 (0, 0)) :: own))) (List.Perm.refl _) ?_
    refine post_block ?_
    refine post_then ?_
    refine wr [0] rfl ?_
    refine kW 2 #[.bool true] ?_
    refine kPe [6] ?_
    refine tri_ret ?_
    refine post_outM ?_
    refine outM_mark 0 rfl ?_
    refine outM_ret1 (v := .bool true) rfl (.cell 2 b2 0 1 #[.bool true] 4 (0, 0) rfl rfl (by kernel_rfl)) (fun W hR => ?_)
    exact .inl ⟨rfl, z, hI.1, (Rep.back (capt := [(bn, .cells #[.int .i64 1] 3 (0, 0)), (bm, .cells #[.int .i64 1] 3 (0, 0))]) (hR.forget (hs' := (bn, .cells #[ii 1] 3 (0, 0)) :: (bm, .cells #[ii 1] 3 (0, 0)) :: (H z ++ (own))) (.cons _ (.cons _ (.cons _ (.cons _ (.cons _ (.cons_cons _ (.cons _ (.cons_cons _ (.cons _ (List.Sublist.append_left (.cons _ (List.Sublist.refl _)) _))))))))))))⟩
  · rintro c ⟨z, ws⟩ ⟨rfl, hJ⟩ D1 L2 rc2
    refine tri_eq (l' := [(17, .func (.func 216) #[] #[pt bl 0]), (6, pt b2 0), (5, pt b1 0), (4, pt bs 0)]) (hs' := (D1, .deferred (some [])) :: (L2, .loop rc2) :: (b2, .cells #[.bool false] 4 (0, 0)) :: (b1, .cells #[sl bv 0 0 10] 25 (0, 0)) :: (bv, intsB ws 3) :: (bn, .cells #[ii 1] 3 (0, 0)) :: (by_, .cells #[yv] 67 (0, 0)) :: (bm, .cells #[ii 1] 3 (0, 0)) :: (bs, .cells #[.func (.func 162) #[] #[pt bn 0, pt by_ 0, pt bm 0, pt bs 0]] 67 (0, 0)) :: (H z ++ ((bl, .cells #[ii 1] 3 (0, 0)) :: own))) rfl rfl ?_
    refine tri_ret ?_
    refine post_block_ret ?_
    refine post_then_ret ?_
    refine post_outM ?_
    refine outM_mark 0 rfl ?_
    refine outM_ret1 (v := .bool false) rfl (.cell 2 b2 0 1 #[.bool false] 4 (0, 0) rfl rfl (by kernel_rfl)) (fun W hR => ?_)
    exact .inr ⟨rfl, z, hJ.1, (Rep.back (capt := [(bn, .cells #[.int .i64 1] 3 (0, 0)), (bm, .cells #[.int .i64 1] 3 (0, 0))]) (hR.forget (hs' := (bn, .cells #[ii 1] 3 (0, 0)) :: (bm, .cells #[ii 1] 3 (0, 0)) :: (H z ++ (own))) (.cons _ (.cons _ (.cons _ (.cons _ (.cons _ (.cons_cons _ (.cons _ (.cons_cons _ (.cons _ (List.Sublist.append_left (.cons _ (List.Sublist.refl _)) _))))))))))))⟩
end Go.Proofs.YtlkbokbcfajhjaaGreat
