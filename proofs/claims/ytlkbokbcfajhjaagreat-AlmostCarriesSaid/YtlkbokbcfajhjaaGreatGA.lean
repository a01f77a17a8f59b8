/- G27: coordinates, the iterator ¦ G28: the example: one tetrahedron ¦ G29: S; its spheres -/
import Derived.Test.YtlkbokbcfajhjaaGreatG26
import Derived.Test.YtlkbokbcfajhjaaGreatBA
import Derived.Test.YtlkbokbcfajhjaaGreatB17
import Derived.Test.YtlkbokbcfajhjaaGreatD1
namespace Go.Proofs.YtlkbokbcfajhjaaGreat
open Go.Proofs.Walk
set_option maxRecDepth 100000
set_option linter.unusedVariables false
set_option linter.unusedSimpArgs false

theorem coords_iter {bn bm : Nat} {W0 : World} {M : List Nat} : IterG Tryz.prog 161 #[.pointer (some ⟨bn, 0, none⟩), .pointer (some ⟨bm, 0, none⟩)] [(bn, .cells #[.int .i64 1] 3 (0, 0)), (bm, .cells #[.int .i64 1] 3 (0, 0))] 112 (γ := Nat) (fun _ bv => #[.slice (some ⟨bv, 0, none⟩) 10 10]) (fun k bv => [(bv, intsB (lstV k) 3)]) W0 M := by
  refine ⟨fun β H I Ix yv hyv hy x₀ hI own W hR => ?_⟩
  refine calls_ofMarks (n := 11) Tryz.func161 rfl Tryz.ntmps161 rfl (hR.perm (List.perm_append_comm_assoc _ _ _)) ?_
  refine tri_eq (l' := [(0, yv), (1, pt bn 0), (2, pt bm 0)]) (hs' := (bn, .cells #[ii 1] 3 (0, 0)) :: (bm, .cells #[ii 1] 3 (0, 0)) :: (H x₀ ++ (own))) rfl rfl ?_
  refine wr [0] rfl ?_
  refine kB (yv) fun b1 => ?_
  refine kPe [3, 1, 2] ?_
  refine tri_seq ?_
  refine tri_heq (hs' := (b1, .cells #[yv] 67 (0, 0)) :: (bn, .cells #[ii 1] 3 (0, 0)) :: (bm, .cells #[ii 1] 3 (0, 0)) :: (H x₀ ++ (own))) (by rw [hyv]) ?_
  refine tri_region (todo := [0]) rfl ?_
  refine kA (.nilFunc) fun b2 => ?_
  refine wn [0, 1] rfl ?_
  refine kS 1 0 [(5, .func (.func 162) #[] #[pt bn 0, pt b1 0, pt bm 0, pt b2 0])] [4, 1] ?_
  refine kW 0 #[.func (.func 162) #[] #[pt bn 0, pt b1 0, pt bm 0, pt b2 0]] ?_
  refine kPe [4, 1] ?_
  refine tri_drawA 4 3 (fun b3 => [.func (.func 162) #[] #[pt bn 0, pt b1 0, pt bm 0, pt b2 0], ii 1, ii 10, sl b3 0 0 10]) (fun b3 => sl b3 0 0 10) (vecB (List.replicate 10 (ii 0)) 3) (l' := fun b3 => [(9, sl b3 0 0 10), (8, ii 10), (7, ii 1), (6, .func (.func 162) #[] #[pt bn 0, pt b1 0, pt bm 0, pt b2 0]), (4, pt b2 0), (1, pt bn 0)]) (todo := [4]) (by kernel_rfl) (by kernel_rfl) (fun _ => rfl) (by kernel_rfl) (fun _ => rfl) (fun xA yA jA hjA => ?_) ?_ ?_ (lk := [(8, ii 10)]) (by kernel_rfl) ?_ (fun _ => by kernel_rfl) rfl (fun b3 => ?_)
  · exact getElem?_but (f := fun b3 => [.func (.func 162) #[] #[pt bn 0, pt b1 0, pt bm 0, pt b2 0], ii 1, ii 10, sl b3 0 0 10]) (g := fun b3 => sl b3 0 0 10) 3 (fun _ => ([.func (.func 162) #[] #[pt bn 0, pt b1 0, pt bm 0, pt b2 0], ii 1, ii 10] : List Value)) (fun _ => ([] : List Value)) (fun _ _ => rfl) (fun _ _ => rfl) (fun _ => rfl) (fun _ => rfl) xA yA jA hjA
  · show QAllX _ _ _ _ _ _ _ [.func (.func 162) #[] #[pt bn 0, pt b1 0, pt bm 0, pt b2 0], ii 1, ii 10, sl 0 0 0 10]
    refine qallx_appendE (vs := [.func (.func 162) #[] #[pt bn 0, pt b1 0, pt bm 0, pt b2 0], ii 1, ii 10]) (vs' := [sl 0 0 0 10]) (by kernel_rfl) (by
      exact qallW [none, none, some .ex] [.func (.func 162) #[] #[pt bn 0, pt b1 0, pt bm 0, pt b2 0], ii 1] [(0, [(4, pt b2 0)], .func (.func 162) #[] #[pt bn 0, pt b1 0, pt bm 0, pt b2 0]), (1, [(1, pt bn 0)], ii 1)] [] (by kernel_rfl) trivial (aq (opQ_loadOwn 0 b2 0 1 #[.func (.func 162) #[] #[pt bn 0, pt b1 0, pt bm 0, pt b2 0]] 67 (0, 0) rfl rfl rfl rfl rfl rfl rfl rfl (by kernel_rfl)) (aq (opQ_loadOwn 2 bn 0 1 #[ii 1] 3 (0, 0) rfl rfl rfl rfl rfl rfl rfl rfl (by kernel_rfl)) aq0))) rfl ?_
    refine qallx_skip rfl (qallx_of_qall (by
      exact qallW [] [] [] [] (by kernel_rfl) trivial aq0))
  · intro b3
    refine qallx_appendE (vs := [.func (.func 162) #[] #[pt bn 0, pt b1 0, pt bm 0, pt b2 0], ii 1, ii 10]) (vs' := [sl b3 0 0 10]) (by kernel_rfl) (by
      exact qallW [none, none, some .ex] [.func (.func 162) #[] #[pt bn 0, pt b1 0, pt bm 0, pt b2 0], ii 1] [(0, [(4, pt b2 0)], .func (.func 162) #[] #[pt bn 0, pt b1 0, pt bm 0, pt b2 0]), (1, [(1, pt bn 0)], ii 1)] [] (by kernel_rfl) trivial (aq (opQ_loadOwn 1 b2 0 1 #[.func (.func 162) #[] #[pt bn 0, pt b1 0, pt bm 0, pt b2 0]] 67 (0, 0) rfl rfl rfl rfl rfl rfl rfl rfl (by kernel_rfl)) (aq (opQ_loadOwn 3 bn 0 1 #[ii 1] 3 (0, 0) rfl rfl rfl rfl rfl rfl rfl rfl (by kernel_rfl)) aq0))) rfl ?_
    refine qallx_skip rfl (qallx_of_qall (by
      exact qallW [] [] [] [] (by kernel_rfl) trivial aq0))
  · exact opA_make (e := 3) 0 10 (ii 0) 8 rfl rfl rfl rfl rfl rfl rfl rfl rfl (by kernel_rfl) rfl (by omega) (by omega) (by omega)
  refine opsT_heq (hs' := (b3, vecB (List.replicate 10 (ii 0)) 3) :: (b2, .cells #[.func (.func 162) #[] #[pt bn 0, pt b1 0, pt bm 0, pt b2 0]] 67 (0, 0)) :: (b1, .cells #[yv] 67 (0, 0)) :: (bn, .cells #[ii 1] 3 (0, 0)) :: (bm, .cells #[ii 1] 3 (0, 0)) :: (H x₀ ++ (own))) rfl ?_
  refine opsT_heq (hs' := (b3, intsB (List.replicate 10 0) 3) :: (b2, .cells #[.func (.func 162) #[] #[pt bn 0, pt b1 0, pt bm 0, pt b2 0]] 67 (0, 0)) :: (b1, .cells #[yv] 67 (0, 0)) :: (bn, .cells #[ii 1] 3 (0, 0)) :: (bm, .cells #[ii 1] 3 (0, 0)) :: (H x₀ ++ (own))) rfl ?_
  refine opsT_perm (hs' := (b3, intsB (List.replicate 10 0) 3) :: (bn, .cells #[ii 1] 3 (0, 0)) :: (b1, .cells #[yv] 67 (0, 0)) :: (bm, .cells #[ii 1] 3 (0, 0)) :: (b2, .cells #[.func (.func 162) #[] #[pt bn 0, pt b1 0, pt bm 0, pt b2 0]] 67 (0, 0)) :: (H x₀ ++ (own))) ((perm_ix 5 [0, 3, 2, 4, 1] ([(b3, intsB (List.replicate 10 0) 3), (b2, .cells #[.func (.func 162) #[] #[pt bn 0, pt b1 0, pt bm 0, pt b2 0]] 67 (0, 0)), (b1, .cells #[yv] 67 (0, 0)), (bn, .cells #[ii 1] 3 (0, 0)), (bm, .cells #[ii 1] 3 (0, 0))] : List (Nat × Obj)) (hs' := [(b3, intsB (List.replicate 10 0) 3), (bn, .cells #[ii 1] 3 (0, 0)), (b1, .cells #[yv] 67 (0, 0)), (bm, .cells #[ii 1] 3 (0, 0)), (b2, .cells #[.func (.func 162) #[] #[pt bn 0, pt b1 0, pt bm 0, pt b2 0]] 67 (0, 0))]) (by decide) rfl rfl).append_right _) ?_
  refine opsT_yieldG2 (H := H) (I' := I 112) (Ix := Ix) (z := x₀) (y := .func (.func 162) #[] #[pt bn 0, pt b1 0, pt bm 0, pt b2 0]) (args := #[sl b3 0 0 10]) [(b3, intsB (List.replicate 10 0) 3), (bn, .cells #[ii 1] 3 (0, 0)), (b1, .cells #[yv] 67 (0, 0)), (bm, .cells #[ii 1] 3 (0, 0)), (b2, .cells #[.func (.func 162) #[] #[pt bn 0, pt b1 0, pt bm 0, pt b2 0]] 67 (0, 0))] [(bn, .cells #[ii 1] 3 (0, 0)), (bm, .cells #[ii 1] 3 (0, 0))] own (fun z => (bn, .cells #[ii 1] 3 (0, 0)) :: (bm, .cells #[ii 1] 3 (0, 0)) :: (H z ++ (own))) rfl rfl rfl rfl rfl rfl rfl rfl (by kernel_rfl) (fun z => List.perm_append_comm_assoc ([(bn, .cells #[ii 1] 3 (0, 0)), (bm, .cells #[ii 1] 3 (0, 0))] : List (Nat × Obj)) (H z) own) (List.perm_append_comm_assoc ([(b3, intsB (List.replicate 10 0) 3), (bn, .cells #[ii 1] 3 (0, 0)), (b1, .cells #[yv] 67 (0, 0)), (bm, .cells #[ii 1] 3 (0, 0)), (b2, .cells #[.func (.func 162) #[] #[pt bn 0, pt b1 0, pt bm 0, pt b2 0]] 67 (0, 0))] : List (Nat × Obj)) (H x₀) own) (fun own' W' hW' => callV_func en162 (by kernel_rfl) (visit_root hI hy hW')) (fun z1 hI1 => ?_) (fun z2 hX1 => ?_)
  · refine opsT_heq (hs' := (bn, .cells #[ii 1] 3 (0, 0)) :: (bm, .cells #[ii 1] 3 (0, 0)) :: (H z1 ++ (own))) rfl ?_
    refine kP [] ?_
    refine opsT_end ?_
    refine post_outMn ?_
    refine outM_ret0  rfl  (fun W hR => ?_)
    exact ⟨rfl, .inl ⟨z1, hI1, hR.perm (List.perm_append_comm_assoc ([(bn, .cells #[.int .i64 1] 3 (0, 0)), (bm, .cells #[.int .i64 1] 3 (0, 0))] : List (Nat × Obj)) (H z1) own)⟩⟩
  · refine opsT_heq (hs' := (bn, .cells #[ii 1] 3 (0, 0)) :: (bm, .cells #[ii 1] 3 (0, 0)) :: (H z2 ++ (own))) rfl ?_
    refine kP [] ?_
    refine opsT_end ?_
    refine post_outMn ?_
    refine outM_ret0  rfl  (fun W hR => ?_)
    exact ⟨rfl, .inr ⟨z2, hX1, hR.perm (List.perm_append_comm_assoc ([(bn, .cells #[.int .i64 1] 3 (0, 0)), (bm, .cells #[.int .i64 1] 3 (0, 0))] : List (Nat × Obj)) (H z2) own)⟩⟩
end Go.Proofs.YtlkbokbcfajhjaaGreat
namespace Go.Proofs.YtlkbokbcfajhjaaGreat
open Go.Proofs.Walk
set_option maxRecDepth 100000
set_option linter.unusedVariables false
set_option linter.unusedSimpArgs false

/-- The gluing S, and coordinates on it. -/
def cS (_t k : Nat) : Int := ([0, 1, 0, 2, 3, 0, 1, 0, 2, 3, 0, 0, 1, 3, 2, 0, 0, 1, 3, 2] : List Int).getD k 0
def lA : List Int := [0, 0, 0, 0, 0, 0, 0, 1, 0, 0]
def lB : List Int := [1, 1, 0, 0, 0, 0, 0, 1, 0, 0]
def lC : List Int := [0, 0, 0, 0, 0, 0, 0, 0, 1, 0]
instance (v : Nat → Int) (t : Nat) : Decidable (okT v t) := by unfold okT; infer_instance
instance {c : Nat → Nat → Int} {v : Nat → Int} {p : Nat × Nat × Nat} : Decidable (EqOK c v p) := by unfold EqOK; infer_instance
instance (n : Nat) (v : Nat → Int) : Decidable (InR n v) := by unfold InR; infer_instance
instance (n : Nat) (c : Nat → Nat → Int) (nv : Nat) (v : Nat → Int) : Decidable (Holds n c nv v) := by unfold Holds; infer_instance
theorem wtsA : wtsTo 1 cS (vOf lA) (6 * 1) = [2, 1, 2] := by decide +kernel
theorem eulA : eulP 1 cS (vOf lA) = 2 := by decide +kernel
theorem prtB : partN 1 cS (vOf lB) = 2 := by decide +kernel
theorem mainB : mainL 1 cS (vOf lB) (7, 0) = lA := by decide +kernel
theorem holA : Holds 1 cS 10 (vOf lA) := by decide +kernel
theorem holB : Holds 1 cS 10 (vOf lB) := by decide +kernel
theorem holC : ¬ Holds 1 cS 10 (vOf lC) := by decide +kernel
theorem pcsB : (pcs (10 * 1) (vOf lB)).length ≤ 20000 := by decide +kernel
theorem pcsK' : ∀ k, k < 112 → (pcs (10 * 1) (vOf (lstV k))).length ≤ 20000 := by decide +kernel
theorem sph3 : ∀ k, k < 112 → ((Holds 1 cS 10 (vOf (lstV k)) ∧ eulP 1 cS (vOf (lstV k)) = 2 ∧ ((partN 1 cS (vOf (lstV k)) : Nat) : Int) = 1) ↔ k = 3) := by decide +kernel
theorem lst3 : lstV 3 = lA := by decide +kernel
theorem octA {x : Nat} (h : IsOct 1 (vOf lA) x) : x = 7 := oct_unique holA.2.1 holA.2.2.2.1 h ⟨by decide, by decide, by decide⟩
theorem octB {x : Nat} (h : IsOct 1 (vOf lB) x) : x = 7 := oct_unique holB.2.1 holB.2.2.2.1 h ⟨by decide, by decide, by decide⟩
theorem glueS : GlueOK 1 cS := by
  refine ⟨by decide, fun k hk => ?_⟩
  have h : k = 0 ∨ k = 1 ∨ k = 2 ∨ k = 3 := by omega
  rcases h with rfl | rfl | rfl | rfl
  · exact .inr ⟨by decide, by decide, by decide, by decide, 1, by decide, by decide, by decide, by decide, by decide, by decide⟩
  · exact .inr ⟨by decide, by decide, by decide, by decide, 0, by decide, by decide, by decide, by decide, by decide, by decide⟩
  · exact .inr ⟨by decide, by decide, by decide, by decide, 3, by decide, by decide, by decide, by decide, by decide, by decide⟩
  · exact .inr ⟨by decide, by decide, by decide, by decide, 2, by decide, by decide, by decide, by decide, by decide, by decide⟩

end Go.Proofs.YtlkbokbcfajhjaaGreat
namespace Go.Proofs.YtlkbokbcfajhjaaGreat
open Go.Proofs.Walk
set_option maxRecDepth 100000
set_option linter.unusedVariables false
set_option linter.unusedSimpArgs false

theorem en36 : Walk.Enters Tryz.prog 36 := Walk.enters Tryz.func36 (by kernel_rfl) rfl
theorem en37 : Walk.Enters Tryz.prog 37 := Walk.enters Tryz.func37 (by kernel_rfl) rfl
def lS : List Int := [0, 1, 0, 2, 3, 0, 1, 0, 2, 3, 0, 0, 1, 3, 2, 0, 0, 1, 3, 2]
def rowS : List Value := lS.map (Value.int .i64)
theorem S_ (w : World) : Calls Tryz.prog 36 #[] w fun e w' => ∃ b : Nat, True ∧ e = .returned (.agg #[.slice (some ⟨b, 0, none⟩) 1 1]) ∧ Rep w [] [(b, vecB rowS 76)] w' := by
  refine calls_of (n := 16) Tryz.func36 rfl Tryz.ntmps36 rfl ?_
  refine tri_eq (l' := []) (hs' := []) rfl rfl ?_
  refine wr [0] rfl ?_
  refine kA (.agg #[.slice none 0 0]) fun b1 => ?_
  refine wn [0, 1, 2, 3, 4, 5] rfl ?_
  refine kS 2 0 [(4, .agg #[ii 0, ii 1, ii 3, ii 2]), (3, .agg #[ii 1, ii 0, ii 2, ii 3])] [0] ?_
  refine kA (.agg #[ii 0, ii 0, ii 0, ii 0]) fun b2 => ?_
  refine kA (.agg #[ii 0, ii 0, ii 0, ii 0]) fun b3 => ?_
  refine kW 1 #[ii 1, ii 0, ii 2, ii 3] ?_
  refine kW 0 #[ii 0, ii 1, ii 3, ii 2] ?_
  refine kP [2, 1, 0] ?_
  refine wn [0, 1, 2, 3, 4, 5, 6, 7, 8, 9, 10, 11] rfl ?_
  refine kL 1 (.agg #[ii 1, ii 0, ii 2, ii 3]) ?_
  refine kS 1 0 [(6, .agg #[ii 0, ii 1, ii 0, ii 2, ii 3])] [2, 1, 0] ?_
  refine kL 1 (.agg #[ii 1, ii 0, ii 2, ii 3]) ?_
  refine kS 1 0 [(8, .agg #[ii 0, ii 1, ii 0, ii 2, ii 3])] [6, 2, 0] ?_
  refine kL 0 (.agg #[ii 0, ii 1, ii 3, ii 2]) ?_
  refine kS 1 0 [(10, .agg #[ii 0, ii 0, ii 1, ii 3, ii 2])] [8, 6, 2, 0] ?_
  refine kL 0 (.agg #[ii 0, ii 1, ii 3, ii 2]) ?_
  refine kS 2 0 [(13, .agg #[ii 0, ii 1, ii 0, ii 2, ii 3, ii 0, ii 1, ii 0, ii 2, ii 3, ii 0, ii 0, ii 1, ii 3, ii 2, ii 0, ii 0, ii 1, ii 3, ii 2])] [0] ?_
  refine opsT_buildSlice (e := 76) (size := 20) (z := .agg #[ii 0, ii 0, ii 0, ii 0, ii 0, ii 0, ii 0, ii 0, ii 0, ii 0, ii 0, ii 0, ii 0, ii 0, ii 0, ii 0, ii 0, ii 0, ii 0, ii 0]) [ii 0, ii 1, ii 0, ii 2, ii 3, ii 0, ii 1, ii 0, ii 2, ii 3, ii 0, ii 0, ii 1, ii 3, ii 2, ii 0, ii 0, ii 1, ii 3, ii 2] rfl rfl rfl rfl rfl rfl (by kernel_rfl) (by kernel_rfl) (by kernel_rfl) (by kernel_rfl) (fun b4 => ?_)
  refine opsT_heq (hs' := [(b4, .cells #[ii 0, ii 1, ii 0, ii 2, ii 3, ii 0, ii 1, ii 0, ii 2, ii 3, ii 0, ii 0, ii 1, ii 3, ii 2, ii 0, ii 0, ii 1, ii 3, ii 2] 76 (0, 0)), (b3, .cells #[ii 0, ii 1, ii 3, ii 2] 72 (0, 0)), (b2, .cells #[ii 1, ii 0, ii 2, ii 3] 72 (0, 0)), (b1, .cells #[.slice none 0 0] 24 (0, 0))]) rfl ?_
  refine kS 1 0 [(15, .agg #[sl b4 0 1 1])] [0] ?_
  refine kW 3 #[sl b4 0 1 1] ?_
  refine kPe [0] ?_
  refine tri_ret ?_
  refine post_ret1 (v := .agg #[sl b4 0 1 1]) rfl (.cell 3 b1 0 1 #[sl b4 0 1 1] 24 (0, 0) rfl rfl (by kernel_rfl)) (fun W hR => ?_)
  exact ⟨b4, trivial, rfl, hR.forget (.cons_cons _ (List.nil_sublist _))⟩
theorem at_S {W0 W : World} {M : List Nat} {hs : List (Nat × Obj)} {b : Nat} (hR : Rep W0 M hs W) (hm : (b, vecB rowS 76) ∈ hs) : At W b 0 1 cS := by
  intro t ht k hk
  obtain rfl : t = 0 := by omega
  rw [cell_own (hR.own b _ hm)]
  have h : ∀ k, k < 20 → lS[k]? = some (cS 0 k) := by decide
  have := h k hk
  simp [rowS, this]

end Go.Proofs.YtlkbokbcfajhjaaGreat
