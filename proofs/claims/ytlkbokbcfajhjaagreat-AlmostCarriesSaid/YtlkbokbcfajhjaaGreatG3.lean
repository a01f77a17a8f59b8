/- G3: Check -/
import Derived.Test.YtlkbokbcfajhjaaGreatG2
import Derived.Test.YtlkbokbcfajhjaaGreatB17
import Derived.Test.YtlkbokbcfajhjaaGreatD1
namespace Go.Proofs.YtlkbokbcfajhjaaGreat
open Go.Proofs.Walk
set_option maxRecDepth 100000
set_option linter.unusedVariables false
set_option linter.unusedSimpArgs false

theorem en43 : Walk.Enters Tryz.prog 43 := Walk.enters Tryz.func43 (by kernel_rfl) rfl
theorem faces (sv : Value) (w : World) : Calls Tryz.prog 92 #[.agg #[sv]] w fun e w' => ∃ bg, True ∧ e = .returned (.func (.func 166) #[] #[.pointer (some ⟨bg, 0, none⟩)]) ∧ Rep w [] [(bg, .cells #[sv] 24 (0, 0))] w' := by
  refine calls_of (n := 4) Tryz.func92 rfl Tryz.ntmps92 rfl ?_
  refine tri_eq (l' := [(0, .agg #[sv])]) (hs' := []) rfl rfl ?_
  refine wr [0, 1] rfl ?_
  refine kB (.agg #[sv]) fun b1 => ?_
  refine kSn 1 0 [] [1] [0, 1] ?_
  refine kSe 2 0 [(2, .func (.func 166) #[] #[pt b1 0])] [] ?_
  refine tri_ret ?_
  refine post_ret1 (v := .func (.func 166) #[] #[pt b1 0]) rfl (.tmp rfl) (fun W hR => ?_)
  exact ⟨b1, trivial, rfl, hR⟩

theorem getD_five (x a b c d : Int) (f : Nat) (hf : f < 4) : [x, a, b, c, d].getD (1 + f + 0) 0 = sel a b c d f := by
  have : f = 0 ∨ f = 1 ∨ f = 2 ∨ f = 3 := by omega
  rcases this with rfl | rfl | rfl | rfl <;> rfl
variable {n : Nat} {c : Nat → Nat → Int} {t f : Nat}
theorem face_none (h : (decide (c t (f * 5) = -1) && ((decide (c t (f * 5 + 1) = 0) && (decide (c t (f * 5 + 2) = 0) && (decide (c t (f * 5 + 3) = 0) && (decide (c t (f * 5 + 4) = 0) && true)))) && true)) = true) : FaceOK n c t f := by
  simp at h
  exact .inl ⟨h.1, h.2.1, h.2.2.1, h.2.2.2.1, h.2.2.2.2⟩
theorem face_good (hf : f < 4) (h3 : ¬ c t (f * 5) < 0) (h4 : ¬ (n : Int) ≤ c t (f * 5)) (h5 : OkPerm (c t (f * 5 + 1)) (c t (f * 5 + 2)) (c t (f * 5 + 3)) (c t (f * 5 + 4))) (h6 : ¬ (c t (f * 5) = t ∧ [c t (f * 5), c t (f * 5 + 1), c t (f * 5 + 2), c t (f * 5 + 3), c t (f * 5 + 4)].getD (1 + f + 0) 0 = f)) (h7 : (!(decide (c (c t (f * 5)).toNat (([c t (f * 5), c t (f * 5 + 1), c t (f * 5 + 2), c t (f * 5 + 3), c t (f * 5 + 4)].getD (1 + f + 0) 0).toNat * 5) = t) && ((decide (c (c t (f * 5)).toNat (([c t (f * 5), c t (f * 5 + 1), c t (f * 5 + 2), c t (f * 5 + 3), c t (f * 5 + 4)].getD (1 + f + 0) 0).toNat * 5 + 1) = inv (c t (f * 5 + 1)) (c t (f * 5 + 2)) (c t (f * 5 + 3)) (c t (f * 5 + 4)) 0) && (decide (c (c t (f * 5)).toNat (([c t (f * 5), c t (f * 5 + 1), c t (f * 5 + 2), c t (f * 5 + 3), c t (f * 5 + 4)].getD (1 + f + 0) 0).toNat * 5 + 2) = inv (c t (f * 5 + 1)) (c t (f * 5 + 2)) (c t (f * 5 + 3)) (c t (f * 5 + 4)) 1) && (decide (c (c t (f * 5)).toNat (([c t (f * 5), c t (f * 5 + 1), c t (f * 5 + 2), c t (f * 5 + 3), c t (f * 5 + 4)].getD (1 + f + 0) 0).toNat * 5 + 3) = inv (c t (f * 5 + 1)) (c t (f * 5 + 2)) (c t (f * 5 + 3)) (c t (f * 5 + 4)) 2) && (decide (c (c t (f * 5)).toNat (([c t (f * 5), c t (f * 5 + 1), c t (f * 5 + 2), c t (f * 5 + 3), c t (f * 5 + 4)].getD (1 + f + 0) 0).toNat * 5 + 4) = inv (c t (f * 5 + 1)) (c t (f * 5 + 2)) (c t (f * 5 + 3)) (c t (f * 5 + 4)) 3) && true)))) && true))) = false) : FaceOK n c t f := by
  rw [getD_five _ _ _ _ _ _ hf] at h6 h7
  have hs := sel_lt h5 f
  simp only [Bool.not_eq_false', Bool.and_true, Bool.and_eq_true, decide_eq_true_eq] at h7
  exact .inr ⟨by omega, by omega, h5, h6, _, Int.toNat_of_nonneg hs.1, h7.1, h7.2.1, h7.2.2.1, h7.2.2.2.1, h7.2.2.2.2⟩
theorem face_bad (hf : f < 4) (h2 : (decide (c t (f * 5) = -1) && ((decide (c t (f * 5 + 1) = 0) && (decide (c t (f * 5 + 2) = 0) && (decide (c t (f * 5 + 3) = 0) && (decide (c t (f * 5 + 4) = 0) && true)))) && true)) = false) (h : c t (f * 5) < 0 ∨ (n : Int) ≤ c t (f * 5) ∨ (¬ OkPerm (c t (f * 5 + 1)) (c t (f * 5 + 2)) (c t (f * 5 + 3)) (c t (f * 5 + 4))) ∨ (c t (f * 5) = t ∧ [c t (f * 5), c t (f * 5 + 1), c t (f * 5 + 2), c t (f * 5 + 3), c t (f * 5 + 4)].getD (1 + f + 0) 0 = f) ∨ (!(decide (c (c t (f * 5)).toNat (([c t (f * 5), c t (f * 5 + 1), c t (f * 5 + 2), c t (f * 5 + 3), c t (f * 5 + 4)].getD (1 + f + 0) 0).toNat * 5) = t) && ((decide (c (c t (f * 5)).toNat (([c t (f * 5), c t (f * 5 + 1), c t (f * 5 + 2), c t (f * 5 + 3), c t (f * 5 + 4)].getD (1 + f + 0) 0).toNat * 5 + 1) = inv (c t (f * 5 + 1)) (c t (f * 5 + 2)) (c t (f * 5 + 3)) (c t (f * 5 + 4)) 0) && (decide (c (c t (f * 5)).toNat (([c t (f * 5), c t (f * 5 + 1), c t (f * 5 + 2), c t (f * 5 + 3), c t (f * 5 + 4)].getD (1 + f + 0) 0).toNat * 5 + 2) = inv (c t (f * 5 + 1)) (c t (f * 5 + 2)) (c t (f * 5 + 3)) (c t (f * 5 + 4)) 1) && (decide (c (c t (f * 5)).toNat (([c t (f * 5), c t (f * 5 + 1), c t (f * 5 + 2), c t (f * 5 + 3), c t (f * 5 + 4)].getD (1 + f + 0) 0).toNat * 5 + 3) = inv (c t (f * 5 + 1)) (c t (f * 5 + 2)) (c t (f * 5 + 3)) (c t (f * 5 + 4)) 2) && (decide (c (c t (f * 5)).toNat (([c t (f * 5), c t (f * 5 + 1), c t (f * 5 + 2), c t (f * 5 + 3), c t (f * 5 + 4)].getD (1 + f + 0) 0).toNat * 5 + 4) = inv (c t (f * 5 + 1)) (c t (f * 5 + 2)) (c t (f * 5 + 3)) (c t (f * 5 + 4)) 3) && true)))) && true))) = true) : ¬ FaceOK n c t f := by
  rw [getD_five _ _ _ _ _ _ hf] at h
  rintro (hh | ⟨h3, h4, h5, h6, hb, h7, h8, h9, h10, h11, h12⟩)
  · simp [hh] at h2
  · rcases h with h | h | h | h | h
    · omega
    · omega
    · exact h h5
    · exact h6 h
    · rw [← h7] at h
      simp [h8, h9, h10, h11, h12] at h
theorem faces_step {k : Nat} (hk1 : k / 4 = t) (hk2 : k % 4 = f) (hI : ∀ k', k' < k → FaceOK n c (k' / 4) (k' % 4)) (h : FaceOK n c t f) : ∀ k', k' < k + 1 → FaceOK n c (k' / 4) (k' % 4) := fun k' hk' => by
  by_cases he : k' = k
  · subst he; rw [hk1, hk2]; exact h
  · exact hI k' (by omega)

theorem check {b off n cap : Nat} {c : Nat → Nat → Int} {w : World} (hc : At w b off n c) : Calls Tryz.prog 43 #[.agg #[sl b off n cap]] w fun e w' => ∃ r : Int, ((r = 0 ∧ GlueOK n c) ∨ (r = 7 ∧ ¬ GlueOK n c)) ∧ e = .returned (.int .i64 r) ∧ Ext w w' := by
  refine calls_ofMarks (n := 71) Tryz.func43 rfl Tryz.ntmps43 rfl (Rep.refl _) ?_
  refine tri_eq (l' := [(0, .agg #[sl b off n cap])]) (hs' := []) rfl rfl ?_
  refine wr [0, 1] rfl ?_
  refine kB (.agg #[sl b off n cap]) fun b1 => ?_
  refine kA (ii 0) fun b2 => ?_
  refine kPe [2, 1] ?_
  refine tri_seq ?_
  refine wr [0, 1, 2, 3] rfl ?_
  refine kS 1 0 [(6, pt b1 0)] [2, 1] ?_
  refine kL 1 (sl b off n cap) ?_
  refine kSe 2 80 [(9, .bool (decide (1000 < ((n : Nat) : Int))))] [2, 1] ?_
  refine tri_cond_dec (p := 1000 < ((n : Nat) : Int)) rfl (fun h1 => ?_) (fun h1 => ?_)
  · refine wr [0] rfl ?_
    refine kW 0 #[ii 7] ?_
    refine kPe [2] ?_
    refine tri_ret ?_
    refine post_then_ret ?_
    refine post_outM ?_
    refine outM_ret1 (v := ii 7) rfl (.cell 0 b2 0 1 #[ii 7] 29 (0, 0) rfl rfl (by kernel_rfl)) (fun W hR => ?_)
    exact ⟨7, .inr ⟨rfl, fun h => by have := h.1; omega⟩, rfl, hR.ext⟩
  · refine tri_skip ?_
    refine post_then ?_
    refine wr [0, 1, 2] rfl ?_
    refine kS 1 0 [(10, .agg #[ii (-1), ii 0, ii 0, ii 0, ii 0])] [2, 1] ?_
    refine kA (.agg #[ii 0, ii 0, ii 0, ii 0, ii 0]) fun b3 => ?_
    refine kW 0 #[ii (-1), ii 0, ii 0, ii 0, ii 0] ?_
    refine kPe [3, 2, 1] ?_
    refine tri_seq ?_
    refine wr [0, 1] rfl ?_
    refine kL 2 (.agg #[sl b off n cap]) ?_
    refine opsT_callR (f := 92) (args := #[.agg #[sl b off n cap]]) [] [(b3, .cells #[ii (-1), ii 0, ii 0, ii 0, ii 0] 75 (0, 0)), (b2, .cells #[ii 0] 29 (0, 0)), (b1, .cells #[sl b off n cap] 24 (0, 0))] (fun bg => .func (.func 166) #[] #[.pointer (some ⟨bg, 0, none⟩)]) (fun bg => [(bg, .cells #[sl b off n cap] 24 (0, 0))]) (fun _ => True) rfl rfl rfl rfl rfl (run_call en92 rfl rfl rfl (by kernel_rfl)) (List.Perm.refl _) (fun W hR => faces _ W) (fun bg1 _ => ?_)
    refine opsT_heq (hs' := [(bg1, .cells #[sl b off n cap] 24 (0, 0)), (b3, .cells #[ii (-1), ii 0, ii 0, ii 0, ii 0] 75 (0, 0)), (b2, .cells #[ii 0] 29 (0, 0)), (b1, .cells #[sl b off n cap] 24 (0, 0))]) rfl ?_
    refine kPe [12, 3, 2, 1] ?_
    refine tri_block ?_
    refine tri_range (β := Int) (capt := [(bg1, .cells #[sl b off n cap] 24 (0, 0))]) (own := []) (N := (4 * n)) (xs := (fun k => faceAt c (k / 4) (k % 4))) (fun xz => [(b3, .cells #[ii (-1), ii 0, ii 0, ii 0, ii 0] 75 (0, 0)), (b2, .cells #[ii xz] 29 (0, 0)), (b1, .cells #[sl b off n cap] 24 (0, 0))]) (fun k xz => xz = 0 ∧ ∀ k', k' < k → FaceOK n c (k' / 4) (k' % 4)) (fun cx xz => (cx = .ret ∧ xz = 7 ∧ ∃ k, k < 4 * n ∧ ¬ FaceOK n c (k / 4) (k % 4))) 0 rfl en166 (faces_iter (by omega) hc (by simp)) (by first | rfl | simp) ⟨rfl, fun _ h => absurd h (by omega)⟩ (fun k hk => rfl) (fun k hk => rfl) ?_ ?_ ?_
    · rintro k hk r hI L1 rc1 own1 hst
      dsimp only
      generalize hk1 : k / 4 = t
      generalize hk2 : k % 4 = f
      have ht : t < n := by omega
      have hf : f < 4 := by omega
      obtain ⟨hr, hI⟩ := hI
      refine tri_eq (l' := [(14, .agg #[ii (c t (f * 5)), ii (c t (f * 5 + 1)), ii (c t (f * 5 + 2)), ii (c t (f * 5 + 3)), ii (c t (f * 5 + 4))]), (13, .agg #[ii (t : Int), ii (f : Int)]), (12, .func (.func 166) #[] #[pt bg1 0]), (3, pt b3 0), (2, pt b2 0), (1, pt b1 0)]) (hs' := (L1, .loop rc1) :: (b3, .cells #[ii (-1), ii 0, ii 0, ii 0, ii 0] 75 (0, 0)) :: (b2, .cells #[ii r] 29 (0, 0)) :: (b1, .cells #[sl b off n cap] 24 (0, 0)) :: own1) rfl rfl ?_
      refine wr [0, 1] rfl ?_
      refine kA (.agg #[ii 0, ii 0]) fun b4 => ?_
      refine kW 0 #[ii (t : Int), ii (f : Int)] ?_
      refine kPe [4, 14, 3, 2, 1] ?_
      refine tri_region (todo := [0, 1]) rfl ?_
      refine kA (.agg #[ii 0, ii 0, ii 0, ii 0, ii 0]) fun b5 => ?_
      refine kW 0 #[ii (c t (f * 5)), ii (c t (f * 5 + 1)), ii (c t (f * 5 + 2)), ii (c t (f * 5 + 3)), ii (c t (f * 5 + 4))] ?_
      refine kP [5, 4, 3, 2, 1] ?_
      refine opsT_end ?_
      refine post_assign' (pre := [(b5, .cells #[ii (c t (f * 5)), ii (c t (f * 5 + 1)), ii (c t (f * 5 + 2)), ii (c t (f * 5 + 3)), ii (c t (f * 5 + 4))] 75 (0, 0)), (b4, .cells #[ii (t : Int), ii (f : Int)] 135 (0, 0))]) hst rfl ?_
      refine tri_eq (l' := [(5, pt b5 0), (4, pt b4 0), (3, pt b3 0), (2, pt b2 0), (1, pt b1 0)]) (hs' := (L1, .loop { rc1 with state := .busy }) :: (b5, .cells #[ii (c t (f * 5)), ii (c t (f * 5 + 1)), ii (c t (f * 5 + 2)), ii (c t (f * 5 + 3)), ii (c t (f * 5 + 4))] 75 (0, 0)) :: (b4, .cells #[ii (t : Int), ii (f : Int)] 135 (0, 0)) :: (b3, .cells #[ii (-1), ii 0, ii 0, ii 0, ii 0] 75 (0, 0)) :: (b2, .cells #[ii r] 29 (0, 0)) :: (b1, .cells #[sl b off n cap] 24 (0, 0)) :: own1) rfl rfl ?_
      refine tri_block ?_
      refine tri_seq ?_
      refine wr [0, 1, 2] rfl ?_
      refine kL 1 (.agg #[ii (c t (f * 5)), ii (c t (f * 5 + 1)), ii (c t (f * 5 + 2)), ii (c t (f * 5 + 3)), ii (c t (f * 5 + 4))]) ?_
      refine kL 3 (.agg #[ii (-1), ii 0, ii 0, ii 0, ii 0]) ?_
      refine kSe 1 13 [(17, .bool (decide (c t (f * 5) = (-1)) && ((decide (c t (f * 5 + 1) = 0) && (decide (c t (f * 5 + 2) = 0) && (decide (c t (f * 5 + 3) = 0) && (decide (c t (f * 5 + 4) = 0) && true)))) && true)))] [5, 4, 2, 1] ?_
      refine tri_cond (b := decide (c t (f * 5) = (-1)) && ((decide (c t (f * 5 + 1) = 0) && (decide (c t (f * 5 + 2) = 0) && (decide (c t (f * 5 + 3) = 0) && (decide (c t (f * 5 + 4) = 0) && true)))) && true)) rfl (fun h2 => ?_) (fun h2 => ?_)
      · refine tri_exit ?_
        refine post_then_exit ?_
        refine post_block_hit ?_
        have hgood : FaceOK n c t f := by first | exact face_none (by assumption) | exact face_good hf (by assumption) (by assumption) (by assumption) (by rintro ⟨_, _⟩; contradiction) (by assumption)
        exact post_rq r ⟨hr, faces_step hk1 hk2 hI hgood⟩ (.cons_cons _ (.cons _ (.cons _ (List.Sublist.refl _))))
      · refine tri_skip ?_
        refine post_then ?_
        refine tri_seq ?_
        refine tri_seq ?_
        by_cases h3 : c t (f * 5) < 0
        · refine kD 34 0x111111111111111001111001111110600 [1] [ii (c t (f * 5))] [(51, .bool true)] [5, 4, 2, 1] [c t (f * 5) < 0] [] rfl h3 (qA (qL 1) qZ) ?_ (by kernel_rfl)
          refine we ?_
          refine tri_cond_true rfl ?_
          refine wr [0] rfl ?_
          refine kW 4 #[ii 7] ?_
          refine kPe [] ?_
          refine tri_ret ?_
          refine post_then_ret ?_
          refine post_block_ret ?_
          have hbad : ¬ FaceOK n c t f := face_bad hf (by assumption) (by first | exact .inl (by assumption) | exact .inr (.inl (by assumption)) | exact .inr (.inr (.inl (by assumption))) | exact .inr (.inr (.inr (.inl ⟨by assumption, by assumption⟩))) | exact .inr (.inr (.inr (.inr (by assumption)))))
          exact post_rq_ret 7 ⟨rfl, rfl, k, hk, by rw [hk1, hk2]; exact hbad⟩ (.cons_cons _ (.cons _ (.cons _ (List.Sublist.refl _))))
        · by_cases h4 : ((n : Nat) : Int) ≤ c t (f * 5)
          · refine kD 34 0x111111111111111001111006000000700 [1, 5, 7] [ii (c t (f * 5)), ii (c t (f * 5)), sl b off n cap] [(51, .bool true)] [5, 4, 2, 1] [¬ (c t (f * 5) < 0), ((n : Nat) : Int) ≤ c t (f * 5)] [] rfl ⟨h3, h4⟩ (qA (qL 1) (qA (qL 1) (qA (qL 5) qZ))) ?_ (by kernel_rfl)
            refine we ?_
            refine tri_cond_true rfl ?_
            refine wr [0] rfl ?_
            refine kW 4 #[ii 7] ?_
            refine kPe [] ?_
            refine tri_ret ?_
            refine post_then_ret ?_
            refine post_block_ret ?_
            have hbad : ¬ FaceOK n c t f := face_bad hf (by assumption) (by first | exact .inl (by assumption) | exact .inr (.inl (by assumption)) | exact .inr (.inr (.inl (by assumption))) | exact .inr (.inr (.inr (.inl ⟨by assumption, by assumption⟩))) | exact .inr (.inr (.inr (.inr (by assumption)))))
            exact post_rq_ret 7 ⟨rfl, rfl, k, hk, by rw [hk1, hk2]; exact hbad⟩ (.cons_cons _ (.cons _ (.cons _ (List.Sublist.refl _))))
          · by_cases h5 : OkPerm (c t (f * 5 + 1)) (c t (f * 5 + 2)) (c t (f * 5 + 3)) (c t (f * 5 + 4))
            · by_cases h6 : c t (f * 5) = (t : Int)
              · refine kD 34 0x50009000060000000000007000000700 [1, 5, 7, 13, 14, 19, 21, 25, 28, 30] [ii (c t (f * 5)), ii (c t (f * 5)), sl b off n cap, .agg #[ii (c t (f * 5 + 1)), ii (c t (f * 5 + 2)), ii (c t (f * 5 + 3)), ii (c t (f * 5 + 4))], .bool true, ii (c t (f * 5)), ii (t : Int), ii (f : Int), ii ([c t (f * 5), c t (f * 5 + 1), c t (f * 5 + 2), c t (f * 5 + 3), c t (f * 5 + 4)].getD (1 + f + 0) 0), ii (f : Int)] [(51, .bool (decide ([c t (f * 5), c t (f * 5 + 1), c t (f * 5 + 2), c t (f * 5 + 3), c t (f * 5 + 4)].getD (1 + f + 0) 0 = (f : Int))))] [5, 4, 2, 1] [¬ (c t (f * 5) < 0), ¬ (((n : Nat) : Int) ≤ c t (f * 5)), c t (f * 5) = (t : Int), (0 : Int) ≤ (f : Int), (f : Int) < ((4 : Nat) : Int)] [] rfl (by refine ap h3 (ap h4 (ap h6 (ap ?_ (ap1 ?_)))) <;> (first | omega | assumption | (simp only [getD_five _ _ _ _ _ _ hf]; have hs := sel_lt (by assumption) (f : Int); omega))) (qA (qL 1) (qA (qL 1) (qA (qL 5) (qA (qL 1) (qA (qC en46 #[.agg #[ii (c t (f * 5 + 1)), ii (c t (f * 5 + 2)), ii (c t (f * 5 + 3)), ii (c t (f * 5 + 4))]] rfl (fun W hR => valid_yes h5 W) (by kernel_rfl)) (qA (qL 1) (qA (qL 2) (qA (qL 2) (qA (qI 1 (1 + f) 1 [c t (f * 5), c t (f * 5 + 1), c t (f * 5 + 2), c t (f * 5 + 3), c t (f * 5 + 4)] (by simp <;> omega)) (qA (qL 2) qZ)))))))))) ?_ (by kernel_rfl)
                refine we ?_
                refine tri_cond_dec (p := [c t (f * 5), c t (f * 5 + 1), c t (f * 5 + 2), c t (f * 5 + 3), c t (f * 5 + 4)].getD (1 + f + 0) 0 = (f : Int)) rfl (fun h7 => ?_) (fun h7 => ?_)
                · refine wr [0] rfl ?_
                  refine kW 4 #[ii 7] ?_
                  refine kPe [] ?_
                  refine tri_ret ?_
                  refine post_then_ret ?_
                  refine post_block_ret ?_
                  have hbad : ¬ FaceOK n c t f := face_bad hf (by assumption) (by first | exact .inl (by assumption) | exact .inr (.inl (by assumption)) | exact .inr (.inr (.inl (by assumption))) | exact .inr (.inr (.inr (.inl ⟨by assumption, by assumption⟩))) | exact .inr (.inr (.inr (.inr (by assumption)))))
                  exact post_rq_ret 7 ⟨rfl, rfl, k, hk, by rw [hk1, hk2]; exact hbad⟩ (.cons_cons _ (.cons _ (.cons _ (List.Sublist.refl _))))
                · refine tri_skip ?_
                  refine post_then ?_
                  refine tri_seq ?_
                  refine kD 19 0xd000000099090000000 [1, 3, 5, 8, 11, 13, 15, 16] [sl b off n cap, ii (c t (f * 5)), ii (f : Int), ii ([c t (f * 5), c t (f * 5 + 1), c t (f * 5 + 2), c t (f * 5 + 3), c t (f * 5 + 4)].getD (1 + f + 0) 0), .agg #[ii (c ((c t (f * 5)).toNat) ((([c t (f * 5), c t (f * 5 + 1), c t (f * 5 + 2), c t (f * 5 + 3), c t (f * 5 + 4)].getD (1 + f + 0) 0).toNat) * 5)), ii (c ((c t (f * 5)).toNat) ((([c t (f * 5), c t (f * 5 + 1), c t (f * 5 + 2), c t (f * 5 + 3), c t (f * 5 + 4)].getD (1 + f + 0) 0).toNat) * 5 + 1)), ii (c ((c t (f * 5)).toNat) ((([c t (f * 5), c t (f * 5 + 1), c t (f * 5 + 2), c t (f * 5 + 3), c t (f * 5 + 4)].getD (1 + f + 0) 0).toNat) * 5 + 2)), ii (c ((c t (f * 5)).toNat) ((([c t (f * 5), c t (f * 5 + 1), c t (f * 5 + 2), c t (f * 5 + 3), c t (f * 5 + 4)].getD (1 + f + 0) 0).toNat) * 5 + 3)), ii (c ((c t (f * 5)).toNat) ((([c t (f * 5), c t (f * 5 + 1), c t (f * 5 + 2), c t (f * 5 + 3), c t (f * 5 + 4)].getD (1 + f + 0) 0).toNat) * 5 + 4))], ii (t : Int), .agg #[ii (c t (f * 5 + 1)), ii (c t (f * 5 + 2)), ii (c t (f * 5 + 3)), ii (c t (f * 5 + 4))], .agg #[ii (inv (c t (f * 5 + 1)) (c t (f * 5 + 2)) (c t (f * 5 + 3)) (c t (f * 5 + 4)) 0), ii (inv (c t (f * 5 + 1)) (c t (f * 5 + 2)) (c t (f * 5 + 3)) (c t (f * 5 + 4)) 1), ii (inv (c t (f * 5 + 1)) (c t (f * 5 + 2)) (c t (f * 5 + 3)) (c t (f * 5 + 4)) 2), ii (inv (c t (f * 5 + 1)) (c t (f * 5 + 2)) (c t (f * 5 + 3)) (c t (f * 5 + 4)) 3)]] [(70, .bool (!(decide (c ((c t (f * 5)).toNat) ((([c t (f * 5), c t (f * 5 + 1), c t (f * 5 + 2), c t (f * 5 + 3), c t (f * 5 + 4)].getD (1 + f + 0) 0).toNat) * 5) = (t : Int)) && ((decide (c ((c t (f * 5)).toNat) ((([c t (f * 5), c t (f * 5 + 1), c t (f * 5 + 2), c t (f * 5 + 3), c t (f * 5 + 4)].getD (1 + f + 0) 0).toNat) * 5 + 1) = inv (c t (f * 5 + 1)) (c t (f * 5 + 2)) (c t (f * 5 + 3)) (c t (f * 5 + 4)) 0) && (decide (c ((c t (f * 5)).toNat) ((([c t (f * 5), c t (f * 5 + 1), c t (f * 5 + 2), c t (f * 5 + 3), c t (f * 5 + 4)].getD (1 + f + 0) 0).toNat) * 5 + 2) = inv (c t (f * 5 + 1)) (c t (f * 5 + 2)) (c t (f * 5 + 3)) (c t (f * 5 + 4)) 1) && (decide (c ((c t (f * 5)).toNat) ((([c t (f * 5), c t (f * 5 + 1), c t (f * 5 + 2), c t (f * 5 + 3), c t (f * 5 + 4)].getD (1 + f + 0) 0).toNat) * 5 + 3) = inv (c t (f * 5 + 1)) (c t (f * 5 + 2)) (c t (f * 5 + 3)) (c t (f * 5 + 4)) 2) && (decide (c ((c t (f * 5)).toNat) ((([c t (f * 5), c t (f * 5 + 1), c t (f * 5 + 2), c t (f * 5 + 3), c t (f * 5 + 4)].getD (1 + f + 0) 0).toNat) * 5 + 4) = inv (c t (f * 5 + 1)) (c t (f * 5 + 2)) (c t (f * 5 + 3)) (c t (f * 5 + 4)) 3) && true)))) && true))))] [2] [(0 : Int) ≤ (f : Int), (f : Int) < ((4 : Nat) : Int), (0 : Int) ≤ c t (f * 5), c t (f * 5) < ((n : Nat) : Int), (0 : Int) ≤ [c t (f * 5), c t (f * 5 + 1), c t (f * 5 + 2), c t (f * 5 + 3), c t (f * 5 + 4)].getD (1 + f + 0) 0, [c t (f * 5), c t (f * 5 + 1), c t (f * 5 + 2), c t (f * 5 + 3), c t (f * 5 + 4)].getD (1 + f + 0) 0 < ((4 : Nat) : Int)] [] rfl (by refine ap ?_ (ap ?_ (ap ?_ (ap ?_ (ap ?_ (ap1 ?_))))) <;> (first | omega | assumption | (simp only [getD_five _ _ _ _ _ _ hf]; have hs := sel_lt (by assumption) (f : Int); omega))) (qA (qL 5) (qA (qL 1) (qA (qL 2) (qA (qI 1 (1 + f) 1 [c t (f * 5), c t (f * 5 + 1), c t (f * 5 + 2), c t (f * 5 + 3), c t (f * 5 + 4)] (by simp <;> omega)) (qA (qM b (off + ((c t (f * 5)).toNat) * 20 + (([c t (f * 5), c t (f * 5 + 1), c t (f * 5 + 2), c t (f * 5 + 3), c t (f * 5 + 4)].getD (1 + f + 0) 0).toNat) * 5) [ii (c ((c t (f * 5)).toNat) ((([c t (f * 5), c t (f * 5 + 1), c t (f * 5 + 2), c t (f * 5 + 3), c t (f * 5 + 4)].getD (1 + f + 0) 0).toNat) * 5)), ii (c ((c t (f * 5)).toNat) ((([c t (f * 5), c t (f * 5 + 1), c t (f * 5 + 2), c t (f * 5 + 3), c t (f * 5 + 4)].getD (1 + f + 0) 0).toNat) * 5 + 1)), ii (c ((c t (f * 5)).toNat) ((([c t (f * 5), c t (f * 5 + 1), c t (f * 5 + 2), c t (f * 5 + 3), c t (f * 5 + 4)].getD (1 + f + 0) 0).toNat) * 5 + 2)), ii (c ((c t (f * 5)).toNat) ((([c t (f * 5), c t (f * 5 + 1), c t (f * 5 + 2), c t (f * 5 + 3), c t (f * 5 + 4)].getD (1 + f + 0) 0).toNat) * 5 + 3)), ii (c ((c t (f * 5)).toNat) ((([c t (f * 5), c t (f * 5 + 1), c t (f * 5 + 2), c t (f * 5 + 3), c t (f * 5 + 4)].getD (1 + f + 0) 0).toNat) * 5 + 4))] (At.face hc (by omega) (by first | omega | (simp only [getD_five _ _ _ _ _ _ hf]; have hs := sel_lt (by assumption) (f : Int); omega)))) (qA (qL 2) (qA (qL 1) (qA (qC en48 #[.agg #[ii (c t (f * 5 + 1)), ii (c t (f * 5 + 2)), ii (c t (f * 5 + 3)), ii (c t (f * 5 + 4))]] rfl (fun W hR => inverse h5 W) (by kernel_rfl)) qZ)))))))) ?_ (by kernel_rfl)
                  refine we ?_
                  refine tri_cond (b := !(decide (c ((c t (f * 5)).toNat) ((([c t (f * 5), c t (f * 5 + 1), c t (f * 5 + 2), c t (f * 5 + 3), c t (f * 5 + 4)].getD (1 + f + 0) 0).toNat) * 5) = (t : Int)) && ((decide (c ((c t (f * 5)).toNat) ((([c t (f * 5), c t (f * 5 + 1), c t (f * 5 + 2), c t (f * 5 + 3), c t (f * 5 + 4)].getD (1 + f + 0) 0).toNat) * 5 + 1) = inv (c t (f * 5 + 1)) (c t (f * 5 + 2)) (c t (f * 5 + 3)) (c t (f * 5 + 4)) 0) && (decide (c ((c t (f * 5)).toNat) ((([c t (f * 5), c t (f * 5 + 1), c t (f * 5 + 2), c t (f * 5 + 3), c t (f * 5 + 4)].getD (1 + f + 0) 0).toNat) * 5 + 2) = inv (c t (f * 5 + 1)) (c t (f * 5 + 2)) (c t (f * 5 + 3)) (c t (f * 5 + 4)) 1) && (decide (c ((c t (f * 5)).toNat) ((([c t (f * 5), c t (f * 5 + 1), c t (f * 5 + 2), c t (f * 5 + 3), c t (f * 5 + 4)].getD (1 + f + 0) 0).toNat) * 5 + 3) = inv (c t (f * 5 + 1)) (c t (f * 5 + 2)) (c t (f * 5 + 3)) (c t (f * 5 + 4)) 2) && (decide (c ((c t (f * 5)).toNat) ((([c t (f * 5), c t (f * 5 + 1), c t (f * 5 + 2), c t (f * 5 + 3), c t (f * 5 + 4)].getD (1 + f + 0) 0).toNat) * 5 + 4) = inv (c t (f * 5 + 1)) (c t (f * 5 + 2)) (c t (f * 5 + 3)) (c t (f * 5 + 4)) 3) && true)))) && true))) rfl (fun h8 => ?_) (fun h8 => ?_)
                  · refine wr [0] rfl ?_
                    refine kW 4 #[ii 7] ?_
                    refine kPe [] ?_
                    refine tri_ret ?_
                    refine post_block_ret ?_
                    have hbad : ¬ FaceOK n c t f := face_bad hf (by assumption) (by first | exact .inl (by assumption) | exact .inr (.inl (by assumption)) | exact .inr (.inr (.inl (by assumption))) | exact .inr (.inr (.inr (.inl ⟨by assumption, by assumption⟩))) | exact .inr (.inr (.inr (.inr (by assumption)))))
                    exact post_rq_ret 7 ⟨rfl, rfl, k, hk, by rw [hk1, hk2]; exact hbad⟩ (.cons_cons _ (.cons _ (.cons _ (List.Sublist.refl _))))
                  · refine tri_skip ?_
                    refine post_block ?_
                    have hgood : FaceOK n c t f := by first | exact face_none (by assumption) | exact face_good hf (by assumption) (by assumption) (by assumption) (by rintro ⟨_, _⟩; contradiction) (by assumption)
                    exact post_rq r ⟨hr, faces_step hk1 hk2 hI hgood⟩ (.cons_cons _ (.cons _ (.cons _ (List.Sublist.refl _))))
              · refine kD 34 0x11111111070000000000007000000700 [1, 5, 7, 13, 14, 19, 21] [ii (c t (f * 5)), ii (c t (f * 5)), sl b off n cap, .agg #[ii (c t (f * 5 + 1)), ii (c t (f * 5 + 2)), ii (c t (f * 5 + 3)), ii (c t (f * 5 + 4))], .bool true, ii (c t (f * 5)), ii (t : Int)] [(51, .bool false)] [5, 4, 2, 1] [¬ (c t (f * 5) < 0), ¬ (((n : Nat) : Int) ≤ c t (f * 5)), ¬ (c t (f * 5) = (t : Int))] [] rfl ⟨h3, h4, h6⟩ (qA (qL 1) (qA (qL 1) (qA (qL 5) (qA (qL 1) (qA (qC en46 #[.agg #[ii (c t (f * 5 + 1)), ii (c t (f * 5 + 2)), ii (c t (f * 5 + 3)), ii (c t (f * 5 + 4))]] rfl (fun W hR => valid_yes h5 W) (by kernel_rfl)) (qA (qL 1) (qA (qL 2) qZ))))))) ?_ (by kernel_rfl)
                refine we ?_
                refine tri_cond_false rfl ?_
                refine tri_skip ?_
                refine post_then ?_
                refine tri_seq ?_
                refine kD 19 0xd000000099090000000 [1, 3, 5, 8, 11, 13, 15, 16] [sl b off n cap, ii (c t (f * 5)), ii (f : Int), ii ([c t (f * 5), c t (f * 5 + 1), c t (f * 5 + 2), c t (f * 5 + 3), c t (f * 5 + 4)].getD (1 + f + 0) 0), .agg #[ii (c ((c t (f * 5)).toNat) ((([c t (f * 5), c t (f * 5 + 1), c t (f * 5 + 2), c t (f * 5 + 3), c t (f * 5 + 4)].getD (1 + f + 0) 0).toNat) * 5)), ii (c ((c t (f * 5)).toNat) ((([c t (f * 5), c t (f * 5 + 1), c t (f * 5 + 2), c t (f * 5 + 3), c t (f * 5 + 4)].getD (1 + f + 0) 0).toNat) * 5 + 1)), ii (c ((c t (f * 5)).toNat) ((([c t (f * 5), c t (f * 5 + 1), c t (f * 5 + 2), c t (f * 5 + 3), c t (f * 5 + 4)].getD (1 + f + 0) 0).toNat) * 5 + 2)), ii (c ((c t (f * 5)).toNat) ((([c t (f * 5), c t (f * 5 + 1), c t (f * 5 + 2), c t (f * 5 + 3), c t (f * 5 + 4)].getD (1 + f + 0) 0).toNat) * 5 + 3)), ii (c ((c t (f * 5)).toNat) ((([c t (f * 5), c t (f * 5 + 1), c t (f * 5 + 2), c t (f * 5 + 3), c t (f * 5 + 4)].getD (1 + f + 0) 0).toNat) * 5 + 4))], ii (t : Int), .agg #[ii (c t (f * 5 + 1)), ii (c t (f * 5 + 2)), ii (c t (f * 5 + 3)), ii (c t (f * 5 + 4))], .agg #[ii (inv (c t (f * 5 + 1)) (c t (f * 5 + 2)) (c t (f * 5 + 3)) (c t (f * 5 + 4)) 0), ii (inv (c t (f * 5 + 1)) (c t (f * 5 + 2)) (c t (f * 5 + 3)) (c t (f * 5 + 4)) 1), ii (inv (c t (f * 5 + 1)) (c t (f * 5 + 2)) (c t (f * 5 + 3)) (c t (f * 5 + 4)) 2), ii (inv (c t (f * 5 + 1)) (c t (f * 5 + 2)) (c t (f * 5 + 3)) (c t (f * 5 + 4)) 3)]] [(70, .bool (!(decide (c ((c t (f * 5)).toNat) ((([c t (f * 5), c t (f * 5 + 1), c t (f * 5 + 2), c t (f * 5 + 3), c t (f * 5 + 4)].getD (1 + f + 0) 0).toNat) * 5) = (t : Int)) && ((decide (c ((c t (f * 5)).toNat) ((([c t (f * 5), c t (f * 5 + 1), c t (f * 5 + 2), c t (f * 5 + 3), c t (f * 5 + 4)].getD (1 + f + 0) 0).toNat) * 5 + 1) = inv (c t (f * 5 + 1)) (c t (f * 5 + 2)) (c t (f * 5 + 3)) (c t (f * 5 + 4)) 0) && (decide (c ((c t (f * 5)).toNat) ((([c t (f * 5), c t (f * 5 + 1), c t (f * 5 + 2), c t (f * 5 + 3), c t (f * 5 + 4)].getD (1 + f + 0) 0).toNat) * 5 + 2) = inv (c t (f * 5 + 1)) (c t (f * 5 + 2)) (c t (f * 5 + 3)) (c t (f * 5 + 4)) 1) && (decide (c ((c t (f * 5)).toNat) ((([c t (f * 5), c t (f * 5 + 1), c t (f * 5 + 2), c t (f * 5 + 3), c t (f * 5 + 4)].getD (1 + f + 0) 0).toNat) * 5 + 3) = inv (c t (f * 5 + 1)) (c t (f * 5 + 2)) (c t (f * 5 + 3)) (c t (f * 5 + 4)) 2) && (decide (c ((c t (f * 5)).toNat) ((([c t (f * 5), c t (f * 5 + 1), c t (f * 5 + 2), c t (f * 5 + 3), c t (f * 5 + 4)].getD (1 + f + 0) 0).toNat) * 5 + 4) = inv (c t (f * 5 + 1)) (c t (f * 5 + 2)) (c t (f * 5 + 3)) (c t (f * 5 + 4)) 3) && true)))) && true))))] [2] [(0 : Int) ≤ (f : Int), (f : Int) < ((4 : Nat) : Int), (0 : Int) ≤ c t (f * 5), c t (f * 5) < ((n : Nat) : Int), (0 : Int) ≤ [c t (f * 5), c t (f * 5 + 1), c t (f * 5 + 2), c t (f * 5 + 3), c t (f * 5 + 4)].getD (1 + f + 0) 0, [c t (f * 5), c t (f * 5 + 1), c t (f * 5 + 2), c t (f * 5 + 3), c t (f * 5 + 4)].getD (1 + f + 0) 0 < ((4 : Nat) : Int)] [] rfl (by refine ap ?_ (ap ?_ (ap ?_ (ap ?_ (ap ?_ (ap1 ?_))))) <;> (first | omega | assumption | (simp only [getD_five _ _ _ _ _ _ hf]; have hs := sel_lt (by assumption) (f : Int); omega))) (qA (qL 5) (qA (qL 1) (qA (qL 2) (qA (qI 1 (1 + f) 1 [c t (f * 5), c t (f * 5 + 1), c t (f * 5 + 2), c t (f * 5 + 3), c t (f * 5 + 4)] (by simp <;> omega)) (qA (qM b (off + ((c t (f * 5)).toNat) * 20 + (([c t (f * 5), c t (f * 5 + 1), c t (f * 5 + 2), c t (f * 5 + 3), c t (f * 5 + 4)].getD (1 + f + 0) 0).toNat) * 5) [ii (c ((c t (f * 5)).toNat) ((([c t (f * 5), c t (f * 5 + 1), c t (f * 5 + 2), c t (f * 5 + 3), c t (f * 5 + 4)].getD (1 + f + 0) 0).toNat) * 5)), ii (c ((c t (f * 5)).toNat) ((([c t (f * 5), c t (f * 5 + 1), c t (f * 5 + 2), c t (f * 5 + 3), c t (f * 5 + 4)].getD (1 + f + 0) 0).toNat) * 5 + 1)), ii (c ((c t (f * 5)).toNat) ((([c t (f * 5), c t (f * 5 + 1), c t (f * 5 + 2), c t (f * 5 + 3), c t (f * 5 + 4)].getD (1 + f + 0) 0).toNat) * 5 + 2)), ii (c ((c t (f * 5)).toNat) ((([c t (f * 5), c t (f * 5 + 1), c t (f * 5 + 2), c t (f * 5 + 3), c t (f * 5 + 4)].getD (1 + f + 0) 0).toNat) * 5 + 3)), ii (c ((c t (f * 5)).toNat) ((([c t (f * 5), c t (f * 5 + 1), c t (f * 5 + 2), c t (f * 5 + 3), c t (f * 5 + 4)].getD (1 + f + 0) 0).toNat) * 5 + 4))] (At.face hc (by omega) (by first | omega | (simp only [getD_five _ _ _ _ _ _ hf]; have hs := sel_lt (by assumption) (f : Int); omega)))) (qA (qL 2) (qA (qL 1) (qA (qC en48 #[.agg #[ii (c t (f * 5 + 1)), ii (c t (f * 5 + 2)), ii (c t (f * 5 + 3)), ii (c t (f * 5 + 4))]] rfl (fun W hR => inverse h5 W) (by kernel_rfl)) qZ)))))))) ?_ (by kernel_rfl)
                refine we ?_
                refine tri_cond (b := !(decide (c ((c t (f * 5)).toNat) ((([c t (f * 5), c t (f * 5 + 1), c t (f * 5 + 2), c t (f * 5 + 3), c t (f * 5 + 4)].getD (1 + f + 0) 0).toNat) * 5) = (t : Int)) && ((decide (c ((c t (f * 5)).toNat) ((([c t (f * 5), c t (f * 5 + 1), c t (f * 5 + 2), c t (f * 5 + 3), c t (f * 5 + 4)].getD (1 + f + 0) 0).toNat) * 5 + 1) = inv (c t (f * 5 + 1)) (c t (f * 5 + 2)) (c t (f * 5 + 3)) (c t (f * 5 + 4)) 0) && (decide (c ((c t (f * 5)).toNat) ((([c t (f * 5), c t (f * 5 + 1), c t (f * 5 + 2), c t (f * 5 + 3), c t (f * 5 + 4)].getD (1 + f + 0) 0).toNat) * 5 + 2) = inv (c t (f * 5 + 1)) (c t (f * 5 + 2)) (c t (f * 5 + 3)) (c t (f * 5 + 4)) 1) && (decide (c ((c t (f * 5)).toNat) ((([c t (f * 5), c t (f * 5 + 1), c t (f * 5 + 2), c t (f * 5 + 3), c t (f * 5 + 4)].getD (1 + f + 0) 0).toNat) * 5 + 3) = inv (c t (f * 5 + 1)) (c t (f * 5 + 2)) (c t (f * 5 + 3)) (c t (f * 5 + 4)) 2) && (decide (c ((c t (f * 5)).toNat) ((([c t (f * 5), c t (f * 5 + 1), c t (f * 5 + 2), c t (f * 5 + 3), c t (f * 5 + 4)].getD (1 + f + 0) 0).toNat) * 5 + 4) = inv (c t (f * 5 + 1)) (c t (f * 5 + 2)) (c t (f * 5 + 3)) (c t (f * 5 + 4)) 3) && true)))) && true))) rfl (fun h7 => ?_) (fun h7 => ?_)
                · refine wr [0] rfl ?_
                  refine kW 4 #[ii 7] ?_
                  refine kPe [] ?_
                  refine tri_ret ?_
                  refine post_block_ret ?_
                  have hbad : ¬ FaceOK n c t f := face_bad hf (by assumption) (by first | exact .inl (by assumption) | exact .inr (.inl (by assumption)) | exact .inr (.inr (.inl (by assumption))) | exact .inr (.inr (.inr (.inl ⟨by assumption, by assumption⟩))) | exact .inr (.inr (.inr (.inr (by assumption)))))
                  exact post_rq_ret 7 ⟨rfl, rfl, k, hk, by rw [hk1, hk2]; exact hbad⟩ (.cons_cons _ (.cons _ (.cons _ (List.Sublist.refl _))))
                · refine tri_skip ?_
                  refine post_block ?_
                  have hgood : FaceOK n c t f := by first | exact face_none (by assumption) | exact face_good hf (by assumption) (by assumption) (by assumption) (by rintro ⟨_, _⟩; contradiction) (by assumption)
                  exact post_rq r ⟨hr, faces_step hk1 hk2 hI hgood⟩ (.cons_cons _ (.cons _ (.cons _ (List.Sublist.refl _))))
            · refine kD 34 0x111111111111111000000007000000700 [1, 5, 7, 13, 14] [ii (c t (f * 5)), ii (c t (f * 5)), sl b off n cap, .agg #[ii (c t (f * 5 + 1)), ii (c t (f * 5 + 2)), ii (c t (f * 5 + 3)), ii (c t (f * 5 + 4))], .bool false] [(51, .bool true)] [5, 4, 2, 1] [¬ (c t (f * 5) < 0), ¬ (((n : Nat) : Int) ≤ c t (f * 5))] [] rfl ⟨h3, h4⟩ (qA (qL 1) (qA (qL 1) (qA (qL 5) (qA (qL 1) (qA (qC en46 #[.agg #[ii (c t (f * 5 + 1)), ii (c t (f * 5 + 2)), ii (c t (f * 5 + 3)), ii (c t (f * 5 + 4))]] rfl (fun W hR => valid_no h5 W) (by kernel_rfl)) qZ))))) ?_ (by kernel_rfl)
              refine we ?_
              refine tri_cond_true rfl ?_
              refine wr [0] rfl ?_
              refine kW 4 #[ii 7] ?_
              refine kPe [] ?_
              refine tri_ret ?_
              refine post_then_ret ?_
              refine post_block_ret ?_
              have hbad : ¬ FaceOK n c t f := face_bad hf (by assumption) (by first | exact .inl (by assumption) | exact .inr (.inl (by assumption)) | exact .inr (.inr (.inl (by assumption))) | exact .inr (.inr (.inr (.inl ⟨by assumption, by assumption⟩))) | exact .inr (.inr (.inr (.inr (by assumption)))))
              exact post_rq_ret 7 ⟨rfl, rfl, k, hk, by rw [hk1, hk2]; exact hbad⟩ (.cons_cons _ (.cons _ (.cons _ (List.Sublist.refl _))))
    · rintro r hI D1 L2 rc2
      refine post_perm (hs' := [(D1, .deferred (some [])), (L2, .loop rc2), (b3, .cells #[ii (-1), ii 0, ii 0, ii 0, ii 0] 75 (0, 0)), (b2, .cells #[ii r] 29 (0, 0)), (b1, .cells #[sl b off n cap] 24 (0, 0)), (bg1, .cells #[sl b off n cap] 24 (0, 0))]) (List.Perm.refl _) ?_
      refine post_block ?_
      refine post_then ?_
      refine wr [0] rfl ?_
      refine kW 3 #[ii 0] ?_
      refine kPe [2] ?_
      refine tri_ret ?_
      refine post_outM ?_
      refine outM_mark 0 rfl ?_
      refine outM_ret1 (v := ii 0) rfl (.cell 3 b2 0 1 #[ii 0] 29 (0, 0) rfl rfl (by kernel_rfl)) (fun W hR => ?_)
      exact ⟨0, .inl ⟨rfl, by omega, hI.2⟩, rfl, hR.ext⟩
    · rintro c r ⟨rfl, hJ⟩ D1 L2 rc2
      refine tri_eq (l' := [(12, .func (.func 166) #[] #[pt bg1 0]), (3, pt b3 0), (2, pt b2 0), (1, pt b1 0)]) (hs' := [(D1, .deferred (some [])), (L2, .loop rc2), (b3, .cells #[ii (-1), ii 0, ii 0, ii 0, ii 0] 75 (0, 0)), (b2, .cells #[ii r] 29 (0, 0)), (b1, .cells #[sl b off n cap] 24 (0, 0)), (bg1, .cells #[sl b off n cap] 24 (0, 0))]) rfl rfl ?_
      refine tri_ret ?_
      refine post_block_ret ?_
      refine post_then_ret ?_
      refine post_outM ?_
      refine outM_mark 0 rfl ?_
      refine outM_ret1 (v := ii r) rfl (.cell 3 b2 0 1 #[ii r] 29 (0, 0) rfl rfl (by kernel_rfl)) (fun W hR => ?_)
      obtain ⟨rfl, k, hk, hbad⟩ := hJ
      exact ⟨7, .inr ⟨rfl, fun h => hbad (h.2 k hk)⟩, rfl, hR.ext⟩
end Go.Proofs.YtlkbokbcfajhjaaGreat
