/- G35: the law -/
import Derived.Test.YtlkbokbcfajhjaaGreatGB
import Derived.Test.YtlkbokbcfajhjaaGreatB17
import Derived.Test.YtlkbokbcfajhjaaGreatD1
namespace Go.Proofs.YtlkbokbcfajhjaaGreat
open Go.Proofs.Walk
set_option maxRecDepth 100000
set_option linter.unusedVariables false
set_option linter.unusedSimpArgs false

theorem en3 : Walk.Enters Tryz.prog 3 := Walk.enters Tryz.func3 (by kernel_rfl) rfl
theorem en15 : Walk.Enters Tryz.prog 15 := Walk.enters Tryz.func15 (by kernel_rfl) rfl
theorem wts_len {n : Nat} {c : Nat → Nat → Int} {v : Nat → Int} (x : Nat) : (wtsTo n c v x).length ≤ x := by
  unfold wtsTo
  rw [List.length_map]
  exact Nat.le_trans (List.length_filter_le _ _) (by simp)
theorem ren_or {b off n cap bo oo no co bp op np cp : Nat} {c : Nat → Nat → Int} {ord : Nat → Int} {pm : Nat → Nat → Int} {w : World} {R : Ending → World → Prop} (hc : At w b off n c) (ho : AtV w bo oo no ord) (hp : AtP w bp op np pm) (hg : GlueOK n c) (hn0 : 0 < n) (hn5 : n ≤ 5)
    (k : ∀ e w', ((∃ r : Int, r ≠ 0 ∧ e = .returned (.tuple #[.agg #[.slice none 0 0], .int .i64 r]) ∧ Ext w w') ∨ (∃ bn capn spn, n ≤ capn ∧ (no = n ∧ np = n ∧ (∀ i, i < n → PermOK pm i) ∧ OrdOK n ord n) ∧ e = .returned (.tuple #[.agg #[.slice (some ⟨bn, 0, none⟩) n capn], .int .i64 0]) ∧ Rep w [] [(bn, vecB (rowsTo n c ord pm n ++ spn) 76)] w')) → R e w') :
    Calls Tryz.prog 10 #[.agg #[.slice (some ⟨b, off, none⟩) n cap], .slice (some ⟨bo, oo, none⟩) no co, .slice (some ⟨bp, op, none⟩) np cp] w R := by
  by_cases h1 : no = n
  · by_cases h2 : np = n
    · exact (renumber_ hc ho hp hg hn0 (by omega) (by omega)).mono k
    · exact (renumberNilB2 hc hg hn0 h1 h2).mono fun e w' h => k e w' (.inl h)
  · exact (renumberNilB1 hc hg hn0 h1).mono fun e w' h => k e w' (.inl h)
theorem mainL_len {n : Nat} {c : Nat → Nat → Int} {v : Nat → Int} {h : Nat × Nat} : (mainL n c v h).length = 10 * n := by simp [mainL]

theorem law_ {b off n cap bv ov nv cv bo oo no co bp op np cp : Nat} {c : Nat → Nat → Int} {v ord : Nat → Int} {pm : Nat → Nat → Int} {w : World} (hc : At w b off n c) (hv : AtV w bv ov nv v) (ho : AtV w bo oo no ord) (hp : AtP w bp op np pm) (hcv : nv ≤ cv) : Calls Tryz.prog 3 #[.agg #[sl b off n cap], sl bv ov nv cv, sl bo oo no co, sl bp op np cp] w fun e w' => e = .returned (.bool true) ∧ Ext w w' := by
  refine calls_of (n := 140) Tryz.func3 rfl Tryz.ntmps3 rfl ?_
  refine tri_eq (l' := [(0, .agg #[sl b off n cap]), (1, sl bv ov nv cv), (2, sl bo oo no co), (3, sl bp op np cp)]) (hs' := []) rfl rfl ?_
  refine wr [0, 1] rfl ?_
  refine kB (.agg #[sl b off n cap]) fun b1 => ?_
  refine kSe 1 0 [] [4, 1, 2, 3] ?_
  refine tri_seq ?_
  refine wr [0, 1] rfl ?_
  refine kC en7 #[] (.bool true) rfl (fun W hR => sane_ W) ?_ (by kernel_rfl)
  refine kSe 1 0 [(24, .bool false)] [4, 1, 2, 3] ?_
  refine tri_cond_false rfl ?_
  refine tri_skip ?_
  refine post_then ?_
  refine tri_seq ?_
  refine tri_seq ?_
  by_cases h1 : n ≤ 5 ∧ nv ≤ 60
  · refine tri_region (todo := [0, 1, 2, 3, 4, 5, 6, 7, 8, 9, 10]) rfl ?_
    refine kL 0 (.agg #[sl b off n cap]) ?_
    refine kS 1 0 [(26, sl bv ov nv cv)] [25, 4, 1, 2, 3] ?_
    refine opsT_buildSlice (e := 25) (size := 1) (z := .slice none 0 0) [sl bv ov nv cv] rfl rfl rfl rfl rfl rfl (by kernel_rfl) (by kernel_rfl) (by kernel_rfl) (by kernel_rfl) (fun b2 => ?_)
    refine opsT_heq (hs' := [(b2, .cells #[sl bv ov nv cv] 25 (0, 0)), (b1, .cells #[sl b off n cap] 24 (0, 0))]) rfl ?_
    refine kC en8 #[.agg #[sl b off n cap], sl b2 0 1 1] (.bool true) rfl (fun W hR => (small (cells_one (us := []) (t := 25) hR (List.mem_of_getElem? (i := 0) rfl))).mono fun e w' h => ⟨by rw [h.1, decide_eq_true h1], h.2⟩) ?_ (by kernel_rfl)
    refine kS 2 0 [(30, .bool false)] [4, 1, 2, 3] ?_
    refine kL 1 (.agg #[sl b off n cap]) ?_
    refine kS 1 0 [(32, sl bv ov nv cv)] [31, 30, 4, 1, 2, 3] ?_
    have hn : n ≤ 1000000000 := by have := h1.1; omega
    have hnv : nv ≤ 1000000000000 := by have := h1.2; omega
    refine opsT_callR (f := 9) (args := #[.agg #[sl b off n cap], sl bv ov nv cv]) [] ([(b2, .cells #[sl bv ov nv cv] 25 (0, 0)), (b1, .cells #[sl b off n cap] 24 (0, 0))]) (fun r => .int .i64 r) (fun _ => []) (fun r => ChkR n c nv v r) rfl rfl rfl rfl rfl (run_call en9 rfl rfl rfl (by kernel_rfl)) (List.Perm.refl _) (fun W hR => (check9 (hc.rep hR (by simp)) (hv.rep hR (by simp)) hcv hnv hn).mono fun e w' ⟨r, h1, h2, h3⟩ => ⟨r, h1, h2, Ext.rep h3⟩) (fun r q => ?_)
    refine opsT_heq (hs' := [(b2, .cells #[sl bv ov nv cv] 25 (0, 0)), (b1, .cells #[sl b off n cap] 24 (0, 0))]) rfl ?_
    refine kSe 2 5 [(35, .bool (!decide (r = 0)))] [4, 1, 2, 3] ?_
    refine tri_cond (b := !decide (r = 0)) rfl (fun h2 => ?_) (fun h2 => ?_)
    · simp only [Bool.not_eq_true', decide_eq_false_iff_not] at h2
      refine wr [0] rfl ?_
      refine kSe 1 0 [(8, .bool true)] [] ?_
      refine tri_ret ?_
      refine post_then_ret ?_
      refine post_ret1 (v := .bool true) rfl (.tmp rfl) (fun W hR => ?_)
      exact ⟨rfl, hR.ext⟩
    · simp only [Bool.not_eq_false', decide_eq_true_eq] at h2
      refine tri_skip ?_
      refine post_then ?_
      refine wr [0, 1, 2, 3, 4, 5, 6, 7, 8, 9] rfl ?_
      refine kL 1 (.agg #[sl b off n cap]) ?_
      refine kS 2 0 [(39, sl bp op np cp), (38, sl bo oo no co)] [37, 4, 1, 2, 3] ?_
      obtain ⟨hg, hn60, hH⟩ : GlueOK n c ∧ n ≤ 60 ∧ Holds n c nv v := by rcases q with ⟨q, _⟩ | ⟨q, _⟩ | ⟨q, _⟩ | ⟨_, q1, q2, q3⟩ <;> first | exact ⟨q1, q2, q3⟩ | (exfalso; omega)
      have h10 : nv = 10 * n := hH.1
      have hn0 : 0 < n := hH.pos
      have hn5 : n ≤ 5 := h1.1
      refine opsT_callR (β := Int ⊕ (Nat × Nat × List Value)) (f := 10) (args := #[.agg #[sl b off n cap], sl bo oo no co, sl bp op np cp]) [] ([(b2, .cells #[sl bv ov nv cv] 25 (0, 0)), (b1, .cells #[sl b off n cap] 24 (0, 0))]) (fun x => match x with | .inl r => .tuple #[.agg #[.slice none 0 0], .int .i64 r] | .inr y => .tuple #[.agg #[.slice (some ⟨y.1, 0, none⟩) n y.2.1], .int .i64 0]) (fun x => match x with | .inl _ => [] | .inr y => [(y.1, vecB (rowsTo n c ord pm n ++ y.2.2) 76)]) (fun x => match x with | .inl r => r ≠ 0 | .inr y => n ≤ y.2.1 ∧ no = n ∧ np = n ∧ (∀ i, i < n → PermOK pm i) ∧ OrdOK n ord n) rfl rfl rfl rfl rfl (run_call en10 rfl rfl rfl (by kernel_rfl)) (List.Perm.refl _) (fun W hR => ren_or (hc.rep hR (by simp)) (ho.rep hR (by simp)) (hp.rep hR (by simp)) hg hn0 hn5 fun e w' h => ?_) (fun x hx => ?_)
      · rcases h with ⟨r, h1, h2, h3⟩ | ⟨bn, capn, spn, h1, ⟨h2, h3, h4, h5⟩, h6, h7⟩
        · exact ⟨.inl r, h1, h2, Ext.rep h3⟩
        · exact ⟨.inr (bn, capn, spn), ⟨h1, h2, h3, h4, h5⟩, h6, h7⟩
      · rcases x with r2 | ⟨bn, capn, spn⟩
        · refine opsT_leq (l' := [(40, .tuple #[.agg #[.slice none 0 0], ii r2]), (39, sl bp op np cp), (38, sl bo oo no co), (37, .agg #[sl b off n cap]), (4, pt b1 0), (1, sl bv ov nv cv), (2, sl bo oo no co), (3, sl bp op np cp)]) rfl ?_
          refine opsT_heq (hs' := [(b2, .cells #[sl bv ov nv cv] 25 (0, 0)), (b1, .cells #[sl b off n cap] 24 (0, 0))]) rfl ?_
          refine kS 3 0 [(42, ii r2), (41, .agg #[.slice none 0 0])] [4, 1, 2, 3] ?_
          refine kA (.agg #[.slice none 0 0]) fun b3 => ?_
          refine kW 0 #[.slice none 0 0] ?_
          refine kSe 1 0 [(10, ii r2)] [9, 4, 1, 2, 3] ?_
          refine tri_seq ?_
          refine wr [0, 1] rfl ?_
          refine kOe 2 96 [(44, .bool true)] [9, 4, 1, 2, 3] [r2 ≠ 0] hx ?_
          refine tri_cond_true rfl ?_
          refine wr [0] rfl ?_
          refine kSe 1 0 [(8, .bool true)] [] ?_
          refine tri_ret ?_
          refine post_then_ret ?_
          refine post_ret1 (v := .bool true) rfl (.tmp rfl) (fun W hR => ?_)
          exact ⟨rfl, hR.ext⟩
        · obtain ⟨hcn, e1, e2, hpm, hOrd⟩ := hx
          have e1 := e1.symm; subst e1
          have e2 := e2.symm; subst e2
          have K := kept hg (h10 ▸ hH) hOrd hpm
          refine opsT_leq (l' := [(40, .tuple #[.agg #[sl bn 0 n capn], ii 0]), (39, sl bp op n cp), (38, sl bo oo n co), (37, .agg #[sl b off n cap]), (4, pt b1 0), (1, sl bv ov nv cv), (2, sl bo oo n co), (3, sl bp op n cp)]) rfl ?_
          refine opsT_heq (hs' := [(bn, vecB (rowsTo n c ord pm n ++ spn) 76), (b2, .cells #[sl bv ov nv cv] 25 (0, 0)), (b1, .cells #[sl b off n cap] 24 (0, 0))]) rfl ?_
          refine kS 3 0 [(42, ii 0), (41, .agg #[sl bn 0 n capn])] [4, 1, 2, 3] ?_
          refine kA (.agg #[.slice none 0 0]) fun b3 => ?_
          refine kW 0 #[sl bn 0 n capn] ?_
          refine kSe 1 0 [(10, ii 0)] [9, 4, 1, 2, 3] ?_
          refine tri_seq ?_
          refine wr [0, 1] rfl ?_
          refine kSe 2 0 [(44, .bool false)] [9, 4, 1, 2, 3] ?_
          refine tri_cond_false rfl ?_
          refine tri_skip ?_
          refine post_then ?_
          refine wr [0, 1, 2, 3, 4] rfl ?_
          refine kS 3 0 [(47, sl bp op n cp), (46, sl bo oo n co), (45, sl bv ov nv cv)] [9, 4, 1, 2, 3] ?_
          refine opsT_callR (β := Nat × Nat × List Value) (f := 11) (args := #[sl bv ov nv cv, sl bo oo n co, sl bp op n cp]) [] ([(b3, .cells #[sl bn 0 n capn] 24 (0, 0)), (bn, vecB (rowsTo n c ord pm n ++ spn) 76), (b2, .cells #[sl bv ov nv cv] 25 (0, 0)), (b1, .cells #[sl b off n cap] 24 (0, 0))]) (fun y => .slice (some ⟨y.1, 0, none⟩) (10 * n) y.2.1) (fun y => [(y.1, vecB ((carL v ord pm (10 * n)).map (Value.int .i64) ++ y.2.2) 3)]) (fun y => 10 * n ≤ y.2.1) rfl rfl rfl rfl rfl (run_call en11 rfl rfl rfl (by kernel_rfl)) (List.Perm.refl _) (fun W hR => (carried_ (hv.rep hR (by simp)) (ho.rep hR (by simp)) (hp.rep hR (by simp)) h10 (by omega) hpm hOrd).mono fun e w' ⟨p, hV, he, hx⟩ => ?_) (fun y hy => ?_)
          · obtain ⟨b1, c1, s1, h1, h2, _, h3⟩ := hV.pos (by omega)
            rw [h3] at hx; exact ⟨(b1, c1, s1), h2, by rw [he, h1], hx⟩
          · obtain ⟨bw, c_bw, s_bw⟩ := y
            dsimp only at hy
            have hc_bw := hy
            clear hy
            refine opsT_heq (hs' := [(bw, vecB ((carL v ord pm (10 * n)).map (Value.int .i64) ++ s_bw) 3), (b3, .cells #[sl bn 0 n capn] 24 (0, 0)), (bn, vecB (rowsTo n c ord pm n ++ spn) 76), (b2, .cells #[sl bv ov nv cv] 25 (0, 0)), (b1, .cells #[sl b off n cap] 24 (0, 0))]) rfl ?_
            refine kSn 1 0 [(11, sl bw 0 (10 * n) c_bw)] [9, 4, 1, 2, 3] [0, 1, 2, 3, 4, 5, 6, 7] ?_
            refine kL 4 (.agg #[sl b off n cap]) ?_
            refine kS 1 0 [(51, sl bv ov nv cv)] [50, 11, 9, 4, 1, 2, 3] ?_
            refine opsT_callR (β := Nat × Nat × List Value) (f := 12) (args := #[.agg #[sl b off n cap], sl bv ov nv cv]) [] ([(bw, vecB ((carL v ord pm (10 * n)).map (Value.int .i64) ++ s_bw) 3), (b3, .cells #[sl bn 0 n capn] 24 (0, 0)), (bn, vecB (rowsTo n c ord pm n ++ spn) 76), (b2, .cells #[sl bv ov nv cv] 25 (0, 0)), (b1, .cells #[sl b off n cap] 24 (0, 0))]) (fun y => .tuple #[.slice (some ⟨y.1, 0, none⟩) ((wtsTo n c v (6 * n)).length) y.2.1, .int .i64 0]) (fun y => [(y.1, vecB ((wtsTo n c v (6 * n)).map (Value.int .i64) ++ y.2.2) 3)]) (fun y => (wtsTo n c v (6 * n)).length ≤ y.2.1) rfl rfl rfl rfl rfl (run_call en12 rfl rfl rfl (by kernel_rfl)) (List.Perm.refl _) (fun W hR => (Weights_ok (hc.rep hR (by simp)) (hv.rep hR (by simp)) hcv hg hn60 hH).mono fun e w' ⟨p, hV, he, hx⟩ => ?_) (fun y hy => ?_)
            · obtain ⟨b1, c1, s1, h1, h2, _, h3⟩ := hV.pos (wts_pos c v hn0)
              rw [h3] at hx; exact ⟨(b1, c1, s1), h2, by rw [he, h1], hx⟩
            · obtain ⟨bx, c_bx, s_bx⟩ := y
              dsimp only at hy
              have hc_bx := hy
              clear hy
              refine opsT_heq (hs' := [(bx, vecB ((wtsTo n c v (6 * n)).map (Value.int .i64) ++ s_bx) 3), (bw, vecB ((carL v ord pm (10 * n)).map (Value.int .i64) ++ s_bw) 3), (b3, .cells #[sl bn 0 n capn] 24 (0, 0)), (bn, vecB (rowsTo n c ord pm n ++ spn) 76), (b2, .cells #[sl bv ov nv cv] 25 (0, 0)), (b1, .cells #[sl b off n cap] 24 (0, 0))]) rfl ?_
              refine kSn 5 0 [(10, ii 0), (12, sl bx 0 ((wtsTo n c v (6 * n)).length) c_bx)] [11, 9, 4, 1, 2, 3] [0, 1, 2, 3, 4, 5, 6, 7] ?_
              refine kL 2 (.agg #[sl bn 0 n capn]) ?_
              refine kS 1 0 [(57, sl bw 0 (10 * n) c_bw)] [56, 10, 12, 11, 9, 4, 1, 2, 3] ?_
              refine opsT_callR (β := Nat × Nat × List Value) (f := 12) (args := #[.agg #[sl bn 0 n capn], sl bw 0 (10 * n) c_bw]) [] ([(bx, vecB ((wtsTo n c v (6 * n)).map (Value.int .i64) ++ s_bx) 3), (bw, vecB ((carL v ord pm (10 * n)).map (Value.int .i64) ++ s_bw) 3), (b3, .cells #[sl bn 0 n capn] 24 (0, 0)), (bn, vecB (rowsTo n c ord pm n ++ spn) 76), (b2, .cells #[sl bv ov nv cv] 25 (0, 0)), (b1, .cells #[sl b off n cap] 24 (0, 0))]) (fun y => .tuple #[.slice (some ⟨y.1, 0, none⟩) ((wtsTo n (renC n c ord pm) (vOf (carL v ord pm (10 * n))) (6 * n)).length) y.2.1, .int .i64 0]) (fun y => [(y.1, vecB ((wtsTo n (renC n c ord pm) (vOf (carL v ord pm (10 * n))) (6 * n)).map (Value.int .i64) ++ y.2.2) 3)]) (fun y => (wtsTo n (renC n c ord pm) (vOf (carL v ord pm (10 * n))) (6 * n)).length ≤ y.2.1) rfl rfl rfl rfl rfl (run_call en12 rfl rfl rfl (by kernel_rfl)) (List.Perm.refl _) (fun W hR => (Weights_ok (at_rows (sp := spn) hR (List.mem_of_getElem? (i := 3) rfl)) (atV_room (l := (carL v ord pm (10 * n))) (t := 3) (sp := s_bw) hR (List.mem_of_getElem? (i := 1) rfl) (carL_len _ _ _ _)) hc_bw K.glue hn60 K.holds).mono fun e w' ⟨p, hV, he, hx⟩ => ?_) (fun y hy => ?_)
              · obtain ⟨b1, c1, s1, h1, h2, _, h3⟩ := hV.pos (wts_pos _ _ hn0)
                rw [h3] at hx; exact ⟨(b1, c1, s1), h2, by rw [he, h1], hx⟩
              · obtain ⟨by1, c_by1, s_by1⟩ := y
                dsimp only at hy
                have hc_by1 := hy
                clear hy
                refine opsT_heq (hs' := [(by1, vecB ((wtsTo n (renC n c ord pm) (vOf (carL v ord pm (10 * n))) (6 * n)).map (Value.int .i64) ++ s_by1) 3), (bx, vecB ((wtsTo n c v (6 * n)).map (Value.int .i64) ++ s_bx) 3), (bw, vecB ((carL v ord pm (10 * n)).map (Value.int .i64) ++ s_bw) 3), (b3, .cells #[sl bn 0 n capn] 24 (0, 0)), (bn, vecB (rowsTo n c ord pm n ++ spn) 76), (b2, .cells #[sl bv ov nv cv] 25 (0, 0)), (b1, .cells #[sl b off n cap] 24 (0, 0))]) rfl ?_
                refine kSn 5 0 [(14, ii 0), (13, sl by1 0 ((wtsTo n (renC n c ord pm) (vOf (carL v ord pm (10 * n))) (6 * n)).length) c_by1)] [10, 12, 11, 9, 4, 1, 2, 3] [0, 1, 2, 3, 4, 5, 6, 7] ?_
                refine kL 6 (.agg #[sl b off n cap]) ?_
                refine kS 1 0 [(63, sl bv ov nv cv)] [62, 14, 13, 10, 12, 11, 9, 4, 1, 2, 3] ?_
                refine kC en13 #[.agg #[sl b off n cap], sl bv ov nv cv] (.tuple #[ii (eulP n c v), ii 0]) rfl (fun W hR => Euler_ok (hc.rep hR (by simp)) (hv.rep hR (by simp)) hcv hg hn60 hH) ?_ (by kernel_rfl)
                refine kSn 5 0 [(16, ii 0), (15, ii (eulP n c v))] [14, 13, 10, 12, 11, 9, 4, 1, 2, 3] [0, 1, 2, 3, 4, 5, 6, 7] ?_
                refine kL 3 (.agg #[sl bn 0 n capn]) ?_
                refine kS 1 0 [(69, sl bw 0 (10 * n) c_bw)] [68, 16, 15, 14, 13, 10, 12, 11, 9, 4, 1, 2, 3] ?_
                refine kC en13 #[.agg #[sl bn 0 n capn], sl bw 0 (10 * n) c_bw] (.tuple #[ii (eulP n c v), ii 0]) rfl (fun W hR => (Euler_ok (at_rows (sp := spn) hR (List.mem_of_getElem? (i := 4) rfl)) (atV_room (l := (carL v ord pm (10 * n))) (t := 3) (sp := s_bw) hR (List.mem_of_getElem? (i := 2) rfl) (carL_len _ _ _ _)) hc_bw K.glue hn60 K.holds).mono fun e w' ⟨he, hx⟩ => ⟨by rw [he, K.eul], hx⟩) ?_ (by kernel_rfl)
                refine kSe 5 0 [(18, ii 0), (17, ii (eulP n c v))] [16, 15, 14, 13, 10, 12, 11, 9, 4, 1, 2, 3] ?_
                refine tri_seq ?_
                refine wr [0, 1, 2, 3, 4, 5, 6, 7, 8, 9, 10, 11, 12, 13, 14, 15, 16, 17, 18] rfl ?_
                refine kOe 19 0x700000000000000000 [(91, .bool false)] [13, 12, 11, 9, 4, 1, 2, 3] [¬ ((eulP n c v) ≠ (eulP n c v))] (fun hn => hn rfl) ?_
                refine tri_cond_false rfl ?_
                refine tri_skip ?_
                refine post_then ?_
                refine wr [0, 1, 2, 3, 4, 5] rfl ?_
                refine kS 1 0 [(92, sl bx 0 ((wtsTo n c v (6 * n)).length) c_bx)] [13, 12, 11, 9, 4, 1, 2, 3] ?_
                refine opsT_callR (β := Nat × Nat × List Value) (f := 14) (args := #[sl bx 0 ((wtsTo n c v (6 * n)).length) c_bx]) [] ([(by1, vecB ((wtsTo n (renC n c ord pm) (vOf (carL v ord pm (10 * n))) (6 * n)).map (Value.int .i64) ++ s_by1) 3), (bx, vecB ((wtsTo n c v (6 * n)).map (Value.int .i64) ++ s_bx) 3), (bw, vecB ((carL v ord pm (10 * n)).map (Value.int .i64) ++ s_bw) 3), (b3, .cells #[sl bn 0 n capn] 24 (0, 0)), (bn, vecB (rowsTo n c ord pm n ++ spn) 76), (b2, .cells #[sl bv ov nv cv] 25 (0, 0)), (b1, .cells #[sl b off n cap] 24 (0, 0))]) (fun y => .slice (some ⟨y.1, 0, none⟩) ((wtsTo n c v (6 * n)).length) y.2.1) (fun y => [(y.1, vecB ((wtsTo n c v (6 * n)).map (Value.int .i64) ++ y.2.2) 3)]) (fun y => (wtsTo n c v (6 * n)).length ≤ y.2.1) rfl rfl rfl rfl rfl (run_call en14 rfl rfl rfl (by kernel_rfl)) (List.Perm.refl _) (fun W hR => (clone_ (a := vOf (wtsTo n c v (6 * n))) (atV_room (l := (wtsTo n c v (6 * n))) (t := 3) (sp := s_bx) hR (List.mem_of_getElem? (i := 1) rfl) rfl) (Nat.le_trans (wts_len _) (by omega))).mono fun e w' ⟨p, hV, he, hx⟩ => ?_) (fun y hy => ?_)
                · obtain ⟨b1, c1, s1, h1, h2, _, h3⟩ := hV.pos (wts_pos _ _ hn0)
                  rw [h3] at hx; exact ⟨(b1, c1, s1), h2, by rw [he, h1], by rw [listN_of rfl] at hx; exact hx⟩
                · obtain ⟨bx2, c_bx2, s_bx2⟩ := y
                  dsimp only at hy
                  have hc_bx2 := hy
                  clear hy
                  refine opsT_heq (hs' := [(bx2, vecB ((wtsTo n c v (6 * n)).map (Value.int .i64) ++ s_bx2) 3), (by1, vecB ((wtsTo n (renC n c ord pm) (vOf (carL v ord pm (10 * n))) (6 * n)).map (Value.int .i64) ++ s_by1) 3), (bx, vecB ((wtsTo n c v (6 * n)).map (Value.int .i64) ++ s_bx) 3), (bw, vecB ((carL v ord pm (10 * n)).map (Value.int .i64) ++ s_bw) 3), (b3, .cells #[sl bn 0 n capn] 24 (0, 0)), (bn, vecB (rowsTo n c ord pm n ++ spn) 76), (b2, .cells #[sl bv ov nv cv] 25 (0, 0)), (b1, .cells #[sl b off n cap] 24 (0, 0))]) rfl ?_
                  refine kS 1 0 [(94, sl by1 0 ((wtsTo n (renC n c ord pm) (vOf (carL v ord pm (10 * n))) (6 * n)).length) c_by1)] [93, 13, 12, 11, 9, 4, 1, 2, 3] ?_
                  refine opsT_callR (β := Nat × Nat × List Value) (f := 14) (args := #[sl by1 0 ((wtsTo n (renC n c ord pm) (vOf (carL v ord pm (10 * n))) (6 * n)).length) c_by1]) [] ([(bx2, vecB ((wtsTo n c v (6 * n)).map (Value.int .i64) ++ s_bx2) 3), (by1, vecB ((wtsTo n (renC n c ord pm) (vOf (carL v ord pm (10 * n))) (6 * n)).map (Value.int .i64) ++ s_by1) 3), (bx, vecB ((wtsTo n c v (6 * n)).map (Value.int .i64) ++ s_bx) 3), (bw, vecB ((carL v ord pm (10 * n)).map (Value.int .i64) ++ s_bw) 3), (b3, .cells #[sl bn 0 n capn] 24 (0, 0)), (bn, vecB (rowsTo n c ord pm n ++ spn) 76), (b2, .cells #[sl bv ov nv cv] 25 (0, 0)), (b1, .cells #[sl b off n cap] 24 (0, 0))]) (fun y => .slice (some ⟨y.1, 0, none⟩) ((wtsTo n (renC n c ord pm) (vOf (carL v ord pm (10 * n))) (6 * n)).length) y.2.1) (fun y => [(y.1, vecB ((wtsTo n (renC n c ord pm) (vOf (carL v ord pm (10 * n))) (6 * n)).map (Value.int .i64) ++ y.2.2) 3)]) (fun y => (wtsTo n (renC n c ord pm) (vOf (carL v ord pm (10 * n))) (6 * n)).length ≤ y.2.1) rfl rfl rfl rfl rfl (run_call en14 rfl rfl rfl (by kernel_rfl)) (List.Perm.refl _) (fun W hR => (clone_ (a := vOf (wtsTo n (renC n c ord pm) (vOf (carL v ord pm (10 * n))) (6 * n))) (atV_room (l := (wtsTo n (renC n c ord pm) (vOf (carL v ord pm (10 * n))) (6 * n))) (t := 3) (sp := s_by1) hR (List.mem_of_getElem? (i := 1) rfl) rfl) (Nat.le_trans (wts_len _) (by omega))).mono fun e w' ⟨p, hV, he, hx⟩ => ?_) (fun y hy => ?_)
                  · obtain ⟨b1, c1, s1, h1, h2, _, h3⟩ := hV.pos (wts_pos _ _ hn0)
                    rw [h3] at hx; exact ⟨(b1, c1, s1), h2, by rw [he, h1], by rw [listN_of rfl] at hx; exact hx⟩
                  · obtain ⟨by2, c_by2, s_by2⟩ := y
                    dsimp only at hy
                    have hc_by2 := hy
                    clear hy
                    refine opsT_heq (hs' := [(by2, vecB ((wtsTo n (renC n c ord pm) (vOf (carL v ord pm (10 * n))) (6 * n)).map (Value.int .i64) ++ s_by2) 3), (bx2, vecB ((wtsTo n c v (6 * n)).map (Value.int .i64) ++ s_bx2) 3), (by1, vecB ((wtsTo n (renC n c ord pm) (vOf (carL v ord pm (10 * n))) (6 * n)).map (Value.int .i64) ++ s_by1) 3), (bx, vecB ((wtsTo n c v (6 * n)).map (Value.int .i64) ++ s_bx) 3), (bw, vecB ((carL v ord pm (10 * n)).map (Value.int .i64) ++ s_bw) 3), (b3, .cells #[sl bn 0 n capn] 24 (0, 0)), (bn, vecB (rowsTo n c ord pm n ++ spn) 76), (b2, .cells #[sl bv ov nv cv] 25 (0, 0)), (b1, .cells #[sl b off n cap] 24 (0, 0))]) rfl ?_
                    refine kSn 2 0 [(13, sl by2 0 ((wtsTo n (renC n c ord pm) (vOf (carL v ord pm (10 * n))) (6 * n)).length) c_by2), (12, sl bx2 0 ((wtsTo n c v (6 * n)).length) c_bx2)] [11, 9, 4, 1, 2, 3] [0, 1] ?_
                    refine kS 1 0 [(96, sl bx2 0 ((wtsTo n c v (6 * n)).length) c_bx2)] [13, 12, 11, 9, 4, 1, 2, 3] ?_
                    refine opsT_callR (f := 15) (args := #[sl bx2 0 ((wtsTo n c v (6 * n)).length) c_bx2]) [(bx2, vecB ((wtsTo n c v (6 * n)).map (Value.int .i64) ++ s_bx2) 3)] ([(by2, vecB ((wtsTo n (renC n c ord pm) (vOf (carL v ord pm (10 * n))) (6 * n)).map (Value.int .i64) ++ s_by2) 3), (by1, vecB ((wtsTo n (renC n c ord pm) (vOf (carL v ord pm (10 * n))) (6 * n)).map (Value.int .i64) ++ s_by1) 3), (bx, vecB ((wtsTo n c v (6 * n)).map (Value.int .i64) ++ s_bx) 3), (bw, vecB ((carL v ord pm (10 * n)).map (Value.int .i64) ++ s_bw) 3), (b3, .cells #[sl bn 0 n capn] 24 (0, 0)), (bn, vecB (rowsTo n c ord pm n ++ spn) 76), (b2, .cells #[sl bv ov nv cv] 25 (0, 0)), (b1, .cells #[sl b off n cap] 24 (0, 0))]) (fun _ : Unit => .tuple #[]) (fun _ => [(bx2, vecB (((wtsTo n c v (6 * n)).mergeSort (fun x y => decide (x ≤ y))).map (Value.int .i64) ++ s_bx2) 3)]) (fun _ => True) rfl rfl rfl rfl rfl (run_call en15 rfl rfl rfl (by kernel_rfl)) (List.perm_middle (l₁ := ([(by2, vecB ((wtsTo n (renC n c ord pm) (vOf (carL v ord pm (10 * n))) (6 * n)).map (Value.int .i64) ++ s_by2) 3)] : List (Nat × Obj)))) (fun W hR => (sort_ (l := (wtsTo n c v (6 * n))) (sp := s_bx2) (hR.own bx2 _ (List.mem_of_getElem? (i := 0) rfl)) (Nat.le_trans (wts_len _) (by omega))).mono fun e w' h => ⟨(), trivial, h.1, h.2⟩) (fun _ _ => ?_)
                    refine opsT_perm (hs' := [(by2, vecB ((wtsTo n (renC n c ord pm) (vOf (carL v ord pm (10 * n))) (6 * n)).map (Value.int .i64) ++ s_by2) 3), (bx2, vecB (((wtsTo n c v (6 * n)).mergeSort (fun x y => decide (x ≤ y))).map (Value.int .i64) ++ s_bx2) 3), (by1, vecB ((wtsTo n (renC n c ord pm) (vOf (carL v ord pm (10 * n))) (6 * n)).map (Value.int .i64) ++ s_by1) 3), (bx, vecB ((wtsTo n c v (6 * n)).map (Value.int .i64) ++ s_bx) 3), (bw, vecB ((carL v ord pm (10 * n)).map (Value.int .i64) ++ s_bw) 3), (b3, .cells #[sl bn 0 n capn] 24 (0, 0)), (bn, vecB (rowsTo n c ord pm n ++ spn) 76), (b2, .cells #[sl bv ov nv cv] 25 (0, 0)), (b1, .cells #[sl b off n cap] 24 (0, 0))]) (List.perm_middle (l₁ := ([(by2, vecB ((wtsTo n (renC n c ord pm) (vOf (carL v ord pm (10 * n))) (6 * n)).map (Value.int .i64) ++ s_by2) 3)] : List (Nat × Obj)))).symm ?_
                    refine kP [13, 12, 11, 9, 4, 1, 2, 3] ?_
                    refine wn [0, 1] rfl ?_
                    refine kS 1 0 [(98, sl by2 0 ((wtsTo n (renC n c ord pm) (vOf (carL v ord pm (10 * n))) (6 * n)).length) c_by2)] [13, 12, 11, 9, 4, 1, 2, 3] ?_
                    refine opsT_callR (f := 15) (args := #[sl by2 0 ((wtsTo n (renC n c ord pm) (vOf (carL v ord pm (10 * n))) (6 * n)).length) c_by2]) [(by2, vecB ((wtsTo n (renC n c ord pm) (vOf (carL v ord pm (10 * n))) (6 * n)).map (Value.int .i64) ++ s_by2) 3)] ([(bx2, vecB (((wtsTo n c v (6 * n)).mergeSort (fun x y => decide (x ≤ y))).map (Value.int .i64) ++ s_bx2) 3), (by1, vecB ((wtsTo n (renC n c ord pm) (vOf (carL v ord pm (10 * n))) (6 * n)).map (Value.int .i64) ++ s_by1) 3), (bx, vecB ((wtsTo n c v (6 * n)).map (Value.int .i64) ++ s_bx) 3), (bw, vecB ((carL v ord pm (10 * n)).map (Value.int .i64) ++ s_bw) 3), (b3, .cells #[sl bn 0 n capn] 24 (0, 0)), (bn, vecB (rowsTo n c ord pm n ++ spn) 76), (b2, .cells #[sl bv ov nv cv] 25 (0, 0)), (b1, .cells #[sl b off n cap] 24 (0, 0))]) (fun _ : Unit => .tuple #[]) (fun _ => [(by2, vecB (((wtsTo n (renC n c ord pm) (vOf (carL v ord pm (10 * n))) (6 * n)).mergeSort (fun x y => decide (x ≤ y))).map (Value.int .i64) ++ s_by2) 3)]) (fun _ => True) rfl rfl rfl rfl rfl (run_call en15 rfl rfl rfl (by kernel_rfl)) (List.perm_middle (l₁ := ([] : List (Nat × Obj)))) (fun W hR => (sort_ (l := (wtsTo n (renC n c ord pm) (vOf (carL v ord pm (10 * n))) (6 * n))) (sp := s_by2) (hR.own by2 _ (List.mem_of_getElem? (i := 0) rfl)) (Nat.le_trans (wts_len _) (by omega))).mono fun e w' h => ⟨(), trivial, h.1, h.2⟩) (fun _ _ => ?_)
                    refine opsT_perm (hs' := [(by2, vecB (((wtsTo n (renC n c ord pm) (vOf (carL v ord pm (10 * n))) (6 * n)).mergeSort (fun x y => decide (x ≤ y))).map (Value.int .i64) ++ s_by2) 3), (bx2, vecB (((wtsTo n c v (6 * n)).mergeSort (fun x y => decide (x ≤ y))).map (Value.int .i64) ++ s_bx2) 3), (by1, vecB ((wtsTo n (renC n c ord pm) (vOf (carL v ord pm (10 * n))) (6 * n)).map (Value.int .i64) ++ s_by1) 3), (bx, vecB ((wtsTo n c v (6 * n)).map (Value.int .i64) ++ s_bx) 3), (bw, vecB ((carL v ord pm (10 * n)).map (Value.int .i64) ++ s_bw) 3), (b3, .cells #[sl bn 0 n capn] 24 (0, 0)), (bn, vecB (rowsTo n c ord pm n ++ spn) 76), (b2, .cells #[sl bv ov nv cv] 25 (0, 0)), (b1, .cells #[sl b off n cap] 24 (0, 0))]) (List.perm_middle (l₁ := ([] : List (Nat × Obj)))).symm ?_
                    refine kPe [13, 12, 11, 9, 4, 1, 2, 3] ?_
                    refine tri_seq ?_
                    refine wr [0, 1, 2, 3] rfl ?_
                    refine kS 2 0 [(101, sl by2 0 ((wtsTo n (renC n c ord pm) (vOf (carL v ord pm (10 * n))) (6 * n)).length) c_by2), (100, sl bx2 0 ((wtsTo n c v (6 * n)).length) c_bx2)] [11, 9, 4, 1, 2, 3] ?_
                    refine kC en16 #[sl bx2 0 ((wtsTo n c v (6 * n)).length) c_bx2, sl by2 0 ((wtsTo n (renC n c ord pm) (vOf (carL v ord pm (10 * n))) (6 * n)).length) c_by2] (.bool true) rfl (fun W hR => (equal_ (a := vOf ((wtsTo n c v (6 * n)).mergeSort (fun x y => decide (x ≤ y)))) (c := vOf ((wtsTo n (renC n c ord pm) (vOf (carL v ord pm (10 * n))) (6 * n)).mergeSort (fun x y => decide (x ≤ y)))) (atV_room (t := 3) (sp := s_bx2) hR (List.mem_of_getElem? (i := 1) rfl) (List.length_mergeSort _)) (atV_room (t := 3) (sp := s_by2) hR (List.mem_of_getElem? (i := 0) rfl) (List.length_mergeSort _)) (Nat.le_trans (wts_len _) (by omega))).mono fun e w' ⟨he, hx⟩ => ⟨by rw [he, decide_eq_true (⟨by have := congrArg List.length K.wts; rwa [List.length_mergeSort, List.length_mergeSort] at this, fun j _ => by rw [K.wts]⟩ : (wtsTo n c v (6 * n)).length = (wtsTo n (renC n c ord pm) (vOf (carL v ord pm (10 * n))) (6 * n)).length ∧ ∀ j, j < (wtsTo n c v (6 * n)).length → vOf ((wtsTo n c v (6 * n)).mergeSort (fun x y => decide (x ≤ y))) j = vOf ((wtsTo n (renC n c ord pm) (vOf (carL v ord pm (10 * n))) (6 * n)).mergeSort (fun x y => decide (x ≤ y))) j)], hx⟩) ?_ (by kernel_rfl)
                    refine kSe 1 0 [(103, .bool false)] [11, 9, 4, 1, 2, 3] ?_
                    refine tri_cond_false rfl ?_
                    refine tri_skip ?_
                    refine post_then ?_
                    refine tri_seq ?_
                    refine wr [0, 1, 2] rfl ?_
                    refine kS 1 0 [(104, sl bv ov nv cv)] [11, 9, 4, 1, 2, 3] ?_
                    refine kC en17 #[sl bv ov nv cv] (ii (min (sumTo nv v) 20001)) rfl (fun W hR => pieces_ (hv.rep hR (by simp)) hH.2.1 (by omega)) ?_ (by kernel_rfl)
                    refine kSe 1 5 [(106, .bool (decide (60 < (min (sumTo nv v) 20001))))] [11, 9, 4, 1, 2, 3] ?_
                    refine tri_cond_dec (p := 60 < (min (sumTo nv v) 20001)) rfl (fun h3 => ?_) (fun h3 => ?_)
                    · refine wr [0] rfl ?_
                      refine kSe 1 0 [(8, .bool true)] [] ?_
                      refine tri_ret ?_
                      refine post_then_ret ?_
                      refine post_ret1 (v := .bool true) rfl (.tmp rfl) (fun W hR => ?_)
                      exact ⟨rfl, hR.ext⟩
                    · refine tri_skip ?_
                      refine post_then ?_
                      refine wr [0, 1, 2, 3, 4, 5, 6, 7, 8, 9] rfl ?_
                      refine kL 8 (.agg #[sl b off n cap]) ?_
                      refine kS 1 0 [(109, sl bv ov nv cv)] [108, 11, 9, 2, 3] ?_
                      refine opsT_callR (β := Nat × Nat) (f := 18) (args := #[.agg #[sl b off n cap], sl bv ov nv cv]) [] ([(by2, vecB (((wtsTo n (renC n c ord pm) (vOf (carL v ord pm (10 * n))) (6 * n)).mergeSort (fun x y => decide (x ≤ y))).map (Value.int .i64) ++ s_by2) 3), (bx2, vecB (((wtsTo n c v (6 * n)).mergeSort (fun x y => decide (x ≤ y))).map (Value.int .i64) ++ s_bx2) 3), (by1, vecB ((wtsTo n (renC n c ord pm) (vOf (carL v ord pm (10 * n))) (6 * n)).map (Value.int .i64) ++ s_by1) 3), (bx, vecB ((wtsTo n c v (6 * n)).map (Value.int .i64) ++ s_bx) 3), (bw, vecB ((carL v ord pm (10 * n)).map (Value.int .i64) ++ s_bw) 3), (b3, .cells #[sl bn 0 n capn] 24 (0, 0)), (bn, vecB (rowsTo n c ord pm n ++ spn) 76), (b2, .cells #[sl bv ov nv cv] 25 (0, 0)), (b1, .cells #[sl b off n cap] 24 (0, 0))]) (fun p => .tuple #[.int .i64 ((partN n c v : Nat) : Int), .slice (some ⟨p.2, 0, none⟩) nv nv, .int .i64 0]) (fun p => [(p.2, intsB (mainL n c v (p.1, 0)) 3)]) (fun p => IsOct n v p.1) rfl rfl rfl rfl rfl (run_call en18 rfl rfl rfl (by kernel_rfl)) (List.Perm.refl _) (fun W hR => (Parts_ok (hc.rep hR (by simp)) (hv.rep hR (by simp)) hcv hg hn60 hH (by have := pcs_len (N := 10 * n) (h10 ▸ hH).2.1; rw [← h10] at this ⊢; omega)).mono fun e w' ⟨p, hp1, he, hx⟩ => ⟨p, hp1, he, hx⟩) (fun p hx1 => ?_)
                      obtain ⟨x1, bm1⟩ := p
                      refine opsT_heq (hs' := [(bm1, intsB (mainL n c v (x1, 0)) 3), (by2, vecB (((wtsTo n (renC n c ord pm) (vOf (carL v ord pm (10 * n))) (6 * n)).mergeSort (fun x y => decide (x ≤ y))).map (Value.int .i64) ++ s_by2) 3), (bx2, vecB (((wtsTo n c v (6 * n)).mergeSort (fun x y => decide (x ≤ y))).map (Value.int .i64) ++ s_bx2) 3), (by1, vecB ((wtsTo n (renC n c ord pm) (vOf (carL v ord pm (10 * n))) (6 * n)).map (Value.int .i64) ++ s_by1) 3), (bx, vecB ((wtsTo n c v (6 * n)).map (Value.int .i64) ++ s_bx) 3), (bw, vecB ((carL v ord pm (10 * n)).map (Value.int .i64) ++ s_bw) 3), (b3, .cells #[sl bn 0 n capn] 24 (0, 0)), (bn, vecB (rowsTo n c ord pm n ++ spn) 76), (b2, .cells #[sl bv ov nv cv] 25 (0, 0)), (b1, .cells #[sl b off n cap] 24 (0, 0))]) rfl ?_
                      refine kSn 7 0 [(10, ii 0), (20, sl bm1 0 nv nv), (19, ii ((partN n c v : Nat) : Int))] [11, 9, 2, 3] [0, 1, 2, 3, 4, 5, 6, 7, 8, 9] ?_
                      refine kL 6 (.agg #[sl bn 0 n capn]) ?_
                      refine kS 1 0 [(116, sl bw 0 (10 * n) c_bw)] [115, 10, 20, 19, 2, 3] ?_
                      refine opsT_callR (β := Nat × Nat) (f := 18) (args := #[.agg #[sl bn 0 n capn], sl bw 0 (10 * n) c_bw]) [] ([(bm1, intsB (mainL n c v (x1, 0)) 3), (by2, vecB (((wtsTo n (renC n c ord pm) (vOf (carL v ord pm (10 * n))) (6 * n)).mergeSort (fun x y => decide (x ≤ y))).map (Value.int .i64) ++ s_by2) 3), (bx2, vecB (((wtsTo n c v (6 * n)).mergeSort (fun x y => decide (x ≤ y))).map (Value.int .i64) ++ s_bx2) 3), (by1, vecB ((wtsTo n (renC n c ord pm) (vOf (carL v ord pm (10 * n))) (6 * n)).map (Value.int .i64) ++ s_by1) 3), (bx, vecB ((wtsTo n c v (6 * n)).map (Value.int .i64) ++ s_bx) 3), (bw, vecB ((carL v ord pm (10 * n)).map (Value.int .i64) ++ s_bw) 3), (b3, .cells #[sl bn 0 n capn] 24 (0, 0)), (bn, vecB (rowsTo n c ord pm n ++ spn) 76), (b2, .cells #[sl bv ov nv cv] 25 (0, 0)), (b1, .cells #[sl b off n cap] 24 (0, 0))]) (fun p => .tuple #[.int .i64 ((partN n c v : Nat) : Int), .slice (some ⟨p.2, 0, none⟩) (10 * n) (10 * n), .int .i64 0]) (fun p => [(p.2, intsB (mainL n (renC n c ord pm) (vOf (carL v ord pm (10 * n))) (p.1, 0)) 3)]) (fun p => IsOct n (vOf (carL v ord pm (10 * n))) p.1) rfl rfl rfl rfl rfl (run_call en18 rfl rfl rfl (by kernel_rfl)) (List.Perm.refl _) (fun W hR => (Parts_ok (at_rows (sp := spn) hR (List.mem_of_getElem? (i := 7) rfl)) (atV_room (l := (carL v ord pm (10 * n))) (t := 3) (sp := s_bw) hR (List.mem_of_getElem? (i := 5) rfl) (carL_len _ _ _ _)) hc_bw K.glue hn60 K.holds (by rw [K.len]; have := pcs_len (N := 10 * n) (h10 ▸ hH).2.1; rw [← h10] at this ⊢; omega)).mono fun e w' ⟨p, hp1, he, hx⟩ => ⟨p, hp1, by rw [he, K.prt], hx⟩) (fun p hx2 => ?_)
                      obtain ⟨x2, bm2⟩ := p
                      refine opsT_heq (hs' := [(bm2, intsB (mainL n (renC n c ord pm) (vOf (carL v ord pm (10 * n))) (x2, 0)) 3), (bm1, intsB (mainL n c v (x1, 0)) 3), (by2, vecB (((wtsTo n (renC n c ord pm) (vOf (carL v ord pm (10 * n))) (6 * n)).mergeSort (fun x y => decide (x ≤ y))).map (Value.int .i64) ++ s_by2) 3), (bx2, vecB (((wtsTo n c v (6 * n)).mergeSort (fun x y => decide (x ≤ y))).map (Value.int .i64) ++ s_bx2) 3), (by1, vecB ((wtsTo n (renC n c ord pm) (vOf (carL v ord pm (10 * n))) (6 * n)).map (Value.int .i64) ++ s_by1) 3), (bx, vecB ((wtsTo n c v (6 * n)).map (Value.int .i64) ++ s_bx) 3), (bw, vecB ((carL v ord pm (10 * n)).map (Value.int .i64) ++ s_bw) 3), (b3, .cells #[sl bn 0 n capn] 24 (0, 0)), (bn, vecB (rowsTo n c ord pm n ++ spn) 76), (b2, .cells #[sl bv ov nv cv] 25 (0, 0)), (b1, .cells #[sl b off n cap] 24 (0, 0))]) rfl ?_
                      refine kSn 7 0 [(14, ii 0), (22, sl bm2 0 (10 * n) (10 * n)), (21, ii ((partN n c v : Nat) : Int))] [10, 20, 19, 2, 3] [0, 1, 2, 3, 4, 5, 6, 7, 8, 9, 10, 11, 12, 13, 14, 15, 16, 17, 18, 19] ?_
                      refine kO 15 412316860416 [(135, sl bp op n cp), (134, sl bo oo n co), (133, sl bm1 0 nv nv), (132, .bool true)] [22] [((partN n c v : Nat) : Int) = ((partN n c v : Nat) : Int)] rfl ?_
                      refine opsT_callR (β := Nat × Nat × List Value) (f := 11) (args := #[sl bm1 0 nv nv, sl bo oo n co, sl bp op n cp]) [] ([(bm2, intsB (mainL n (renC n c ord pm) (vOf (carL v ord pm (10 * n))) (x2, 0)) 3), (bm1, intsB (mainL n c v (x1, 0)) 3), (by2, vecB (((wtsTo n (renC n c ord pm) (vOf (carL v ord pm (10 * n))) (6 * n)).mergeSort (fun x y => decide (x ≤ y))).map (Value.int .i64) ++ s_by2) 3), (bx2, vecB (((wtsTo n c v (6 * n)).mergeSort (fun x y => decide (x ≤ y))).map (Value.int .i64) ++ s_bx2) 3), (by1, vecB ((wtsTo n (renC n c ord pm) (vOf (carL v ord pm (10 * n))) (6 * n)).map (Value.int .i64) ++ s_by1) 3), (bx, vecB ((wtsTo n c v (6 * n)).map (Value.int .i64) ++ s_bx) 3), (bw, vecB ((carL v ord pm (10 * n)).map (Value.int .i64) ++ s_bw) 3), (b3, .cells #[sl bn 0 n capn] 24 (0, 0)), (bn, vecB (rowsTo n c ord pm n ++ spn) 76), (b2, .cells #[sl bv ov nv cv] 25 (0, 0)), (b1, .cells #[sl b off n cap] 24 (0, 0))]) (fun y => .slice (some ⟨y.1, 0, none⟩) (10 * n) y.2.1) (fun y => [(y.1, vecB ((carL (vOf (mainL n c v (x1, 0))) ord pm (10 * n)).map (Value.int .i64) ++ y.2.2) 3)]) (fun y => 10 * n ≤ y.2.1) rfl rfl rfl rfl rfl (run_call en11 rfl rfl rfl (by kernel_rfl)) (List.Perm.refl _) (fun W hR => (carried_ (v := (vOf (mainL n c v (x1, 0)))) (atV_own (l := mainL n c v (x1, 0)) (t := 3) hR (List.mem_of_getElem? (i := 1) rfl) (mainL_len.trans h10.symm)) (ho.rep hR (by simp)) (hp.rep hR (by simp)) h10 (by omega) hpm hOrd).mono fun e w' ⟨p, hV, he, hx⟩ => ?_) (fun y hy => ?_)
                      · obtain ⟨b1, c1, s1, h1, h2, _, h3⟩ := hV.pos (by omega)
                        rw [h3] at hx; exact ⟨(b1, c1, s1), h2, by rw [he, h1], hx⟩
                      · obtain ⟨bz, c_bz, s_bz⟩ := y
                        dsimp only at hy
                        have hc_bz := hy
                        clear hy
                        refine opsT_heq (hs' := [(bz, vecB ((carL (vOf (mainL n c v (x1, 0))) ord pm (10 * n)).map (Value.int .i64) ++ s_bz) 3), (bm2, intsB (mainL n (renC n c ord pm) (vOf (carL v ord pm (10 * n))) (x2, 0)) 3), (bm1, intsB (mainL n c v (x1, 0)) 3), (by2, vecB (((wtsTo n (renC n c ord pm) (vOf (carL v ord pm (10 * n))) (6 * n)).mergeSort (fun x y => decide (x ≤ y))).map (Value.int .i64) ++ s_by2) 3), (bx2, vecB (((wtsTo n c v (6 * n)).mergeSort (fun x y => decide (x ≤ y))).map (Value.int .i64) ++ s_bx2) 3), (by1, vecB ((wtsTo n (renC n c ord pm) (vOf (carL v ord pm (10 * n))) (6 * n)).map (Value.int .i64) ++ s_by1) 3), (bx, vecB ((wtsTo n c v (6 * n)).map (Value.int .i64) ++ s_bx) 3), (bw, vecB ((carL v ord pm (10 * n)).map (Value.int .i64) ++ s_bw) 3), (b3, .cells #[sl bn 0 n capn] 24 (0, 0)), (bn, vecB (rowsTo n c ord pm n ++ spn) 76), (b2, .cells #[sl bv ov nv cv] 25 (0, 0)), (b1, .cells #[sl b off n cap] 24 (0, 0))]) rfl ?_
                        refine kS 1 0 [(137, sl bm2 0 (10 * n) (10 * n))] [136, 132] ?_
                        refine kC en16 #[sl bz 0 (10 * n) c_bz, sl bm2 0 (10 * n) (10 * n)] (.bool true) rfl (fun W hR => equal_yes (a := vOf (carL (vOf (mainL n c v (x1, 0))) ord pm (10 * n))) (c := vOf (mainL n (renC n c ord pm) (vOf (carL v ord pm (10 * n))) (x2, 0))) (atV_room (t := 3) (sp := s_bz) hR (List.mem_of_getElem? (i := 0) rfl) (carL_len _ _ _ _)) (atV_own (t := 3) hR (List.mem_of_getElem? (i := 1) rfl) mainL_len) (by omega) (fun j _ => by rw [K.main x1 x2 hx1 hx2])) ?_ (by kernel_rfl)
                        refine kSe 2 0 [(8, .bool true)] [] ?_
                        refine tri_ret ?_
                        refine post_ret1 (v := .bool true) rfl (.tmp rfl) (fun W hR => ?_)
                        exact ⟨rfl, hR.ext⟩
  · refine tri_region (todo := [0, 1, 2, 3, 4, 5, 6, 7, 8, 9, 10]) rfl ?_
    refine kL 0 (.agg #[sl b off n cap]) ?_
    refine kS 1 0 [(26, sl bv ov nv cv)] [25, 4, 1, 2, 3] ?_
    refine opsT_buildSlice (e := 25) (size := 1) (z := .slice none 0 0) [sl bv ov nv cv] rfl rfl rfl rfl rfl rfl (by kernel_rfl) (by kernel_rfl) (by kernel_rfl) (by kernel_rfl) (fun b2 => ?_)
    refine opsT_heq (hs' := [(b2, .cells #[sl bv ov nv cv] 25 (0, 0)), (b1, .cells #[sl b off n cap] 24 (0, 0))]) rfl ?_
    refine kC en8 #[.agg #[sl b off n cap], sl b2 0 1 1] (.bool false) rfl (fun W hR => (small (cells_one (us := []) (t := 25) hR (List.mem_of_getElem? (i := 0) rfl))).mono fun e w' h => ⟨by rw [h.1, decide_eq_false h1], h.2⟩) ?_ (by kernel_rfl)
    refine kSe 7 1118464 [(35, .bool true)] [4, 1, 2, 3] ?_
    refine tri_cond_true rfl ?_
    refine wr [0] rfl ?_
    refine kSe 1 0 [(8, .bool true)] [] ?_
    refine tri_ret ?_
    refine post_then_ret ?_
    refine post_ret1 (v := .bool true) rfl (.tmp rfl) (fun W hR => ?_)
    exact ⟨rfl, hR.ext⟩
end Go.Proofs.YtlkbokbcfajhjaaGreat
