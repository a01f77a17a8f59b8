/- G30: the spheres of S -/
import Derived.Test.YtlkbokbcfajhjaaGreatGA
import Derived.Test.YtlkbokbcfajhjaaGreatB17
import Derived.Test.YtlkbokbcfajhjaaGreatD1
namespace Go.Proofs.YtlkbokbcfajhjaaGreat
open Go.Proofs.Walk
set_option maxRecDepth 100000
set_option linter.unusedVariables false
set_option linter.unusedSimpArgs false

theorem holds_yes {b off n cap bv ov nv cv : Nat} {c : Nat → Nat → Int} {v : Nat → Int} {w : World} (hc : At w b off n c) (hv : AtV w bv ov nv v) (hcv : nv ≤ cv) (hnv : nv ≤ 1000000000000) (hg : GlueOK n c) (hn : n ≤ 60) (h : Holds n c nv v) : Calls Tryz.prog 90 #[.agg #[.slice (some ⟨b, off, none⟩) n cap], .slice (some ⟨bv, ov, none⟩) nv cv] w fun e w' => e = .returned (.bool true) ∧ Ext w w' :=
  (holds_ hc hv hcv hnv hg hn).mono fun e w' ⟨r, hr, he, hx⟩ => ⟨by rw [he, hr.2 h], hx⟩
theorem holds_no {b off n cap bv ov nv cv : Nat} {c : Nat → Nat → Int} {v : Nat → Int} {w : World} (hc : At w b off n c) (hv : AtV w bv ov nv v) (hcv : nv ≤ cv) (hnv : nv ≤ 1000000000000) (hg : GlueOK n c) (hn : n ≤ 60) (h : ¬ Holds n c nv v) : Calls Tryz.prog 90 #[.agg #[.slice (some ⟨b, off, none⟩) n cap], .slice (some ⟨bv, ov, none⟩) nv cv] w fun e w' => e = .returned (.bool false) ∧ Ext w w' :=
  (holds_ hc hv hcv hnv hg hn).mono fun e w' ⟨r, hr, he, hx⟩ => ⟨by cases r with | false => exact he | true => exact absurd (hr.1 rfl) h, hx⟩
theorem refused_ok {b off n cap : Nat} {c : Nat → Nat → Int} {w : World} (hc : At w b off n c) (hg : GlueOK n c) (hn : n ≤ 60) : Calls Tryz.prog 88 #[.agg #[.slice (some ⟨b, off, none⟩) n cap]] w fun e w' => e = .returned (.int .i64 0) ∧ Ext w w' :=
  (refused_ hc (by omega)).mono fun e w' ⟨r, hr, he, hx⟩ => ⟨by rcases hr with ⟨_, h⟩ | ⟨_, _, h⟩ | ⟨h, _⟩; exact absurd hg h; omega; rw [he, h], hx⟩
/-- What Spheres has found of S. -/
def ResS (sv : Value) (hv : List (Nat × Obj)) : Prop := ∃ bo co so bc cc sc, sv = .slice (some ⟨bo, 0, none⟩) 1 co ∧ hv = [(bo, vecB (.slice (some ⟨bc, 0, none⟩) 10 cc :: so) 25), (bc, vecB (lA.map (Value.int .i64) ++ sc) 3)]
def OutS (k : Nat) (sv : Value) (hv : List (Nat × Obj)) : Prop := (k ≤ 3 ∧ ∃ b, sv = .slice (some ⟨b, 0, none⟩) 0 0 ∧ hv = [(b, vecB [] 25)]) ∨ (3 < k ∧ ResS sv hv)
theorem OutS.skip {k : Nat} {sv : Value} {hv : List (Nat × Obj)} (h : OutS k sv hv) (hk : k ≠ 3) : OutS (k + 1) sv hv := by
  rcases h with ⟨h1, h2⟩ | ⟨h1, h2⟩
  · exact .inl ⟨by omega, h2⟩
  · exact .inr ⟨by omega, h2⟩
/-- Where the region that keeps a sphere stands. -/
inductive StS | a | b (bc cc : Nat) (sc : List Value) | c (bc cc : Nat) (sc : List Value) (b4 : Nat)
def StS.lev : StS → Nat | .a => 0 | .b .. => 1 | .c .. => 2
def StS.v2 : StS → Value | .a => .tuple #[] | .b bc cc _ => .slice (some ⟨bc, 0, none⟩) 10 cc | .c bc cc _ _ => .slice (some ⟨bc, 0, none⟩) 10 cc
def StS.v3 : StS → Value | .c _ _ _ b4 => .slice (some ⟨b4, 0, none⟩) 1 1 | _ => .tuple #[]
def StS.more : StS → List (Nat × Obj) | .a => [] | .b bc cc sc => [(bc, vecB (lA.map (Value.int .i64) ++ sc) 3)] | .c bc cc sc b4 => [(b4, vecB [.slice (some ⟨bc, 0, none⟩) 10 cc] 25), (bc, vecB (lA.map (Value.int .i64) ++ sc) 3)]

theorem Spheres_ {b : Nat} {w : World} (hc : At w b 0 1 cS) : Calls Tryz.prog 37 #[.agg #[sl b 0 1 1], ii 1] w fun e w' => ∃ sv hv, ResS sv hv ∧ e = .returned (.tuple #[sv, .int .i64 0]) ∧ Rep w [] hv w' := by
  refine calls_ofMarks (n := 63) Tryz.func37 rfl Tryz.ntmps37 rfl (Rep.refl _) ?_
  refine tri_eq (l' := [(0, .agg #[sl b 0 1 1]), (1, ii 1)]) (hs' := []) rfl rfl ?_
  refine wr [0, 1, 2] rfl ?_
  refine kB (.agg #[sl b 0 1 1]) fun b1 => ?_
  refine kSe 2 0 [(5, ii 0), (4, .slice none 0 0)] [2, 1] ?_
  refine tri_seq ?_
  refine wr [0, 1, 2] rfl ?_
  refine kL 0 (.agg #[sl b 0 1 1]) ?_
  refine kC en88 #[.agg #[sl b 0 1 1]] (ii 0) rfl (fun W hR => refused_ok (hc.rep hR (by simp)) glueS (by decide)) ?_ (by kernel_rfl)
  refine kSn 1 0 [(6, ii 0)] [5, 4, 2, 1] [0, 1] ?_
  refine kSe 2 0 [(15, .bool false)] [6, 5, 4, 2, 1] ?_
  refine tri_cond_false rfl ?_
  refine tri_skip ?_
  refine post_then ?_
  refine tri_seq ?_
  refine wr [0, 1, 2, 3, 4, 5] rfl ?_
  refine kSe 6 0 [(22, .bool false)] [5, 4, 2, 1] ?_
  refine tri_cond_false rfl ?_
  refine tri_skip ?_
  refine post_then ?_
  refine tri_seq ?_
  refine wr [0, 1, 2, 3] rfl ?_
  refine kS 1 0 [(23, pt b1 0)] [5, 4, 2, 1] ?_
  refine kL 0 (sl b 0 1 1) ?_
  refine kSe 2 0 [(26, .bool false)] [5, 4, 2, 1] ?_
  refine tri_cond_false rfl ?_
  refine tri_skip ?_
  refine post_then ?_
  refine wr [0, 1, 2] rfl ?_
  refine opsT_buildSlice (e := 25) (size := 1) (z := .slice none 0 0) [] rfl rfl rfl rfl rfl rfl (by kernel_rfl) (by kernel_rfl) (by kernel_rfl) (by kernel_rfl) (fun b2 => ?_)
  refine opsT_heq (hs' := [(b2, .cells #[] 25 (0, 0)), (b1, .cells #[sl b 0 1 1] 24 (0, 0))]) rfl ?_
  refine kA (.slice none 0 0) fun b3 => ?_
  refine kW 0 #[sl b2 0 0 0] ?_
  refine kPe [7, 5, 4, 2, 1] ?_
  refine tri_seq ?_
  refine wr [0, 1, 2, 3, 4] rfl ?_
  refine kS 1 0 [(28, pt b1 0)] [7, 5, 4, 2, 1] ?_
  refine kL 2 (sl b 0 1 1) ?_
  refine kS 2 0 [(31, ii 1), (30, ii 1)] [7, 5, 4, 2] ?_
  refine opsT_callR (f := 89) (args := #[.int .i64 1, .int .i64 1]) [] ([(b3, .cells #[sl b2 0 0 0] 49 (0, 0)), (b2, .cells #[] 25 (0, 0)), (b1, .cells #[sl b 0 1 1] 24 (0, 0))]) (fun p : Nat × Nat => .func (.func 161) #[] #[.pointer (some ⟨p.1, 0, none⟩), .pointer (some ⟨p.2, 0, none⟩)]) (fun p => [(p.1, .cells #[.int .i64 1] 3 (0, 0)), (p.2, .cells #[.int .i64 1] 3 (0, 0))]) (fun _ => True) rfl rfl rfl rfl rfl (run_call en89 rfl rfl rfl (by kernel_rfl)) (List.Perm.refl _) (fun W hR => coords_ W) (fun p _ => ?_)
  obtain ⟨bn, bm⟩ := p
  refine opsT_heq (hs' := [(bn, .cells #[ii 1] 3 (0, 0)), (bm, .cells #[ii 1] 3 (0, 0)), (b3, .cells #[sl b2 0 0 0] 49 (0, 0)), (b2, .cells #[] 25 (0, 0)), (b1, .cells #[sl b 0 1 1] 24 (0, 0))]) rfl ?_
  refine kPe [32, 7, 5, 4, 2] ?_
  refine tri_block ?_
  refine tri_perm (hs' := [(bn, .cells #[ii 1] 3 (0, 0)), (bm, .cells #[ii 1] 3 (0, 0)), (b3, .cells #[sl b2 0 0 0] 49 (0, 0)), (b1, .cells #[sl b 0 1 1] 24 (0, 0)), (b2, .cells #[] 25 (0, 0))]) (perm_ix 5 [0, 1, 2, 4, 3] ([(bn, .cells #[ii 1] 3 (0, 0)), (bm, .cells #[ii 1] 3 (0, 0)), (b3, .cells #[sl b2 0 0 0] 49 (0, 0)), (b2, .cells #[] 25 (0, 0)), (b1, .cells #[sl b 0 1 1] 24 (0, 0))] : List (Nat × Obj)) (by decide) rfl rfl) ?_
  refine tri_rangeG (γ := Nat) (β := Value × List (Nat × Obj)) (capt := [(bn, .cells #[ii 1] 3 (0, 0)), (bm, .cells #[ii 1] 3 (0, 0))]) (own := []) (N := 112) (xs := (fun _ bv => #[.slice (some ⟨bv, 0, none⟩) 10 10])) (G := fun k bv => [(bv, intsB (lstV k) 3)]) (fun xz => (b3, .cells #[xz.1] 49 (0, 0)) :: (b1, .cells #[sl b 0 1 1] 24 (0, 0)) :: xz.2) (fun k xz => OutS k xz.1 xz.2) (fun cx xz => False) ((.slice (some ⟨b2, 0, none⟩) 0 0), [(b2, vecB [] 25)]) rfl en161 coords_iter (by first | rfl | simp) (.inl ⟨by decide, _, rfl, rfl⟩) (fun k g hk => rfl) (fun k g hk => rfl) ?_ ?_ ?_
  · rintro k hk bv ⟨sv, hv⟩ hI L1 rc1 own1 hst
    refine tri_eq (l' := [(33, sl bv 0 10 10), (32, .func (.func 161) #[] #[pt bn 0, pt bm 0]), (7, pt b3 0), (5, ii 0), (4, .slice none 0 0), (2, pt b1 0)]) (hs' := (L1, .loop rc1) :: (b3, .cells #[sv] 49 (0, 0)) :: (b1, .cells #[sl b 0 1 1] 24 (0, 0)) :: (hv ++ ((bv, intsB (lstV k) 3) :: own1))) rfl rfl ?_
    refine tri_region (todo := [0]) rfl ?_
    refine kS 1 0 [(8, sl bv 0 10 10)] [7, 2] ?_
    refine opsT_end ?_
    refine post_assign' (pre := []) hst rfl ?_
    refine tri_eq (l' := [(8, sl bv 0 10 10), (7, pt b3 0), (2, pt b1 0)]) (hs' := (L1, .loop { rc1 with state := .busy }) :: (b3, .cells #[sv] 49 (0, 0)) :: (b1, .cells #[sl b 0 1 1] 24 (0, 0)) :: (hv ++ ((bv, intsB (lstV k) 3) :: own1))) rfl rfl ?_
    refine tri_block ?_
    refine tri_seq ?_
    refine tri_seq ?_
    by_cases h1 : Holds 1 cS 10 (vOf (lstV k))
    · refine tri_region (todo := [0, 1, 2, 3, 4, 5, 6, 7, 8, 9]) rfl ?_
      refine kL 2 (.agg #[sl b 0 1 1]) ?_
      refine kS 1 0 [(35, sl bv 0 10 10)] [34, 8, 7, 2] ?_
      refine kC en90 #[.agg #[sl b 0 1 1], sl bv 0 10 10] (.bool true) rfl (fun W hR => holds_yes (hc.rep hR (by simp)) (atV_own (t := 3) hR (by simp) (lstV_len k)) (by decide) (by decide) glueS (by decide) h1) ?_ (by kernel_rfl)
      refine kS 2 0 [(38, .bool false)] [8, 7, 2] ?_
      refine kL 2 (.agg #[sl b 0 1 1]) ?_
      refine kS 1 0 [(40, sl bv 0 10 10)] [39, 38, 8, 7, 2] ?_
      refine kC en51 #[.agg #[sl b 0 1 1], sl bv 0 10 10] (ii (eulP 1 cS (vOf (lstV k)))) rfl (fun W hR => euler_ (hc.rep hR (by simp)) (atV_own (t := 3) hR (by simp) (lstV_len k)) glueS (by decide) (by decide) (by decide) h1.2.1) ?_ (by kernel_rfl)
      refine kSe 2 5 [(43, .bool (!decide ((eulP 1 cS (vOf (lstV k))) = 2)))] [8, 7, 2] ?_
      refine tri_cond (b := !decide ((eulP 1 cS (vOf (lstV k))) = 2)) rfl (fun h2 => ?_) (fun h2 => ?_)
      · simp only [Bool.not_eq_true', decide_eq_false_iff_not] at h2
        refine tri_exit ?_
        refine post_then_exit ?_
        refine post_block_hit ?_
        exact post_rq (sv, hv) (hI.skip (fun h3 => by have := (sph3 k hk).2 h3; have h1 := this.1; have h2 := this.2.1; have h4 := this.2.2; first | contradiction | (simp_all; done))) (List.Sublist.refl _)
      · simp only [Bool.not_eq_false', decide_eq_true_eq] at h2
        refine tri_skip ?_
        refine post_then ?_
        refine wr [0, 1, 2, 3, 4, 5, 6, 7, 8, 9] rfl ?_
        refine kL 2 (.agg #[sl b 0 1 1]) ?_
        refine kS 1 0 [(46, sl bv 0 10 10)] [45, 8, 7] ?_
        refine opsT_callR (f := 18) (args := #[.agg #[sl b 0 1 1], sl bv 0 10 10]) [] ((L1, .loop { rc1 with state := .busy }) :: (b3, .cells #[sv] 49 (0, 0)) :: (b1, .cells #[sl b 0 1 1] 24 (0, 0)) :: (hv ++ ((bv, intsB (lstV k) 3) :: own1))) (fun p : Nat × Nat => .tuple #[.int .i64 ((partN 1 cS (vOf (lstV k)) : Nat) : Int), .slice (some ⟨p.2, 0, none⟩) 10 10, .int .i64 0]) (fun p => [(p.2, intsB (mainL 1 cS (vOf (lstV k)) (p.1, 0)) 3)]) (fun p => IsOct 1 (vOf (lstV k)) p.1) rfl rfl rfl rfl rfl (run_call en18 rfl rfl rfl (by kernel_rfl)) (List.Perm.refl _) (fun W hR => Parts_ok (hc.rep hR (by simp)) (atV_own (t := 3) hR (by simp) (lstV_len k)) (by decide) glueS (by decide) h1 (pcsK' k hk)) (fun p hp => ?_)
        obtain ⟨bx, bp⟩ := p
        refine opsT_heq (hs' := (bp, intsB (mainL 1 cS (vOf (lstV k)) (bx, 0)) 3) :: (L1, .loop { rc1 with state := .busy }) :: (b3, .cells #[sv] 49 (0, 0)) :: (b1, .cells #[sl b 0 1 1] 24 (0, 0)) :: (hv ++ ((bv, intsB (lstV k) 3) :: own1))) rfl ?_
        refine kSn 7 0 [(11, ii 0), (9, ii ((partN 1 cS (vOf (lstV k)) : Nat) : Int))] [8, 7] [0, 1, 2, 3, 4, 5] ?_
        refine kSe 6 327680 [(56, .bool (decide (((partN 1 cS (vOf (lstV k)) : Nat) : Int) = 1)))] [8, 7] ?_
        refine tri_cond_dec (p := ((partN 1 cS (vOf (lstV k)) : Nat) : Int) = 1) rfl (fun h3 => ?_) (fun h3 => ?_)
        · have hk3 : k = 3 := (sph3 k hk).1 ⟨h1, h2, h3⟩
          have hlk : lstV k = lA := by rw [hk3]; exact lst3
          rcases hI with ⟨_, b0, rfl, rfl⟩ | ⟨h3, _⟩
          · refine tri_eq (l' := [(56, .bool (decide (((partN 1 cS (vOf (lstV k)) : Nat) : Int) = 1))), (8, sl bv 0 10 10), (7, pt b3 0)]) (hs' := (bp, intsB (mainL 1 cS (vOf (lstV k)) (bx, 0)) 3) :: (L1, .loop { rc1 with state := .busy }) :: (b3, .cells #[sl b0 0 0 0] 49 (0, 0)) :: (b1, .cells #[sl b 0 1 1] 24 (0, 0)) :: (b0, vecB [] 25) :: (bv, intsB (lstV k) 3) :: own1) rfl rfl ?_
            refine tri_drawC (σ := StS) 4 [2, 3] StS.lev StS.a (fun s => (bp, intsB (mainL 1 cS (vOf (lstV k)) (bx, 0)) 3) :: (L1, .loop { rc1 with state := .busy }) :: (b3, .cells #[sl b0 0 0 0] 49 (0, 0)) :: (b1, .cells #[sl b 0 1 1] 24 (0, 0)) :: (b0, vecB [] 25) :: (bv, intsB (lstV k) 3) :: (own1 ++ s.more)) (fun s => [sl b0 0 0 0, sl bv 0 10 10, s.v2, s.v3]) (todo := [4, 5]) (by kernel_rfl) (by kernel_rfl) (fun _ => rfl) rfl (by simp [StS.more]) (fun q K hK => ?_) (fun K hK => ?_) (fun p q K h1 h2 => ?_) (fun s => ?_) (fun s K hK => ?_) rfl (fun s hl => ?_)
            · rcases q with _ | _ | q
              · simp at hK; subst hK; exact ⟨2, rfl, by decide⟩
              · simp at hK
              · simp at hK
            · simp at hK; omega
            · rcases p with _ | _ | p <;> rcases q with _ | _ | q <;> simp at h1 h2 <;> omega
            · refine qalls_appendE (vs := [sl b0 0 0 0, sl bv 0 10 10]) (vs' := [s.v2, s.v3]) rfl (by
                refine qall_cons (opQ_loadOwn 2 b3 0 1 #[sl b0 0 0 0] 49 (0, 0) rfl rfl rfl rfl rfl rfl rfl rfl (by kernel_rfl)) ?_
                refine qall_seg [.ex] (l' := [(58, sl bv 0 10 10), (57, sl b0 0 0 0), (56, .bool (decide (((partN 1 cS (vOf (lstV k)) : Nat) : Int) = 1))), (8, sl bv 0 10 10), (7, pt b3 0)]) (vs := [sl bv 0 10 10]) (vs' := []) (obl := []) (by kernel_rfl) trivial ?_
                exact qall_nil) rfl (qalls_skip (by simp) (qalls_skip (by simp) qalls_nil))
            · cases s with
              | a =>
                obtain rfl : 2 = K := by simpa [StS.lev] using hK
                refine ⟨_, _, rfl, rfl, by decide, rfl, rfl, .inr ⟨14, #[sl bv 0 10 10], run_call en14 rfl rfl rfl (by kernel_rfl), fun W hR => (clone_ (atV_own (t := 3) (l := lstV k) (hs := (bp, intsB (mainL 1 cS (vOf (lstV k)) (bx, 0)) 3) :: (L1, .loop { rc1 with state := .busy }) :: (b3, .cells #[sl b0 0 0 0] 49 (0, 0)) :: (b1, .cells #[sl b 0 1 1] 24 (0, 0)) :: (b0, vecB [] 25) :: (bv, intsB (lstV k) 3) :: own1) (by simpa [StS.more] using hR) (by simp) (lstV_len k)) (by decide)).mono fun e w' ⟨p, hV, he, hx⟩ => ?_⟩⟩
                rw [listN_of (lstV_len k), hlk] at hV
                obtain ⟨bc, cc, sc, h1, _, _, h2⟩ := hV.pos (by decide)
                refine ⟨.b bc cc sc, .slice (some ⟨bc, 0, none⟩) 10 cc, by rw [he, h1], rfl, rfl, fun j hj => ?_, ?_⟩
                · have e2 : j ≠ 2 := fun h => hj 0 (by simp [StS.lev]) (by subst h; rfl)
                  have e3 : j ≠ 3 := fun h => hj 1 (by simp [StS.lev]) (by subst h; rfl)
                  rcases j with _ | _ | _ | _ | j <;> first | rfl | (exact absurd rfl e2) | (exact absurd rfl e3)
                · rw [h2] at hx
                  refine (Rep.glue (mine := []) (rest := (bp, intsB (mainL 1 cS (vOf (lstV k)) (bx, 0)) 3) :: (L1, .loop { rc1 with state := .busy }) :: (b3, .cells #[sl b0 0 0 0] 49 (0, 0)) :: (b1, .cells #[sl b 0 1 1] 24 (0, 0)) :: (b0, vecB [] 25) :: (bv, intsB (lstV k) 3) :: own1) (by simpa [StS.more] using hR) hx).perm ?_
                  refine (List.perm_append_comm (l₁ := [(bc, vecB (lA.map (Value.int .i64) ++ sc) 3)]) (l₂ := ((bp, intsB (mainL 1 cS (vOf (lstV k)) (bx, 0)) 3) :: (L1, .loop { rc1 with state := .busy }) :: (b3, .cells #[sl b0 0 0 0] 49 (0, 0)) :: (b1, .cells #[sl b 0 1 1] 24 (0, 0)) :: (b0, vecB [] 25) :: (bv, intsB (lstV k) 3) :: own1 : List (Nat × Obj)))).trans (List.Perm.of_eq ?_)
                  simp [StS.more]
              | b bc cc sc =>
                obtain rfl : 3 = K := by simpa [StS.lev] using hK
                refine OpT.of_opA (opA_buildSlice (P := Tryz.prog) (n := 63) (W0 := w) (M := []) (hs := (bp, intsB (mainL 1 cS (vOf (lstV k)) (bx, 0)) 3) :: (L1, .loop { rc1 with state := .busy }) :: (b3, .cells #[sl b0 0 0 0] 49 (0, 0)) :: (b1, .cells #[sl b 0 1 1] 24 (0, 0)) :: (b0, vecB [] 25) :: (bv, intsB (lstV k) 3) :: (own1 ++ [(bc, vecB (lA.map (Value.int .i64) ++ sc) 3)])) (e := 25) (size := 1) (z := .slice none 0 0) [.slice (some ⟨bc, 0, none⟩) 10 cc] rfl rfl rfl rfl rfl rfl (by kernel_rfl) (by kernel_rfl) (by kernel_rfl) (by kernel_rfl)) (fun b4 W' hR' => ?_)
                refine ⟨.c bc cc sc b4, rfl, rfl, fun j hj => ?_, ?_⟩
                · have e3 : j ≠ 3 := fun h => hj 1 (by simp [StS.lev]) (by subst h; rfl)
                  rcases j with _ | _ | _ | _ | j <;> first | rfl | (exact absurd rfl e3)
                · refine hR'.perm ?_
                  refine (List.perm_middle (a := (b4, vecB [.slice (some ⟨bc, 0, none⟩) 10 cc] 25)) (l₁ := ((bp, intsB (mainL 1 cS (vOf (lstV k)) (bx, 0)) 3) :: (L1, .loop { rc1 with state := .busy }) :: (b3, .cells #[sl b0 0 0 0] 49 (0, 0)) :: (b1, .cells #[sl b 0 1 1] 24 (0, 0)) :: (b0, vecB [] 25) :: (bv, intsB (lstV k) 3) :: own1 : List (Nat × Obj))) (l₂ := [(bc, vecB (lA.map (Value.int .i64) ++ sc) 3)])).symm.trans (List.Perm.of_eq ?_)
                  simp [StS.more]
              | c bc cc sc b4 => simp [StS.lev] at hK
            · cases s with
              | a => simp [StS.lev] at hl
              | b => simp [StS.lev] at hl
              | c bc cc sc b4 =>
                refine opsT_leq (l' := [(60, sl b4 0 1 1), (59, sl bc 0 10 cc), (58, sl bv 0 10 10), (57, sl b0 0 0 0), (56, .bool (decide (((partN 1 cS (vOf (lstV k)) : Nat) : Int) = 1))), (8, sl bv 0 10 10), (7, pt b3 0)]) rfl ?_
                refine opsT_heq (hs' := (bp, intsB (mainL 1 cS (vOf (lstV k)) (bx, 0)) 3) :: (L1, .loop { rc1 with state := .busy }) :: (b3, .cells #[sl b0 0 0 0] 49 (0, 0)) :: (b1, .cells #[sl b 0 1 1] 24 (0, 0)) :: (b0, vecB [] 25) :: (bv, intsB (lstV k) 3) :: (own1 ++ ((b4, .cells #[sl bc 0 10 cc] 25 (0, 0)) :: [(bc, vecB (lA.map (Value.int .i64) ++ sc) 3)]))) (by simp [StS.more, vecB]) ?_
                refine opsT_append (e := 25) (size := 1) (bytes := 24) (z := .slice none 0 0) (vs := []) (news := [.slice (some ⟨bc, 0, none⟩) 10 cc]) (m := 0) (k := 1) (sv := .slice (some ⟨b0, 0, none⟩) 0 0) (hv := [(b0, vecB [] 25)]) (own := (bp, intsB (mainL 1 cS (vOf (lstV k)) (bx, 0)) 3) :: (L1, .loop { rc1 with state := .busy }) :: (b3, .cells #[sl b0 0 0 0] 49 (0, 0)) :: (b1, .cells #[sl b 0 1 1] 24 (0, 0)) :: (bv, intsB (lstV k) 3) :: (own1 ++ ((b4, .cells #[sl bc 0 10 cc] 25 (0, 0)) :: [(bc, vecB (lA.map (Value.int .i64) ++ sc) 3)]))) rfl rfl rfl rfl rfl rfl rfl rfl rfl rfl rfl (by kernel_rfl) (by kernel_rfl) rfl (List.perm_middle (l₁ := ([(bp, intsB (mainL 1 cS (vOf (lstV k)) (bx, 0)) 3), (L1, .loop { rc1 with state := .busy }), (b3, .cells #[sl b0 0 0 0] 49 (0, 0)), (b1, .cells #[sl b 0 1 1] 24 (0, 0))] : List (Nat × Obj)))) (Vec.full (vs := []) rfl) rfl (by decide) (by decide) (fun W hR => src_own (e2 := 25) (off := 0) (us := [.slice (some ⟨bc, 0, none⟩) 10 cc]) (e := 25) hR (by kernel_rfl) (by simp [vecB]) rfl (fun j v hj => by simpa using hj) rfl) (fun sv1 hv1 hV1 => ?_)
                obtain ⟨bo, co, so, rfl, _, _, rfl⟩ := hV1.pos (by decide)
                refine opsT_heq (hs' := (bo, vecB ([.slice (some ⟨bc, 0, none⟩) 10 cc] ++ so) 25) :: (bp, intsB (mainL 1 cS (vOf (lstV k)) (bx, 0)) 3) :: (L1, .loop { rc1 with state := .busy }) :: (b3, .cells #[sl b0 0 0 0] 49 (0, 0)) :: (b1, .cells #[sl b 0 1 1] 24 (0, 0)) :: (bv, intsB (lstV k) 3) :: (own1 ++ ((b4, .cells #[sl bc 0 10 cc] 25 (0, 0)) :: [(bc, vecB (lA.map (Value.int .i64) ++ sc) 3)]))) rfl ?_
                refine kW 3 #[sl bo 0 1 co] ?_
                refine kP [] ?_
                refine opsT_end ?_
                refine post_block ?_
                refine post_perm (hs' := (L1, .loop { rc1 with state := .busy }) :: (b3, .cells #[sl bo 0 1 co] 49 (0, 0)) :: (b1, .cells #[sl b 0 1 1] 24 (0, 0)) :: (bo, vecB ([.slice (some ⟨bc, 0, none⟩) 10 cc] ++ so) 25) :: (bc, vecB (lA.map (Value.int .i64) ++ sc) 3) :: (bv, intsB (lstV k) 3) :: (bp, intsB (mainL 1 cS (vOf (lstV k)) (bx, 0)) 3) :: (b4, .cells #[sl bc 0 10 cc] 25 (0, 0)) :: own1) ((List.perm_append_comm.append_left ([(bo, vecB ([.slice (some ⟨bc, 0, none⟩) 10 cc] ++ so) 25), (bp, intsB (mainL 1 cS (vOf (lstV k)) (bx, 0)) 3), (L1, .loop { rc1 with state := .busy }), (b3, .cells #[sl bo 0 1 co] 49 (0, 0)), (b1, .cells #[sl b 0 1 1] 24 (0, 0)), (bv, intsB (lstV k) 3)] : List (Nat × Obj)) : (([(bo, vecB ([.slice (some ⟨bc, 0, none⟩) 10 cc] ++ so) 25), (bp, intsB (mainL 1 cS (vOf (lstV k)) (bx, 0)) 3), (L1, .loop { rc1 with state := .busy }), (b3, .cells #[sl bo 0 1 co] 49 (0, 0)), (b1, .cells #[sl b 0 1 1] 24 (0, 0)), (bv, intsB (lstV k) 3)] : List (Nat × Obj)) ++ (own1 ++ [(b4, .cells #[sl bc 0 10 cc] 25 (0, 0)), (bc, vecB (lA.map (Value.int .i64) ++ sc) 3)])).Perm ([(bo, vecB ([.slice (some ⟨bc, 0, none⟩) 10 cc] ++ so) 25), (bp, intsB (mainL 1 cS (vOf (lstV k)) (bx, 0)) 3), (L1, .loop { rc1 with state := .busy }), (b3, .cells #[sl bo 0 1 co] 49 (0, 0)), (b1, .cells #[sl b 0 1 1] 24 (0, 0)), (bv, intsB (lstV k) 3)] ++ ([(b4, .cells #[sl bc 0 10 cc] 25 (0, 0)), (bc, vecB (lA.map (Value.int .i64) ++ sc) 3)] ++ own1))).trans ?_) ?_
                · rw [← List.append_assoc]; exact (perm_ix 8 [2, 3, 4, 0, 7, 5, 1, 6] ([(bo, vecB ([.slice (some ⟨bc, 0, none⟩) 10 cc] ++ so) 25), (bp, intsB (mainL 1 cS (vOf (lstV k)) (bx, 0)) 3), (L1, .loop { rc1 with state := .busy }), (b3, .cells #[sl bo 0 1 co] 49 (0, 0)), (b1, .cells #[sl b 0 1 1] 24 (0, 0)), (bv, intsB (lstV k) 3), (b4, .cells #[sl bc 0 10 cc] 25 (0, 0)), (bc, vecB (lA.map (Value.int .i64) ++ sc) 3)] : List (Nat × Obj)) (hs' := [(L1, .loop { rc1 with state := .busy }), (b3, .cells #[sl bo 0 1 co] 49 (0, 0)), (b1, .cells #[sl b 0 1 1] 24 (0, 0)), (bo, vecB ([.slice (some ⟨bc, 0, none⟩) 10 cc] ++ so) 25), (bc, vecB (lA.map (Value.int .i64) ++ sc) 3), (bv, intsB (lstV k) 3), (bp, intsB (mainL 1 cS (vOf (lstV k)) (bx, 0)) 3), (b4, .cells #[sl bc 0 10 cc] 25 (0, 0))]) (by decide) rfl rfl).append_right _
                · exact post_rq ((.slice (some ⟨bo, 0, none⟩) 1 co), [(bo, vecB (.slice (some ⟨bc, 0, none⟩) 10 cc :: so) 25), (bc, vecB (lA.map (Value.int .i64) ++ sc) 3)]) (.inr ⟨by omega, bo, co, so, bc, cc, sc, rfl, rfl⟩) (.cons_cons _ (.cons_cons _ (.cons_cons _ (.cons_cons _ (.cons_cons _ (.cons_cons _ (.cons _ (.cons _ (List.Sublist.refl _)))))))))
          · omega
        · refine tri_skip ?_
          refine post_block ?_
          refine post_perm (hs' := (L1, .loop { rc1 with state := .busy }) :: (bp, intsB (mainL 1 cS (vOf (lstV k)) (bx, 0)) 3) :: (b3, .cells #[sv] 49 (0, 0)) :: (b1, .cells #[sl b 0 1 1] 24 (0, 0)) :: (hv ++ ((bv, intsB (lstV k) 3) :: own1))) (List.perm_middle (l₁ := ([(bp, intsB (mainL 1 cS (vOf (lstV k)) (bx, 0)) 3)] : List (Nat × Obj)))) ?_
          exact post_rq (sv, hv) (hI.skip (fun h3 => by have := (sph3 k hk).2 h3; have h1 := this.1; have h2 := this.2.1; have h4 := this.2.2; first | contradiction | (simp_all; done))) (.cons_cons _ (.cons _ (List.Sublist.refl _)))
    · refine tri_region (todo := [0, 1, 2, 3, 4, 5, 6, 7, 8, 9]) rfl ?_
      refine kL 2 (.agg #[sl b 0 1 1]) ?_
      refine kS 1 0 [(35, sl bv 0 10 10)] [34, 8, 7, 2] ?_
      refine kC en90 #[.agg #[sl b 0 1 1], sl bv 0 10 10] (.bool false) rfl (fun W hR => holds_no (hc.rep hR (by simp)) (atV_own (t := 3) hR (by simp) (lstV_len k)) (by decide) (by decide) glueS (by decide) h1) ?_ (by kernel_rfl)
      refine kSe 7 1118464 [(43, .bool true)] [8, 7, 2] ?_
      refine tri_cond_true rfl ?_
      refine tri_exit ?_
      refine post_then_exit ?_
      refine post_block_hit ?_
      exact post_rq (sv, hv) (hI.skip (fun h3 => by have := (sph3 k hk).2 h3; have h1 := this.1; have h2 := this.2.1; have h4 := this.2.2; first | contradiction | (simp_all; done))) (List.Sublist.refl _)
  · rintro ⟨sv, hv⟩ hI D1 L2 rc2
    refine post_perm (hs' := (D1, .deferred (some [])) :: (L2, .loop rc2) :: (b3, .cells #[sv] 49 (0, 0)) :: (b1, .cells #[sl b 0 1 1] 24 (0, 0)) :: (hv ++ ((bn, .cells #[ii 1] 3 (0, 0)) :: [(bm, .cells #[ii 1] 3 (0, 0))]))) (List.Perm.refl _) ?_
    refine post_block ?_
    refine post_then ?_
    refine wr [0, 1, 2] rfl ?_
    refine kL 2 (sv) ?_
    refine kSe 2 0 [(5, ii 0), (4, sv)] [] ?_
    refine tri_ret ?_
    refine post_outM ?_
    refine outM_mark 0 rfl ?_
    refine outM_ret2 (v := sv) (v' := ii 0) rfl (.tmp rfl) (.tmp rfl) (fun W hR => ?_)
    exact ⟨sv, hv, (by rcases hI with ⟨h, _⟩ | ⟨_, h⟩; exact absurd h (by decide); exact h), rfl, hR.forget (.cons _ (.cons _ (.cons _ (.cons _ (List.sublist_append_left _ _)))))⟩
  · exact fun c x h => h.elim
end Go.Proofs.YtlkbokbcfajhjaaGreat
