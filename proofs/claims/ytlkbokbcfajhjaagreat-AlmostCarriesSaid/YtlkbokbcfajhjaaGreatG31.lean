/- G31: sane -/
import Derived.Test.YtlkbokbcfajhjaaGreatG30
import Derived.Test.YtlkbokbcfajhjaaGreatB17
import Derived.Test.YtlkbokbcfajhjaaGreatD1
namespace Go.Proofs.YtlkbokbcfajhjaaGreat
open Go.Proofs.Walk
set_option maxRecDepth 100000
set_option linter.unusedVariables false
set_option linter.unusedSimpArgs false

theorem en34 : Walk.Enters Tryz.prog 34 := Walk.enters Tryz.func34 (by kernel_rfl) rfl
theorem en39 : Walk.Enters Tryz.prog 39 := Walk.enters Tryz.func39 (by kernel_rfl) rfl
theorem en7 : Walk.Enters Tryz.prog 7 := Walk.enters Tryz.func7 (by kernel_rfl) rfl
theorem sameInts_ {ba oa na ca bb ob cb : Nat} {a c : Nat → Int} {w : World} (ha : AtV w ba oa na a) (hb : AtV w bb ob na c) (hn : na ≤ 1000000000000) (hac : ∀ j, j < na → a j = c j) : Calls Tryz.prog 34 #[sl ba oa na ca, sl bb ob na cb] w fun e w' => e = .returned (.bool true) ∧ Ext w w' := by
  refine calls_of (n := 26) Tryz.func34 rfl Tryz.ntmps34 rfl ?_
  refine tri_eq (l' := [(0, sl ba oa na ca), (1, sl bb ob na cb)]) (hs' := []) rfl rfl ?_
  refine wr [0] rfl ?_
  refine kSe 1 0 [] [0, 1] ?_
  refine tri_seq ?_
  refine wr [0, 1, 2, 3, 4] rfl ?_
  refine kSe 5 327680 [(10, .bool (!decide (((na : Nat) : Int) = ((na : Nat) : Int))))] [0, 1] ?_
  refine tri_cond (b := !decide (((na : Nat) : Int) = ((na : Nat) : Int))) rfl (fun h1 => ?_) (fun h1 => ?_)
  · simp only [Bool.not_eq_true', decide_eq_false_iff_not] at h1
    refine wr [0] rfl ?_
    refine kSe 1 0 [(4, .bool false)] [] ?_
    refine tri_ret ?_
    refine post_then_ret ?_
    refine post_ret1 (v := .bool false) rfl (.tmp rfl) (fun W hR => ?_)
    first | exact ⟨rfl, hR.ext⟩ | exact absurd (hac i (by omega)) (by assumption) | omega | (exfalso; simp_all; done)
  · simp only [Bool.not_eq_false', decide_eq_true_eq] at h1
    refine tri_skip ?_
    refine post_then ?_
    refine tri_seq ?_
    refine wr [0] rfl ?_
    refine kSe 1 0 [(5, ii 0)] [0, 1] ?_
    refine tri_block ?_
    refine tri_loop (β := Nat) (fun xz => [(0, sl ba oa na ca), (1, sl bb ob na cb), (5, ii (xz : Int))]) (fun xz => []) (fun xz => xz ≤ na) (fun xz => na - xz) 0 (look_pickL (ks := [0, 1, 5]) (by kernel_rfl)) (List.Sublist.refl _) (Nat.zero_le _) ?_
    rintro i hC0
    try dsimp only at hC0
    refine tri_eq (l' := [(0, sl ba oa na ca), (1, sl bb ob na cb), (5, ii (i : Int))]) (hs' := []) rfl rfl ?_
    refine tri_seq ?_
    refine wr [0, 1, 2, 3] rfl ?_
    refine kSe 4 20480 [(14, .bool (decide ((i : Int) < ((na : Nat) : Int))))] [0, 1, 5] ?_
    refine tri_cond_dec (p := (i : Int) < ((na : Nat) : Int)) rfl (fun h2 => ?_) (fun h2 => ?_)
    · refine tri_skip ?_
      refine post_then ?_
      refine tri_seq ?_
      refine tri_block ?_
      refine tri_seq ?_
      refine kD 9 21625833728 [3, 7] [ii (a i), ii (c i)] [(25, .bool (!decide (a i = c i)))] [0, 1, 5] [(0 : Int) ≤ (i : Int), (i : Int) < ((na : Nat) : Int), (0 : Int) ≤ (i : Int), (i : Int) < ((na : Nat) : Int)] [] rfl (by refine ap ?_ (ap ?_ (ap ?_ (ap1 ?_))) <;> (first | omega | assumption)) (qA (qM ba (oa + i) [ii (a i)] (ha.one (by omega))) (qA (qM bb (ob + i) [ii (c i)] (hb.one (by omega))) qZ)) ?_ (by kernel_rfl)
      refine we ?_
      refine tri_cond (b := !decide (a i = c i)) rfl (fun h3 => ?_) (fun h3 => ?_)
      · simp only [Bool.not_eq_true', decide_eq_false_iff_not] at h3
        refine wr [0] rfl ?_
        refine kSe 1 0 [(4, .bool false)] [] ?_
        refine tri_ret ?_
        refine post_block_ret ?_
        refine post_then_ret ?_
        refine post_round_ret ?_
        refine post_block_ret ?_
        refine post_then_ret ?_
        refine post_ret1 (v := .bool false) rfl (.tmp rfl) (fun W hR => ?_)
        first | exact ⟨rfl, hR.ext⟩ | exact absurd (hac i (by omega)) (by assumption) | omega | (exfalso; simp_all; done)
      · simp only [Bool.not_eq_false', decide_eq_true_eq] at h3
        refine tri_skip ?_
        refine post_block ?_
        refine post_then ?_
        refine tri_region (todo := [0, 1, 2]) rfl ?_
        refine kO 3 32 [(5, ii ((i : Int) + 1))] [0, 1] [I64 ((i : Int) + 1)] (ap1 (by first | omega | assumption)) ?_
        refine opsT_end ?_
        refine post_round (i + 1) (by show i + 1 ≤ na; omega) (by show na - (i + 1) < na - i; omega) (look_pickL (ks := [0, 1, 5]) (by kernel_rfl)) (List.Sublist.refl _)
    · refine tri_exit ?_
      refine post_then_exit ?_
      refine post_round_exit ?_
      refine post_block_hit ?_
      refine post_then ?_
      refine wr [0] rfl ?_
      refine kSe 1 0 [(4, .bool true)] [] ?_
      refine tri_ret ?_
      refine post_ret1 (v := .bool true) rfl (.tmp rfl) (fun W hR => ?_)
      first | exact ⟨rfl, hR.ext⟩ | exact absurd (hac i (by omega)) (by assumption) | omega | (exfalso; simp_all; done)
theorem cells_one {W0 W : World} {M : List Nat} {hs : List (Nat × Obj)} {b : Nat} {t : TypeId} {x : Value} {us : List Value} (hR : Rep W0 M hs W) (hm : (b, vecB (x :: us) t) ∈ hs) : Cells W b 0 [x] := by
  intro i v hi
  rcases i with _ | i
  · rw [cell_own (hR.own b _ hm)]
    simp at hi ⊢
    exact hi
  · simp at hi
theorem sameLists_ {b1 c1 b2 c2 bc cc bd cd : Nat} {l : List Int} {w : World} (h1 : Cells w b1 0 [.slice (some ⟨bc, 0, none⟩) 10 cc]) (h2 : Cells w b2 0 [.slice (some ⟨bd, 0, none⟩) 10 cd]) (ha : AtV w bc 0 10 (vOf l)) (hb : AtV w bd 0 10 (vOf l)) : Calls Tryz.prog 39 #[sl b1 0 1 c1, sl b2 0 1 c2] w fun e w' => e = .returned (.bool true) ∧ Ext w w' := by
  refine calls_of (n := 27) Tryz.func39 rfl Tryz.ntmps39 rfl ?_
  refine tri_eq (l' := [(0, sl b1 0 1 c1), (1, sl b2 0 1 c2)]) (hs' := []) rfl rfl ?_
  refine wr [0] rfl ?_
  refine kSe 1 0 [] [0, 1] ?_
  refine tri_seq ?_
  refine wr [0, 1, 2, 3, 4] rfl ?_
  refine kSe 5 0 [(10, .bool false)] [0, 1] ?_
  refine tri_cond_false rfl ?_
  refine tri_skip ?_
  refine post_then ?_
  refine tri_seq ?_
  refine wr [0] rfl ?_
  refine kSe 1 0 [(5, ii 0)] [0, 1] ?_
  refine tri_block ?_
  refine tri_rounds 1 ?_
  refine tri_seq ?_
  refine wr [0, 1, 2, 3] rfl ?_
  refine kSe 4 0 [(14, .bool true)] [5, 0, 1] ?_
  refine tri_cond_true rfl ?_
  refine tri_skip ?_
  refine post_then ?_
  refine tri_seq ?_
  refine tri_block ?_
  refine tri_seq ?_
  refine kD 10 0 [3, 7, 8] [sl bc 0 10 cc, sl bd 0 10 cd, .bool true] [(26, .bool false)] [5, 0, 1] [] [] rfl trivial (qA (qM b1 0 [sl bc 0 10 cc] h1) (qA (qM b2 0 [sl bd 0 10 cd] h2) (qA (qC en34 #[sl bc 0 10 cc, sl bd 0 10 cd] rfl (fun W hR => sameInts_ (ha.rep hR (by simp)) (hb.rep hR (by simp)) (by decide) (fun _ _ => rfl)) (by kernel_rfl)) qZ))) ?_ (by kernel_rfl)
  refine we ?_
  refine tri_cond_false rfl ?_
  refine tri_skip ?_
  refine post_block ?_
  refine post_then ?_
  refine tri_region (todo := [0, 1, 2]) rfl ?_
  refine kS 3 0 [(5, ii 1)] [0, 1] ?_
  refine opsT_end ?_
  refine post_more ?_
  refine tri_seq ?_
  refine wr [0, 1, 2, 3] rfl ?_
  refine kSe 4 0 [(14, .bool false)] [5, 0, 1] ?_
  refine tri_cond_false rfl ?_
  refine tri_exit ?_
  refine post_then_exit ?_
  refine post_more_exit ?_
  refine post_block_hit ?_
  refine post_then ?_
  refine wr [0] rfl ?_
  refine kSe 1 0 [(4, .bool true)] [] ?_
  refine tri_ret ?_
  refine post_ret1 (v := .bool true) rfl (.tmp rfl) (fun W hR => ?_)
  exact ⟨rfl, hR.ext⟩
theorem sane_wts {b bv : Nat} {w : World} (hc : At w b 0 1 cS) (hv : AtV w bv 0 10 (vOf lA)) : Calls Tryz.prog 12 #[.agg #[.slice (some ⟨b, 0, none⟩) 1 1], .slice (some ⟨bv, 0, none⟩) 10 10] w fun e w' => ∃ p : Nat × Nat × List Value, True ∧ e = .returned (.tuple #[.slice (some ⟨p.1, 0, none⟩) 3 p.2.1, .int .i64 0]) ∧ Rep w [] [(p.1, vecB (([2, 1, 2] : List Int).map (Value.int .i64) ++ p.2.2) 3)] w' :=
  (Weights_ok hc hv (by decide) glueS (by decide) holA).mono fun e w' ⟨p, hV, he, hR⟩ => by
    rw [wtsA] at hV
    obtain ⟨bw, cw, sw, h1, _, _, h2⟩ := hV.pos (by decide)
    exact ⟨(bw, cw, sw), trivial, by rw [he, h1]; rfl, by rw [h2] at hR; exact hR⟩
theorem sane_eul {b bv : Nat} {w : World} (hc : At w b 0 1 cS) (hv : AtV w bv 0 10 (vOf lA)) : Calls Tryz.prog 13 #[.agg #[.slice (some ⟨b, 0, none⟩) 1 1], .slice (some ⟨bv, 0, none⟩) 10 10] w fun e w' => e = .returned (.tuple #[.int .i64 2, .int .i64 0]) ∧ Ext w w' :=
  (Euler_ok hc hv (by decide) glueS (by decide) holA).mono fun e w' ⟨he, hx⟩ => ⟨by rw [he, eulA], hx⟩
theorem sane_oct {b bv : Nat} {w : World} (hc : At w b 0 1 cS) (hv : AtV w bv 0 10 (vOf lA)) : Calls Tryz.prog 38 #[.agg #[.slice (some ⟨b, 0, none⟩) 1 1], .slice (some ⟨bv, 0, none⟩) 10 10] w fun e w' => e = .returned (.tuple #[.int .i64 0, .int .i64 0, .int .i64 0]) ∧ Ext w w' :=
  (Octagon_ok hc hv (by decide) glueS (by decide) holA).mono fun e w' ⟨x, hx, he, hE⟩ => ⟨by rw [he, octA hx]; rfl, hE⟩
theorem sane_prt {b bv : Nat} {w : World} (hc : At w b 0 1 cS) (hv : AtV w bv 0 10 (vOf lB)) : Calls Tryz.prog 18 #[.agg #[.slice (some ⟨b, 0, none⟩) 1 1], .slice (some ⟨bv, 0, none⟩) 10 10] w fun e w' => ∃ bp : Nat, True ∧ e = .returned (.tuple #[.int .i64 2, .slice (some ⟨bp, 0, none⟩) 10 10, .int .i64 0]) ∧ Rep w [] [(bp, intsB lA 3)] w' :=
  (Parts_ok hc hv (by decide) glueS (by decide) holB pcsB).mono fun e w' ⟨p, hp, he, hR⟩ => ⟨p.2, trivial, by rw [he, prtB]; rfl, by rw [octB hp, mainB] at hR; exact hR⟩
theorem sane_chk {b bv : Nat} {w : World} (hc : At w b 0 1 cS) (hv : AtV w bv 0 10 (vOf lC)) : Calls Tryz.prog 9 #[.agg #[.slice (some ⟨b, 0, none⟩) 1 1], .slice (some ⟨bv, 0, none⟩) 10 10] w fun e w' => e = .returned (.int .i64 200) ∧ Ext w w' :=
  (check9 hc hv (by decide) (by decide) (by decide)).mono fun e w' ⟨r, hr, he, hx⟩ => ⟨by
    rcases hr with ⟨_, h⟩ | ⟨_, _, h⟩ | ⟨h, _⟩ | ⟨_, _, _, h⟩
    · exact absurd glueS h
    · omega
    · rw [he, h]
    · exact absurd h holC, hx⟩
theorem equal_yes {ba oa na ca bb ob cb : Nat} {a c : Nat → Int} {w : World} (ha : AtV w ba oa na a) (hb : AtV w bb ob na c) (hn : na ≤ 1000000000000) (h : ∀ j, j < na → a j = c j) : Calls Tryz.prog 16 #[.slice (some ⟨ba, oa, none⟩) na ca, .slice (some ⟨bb, ob, none⟩) na cb] w fun e w' => e = .returned (.bool true) ∧ Ext w w' :=
  (equal_ ha hb hn).mono fun e w' ⟨he, hx⟩ => ⟨by rw [he, decide_eq_true (⟨rfl, h⟩ : na = na ∧ ∀ j, j < na → a j = c j)], hx⟩

theorem sane_ (w : World) : Calls Tryz.prog 7 #[] w fun e w' => e = .returned (.bool true) ∧ Ext w w' := by
  refine calls_of (n := 104) Tryz.func7 rfl Tryz.ntmps7 rfl ?_
  refine tri_eq (l' := []) (hs' := []) rfl rfl ?_
  refine wr [0] rfl ?_
  refine kSn 1 0 [] [] [0, 1, 2] ?_
  refine opsT_callR (f := 36) (args := #[]) [] ([]) (fun p : Nat => .agg #[.slice (some ⟨p, 0, none⟩) 1 1]) (fun p => [(p, vecB rowS 76)]) (fun _ => True) rfl rfl rfl rfl rfl (run_call en36 rfl rfl rfl (by kernel_rfl)) (List.Perm.refl _) (fun W hR => S_ W) (fun bS _ => ?_)
  refine opsT_heq (hs' := [(bS, vecB rowS 76)]) rfl ?_
  refine kA (.agg #[.slice none 0 0]) fun b1 => ?_
  refine kW 0 #[sl bS 0 1 1] ?_
  refine kP [1] ?_
  refine wn [0, 1] rfl ?_
  refine opsT_buildSlice (e := 3) (size := 1) (z := ii 0) [ii 0, ii 0, ii 0, ii 0, ii 0, ii 0, ii 0, ii 1, ii 0, ii 0] rfl rfl rfl rfl rfl rfl (by kernel_rfl) (by kernel_rfl) (by kernel_rfl) (by kernel_rfl) (fun b2 => ?_)
  refine opsT_heq (hs' := [(b2, .cells #[ii 0, ii 0, ii 0, ii 0, ii 0, ii 0, ii 0, ii 1, ii 0, ii 0] 3 (0, 0)), (b1, .cells #[sl bS 0 1 1] 24 (0, 0)), (bS, vecB rowS 76)]) rfl ?_
  refine opsT_heq (hs' := [(b2, intsB lA 3), (b1, .cells #[sl bS 0 1 1] 24 (0, 0)), (bS, vecB rowS 76)]) rfl ?_
  refine kSn 1 0 [(2, sl b2 0 10 10)] [1] [0, 1, 2, 3, 4, 5, 6, 7] ?_
  refine kL 1 (.agg #[sl bS 0 1 1]) ?_
  refine kS 1 0 [(19, sl b2 0 10 10)] [18, 2, 1] ?_
  refine opsT_callR (f := 12) (args := #[.agg #[sl bS 0 1 1], sl b2 0 10 10]) [] ([(b2, intsB lA 3), (b1, .cells #[sl bS 0 1 1] 24 (0, 0)), (bS, vecB rowS 76)]) (fun p : Nat × Nat × List Value => .tuple #[.slice (some ⟨p.1, 0, none⟩) 3 p.2.1, .int .i64 0]) (fun p => [(p.1, vecB (([2, 1, 2] : List Int).map (Value.int .i64) ++ p.2.2) 3)]) (fun _ => True) rfl rfl rfl rfl rfl (run_call en12 rfl rfl rfl (by kernel_rfl)) (List.Perm.refl _) (fun W hR => sane_wts (at_S hR (by simp)) (atV_own (t := 3) hR (by simp) rfl)) (fun ⟨bw, cw, sw⟩ _ => ?_)
  refine opsT_heq (hs' := [(bw, vecB (([2, 1, 2] : List Int).map (Value.int .i64) ++ sw) 3), (b2, intsB lA 3), (b1, .cells #[sl bS 0 1 1] 24 (0, 0)), (bS, vecB rowS 76)]) rfl ?_
  refine kSn 5 0 [(4, ii 0), (3, sl bw 0 3 cw)] [2, 1] [0, 1, 2, 3, 4, 5, 6, 7] ?_
  refine kL 2 (.agg #[sl bS 0 1 1]) ?_
  refine kS 1 0 [(25, sl b2 0 10 10)] [24, 4, 3, 2, 1] ?_
  refine kC en13 #[.agg #[sl bS 0 1 1], sl b2 0 10 10] (.tuple #[ii 2, ii 0]) rfl (fun W hR => sane_eul (at_S hR (by simp)) (atV_own (t := 3) hR (by simp) rfl)) ?_ (by kernel_rfl)
  refine kSn 5 0 [(6, ii 0), (5, ii 2)] [4, 3, 2, 1] [0, 1, 2, 3, 4, 5, 6, 7, 8, 9] ?_
  refine kL 2 (.agg #[sl bS 0 1 1]) ?_
  refine opsT_buildSlice (e := 3) (size := 1) (z := ii 0) [ii 1, ii 1, ii 0, ii 0, ii 0, ii 0, ii 0, ii 1, ii 0, ii 0] rfl rfl rfl rfl rfl rfl (by kernel_rfl) (by kernel_rfl) (by kernel_rfl) (by kernel_rfl) (fun b3 => ?_)
  refine opsT_heq (hs' := [(b3, .cells #[ii 1, ii 1, ii 0, ii 0, ii 0, ii 0, ii 0, ii 1, ii 0, ii 0] 3 (0, 0)), (bw, vecB (([2, 1, 2] : List Int).map (Value.int .i64) ++ sw) 3), (b2, intsB lA 3), (b1, .cells #[sl bS 0 1 1] 24 (0, 0)), (bS, vecB rowS 76)]) rfl ?_
  refine opsT_heq (hs' := [(b3, intsB lB 3), (bw, vecB (([2, 1, 2] : List Int).map (Value.int .i64) ++ sw) 3), (b2, intsB lA 3), (b1, .cells #[sl bS 0 1 1] 24 (0, 0)), (bS, vecB rowS 76)]) rfl ?_
  refine opsT_callR (f := 18) (args := #[.agg #[sl bS 0 1 1], sl b3 0 10 10]) [] ([(b3, intsB lB 3), (bw, vecB (([2, 1, 2] : List Int).map (Value.int .i64) ++ sw) 3), (b2, intsB lA 3), (b1, .cells #[sl bS 0 1 1] 24 (0, 0)), (bS, vecB rowS 76)]) (fun p : Nat => .tuple #[.int .i64 2, .slice (some ⟨p, 0, none⟩) 10 10, .int .i64 0]) (fun p => [(p, intsB lA 3)]) (fun _ => True) rfl rfl rfl rfl rfl (run_call en18 rfl rfl rfl (by kernel_rfl)) (List.Perm.refl _) (fun W hR => sane_prt (at_S hR (by simp)) (atV_own (t := 3) hR (by simp) rfl)) (fun bp _ => ?_)
  refine opsT_heq (hs' := [(bp, intsB lA 3), (b3, intsB lB 3), (bw, vecB (([2, 1, 2] : List Int).map (Value.int .i64) ++ sw) 3), (b2, intsB lA 3), (b1, .cells #[sl bS 0 1 1] 24 (0, 0)), (bS, vecB rowS 76)]) rfl ?_
  refine kSn 7 0 [(9, ii 0), (8, sl bp 0 10 10), (7, ii 2)] [6, 5, 4, 3, 2, 1] [0, 1, 2, 3, 4, 5, 6] ?_
  refine kL 4 (.agg #[sl bS 0 1 1]) ?_
  refine opsT_callR (f := 37) (args := #[.agg #[sl bS 0 1 1], ii 1]) [] ([(bp, intsB lA 3), (b3, intsB lB 3), (bw, vecB (([2, 1, 2] : List Int).map (Value.int .i64) ++ sw) 3), (b2, intsB lA 3), (b1, .cells #[sl bS 0 1 1] 24 (0, 0)), (bS, vecB rowS 76)]) (fun p : Value × List (Nat × Obj) => .tuple #[p.1, .int .i64 0]) (fun p => p.2) (fun p => ResS p.1 p.2) rfl rfl rfl rfl rfl (run_call en37 rfl rfl rfl (by kernel_rfl)) (List.Perm.refl _) (fun W hR => (Spheres_ (at_S hR (by simp))).mono fun e w' ⟨sv, hv, h1, h2, h3⟩ => ⟨(sv, hv), h1, h2, h3⟩) (fun p hp => ?_)
  obtain ⟨sv, hv⟩ := p
  obtain ⟨bo, co, so, bc, cc, sc, h1, h2⟩ := hp
  dsimp only at h1 h2
  subst h1 h2
  refine opsT_heq (hs' := [(bo, vecB (.slice (some ⟨bc, 0, none⟩) 10 cc :: so) 25), (bc, vecB (lA.map (Value.int .i64) ++ sc) 3), (bp, intsB lA 3), (b3, intsB lB 3), (bw, vecB (([2, 1, 2] : List Int).map (Value.int .i64) ++ sw) 3), (b2, intsB lA 3), (b1, .cells #[sl bS 0 1 1] 24 (0, 0)), (bS, vecB rowS 76)]) rfl ?_
  refine kSn 5 0 [(11, ii 0), (10, sl bo 0 1 co)] [9, 8, 7, 6, 5, 4, 3, 2, 1] [0, 1, 2, 3, 4, 5, 6, 7, 8, 9] ?_
  refine kL 6 (.agg #[sl bS 0 1 1]) ?_
  refine kS 1 0 [(43, sl b2 0 10 10)] [42, 11, 10, 9, 8, 7, 6, 5, 4, 3, 2, 1] ?_
  refine kC en38 #[.agg #[sl bS 0 1 1], sl b2 0 10 10] (.tuple #[ii 0, ii 0, ii 0]) rfl (fun W hR => sane_oct (at_S hR (by simp)) (atV_own (t := 3) hR (by simp) rfl)) ?_ (by kernel_rfl)
  refine kSn 7 0 [(14, ii 0), (13, ii 0), (12, ii 0)] [11, 10, 9, 8, 7, 6, 5, 4, 3, 2, 1] [0, 1, 2, 3, 4, 5, 6, 7, 8, 9, 10, 11, 12, 13, 14, 15, 16, 17, 18, 19, 20, 21, 22, 23, 24, 25, 26, 27, 28, 29, 30, 31, 32, 33, 34, 35, 36, 37, 38, 39, 40, 41, 42, 43, 44, 45, 46, 47, 48, 49, 50, 51, 52, 53, 54, 55, 56] ?_
  refine kS 20 0 [(67, sl bw 0 3 cw), (66, .bool true)] [13, 12, 10, 8, 7, 5, 2, 1] ?_
  refine opsT_buildSlice (e := 3) (size := 1) (z := ii 0) [ii 2, ii 1, ii 2] rfl rfl rfl rfl rfl rfl (by kernel_rfl) (by kernel_rfl) (by kernel_rfl) (by kernel_rfl) (fun b4 => ?_)
  refine opsT_heq (hs' := [(b4, .cells #[ii 2, ii 1, ii 2] 3 (0, 0)), (bo, vecB (.slice (some ⟨bc, 0, none⟩) 10 cc :: so) 25), (bc, vecB (lA.map (Value.int .i64) ++ sc) 3), (bp, intsB lA 3), (b3, intsB lB 3), (bw, vecB (([2, 1, 2] : List Int).map (Value.int .i64) ++ sw) 3), (b2, intsB lA 3), (b1, .cells #[sl bS 0 1 1] 24 (0, 0)), (bS, vecB rowS 76)]) rfl ?_
  refine opsT_heq (hs' := [(b4, intsB [2, 1, 2] 3), (bo, vecB (.slice (some ⟨bc, 0, none⟩) 10 cc :: so) 25), (bc, vecB (lA.map (Value.int .i64) ++ sc) 3), (bp, intsB lA 3), (b3, intsB lB 3), (bw, vecB (([2, 1, 2] : List Int).map (Value.int .i64) ++ sw) 3), (b2, intsB lA 3), (b1, .cells #[sl bS 0 1 1] 24 (0, 0)), (bS, vecB rowS 76)]) rfl ?_
  refine kC en16 #[sl bw 0 3 cw, sl b4 0 3 3] (.bool true) rfl (fun W hR => equal_yes (a := vOf [2, 1, 2]) (c := vOf [2, 1, 2]) (atV_room (t := 3) (sp := sw) hR (by simp) rfl) (atV_own (l := [2, 1, 2]) (t := 3) hR (by simp [intsB]) rfl) (by decide) (fun _ _ => rfl)) ?_ (by kernel_rfl)
  refine kS 12 0 [(81, sl b2 0 10 10), (80, sl bp 0 10 10), (79, .bool true)] [13, 12, 10, 2, 1] ?_
  refine kC en16 #[sl bp 0 10 10, sl b2 0 10 10] (.bool true) rfl (fun W hR => equal_yes (a := vOf lA) (c := vOf lA) (atV_own (l := lA) (t := 3) hR (by simp) rfl) (atV_own (l := lA) (t := 3) hR (by simp) rfl) (by decide) (fun _ _ => rfl)) ?_ (by kernel_rfl)
  refine kS 4 0 [(86, sl b2 0 10 10), (85, sl bo 0 1 co), (84, .bool true)] [13, 12, 1] ?_
  refine opsT_buildSlice (e := 25) (size := 1) (z := .slice none 0 0) [sl b2 0 10 10] rfl rfl rfl rfl rfl rfl (by kernel_rfl) (by kernel_rfl) (by kernel_rfl) (by kernel_rfl) (fun b5 => ?_)
  refine opsT_heq (hs' := [(b5, .cells #[sl b2 0 10 10] 25 (0, 0)), (b4, intsB [2, 1, 2] 3), (bo, vecB (.slice (some ⟨bc, 0, none⟩) 10 cc :: so) 25), (bc, vecB (lA.map (Value.int .i64) ++ sc) 3), (bp, intsB lA 3), (b3, intsB lB 3), (bw, vecB (([2, 1, 2] : List Int).map (Value.int .i64) ++ sw) 3), (b2, intsB lA 3), (b1, .cells #[sl bS 0 1 1] 24 (0, 0)), (bS, vecB rowS 76)]) rfl ?_
  refine kC en39 #[sl bo 0 1 co, sl b5 0 1 1] (.bool true) rfl (fun W hR => sameLists_ (l := lA) (cells_one (x := .slice (some ⟨bc, 0, none⟩) 10 cc) (us := so) (t := 25) hR (List.mem_of_getElem? (i := 2) rfl)) (cells_one (x := sl b2 0 10 10) (us := []) (t := 25) hR (List.mem_of_getElem? (i := 0) rfl)) (atV_room (l := lA) (t := 3) (sp := sc) hR (List.mem_of_getElem? (i := 3) rfl) rfl) (atV_own (l := lA) (t := 3) hR (List.mem_of_getElem? (i := 7) rfl) rfl)) ?_ (by kernel_rfl)
  refine kS 10 0 [(98, .bool true)] [1] ?_
  refine kL 8 (.agg #[sl bS 0 1 1]) ?_
  refine opsT_buildSlice (e := 3) (size := 1) (z := ii 0) [ii 0, ii 0, ii 0, ii 0, ii 0, ii 0, ii 0, ii 0, ii 1, ii 0] rfl rfl rfl rfl rfl rfl (by kernel_rfl) (by kernel_rfl) (by kernel_rfl) (by kernel_rfl) (fun b6 => ?_)
  refine opsT_heq (hs' := [(b6, .cells #[ii 0, ii 0, ii 0, ii 0, ii 0, ii 0, ii 0, ii 0, ii 1, ii 0] 3 (0, 0)), (b5, .cells #[sl b2 0 10 10] 25 (0, 0)), (b4, intsB [2, 1, 2] 3), (bo, vecB (.slice (some ⟨bc, 0, none⟩) 10 cc :: so) 25), (bc, vecB (lA.map (Value.int .i64) ++ sc) 3), (bp, intsB lA 3), (b3, intsB lB 3), (bw, vecB (([2, 1, 2] : List Int).map (Value.int .i64) ++ sw) 3), (b2, intsB lA 3), (b1, .cells #[sl bS 0 1 1] 24 (0, 0)), (bS, vecB rowS 76)]) rfl ?_
  refine opsT_heq (hs' := [(b6, intsB lC 3), (b5, .cells #[sl b2 0 10 10] 25 (0, 0)), (b4, intsB [2, 1, 2] 3), (bo, vecB (.slice (some ⟨bc, 0, none⟩) 10 cc :: so) 25), (bc, vecB (lA.map (Value.int .i64) ++ sc) 3), (bp, intsB lA 3), (b3, intsB lB 3), (bw, vecB (([2, 1, 2] : List Int).map (Value.int .i64) ++ sw) 3), (b2, intsB lA 3), (b1, .cells #[sl bS 0 1 1] 24 (0, 0)), (bS, vecB rowS 76)]) rfl ?_
  refine kC en9 #[.agg #[sl bS 0 1 1], sl b6 0 10 10] (ii 200) rfl (fun W hR => sane_chk (at_S hR (by simp)) (atV_own (t := 3) hR (by simp) rfl)) ?_ (by kernel_rfl)
  refine kSe 3 0 [(0, .bool true)] [] ?_
  refine tri_ret ?_
  refine post_ret1 (v := .bool true) rfl (.tmp rfl) (fun W hR => ?_)
  exact ⟨rfl, hR.ext⟩
end Go.Proofs.YtlkbokbcfajhjaaGreat
