/- G7: arcs, edges, terms, weights -/
import Derived.Test.YtlkbokbcfajhjaaGreatRows
import Derived.Test.YtlkbokbcfajhjaaGreatB8
import Derived.Test.YtlkbokbcfajhjaaGreatB17
import Derived.Test.YtlkbokbcfajhjaaGreatD1
namespace Go.Proofs.YtlkbokbcfajhjaaGreat
open Go.Proofs.Walk
set_option maxRecDepth 100000
set_option linter.unusedVariables false
set_option linter.unusedSimpArgs false

theorem en168 : Walk.Enters Tryz.prog 168 := Walk.enters Tryz.func168 (by kernel_rfl) rfl
theorem en169 : Walk.Enters Tryz.prog 169 := Walk.enters Tryz.func169 (by kernel_rfl) rfl
theorem en98 : Walk.Enters Tryz.prog 98 := Walk.enters Tryz.func98 (by kernel_rfl) rfl
theorem en170 : Walk.Enters Tryz.prog 170 := Walk.enters Tryz.func170 (by kernel_rfl) rfl
theorem en101 : Walk.Enters Tryz.prog 101 := Walk.enters Tryz.func101 (by kernel_rfl) rfl
theorem en177 : Walk.Enters Tryz.prog 177 := Walk.enters Tryz.func177 (by kernel_rfl) rfl
theorem en165 : Walk.Enters Tryz.prog 165 := Walk.enters Tryz.func165 (by kernel_rfl) rfl
theorem en100 : Walk.Enters Tryz.prog 100 := Walk.enters Tryz.func100 (by kernel_rfl) rfl
/-- The coordinates in the heap. -/
def AtV (W : World) (b off n : Nat) (v : Nat → Int) : Prop := ∀ i, i < n → W.cell? ⟨b, off + i, none⟩ = some (.int .i64 (v i))
theorem AtV.ext {w w' : World} (h : Ext w w') {b off n : Nat} {v : Nat → Int} (hc : AtV w b off n v) : AtV w' b off n v := fun i hi => h.cell (hc i hi)
theorem AtV.one {W : World} {b off n : Nat} {v : Nat → Int} (hc : AtV W b off n v) {i : Nat} (hi : i < n) : Cells W b (off + i) [.int .i64 (v i)] := fun j u hj => by
  rcases j with _ | j
  · simp at hj; subst hj; exact hc i hi
  · simp at hj
theorem AtV.rep {W0 : World} {M : List Nat} {hs : List (Nat × Obj)} {W : World} (hR : Rep W0 M hs W) {b off n : Nat} {v : Nat → Int} (hb : b ∉ M) (hc : AtV W0 b off n v) : AtV W b off n v := fun i hi =>
  Cells.base hR hb (hc.one hi) 0 _ rfl
theorem ty_el {i f : Nat} (hi : i < 4) (hf : f < 4) (h : i ≠ f) : ([[-1, 0, 1, 2, 0, -1, 2, 1, 1, 2, -1, 0, 2, 1, 0, -1].getD (i * 4 + 0) 0, [-1, 0, 1, 2, 0, -1, 2, 1, 1, 2, -1, 0, 2, 1, 0, -1].getD (i * 4 + 1) 0, [-1, 0, 1, 2, 0, -1, 2, 1, 1, 2, -1, 0, 2, 1, 0, -1].getD (i * 4 + 2) 0, [-1, 0, 1, 2, 0, -1, 2, 1, 1, 2, -1, 0, 2, 1, 0, -1].getD (i * 4 + 3) 0] : List Int).getD f 0 = ((tyN i f : Nat) : Int) := by
  have h1 : i = 0 ∨ i = 1 ∨ i = 2 ∨ i = 3 := by omega
  have h2 : f = 0 ∨ f = 1 ∨ f = 2 ∨ f = 3 := by omega
  rcases h1 with rfl | rfl | rfl | rfl <;> rcases h2 with rfl | rfl | rfl | rfl <;> first | exact absurd rfl h | rfl
theorem sd_el {e k : Nat} (he : e < 6) (hk : k < 2) : ([0, 1, 0, 2, 0, 3, 1, 2, 1, 3, 2, 3] : List Int).getD (e * 2 + k) 0 = ((sdN e k : Nat) : Int) := by
  have h1 : e = 0 ∨ e = 1 ∨ e = 2 ∨ e = 3 ∨ e = 4 ∨ e = 5 := by omega
  have h2 : k = 0 ∨ k = 1 := by omega
  rcases h1 with rfl | rfl | rfl | rfl | rfl | rfl <;> rcases h2 with rfl | rfl <;> rfl
theorem sdN_facts {e : Nat} (he : e < 6) : sdN e 0 < 4 ∧ sdN e 1 < 4 ∧ sdN e 0 ≠ sdN e 1 := by
  have h1 : e = 0 ∨ e = 1 ∨ e = 2 ∨ e = 3 ∨ e = 4 ∨ e = 5 := by omega
  rcases h1 with rfl | rfl | rfl | rfl | rfl | rfl <;> decide

theorem types_ (w : World) : Calls Tryz.prog 169 #[] w fun e w' => e = .returned (.agg #[ii (-1), ii 0, ii 1, ii 2, ii 0, ii (-1), ii 2, ii 1, ii 1, ii 2, ii (-1), ii 0, ii 2, ii 1, ii 0, ii (-1)]) ∧ Ext w w' := by
  refine calls_of (n := 6) Tryz.func169 rfl Tryz.ntmps169 rfl ?_
  refine tri_eq (l' := []) (hs' := []) rfl rfl ?_
  refine wr [0] rfl ?_
  refine kA (.agg #[ii 0, ii 0, ii 0, ii 0, ii 0, ii 0, ii 0, ii 0, ii 0, ii 0, ii 0, ii 0, ii 0, ii 0, ii 0, ii 0]) fun b1 => ?_
  refine wn [0, 1, 2, 3, 4, 5] rfl ?_
  refine kS 5 0 [(5, .agg #[ii (-1), ii 0, ii 1, ii 2, ii 0, ii (-1), ii 2, ii 1, ii 1, ii 2, ii (-1), ii 0, ii 2, ii 1, ii 0, ii (-1)])] [0] ?_
  refine kW 0 #[ii (-1), ii 0, ii 1, ii 2, ii 0, ii (-1), ii 2, ii 1, ii 1, ii 2, ii (-1), ii 0, ii 2, ii 1, ii 0, ii (-1)] ?_
  refine kPe [0] ?_
  refine tri_ret ?_
  refine post_ret1 (v := .agg #[ii (-1), ii 0, ii 1, ii 2, ii 0, ii (-1), ii 2, ii 1, ii 1, ii 2, ii (-1), ii 0, ii 2, ii 1, ii 0, ii (-1)]) rfl (.cell 0 b1 0 16 #[ii (-1), ii 0, ii 1, ii 2, ii 0, ii (-1), ii 2, ii 1, ii 1, ii 2, ii (-1), ii 0, ii 2, ii 1, ii 0, ii (-1)] 190 (0, 0) rfl rfl (by kernel_rfl)) (fun W hR => ?_)
  exact ⟨rfl, hR.ext⟩
theorem sides_ (w : World) : Calls Tryz.prog 168 #[] w fun e w' => e = .returned (.agg #[ii 0, ii 1, ii 0, ii 2, ii 0, ii 3, ii 1, ii 2, ii 1, ii 3, ii 2, ii 3]) ∧ Ext w w' := by
  refine calls_of (n := 8) Tryz.func168 rfl Tryz.ntmps168 rfl ?_
  refine tri_eq (l' := []) (hs' := []) rfl rfl ?_
  refine wr [0] rfl ?_
  refine kA (.agg #[ii 0, ii 0, ii 0, ii 0, ii 0, ii 0, ii 0, ii 0, ii 0, ii 0, ii 0, ii 0]) fun b1 => ?_
  refine wn [0, 1, 2, 3, 4, 5, 6, 7] rfl ?_
  refine kS 7 0 [(7, .agg #[ii 0, ii 1, ii 0, ii 2, ii 0, ii 3, ii 1, ii 2, ii 1, ii 3, ii 2, ii 3])] [0] ?_
  refine kW 0 #[ii 0, ii 1, ii 0, ii 2, ii 0, ii 3, ii 1, ii 2, ii 1, ii 3, ii 2, ii 3] ?_
  refine kPe [0] ?_
  refine tri_ret ?_
  refine post_ret1 (v := .agg #[ii 0, ii 1, ii 0, ii 2, ii 0, ii 3, ii 1, ii 2, ii 1, ii 3, ii 2, ii 3]) rfl (.cell 0 b1 0 12 #[ii 0, ii 1, ii 0, ii 2, ii 0, ii 3, ii 1, ii 2, ii 1, ii 3, ii 2, ii 3] 232 (0, 0) rfl rfl (by kernel_rfl)) (fun W hR => ?_)
  exact ⟨rfl, hR.ext⟩
theorem terms_ {t f i : Nat} (ht : t ≤ 1000000) (hf : f < 4) (hi : i < 4) (hne : i ≠ f) (w : World) : Calls Tryz.prog 170 #[ii (t : Int), ii (f : Int), ii (i : Int)] w fun e w' => e = .returned (.agg #[ii (10 * (t : Int) + (i : Int)), ii (10 * (t : Int) + 4 + ((tyN i f : Nat) : Int)), ii (10 * (t : Int) + 7 + (((tyN i f : Nat) : Int) + 1) % 3), ii (10 * (t : Int) + 7 + (((tyN i f : Nat) : Int) + 2) % 3)]) ∧ Ext w w' := by
  have h3 := tyN_lt i f
  refine calls_of (n := 37) Tryz.func170 rfl Tryz.ntmps170 rfl ?_
  refine tri_eq (l' := [(0, ii (t : Int)), (1, ii (f : Int)), (2, ii (i : Int))]) (hs' := []) rfl rfl ?_
  refine wr [0] rfl ?_
  refine kA (.agg #[ii 0, ii 0, ii 0, ii 0]) fun b1 => ?_
  refine wn [0, 1, 2, 3, 4, 5] rfl ?_
  refine kC en169 #[] (.agg #[ii (-1), ii 0, ii 1, ii 2, ii 0, ii (-1), ii 2, ii 1, ii 1, ii 2, ii (-1), ii 0, ii 2, ii 1, ii 0, ii (-1)]) rfl (fun W hR => types_ W) ?_ (by kernel_rfl)
  refine kO 2 176 [(10, .agg #[ii ([-1, 0, 1, 2, 0, -1, 2, 1, 1, 2, -1, 0, 2, 1, 0, -1].getD (i * 4 + 0) 0), ii ([-1, 0, 1, 2, 0, -1, 2, 1, 1, 2, -1, 0, 2, 1, 0, -1].getD (i * 4 + 1) 0), ii ([-1, 0, 1, 2, 0, -1, 2, 1, 1, 2, -1, 0, 2, 1, 0, -1].getD (i * 4 + 2) 0), ii ([-1, 0, 1, 2, 0, -1, 2, 1, 1, 2, -1, 0, 2, 1, 0, -1].getD (i * 4 + 3) 0)])] [6, 0, 1, 2] [(0 : Int) ≤ (i : Int), (i : Int) < ((4 : Nat) : Int)] (by refine ap ?_ (ap1 ?_) <;> (omega)) ?_
  refine kO 3 160 [(7, ii ([[-1, 0, 1, 2, 0, -1, 2, 1, 1, 2, -1, 0, 2, 1, 0, -1].getD (i * 4 + 0) 0, [-1, 0, 1, 2, 0, -1, 2, 1, 1, 2, -1, 0, 2, 1, 0, -1].getD (i * 4 + 1) 0, [-1, 0, 1, 2, 0, -1, 2, 1, 1, 2, -1, 0, 2, 1, 0, -1].getD (i * 4 + 2) 0, [-1, 0, 1, 2, 0, -1, 2, 1, 1, 2, -1, 0, 2, 1, 0, -1].getD (i * 4 + 3) 0].getD f 0))] [6, 0, 2] [(0 : Int) ≤ (f : Int), (f : Int) < ((4 : Nat) : Int)] (by refine ap ?_ (ap1 ?_) <;> (omega)) ?_
  rw [show [[-1, 0, 1, 2, 0, -1, 2, 1, 1, 2, -1, 0, 2, 1, 0, -1].getD (i * 4 + 0) 0, [-1, 0, 1, 2, 0, -1, 2, 1, 1, 2, -1, 0, 2, 1, 0, -1].getD (i * 4 + 1) 0, [-1, 0, 1, 2, 0, -1, 2, 1, 1, 2, -1, 0, 2, 1, 0, -1].getD (i * 4 + 2) 0, [-1, 0, 1, 2, 0, -1, 2, 1, 1, 2, -1, 0, 2, 1, 0, -1].getD (i * 4 + 3) 0].getD f 0 = ((tyN i f : Nat) : Int) from ty_el hi hf hne]
  refine wn [0, 1, 2, 3, 4, 5, 6, 7, 8, 9, 10, 11, 12, 13, 14, 15, 16, 17, 18, 19, 20, 21, 22, 23, 24] rfl ?_
  refine kO 24 0x24202202420220202202020 [(36, .agg #[ii ((10 * (t : Int)) + (i : Int)), ii (((10 * (t : Int)) + 4) + ((tyN i f : Nat) : Int)), ii (((10 * (t : Int)) + 7) + ((((tyN i f : Nat) : Int) + 1) % 3)), ii (((10 * (t : Int)) + 7) + ((((tyN i f : Nat) : Int) + 2) % 3))])] [6] [I64 (10 * (t : Int)), I64 ((10 * (t : Int)) + (i : Int)), I64 (10 * (t : Int)), I64 ((10 * (t : Int)) + 4), I64 (((10 * (t : Int)) + 4) + ((tyN i f : Nat) : Int)), I64 (10 * (t : Int)), I64 ((10 * (t : Int)) + 7), I64 (((tyN i f : Nat) : Int) + 1), (0 : Int) ≤ ((tyN i f : Nat) : Int) + 1, (0 : Int) < 3, I64 (((10 * (t : Int)) + 7) + ((((tyN i f : Nat) : Int) + 1) % 3)), I64 (10 * (t : Int)), I64 ((10 * (t : Int)) + 7), I64 (((tyN i f : Nat) : Int) + 2), (0 : Int) ≤ ((tyN i f : Nat) : Int) + 2, (0 : Int) < 3, I64 (((10 * (t : Int)) + 7) + ((((tyN i f : Nat) : Int) + 2) % 3))] (by refine ap ?_ (ap ?_ (ap ?_ (ap ?_ (ap ?_ (ap ?_ (ap ?_ (ap ?_ (ap ?_ (ap ?_ (ap ?_ (ap ?_ (ap ?_ (ap ?_ (ap ?_ (ap ?_ (ap1 ?_)))))))))))))))) <;> (omega)) ?_
  refine kW 0 #[ii ((10 * (t : Int)) + (i : Int)), ii (((10 * (t : Int)) + 4) + ((tyN i f : Nat) : Int)), ii (((10 * (t : Int)) + 7) + ((((tyN i f : Nat) : Int) + 1) % 3)), ii (((10 * (t : Int)) + 7) + ((((tyN i f : Nat) : Int) + 2) % 3))] ?_
  refine kPe [6] ?_
  refine tri_ret ?_
  refine post_ret1 (v := .agg #[ii ((10 * (t : Int)) + (i : Int)), ii (((10 * (t : Int)) + 4) + ((tyN i f : Nat) : Int)), ii (((10 * (t : Int)) + 7) + ((((tyN i f : Nat) : Int) + 1) % 3)), ii (((10 * (t : Int)) + 7) + ((((tyN i f : Nat) : Int) + 2) % 3))]) rfl (.cell 0 b1 0 4 #[ii ((10 * (t : Int)) + (i : Int)), ii (((10 * (t : Int)) + 4) + ((tyN i f : Nat) : Int)), ii (((10 * (t : Int)) + 7) + ((((tyN i f : Nat) : Int) + 1) % 3)), ii (((10 * (t : Int)) + 7) + ((((tyN i f : Nat) : Int) + 2) % 3))] 71 (0, 0) rfl rfl (by kernel_rfl)) (fun W hR => ?_)
  exact ⟨rfl, hR.ext⟩
theorem edgeNat_ {i j : Nat} (hi : i < 4) (hj : j < 4) (hne : i ≠ j) (w : World) : Calls Tryz.prog 98 #[ii (i : Int), ii (j : Int)] w fun e w' => e = .returned (.int .i64 ((edgeN i j : Nat) : Int)) ∧ Ext w w' := by
  refine calls_of (n := 26) Tryz.func98 rfl Tryz.ntmps98 rfl ?_
  refine tri_eq (l' := [(0, ii (i : Int)), (1, ii (j : Int))]) (hs' := []) rfl rfl ?_
  refine wr [0] rfl ?_
  refine kSe 1 0 [] [0, 1] ?_
  refine tri_seq ?_
  refine wr [0, 1] rfl ?_
  refine kC en168 #[] (.agg #[ii 0, ii 1, ii 0, ii 2, ii 0, ii 3, ii 1, ii 2, ii 1, ii 3, ii 2, ii 3]) rfl (fun W hR => sides_ W) ?_ (by kernel_rfl)
  refine kSe 1 0 [(8, ii 0)] [7, 0, 1] ?_
  refine tri_block ?_
  refine tri_rounds 6 ?_
  refine wr [0] rfl ?_
  refine kSe 1 0 [(9, .bool true)] [8, 7, 0, 1] ?_
  refine tri_seq ?_
  refine tri_cond_true rfl ?_
  refine tri_skip ?_
  refine post_then ?_
  refine tri_seq ?_
  refine tri_block ?_
  refine wr [0, 1, 2, 3, 4] rfl ?_
  refine kS 2 0 [(11, .agg #[ii 0, ii 1]), (10, ii 0)] [8, 7, 0, 1] ?_
  refine kA (.agg #[ii 0, ii 0]) fun b1 => ?_
  refine kS 1 0 [(5, ii 0)] [6, 11, 8, 7, 0, 1] ?_
  refine kW 0 #[ii 0, ii 1] ?_
  refine kPe [5, 6, 8, 7, 0, 1] ?_
  refine tri_seq ?_
  by_cases h1 : (decide (0 = (i : Int)) && (decide (1 = (j : Int)) && true)) = true
  · refine tri_region (todo := [0, 1, 2, 3, 4, 5, 6, 7, 8, 9, 10, 11]) rfl ?_
    refine kL 0 (.agg #[ii 0, ii 1]) ?_
    refine kOe 11 73300762624 [(23, .bool true)] [5, 8, 7, 0, 1] [(decide (0 = (i : Int)) && (decide (1 = (j : Int)) && true)) = true] h1 ?_
    refine tri_cond_true rfl ?_
    refine wr [0, 1] rfl ?_
    refine kSe 2 0 [(4, ii 0)] [] ?_
    refine tri_ret ?_
    refine post_block_ret ?_
    refine post_then_ret ?_
    refine post_more_ret ?_
    refine post_block_ret ?_
    refine post_then_ret ?_
    refine post_ret1 (v := ii 0) rfl (.tmp rfl) (fun W hR => ?_)
    refine ⟨?_, hR.ext⟩
    simp only [Bool.and_true, Bool.and_eq_true, Bool.and_eq_false_iff, Bool.or_eq_true, Bool.or_eq_false_iff, decide_eq_true_eq, decide_eq_false_iff_not] at *
    obtain ⟨rfl, rfl⟩ | ⟨rfl, rfl⟩ : (i = 0 ∧ j = 1) ∨ (i = 1 ∧ j = 0) := (by omega) <;> rfl
  · refine tri_region (todo := [0, 1, 2, 3, 4, 5, 6, 7, 8, 9, 10, 11]) rfl ?_
    refine kL 0 (.agg #[ii 0, ii 1]) ?_
    refine kO 5 61440 [(17, .bool false)] [5, 6, 8, 7, 0, 1] [(decide (0 = (i : Int)) && (decide (1 = (j : Int)) && true)) = false] (Bool.eq_false_iff.2 h1) ?_
    refine kL 0 (.agg #[ii 0, ii 1]) ?_
    refine kSe 5 53248 [(23, .bool (decide (0 = (j : Int)) && (decide (1 = (i : Int)) && true)))] [5, 8, 7, 0, 1] ?_
    refine tri_cond (b := decide (0 = (j : Int)) && (decide (1 = (i : Int)) && true)) rfl (fun h2 => ?_) (fun h2 => ?_)
    · refine wr [0, 1] rfl ?_
      refine kSe 2 0 [(4, ii 0)] [] ?_
      refine tri_ret ?_
      refine post_block_ret ?_
      refine post_then_ret ?_
      refine post_more_ret ?_
      refine post_block_ret ?_
      refine post_then_ret ?_
      refine post_ret1 (v := ii 0) rfl (.tmp rfl) (fun W hR => ?_)
      refine ⟨?_, hR.ext⟩
      simp only [Bool.and_true, Bool.and_eq_true, Bool.and_eq_false_iff, Bool.or_eq_true, Bool.or_eq_false_iff, decide_eq_true_eq, decide_eq_false_iff_not] at *
      obtain ⟨rfl, rfl⟩ | ⟨rfl, rfl⟩ : (i = 0 ∧ j = 1) ∨ (i = 1 ∧ j = 0) := (by omega) <;> rfl
    · refine tri_skip ?_
      refine post_block ?_
      refine post_then ?_
      refine tri_region (todo := [0, 1]) rfl ?_
      refine kS 2 0 [(8, ii 1)] [7, 0, 1] ?_
      refine opsT_end ?_
      refine post_more ?_
      refine wr [0] rfl ?_
      refine kSe 1 0 [(9, .bool true)] [8, 7, 0, 1] ?_
      refine tri_seq ?_
      refine tri_cond_true rfl ?_
      refine tri_skip ?_
      refine post_then ?_
      refine tri_seq ?_
      refine tri_block ?_
      refine wr [0, 1, 2, 3, 4] rfl ?_
      refine kS 2 0 [(11, .agg #[ii 0, ii 2]), (10, ii 1)] [8, 7, 0, 1] ?_
      refine kA (.agg #[ii 0, ii 0]) fun b2 => ?_
      refine kS 1 0 [(5, ii 1)] [6, 11, 8, 7, 0, 1] ?_
      refine kW 0 #[ii 0, ii 2] ?_
      refine kPe [5, 6, 8, 7, 0, 1] ?_
      refine tri_seq ?_
      by_cases h3 : (decide (0 = (i : Int)) && (decide (2 = (j : Int)) && true)) = true
      · refine tri_region (todo := [0, 1, 2, 3, 4, 5, 6, 7, 8, 9, 10, 11]) rfl ?_
        refine kL 0 (.agg #[ii 0, ii 2]) ?_
        refine kOe 11 73300762624 [(23, .bool true)] [5, 8, 7, 0, 1] [(decide (0 = (i : Int)) && (decide (2 = (j : Int)) && true)) = true] h3 ?_
        refine tri_cond_true rfl ?_
        refine wr [0, 1] rfl ?_
        refine kSe 2 0 [(4, ii 1)] [] ?_
        refine tri_ret ?_
        refine post_block_ret ?_
        refine post_then_ret ?_
        refine post_more_ret ?_
        refine post_block_ret ?_
        refine post_then_ret ?_
        refine post_ret1 (v := ii 1) rfl (.tmp rfl) (fun W hR => ?_)
        refine ⟨?_, hR.ext⟩
        simp only [Bool.and_true, Bool.and_eq_true, Bool.and_eq_false_iff, Bool.or_eq_true, Bool.or_eq_false_iff, decide_eq_true_eq, decide_eq_false_iff_not] at *
        obtain ⟨rfl, rfl⟩ | ⟨rfl, rfl⟩ : (i = 0 ∧ j = 2) ∨ (i = 2 ∧ j = 0) := (by omega) <;> rfl
      · refine tri_region (todo := [0, 1, 2, 3, 4, 5, 6, 7, 8, 9, 10, 11]) rfl ?_
        refine kL 0 (.agg #[ii 0, ii 2]) ?_
        refine kO 5 61440 [(17, .bool false)] [5, 6, 8, 7, 0, 1] [(decide (0 = (i : Int)) && (decide (2 = (j : Int)) && true)) = false] (Bool.eq_false_iff.2 h3) ?_
        refine kL 0 (.agg #[ii 0, ii 2]) ?_
        refine kSe 5 53248 [(23, .bool (decide (0 = (j : Int)) && (decide (2 = (i : Int)) && true)))] [5, 8, 7, 0, 1] ?_
        refine tri_cond (b := decide (0 = (j : Int)) && (decide (2 = (i : Int)) && true)) rfl (fun h4 => ?_) (fun h4 => ?_)
        · refine wr [0, 1] rfl ?_
          refine kSe 2 0 [(4, ii 1)] [] ?_
          refine tri_ret ?_
          refine post_block_ret ?_
          refine post_then_ret ?_
          refine post_more_ret ?_
          refine post_block_ret ?_
          refine post_then_ret ?_
          refine post_ret1 (v := ii 1) rfl (.tmp rfl) (fun W hR => ?_)
          refine ⟨?_, hR.ext⟩
          simp only [Bool.and_true, Bool.and_eq_true, Bool.and_eq_false_iff, Bool.or_eq_true, Bool.or_eq_false_iff, decide_eq_true_eq, decide_eq_false_iff_not] at *
          obtain ⟨rfl, rfl⟩ | ⟨rfl, rfl⟩ : (i = 0 ∧ j = 2) ∨ (i = 2 ∧ j = 0) := (by omega) <;> rfl
        · refine tri_skip ?_
          refine post_block ?_
          refine post_then ?_
          refine tri_region (todo := [0, 1]) rfl ?_
          refine kS 2 0 [(8, ii 2)] [7, 0, 1] ?_
          refine opsT_end ?_
          refine post_more ?_
          refine wr [0] rfl ?_
          refine kSe 1 0 [(9, .bool true)] [8, 7, 0, 1] ?_
          refine tri_seq ?_
          refine tri_cond_true rfl ?_
          refine tri_skip ?_
          refine post_then ?_
          refine tri_seq ?_
          refine tri_block ?_
          refine wr [0, 1, 2, 3, 4] rfl ?_
          refine kS 2 0 [(11, .agg #[ii 0, ii 3]), (10, ii 2)] [8, 7, 0, 1] ?_
          refine kA (.agg #[ii 0, ii 0]) fun b3 => ?_
          refine kS 1 0 [(5, ii 2)] [6, 11, 8, 7, 0, 1] ?_
          refine kW 0 #[ii 0, ii 3] ?_
          refine kPe [5, 6, 8, 7, 0, 1] ?_
          refine tri_seq ?_
          by_cases h5 : (decide (0 = (i : Int)) && (decide (3 = (j : Int)) && true)) = true
          · refine tri_region (todo := [0, 1, 2, 3, 4, 5, 6, 7, 8, 9, 10, 11]) rfl ?_
            refine kL 0 (.agg #[ii 0, ii 3]) ?_
            refine kOe 11 73300762624 [(23, .bool true)] [5, 8, 7, 0, 1] [(decide (0 = (i : Int)) && (decide (3 = (j : Int)) && true)) = true] h5 ?_
            refine tri_cond_true rfl ?_
            refine wr [0, 1] rfl ?_
            refine kSe 2 0 [(4, ii 2)] [] ?_
            refine tri_ret ?_
            refine post_block_ret ?_
            refine post_then_ret ?_
            refine post_more_ret ?_
            refine post_block_ret ?_
            refine post_then_ret ?_
            refine post_ret1 (v := ii 2) rfl (.tmp rfl) (fun W hR => ?_)
            refine ⟨?_, hR.ext⟩
            simp only [Bool.and_true, Bool.and_eq_true, Bool.and_eq_false_iff, Bool.or_eq_true, Bool.or_eq_false_iff, decide_eq_true_eq, decide_eq_false_iff_not] at *
            obtain ⟨rfl, rfl⟩ | ⟨rfl, rfl⟩ : (i = 0 ∧ j = 3) ∨ (i = 3 ∧ j = 0) := (by omega) <;> rfl
          · refine tri_region (todo := [0, 1, 2, 3, 4, 5, 6, 7, 8, 9, 10, 11]) rfl ?_
            refine kL 0 (.agg #[ii 0, ii 3]) ?_
            refine kO 5 61440 [(17, .bool false)] [5, 6, 8, 7, 0, 1] [(decide (0 = (i : Int)) && (decide (3 = (j : Int)) && true)) = false] (Bool.eq_false_iff.2 h5) ?_
            refine kL 0 (.agg #[ii 0, ii 3]) ?_
            refine kSe 5 53248 [(23, .bool (decide (0 = (j : Int)) && (decide (3 = (i : Int)) && true)))] [5, 8, 7, 0, 1] ?_
            refine tri_cond (b := decide (0 = (j : Int)) && (decide (3 = (i : Int)) && true)) rfl (fun h6 => ?_) (fun h6 => ?_)
            · refine wr [0, 1] rfl ?_
              refine kSe 2 0 [(4, ii 2)] [] ?_
              refine tri_ret ?_
              refine post_block_ret ?_
              refine post_then_ret ?_
              refine post_more_ret ?_
              refine post_block_ret ?_
              refine post_then_ret ?_
              refine post_ret1 (v := ii 2) rfl (.tmp rfl) (fun W hR => ?_)
              refine ⟨?_, hR.ext⟩
              simp only [Bool.and_true, Bool.and_eq_true, Bool.and_eq_false_iff, Bool.or_eq_true, Bool.or_eq_false_iff, decide_eq_true_eq, decide_eq_false_iff_not] at *
              obtain ⟨rfl, rfl⟩ | ⟨rfl, rfl⟩ : (i = 0 ∧ j = 3) ∨ (i = 3 ∧ j = 0) := (by omega) <;> rfl
            · refine tri_skip ?_
              refine post_block ?_
              refine post_then ?_
              refine tri_region (todo := [0, 1]) rfl ?_
              refine kS 2 0 [(8, ii 3)] [7, 0, 1] ?_
              refine opsT_end ?_
              refine post_more ?_
              refine wr [0] rfl ?_
              refine kSe 1 0 [(9, .bool true)] [8, 7, 0, 1] ?_
              refine tri_seq ?_
              refine tri_cond_true rfl ?_
              refine tri_skip ?_
              refine post_then ?_
              refine tri_seq ?_
              refine tri_block ?_
              refine wr [0, 1, 2, 3, 4] rfl ?_
              refine kS 2 0 [(11, .agg #[ii 1, ii 2]), (10, ii 3)] [8, 7, 0, 1] ?_
              refine kA (.agg #[ii 0, ii 0]) fun b4 => ?_
              refine kS 1 0 [(5, ii 3)] [6, 11, 8, 7, 0, 1] ?_
              refine kW 0 #[ii 1, ii 2] ?_
              refine kPe [5, 6, 8, 7, 0, 1] ?_
              refine tri_seq ?_
              by_cases h7 : (decide (1 = (i : Int)) && (decide (2 = (j : Int)) && true)) = true
              · refine tri_region (todo := [0, 1, 2, 3, 4, 5, 6, 7, 8, 9, 10, 11]) rfl ?_
                refine kL 0 (.agg #[ii 1, ii 2]) ?_
                refine kOe 11 73300762624 [(23, .bool true)] [5, 8, 7, 0, 1] [(decide (1 = (i : Int)) && (decide (2 = (j : Int)) && true)) = true] h7 ?_
                refine tri_cond_true rfl ?_
                refine wr [0, 1] rfl ?_
                refine kSe 2 0 [(4, ii 3)] [] ?_
                refine tri_ret ?_
                refine post_block_ret ?_
                refine post_then_ret ?_
                refine post_more_ret ?_
                refine post_block_ret ?_
                refine post_then_ret ?_
                refine post_ret1 (v := ii 3) rfl (.tmp rfl) (fun W hR => ?_)
                refine ⟨?_, hR.ext⟩
                simp only [Bool.and_true, Bool.and_eq_true, Bool.and_eq_false_iff, Bool.or_eq_true, Bool.or_eq_false_iff, decide_eq_true_eq, decide_eq_false_iff_not] at *
                obtain ⟨rfl, rfl⟩ | ⟨rfl, rfl⟩ : (i = 1 ∧ j = 2) ∨ (i = 2 ∧ j = 1) := (by omega) <;> rfl
              · refine tri_region (todo := [0, 1, 2, 3, 4, 5, 6, 7, 8, 9, 10, 11]) rfl ?_
                refine kL 0 (.agg #[ii 1, ii 2]) ?_
                refine kO 5 61440 [(17, .bool false)] [5, 6, 8, 7, 0, 1] [(decide (1 = (i : Int)) && (decide (2 = (j : Int)) && true)) = false] (Bool.eq_false_iff.2 h7) ?_
                refine kL 0 (.agg #[ii 1, ii 2]) ?_
                refine kSe 5 53248 [(23, .bool (decide (1 = (j : Int)) && (decide (2 = (i : Int)) && true)))] [5, 8, 7, 0, 1] ?_
                refine tri_cond (b := decide (1 = (j : Int)) && (decide (2 = (i : Int)) && true)) rfl (fun h8 => ?_) (fun h8 => ?_)
                · refine wr [0, 1] rfl ?_
                  refine kSe 2 0 [(4, ii 3)] [] ?_
                  refine tri_ret ?_
                  refine post_block_ret ?_
                  refine post_then_ret ?_
                  refine post_more_ret ?_
                  refine post_block_ret ?_
                  refine post_then_ret ?_
                  refine post_ret1 (v := ii 3) rfl (.tmp rfl) (fun W hR => ?_)
                  refine ⟨?_, hR.ext⟩
                  simp only [Bool.and_true, Bool.and_eq_true, Bool.and_eq_false_iff, Bool.or_eq_true, Bool.or_eq_false_iff, decide_eq_true_eq, decide_eq_false_iff_not] at *
                  obtain ⟨rfl, rfl⟩ | ⟨rfl, rfl⟩ : (i = 1 ∧ j = 2) ∨ (i = 2 ∧ j = 1) := (by omega) <;> rfl
                · refine tri_skip ?_
                  refine post_block ?_
                  refine post_then ?_
                  refine tri_region (todo := [0, 1]) rfl ?_
                  refine kS 2 0 [(8, ii 4)] [7, 0, 1] ?_
                  refine opsT_end ?_
                  refine post_more ?_
                  refine wr [0] rfl ?_
                  refine kSe 1 0 [(9, .bool true)] [8, 7, 0, 1] ?_
                  refine tri_seq ?_
                  refine tri_cond_true rfl ?_
                  refine tri_skip ?_
                  refine post_then ?_
                  refine tri_seq ?_
                  refine tri_block ?_
                  refine wr [0, 1, 2, 3, 4] rfl ?_
                  refine kS 2 0 [(11, .agg #[ii 1, ii 3]), (10, ii 4)] [8, 7, 0, 1] ?_
                  refine kA (.agg #[ii 0, ii 0]) fun b5 => ?_
                  refine kS 1 0 [(5, ii 4)] [6, 11, 8, 7, 0, 1] ?_
                  refine kW 0 #[ii 1, ii 3] ?_
                  refine kPe [5, 6, 8, 7, 0, 1] ?_
                  refine tri_seq ?_
                  by_cases h9 : (decide (1 = (i : Int)) && (decide (3 = (j : Int)) && true)) = true
                  · refine tri_region (todo := [0, 1, 2, 3, 4, 5, 6, 7, 8, 9, 10, 11]) rfl ?_
                    refine kL 0 (.agg #[ii 1, ii 3]) ?_
                    refine kOe 11 73300762624 [(23, .bool true)] [5, 8, 7, 0, 1] [(decide (1 = (i : Int)) && (decide (3 = (j : Int)) && true)) = true] h9 ?_
                    refine tri_cond_true rfl ?_
                    refine wr [0, 1] rfl ?_
                    refine kSe 2 0 [(4, ii 4)] [] ?_
                    refine tri_ret ?_
                    refine post_block_ret ?_
                    refine post_then_ret ?_
                    refine post_more_ret ?_
                    refine post_block_ret ?_
                    refine post_then_ret ?_
                    refine post_ret1 (v := ii 4) rfl (.tmp rfl) (fun W hR => ?_)
                    refine ⟨?_, hR.ext⟩
                    simp only [Bool.and_true, Bool.and_eq_true, Bool.and_eq_false_iff, Bool.or_eq_true, Bool.or_eq_false_iff, decide_eq_true_eq, decide_eq_false_iff_not] at *
                    obtain ⟨rfl, rfl⟩ | ⟨rfl, rfl⟩ : (i = 1 ∧ j = 3) ∨ (i = 3 ∧ j = 1) := (by omega) <;> rfl
                  · refine tri_region (todo := [0, 1, 2, 3, 4, 5, 6, 7, 8, 9, 10, 11]) rfl ?_
                    refine kL 0 (.agg #[ii 1, ii 3]) ?_
                    refine kO 5 61440 [(17, .bool false)] [5, 6, 8, 7, 0, 1] [(decide (1 = (i : Int)) && (decide (3 = (j : Int)) && true)) = false] (Bool.eq_false_iff.2 h9) ?_
                    refine kL 0 (.agg #[ii 1, ii 3]) ?_
                    refine kSe 5 53248 [(23, .bool (decide (1 = (j : Int)) && (decide (3 = (i : Int)) && true)))] [5, 8, 7, 0, 1] ?_
                    refine tri_cond (b := decide (1 = (j : Int)) && (decide (3 = (i : Int)) && true)) rfl (fun h10 => ?_) (fun h10 => ?_)
                    · refine wr [0, 1] rfl ?_
                      refine kSe 2 0 [(4, ii 4)] [] ?_
                      refine tri_ret ?_
                      refine post_block_ret ?_
                      refine post_then_ret ?_
                      refine post_more_ret ?_
                      refine post_block_ret ?_
                      refine post_then_ret ?_
                      refine post_ret1 (v := ii 4) rfl (.tmp rfl) (fun W hR => ?_)
                      refine ⟨?_, hR.ext⟩
                      simp only [Bool.and_true, Bool.and_eq_true, Bool.and_eq_false_iff, Bool.or_eq_true, Bool.or_eq_false_iff, decide_eq_true_eq, decide_eq_false_iff_not] at *
                      obtain ⟨rfl, rfl⟩ | ⟨rfl, rfl⟩ : (i = 1 ∧ j = 3) ∨ (i = 3 ∧ j = 1) := (by omega) <;> rfl
                    · refine tri_skip ?_
                      refine post_block ?_
                      refine post_then ?_
                      refine tri_region (todo := [0, 1]) rfl ?_
                      refine kS 2 0 [(8, ii 5)] [7, 0, 1] ?_
                      refine opsT_end ?_
                      refine post_more ?_
                      refine wr [0] rfl ?_
                      refine kSe 1 0 [(9, .bool true)] [8, 7, 0, 1] ?_
                      refine tri_seq ?_
                      refine tri_cond_true rfl ?_
                      refine tri_skip ?_
                      refine post_then ?_
                      refine tri_seq ?_
                      refine tri_block ?_
                      refine wr [0, 1, 2, 3, 4] rfl ?_
                      refine kS 2 0 [(11, .agg #[ii 2, ii 3]), (10, ii 5)] [8, 7, 0, 1] ?_
                      refine kA (.agg #[ii 0, ii 0]) fun b6 => ?_
                      refine kS 1 0 [(5, ii 5)] [6, 11, 8, 7, 0, 1] ?_
                      refine kW 0 #[ii 2, ii 3] ?_
                      refine kPe [5, 6, 8, 7, 0, 1] ?_
                      refine tri_seq ?_
                      by_cases h11 : (decide (2 = (i : Int)) && (decide (3 = (j : Int)) && true)) = true
                      · refine tri_region (todo := [0, 1, 2, 3, 4, 5, 6, 7, 8, 9, 10, 11]) rfl ?_
                        refine kL 0 (.agg #[ii 2, ii 3]) ?_
                        refine kOe 11 73300762624 [(23, .bool true)] [5, 8, 7, 0, 1] [(decide (2 = (i : Int)) && (decide (3 = (j : Int)) && true)) = true] h11 ?_
                        refine tri_cond_true rfl ?_
                        refine wr [0, 1] rfl ?_
                        refine kSe 2 0 [(4, ii 5)] [] ?_
                        refine tri_ret ?_
                        refine post_block_ret ?_
                        refine post_then_ret ?_
                        refine post_more_ret ?_
                        refine post_block_ret ?_
                        refine post_then_ret ?_
                        refine post_ret1 (v := ii 5) rfl (.tmp rfl) (fun W hR => ?_)
                        refine ⟨?_, hR.ext⟩
                        simp only [Bool.and_true, Bool.and_eq_true, Bool.and_eq_false_iff, Bool.or_eq_true, Bool.or_eq_false_iff, decide_eq_true_eq, decide_eq_false_iff_not] at *
                        obtain ⟨rfl, rfl⟩ | ⟨rfl, rfl⟩ : (i = 2 ∧ j = 3) ∨ (i = 3 ∧ j = 2) := (by omega) <;> rfl
                      · refine tri_region (todo := [0, 1, 2, 3, 4, 5, 6, 7, 8, 9, 10, 11]) rfl ?_
                        refine kL 0 (.agg #[ii 2, ii 3]) ?_
                        refine kO 5 61440 [(17, .bool false)] [5, 6, 8, 7, 0, 1] [(decide (2 = (i : Int)) && (decide (3 = (j : Int)) && true)) = false] (Bool.eq_false_iff.2 h11) ?_
                        refine kL 0 (.agg #[ii 2, ii 3]) ?_
                        refine kSe 5 53248 [(23, .bool (decide (2 = (j : Int)) && (decide (3 = (i : Int)) && true)))] [5, 8, 7, 0, 1] ?_
                        refine tri_cond (b := decide (2 = (j : Int)) && (decide (3 = (i : Int)) && true)) rfl (fun h12 => ?_) (fun h12 => ?_)
                        · refine wr [0, 1] rfl ?_
                          refine kSe 2 0 [(4, ii 5)] [] ?_
                          refine tri_ret ?_
                          refine post_block_ret ?_
                          refine post_then_ret ?_
                          refine post_more_ret ?_
                          refine post_block_ret ?_
                          refine post_then_ret ?_
                          refine post_ret1 (v := ii 5) rfl (.tmp rfl) (fun W hR => ?_)
                          refine ⟨?_, hR.ext⟩
                          simp only [Bool.and_true, Bool.and_eq_true, Bool.and_eq_false_iff, Bool.or_eq_true, Bool.or_eq_false_iff, decide_eq_true_eq, decide_eq_false_iff_not] at *
                          obtain ⟨rfl, rfl⟩ | ⟨rfl, rfl⟩ : (i = 2 ∧ j = 3) ∨ (i = 3 ∧ j = 2) := (by omega) <;> rfl
                        · refine tri_skip ?_
                          refine post_block ?_
                          refine post_then ?_
                          refine tri_region (todo := [0, 1]) rfl ?_
                          refine kS 2 0 [(8, ii 6)] [7, 0, 1] ?_
                          refine opsT_end ?_
                          refine post_more ?_
                          refine wr [0] rfl ?_
                          refine kSe 1 0 [(9, .bool false)] [8, 7, 0, 1] ?_
                          refine tri_seq ?_
                          refine tri_cond_false rfl ?_
                          refine tri_exit ?_
                          refine post_then_exit ?_
                          refine post_more_exit ?_
                          refine post_block_hit ?_
                          refine post_then ?_
                          refine wr [0] rfl ?_
                          refine kSe 1 0 [(4, ii (-1))] [] ?_
                          refine tri_ret ?_
                          refine post_ret1 (v := ii (-1)) rfl (.tmp rfl) (fun W hR => ?_)
                          refine ⟨?_, hR.ext⟩
                          simp only [Bool.and_true, Bool.and_eq_true, Bool.and_eq_false_iff, Bool.or_eq_true, Bool.or_eq_false_iff, decide_eq_true_eq, decide_eq_false_iff_not] at *
                          exfalso
                          omega
theorem arcsN_ {b off n cap : Nat} {v : Nat → Int} {w : World} (hc : AtV w b off n v) (hv : InR n v) {t f i : Nat} (ht : 10 * t + 10 ≤ n) (hn : n ≤ 1000000) (hf : f < 4) (hi : i < 4) (hne : i ≠ f) : Calls Tryz.prog 101 #[sl b off n cap, ii (t : Int), ii (f : Int), ii (i : Int)] w fun e w' => e = .returned (.int .i64 (arcP v t f i)) ∧ Ext w w' := by
  have h3 := tyN_lt i f
  refine calls_of (n := 27) Tryz.func101 rfl Tryz.ntmps101 rfl ?_
  refine tri_eq (l' := [(0, sl b off n cap), (1, ii (t : Int)), (2, ii (f : Int)), (3, ii (i : Int))]) (hs' := []) rfl rfl ?_
  refine wr [0] rfl ?_
  refine kSn 1 0 [] [0, 1, 2, 3] [0] ?_
  refine kSe 1 0 [(9, ii 0)] [0, 1, 2, 3] ?_
  refine tri_seq ?_
  refine wr [0, 1, 2, 3, 4] rfl ?_
  refine kS 3 0 [(14, ii (i : Int)), (13, ii (f : Int)), (12, ii (t : Int))] [9, 0] ?_
  refine kC en170 #[ii (t : Int), ii (f : Int), ii (i : Int)] (.agg #[ii (10 * (t : Int) + (i : Int)), ii (10 * (t : Int) + 4 + ((tyN i f : Nat) : Int)), ii (10 * (t : Int) + 7 + (((tyN i f : Nat) : Int) + 1) % 3), ii (10 * (t : Int) + 7 + (((tyN i f : Nat) : Int) + 2) % 3)]) rfl (fun W hR => terms_ (by omega) hf hi hne W) ?_ (by kernel_rfl)
  refine kSe 1 0 [(16, ii 0)] [15, 9, 0] ?_
  refine tri_block ?_
  refine tri_rounds 4 ?_
  refine wr [0] rfl ?_
  refine kSe 1 0 [(17, .bool true)] [16, 15, 9, 0] ?_
  refine tri_seq ?_
  refine tri_cond_true rfl ?_
  refine tri_skip ?_
  refine post_then ?_
  refine tri_seq ?_
  refine tri_block ?_
  refine wr [0, 1] rfl ?_
  refine kSe 2 0 [(11, ii (10 * (t : Int) + (i : Int)))] [16, 15, 9, 0] ?_
  refine tri_region (todo := [0, 1, 2, 3, 4, 5, 6]) rfl ?_
  refine kO 4 36864 [(22, pt b (off + (10 * (t : Int) + (i : Int)).toNat)), (19, ii 0)] [16, 15, 9, 0] [(0 : Int) ≤ 10 * (t : Int) + (i : Int), 10 * (t : Int) + (i : Int) < ((n : Nat) : Int)] (by refine ap ?_ (ap1 ?_) <;> (first | omega | (have e1 := hv (10 * t + i) (by omega); have e2 := hv (10 * t + 4 + tyN i f) (by omega); have e3 := hv (10 * t + 7 + (tyN i f + 1) % 3) (by omega); have e4 := hv (10 * t + 7 + (tyN i f + 2) % 3) (by omega); simp only [show (10 * (t : Int) + (i : Int)).toNat = 10 * t + i by omega, show (10 * (t : Int) + 4 + ((tyN i f : Nat) : Int)).toNat = 10 * t + 4 + tyN i f by omega, show (10 * (t : Int) + 7 + (((tyN i f : Nat) : Int) + 1) % 3).toNat = 10 * t + 7 + (tyN i f + 1) % 3 by omega, show (10 * (t : Int) + 7 + (((tyN i f : Nat) : Int) + 2) % 3).toNat = 10 * t + 7 + (tyN i f + 2) % 3 by omega] at *; omega))) ?_
  refine kM b (off + (10 * (t : Int) + (i : Int)).toNat) [ii (v ((10 * (t : Int) + (i : Int)).toNat))] (ii (v ((10 * (t : Int) + (i : Int)).toNat))) (hc.one (by omega)) ?_
  refine kO 2 2 [(9, ii (0 + (v ((10 * (t : Int) + (i : Int)).toNat))))] [16, 15, 0] [I64 (0 + (v ((10 * (t : Int) + (i : Int)).toNat)))] (ap1 (by first | omega | (have e1 := hv (10 * t + i) (by omega); have e2 := hv (10 * t + 4 + tyN i f) (by omega); have e3 := hv (10 * t + 7 + (tyN i f + 1) % 3) (by omega); have e4 := hv (10 * t + 7 + (tyN i f + 2) % 3) (by omega); simp only [show (10 * (t : Int) + (i : Int)).toNat = 10 * t + i by omega, show (10 * (t : Int) + 4 + ((tyN i f : Nat) : Int)).toNat = 10 * t + 4 + tyN i f by omega, show (10 * (t : Int) + 7 + (((tyN i f : Nat) : Int) + 1) % 3).toNat = 10 * t + 7 + (tyN i f + 1) % 3 by omega, show (10 * (t : Int) + 7 + (((tyN i f : Nat) : Int) + 2) % 3).toNat = 10 * t + 7 + (tyN i f + 2) % 3 by omega] at *; omega))) ?_
  refine opsT_end ?_
  refine post_block ?_
  refine post_then ?_
  refine tri_region (todo := [0, 1]) rfl ?_
  refine kS 2 0 [(16, ii 1)] [9, 15, 0] ?_
  refine opsT_end ?_
  refine post_more ?_
  refine wr [0] rfl ?_
  refine kSe 1 0 [(17, .bool true)] [16, 9, 15, 0] ?_
  refine tri_seq ?_
  refine tri_cond_true rfl ?_
  refine tri_skip ?_
  refine post_then ?_
  refine tri_seq ?_
  refine tri_block ?_
  refine wr [0, 1] rfl ?_
  refine kSe 2 0 [(11, ii (10 * (t : Int) + 4 + ((tyN i f : Nat) : Int)))] [16, 9, 15, 0] ?_
  refine tri_region (todo := [0, 1, 2, 3, 4, 5, 6]) rfl ?_
  refine kO 4 36864 [(22, pt b (off + (10 * (t : Int) + 4 + ((tyN i f : Nat) : Int)).toNat)), (19, ii (0 + (v ((10 * (t : Int) + (i : Int)).toNat))))] [16, 9, 15, 0] [(0 : Int) ≤ 10 * (t : Int) + 4 + ((tyN i f : Nat) : Int), 10 * (t : Int) + 4 + ((tyN i f : Nat) : Int) < ((n : Nat) : Int)] (by refine ap ?_ (ap1 ?_) <;> (first | omega | (have e1 := hv (10 * t + i) (by omega); have e2 := hv (10 * t + 4 + tyN i f) (by omega); have e3 := hv (10 * t + 7 + (tyN i f + 1) % 3) (by omega); have e4 := hv (10 * t + 7 + (tyN i f + 2) % 3) (by omega); simp only [show (10 * (t : Int) + (i : Int)).toNat = 10 * t + i by omega, show (10 * (t : Int) + 4 + ((tyN i f : Nat) : Int)).toNat = 10 * t + 4 + tyN i f by omega, show (10 * (t : Int) + 7 + (((tyN i f : Nat) : Int) + 1) % 3).toNat = 10 * t + 7 + (tyN i f + 1) % 3 by omega, show (10 * (t : Int) + 7 + (((tyN i f : Nat) : Int) + 2) % 3).toNat = 10 * t + 7 + (tyN i f + 2) % 3 by omega] at *; omega))) ?_
  refine kM b (off + (10 * (t : Int) + 4 + ((tyN i f : Nat) : Int)).toNat) [ii (v ((10 * (t : Int) + 4 + ((tyN i f : Nat) : Int)).toNat))] (ii (v ((10 * (t : Int) + 4 + ((tyN i f : Nat) : Int)).toNat))) (hc.one (by omega)) ?_
  refine kO 2 2 [(9, ii ((0 + (v ((10 * (t : Int) + (i : Int)).toNat))) + (v ((10 * (t : Int) + 4 + ((tyN i f : Nat) : Int)).toNat))))] [16, 15, 0] [I64 ((0 + (v ((10 * (t : Int) + (i : Int)).toNat))) + (v ((10 * (t : Int) + 4 + ((tyN i f : Nat) : Int)).toNat)))] (ap1 (by first | omega | (have e1 := hv (10 * t + i) (by omega); have e2 := hv (10 * t + 4 + tyN i f) (by omega); have e3 := hv (10 * t + 7 + (tyN i f + 1) % 3) (by omega); have e4 := hv (10 * t + 7 + (tyN i f + 2) % 3) (by omega); simp only [show (10 * (t : Int) + (i : Int)).toNat = 10 * t + i by omega, show (10 * (t : Int) + 4 + ((tyN i f : Nat) : Int)).toNat = 10 * t + 4 + tyN i f by omega, show (10 * (t : Int) + 7 + (((tyN i f : Nat) : Int) + 1) % 3).toNat = 10 * t + 7 + (tyN i f + 1) % 3 by omega, show (10 * (t : Int) + 7 + (((tyN i f : Nat) : Int) + 2) % 3).toNat = 10 * t + 7 + (tyN i f + 2) % 3 by omega] at *; omega))) ?_
  refine opsT_end ?_
  refine post_block ?_
  refine post_then ?_
  refine tri_region (todo := [0, 1]) rfl ?_
  refine kS 2 0 [(16, ii 2)] [9, 15, 0] ?_
  refine opsT_end ?_
  refine post_more ?_
  refine wr [0] rfl ?_
  refine kSe 1 0 [(17, .bool true)] [16, 9, 15, 0] ?_
  refine tri_seq ?_
  refine tri_cond_true rfl ?_
  refine tri_skip ?_
  refine post_then ?_
  refine tri_seq ?_
  refine tri_block ?_
  refine wr [0, 1] rfl ?_
  refine kSe 2 0 [(11, ii (10 * (t : Int) + 7 + (((tyN i f : Nat) : Int) + 1) % 3))] [16, 9, 15, 0] ?_
  refine tri_region (todo := [0, 1, 2, 3, 4, 5, 6]) rfl ?_
  refine kO 4 36864 [(22, pt b (off + (10 * (t : Int) + 7 + (((tyN i f : Nat) : Int) + 1) % 3).toNat)), (19, ii ((0 + (v ((10 * (t : Int) + (i : Int)).toNat))) + (v ((10 * (t : Int) + 4 + ((tyN i f : Nat) : Int)).toNat))))] [16, 9, 15, 0] [(0 : Int) ≤ 10 * (t : Int) + 7 + (((tyN i f : Nat) : Int) + 1) % 3, 10 * (t : Int) + 7 + (((tyN i f : Nat) : Int) + 1) % 3 < ((n : Nat) : Int)] (by refine ap ?_ (ap1 ?_) <;> (first | omega | (have e1 := hv (10 * t + i) (by omega); have e2 := hv (10 * t + 4 + tyN i f) (by omega); have e3 := hv (10 * t + 7 + (tyN i f + 1) % 3) (by omega); have e4 := hv (10 * t + 7 + (tyN i f + 2) % 3) (by omega); simp only [show (10 * (t : Int) + (i : Int)).toNat = 10 * t + i by omega, show (10 * (t : Int) + 4 + ((tyN i f : Nat) : Int)).toNat = 10 * t + 4 + tyN i f by omega, show (10 * (t : Int) + 7 + (((tyN i f : Nat) : Int) + 1) % 3).toNat = 10 * t + 7 + (tyN i f + 1) % 3 by omega, show (10 * (t : Int) + 7 + (((tyN i f : Nat) : Int) + 2) % 3).toNat = 10 * t + 7 + (tyN i f + 2) % 3 by omega] at *; omega))) ?_
  refine kM b (off + (10 * (t : Int) + 7 + (((tyN i f : Nat) : Int) + 1) % 3).toNat) [ii (v ((10 * (t : Int) + 7 + (((tyN i f : Nat) : Int) + 1) % 3).toNat))] (ii (v ((10 * (t : Int) + 7 + (((tyN i f : Nat) : Int) + 1) % 3).toNat))) (hc.one (by omega)) ?_
  refine kO 2 2 [(9, ii (((0 + (v ((10 * (t : Int) + (i : Int)).toNat))) + (v ((10 * (t : Int) + 4 + ((tyN i f : Nat) : Int)).toNat))) + (v ((10 * (t : Int) + 7 + (((tyN i f : Nat) : Int) + 1) % 3).toNat))))] [16, 15, 0] [I64 (((0 + (v ((10 * (t : Int) + (i : Int)).toNat))) + (v ((10 * (t : Int) + 4 + ((tyN i f : Nat) : Int)).toNat))) + (v ((10 * (t : Int) + 7 + (((tyN i f : Nat) : Int) + 1) % 3).toNat)))] (ap1 (by first | omega | (have e1 := hv (10 * t + i) (by omega); have e2 := hv (10 * t + 4 + tyN i f) (by omega); have e3 := hv (10 * t + 7 + (tyN i f + 1) % 3) (by omega); have e4 := hv (10 * t + 7 + (tyN i f + 2) % 3) (by omega); simp only [show (10 * (t : Int) + (i : Int)).toNat = 10 * t + i by omega, show (10 * (t : Int) + 4 + ((tyN i f : Nat) : Int)).toNat = 10 * t + 4 + tyN i f by omega, show (10 * (t : Int) + 7 + (((tyN i f : Nat) : Int) + 1) % 3).toNat = 10 * t + 7 + (tyN i f + 1) % 3 by omega, show (10 * (t : Int) + 7 + (((tyN i f : Nat) : Int) + 2) % 3).toNat = 10 * t + 7 + (tyN i f + 2) % 3 by omega] at *; omega))) ?_
  refine opsT_end ?_
  refine post_block ?_
  refine post_then ?_
  refine tri_region (todo := [0, 1]) rfl ?_
  refine kS 2 0 [(16, ii 3)] [9, 15, 0] ?_
  refine opsT_end ?_
  refine post_more ?_
  refine wr [0] rfl ?_
  refine kSe 1 0 [(17, .bool true)] [16, 9, 15, 0] ?_
  refine tri_seq ?_
  refine tri_cond_true rfl ?_
  refine tri_skip ?_
  refine post_then ?_
  refine tri_seq ?_
  refine tri_block ?_
  refine wr [0, 1] rfl ?_
  refine kSe 2 0 [(11, ii (10 * (t : Int) + 7 + (((tyN i f : Nat) : Int) + 2) % 3))] [16, 9, 15, 0] ?_
  refine tri_region (todo := [0, 1, 2, 3, 4, 5, 6]) rfl ?_
  refine kO 4 36864 [(22, pt b (off + (10 * (t : Int) + 7 + (((tyN i f : Nat) : Int) + 2) % 3).toNat)), (19, ii (((0 + (v ((10 * (t : Int) + (i : Int)).toNat))) + (v ((10 * (t : Int) + 4 + ((tyN i f : Nat) : Int)).toNat))) + (v ((10 * (t : Int) + 7 + (((tyN i f : Nat) : Int) + 1) % 3).toNat))))] [16, 9, 15, 0] [(0 : Int) ≤ 10 * (t : Int) + 7 + (((tyN i f : Nat) : Int) + 2) % 3, 10 * (t : Int) + 7 + (((tyN i f : Nat) : Int) + 2) % 3 < ((n : Nat) : Int)] (by refine ap ?_ (ap1 ?_) <;> (first | omega | (have e1 := hv (10 * t + i) (by omega); have e2 := hv (10 * t + 4 + tyN i f) (by omega); have e3 := hv (10 * t + 7 + (tyN i f + 1) % 3) (by omega); have e4 := hv (10 * t + 7 + (tyN i f + 2) % 3) (by omega); simp only [show (10 * (t : Int) + (i : Int)).toNat = 10 * t + i by omega, show (10 * (t : Int) + 4 + ((tyN i f : Nat) : Int)).toNat = 10 * t + 4 + tyN i f by omega, show (10 * (t : Int) + 7 + (((tyN i f : Nat) : Int) + 1) % 3).toNat = 10 * t + 7 + (tyN i f + 1) % 3 by omega, show (10 * (t : Int) + 7 + (((tyN i f : Nat) : Int) + 2) % 3).toNat = 10 * t + 7 + (tyN i f + 2) % 3 by omega] at *; omega))) ?_
  refine kM b (off + (10 * (t : Int) + 7 + (((tyN i f : Nat) : Int) + 2) % 3).toNat) [ii (v ((10 * (t : Int) + 7 + (((tyN i f : Nat) : Int) + 2) % 3).toNat))] (ii (v ((10 * (t : Int) + 7 + (((tyN i f : Nat) : Int) + 2) % 3).toNat))) (hc.one (by omega)) ?_
  refine kO 2 2 [(9, ii ((((0 + (v ((10 * (t : Int) + (i : Int)).toNat))) + (v ((10 * (t : Int) + 4 + ((tyN i f : Nat) : Int)).toNat))) + (v ((10 * (t : Int) + 7 + (((tyN i f : Nat) : Int) + 1) % 3).toNat))) + (v ((10 * (t : Int) + 7 + (((tyN i f : Nat) : Int) + 2) % 3).toNat))))] [16, 15, 0] [I64 ((((0 + (v ((10 * (t : Int) + (i : Int)).toNat))) + (v ((10 * (t : Int) + 4 + ((tyN i f : Nat) : Int)).toNat))) + (v ((10 * (t : Int) + 7 + (((tyN i f : Nat) : Int) + 1) % 3).toNat))) + (v ((10 * (t : Int) + 7 + (((tyN i f : Nat) : Int) + 2) % 3).toNat)))] (ap1 (by first | omega | (have e1 := hv (10 * t + i) (by omega); have e2 := hv (10 * t + 4 + tyN i f) (by omega); have e3 := hv (10 * t + 7 + (tyN i f + 1) % 3) (by omega); have e4 := hv (10 * t + 7 + (tyN i f + 2) % 3) (by omega); simp only [show (10 * (t : Int) + (i : Int)).toNat = 10 * t + i by omega, show (10 * (t : Int) + 4 + ((tyN i f : Nat) : Int)).toNat = 10 * t + 4 + tyN i f by omega, show (10 * (t : Int) + 7 + (((tyN i f : Nat) : Int) + 1) % 3).toNat = 10 * t + 7 + (tyN i f + 1) % 3 by omega, show (10 * (t : Int) + 7 + (((tyN i f : Nat) : Int) + 2) % 3).toNat = 10 * t + 7 + (tyN i f + 2) % 3 by omega] at *; omega))) ?_
  refine opsT_end ?_
  refine post_block ?_
  refine post_then ?_
  refine tri_region (todo := [0, 1]) rfl ?_
  refine kS 2 0 [(16, ii 4)] [9, 15, 0] ?_
  refine opsT_end ?_
  refine post_more ?_
  refine wr [0] rfl ?_
  refine kSe 1 0 [(17, .bool false)] [16, 9, 15, 0] ?_
  refine tri_seq ?_
  refine tri_cond_false rfl ?_
  refine tri_exit ?_
  refine post_then_exit ?_
  refine post_more_exit ?_
  refine post_block_hit ?_
  refine post_then ?_
  refine wr [0, 1] rfl ?_
  refine kSe 2 0 [(8, ii ((((0 + (v ((10 * (t : Int) + (i : Int)).toNat))) + (v ((10 * (t : Int) + 4 + ((tyN i f : Nat) : Int)).toNat))) + (v ((10 * (t : Int) + 7 + (((tyN i f : Nat) : Int) + 1) % 3).toNat))) + (v ((10 * (t : Int) + 7 + (((tyN i f : Nat) : Int) + 2) % 3).toNat))))] [] ?_
  refine tri_ret ?_
  refine post_ret1 (v := ii ((((0 + (v ((10 * (t : Int) + (i : Int)).toNat))) + (v ((10 * (t : Int) + 4 + ((tyN i f : Nat) : Int)).toNat))) + (v ((10 * (t : Int) + 7 + (((tyN i f : Nat) : Int) + 1) % 3).toNat))) + (v ((10 * (t : Int) + 7 + (((tyN i f : Nat) : Int) + 2) % 3).toNat)))) rfl (.tmp rfl) (fun W hR => ?_)
  refine ⟨?_, hR.ext⟩
  show _ = Ending.returned (.int .i64 (v (10 * t + i) + v (10 * t + 4 + tyN i f) + v (10 * t + 7 + (tyN i f + 1) % 3) + v (10 * t + 7 + (tyN i f + 2) % 3)))
  simp only [show (10 * (t : Int) + (i : Int)).toNat = 10 * t + i by omega, show (10 * (t : Int) + 4 + ((tyN i f : Nat) : Int)).toNat = 10 * t + 4 + tyN i f by omega, show (10 * (t : Int) + 7 + (((tyN i f : Nat) : Int) + 1) % 3).toNat = 10 * t + 7 + (tyN i f + 1) % 3 by omega, show (10 * (t : Int) + 7 + (((tyN i f : Nat) : Int) + 2) % 3).toNat = 10 * t + 7 + (tyN i f + 2) % 3 by omega]
  simp only [Int.zero_add]
/-- The weight of an edge, as it is added up. -/
def wtS (v : Nat → Int) (t e : Nat) : Nat → Int
  | 0 => v (10 * t + sdN e 0) + v (10 * t + sdN e 1) + v (10 * t + 7 + tyN (sdN e 0) (sdN e 1))
  | x + 1 => wtS v t e x + v (10 * t + 7 + x) + if x = tyN (sdN e 0) (sdN e 1) then 0 else v (10 * t + 4 + x)
theorem wtS_bound {v : Nat → Int} {n t e : Nat} (hv : InR n v) (ht : 10 * t + 10 ≤ n) (he : e < 6) : ∀ x, x ≤ 3 → 0 ≤ wtS v t e x ∧ wtS v t e x ≤ 3000000 + 2000000 * x
  | 0, _ => by
    obtain ⟨s0, s1, s2⟩ := sdN_facts he
    have h3 := tyN_lt (sdN e 0) (sdN e 1)
    have e1 := hv (10 * t + sdN e 0) (by omega); have e2 := hv (10 * t + sdN e 1) (by omega); have e3 := hv (10 * t + 7 + tyN (sdN e 0) (sdN e 1)) (by omega)
    unfold wtS; omega
  | x + 1, h => by
    have ih := wtS_bound hv ht he x (by omega)
    have e1 := hv (10 * t + 7 + x) (by omega); have e2 := hv (10 * t + 4 + x) (by omega)
    unfold wtS; split <;> omega
theorem wtS_three (v : Nat → Int) (t e : Nat) : wtS v t e 3 = wtP v t e := by
  unfold wtP
  have h3 := tyN_lt (sdN e 0) (sdN e 1)
  simp only [wtS]
  generalize tyN (sdN e 0) (sdN e 1) = k at *
  have k3 : k = 0 ∨ k = 1 ∨ k = 2 := by omega
  rcases k3 with rfl | rfl | rfl <;> simp [Nat.add_assoc] <;> omega

theorem weightN_ {b off n cap : Nat} {v : Nat → Int} {w : World} (hc : AtV w b off n v) (hv : InR n v) {t e : Nat} (ht : 10 * t + 10 ≤ n) (hn : n ≤ 1000000) (he : e < 6) : Calls Tryz.prog 100 #[sl b off n cap, ii (t : Int), ii (e : Int)] w fun e' w' => e' = .returned (.int .i64 (wtP v t e)) ∧ Ext w w' := by
  obtain ⟨s0, s1, s2⟩ := sdN_facts he
  have h3 := tyN_lt (sdN e 0) (sdN e 1)
  refine calls_of (n := 77) Tryz.func100 rfl Tryz.ntmps100 rfl ?_
  refine tri_eq (l' := [(0, sl b off n cap), (1, ii (t : Int)), (2, ii (e : Int))]) (hs' := []) rfl rfl ?_
  refine wr [0] rfl ?_
  refine kSe 1 0 [] [0, 1, 2] ?_
  refine tri_seq ?_
  refine kD 10 184552192 [0, 4] [.agg #[ii 0, ii 1, ii 0, ii 2, ii 0, ii 3, ii 1, ii 2, ii 1, ii 3, ii 2, ii 3], .agg #[ii 0, ii 1, ii 0, ii 2, ii 0, ii 3, ii 1, ii 2, ii 1, ii 3, ii 2, ii 3]] [(8, ii ([0, 1, 0, 2, 0, 3, 1, 2, 1, 3, 2, 3].getD (e * 2 + 1) 0)), (7, ii ([0, 1, 0, 2, 0, 3, 1, 2, 1, 3, 2, 3].getD (e * 2 + 0) 0))] [0, 1] [(0 : Int) ≤ (e : Int), (e : Int) < ((6 : Nat) : Int), (0 : Int) ≤ (e : Int), (e : Int) < ((6 : Nat) : Int)] [] rfl (by refine ap ?_ (ap ?_ (ap ?_ (ap1 ?_))) <;> (first | omega | (have q0 := hv (10 * t + sdN e 0) (by omega); have q1 := hv (10 * t + sdN e 1) (by omega); have q2 := hv (10 * t + 7 + tyN (sdN e 0) (sdN e 1)) (by omega); simp only [show (10 * (t : Int) + ((sdN e 0 : Nat) : Int)).toNat = 10 * t + sdN e 0 by omega, show (10 * (t : Int) + ((sdN e 1 : Nat) : Int)).toNat = 10 * t + sdN e 1 by omega, show (10 * (t : Int) + 7 + ((tyN (sdN e 0) (sdN e 1) : Nat) : Int)).toNat = 10 * t + 7 + tyN (sdN e 0) (sdN e 1) by omega] at *; omega) | (have q0 := wtS_bound hv ht he x (by omega); have q1 := hv (10 * t + 7 + x) (by omega); have q2 := hv (10 * t + 4 + x) (by omega); simp only [show (10 * (t : Int) + 7 + (x : Int)).toNat = 10 * t + 7 + x by omega, show (10 * (t : Int) + 4 + (x : Int)).toNat = 10 * t + 4 + x by omega] at *; omega))) (qA (qC en168 #[] rfl (fun W hR => sides_ W) (by kernel_rfl)) (qA (qC en168 #[] rfl (fun W hR => sides_ W) (by kernel_rfl)) qZ)) ?_ (by kernel_rfl)
  rw [show [0, 1, 0, 2, 0, 3, 1, 2, 1, 3, 2, 3].getD (e * 2 + 1) 0 = ((sdN e 1 : Nat) : Int) from sd_el he (by omega)]
  rw [show [0, 1, 0, 2, 0, 3, 1, 2, 1, 3, 2, 3].getD (e * 2 + 0) 0 = ((sdN e 0 : Nat) : Int) from sd_el he (by omega)]
  refine wn [0, 1, 2, 3, 4, 5] rfl ?_
  refine kC en169 #[] (.agg #[ii (-1), ii 0, ii 1, ii 2, ii 0, ii (-1), ii 2, ii 1, ii 1, ii 2, ii (-1), ii 0, ii 2, ii 1, ii 0, ii (-1)]) rfl (fun W hR => types_ W) ?_ (by kernel_rfl)
  refine kO 2 176 [(22, .agg #[ii ([-1, 0, 1, 2, 0, -1, 2, 1, 1, 2, -1, 0, 2, 1, 0, -1].getD ((sdN e 0) * 4 + 0) 0), ii ([-1, 0, 1, 2, 0, -1, 2, 1, 1, 2, -1, 0, 2, 1, 0, -1].getD ((sdN e 0) * 4 + 1) 0), ii ([-1, 0, 1, 2, 0, -1, 2, 1, 1, 2, -1, 0, 2, 1, 0, -1].getD ((sdN e 0) * 4 + 2) 0), ii ([-1, 0, 1, 2, 0, -1, 2, 1, 1, 2, -1, 0, 2, 1, 0, -1].getD ((sdN e 0) * 4 + 3) 0)])] [8, 7, 0, 1] [(0 : Int) ≤ ((sdN e 0 : Nat) : Int), ((sdN e 0 : Nat) : Int) < ((4 : Nat) : Int)] (by refine ap ?_ (ap1 ?_) <;> (first | omega | (have q0 := hv (10 * t + sdN e 0) (by omega); have q1 := hv (10 * t + sdN e 1) (by omega); have q2 := hv (10 * t + 7 + tyN (sdN e 0) (sdN e 1)) (by omega); simp only [show (10 * (t : Int) + ((sdN e 0 : Nat) : Int)).toNat = 10 * t + sdN e 0 by omega, show (10 * (t : Int) + ((sdN e 1 : Nat) : Int)).toNat = 10 * t + sdN e 1 by omega, show (10 * (t : Int) + 7 + ((tyN (sdN e 0) (sdN e 1) : Nat) : Int)).toNat = 10 * t + 7 + tyN (sdN e 0) (sdN e 1) by omega] at *; omega) | (have q0 := wtS_bound hv ht he x (by omega); have q1 := hv (10 * t + 7 + x) (by omega); have q2 := hv (10 * t + 4 + x) (by omega); simp only [show (10 * (t : Int) + 7 + (x : Int)).toNat = 10 * t + 7 + x by omega, show (10 * (t : Int) + 4 + (x : Int)).toNat = 10 * t + 4 + x by omega] at *; omega))) ?_
  refine kO 3 160 [(9, ii ([[-1, 0, 1, 2, 0, -1, 2, 1, 1, 2, -1, 0, 2, 1, 0, -1].getD ((sdN e 0) * 4 + 0) 0, [-1, 0, 1, 2, 0, -1, 2, 1, 1, 2, -1, 0, 2, 1, 0, -1].getD ((sdN e 0) * 4 + 1) 0, [-1, 0, 1, 2, 0, -1, 2, 1, 1, 2, -1, 0, 2, 1, 0, -1].getD ((sdN e 0) * 4 + 2) 0, [-1, 0, 1, 2, 0, -1, 2, 1, 1, 2, -1, 0, 2, 1, 0, -1].getD ((sdN e 0) * 4 + 3) 0].getD (sdN e 1) 0))] [8, 7, 0, 1] [(0 : Int) ≤ ((sdN e 1 : Nat) : Int), ((sdN e 1 : Nat) : Int) < ((4 : Nat) : Int)] (by refine ap ?_ (ap1 ?_) <;> (first | omega | (have q0 := hv (10 * t + sdN e 0) (by omega); have q1 := hv (10 * t + sdN e 1) (by omega); have q2 := hv (10 * t + 7 + tyN (sdN e 0) (sdN e 1)) (by omega); simp only [show (10 * (t : Int) + ((sdN e 0 : Nat) : Int)).toNat = 10 * t + sdN e 0 by omega, show (10 * (t : Int) + ((sdN e 1 : Nat) : Int)).toNat = 10 * t + sdN e 1 by omega, show (10 * (t : Int) + 7 + ((tyN (sdN e 0) (sdN e 1) : Nat) : Int)).toNat = 10 * t + 7 + tyN (sdN e 0) (sdN e 1) by omega] at *; omega) | (have q0 := wtS_bound hv ht he x (by omega); have q1 := hv (10 * t + 7 + x) (by omega); have q2 := hv (10 * t + 4 + x) (by omega); simp only [show (10 * (t : Int) + 7 + (x : Int)).toNat = 10 * t + 7 + x by omega, show (10 * (t : Int) + 4 + (x : Int)).toNat = 10 * t + 4 + x by omega] at *; omega))) ?_
  rw [show [[-1, 0, 1, 2, 0, -1, 2, 1, 1, 2, -1, 0, 2, 1, 0, -1].getD ((sdN e 0) * 4 + 0) 0, [-1, 0, 1, 2, 0, -1, 2, 1, 1, 2, -1, 0, 2, 1, 0, -1].getD ((sdN e 0) * 4 + 1) 0, [-1, 0, 1, 2, 0, -1, 2, 1, 1, 2, -1, 0, 2, 1, 0, -1].getD ((sdN e 0) * 4 + 2) 0, [-1, 0, 1, 2, 0, -1, 2, 1, 1, 2, -1, 0, 2, 1, 0, -1].getD ((sdN e 0) * 4 + 3) 0].getD (sdN e 1) 0 = ((tyN (sdN e 0) (sdN e 1) : Nat) : Int) from ty_el s0 s1 s2]
  refine we ?_
  refine tri_seq ?_
  refine kD 25 0x209202200209202000920200 [6, 13, 22] [ii (v (((10 * (t : Int)) + ((sdN e 0 : Nat) : Int)).toNat)), ii (v (((10 * (t : Int)) + ((sdN e 1 : Nat) : Int)).toNat)), ii (v ((((10 * (t : Int)) + 7) + ((tyN (sdN e 0) (sdN e 1) : Nat) : Int)).toNat))] [(10, ii (((v (((10 * (t : Int)) + ((sdN e 0 : Nat) : Int)).toNat)) + (v (((10 * (t : Int)) + ((sdN e 1 : Nat) : Int)).toNat))) + (v ((((10 * (t : Int)) + 7) + ((tyN (sdN e 0) (sdN e 1) : Nat) : Int)).toNat))))] [9, 0, 1] [I64 (10 * (t : Int)), I64 ((10 * (t : Int)) + ((sdN e 0 : Nat) : Int)), (0 : Int) ≤ (10 * (t : Int)) + ((sdN e 0 : Nat) : Int), (10 * (t : Int)) + ((sdN e 0 : Nat) : Int) < ((n : Nat) : Int), I64 (10 * (t : Int)), I64 ((10 * (t : Int)) + ((sdN e 1 : Nat) : Int)), (0 : Int) ≤ (10 * (t : Int)) + ((sdN e 1 : Nat) : Int), (10 * (t : Int)) + ((sdN e 1 : Nat) : Int) < ((n : Nat) : Int), I64 ((v (((10 * (t : Int)) + ((sdN e 0 : Nat) : Int)).toNat)) + (v (((10 * (t : Int)) + ((sdN e 1 : Nat) : Int)).toNat))), I64 (10 * (t : Int)), I64 ((10 * (t : Int)) + 7), I64 (((10 * (t : Int)) + 7) + ((tyN (sdN e 0) (sdN e 1) : Nat) : Int)), (0 : Int) ≤ ((10 * (t : Int)) + 7) + ((tyN (sdN e 0) (sdN e 1) : Nat) : Int), ((10 * (t : Int)) + 7) + ((tyN (sdN e 0) (sdN e 1) : Nat) : Int) < ((n : Nat) : Int), I64 (((v (((10 * (t : Int)) + ((sdN e 0 : Nat) : Int)).toNat)) + (v (((10 * (t : Int)) + ((sdN e 1 : Nat) : Int)).toNat))) + (v ((((10 * (t : Int)) + 7) + ((tyN (sdN e 0) (sdN e 1) : Nat) : Int)).toNat)))] [] rfl (by refine ap ?_ (ap ?_ (ap ?_ (ap ?_ (ap ?_ (ap ?_ (ap ?_ (ap ?_ (ap ?_ (ap ?_ (ap ?_ (ap ?_ (ap ?_ (ap ?_ (ap1 ?_)))))))))))))) <;> (first | omega | (have q0 := hv (10 * t + sdN e 0) (by omega); have q1 := hv (10 * t + sdN e 1) (by omega); have q2 := hv (10 * t + 7 + tyN (sdN e 0) (sdN e 1)) (by omega); simp only [show (10 * (t : Int) + ((sdN e 0 : Nat) : Int)).toNat = 10 * t + sdN e 0 by omega, show (10 * (t : Int) + ((sdN e 1 : Nat) : Int)).toNat = 10 * t + sdN e 1 by omega, show (10 * (t : Int) + 7 + ((tyN (sdN e 0) (sdN e 1) : Nat) : Int)).toNat = 10 * t + 7 + tyN (sdN e 0) (sdN e 1) by omega] at *; omega) | (have q0 := wtS_bound hv ht he x (by omega); have q1 := hv (10 * t + 7 + x) (by omega); have q2 := hv (10 * t + 4 + x) (by omega); simp only [show (10 * (t : Int) + 7 + (x : Int)).toNat = 10 * t + 7 + x by omega, show (10 * (t : Int) + 4 + (x : Int)).toNat = 10 * t + 4 + x by omega] at *; omega))) (qA (qM b (off + ((10 * (t : Int)) + ((sdN e 0 : Nat) : Int)).toNat) [ii (v (((10 * (t : Int)) + ((sdN e 0 : Nat) : Int)).toNat))] (hc.one (by omega))) (qA (qM b (off + ((10 * (t : Int)) + ((sdN e 1 : Nat) : Int)).toNat) [ii (v (((10 * (t : Int)) + ((sdN e 1 : Nat) : Int)).toNat))] (hc.one (by omega))) (qA (qM b (off + (((10 * (t : Int)) + 7) + ((tyN (sdN e 0) (sdN e 1) : Nat) : Int)).toNat) [ii (v ((((10 * (t : Int)) + 7) + ((tyN (sdN e 0) (sdN e 1) : Nat) : Int)).toNat))] (hc.one (by omega))) qZ))) ?_ (by kernel_rfl)
  refine we ?_
  refine tri_seq ?_
  refine wr [0] rfl ?_
  refine kSe 1 0 [(49, ii 0)] [10, 9, 0, 1] ?_
  refine tri_block ?_
  refine tri_eq (l' := [(49, ii 0), (10, ii (wtS v t e 0)), (9, ii ((tyN (sdN e 0) (sdN e 1) : Nat) : Int)), (0, sl b off n cap), (1, ii (t : Int))]) (hs' := []) (by simp only [show (10 * (t : Int) + ((sdN e 0 : Nat) : Int)).toNat = 10 * t + sdN e 0 by omega, show (10 * (t : Int) + ((sdN e 1 : Nat) : Int)).toNat = 10 * t + sdN e 1 by omega, show (10 * (t : Int) + 7 + ((tyN (sdN e 0) (sdN e 1) : Nat) : Int)).toNat = 10 * t + 7 + tyN (sdN e 0) (sdN e 1) by omega]; rfl) rfl ?_
  refine tri_loop (β := Nat) (fun xz => [(9, ii ((tyN (sdN e 0) (sdN e 1) : Nat) : Int)), (0, sl b off n cap), (1, ii (t : Int)), (49, ii (xz : Int)), (10, ii (wtS v t e xz))]) (fun xz => []) (fun xz => xz ≤ 3) (fun xz => 3 - xz) 0 (look_pickL (ks := [9, 0, 1, 49, 10]) (by kernel_rfl)) (List.Sublist.refl _) (by first | omega | (have q0 := hv (10 * t + sdN e 0) (by omega); have q1 := hv (10 * t + sdN e 1) (by omega); have q2 := hv (10 * t + 7 + tyN (sdN e 0) (sdN e 1)) (by omega); simp only [show (10 * (t : Int) + ((sdN e 0 : Nat) : Int)).toNat = 10 * t + sdN e 0 by omega, show (10 * (t : Int) + ((sdN e 1 : Nat) : Int)).toNat = 10 * t + sdN e 1 by omega, show (10 * (t : Int) + 7 + ((tyN (sdN e 0) (sdN e 1) : Nat) : Int)).toNat = 10 * t + 7 + tyN (sdN e 0) (sdN e 1) by omega] at *; omega) | (have q0 := wtS_bound hv ht he x (by omega); have q1 := hv (10 * t + 7 + x) (by omega); have q2 := hv (10 * t + 4 + x) (by omega); simp only [show (10 * (t : Int) + 7 + (x : Int)).toNat = 10 * t + 7 + x by omega, show (10 * (t : Int) + 4 + (x : Int)).toNat = 10 * t + 4 + x by omega] at *; omega)) ?_
  rintro x hC0
  try dsimp only at hC0
  refine tri_eq (l' := [(9, ii ((tyN (sdN e 0) (sdN e 1) : Nat) : Int)), (0, sl b off n cap), (1, ii (t : Int)), (49, ii (x : Int)), (10, ii (wtS v t e x))]) (hs' := []) rfl rfl ?_
  refine wr [0] rfl ?_
  refine kSe 1 5 [(50, .bool (decide ((x : Int) < 3)))] [9, 0, 1, 49, 10] ?_
  refine tri_seq ?_
  refine tri_cond_dec (p := (x : Int) < 3) rfl (fun h1 => ?_) (fun h1 => ?_)
  · refine tri_skip ?_
    refine post_then ?_
    refine tri_seq ?_
    refine tri_block ?_
    refine wr [0, 1] rfl ?_
    refine kSn 2 0 [(11, ii (x : Int))] [9, 0, 1, 49, 10] [0, 1, 2, 3, 4, 5, 6, 7, 8, 9, 10] ?_
    refine kO 8 2449612800 [(59, pt b (off + (((10 * (t : Int)) + 7) + (x : Int)).toNat)), (52, ii (wtS v t e x))] [11, 9, 0, 1, 49, 10] [I64 (10 * (t : Int)), I64 ((10 * (t : Int)) + 7), I64 (((10 * (t : Int)) + 7) + (x : Int)), (0 : Int) ≤ ((10 * (t : Int)) + 7) + (x : Int), ((10 * (t : Int)) + 7) + (x : Int) < ((n : Nat) : Int)] (by refine ap ?_ (ap ?_ (ap ?_ (ap ?_ (ap1 ?_)))) <;> (first | omega | (have q0 := hv (10 * t + sdN e 0) (by omega); have q1 := hv (10 * t + sdN e 1) (by omega); have q2 := hv (10 * t + 7 + tyN (sdN e 0) (sdN e 1)) (by omega); simp only [show (10 * (t : Int) + ((sdN e 0 : Nat) : Int)).toNat = 10 * t + sdN e 0 by omega, show (10 * (t : Int) + ((sdN e 1 : Nat) : Int)).toNat = 10 * t + sdN e 1 by omega, show (10 * (t : Int) + 7 + ((tyN (sdN e 0) (sdN e 1) : Nat) : Int)).toNat = 10 * t + 7 + tyN (sdN e 0) (sdN e 1) by omega] at *; omega) | (have q0 := wtS_bound hv ht he x (by omega); have q1 := hv (10 * t + 7 + x) (by omega); have q2 := hv (10 * t + 4 + x) (by omega); simp only [show (10 * (t : Int) + 7 + (x : Int)).toNat = 10 * t + 7 + x by omega, show (10 * (t : Int) + 4 + (x : Int)).toNat = 10 * t + 4 + x by omega] at *; omega))) ?_
    refine kM b (off + (((10 * (t : Int)) + 7) + (x : Int)).toNat) [ii (v ((((10 * (t : Int)) + 7) + (x : Int)).toNat))] (ii (v ((((10 * (t : Int)) + 7) + (x : Int)).toNat))) (hc.one (by omega)) ?_
    refine kOn 2 2 [(10, ii ((wtS v t e x) + (v ((((10 * (t : Int)) + 7) + (x : Int)).toNat))))] [11, 9, 0, 1, 49] [I64 ((wtS v t e x) + (v ((((10 * (t : Int)) + 7) + (x : Int)).toNat)))] [0, 1, 2] (ap1 (by first | omega | (have q0 := hv (10 * t + sdN e 0) (by omega); have q1 := hv (10 * t + sdN e 1) (by omega); have q2 := hv (10 * t + 7 + tyN (sdN e 0) (sdN e 1)) (by omega); simp only [show (10 * (t : Int) + ((sdN e 0 : Nat) : Int)).toNat = 10 * t + sdN e 0 by omega, show (10 * (t : Int) + ((sdN e 1 : Nat) : Int)).toNat = 10 * t + sdN e 1 by omega, show (10 * (t : Int) + 7 + ((tyN (sdN e 0) (sdN e 1) : Nat) : Int)).toNat = 10 * t + 7 + tyN (sdN e 0) (sdN e 1) by omega] at *; omega) | (have q0 := wtS_bound hv ht he x (by omega); have q1 := hv (10 * t + 7 + x) (by omega); have q2 := hv (10 * t + 4 + x) (by omega); simp only [show (10 * (t : Int) + 7 + (x : Int)).toNat = 10 * t + 7 + x by omega, show (10 * (t : Int) + 4 + (x : Int)).toNat = 10 * t + 4 + x by omega] at *; omega))) ?_
    refine kSe 3 1280 [(64, .bool (!decide ((x : Int) = ((tyN (sdN e 0) (sdN e 1) : Nat) : Int))))] [10, 11, 9, 0, 1, 49] ?_
    refine tri_cond (b := !decide ((x : Int) = ((tyN (sdN e 0) (sdN e 1) : Nat) : Int))) rfl (fun h2 => ?_) (fun h2 => ?_)
    · simp only [Bool.not_eq_true', decide_eq_false_iff_not] at h2
      refine tri_region (todo := [0, 1, 2, 3, 4, 5, 6, 7, 8, 9, 10]) rfl ?_
      refine kO 8 2449612800 [(72, pt b (off + (((10 * (t : Int)) + 4) + (x : Int)).toNat)), (65, ii ((wtS v t e x) + (v ((((10 * (t : Int)) + 7) + (x : Int)).toNat))))] [10, 9, 0, 1, 49] [I64 (10 * (t : Int)), I64 ((10 * (t : Int)) + 4), I64 (((10 * (t : Int)) + 4) + (x : Int)), (0 : Int) ≤ ((10 * (t : Int)) + 4) + (x : Int), ((10 * (t : Int)) + 4) + (x : Int) < ((n : Nat) : Int)] (by refine ap ?_ (ap ?_ (ap ?_ (ap ?_ (ap1 ?_)))) <;> (first | omega | (have q0 := hv (10 * t + sdN e 0) (by omega); have q1 := hv (10 * t + sdN e 1) (by omega); have q2 := hv (10 * t + 7 + tyN (sdN e 0) (sdN e 1)) (by omega); simp only [show (10 * (t : Int) + ((sdN e 0 : Nat) : Int)).toNat = 10 * t + sdN e 0 by omega, show (10 * (t : Int) + ((sdN e 1 : Nat) : Int)).toNat = 10 * t + sdN e 1 by omega, show (10 * (t : Int) + 7 + ((tyN (sdN e 0) (sdN e 1) : Nat) : Int)).toNat = 10 * t + 7 + tyN (sdN e 0) (sdN e 1) by omega] at *; omega) | (have q0 := wtS_bound hv ht he x (by omega); have q1 := hv (10 * t + 7 + x) (by omega); have q2 := hv (10 * t + 4 + x) (by omega); simp only [show (10 * (t : Int) + 7 + (x : Int)).toNat = 10 * t + 7 + x by omega, show (10 * (t : Int) + 4 + (x : Int)).toNat = 10 * t + 4 + x by omega] at *; omega))) ?_
      refine kM b (off + (((10 * (t : Int)) + 4) + (x : Int)).toNat) [ii (v ((((10 * (t : Int)) + 4) + (x : Int)).toNat))] (ii (v ((((10 * (t : Int)) + 4) + (x : Int)).toNat))) (hc.one (by omega)) ?_
      refine kO 2 2 [(10, ii (((wtS v t e x) + (v ((((10 * (t : Int)) + 7) + (x : Int)).toNat))) + (v ((((10 * (t : Int)) + 4) + (x : Int)).toNat))))] [9, 0, 1, 49] [I64 (((wtS v t e x) + (v ((((10 * (t : Int)) + 7) + (x : Int)).toNat))) + (v ((((10 * (t : Int)) + 4) + (x : Int)).toNat)))] (ap1 (by first | omega | (have q0 := hv (10 * t + sdN e 0) (by omega); have q1 := hv (10 * t + sdN e 1) (by omega); have q2 := hv (10 * t + 7 + tyN (sdN e 0) (sdN e 1)) (by omega); simp only [show (10 * (t : Int) + ((sdN e 0 : Nat) : Int)).toNat = 10 * t + sdN e 0 by omega, show (10 * (t : Int) + ((sdN e 1 : Nat) : Int)).toNat = 10 * t + sdN e 1 by omega, show (10 * (t : Int) + 7 + ((tyN (sdN e 0) (sdN e 1) : Nat) : Int)).toNat = 10 * t + 7 + tyN (sdN e 0) (sdN e 1) by omega] at *; omega) | (have q0 := wtS_bound hv ht he x (by omega); have q1 := hv (10 * t + 7 + x) (by omega); have q2 := hv (10 * t + 4 + x) (by omega); simp only [show (10 * (t : Int) + 7 + (x : Int)).toNat = 10 * t + 7 + x by omega, show (10 * (t : Int) + 4 + (x : Int)).toNat = 10 * t + 4 + x by omega] at *; omega))) ?_
      refine opsT_end ?_
      refine post_block ?_
      refine post_then ?_
      refine tri_region (todo := [0, 1]) rfl ?_
      refine kO 2 2 [(49, ii ((x : Int) + 1))] [10, 9, 0, 1] [I64 ((x : Int) + 1)] (ap1 (by first | omega | (have q0 := hv (10 * t + sdN e 0) (by omega); have q1 := hv (10 * t + sdN e 1) (by omega); have q2 := hv (10 * t + 7 + tyN (sdN e 0) (sdN e 1)) (by omega); simp only [show (10 * (t : Int) + ((sdN e 0 : Nat) : Int)).toNat = 10 * t + sdN e 0 by omega, show (10 * (t : Int) + ((sdN e 1 : Nat) : Int)).toNat = 10 * t + sdN e 1 by omega, show (10 * (t : Int) + 7 + ((tyN (sdN e 0) (sdN e 1) : Nat) : Int)).toNat = 10 * t + 7 + tyN (sdN e 0) (sdN e 1) by omega] at *; omega) | (have q0 := wtS_bound hv ht he x (by omega); have q1 := hv (10 * t + 7 + x) (by omega); have q2 := hv (10 * t + 4 + x) (by omega); simp only [show (10 * (t : Int) + 7 + (x : Int)).toNat = 10 * t + 7 + x by omega, show (10 * (t : Int) + 4 + (x : Int)).toNat = 10 * t + 4 + x by omega] at *; omega))) ?_
      refine opsT_end ?_
      refine post_leq (l' := [(49, ii ((x : Int) + 1)), (10, ii (wtS v t e (x + 1))), (9, ii ((tyN (sdN e 0) (sdN e 1) : Nat) : Int)), (0, sl b off n cap), (1, ii (t : Int))]) (by simp only [show (10 * (t : Int) + 7 + (x : Int)).toNat = 10 * t + 7 + x by omega, show (10 * (t : Int) + 4 + (x : Int)).toNat = 10 * t + 4 + x by omega]; rw [wtS, if_neg (by omega)]) ?_
      refine post_round (x + 1) (by omega) (by show 3 - (x + 1) < 3 - x; omega) (look_pickL (ks := [9, 0, 1, 49, 10]) (by kernel_rfl)) (List.Sublist.refl _)
    · simp only [Bool.not_eq_false', decide_eq_true_eq] at h2
      refine tri_skip ?_
      refine post_block ?_
      refine post_then ?_
      refine tri_region (todo := [0, 1]) rfl ?_
      refine kO 2 2 [(49, ii ((x : Int) + 1))] [10, 9, 0, 1] [I64 ((x : Int) + 1)] (ap1 (by first | omega | (have q0 := hv (10 * t + sdN e 0) (by omega); have q1 := hv (10 * t + sdN e 1) (by omega); have q2 := hv (10 * t + 7 + tyN (sdN e 0) (sdN e 1)) (by omega); simp only [show (10 * (t : Int) + ((sdN e 0 : Nat) : Int)).toNat = 10 * t + sdN e 0 by omega, show (10 * (t : Int) + ((sdN e 1 : Nat) : Int)).toNat = 10 * t + sdN e 1 by omega, show (10 * (t : Int) + 7 + ((tyN (sdN e 0) (sdN e 1) : Nat) : Int)).toNat = 10 * t + 7 + tyN (sdN e 0) (sdN e 1) by omega] at *; omega) | (have q0 := wtS_bound hv ht he x (by omega); have q1 := hv (10 * t + 7 + x) (by omega); have q2 := hv (10 * t + 4 + x) (by omega); simp only [show (10 * (t : Int) + 7 + (x : Int)).toNat = 10 * t + 7 + x by omega, show (10 * (t : Int) + 4 + (x : Int)).toNat = 10 * t + 4 + x by omega] at *; omega))) ?_
      refine opsT_end ?_
      refine post_leq (l' := [(49, ii ((x : Int) + 1)), (10, ii (wtS v t e (x + 1))), (9, ii ((tyN (sdN e 0) (sdN e 1) : Nat) : Int)), (0, sl b off n cap), (1, ii (t : Int))]) (by simp only [show (10 * (t : Int) + 7 + (x : Int)).toNat = 10 * t + 7 + x by omega]; rw [wtS, if_pos (by omega), Int.add_zero]) ?_
      refine post_round (x + 1) (by omega) (by show 3 - (x + 1) < 3 - x; omega) (look_pickL (ks := [9, 0, 1, 49, 10]) (by kernel_rfl)) (List.Sublist.refl _)
  · refine tri_exit ?_
    refine post_then_exit ?_
    refine post_round_exit ?_
    refine post_block_hit ?_
    refine post_then ?_
    refine wr [0, 1] rfl ?_
    refine kSe 2 0 [(6, ii (wtS v t e x))] [] ?_
    refine tri_ret ?_
    refine post_ret1 (v := ii (wtS v t e x)) rfl (.tmp rfl) (fun W hR => ?_)
    exact ⟨by rw [show x = 3 by omega, wtS_three], hR.ext⟩
end Go.Proofs.YtlkbokbcfajhjaaGreat
