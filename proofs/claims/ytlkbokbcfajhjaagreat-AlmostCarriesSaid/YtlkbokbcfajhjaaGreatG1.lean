/- G1: permutations and faces of a gluing -/
import Derived.Test.YtlkbokbcfajhjaaGreatRows
import Derived.Test.YtlkbokbcfajhjaaGreatB5
import Derived.Test.YtlkbokbcfajhjaaGreatB17
import Derived.Test.YtlkbokbcfajhjaaGreatD1
namespace Go.Proofs.YtlkbokbcfajhjaaGreat
open Go.Proofs.Walk
set_option maxRecDepth 100000
set_option linter.unusedVariables false
set_option linter.unusedSimpArgs false

theorem getD_sel (a b c d i : Int) (h0 : 0 ≤ i) (h : i < 4) : [a, b, c, d].getD i.toNat 0 = sel a b c d i := by
  have : i = 0 ∨ i = 1 ∨ i = 2 ∨ i = 3 := by omega
  rcases this with rfl | rfl | rfl | rfl <;> rfl
theorem bits_yes : ∀ a b c d : Fin 4, (a ≠ b ∧ a ≠ c ∧ a ≠ d ∧ b ≠ c ∧ b ≠ d ∧ c ≠ d) → orI (orI (orI (orI 0 (shlI 1 a.1)) (shlI 1 b.1)) (shlI 1 c.1)) (shlI 1 d.1) = 15 := by decide
theorem bits_no : ∀ a b c d : Fin 4, orI (orI (orI (orI 0 (shlI 1 a.1)) (shlI 1 b.1)) (shlI 1 c.1)) (shlI 1 d.1) = 15 → a ≠ b ∧ a ≠ c ∧ a ≠ d ∧ b ≠ c ∧ b ≠ d ∧ c ≠ d := by decide
theorem bits (a b c d : Int) (h : ¬ a < 0) (h' : ¬ 3 < a) (k : ¬ b < 0) (k' : ¬ 3 < b) (m : ¬ c < 0) (m' : ¬ 3 < c) (o : ¬ d < 0) (o' : ¬ 3 < d) :
    decide (orI (orI (orI (orI 0 (shlI 1 a)) (shlI 1 b)) (shlI 1 c)) (shlI 1 d) = 15) = decide (OkPerm a b c d) := by
  obtain ⟨a, rfl⟩ : ∃ x : Fin 4, a = x.1 := ⟨⟨a.toNat, by omega⟩, by simp; omega⟩
  obtain ⟨b, rfl⟩ : ∃ x : Fin 4, b = x.1 := ⟨⟨b.toNat, by omega⟩, by simp; omega⟩
  obtain ⟨c, rfl⟩ : ∃ x : Fin 4, c = x.1 := ⟨⟨c.toNat, by omega⟩, by simp; omega⟩
  obtain ⟨d, rfl⟩ : ∃ x : Fin 4, d = x.1 := ⟨⟨d.toNat, by omega⟩, by simp; omega⟩
  rw [decide_eq_decide]
  constructor
  · intro hb
    have hn := bits_no a b c d hb
    refine ⟨by omega, by omega, by omega, by omega, by omega, by omega, by omega, by omega, ?_, ?_, ?_, ?_, ?_, ?_⟩ <;> intro he <;> simp [Fin.ext_iff] at hn <;> omega
  · intro hp
    obtain ⟨_, _, _, _, _, _, _, _, h1, h2, h3, h4, h5, h6⟩ := hp
    exact bits_yes a b c d ⟨fun h => h1 (by rw [h]), fun h => h2 (by rw [h]), fun h => h3 (by rw [h]), fun h => h4 (by rw [h]), fun h => h5 (by rw [h]), fun h => h6 (by rw [h])⟩

theorem en46 : Walk.Enters Tryz.prog 46 := Walk.enters Tryz.func46 (by kernel_rfl) rfl
theorem en47 : Walk.Enters Tryz.prog 47 := Walk.enters Tryz.func47 (by kernel_rfl) rfl
theorem en48 : Walk.Enters Tryz.prog 48 := Walk.enters Tryz.func48 (by kernel_rfl) rfl
theorem en92 : Walk.Enters Tryz.prog 92 := Walk.enters Tryz.func92 (by kernel_rfl) rfl
theorem en166 : Walk.Enters Tryz.prog 166 := Walk.enters Tryz.func166 (by kernel_rfl) rfl
theorem valid (p0 p1 p2 p3 : Int) (w : World) : Calls Tryz.prog 46 #[.agg #[ii p0, ii p1, ii p2, ii p3]] w fun e w' => e = .returned (.bool (decide (OkPerm p0 p1 p2 p3))) ∧ Ext w w' := by
  refine calls_of (n := 23) Tryz.func46 rfl Tryz.ntmps46 rfl ?_
  refine tri_eq (l' := [(0, .agg #[ii p0, ii p1, ii p2, ii p3])]) (hs' := []) rfl rfl ?_
  refine wr [0, 1] rfl ?_
  refine kB (.agg #[ii p0, ii p1, ii p2, ii p3]) fun b1 => ?_
  refine kSn 1 0 [] [1] [0] ?_
  refine kSe 1 0 [(3, ii 0)] [1] ?_
  refine tri_seq ?_
  refine wr [0, 1] rfl ?_
  refine kL 0 (.agg #[ii p0, ii p1, ii p2, ii p3]) ?_
  refine kSe 1 0 [(7, ii 0)] [6, 3] ?_
  refine tri_block ?_
  refine tri_rounds 4 ?_
  refine wr [0] rfl ?_
  refine kSe 1 0 [(8, .bool true)] [7, 6, 3] ?_
  refine tri_seq ?_
  refine tri_cond_true rfl ?_
  refine tri_skip ?_
  refine post_then ?_
  refine tri_seq ?_
  refine tri_block ?_
  refine wr [0, 1] rfl ?_
  refine kSe 2 0 [(5, ii p0)] [7, 6, 3] ?_
  refine tri_seq ?_
  refine tri_seq ?_
  by_cases h1 : p0 < 0
  · refine tri_region (todo := [0, 1, 2, 3, 4, 5]) rfl ?_
    refine kOe 6 69728 [(15, .bool true)] [5, 7, 6, 3] [p0 < 0] h1 ?_
    refine tri_cond_true rfl ?_
    refine wr [0] rfl ?_
    refine kSe 1 0 [(2, .bool false)] [] ?_
    refine tri_ret ?_
    refine post_then_ret ?_
    refine post_block_ret ?_
    refine post_then_ret ?_
    refine post_more_ret ?_
    refine post_block_ret ?_
    refine post_then_ret ?_
    refine post_ret1 (v := .bool false) rfl (.tmp rfl) (fun W hR => ?_)
    refine ⟨?_, hR.ext⟩
    first | (rw [bits p0 p1 p2 p3] <;> assumption) | (congr 2; symm; rw [decide_eq_false_iff_not]; rintro ⟨_, _, _, _, _, _, _, _, _⟩; omega)
  · refine tri_region (todo := [0, 1, 2, 3, 4, 5]) rfl ?_
    refine kOe 6 327792 [(15, .bool (decide (3 < p0)))] [5, 7, 6, 3] [¬ (p0 < 0)] h1 ?_
    refine tri_cond_dec (p := 3 < p0) rfl (fun h2 => ?_) (fun h2 => ?_)
    · refine wr [0] rfl ?_
      refine kSe 1 0 [(2, .bool false)] [] ?_
      refine tri_ret ?_
      refine post_then_ret ?_
      refine post_block_ret ?_
      refine post_then_ret ?_
      refine post_more_ret ?_
      refine post_block_ret ?_
      refine post_then_ret ?_
      refine post_ret1 (v := .bool false) rfl (.tmp rfl) (fun W hR => ?_)
      refine ⟨?_, hR.ext⟩
      first | (rw [bits p0 p1 p2 p3] <;> assumption) | (congr 2; symm; rw [decide_eq_false_iff_not]; rintro ⟨_, _, _, _, _, _, _, _, _⟩; omega)
    · refine tri_skip ?_
      refine post_then ?_
      refine tri_region (todo := [0, 1, 2, 3, 4]) rfl ?_
      refine kO 5 3072 [(3, ii (orI 0 (shlI 1 p0)))] [7, 6] [(0 : Int) ≤ p0] (ap1 (by first | omega | (simp; done) | assumption)) ?_
      refine opsT_end ?_
      refine post_block ?_
      refine post_then ?_
      refine tri_region (todo := [0, 1]) rfl ?_
      refine kS 2 0 [(7, ii 1)] [3, 6] ?_
      refine opsT_end ?_
      refine post_more ?_
      refine wr [0] rfl ?_
      refine kSe 1 0 [(8, .bool true)] [7, 3, 6] ?_
      refine tri_seq ?_
      refine tri_cond_true rfl ?_
      refine tri_skip ?_
      refine post_then ?_
      refine tri_seq ?_
      refine tri_block ?_
      refine wr [0, 1] rfl ?_
      refine kSe 2 0 [(5, ii p1)] [7, 3, 6] ?_
      refine tri_seq ?_
      refine tri_seq ?_
      by_cases h3 : p1 < 0
      · refine tri_region (todo := [0, 1, 2, 3, 4, 5]) rfl ?_
        refine kOe 6 69728 [(15, .bool true)] [5, 7, 3, 6] [p1 < 0] h3 ?_
        refine tri_cond_true rfl ?_
        refine wr [0] rfl ?_
        refine kSe 1 0 [(2, .bool false)] [] ?_
        refine tri_ret ?_
        refine post_then_ret ?_
        refine post_block_ret ?_
        refine post_then_ret ?_
        refine post_more_ret ?_
        refine post_block_ret ?_
        refine post_then_ret ?_
        refine post_ret1 (v := .bool false) rfl (.tmp rfl) (fun W hR => ?_)
        refine ⟨?_, hR.ext⟩
        first | (rw [bits p0 p1 p2 p3] <;> assumption) | (congr 2; symm; rw [decide_eq_false_iff_not]; rintro ⟨_, _, _, _, _, _, _, _, _⟩; omega)
      · refine tri_region (todo := [0, 1, 2, 3, 4, 5]) rfl ?_
        refine kOe 6 327792 [(15, .bool (decide (3 < p1)))] [5, 7, 3, 6] [¬ (p1 < 0)] h3 ?_
        refine tri_cond_dec (p := 3 < p1) rfl (fun h4 => ?_) (fun h4 => ?_)
        · refine wr [0] rfl ?_
          refine kSe 1 0 [(2, .bool false)] [] ?_
          refine tri_ret ?_
          refine post_then_ret ?_
          refine post_block_ret ?_
          refine post_then_ret ?_
          refine post_more_ret ?_
          refine post_block_ret ?_
          refine post_then_ret ?_
          refine post_ret1 (v := .bool false) rfl (.tmp rfl) (fun W hR => ?_)
          refine ⟨?_, hR.ext⟩
          first | (rw [bits p0 p1 p2 p3] <;> assumption) | (congr 2; symm; rw [decide_eq_false_iff_not]; rintro ⟨_, _, _, _, _, _, _, _, _⟩; omega)
        · refine tri_skip ?_
          refine post_then ?_
          refine tri_region (todo := [0, 1, 2, 3, 4]) rfl ?_
          refine kO 5 3072 [(3, ii (orI (orI 0 (shlI 1 p0)) (shlI 1 p1)))] [7, 6] [(0 : Int) ≤ p1] (ap1 (by first | omega | (simp; done) | assumption)) ?_
          refine opsT_end ?_
          refine post_block ?_
          refine post_then ?_
          refine tri_region (todo := [0, 1]) rfl ?_
          refine kS 2 0 [(7, ii 2)] [3, 6] ?_
          refine opsT_end ?_
          refine post_more ?_
          refine wr [0] rfl ?_
          refine kSe 1 0 [(8, .bool true)] [7, 3, 6] ?_
          refine tri_seq ?_
          refine tri_cond_true rfl ?_
          refine tri_skip ?_
          refine post_then ?_
          refine tri_seq ?_
          refine tri_block ?_
          refine wr [0, 1] rfl ?_
          refine kSe 2 0 [(5, ii p2)] [7, 3, 6] ?_
          refine tri_seq ?_
          refine tri_seq ?_
          by_cases h5 : p2 < 0
          · refine tri_region (todo := [0, 1, 2, 3, 4, 5]) rfl ?_
            refine kOe 6 69728 [(15, .bool true)] [5, 7, 3, 6] [p2 < 0] h5 ?_
            refine tri_cond_true rfl ?_
            refine wr [0] rfl ?_
            refine kSe 1 0 [(2, .bool false)] [] ?_
            refine tri_ret ?_
            refine post_then_ret ?_
            refine post_block_ret ?_
            refine post_then_ret ?_
            refine post_more_ret ?_
            refine post_block_ret ?_
            refine post_then_ret ?_
            refine post_ret1 (v := .bool false) rfl (.tmp rfl) (fun W hR => ?_)
            refine ⟨?_, hR.ext⟩
            first | (rw [bits p0 p1 p2 p3] <;> assumption) | (congr 2; symm; rw [decide_eq_false_iff_not]; rintro ⟨_, _, _, _, _, _, _, _, _⟩; omega)
          · refine tri_region (todo := [0, 1, 2, 3, 4, 5]) rfl ?_
            refine kOe 6 327792 [(15, .bool (decide (3 < p2)))] [5, 7, 3, 6] [¬ (p2 < 0)] h5 ?_
            refine tri_cond_dec (p := 3 < p2) rfl (fun h6 => ?_) (fun h6 => ?_)
            · refine wr [0] rfl ?_
              refine kSe 1 0 [(2, .bool false)] [] ?_
              refine tri_ret ?_
              refine post_then_ret ?_
              refine post_block_ret ?_
              refine post_then_ret ?_
              refine post_more_ret ?_
              refine post_block_ret ?_
              refine post_then_ret ?_
              refine post_ret1 (v := .bool false) rfl (.tmp rfl) (fun W hR => ?_)
              refine ⟨?_, hR.ext⟩
              first | (rw [bits p0 p1 p2 p3] <;> assumption) | (congr 2; symm; rw [decide_eq_false_iff_not]; rintro ⟨_, _, _, _, _, _, _, _, _⟩; omega)
            · refine tri_skip ?_
              refine post_then ?_
              refine tri_region (todo := [0, 1, 2, 3, 4]) rfl ?_
              refine kO 5 3072 [(3, ii (orI (orI (orI 0 (shlI 1 p0)) (shlI 1 p1)) (shlI 1 p2)))] [7, 6] [(0 : Int) ≤ p2] (ap1 (by first | omega | (simp; done) | assumption)) ?_
              refine opsT_end ?_
              refine post_block ?_
              refine post_then ?_
              refine tri_region (todo := [0, 1]) rfl ?_
              refine kS 2 0 [(7, ii 3)] [3, 6] ?_
              refine opsT_end ?_
              refine post_more ?_
              refine wr [0] rfl ?_
              refine kSe 1 0 [(8, .bool true)] [7, 3, 6] ?_
              refine tri_seq ?_
              refine tri_cond_true rfl ?_
              refine tri_skip ?_
              refine post_then ?_
              refine tri_seq ?_
              refine tri_block ?_
              refine wr [0, 1] rfl ?_
              refine kSe 2 0 [(5, ii p3)] [7, 3, 6] ?_
              refine tri_seq ?_
              refine tri_seq ?_
              by_cases h7 : p3 < 0
              · refine tri_region (todo := [0, 1, 2, 3, 4, 5]) rfl ?_
                refine kOe 6 69728 [(15, .bool true)] [5, 7, 3, 6] [p3 < 0] h7 ?_
                refine tri_cond_true rfl ?_
                refine wr [0] rfl ?_
                refine kSe 1 0 [(2, .bool false)] [] ?_
                refine tri_ret ?_
                refine post_then_ret ?_
                refine post_block_ret ?_
                refine post_then_ret ?_
                refine post_more_ret ?_
                refine post_block_ret ?_
                refine post_then_ret ?_
                refine post_ret1 (v := .bool false) rfl (.tmp rfl) (fun W hR => ?_)
                refine ⟨?_, hR.ext⟩
                first | (rw [bits p0 p1 p2 p3] <;> assumption) | (congr 2; symm; rw [decide_eq_false_iff_not]; rintro ⟨_, _, _, _, _, _, _, _, _⟩; omega)
              · refine tri_region (todo := [0, 1, 2, 3, 4, 5]) rfl ?_
                refine kOe 6 327792 [(15, .bool (decide (3 < p3)))] [5, 7, 3, 6] [¬ (p3 < 0)] h7 ?_
                refine tri_cond_dec (p := 3 < p3) rfl (fun h8 => ?_) (fun h8 => ?_)
                · refine wr [0] rfl ?_
                  refine kSe 1 0 [(2, .bool false)] [] ?_
                  refine tri_ret ?_
                  refine post_then_ret ?_
                  refine post_block_ret ?_
                  refine post_then_ret ?_
                  refine post_more_ret ?_
                  refine post_block_ret ?_
                  refine post_then_ret ?_
                  refine post_ret1 (v := .bool false) rfl (.tmp rfl) (fun W hR => ?_)
                  refine ⟨?_, hR.ext⟩
                  first | (rw [bits p0 p1 p2 p3] <;> assumption) | (congr 2; symm; rw [decide_eq_false_iff_not]; rintro ⟨_, _, _, _, _, _, _, _, _⟩; omega)
                · refine tri_skip ?_
                  refine post_then ?_
                  refine tri_region (todo := [0, 1, 2, 3, 4]) rfl ?_
                  refine kO 5 3072 [(3, ii (orI (orI (orI (orI 0 (shlI 1 p0)) (shlI 1 p1)) (shlI 1 p2)) (shlI 1 p3)))] [7, 6] [(0 : Int) ≤ p3] (ap1 (by first | omega | (simp; done) | assumption)) ?_
                  refine opsT_end ?_
                  refine post_block ?_
                  refine post_then ?_
                  refine tri_region (todo := [0, 1]) rfl ?_
                  refine kS 2 0 [(7, ii 4)] [3, 6] ?_
                  refine opsT_end ?_
                  refine post_more ?_
                  refine wr [0] rfl ?_
                  refine kSe 1 0 [(8, .bool false)] [7, 3, 6] ?_
                  refine tri_seq ?_
                  refine tri_cond_false rfl ?_
                  refine tri_exit ?_
                  refine post_then_exit ?_
                  refine post_more_exit ?_
                  refine post_block_hit ?_
                  refine post_then ?_
                  refine wr [0, 1, 2] rfl ?_
                  refine kSe 3 80 [(2, .bool (decide (orI (orI (orI (orI 0 (shlI 1 p0)) (shlI 1 p1)) (shlI 1 p2)) (shlI 1 p3) = 15)))] [] ?_
                  refine tri_ret ?_
                  refine post_ret1 (v := .bool (decide (orI (orI (orI (orI 0 (shlI 1 p0)) (shlI 1 p1)) (shlI 1 p2)) (shlI 1 p3) = 15))) rfl (.tmp rfl) (fun W hR => ?_)
                  refine ⟨?_, hR.ext⟩
                  first | (rw [bits p0 p1 p2 p3] <;> assumption) | (congr 2; symm; rw [decide_eq_false_iff_not]; rintro ⟨_, _, _, _, _, _, _, _, _⟩; omega)
theorem valid_yes {p0 p1 p2 p3 : Int} (h : OkPerm p0 p1 p2 p3) (w : World) : Calls Tryz.prog 46 #[.agg #[ii p0, ii p1, ii p2, ii p3]] w fun e w' => e = .returned (.bool true) ∧ Ext w w' :=
  (valid p0 p1 p2 p3 w).mono fun e w' h' => ⟨by rw [h'.1, decide_eq_true h], h'.2⟩
theorem valid_no {p0 p1 p2 p3 : Int} (h : ¬ OkPerm p0 p1 p2 p3) (w : World) : Calls Tryz.prog 46 #[.agg #[ii p0, ii p1, ii p2, ii p3]] w fun e w' => e = .returned (.bool false) ∧ Ext w w' :=
  (valid p0 p1 p2 p3 w).mono fun e w' h' => ⟨by rw [h'.1, decide_eq_false h], h'.2⟩

theorem inverse_fin : ∀ a b c d : Fin 4, OkPerm a.1 b.1 c.1 d.1 → (((([0, 0, 0, 0] : List Int).set (0 + a.1) 0).set (0 + b.1) 1).set (0 + c.1) 2).set (0 + d.1) 3 = [inv a.1 b.1 c.1 d.1 0, inv a.1 b.1 c.1 d.1 1, inv a.1 b.1 c.1 d.1 2, inv a.1 b.1 c.1 d.1 3] := by decide
theorem inverse_law (p0 p1 p2 p3 : Int) (h : OkPerm p0 p1 p2 p3) : (((([0, 0, 0, 0] : List Int).set (0 + p0.toNat) 0).set (0 + p1.toNat) 1).set (0 + p2.toNat) 2).set (0 + p3.toNat) 3 = [inv p0 p1 p2 p3 0, inv p0 p1 p2 p3 1, inv p0 p1 p2 p3 2, inv p0 p1 p2 p3 3] := by
  obtain ⟨a, rfl⟩ : ∃ x : Fin 4, p0 = x.1 := ⟨⟨p0.toNat, by omega⟩, by simp; omega⟩
  obtain ⟨b, rfl⟩ : ∃ x : Fin 4, p1 = x.1 := ⟨⟨p1.toNat, by omega⟩, by simp; omega⟩
  obtain ⟨c, rfl⟩ : ∃ x : Fin 4, p2 = x.1 := ⟨⟨p2.toNat, by omega⟩, by simp; omega⟩
  obtain ⟨d, rfl⟩ : ∃ x : Fin 4, p3 = x.1 := ⟨⟨p3.toNat, by omega⟩, by simp; omega⟩
  exact inverse_fin a b c d h
theorem inverse {p0 p1 p2 p3 : Int} (hp : OkPerm p0 p1 p2 p3) (w : World) : Calls Tryz.prog 48 #[.agg #[ii p0, ii p1, ii p2, ii p3]] w fun e w' => e = .returned (.agg #[ii (inv p0 p1 p2 p3 0), ii (inv p0 p1 p2 p3 1), ii (inv p0 p1 p2 p3 2), ii (inv p0 p1 p2 p3 3)]) ∧ Ext w w' := by
  have ⟨h0, h1, h2, h3, h4, h5, h6, h7, _⟩ := hp
  refine calls_of (n := 16) Tryz.func48 rfl Tryz.ntmps48 rfl ?_
  refine tri_eq (l' := [(0, .agg #[ii p0, ii p1, ii p2, ii p3])]) (hs' := []) rfl rfl ?_
  refine wr [0, 1] rfl ?_
  refine kB (.agg #[ii p0, ii p1, ii p2, ii p3]) fun b1 => ?_
  refine kA (.agg #[ii 0, ii 0, ii 0, ii 0]) fun b2 => ?_
  refine kP [2, 1] ?_
  refine wn [0] rfl ?_
  refine kA (.agg #[ii 0, ii 0, ii 0, ii 0]) fun b3 => ?_
  refine we ?_
  refine tri_seq ?_
  refine wr [0, 1] rfl ?_
  refine kL 2 (.agg #[ii p0, ii p1, ii p2, ii p3]) ?_
  refine kSe 1 0 [(7, ii 0)] [6, 3, 2] ?_
  refine tri_block ?_
  refine tri_rounds 4 ?_
  refine wr [0] rfl ?_
  refine kSe 1 0 [(8, .bool true)] [7, 6, 3, 2] ?_
  refine tri_seq ?_
  refine tri_cond_true rfl ?_
  refine tri_skip ?_
  refine post_then ?_
  refine tri_seq ?_
  refine tri_block ?_
  refine wr [0, 1, 2, 3] rfl ?_
  refine kSe 4 0 [(5, ii p0), (4, ii 0)] [7, 6, 3, 2] ?_
  refine tri_region (todo := [0, 1, 2, 3]) rfl ?_
  refine kO 3 2304 [(13, pt b3 (0 + p0.toNat)), (12, ii 0)] [7, 6, 3, 2] [(0 : Int) ≤ p0, p0 < ((4 : Nat) : Int)] (by refine ap ?_ (ap1 ?_) <;> (first | omega | assumption)) ?_
  refine opsT_heq (hs' := [(b3, intsB [0, 0, 0, 0] 72), (b2, .cells #[ii 0, ii 0, ii 0, ii 0] 72 (0, 0)), (b1, .cells #[ii p0, ii p1, ii p2, ii p3] 72 (0, 0))]) rfl ?_
  refine opsT_storeInt 0 b3 (0 + p0.toNat) [0, 0, 0, 0] 72 0 rfl rfl rfl rfl rfl rfl rfl rfl (by kernel_rfl) (by simp <;> omega) ?_
  refine kP [7, 6, 3, 2] ?_
  refine opsT_end ?_
  refine post_block ?_
  refine post_then ?_
  refine tri_region (todo := [0, 1]) rfl ?_
  refine kS 2 0 [(7, ii 1)] [6, 3, 2] ?_
  refine opsT_end ?_
  refine post_more ?_
  refine wr [0] rfl ?_
  refine kSe 1 0 [(8, .bool true)] [7, 6, 3, 2] ?_
  refine tri_seq ?_
  refine tri_cond_true rfl ?_
  refine tri_skip ?_
  refine post_then ?_
  refine tri_seq ?_
  refine tri_block ?_
  refine wr [0, 1, 2, 3] rfl ?_
  refine kSe 4 0 [(5, ii p1), (4, ii 1)] [7, 6, 3, 2] ?_
  refine tri_region (todo := [0, 1, 2, 3]) rfl ?_
  refine kO 3 2304 [(13, pt b3 (0 + p1.toNat)), (12, ii 1)] [7, 6, 3, 2] [(0 : Int) ≤ p1, p1 < ((4 : Nat) : Int)] (by refine ap ?_ (ap1 ?_) <;> (first | omega | assumption)) ?_
  refine opsT_storeInt 0 b3 (0 + p1.toNat) ([0, 0, 0, 0].set (0 + p0.toNat) 0) 72 1 rfl rfl rfl rfl rfl rfl rfl rfl (by kernel_rfl) (by simp <;> omega) ?_
  refine kP [7, 6, 3, 2] ?_
  refine opsT_end ?_
  refine post_block ?_
  refine post_then ?_
  refine tri_region (todo := [0, 1]) rfl ?_
  refine kS 2 0 [(7, ii 2)] [6, 3, 2] ?_
  refine opsT_end ?_
  refine post_more ?_
  refine wr [0] rfl ?_
  refine kSe 1 0 [(8, .bool true)] [7, 6, 3, 2] ?_
  refine tri_seq ?_
  refine tri_cond_true rfl ?_
  refine tri_skip ?_
  refine post_then ?_
  refine tri_seq ?_
  refine tri_block ?_
  refine wr [0, 1, 2, 3] rfl ?_
  refine kSe 4 0 [(5, ii p2), (4, ii 2)] [7, 6, 3, 2] ?_
  refine tri_region (todo := [0, 1, 2, 3]) rfl ?_
  refine kO 3 2304 [(13, pt b3 (0 + p2.toNat)), (12, ii 2)] [7, 6, 3, 2] [(0 : Int) ≤ p2, p2 < ((4 : Nat) : Int)] (by refine ap ?_ (ap1 ?_) <;> (first | omega | assumption)) ?_
  refine opsT_storeInt 0 b3 (0 + p2.toNat) (([0, 0, 0, 0].set (0 + p0.toNat) 0).set (0 + p1.toNat) 1) 72 2 rfl rfl rfl rfl rfl rfl rfl rfl (by kernel_rfl) (by simp <;> omega) ?_
  refine kP [7, 6, 3, 2] ?_
  refine opsT_end ?_
  refine post_block ?_
  refine post_then ?_
  refine tri_region (todo := [0, 1]) rfl ?_
  refine kS 2 0 [(7, ii 3)] [6, 3, 2] ?_
  refine opsT_end ?_
  refine post_more ?_
  refine wr [0] rfl ?_
  refine kSe 1 0 [(8, .bool true)] [7, 6, 3, 2] ?_
  refine tri_seq ?_
  refine tri_cond_true rfl ?_
  refine tri_skip ?_
  refine post_then ?_
  refine tri_seq ?_
  refine tri_block ?_
  refine wr [0, 1, 2, 3] rfl ?_
  refine kSe 4 0 [(5, ii p3), (4, ii 3)] [7, 6, 3, 2] ?_
  refine tri_region (todo := [0, 1, 2, 3]) rfl ?_
  refine kO 3 2304 [(13, pt b3 (0 + p3.toNat)), (12, ii 3)] [7, 6, 3, 2] [(0 : Int) ≤ p3, p3 < ((4 : Nat) : Int)] (by refine ap ?_ (ap1 ?_) <;> (first | omega | assumption)) ?_
  refine opsT_storeInt 0 b3 (0 + p3.toNat) ((([0, 0, 0, 0].set (0 + p0.toNat) 0).set (0 + p1.toNat) 1).set (0 + p2.toNat) 2) 72 3 rfl rfl rfl rfl rfl rfl rfl rfl (by kernel_rfl) (by simp <;> omega) ?_
  refine kP [7, 6, 3, 2] ?_
  refine opsT_end ?_
  refine post_block ?_
  refine post_then ?_
  refine tri_region (todo := [0, 1]) rfl ?_
  refine kS 2 0 [(7, ii 4)] [6, 3, 2] ?_
  refine opsT_end ?_
  refine post_more ?_
  refine wr [0] rfl ?_
  refine kSe 1 0 [(8, .bool false)] [7, 6, 3, 2] ?_
  refine tri_seq ?_
  refine tri_cond_false rfl ?_
  refine tri_exit ?_
  refine post_then_exit ?_
  refine post_more_exit ?_
  refine post_block_hit ?_
  refine post_then ?_
  refine wr [0, 1] rfl ?_
  refine kI 0 0 4 (((([0, 0, 0, 0].set (0 + p0.toNat) 0).set (0 + p1.toNat) 1).set (0 + p2.toNat) 2).set (0 + p3.toNat) 3) (.agg #[ii ((((([0, 0, 0, 0].set (0 + p0.toNat) 0).set (0 + p1.toNat) 1).set (0 + p2.toNat) 2).set (0 + p3.toNat) 3).getD (0 + 0) 0), ii ((((([0, 0, 0, 0].set (0 + p0.toNat) 0).set (0 + p1.toNat) 1).set (0 + p2.toNat) 2).set (0 + p3.toNat) 3).getD (0 + 1) 0), ii ((((([0, 0, 0, 0].set (0 + p0.toNat) 0).set (0 + p1.toNat) 1).set (0 + p2.toNat) 2).set (0 + p3.toNat) 3).getD (0 + 2) 0), ii ((((([0, 0, 0, 0].set (0 + p0.toNat) 0).set (0 + p1.toNat) 1).set (0 + p2.toNat) 2).set (0 + p3.toNat) 3).getD (0 + 3) 0)]) (by simp <;> omega) ?_
  refine kW 1 #[ii ((((([0, 0, 0, 0].set (0 + p0.toNat) 0).set (0 + p1.toNat) 1).set (0 + p2.toNat) 2).set (0 + p3.toNat) 3).getD (0 + 0) 0), ii ((((([0, 0, 0, 0].set (0 + p0.toNat) 0).set (0 + p1.toNat) 1).set (0 + p2.toNat) 2).set (0 + p3.toNat) 3).getD (0 + 1) 0), ii ((((([0, 0, 0, 0].set (0 + p0.toNat) 0).set (0 + p1.toNat) 1).set (0 + p2.toNat) 2).set (0 + p3.toNat) 3).getD (0 + 2) 0), ii ((((([0, 0, 0, 0].set (0 + p0.toNat) 0).set (0 + p1.toNat) 1).set (0 + p2.toNat) 2).set (0 + p3.toNat) 3).getD (0 + 3) 0)] ?_
  refine kPe [2] ?_
  refine tri_ret ?_
  refine post_ret1 (v := .agg #[ii ((((([0, 0, 0, 0].set (0 + p0.toNat) 0).set (0 + p1.toNat) 1).set (0 + p2.toNat) 2).set (0 + p3.toNat) 3).getD (0 + 0) 0), ii ((((([0, 0, 0, 0].set (0 + p0.toNat) 0).set (0 + p1.toNat) 1).set (0 + p2.toNat) 2).set (0 + p3.toNat) 3).getD (0 + 1) 0), ii ((((([0, 0, 0, 0].set (0 + p0.toNat) 0).set (0 + p1.toNat) 1).set (0 + p2.toNat) 2).set (0 + p3.toNat) 3).getD (0 + 2) 0), ii ((((([0, 0, 0, 0].set (0 + p0.toNat) 0).set (0 + p1.toNat) 1).set (0 + p2.toNat) 2).set (0 + p3.toNat) 3).getD (0 + 3) 0)]) rfl (.cell 1 b2 0 4 #[ii ((((([0, 0, 0, 0].set (0 + p0.toNat) 0).set (0 + p1.toNat) 1).set (0 + p2.toNat) 2).set (0 + p3.toNat) 3).getD (0 + 0) 0), ii ((((([0, 0, 0, 0].set (0 + p0.toNat) 0).set (0 + p1.toNat) 1).set (0 + p2.toNat) 2).set (0 + p3.toNat) 3).getD (0 + 1) 0), ii ((((([0, 0, 0, 0].set (0 + p0.toNat) 0).set (0 + p1.toNat) 1).set (0 + p2.toNat) 2).set (0 + p3.toNat) 3).getD (0 + 2) 0), ii ((((([0, 0, 0, 0].set (0 + p0.toNat) 0).set (0 + p1.toNat) 1).set (0 + p2.toNat) 2).set (0 + p3.toNat) 3).getD (0 + 3) 0)] 72 (0, 0) rfl rfl (by kernel_rfl)) (fun W hR => ?_)
  exact ⟨by rw [inverse_law _ _ _ _ hp]; rfl, hR.ext⟩
theorem compose (p0 p1 p2 p3 : Int) {q0 q1 q2 q3 : Int} (hq : OkPerm q0 q1 q2 q3) (w : World) : Calls Tryz.prog 47 #[.agg #[ii p0, ii p1, ii p2, ii p3], .agg #[ii q0, ii q1, ii q2, ii q3]] w fun e w' => e = .returned (.agg #[ii (sel p0 p1 p2 p3 q0), ii (sel p0 p1 p2 p3 q1), ii (sel p0 p1 p2 p3 q2), ii (sel p0 p1 p2 p3 q3)]) ∧ Ext w w' := by
  have ⟨h0, h1, h2, h3, h4, h5, h6, h7, _⟩ := hq
  refine calls_of (n := 22) Tryz.func47 rfl Tryz.ntmps47 rfl ?_
  refine tri_eq (l' := [(0, .agg #[ii p0, ii p1, ii p2, ii p3]), (1, .agg #[ii q0, ii q1, ii q2, ii q3])]) (hs' := []) rfl rfl ?_
  refine wr [0, 1, 2] rfl ?_
  refine kB (.agg #[ii p0, ii p1, ii p2, ii p3]) fun b1 => ?_
  refine kB (.agg #[ii q0, ii q1, ii q2, ii q3]) fun b2 => ?_
  refine kA (.agg #[ii 0, ii 0, ii 0, ii 0]) fun b3 => ?_
  refine kPe [4, 3, 2] ?_
  refine tri_seq ?_
  refine kD 17 0x900090009000900 [1, 3, 5, 7, 9, 11, 13, 15] [ii q0, ii ([p0, p1, p2, p3].getD (0 + q0.toNat + 0) 0), ii q1, ii ([p0, p1, p2, p3].getD (0 + q1.toNat + 0) 0), ii q2, ii ([p0, p1, p2, p3].getD (0 + q2.toNat + 0) 0), ii q3, ii ([p0, p1, p2, p3].getD (0 + q3.toNat + 0) 0)] [(21, .agg #[ii ([p0, p1, p2, p3].getD (0 + q0.toNat + 0) 0), ii ([p0, p1, p2, p3].getD (0 + q1.toNat + 0) 0), ii ([p0, p1, p2, p3].getD (0 + q2.toNat + 0) 0), ii ([p0, p1, p2, p3].getD (0 + q3.toNat + 0) 0)])] [4] [(0 : Int) ≤ q0, q0 < ((4 : Nat) : Int), (0 : Int) ≤ q1, q1 < ((4 : Nat) : Int), (0 : Int) ≤ q2, q2 < ((4 : Nat) : Int), (0 : Int) ≤ q3, q3 < ((4 : Nat) : Int)] [17] rfl (by refine ap ?_ (ap ?_ (ap ?_ (ap ?_ (ap ?_ (ap ?_ (ap ?_ (ap1 ?_))))))) <;> (first | omega | assumption)) (qA (qL 1) (qA (qI 2 (0 + q0.toNat) 1 [p0, p1, p2, p3] (by simp <;> omega)) (qA (qL 1) (qA (qI 2 (0 + q1.toNat) 1 [p0, p1, p2, p3] (by simp <;> omega)) (qA (qL 1) (qA (qI 2 (0 + q2.toNat) 1 [p0, p1, p2, p3] (by simp <;> omega)) (qA (qL 1) (qA (qI 2 (0 + q3.toNat) 1 [p0, p1, p2, p3] (by simp <;> omega)) qZ)))))))) ?_ (by kernel_rfl)
  refine kW 0 #[ii ([p0, p1, p2, p3].getD (0 + q0.toNat + 0) 0), ii ([p0, p1, p2, p3].getD (0 + q1.toNat + 0) 0), ii ([p0, p1, p2, p3].getD (0 + q2.toNat + 0) 0), ii ([p0, p1, p2, p3].getD (0 + q3.toNat + 0) 0)] ?_
  refine kPe [4] ?_
  refine tri_ret ?_
  refine post_ret1 (v := .agg #[ii ([p0, p1, p2, p3].getD (0 + q0.toNat + 0) 0), ii ([p0, p1, p2, p3].getD (0 + q1.toNat + 0) 0), ii ([p0, p1, p2, p3].getD (0 + q2.toNat + 0) 0), ii ([p0, p1, p2, p3].getD (0 + q3.toNat + 0) 0)]) rfl (.cell 0 b3 0 4 #[ii ([p0, p1, p2, p3].getD (0 + q0.toNat + 0) 0), ii ([p0, p1, p2, p3].getD (0 + q1.toNat + 0) 0), ii ([p0, p1, p2, p3].getD (0 + q2.toNat + 0) 0), ii ([p0, p1, p2, p3].getD (0 + q3.toNat + 0) 0)] 72 (0, 0) rfl rfl (by kernel_rfl)) (fun W hR => ?_)
  exact ⟨by simp only [Nat.zero_add, Nat.add_zero]; rw [getD_sel, getD_sel, getD_sel, getD_sel] <;> assumption, hR.ext⟩
end Go.Proofs.YtlkbokbcfajhjaaGreat
