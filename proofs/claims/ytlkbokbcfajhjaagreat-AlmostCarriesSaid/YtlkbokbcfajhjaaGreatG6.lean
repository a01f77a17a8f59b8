/- G6: the matching equations -/
import Derived.Test.YtlkbokbcfajhjaaGreatG3
import Derived.Test.YtlkbokbcfajhjaaGreatB17
import Derived.Test.YtlkbokbcfajhjaaGreatD1
namespace Go.Proofs.YtlkbokbcfajhjaaGreat
open Go.Proofs.Walk
set_option maxRecDepth 100000
set_option linter.unusedVariables false
set_option linter.unusedSimpArgs false

theorem en96 : Walk.Enters Tryz.prog 96 := Walk.enters Tryz.func96 (by kernel_rfl) rfl
theorem en167 : Walk.Enters Tryz.prog 167 := Walk.enters Tryz.func167 (by kernel_rfl) rfl
theorem row20 (c : Nat → Nat → Int) (t : Nat) {f j : Nat} (hf : f < 4) (hj : j < 5) : [c t 0, c t 1, c t 2, c t 3, c t 4, c t 5, c t 6, c t 7, c t 8, c t 9, c t 10, c t 11, c t 12, c t 13, c t 14, c t 15, c t 16, c t 17, c t 18, c t 19].getD (f * 5 + j) 0 = c t (f * 5 + j) := by
  have h1 : f = 0 ∨ f = 1 ∨ f = 2 ∨ f = 3 := by omega
  have h2 : j = 0 ∨ j = 1 ∨ j = 2 ∨ j = 3 ∨ j = 4 := by omega
  rcases h1 with rfl | rfl | rfl | rfl <;> rcases h2 with rfl | rfl | rfl | rfl | rfl <;> rfl
theorem five (c : Nat → Nat → Int) (t f : Nat) {i : Nat} (hi : i < 4) : [c t (f * 5), c t (f * 5 + 1), c t (f * 5 + 2), c t (f * 5 + 3), c t (f * 5 + 4)].getD (1 + i + 0) 0 = c t (f * 5 + 1 + i) := by
  have h1 : i = 0 ∨ i = 1 ∨ i = 2 ∨ i = 3 := by omega
  rcases h1 with rfl | rfl | rfl | rfl <;> rfl
/-- An equation, as it is handed over. -/
def matchV (c : Nat → Nat → Int) (p : Nat × Nat × Nat) : Array Value := #[.agg #[.int .i64 ((p.1 : Nat) : Int), .int .i64 ((p.2.1 : Nat) : Int), .int .i64 ((p.2.2 : Nat) : Int), .int .i64 (c p.1 (p.2.1 * 5)), .int .i64 (c p.1 (p.2.1 * 5 + 1 + p.2.1)), .int .i64 (c p.1 (p.2.1 * 5 + 1 + p.2.2))]]
theorem drop_cons {α : Type} {L : List α} {k : Nat} {x d : α} {r : List α} (h : L.drop k = x :: r) : k < L.length ∧ L.getD k d = x ∧ L.drop (k + 1) = r := by
  have h1 : k < L.length := by
    rcases Nat.lt_or_ge k L.length with h' | h'
    · exact h'
    · rw [List.drop_eq_nil_of_le h'] at h; cases h
  rw [List.drop_eq_getElem_cons h1] at h
  simp only [List.cons.injEq] at h
  exact ⟨h1, by simp [List.getD, h1, h.1], h.2⟩
theorem drop_nil {α : Type} {L : List α} {k : Nat} (h : L.drop k = []) (hk : k ≤ L.length) : k = L.length := by
  have := List.drop_eq_nil_iff.1 h; omega
theorem matches_ (sv : Value) (w : World) : Calls Tryz.prog 96 #[.agg #[sv]] w fun e w' => ∃ bg, True ∧ e = .returned (.func (.func 167) #[] #[.pointer (some ⟨bg, 0, none⟩)]) ∧ Rep w [] [(bg, .cells #[sv] 24 (0, 0))] w' := by
  refine calls_of (n := 4) Tryz.func96 rfl Tryz.ntmps96 rfl ?_
  refine tri_eq (l' := [(0, .agg #[sv])]) (hs' := []) rfl rfl ?_
  refine wr [0, 1] rfl ?_
  refine kB (.agg #[sv]) fun b1 => ?_
  refine kSn 1 0 [] [1] [0, 1] ?_
  refine kSe 2 0 [(2, .func (.func 167) #[] #[pt b1 0])] [] ?_
  refine tri_ret ?_
  refine post_ret1 (v := .func (.func 167) #[] #[pt b1 0]) rfl (.tmp rfl) (fun W hR => ?_)
  exact ⟨b1, trivial, rfl, hR⟩

theorem matches_iter {b off n cap bg : Nat} {c : Nat → Nat → Int} {W0 : World} {M : List Nat} (hn : n ≤ 1000000000) (hc : At W0 b off n c) (hb : b ∉ M) :
    Iter Tryz.prog 167 #[.pointer (some ⟨bg, 0, none⟩)] [(bg, .cells #[sl b off n cap] 24 (0, 0))] (eqns n c).length (fun k => matchV c ((eqns n c).getD k (0, 0, 0))) W0 M := by
  refine ⟨fun β H I Ix yv hy x₀ hI own W hR => ?_⟩
  refine calls_iter (H := H) (z := x₀) (capt := [(bg, .cells #[sl b off n cap] 24 (0, 0))]) (own := own) Tryz.func167 rfl Tryz.ntmps167 rfl hR ?_
  refine tri_eq (l' := [(0, yv), (1, pt bg 0)]) (hs' := (bg, .cells #[sl b off n cap] 24 (0, 0)) :: (H x₀ ++ own)) rfl rfl ?_
  refine wr [0, 1, 2, 3] rfl ?_
  refine kS 1 0 [(8, pt bg 0)] [0] ?_
  refine kL 0 (sl b off n cap) ?_
  refine kSe 2 0 [(11, ii 0), (10, ii ((n : Nat) : Int))] [9, 0] ?_
  refine tri_block ?_
  refine tri_loop (β := Nat × Nat × β) (fun xz => [(10, ii ((n : Nat) : Int)), (9, sl b off n cap), (0, yv), (11, ii (xz.1 : Int))]) (fun xz => (bg, .cells #[sl b off n cap] 24 (0, 0)) :: (H xz.2.2 ++ own)) (fun xz => xz.1 ≤ n ∧ xz.2.1 ≤ (eqns n c).length ∧ I xz.2.1 xz.2.2 ∧ (eqns n c).drop xz.2.1 = restT n c xz.1) (fun xz => n - xz.1) (0, 0, x₀) (look_pickL (ks := [10, 9, 0, 11]) (by kernel_rfl)) (List.Sublist.refl _) ⟨Nat.zero_le _, Nat.zero_le _, hI, rfl⟩ ?_
  rintro ⟨t, k, z⟩ hC0
  try dsimp only at hC0
  refine tri_eq (l' := [(10, ii ((n : Nat) : Int)), (9, sl b off n cap), (0, yv), (11, ii (t : Int))]) (hs' := (bg, .cells #[sl b off n cap] 24 (0, 0)) :: (H z ++ own)) rfl rfl ?_
  refine wr [0] rfl ?_
  refine kSe 1 5 [(12, .bool (decide ((t : Int) < ((n : Nat) : Int))))] [10, 9, 0, 11] ?_
  refine tri_seq ?_
  refine tri_cond_dec (p := (t : Int) < ((n : Nat) : Int)) rfl (fun h1 => ?_) (fun h1 => ?_)
  · refine tri_skip ?_
    refine post_then ?_
    refine tri_seq ?_
    refine tri_block ?_
    refine wr [0, 1, 2, 3, 4, 5] rfl ?_
    refine kO 2 144 [(14, pt b (off + t * 20)), (13, ii (t : Int))] [10, 9, 0, 11] [(0 : Int) ≤ (t : Int), (t : Int) < ((n : Nat) : Int)] (by refine ap ?_ (ap1 ?_) <;> (first | omega | assumption)) ?_
    refine kM b (off + t * 20) [ii (c t 0), ii (c t 1), ii (c t 2), ii (c t 3), ii (c t 4), ii (c t 5), ii (c t 6), ii (c t 7), ii (c t 8), ii (c t 9), ii (c t 10), ii (c t 11), ii (c t 12), ii (c t 13), ii (c t 14), ii (c t 15), ii (c t 16), ii (c t 17), ii (c t 18), ii (c t 19)] (.agg #[ii (c t 0), ii (c t 1), ii (c t 2), ii (c t 3), ii (c t 4), ii (c t 5), ii (c t 6), ii (c t 7), ii (c t 8), ii (c t 9), ii (c t 10), ii (c t 11), ii (c t 12), ii (c t 13), ii (c t 14), ii (c t 15), ii (c t 16), ii (c t 17), ii (c t 18), ii (c t 19)]) (At.row hc (by omega)) ?_ (hb := hb)
    refine kA (.agg #[ii 0, ii 0, ii 0, ii 0, ii 0, ii 0, ii 0, ii 0, ii 0, ii 0, ii 0, ii 0, ii 0, ii 0, ii 0, ii 0, ii 0, ii 0, ii 0, ii 0]) fun b1 => ?_
    refine kS 1 0 [(3, ii (t : Int))] [4, 15, 10, 9, 0, 11] ?_
    refine kW 0 #[ii (c t 0), ii (c t 1), ii (c t 2), ii (c t 3), ii (c t 4), ii (c t 5), ii (c t 6), ii (c t 7), ii (c t 8), ii (c t 9), ii (c t 10), ii (c t 11), ii (c t 12), ii (c t 13), ii (c t 14), ii (c t 15), ii (c t 16), ii (c t 17), ii (c t 18), ii (c t 19)] ?_
    refine kP [3, 4, 10, 9, 0, 11] ?_
    refine wn [0, 1] rfl ?_
    refine kL 0 (.agg #[ii (c t 0), ii (c t 1), ii (c t 2), ii (c t 3), ii (c t 4), ii (c t 5), ii (c t 6), ii (c t 7), ii (c t 8), ii (c t 9), ii (c t 10), ii (c t 11), ii (c t 12), ii (c t 13), ii (c t 14), ii (c t 15), ii (c t 16), ii (c t 17), ii (c t 18), ii (c t 19)]) ?_
    refine kSe 1 0 [(17, ii 0)] [16, 3, 10, 9, 0, 11] ?_
    refine tri_block ?_
    refine tri_loop (β := Nat × Nat × β) (fun xz => [(16, .agg #[ii (c t 0), ii (c t 1), ii (c t 2), ii (c t 3), ii (c t 4), ii (c t 5), ii (c t 6), ii (c t 7), ii (c t 8), ii (c t 9), ii (c t 10), ii (c t 11), ii (c t 12), ii (c t 13), ii (c t 14), ii (c t 15), ii (c t 16), ii (c t 17), ii (c t 18), ii (c t 19)]), (3, ii (t : Int)), (10, ii ((n : Nat) : Int)), (9, sl b off n cap), (0, yv), (11, ii (t : Int)), (17, ii (xz.1 : Int))]) (fun xz => (b1, .cells #[ii (c t 0), ii (c t 1), ii (c t 2), ii (c t 3), ii (c t 4), ii (c t 5), ii (c t 6), ii (c t 7), ii (c t 8), ii (c t 9), ii (c t 10), ii (c t 11), ii (c t 12), ii (c t 13), ii (c t 14), ii (c t 15), ii (c t 16), ii (c t 17), ii (c t 18), ii (c t 19)] 76 (0, 0)) :: (bg, .cells #[sl b off n cap] 24 (0, 0)) :: (H xz.2.2 ++ own)) (fun xz => xz.1 ≤ 4 ∧ xz.2.1 ≤ (eqns n c).length ∧ I xz.2.1 xz.2.2 ∧ (eqns n c).drop xz.2.1 = restF c t xz.1 ++ restT n c (t + 1)) (fun xz => 4 - xz.1) (0, k, z) (look_pickL (ks := [16, 3, 10, 9, 0, 11, 17]) (by kernel_rfl)) (List.Sublist.refl _) ⟨by omega, hC0.2.1, hC0.2.2.1, by rw [← restT_step c (by omega)]; exact hC0.2.2.2⟩ ?_
    rintro ⟨f, k1, z1⟩ hC1
    try dsimp only at hC1
    refine tri_eq (l' := [(16, .agg #[ii (c t 0), ii (c t 1), ii (c t 2), ii (c t 3), ii (c t 4), ii (c t 5), ii (c t 6), ii (c t 7), ii (c t 8), ii (c t 9), ii (c t 10), ii (c t 11), ii (c t 12), ii (c t 13), ii (c t 14), ii (c t 15), ii (c t 16), ii (c t 17), ii (c t 18), ii (c t 19)]), (3, ii (t : Int)), (10, ii ((n : Nat) : Int)), (9, sl b off n cap), (0, yv), (11, ii (t : Int)), (17, ii (f : Int))]) (hs' := (b1, .cells #[ii (c t 0), ii (c t 1), ii (c t 2), ii (c t 3), ii (c t 4), ii (c t 5), ii (c t 6), ii (c t 7), ii (c t 8), ii (c t 9), ii (c t 10), ii (c t 11), ii (c t 12), ii (c t 13), ii (c t 14), ii (c t 15), ii (c t 16), ii (c t 17), ii (c t 18), ii (c t 19)] 76 (0, 0)) :: (bg, .cells #[sl b off n cap] 24 (0, 0)) :: (H z1 ++ own)) rfl rfl ?_
    refine wr [0] rfl ?_
    refine kSe 1 5 [(18, .bool (decide ((f : Int) < 4)))] [16, 3, 10, 9, 0, 11, 17] ?_
    refine tri_seq ?_
    refine tri_cond_dec (p := (f : Int) < 4) rfl (fun h2 => ?_) (fun h2 => ?_)
    · refine tri_skip ?_
      refine post_then ?_
      refine tri_seq ?_
      refine tri_block ?_
      refine wr [0, 1, 2, 3, 4] rfl ?_
      refine kO 2 176 [(20, .agg #[ii ([c t 0, c t 1, c t 2, c t 3, c t 4, c t 5, c t 6, c t 7, c t 8, c t 9, c t 10, c t 11, c t 12, c t 13, c t 14, c t 15, c t 16, c t 17, c t 18, c t 19].getD (f * 5 + 0) 0), ii ([c t 0, c t 1, c t 2, c t 3, c t 4, c t 5, c t 6, c t 7, c t 8, c t 9, c t 10, c t 11, c t 12, c t 13, c t 14, c t 15, c t 16, c t 17, c t 18, c t 19].getD (f * 5 + 1) 0), ii ([c t 0, c t 1, c t 2, c t 3, c t 4, c t 5, c t 6, c t 7, c t 8, c t 9, c t 10, c t 11, c t 12, c t 13, c t 14, c t 15, c t 16, c t 17, c t 18, c t 19].getD (f * 5 + 2) 0), ii ([c t 0, c t 1, c t 2, c t 3, c t 4, c t 5, c t 6, c t 7, c t 8, c t 9, c t 10, c t 11, c t 12, c t 13, c t 14, c t 15, c t 16, c t 17, c t 18, c t 19].getD (f * 5 + 3) 0), ii ([c t 0, c t 1, c t 2, c t 3, c t 4, c t 5, c t 6, c t 7, c t 8, c t 9, c t 10, c t 11, c t 12, c t 13, c t 14, c t 15, c t 16, c t 17, c t 18, c t 19].getD (f * 5 + 4) 0)]), (19, ii (f : Int))] [16, 3, 10, 9, 0, 11, 17] [(0 : Int) ≤ (f : Int), (f : Int) < ((4 : Nat) : Int)] (by refine ap ?_ (ap1 ?_) <;> (first | omega | assumption)) ?_
      rw [show [c t 0, c t 1, c t 2, c t 3, c t 4, c t 5, c t 6, c t 7, c t 8, c t 9, c t 10, c t 11, c t 12, c t 13, c t 14, c t 15, c t 16, c t 17, c t 18, c t 19].getD (f * 5 + 0) 0 = c t (f * 5) from row20 c t (j := 0) (by omega) (by omega)]
      rw [show [c t 0, c t 1, c t 2, c t 3, c t 4, c t 5, c t 6, c t 7, c t 8, c t 9, c t 10, c t 11, c t 12, c t 13, c t 14, c t 15, c t 16, c t 17, c t 18, c t 19].getD (f * 5 + 1) 0 = c t (f * 5 + 1) from row20 c t (j := 1) (by omega) (by omega)]
      rw [show [c t 0, c t 1, c t 2, c t 3, c t 4, c t 5, c t 6, c t 7, c t 8, c t 9, c t 10, c t 11, c t 12, c t 13, c t 14, c t 15, c t 16, c t 17, c t 18, c t 19].getD (f * 5 + 2) 0 = c t (f * 5 + 2) from row20 c t (j := 2) (by omega) (by omega)]
      rw [show [c t 0, c t 1, c t 2, c t 3, c t 4, c t 5, c t 6, c t 7, c t 8, c t 9, c t 10, c t 11, c t 12, c t 13, c t 14, c t 15, c t 16, c t 17, c t 18, c t 19].getD (f * 5 + 3) 0 = c t (f * 5 + 3) from row20 c t (j := 3) (by omega) (by omega)]
      rw [show [c t 0, c t 1, c t 2, c t 3, c t 4, c t 5, c t 6, c t 7, c t 8, c t 9, c t 10, c t 11, c t 12, c t 13, c t 14, c t 15, c t 16, c t 17, c t 18, c t 19].getD (f * 5 + 4) 0 = c t (f * 5 + 4) from row20 c t (j := 4) (by omega) (by omega)]
      refine kA (.agg #[ii 0, ii 0, ii 0, ii 0, ii 0]) fun b2 => ?_
      refine kS 1 0 [(5, ii (f : Int))] [6, 20, 16, 3, 10, 9, 0, 11, 17] ?_
      refine kW 0 #[ii (c t (f * 5)), ii (c t (f * 5 + 1)), ii (c t (f * 5 + 2)), ii (c t (f * 5 + 3)), ii (c t (f * 5 + 4))] ?_
      refine kPe [5, 6, 16, 3, 10, 9, 0, 11, 17] ?_
      refine tri_seq ?_
      refine tri_seq ?_
      by_cases h3 : c t (f * 5) < 0
      · refine tri_region (todo := [0, 1, 2, 3, 4, 5, 6, 7, 8, 9, 10, 11, 12, 13, 14, 15, 16, 17, 18, 19, 20, 21, 22]) rfl ?_
        refine kS 1 0 [(21, pt b2 0)] [5, 6, 16, 3, 10, 9, 0, 11, 17] ?_
        refine kL 0 (ii (c t (f * 5))) ?_
        refine kOe 21 0x11111111111100111106 [(43, .bool true)] [5, 6, 16, 3, 10, 9, 0, 11, 17] [c t (f * 5) < 0] h3 ?_
        refine tri_cond_true rfl ?_
        refine tri_exit ?_
        refine post_then_exit ?_
        refine post_block_hit ?_
        refine post_then ?_
        refine tri_region (todo := [0, 1]) rfl ?_
        refine kO 2 2 [(17, ii ((f : Int) + 1))] [16, 3, 10, 9, 0, 11] [I64 ((f : Int) + 1)] (ap1 (by first | omega | assumption)) ?_
        refine opsT_end ?_
        refine post_round ((f + 1), k1, z1) ⟨by omega, hC1.2.1, hC1.2.2.1, (by have hd := hC1.2.2.2; rw [restF_step c (by omega)] at hd; rw [show rowF c t f = [] by unfold rowF; rw [if_pos (by unfold Skip; omega)]] at hd; exact hd)⟩ (by show 4 - (f + 1) < 4 - f; omega) (look_pickL (ks := [16, 3, 10, 9, 0, 11, 17]) (by kernel_rfl)) (.cons _ (List.Sublist.refl _))
      · by_cases h4 : c t (f * 5) < (t : Int)
        · refine tri_region (todo := [0, 1, 2, 3, 4, 5, 6, 7, 8, 9, 10, 11, 12, 13, 14, 15, 16, 17, 18, 19, 20, 21, 22]) rfl ?_
          refine kS 1 0 [(21, pt b2 0)] [5, 6, 16, 3, 10, 9, 0, 11, 17] ?_
          refine kL 0 (ii (c t (f * 5))) ?_
          refine kO 3 7 [(25, pt b2 0), (24, .bool false)] [5, 6, 16, 3, 10, 9, 0, 11, 17] [¬ (c t (f * 5) < 0)] h3 ?_
          refine kL 0 (ii (c t (f * 5))) ?_
          refine kOe 17 0x1111111111110060 [(43, .bool true)] [5, 6, 16, 3, 10, 9, 0, 11, 17] [c t (f * 5) < (t : Int)] h4 ?_
          refine tri_cond_true rfl ?_
          refine tri_exit ?_
          refine post_then_exit ?_
          refine post_block_hit ?_
          refine post_then ?_
          refine tri_region (todo := [0, 1]) rfl ?_
          refine kO 2 2 [(17, ii ((f : Int) + 1))] [16, 3, 10, 9, 0, 11] [I64 ((f : Int) + 1)] (ap1 (by first | omega | assumption)) ?_
          refine opsT_end ?_
          refine post_round ((f + 1), k1, z1) ⟨by omega, hC1.2.1, hC1.2.2.1, (by have hd := hC1.2.2.2; rw [restF_step c (by omega)] at hd; rw [show rowF c t f = [] by unfold rowF; rw [if_pos (by unfold Skip; omega)]] at hd; exact hd)⟩ (by show 4 - (f + 1) < 4 - f; omega) (look_pickL (ks := [16, 3, 10, 9, 0, 11, 17]) (by kernel_rfl)) (.cons _ (List.Sublist.refl _))
        · by_cases h5 : c t (f * 5) = (t : Int)
          · refine tri_region (todo := [0, 1, 2, 3, 4, 5, 6, 7, 8, 9, 10, 11, 12, 13, 14, 15, 16, 17, 18, 19, 20, 21, 22]) rfl ?_
            refine kS 1 0 [(21, pt b2 0)] [5, 6, 16, 3, 10, 9, 0, 11, 17] ?_
            refine kL 0 (ii (c t (f * 5))) ?_
            refine kO 3 7 [(25, pt b2 0), (24, .bool false)] [5, 6, 16, 3, 10, 9, 0, 11, 17] [¬ (c t (f * 5) < 0)] h3 ?_
            refine kL 0 (ii (c t (f * 5))) ?_
            refine kO 5 112 [(31, pt b2 0), (30, .bool false)] [5, 6, 16, 3, 10, 9, 0, 11, 17] [¬ (c t (f * 5) < (t : Int))] h4 ?_
            refine kL 0 (ii (c t (f * 5))) ?_
            refine kO 6 9437280 [(38, pt b2 (1 + f)), (35, .bool true)] [30, 5, 6, 16, 3, 10, 9, 0, 11, 17] [c t (f * 5) = (t : Int), (0 : Int) ≤ (f : Int), (f : Int) < ((4 : Nat) : Int)] (by refine ap h5 (ap ?_ (ap1 ?_)) <;> (first | omega | assumption)) ?_
            refine kI 0 (1 + f) 1 [c t (f * 5), c t (f * 5 + 1), c t (f * 5 + 2), c t (f * 5 + 3), c t (f * 5 + 4)] (ii ([c t (f * 5), c t (f * 5 + 1), c t (f * 5 + 2), c t (f * 5 + 3), c t (f * 5 + 4)].getD (1 + f + 0) 0)) (by simp <;> omega) ?_
            rw [show [c t (f * 5), c t (f * 5 + 1), c t (f * 5 + 2), c t (f * 5 + 3), c t (f * 5 + 4)].getD (1 + f + 0) 0 = c t (f * 5 + 1 + f) from five c t f (by omega)]
            refine kSe 4 80 [(43, .bool (decide (c t (f * 5 + 1 + f) < (f : Int))))] [5, 6, 16, 3, 10, 9, 0, 11, 17] ?_
            refine tri_cond_dec (p := c t (f * 5 + 1 + f) < (f : Int)) rfl (fun h6 => ?_) (fun h6 => ?_)
            · refine tri_exit ?_
              refine post_then_exit ?_
              refine post_block_hit ?_
              refine post_then ?_
              refine tri_region (todo := [0, 1]) rfl ?_
              refine kO 2 2 [(17, ii ((f : Int) + 1))] [16, 3, 10, 9, 0, 11] [I64 ((f : Int) + 1)] (ap1 (by first | omega | assumption)) ?_
              refine opsT_end ?_
              refine post_round ((f + 1), k1, z1) ⟨by omega, hC1.2.1, hC1.2.2.1, (by have hd := hC1.2.2.2; rw [restF_step c (by omega)] at hd; rw [show rowF c t f = [] by unfold rowF; rw [if_pos (by unfold Skip; omega)]] at hd; exact hd)⟩ (by show 4 - (f + 1) < 4 - f; omega) (look_pickL (ks := [16, 3, 10, 9, 0, 11, 17]) (by kernel_rfl)) (.cons _ (List.Sublist.refl _))
            · refine tri_skip ?_
              refine post_then ?_
              refine wr [0] rfl ?_
              refine kSe 1 0 [(44, ii 0)] [5, 6, 16, 3, 10, 9, 0, 11, 17] ?_
              refine tri_block ?_
              refine tri_loop (β := Nat × Nat × β) (fun xz => [(5, ii (f : Int)), (6, pt b2 0), (16, .agg #[ii (c t 0), ii (c t 1), ii (c t 2), ii (c t 3), ii (c t 4), ii (c t 5), ii (c t 6), ii (c t 7), ii (c t 8), ii (c t 9), ii (c t 10), ii (c t 11), ii (c t 12), ii (c t 13), ii (c t 14), ii (c t 15), ii (c t 16), ii (c t 17), ii (c t 18), ii (c t 19)]), (3, ii (t : Int)), (10, ii ((n : Nat) : Int)), (9, sl b off n cap), (0, yv), (11, ii (t : Int)), (17, ii (f : Int)), (44, ii (xz.1 : Int))]) (fun xz => (b2, .cells #[ii (c t (f * 5)), ii (c t (f * 5 + 1)), ii (c t (f * 5 + 2)), ii (c t (f * 5 + 3)), ii (c t (f * 5 + 4))] 75 (0, 0)) :: (b1, .cells #[ii (c t 0), ii (c t 1), ii (c t 2), ii (c t 3), ii (c t 4), ii (c t 5), ii (c t 6), ii (c t 7), ii (c t 8), ii (c t 9), ii (c t 10), ii (c t 11), ii (c t 12), ii (c t 13), ii (c t 14), ii (c t 15), ii (c t 16), ii (c t 17), ii (c t 18), ii (c t 19)] 76 (0, 0)) :: (bg, .cells #[sl b off n cap] 24 (0, 0)) :: (H xz.2.2 ++ own)) (fun xz => xz.1 ≤ 4 ∧ xz.2.1 ≤ (eqns n c).length ∧ I xz.2.1 xz.2.2 ∧ (eqns n c).drop xz.2.1 = restI t f xz.1 ++ (restF c t (f + 1) ++ restT n c (t + 1))) (fun xz => 4 - xz.1) (0, k1, z1) (look_pickL (ks := [5, 6, 16, 3, 10, 9, 0, 11, 17, 44]) (by kernel_rfl)) (List.Sublist.refl _) ⟨by omega, hC1.2.1, hC1.2.2.1, by rw [← List.append_assoc]; rw [show restI t f 0 = rowF c t f by unfold rowF; rw [if_neg (by unfold Skip; omega)]]; rw [← restF_step c (by omega)]; exact hC1.2.2.2⟩ ?_
              rintro ⟨i, k2, z2⟩ hC2
              try dsimp only at hC2
              refine tri_eq (l' := [(5, ii (f : Int)), (6, pt b2 0), (16, .agg #[ii (c t 0), ii (c t 1), ii (c t 2), ii (c t 3), ii (c t 4), ii (c t 5), ii (c t 6), ii (c t 7), ii (c t 8), ii (c t 9), ii (c t 10), ii (c t 11), ii (c t 12), ii (c t 13), ii (c t 14), ii (c t 15), ii (c t 16), ii (c t 17), ii (c t 18), ii (c t 19)]), (3, ii (t : Int)), (10, ii ((n : Nat) : Int)), (9, sl b off n cap), (0, yv), (11, ii (t : Int)), (17, ii (f : Int)), (44, ii (i : Int))]) (hs' := (b2, .cells #[ii (c t (f * 5)), ii (c t (f * 5 + 1)), ii (c t (f * 5 + 2)), ii (c t (f * 5 + 3)), ii (c t (f * 5 + 4))] 75 (0, 0)) :: (b1, .cells #[ii (c t 0), ii (c t 1), ii (c t 2), ii (c t 3), ii (c t 4), ii (c t 5), ii (c t 6), ii (c t 7), ii (c t 8), ii (c t 9), ii (c t 10), ii (c t 11), ii (c t 12), ii (c t 13), ii (c t 14), ii (c t 15), ii (c t 16), ii (c t 17), ii (c t 18), ii (c t 19)] 76 (0, 0)) :: (bg, .cells #[sl b off n cap] 24 (0, 0)) :: (H z2 ++ own)) rfl rfl ?_
              refine wr [0] rfl ?_
              refine kSe 1 5 [(45, .bool (decide ((i : Int) < 4)))] [5, 6, 16, 3, 10, 9, 0, 11, 17, 44] ?_
              refine tri_seq ?_
              refine tri_cond_dec (p := (i : Int) < 4) rfl (fun h7 => ?_) (fun h7 => ?_)
              · refine tri_skip ?_
                refine post_then ?_
                refine tri_seq ?_
                refine tri_block ?_
                refine wr [0, 1] rfl ?_
                refine kSe 2 0 [(7, ii (i : Int))] [5, 6, 16, 3, 10, 9, 0, 11, 17, 44] ?_
                refine tri_seq ?_
                by_cases h8 : (i : Int) = (f : Int)
                · refine kD 19 0x1111111111111110700 [] [] [(65, .tuple #[]), (51, .tuple #[]), (50, .bool false)] [5, 6, 16, 3, 10, 9, 0, 11, 17, 44] [¬ ((i : Int) ≠ (f : Int))] [19, 20, 21] rfl (fun hn => hn h8) qZ ?_ (by kernel_rfl)
                  refine kSe 3 17 [(68, .bool false)] [5, 6, 16, 3, 10, 9, 0, 11, 17, 44] ?_
                  refine tri_cond_false rfl ?_
                  refine tri_skip ?_
                  refine post_block ?_
                  refine post_then ?_
                  refine tri_region (todo := [0, 1]) rfl ?_
                  refine kO 2 2 [(44, ii ((i : Int) + 1))] [5, 6, 16, 3, 10, 9, 0, 11, 17] [I64 ((i : Int) + 1)] (ap1 (by first | omega | assumption)) ?_
                  refine opsT_end ?_
                  refine post_round ((i + 1), k2, z2) ⟨by omega, hC2.2.1, hC2.2.2.1, (by have hd := hC2.2.2.2; rw [restI_skip (by omega) (by omega)] at hd; exact hd)⟩ (by show 4 - (i + 1) < 4 - i; omega) (look_pickL (ks := [5, 6, 16, 3, 10, 9, 0, 11, 17, 44]) (by kernel_rfl)) (List.Sublist.refl _)
                · refine kD 19 0x90009000000000600 [9, 13, 17] [ii (c t (f * 5)), ii ([c t (f * 5), c t (f * 5 + 1), c t (f * 5 + 2), c t (f * 5 + 3), c t (f * 5 + 4)].getD (1 + f + 0) 0), ii ([c t (f * 5), c t (f * 5 + 1), c t (f * 5 + 2), c t (f * 5 + 3), c t (f * 5 + 4)].getD (1 + i + 0) 0)] [(65, .agg #[ii (t : Int), ii (f : Int), ii (i : Int), ii (c t (f * 5)), ii ([c t (f * 5), c t (f * 5 + 1), c t (f * 5 + 2), c t (f * 5 + 3), c t (f * 5 + 4)].getD (1 + f + 0) 0), ii ([c t (f * 5), c t (f * 5 + 1), c t (f * 5 + 2), c t (f * 5 + 3), c t (f * 5 + 4)].getD (1 + i + 0) 0)]), (51, yv), (50, .bool true)] [5, 6, 16, 3, 10, 9, 0, 11, 17, 44] [(i : Int) ≠ (f : Int), (0 : Int) ≤ (f : Int), (f : Int) < ((4 : Nat) : Int), (0 : Int) ≤ (i : Int), (i : Int) < ((4 : Nat) : Int)] [19, 20, 21] rfl (by refine ap h8 (ap ?_ (ap ?_ (ap ?_ (ap1 ?_)))) <;> (first | omega | assumption)) (qA (qL 0) (qA (qI 0 (1 + f) 1 [c t (f * 5), c t (f * 5 + 1), c t (f * 5 + 2), c t (f * 5 + 3), c t (f * 5 + 4)] (by simp <;> omega)) (qA (qI 0 (1 + i) 1 [c t (f * 5), c t (f * 5 + 1), c t (f * 5 + 2), c t (f * 5 + 3), c t (f * 5 + 4)] (by simp <;> omega)) qZ))) ?_ (by kernel_rfl)
                  rw [show [c t (f * 5), c t (f * 5 + 1), c t (f * 5 + 2), c t (f * 5 + 3), c t (f * 5 + 4)].getD (1 + f + 0) 0 = c t (f * 5 + 1 + f) from five c t f (by omega)]
                  rw [show [c t (f * 5), c t (f * 5 + 1), c t (f * 5 + 2), c t (f * 5 + 3), c t (f * 5 + 4)].getD (1 + i + 0) 0 = c t (f * 5 + 1 + i) from five c t f (by omega)]
                  have hd := hC2.2.2.2
                  rw [restI_step (by omega) (by omega)] at hd
                  obtain ⟨hk1, hk2, hk3⟩ := drop_cons (d := (0, 0, 0)) hd
                  refine opsT_yield (H := H) (I' := I (k2 + 1)) (Ix := Ix) (z := z2) (y := yv) (args := #[.agg #[ii (t : Int), ii (f : Int), ii (i : Int), ii (c t (f * 5)), ii (c t (f * 5 + 1 + f)), ii (c t (f * 5 + 1 + i))]]) [(b2, .cells #[ii (c t (f * 5)), ii (c t (f * 5 + 1)), ii (c t (f * 5 + 2)), ii (c t (f * 5 + 3)), ii (c t (f * 5 + 4))] 75 (0, 0)), (b1, .cells #[ii (c t 0), ii (c t 1), ii (c t 2), ii (c t 3), ii (c t 4), ii (c t 5), ii (c t 6), ii (c t 7), ii (c t 8), ii (c t 9), ii (c t 10), ii (c t 11), ii (c t 12), ii (c t 13), ii (c t 14), ii (c t 15), ii (c t 16), ii (c t 17), ii (c t 18), ii (c t 19)] 76 (0, 0)), (bg, .cells #[sl b off n cap] 24 (0, 0))] own rfl rfl rfl rfl rfl rfl rfl rfl (by kernel_rfl) rfl (fun own' W' hW' => (by rw [show (#[.agg #[ii (t : Int), ii (f : Int), ii (i : Int), ii (c t (f * 5)), ii (c t (f * 5 + 1 + f)), ii (c t (f * 5 + 1 + i))]] : Array Value) = matchV c ((eqns n c).getD k2 (0, 0, 0)) by rw [hk2]; rfl]; exact hy k2 hk1 z2 hC2.2.2.1 own' W' hW')) (fun z1 hI1 => ?_) (fun z2 hX1 => ?_)
                  · refine opsT_heq (hs' := (b2, .cells #[ii (c t (f * 5)), ii (c t (f * 5 + 1)), ii (c t (f * 5 + 2)), ii (c t (f * 5 + 3)), ii (c t (f * 5 + 4))] 75 (0, 0)) :: (b1, .cells #[ii (c t 0), ii (c t 1), ii (c t 2), ii (c t 3), ii (c t 4), ii (c t 5), ii (c t 6), ii (c t 7), ii (c t 8), ii (c t 9), ii (c t 10), ii (c t 11), ii (c t 12), ii (c t 13), ii (c t 14), ii (c t 15), ii (c t 16), ii (c t 17), ii (c t 18), ii (c t 19)] 76 (0, 0)) :: (bg, .cells #[sl b off n cap] 24 (0, 0)) :: (H z1 ++ own)) rfl ?_
                    refine kSe 2 0 [(68, .bool false)] [5, 6, 16, 3, 10, 9, 0, 11, 17, 44] ?_
                    refine tri_cond_false rfl ?_
                    refine tri_skip ?_
                    refine post_block ?_
                    refine post_then ?_
                    refine tri_region (todo := [0, 1]) rfl ?_
                    refine kO 2 2 [(44, ii ((i : Int) + 1))] [5, 6, 16, 3, 10, 9, 0, 11, 17] [I64 ((i : Int) + 1)] (ap1 (by first | omega | assumption)) ?_
                    refine opsT_end ?_
                    refine post_round ((i + 1), (k2 + 1), z1) ⟨by omega, hk1, hI1, hk3⟩ (by show 4 - (i + 1) < 4 - i; omega) (look_pickL (ks := [5, 6, 16, 3, 10, 9, 0, 11, 17, 44]) (by kernel_rfl)) (List.Sublist.refl _)
                  · refine opsT_heq (hs' := (b2, .cells #[ii (c t (f * 5)), ii (c t (f * 5 + 1)), ii (c t (f * 5 + 2)), ii (c t (f * 5 + 3)), ii (c t (f * 5 + 4))] 75 (0, 0)) :: (b1, .cells #[ii (c t 0), ii (c t 1), ii (c t 2), ii (c t 3), ii (c t 4), ii (c t 5), ii (c t 6), ii (c t 7), ii (c t 8), ii (c t 9), ii (c t 10), ii (c t 11), ii (c t 12), ii (c t 13), ii (c t 14), ii (c t 15), ii (c t 16), ii (c t 17), ii (c t 18), ii (c t 19)] 76 (0, 0)) :: (bg, .cells #[sl b off n cap] 24 (0, 0)) :: (H z2 ++ own)) rfl ?_
                    refine kSe 2 0 [(68, .bool true)] [5, 6, 16, 3, 10, 9, 0, 11, 17, 44] ?_
                    refine tri_cond_true rfl ?_
                    refine tri_ret ?_
                    refine post_block_ret ?_
                    refine post_then_ret ?_
                    refine post_round_ret ?_
                    refine post_block_ret ?_
                    refine post_block_ret ?_
                    refine post_then_ret ?_
                    refine post_round_ret ?_
                    refine post_block_ret ?_
                    refine post_block_ret ?_
                    refine post_then_ret ?_
                    refine post_round_ret ?_
                    refine post_block_ret ?_
                    refine post_ret0 rfl (fun W hR => ?_)
                    exact ⟨rfl, .inr ⟨z2, hX1, (Rep.back (capt := [(bg, .cells #[sl b off n cap] 24 (0, 0))]) (hR.forget (.cons _ (.cons _ (List.Sublist.refl _)))))⟩⟩
              · refine tri_exit ?_
                refine post_then_exit ?_
                refine post_round_exit ?_
                refine post_block_hit ?_
                refine post_block ?_
                refine post_then ?_
                refine tri_region (todo := [0, 1]) rfl ?_
                refine kO 2 2 [(17, ii ((f : Int) + 1))] [16, 3, 10, 9, 0, 11] [I64 ((f : Int) + 1)] (ap1 (by first | omega | assumption)) ?_
                refine opsT_end ?_
                refine post_round ((f + 1), k2, z2) ⟨by omega, hC2.2.1, hC2.2.2.1, (by have hd := hC2.2.2.2; rw [show i = 4 by omega, restI_end] at hd; exact hd)⟩ (by show 4 - (f + 1) < 4 - f; omega) (look_pickL (ks := [16, 3, 10, 9, 0, 11, 17]) (by kernel_rfl)) (.cons _ (List.Sublist.refl _))
          · refine tri_region (todo := [0, 1, 2, 3, 4, 5, 6, 7, 8, 9, 10, 11, 12, 13, 14, 15, 16, 17, 18, 19, 20, 21, 22]) rfl ?_
            refine kS 1 0 [(21, pt b2 0)] [5, 6, 16, 3, 10, 9, 0, 11, 17] ?_
            refine kL 0 (ii (c t (f * 5))) ?_
            refine kO 3 7 [(25, pt b2 0), (24, .bool false)] [5, 6, 16, 3, 10, 9, 0, 11, 17] [¬ (c t (f * 5) < 0)] h3 ?_
            refine kL 0 (ii (c t (f * 5))) ?_
            refine kO 5 112 [(31, pt b2 0), (30, .bool false)] [5, 6, 16, 3, 10, 9, 0, 11, 17] [¬ (c t (f * 5) < (t : Int))] h4 ?_
            refine kL 0 (ii (c t (f * 5))) ?_
            refine kOe 11 4581298288 [(43, .bool false)] [5, 6, 16, 3, 10, 9, 0, 11, 17] [¬ (c t (f * 5) = (t : Int))] h5 ?_
            refine tri_cond_false rfl ?_
            refine tri_skip ?_
            refine post_then ?_
            refine wr [0] rfl ?_
            refine kSe 1 0 [(44, ii 0)] [5, 6, 16, 3, 10, 9, 0, 11, 17] ?_
            refine tri_block ?_
            refine tri_loop (β := Nat × Nat × β) (fun xz => [(5, ii (f : Int)), (6, pt b2 0), (16, .agg #[ii (c t 0), ii (c t 1), ii (c t 2), ii (c t 3), ii (c t 4), ii (c t 5), ii (c t 6), ii (c t 7), ii (c t 8), ii (c t 9), ii (c t 10), ii (c t 11), ii (c t 12), ii (c t 13), ii (c t 14), ii (c t 15), ii (c t 16), ii (c t 17), ii (c t 18), ii (c t 19)]), (3, ii (t : Int)), (10, ii ((n : Nat) : Int)), (9, sl b off n cap), (0, yv), (11, ii (t : Int)), (17, ii (f : Int)), (44, ii (xz.1 : Int))]) (fun xz => (b2, .cells #[ii (c t (f * 5)), ii (c t (f * 5 + 1)), ii (c t (f * 5 + 2)), ii (c t (f * 5 + 3)), ii (c t (f * 5 + 4))] 75 (0, 0)) :: (b1, .cells #[ii (c t 0), ii (c t 1), ii (c t 2), ii (c t 3), ii (c t 4), ii (c t 5), ii (c t 6), ii (c t 7), ii (c t 8), ii (c t 9), ii (c t 10), ii (c t 11), ii (c t 12), ii (c t 13), ii (c t 14), ii (c t 15), ii (c t 16), ii (c t 17), ii (c t 18), ii (c t 19)] 76 (0, 0)) :: (bg, .cells #[sl b off n cap] 24 (0, 0)) :: (H xz.2.2 ++ own)) (fun xz => xz.1 ≤ 4 ∧ xz.2.1 ≤ (eqns n c).length ∧ I xz.2.1 xz.2.2 ∧ (eqns n c).drop xz.2.1 = restI t f xz.1 ++ (restF c t (f + 1) ++ restT n c (t + 1))) (fun xz => 4 - xz.1) (0, k1, z1) (look_pickL (ks := [5, 6, 16, 3, 10, 9, 0, 11, 17, 44]) (by kernel_rfl)) (List.Sublist.refl _) ⟨by omega, hC1.2.1, hC1.2.2.1, by rw [← List.append_assoc]; rw [show restI t f 0 = rowF c t f by unfold rowF; rw [if_neg (by unfold Skip; omega)]]; rw [← restF_step c (by omega)]; exact hC1.2.2.2⟩ ?_
            rintro ⟨i, k2, z2⟩ hC2
            try dsimp only at hC2
            refine tri_eq (l' := [(5, ii (f : Int)), (6, pt b2 0), (16, .agg #[ii (c t 0), ii (c t 1), ii (c t 2), ii (c t 3), ii (c t 4), ii (c t 5), ii (c t 6), ii (c t 7), ii (c t 8), ii (c t 9), ii (c t 10), ii (c t 11), ii (c t 12), ii (c t 13), ii (c t 14), ii (c t 15), ii (c t 16), ii (c t 17), ii (c t 18), ii (c t 19)]), (3, ii (t : Int)), (10, ii ((n : Nat) : Int)), (9, sl b off n cap), (0, yv), (11, ii (t : Int)), (17, ii (f : Int)), (44, ii (i : Int))]) (hs' := (b2, .cells #[ii (c t (f * 5)), ii (c t (f * 5 + 1)), ii (c t (f * 5 + 2)), ii (c t (f * 5 + 3)), ii (c t (f * 5 + 4))] 75 (0, 0)) :: (b1, .cells #[ii (c t 0), ii (c t 1), ii (c t 2), ii (c t 3), ii (c t 4), ii (c t 5), ii (c t 6), ii (c t 7), ii (c t 8), ii (c t 9), ii (c t 10), ii (c t 11), ii (c t 12), ii (c t 13), ii (c t 14), ii (c t 15), ii (c t 16), ii (c t 17), ii (c t 18), ii (c t 19)] 76 (0, 0)) :: (bg, .cells #[sl b off n cap] 24 (0, 0)) :: (H z2 ++ own)) rfl rfl ?_
            refine wr [0] rfl ?_
            refine kSe 1 5 [(45, .bool (decide ((i : Int) < 4)))] [5, 6, 16, 3, 10, 9, 0, 11, 17, 44] ?_
            refine tri_seq ?_
            refine tri_cond_dec (p := (i : Int) < 4) rfl (fun h6 => ?_) (fun h6 => ?_)
            · refine tri_skip ?_
              refine post_then ?_
              refine tri_seq ?_
              refine tri_block ?_
              refine wr [0, 1] rfl ?_
              refine kSe 2 0 [(7, ii (i : Int))] [5, 6, 16, 3, 10, 9, 0, 11, 17, 44] ?_
              refine tri_seq ?_
              by_cases h7 : (i : Int) = (f : Int)
              · refine kD 19 0x1111111111111110700 [] [] [(65, .tuple #[]), (51, .tuple #[]), (50, .bool false)] [5, 6, 16, 3, 10, 9, 0, 11, 17, 44] [¬ ((i : Int) ≠ (f : Int))] [19, 20, 21] rfl (fun hn => hn h7) qZ ?_ (by kernel_rfl)
                refine kSe 3 17 [(68, .bool false)] [5, 6, 16, 3, 10, 9, 0, 11, 17, 44] ?_
                refine tri_cond_false rfl ?_
                refine tri_skip ?_
                refine post_block ?_
                refine post_then ?_
                refine tri_region (todo := [0, 1]) rfl ?_
                refine kO 2 2 [(44, ii ((i : Int) + 1))] [5, 6, 16, 3, 10, 9, 0, 11, 17] [I64 ((i : Int) + 1)] (ap1 (by first | omega | assumption)) ?_
                refine opsT_end ?_
                refine post_round ((i + 1), k2, z2) ⟨by omega, hC2.2.1, hC2.2.2.1, (by have hd := hC2.2.2.2; rw [restI_skip (by omega) (by omega)] at hd; exact hd)⟩ (by show 4 - (i + 1) < 4 - i; omega) (look_pickL (ks := [5, 6, 16, 3, 10, 9, 0, 11, 17, 44]) (by kernel_rfl)) (List.Sublist.refl _)
              · refine kD 19 0x90009000000000600 [9, 13, 17] [ii (c t (f * 5)), ii ([c t (f * 5), c t (f * 5 + 1), c t (f * 5 + 2), c t (f * 5 + 3), c t (f * 5 + 4)].getD (1 + f + 0) 0), ii ([c t (f * 5), c t (f * 5 + 1), c t (f * 5 + 2), c t (f * 5 + 3), c t (f * 5 + 4)].getD (1 + i + 0) 0)] [(65, .agg #[ii (t : Int), ii (f : Int), ii (i : Int), ii (c t (f * 5)), ii ([c t (f * 5), c t (f * 5 + 1), c t (f * 5 + 2), c t (f * 5 + 3), c t (f * 5 + 4)].getD (1 + f + 0) 0), ii ([c t (f * 5), c t (f * 5 + 1), c t (f * 5 + 2), c t (f * 5 + 3), c t (f * 5 + 4)].getD (1 + i + 0) 0)]), (51, yv), (50, .bool true)] [5, 6, 16, 3, 10, 9, 0, 11, 17, 44] [(i : Int) ≠ (f : Int), (0 : Int) ≤ (f : Int), (f : Int) < ((4 : Nat) : Int), (0 : Int) ≤ (i : Int), (i : Int) < ((4 : Nat) : Int)] [19, 20, 21] rfl (by refine ap h7 (ap ?_ (ap ?_ (ap ?_ (ap1 ?_)))) <;> (first | omega | assumption)) (qA (qL 0) (qA (qI 0 (1 + f) 1 [c t (f * 5), c t (f * 5 + 1), c t (f * 5 + 2), c t (f * 5 + 3), c t (f * 5 + 4)] (by simp <;> omega)) (qA (qI 0 (1 + i) 1 [c t (f * 5), c t (f * 5 + 1), c t (f * 5 + 2), c t (f * 5 + 3), c t (f * 5 + 4)] (by simp <;> omega)) qZ))) ?_ (by kernel_rfl)
                rw [show [c t (f * 5), c t (f * 5 + 1), c t (f * 5 + 2), c t (f * 5 + 3), c t (f * 5 + 4)].getD (1 + f + 0) 0 = c t (f * 5 + 1 + f) from five c t f (by omega)]
                rw [show [c t (f * 5), c t (f * 5 + 1), c t (f * 5 + 2), c t (f * 5 + 3), c t (f * 5 + 4)].getD (1 + i + 0) 0 = c t (f * 5 + 1 + i) from five c t f (by omega)]
                have hd := hC2.2.2.2
                rw [restI_step (by omega) (by omega)] at hd
                obtain ⟨hk1, hk2, hk3⟩ := drop_cons (d := (0, 0, 0)) hd
                refine opsT_yield (H := H) (I' := I (k2 + 1)) (Ix := Ix) (z := z2) (y := yv) (args := #[.agg #[ii (t : Int), ii (f : Int), ii (i : Int), ii (c t (f * 5)), ii (c t (f * 5 + 1 + f)), ii (c t (f * 5 + 1 + i))]]) [(b2, .cells #[ii (c t (f * 5)), ii (c t (f * 5 + 1)), ii (c t (f * 5 + 2)), ii (c t (f * 5 + 3)), ii (c t (f * 5 + 4))] 75 (0, 0)), (b1, .cells #[ii (c t 0), ii (c t 1), ii (c t 2), ii (c t 3), ii (c t 4), ii (c t 5), ii (c t 6), ii (c t 7), ii (c t 8), ii (c t 9), ii (c t 10), ii (c t 11), ii (c t 12), ii (c t 13), ii (c t 14), ii (c t 15), ii (c t 16), ii (c t 17), ii (c t 18), ii (c t 19)] 76 (0, 0)), (bg, .cells #[sl b off n cap] 24 (0, 0))] own rfl rfl rfl rfl rfl rfl rfl rfl (by kernel_rfl) rfl (fun own' W' hW' => (by rw [show (#[.agg #[ii (t : Int), ii (f : Int), ii (i : Int), ii (c t (f * 5)), ii (c t (f * 5 + 1 + f)), ii (c t (f * 5 + 1 + i))]] : Array Value) = matchV c ((eqns n c).getD k2 (0, 0, 0)) by rw [hk2]; rfl]; exact hy k2 hk1 z2 hC2.2.2.1 own' W' hW')) (fun z1 hI1 => ?_) (fun z2 hX1 => ?_)
                · refine opsT_heq (hs' := (b2, .cells #[ii (c t (f * 5)), ii (c t (f * 5 + 1)), ii (c t (f * 5 + 2)), ii (c t (f * 5 + 3)), ii (c t (f * 5 + 4))] 75 (0, 0)) :: (b1, .cells #[ii (c t 0), ii (c t 1), ii (c t 2), ii (c t 3), ii (c t 4), ii (c t 5), ii (c t 6), ii (c t 7), ii (c t 8), ii (c t 9), ii (c t 10), ii (c t 11), ii (c t 12), ii (c t 13), ii (c t 14), ii (c t 15), ii (c t 16), ii (c t 17), ii (c t 18), ii (c t 19)] 76 (0, 0)) :: (bg, .cells #[sl b off n cap] 24 (0, 0)) :: (H z1 ++ own)) rfl ?_
                  refine kSe 2 0 [(68, .bool false)] [5, 6, 16, 3, 10, 9, 0, 11, 17, 44] ?_
                  refine tri_cond_false rfl ?_
                  refine tri_skip ?_
                  refine post_block ?_
                  refine post_then ?_
                  refine tri_region (todo := [0, 1]) rfl ?_
                  refine kO 2 2 [(44, ii ((i : Int) + 1))] [5, 6, 16, 3, 10, 9, 0, 11, 17] [I64 ((i : Int) + 1)] (ap1 (by first | omega | assumption)) ?_
                  refine opsT_end ?_
                  refine post_round ((i + 1), (k2 + 1), z1) ⟨by omega, hk1, hI1, hk3⟩ (by show 4 - (i + 1) < 4 - i; omega) (look_pickL (ks := [5, 6, 16, 3, 10, 9, 0, 11, 17, 44]) (by kernel_rfl)) (List.Sublist.refl _)
                · refine opsT_heq (hs' := (b2, .cells #[ii (c t (f * 5)), ii (c t (f * 5 + 1)), ii (c t (f * 5 + 2)), ii (c t (f * 5 + 3)), ii (c t (f * 5 + 4))] 75 (0, 0)) :: (b1, .cells #[ii (c t 0), ii (c t 1), ii (c t 2), ii (c t 3), ii (c t 4), ii (c t 5), ii (c t 6), ii (c t 7), ii (c t 8), ii (c t 9), ii (c t 10), ii (c t 11), ii (c t 12), ii (c t 13), ii (c t 14), ii (c t 15), ii (c t 16), ii (c t 17), ii (c t 18), ii (c t 19)] 76 (0, 0)) :: (bg, .cells #[sl b off n cap] 24 (0, 0)) :: (H z2 ++ own)) rfl ?_
                  refine kSe 2 0 [(68, .bool true)] [5, 6, 16, 3, 10, 9, 0, 11, 17, 44] ?_
                  refine tri_cond_true rfl ?_
                  refine tri_ret ?_
                  refine post_block_ret ?_
                  refine post_then_ret ?_
                  refine post_round_ret ?_
                  refine post_block_ret ?_
                  refine post_block_ret ?_
                  refine post_then_ret ?_
                  refine post_round_ret ?_
                  refine post_block_ret ?_
                  refine post_block_ret ?_
                  refine post_then_ret ?_
                  refine post_round_ret ?_
                  refine post_block_ret ?_
                  refine post_ret0 rfl (fun W hR => ?_)
                  exact ⟨rfl, .inr ⟨z2, hX1, (Rep.back (capt := [(bg, .cells #[sl b off n cap] 24 (0, 0))]) (hR.forget (.cons _ (.cons _ (List.Sublist.refl _)))))⟩⟩
            · refine tri_exit ?_
              refine post_then_exit ?_
              refine post_round_exit ?_
              refine post_block_hit ?_
              refine post_block ?_
              refine post_then ?_
              refine tri_region (todo := [0, 1]) rfl ?_
              refine kO 2 2 [(17, ii ((f : Int) + 1))] [16, 3, 10, 9, 0, 11] [I64 ((f : Int) + 1)] (ap1 (by first | omega | assumption)) ?_
              refine opsT_end ?_
              refine post_round ((f + 1), k2, z2) ⟨by omega, hC2.2.1, hC2.2.2.1, (by have hd := hC2.2.2.2; rw [show i = 4 by omega, restI_end] at hd; exact hd)⟩ (by show 4 - (f + 1) < 4 - f; omega) (look_pickL (ks := [16, 3, 10, 9, 0, 11, 17]) (by kernel_rfl)) (.cons _ (List.Sublist.refl _))
    · refine tri_exit ?_
      refine post_then_exit ?_
      refine post_round_exit ?_
      refine post_block_hit ?_
      refine post_block ?_
      refine post_then ?_
      refine tri_region (todo := [0, 1]) rfl ?_
      refine kO 2 2 [(11, ii ((t : Int) + 1))] [10, 9, 0] [I64 ((t : Int) + 1)] (ap1 (by first | omega | assumption)) ?_
      refine opsT_end ?_
      refine post_round ((t + 1), k1, z1) ⟨by omega, hC1.2.1, hC1.2.2.1, (by have hd := hC1.2.2.2; rw [show f = 4 by omega, restF_end] at hd; exact hd)⟩ (by show n - (t + 1) < n - t; omega) (look_pickL (ks := [10, 9, 0, 11]) (by kernel_rfl)) (.cons _ (List.Sublist.refl _))
  · refine tri_exit ?_
    refine post_then_exit ?_
    refine post_round_exit ?_
    refine post_block_hit ?_
    refine post_end0 rfl (fun W hR => ?_)
    have ht : t = n := by omega
    have hd := hC0.2.2.2
    rw [ht, restT_end] at hd
    have hk := drop_nil hd hC0.2.1
    exact ⟨rfl, .inl ⟨z, (by rw [← hk]; exact hC0.2.2.1), (Rep.back (capt := [(bg, .cells #[sl b off n cap] 24 (0, 0))]) (hR.forget (List.Sublist.refl _)))⟩⟩
end Go.Proofs.YtlkbokbcfajhjaaGreat
