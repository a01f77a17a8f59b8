/- G10: entries in range; arcs of any face -/
import Derived.Test.YtlkbokbcfajhjaaGreatG9
import Derived.Test.YtlkbokbcfajhjaaGreatG6
import Derived.Test.YtlkbokbcfajhjaaGreatB17
import Derived.Test.YtlkbokbcfajhjaaGreatD1
namespace Go.Proofs.YtlkbokbcfajhjaaGreat
open Go.Proofs.Walk
set_option maxRecDepth 100000
set_option linter.unusedVariables false
set_option linter.unusedSimpArgs false

theorem en164 : Walk.Enters Tryz.prog 164 := Walk.enters Tryz.func164 (by kernel_rfl) rfl
theorem en186 : Walk.Enters Tryz.prog 186 := Walk.enters Tryz.func186 (by kernel_rfl) rfl
theorem en126 : Walk.Enters Tryz.prog 126 := Walk.enters Tryz.func126 (by kernel_rfl) rfl
theorem bad1 (x : Int) (w : World) : Calls Tryz.prog 164 #[ii x] w fun e w' => e = .returned (.bool (decide (x < 0 ∨ 1000000 < x))) ∧ Ext w w' := by
  refine calls_of (n := 9) Tryz.func164 rfl Tryz.ntmps164 rfl ?_
  refine tri_eq (l' := [(0, ii x)]) (hs' := []) rfl rfl ?_
  refine wr [0] rfl ?_
  refine kSe 1 0 [] [0] ?_
  refine tri_seq ?_
  by_cases h1 : x < 0
  · refine tri_region (todo := [0, 1, 2, 3, 4, 5, 6]) rfl ?_
    refine kOe 7 69728 [(2, .bool true)] [] [x < 0] h1 ?_
    refine tri_ret ?_
    refine post_ret1 (v := .bool true) rfl (.tmp rfl) (fun W hR => ?_)
    exact ⟨by first | rw [decide_eq_true (by omega)] | (congr 2; rw [decide_eq_decide]; omega), hR.ext⟩
  · refine tri_region (todo := [0, 1, 2, 3, 4, 5, 6]) rfl ?_
    refine kOe 7 327792 [(2, .bool (decide (1000000 < x)))] [] [¬ (x < 0)] h1 ?_
    refine tri_ret ?_
    refine post_ret1 (v := .bool (decide (1000000 < x))) rfl (.tmp rfl) (fun W hR => ?_)
    exact ⟨by first | rw [decide_eq_true (by omega)] | (congr 2; rw [decide_eq_decide]; omega), hR.ext⟩
theorem bad1_yes {x : Int} (h : x < 0 ∨ 1000000 < x) (w : World) : Calls Tryz.prog 164 #[.int .i64 x] w fun e w' => e = .returned (.bool true) ∧ Ext w w' :=
  (bad1 x w).mono fun e w' h' => ⟨by rw [h'.1, decide_eq_true h], h'.2⟩
theorem bad1_no {x : Int} (h : ¬ (x < 0 ∨ 1000000 < x)) (w : World) : Calls Tryz.prog 164 #[.int .i64 x] w fun e w' => e = .returned (.bool false) ∧ Ext w w' :=
  (bad1 x w).mono fun e w' h' => ⟨by rw [h'.1, decide_eq_false h], h'.2⟩
theorem index_ {b off n cap : Nat} {v : Nat → Int} {w : World} (hc : AtV w b off n v) (hn : n ≤ 1000000000000) : Calls Tryz.prog 186 #[sl b off n cap, .func (.func 164) #[] #[]] w fun e w' => ∃ r : Int, ((r = -1 ∧ InR n v) ∨ (0 ≤ r ∧ ¬ InR n v)) ∧ e = .returned (.int .i64 r) ∧ Ext w w' := by
  refine calls_of (n := 19) Tryz.func186 rfl Tryz.ntmps186 rfl ?_
  refine tri_eq (l' := [(0, sl b off n cap), (1, .func (.func 164) #[] #[])]) (hs' := []) rfl rfl ?_
  refine wr [0] rfl ?_
  refine kSe 1 0 [] [0, 1] ?_
  refine tri_seq ?_
  refine wr [0, 1, 2] rfl ?_
  refine kSe 3 0 [(8, ii 0), (7, ii ((n : Nat) : Int))] [0, 1] ?_
  refine tri_block ?_
  refine tri_loop (β := Nat) (fun xz => [(7, ii ((n : Nat) : Int)), (0, sl b off n cap), (1, .func (.func 164) #[] #[]), (8, ii (xz : Int))]) (fun xz => []) (fun xz => ∀ j, j < xz → 0 ≤ v j ∧ v j ≤ 1000000) (fun xz => n - xz) 0 (look_pickL (ks := [7, 0, 1, 8]) (by kernel_rfl)) (List.Sublist.refl _) (fun j h => absurd h (by omega)) ?_
  rintro i hC0
  try dsimp only at hC0
  refine tri_eq (l' := [(7, ii ((n : Nat) : Int)), (0, sl b off n cap), (1, .func (.func 164) #[] #[]), (8, ii (i : Int))]) (hs' := []) rfl rfl ?_
  refine wr [0] rfl ?_
  refine kSe 1 5 [(9, .bool (decide ((i : Int) < ((n : Nat) : Int))))] [7, 0, 1, 8] ?_
  refine tri_seq ?_
  refine tri_cond_dec (p := (i : Int) < ((n : Nat) : Int)) rfl (fun h1 => ?_) (fun h1 => ?_)
  · refine tri_skip ?_
    refine post_then ?_
    refine tri_seq ?_
    refine tri_block ?_
    refine wr [0, 1] rfl ?_
    refine kSe 2 0 [(5, ii (i : Int))] [7, 0, 1, 8] ?_
    refine tri_seq ?_
    by_cases h2 : v i < 0 ∨ 1000000 < v i
    · refine tri_region (todo := [0, 1, 2, 3, 4, 5]) rfl ?_
      refine kO 4 36864 [(14, pt b (off + i)), (11, .func (.func 164) #[] #[])] [5, 7, 0, 1, 8] [(0 : Int) ≤ (i : Int), (i : Int) < ((n : Nat) : Int)] (by refine ap ?_ (ap1 ?_) <;> (first | omega | assumption)) ?_
      refine kM b (off + i) [ii (v i)] (ii (v i)) (hc.one (by omega)) ?_
      refine kC en164 #[ii (v i)] (.bool true) rfl (fun W hR => bad1_yes h2 W) ?_ (by kernel_rfl)
      refine kPe [16, 5, 7, 0, 1, 8] ?_
      refine tri_cond_true rfl ?_
      refine wr [0, 1] rfl ?_
      refine kSe 2 0 [(4, ii (i : Int))] [] ?_
      refine tri_ret ?_
      refine post_block_ret ?_
      refine post_then_ret ?_
      refine post_round_ret ?_
      refine post_block_ret ?_
      refine post_then_ret ?_
      refine post_ret1 (v := ii (i : Int)) rfl (.tmp rfl) (fun W hR => ?_)
      exact ⟨_, .inr ⟨by omega, fun h => by have := h i (by omega); omega⟩, rfl, hR.ext⟩
    · refine tri_region (todo := [0, 1, 2, 3, 4, 5]) rfl ?_
      refine kO 4 36864 [(14, pt b (off + i)), (11, .func (.func 164) #[] #[])] [5, 7, 0, 1, 8] [(0 : Int) ≤ (i : Int), (i : Int) < ((n : Nat) : Int)] (by refine ap ?_ (ap1 ?_) <;> (first | omega | assumption)) ?_
      refine kM b (off + i) [ii (v i)] (ii (v i)) (hc.one (by omega)) ?_
      refine kC en164 #[ii (v i)] (.bool false) rfl (fun W hR => bad1_no h2 W) ?_ (by kernel_rfl)
      refine kPe [16, 5, 7, 0, 1, 8] ?_
      refine tri_cond_false rfl ?_
      refine tri_skip ?_
      refine post_block ?_
      refine post_then ?_
      refine tri_region (todo := [0, 1]) rfl ?_
      refine kO 2 2 [(8, ii ((i : Int) + 1))] [7, 0, 1] [I64 ((i : Int) + 1)] (ap1 (by first | omega | assumption)) ?_
      refine opsT_end ?_
      refine post_round (i + 1) (inR_step hC0 (by omega) (by omega)) (by show n - (i + 1) < n - i; omega) (look_pickL (ks := [7, 0, 1, 8]) (by kernel_rfl)) (List.Sublist.refl _)
  · refine tri_exit ?_
    refine post_then_exit ?_
    refine post_round_exit ?_
    refine post_block_hit ?_
    refine post_then ?_
    refine wr [0] rfl ?_
    refine kSe 1 0 [(4, ii (-1))] [] ?_
    refine tri_ret ?_
    refine post_ret1 (v := ii (-1)) rfl (.tmp rfl) (fun W hR => ?_)
    exact ⟨-1, .inl ⟨rfl, fun i hi => hC0 i (by omega)⟩, rfl, hR.ext⟩
theorem index_yes {b off n cap : Nat} {v : Nat → Int} {w : World} (hc : AtV w b off n v) (hn : n ≤ 1000000000000) (h : InR n v) : Calls Tryz.prog 186 #[sl b off n cap, .func (.func 164) #[] #[]] w fun e w' => e = .returned (.int .i64 (-1)) ∧ Ext w w' :=
  (index_ hc hn).mono fun e w' ⟨r, h', he, hx⟩ => by
    rcases h' with ⟨rfl, _⟩ | ⟨_, h'⟩
    · exact ⟨he, hx⟩
    · exact absurd h h'
theorem index_no {b off n cap : Nat} {v : Nat → Int} {w : World} (hc : AtV w b off n v) (hn : n ≤ 1000000000000) (h : ¬ InR n v) : Calls Tryz.prog 186 #[sl b off n cap, .func (.func 164) #[] #[]] w fun e w' => ∃ r : Int, 0 ≤ r ∧ e = .returned (.int .i64 r) ∧ Ext w w' :=
  (index_ hc hn).mono fun e w' ⟨r, h', he, hx⟩ => by
    rcases h' with ⟨_, h'⟩ | ⟨h', _⟩
    · exact absurd h' h
    · exact ⟨r, h', he, hx⟩

theorem contains_no {b off n cap : Nat} {v : Nat → Int} {w : World} (hc : AtV w b off n v) (hn : n ≤ 1000000000000) (h : InR n v) : Calls Tryz.prog 126 #[sl b off n cap, .func (.func 164) #[] #[]] w fun e w' => e = .returned (.bool false) ∧ Ext w w' := by
  refine calls_of (n := 9) Tryz.func126 rfl Tryz.ntmps126 rfl ?_
  refine tri_eq (l' := [(0, sl b off n cap), (1, .func (.func 164) #[] #[])]) (hs' := []) rfl rfl ?_
  refine wr [0] rfl ?_
  refine kSn 1 0 [] [0, 1] [0, 1, 2, 3, 4] ?_
  refine kS 2 0 [(6, .func (.func 164) #[] #[]), (5, sl b off n cap)] [] ?_
  refine kC en186 #[sl b off n cap, .func (.func 164) #[] #[]] (ii (-1)) rfl (fun W hR => index_yes (hc.rep hR (by simp)) hn h) ?_ (by kernel_rfl)
  refine kSe 2 0 [(4, .bool false)] [] ?_
  refine tri_ret ?_
  refine post_ret1 (v := .bool false) rfl (.tmp rfl) (fun W hR => ?_)
  exact ⟨by rfl, hR.ext⟩
theorem contains_yes {b off n cap : Nat} {v : Nat → Int} {w : World} (hc : AtV w b off n v) (hn : n ≤ 1000000000000) (h : ¬ InR n v) : Calls Tryz.prog 126 #[sl b off n cap, .func (.func 164) #[] #[]] w fun e w' => e = .returned (.bool true) ∧ Ext w w' := by
  refine calls_of (n := 9) Tryz.func126 rfl Tryz.ntmps126 rfl ?_
  refine tri_eq (l' := [(0, sl b off n cap), (1, .func (.func 164) #[] #[])]) (hs' := []) rfl rfl ?_
  refine wr [0] rfl ?_
  refine kSn 1 0 [] [0, 1] [0, 1, 2, 3, 4] ?_
  refine kS 2 0 [(6, .func (.func 164) #[] #[]), (5, sl b off n cap)] [] ?_
  refine opsT_callR (f := 186) (args := #[sl b off n cap, .func (.func 164) #[] #[]]) [] [] (fun r => .int .i64 r) (fun _ => []) (fun r => 0 ≤ r) rfl rfl rfl rfl rfl (run_call en186 rfl rfl rfl (by kernel_rfl)) (List.Perm.refl _) (fun W hR => (index_no (hc.rep hR (by simp)) hn h).mono fun e w' ⟨r, h1, h2, h3⟩ => ⟨r, h1, h2, h3.size, fun b hb _ => h3.same b hb, fun _ _ h => by simp at h, fun _ _ h => by simp at h, by simp, h3.calm⟩) (fun r hr => ?_)
  refine opsT_heq (hs' := []) rfl ?_
  refine kSe 2 5 [(4, .bool (decide (0 ≤ r)))] [] ?_
  refine tri_ret ?_
  refine post_ret1 (v := .bool (decide (0 ≤ r))) rfl (.tmp rfl) (fun W hR => ?_)
  exact ⟨by rw [decide_eq_true hr], hR.ext⟩
theorem arcs_ {b off n cap : Nat} {v : Nat → Int} {w : World} (hc : AtV w b off n v) (hv : InR n v) (hn : n ≤ 1000000) {t f i : Int} (t0 : 0 ≤ t) (ht : 10 * t + 10 ≤ n) (f0 : 0 ≤ f) (f4 : f < 4) (i0 : 0 ≤ i) (i4 : i < 4) (hif : i ≠ f) :
    Calls Tryz.prog 101 #[sl b off n cap, ii t, ii f, ii i] w fun e w' => e = .returned (.int .i64 (arcP v t.toNat f.toNat i.toNat)) ∧ Ext w w' := by
  obtain ⟨T, rfl⟩ : ∃ T : Nat, t = T := ⟨t.toNat, by omega⟩
  obtain ⟨F, rfl⟩ : ∃ F : Nat, f = F := ⟨f.toNat, by omega⟩
  obtain ⟨I, rfl⟩ : ∃ I : Nat, i = I := ⟨i.toNat, by omega⟩
  simp only [Int.toNat_natCast]
  exact arcsN_ hc hv (by omega) hn (by omega) (by omega) (fun e => hif (by rw [e]))

end Go.Proofs.YtlkbokbcfajhjaaGreat
