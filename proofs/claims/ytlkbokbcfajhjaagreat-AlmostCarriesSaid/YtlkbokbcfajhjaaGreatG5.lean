/- G5: unions: roots, joining -/
import Derived.Test.YtlkbokbcfajhjaaGreatG4
import Derived.Test.YtlkbokbcfajhjaaGreatB17
import Derived.Test.YtlkbokbcfajhjaaGreatD1
namespace Go.Proofs.YtlkbokbcfajhjaaGreat
open Go.Proofs.Walk
set_option maxRecDepth 100000
set_option linter.unusedVariables false
set_option linter.unusedSimpArgs false

theorem ixOf_lt {κ : Type} [DecidableEq κ] {ks : List κ} {x : κ} (h : x ∈ ks) : ixOf ks x < ks.length := List.idxOf_lt_length_of_mem h

theorem rootI {bu : Nat} {ks : List (Int)} {R : Nat → Nat} {uns : List (Nat × Obj)} {w : World} (x : Int) (hU : UN 229 (Value.int .i64) bu ks R uns) (hR0 : Rep w (uns.map (·.1)) uns w) (hx : x ∈ ks) : Calls Tryz.prog 99 #[.pointer (some ⟨bu, 0, none⟩), .int .i64 x] w fun e w' => ∃ uns', UN 229 (Value.int .i64) bu ks R uns' ∧ e = .returned (.int .i64 (R (ixOf ks x) : Int)) ∧ Rep w (uns.map (·.1)) uns' w' := by
  obtain ⟨up, sp, b, cap, bm, rfl, k1, k2, k3, k4, k5, k6⟩ := hU
  refine calls_ofR (n := 45) Tryz.func99 rfl Tryz.ntmps99 rfl hR0 ?_
  refine tri_eq (l' := [(0, pt bu 0), (1, ii x)]) (hs' := [(bu, .cells #[sl b 0 up.length cap, .map (some bm)] 229 (0, 0)), (bm, mapB (Value.int .i64) nth ks), (b, roomB up sp 3)]) rfl rfl ?_
  refine wr [0] rfl ?_
  refine kSn 1 0 [] [0, 1] [0, 1, 2, 3] ?_
  refine kS 2 0 [(7, ii x), (6, pt bu 0)] [0] ?_
  refine kC en95 #[pt bu 0, ii x] (ii (ixOf ks x : Int)) rfl (fun W hR => numOldI x ⟨up, sp, b, cap, bm, rfl, k1, k2, k3, k4, k5, k6⟩ (Rep.mineSub hR (List.Sublist.refl _)) hx) ?_ (by kernel_rfl)
  refine kSe 1 0 [(5, ii (ixOf ks x : Int))] [0] ?_
  refine tri_seq ?_
  refine tri_block ?_
  refine tri_loop (β := Nat × List Int) (fun xz => [(0, pt bu 0), (5, ii (xz.1 : Int))]) (fun xz => [(bu, .cells #[sl b 0 up.length cap, .map (some bm)] 229 (0, 0)), (bm, mapB (Value.int .i64) nth ks), (b, roomB xz.2 sp 3)]) (fun xz => xz.2.length = up.length ∧ Down xz.2 ∧ (∀ j, j < up.length → rt xz.2 j = R j) ∧ xz.1 < up.length ∧ R xz.1 = R (ixOf ks x)) (fun xz => xz.1) ((ixOf ks x), up) (look_pickL (ks := [0, 5]) (by kernel_rfl)) (List.Sublist.refl _) ⟨rfl, k5, k6, (by have := ixOf_lt hx; omega), rfl⟩ ?_
  rintro ⟨i, u⟩ hC0
  try dsimp only at hC0
  refine tri_eq (l' := [(0, pt bu 0), (5, ii (i : Int))]) (hs' := [(bu, .cells #[sl b 0 up.length cap, .map (some bm)] 229 (0, 0)), (bm, mapB (Value.int .i64) nth ks), (b, roomB u sp 3)]) rfl rfl ?_
  refine tri_seq ?_
  refine wr [0, 1, 2, 3, 4, 5, 6, 7, 8] rfl ?_
  refine kS 3 0 [(11, pt bu 0)] [0, 5] ?_
  refine kL 0 (sl b 0 up.length cap) ?_
  refine kO 2 144 [(14, pt b (0 + i))] [0, 5] [(0 : Int) ≤ (i : Int), (i : Int) < ((up.length : Nat) : Int)] (by refine ap ?_ (ap1 ?_) <;> (first | omega | (have hz0 := hC0.1; have hz1 := hC0.2.2.2.1; have hz2 := hC0.2.1 i (by omega); simp only [Nat.zero_add, Int.toNat_natCast] at *; omega) | assumption)) ?_
  refine opsT_loadRoom 2 b (0 + i) u sp 3 rfl rfl rfl rfl rfl rfl rfl rfl (by first | (simp [hC0.1]; done) | (simp only [List.length_set, Nat.zero_add, Int.toNat_natCast]; have hz0 := hC0.1; have hz1 := hC0.2.2.2.1; have hz2 := hC0.2.1 i (by omega); omega) | (have hz0 := hC0.1; have hz1 := hC0.2.2.2.1; have hz2 := hC0.2.1 i (by omega); simp only [Nat.zero_add, Int.toNat_natCast] at *; omega)) (fun _ => rfl) ?_
  refine kSe 2 80 [(17, .bool (!decide (u.getD (0 + i) 0 = (i : Int))))] [0, 5] ?_
  refine tri_cond (b := !decide (u.getD (0 + i) 0 = (i : Int))) rfl (fun h1 => ?_) (fun h1 => ?_)
  · simp only [Bool.not_eq_true', decide_eq_false_iff_not] at h1
    refine tri_skip ?_
    refine post_then ?_
    refine tri_block ?_
    refine tri_seq ?_
    refine kD 19 0x9090900000000000000 [3, 8, 12, 15, 17] [sl b 0 up.length cap, sl b 0 up.length cap, sl b 0 up.length cap, ii (u.getD (0 + i) 0), ii (u.getD (0 + (u.getD (0 + i) 0).toNat) 0)] [(36, pt b (0 + i)), (35, ii (u.getD (0 + (u.getD (0 + i) 0).toNat) 0))] [0, 5] [(0 : Int) ≤ (i : Int), (i : Int) < ((up.length : Nat) : Int), (0 : Int) ≤ u.getD (0 + i) 0, u.getD (0 + i) 0 < ((up.length : Nat) : Int), (0 : Int) ≤ (i : Int), (i : Int) < ((up.length : Nat) : Int)] [19] rfl (by refine ap ?_ (ap ?_ (ap ?_ (ap ?_ (ap ?_ (ap1 ?_))))) <;> (first | omega | (have hz0 := hC0.1; have hz1 := hC0.2.2.2.1; have hz2 := hC0.2.1 i (by omega); simp only [Nat.zero_add, Int.toNat_natCast] at *; omega) | assumption)) (qA (qL 0) (qA (qL 0) (qA (qL 0) (qA (qK [(32, pt b (0 + i))] (by kernel_rfl) (opQ_loadRoom 2 b (0 + i) u sp 3 rfl rfl rfl rfl rfl rfl rfl rfl (by first | (simp [hC0.1]; done) | (simp only [List.length_set, Nat.zero_add, Int.toNat_natCast]; have hz0 := hC0.1; have hz1 := hC0.2.2.2.1; have hz2 := hC0.2.1 i (by omega); omega) | (have hz0 := hC0.1; have hz1 := hC0.2.2.2.1; have hz2 := hC0.2.1 i (by omega); simp only [Nat.zero_add, Int.toNat_natCast] at *; omega)) (fun _ => rfl))) (qA (qK [(34, pt b (0 + (u.getD (0 + i) 0).toNat))] (by kernel_rfl) (opQ_loadRoom 2 b (0 + (u.getD (0 + i) 0).toNat) u sp 3 rfl rfl rfl rfl rfl rfl rfl rfl (by first | (simp [hC0.1]; done) | (simp only [List.length_set, Nat.zero_add, Int.toNat_natCast]; have hz0 := hC0.1; have hz1 := hC0.2.2.2.1; have hz2 := hC0.2.1 i (by omega); omega) | (have hz0 := hC0.1; have hz1 := hC0.2.2.2.1; have hz2 := hC0.2.1 i (by omega); simp only [Nat.zero_add, Int.toNat_natCast] at *; omega)) (fun _ => rfl))) qZ))))) ?_ (by kernel_rfl)
    refine opsT_storeRoom 2 b (0 + i) u sp 3 (u.getD (0 + (u.getD (0 + i) 0).toNat) 0) rfl rfl rfl rfl rfl rfl rfl rfl (by kernel_rfl) (by first | (simp [hC0.1]; done) | (simp only [List.length_set, Nat.zero_add, Int.toNat_natCast]; have hz0 := hC0.1; have hz1 := hC0.2.2.2.1; have hz2 := hC0.2.1 i (by omega); omega) | (have hz0 := hC0.1; have hz1 := hC0.2.2.2.1; have hz2 := hC0.2.1 i (by omega); simp only [Nat.zero_add, Int.toNat_natCast] at *; omega)) ?_
    refine kPe [0, 5] ?_
    refine tri_region (todo := [0, 1, 2, 3, 4, 5, 6, 7]) rfl ?_
    refine kS 3 0 [(39, pt bu 0)] [0, 5] ?_
    refine kL 0 (sl b 0 up.length cap) ?_
    refine kO 2 144 [(42, pt b (0 + i))] [0, 5] [(0 : Int) ≤ (i : Int), (i : Int) < ((up.length : Nat) : Int)] (by refine ap ?_ (ap1 ?_) <;> (first | omega | (have hz0 := hC0.1; have hz1 := hC0.2.2.2.1; have hz2 := hC0.2.1 i (by omega); simp only [Nat.zero_add, Int.toNat_natCast] at *; omega) | assumption)) ?_
    refine opsT_loadRoom 2 b (0 + i) (u.set (0 + i) (u.getD (0 + (u.getD (0 + i) 0).toNat) 0)) sp 3 rfl rfl rfl rfl rfl rfl rfl rfl (by first | (simp [hC0.1]; done) | (simp only [List.length_set, Nat.zero_add, Int.toNat_natCast]; have hz0 := hC0.1; have hz1 := hC0.2.2.2.1; have hz2 := hC0.2.1 i (by omega); omega) | (have hz0 := hC0.1; have hz1 := hC0.2.2.2.1; have hz2 := hC0.2.1 i (by omega); simp only [Nat.zero_add, Int.toNat_natCast] at *; omega)) (fun _ => rfl) ?_
    refine kS 1 0 [(5, ii ((u.set (0 + i) (u.getD (0 + (u.getD (0 + i) 0).toNat) 0)).getD (0 + i) 0))] [0] ?_
    refine opsT_end ?_
    refine post_block ?_
    have hi0 : i < u.length := by omega
    have hd0 := hC0.2.1 i hi0
    have hd1 := hC0.2.1 (u.getD i 0).toNat (by omega)
    have hne : ¬ (u.getD i 0).toNat = i := by simp only [Nat.zero_add, Int.toNat_natCast] at h1; omega
    have hh := rt_halve hC0.2.1 hi0
    have hgi : (u.set i (u.getD (u.getD i 0).toNat 0)).getD i 0 = u.getD (u.getD i 0).toNat 0 := by rw [getD_lset hi0]; simp
    have hR1 : R (u.getD (u.getD i 0).toNat 0).toNat = R i := by
      rw [← hC0.2.2.1 i (by omega), ← hC0.2.2.1 _ (by omega), rt_step hC0.2.1 hi0, if_neg hne, rt_step hC0.2.1 (i := (u.getD i 0).toNat) (by omega)]
      split
      · rename_i e; rw [e]; exact rt_of_fix hC0.2.1 (by omega) e
      · rfl
    refine post_leq (l' := [(5, ii ((u.getD (u.getD i 0).toNat 0).toNat : Int)), (0, pt bu 0)]) (by simp only [Nat.zero_add, Int.toNat_natCast, hgi]; rw [Int.toNat_of_nonneg (by omega)]) ?_
    refine post_heq (hs' := [(bu, .cells #[sl b 0 up.length cap, .map (some bm)] 229 (0, 0)), (bm, mapB (Value.int .i64) nth ks), (b, roomB (u.set i (u.getD (u.getD i 0).toNat 0)) sp 3)]) (by simp [Nat.zero_add]) ?_
    refine post_round ((u.getD (u.getD i 0).toNat 0).toNat, (u.set i (u.getD (u.getD i 0).toNat 0))) ⟨by simp [hC0.1], hh.1, fun j hj => by rw [hh.2 j (by omega)]; exact hC0.2.2.1 j hj, by omega, by rw [hR1]; exact hC0.2.2.2.2⟩ (by show _ < i; omega) (look_pickL (ks := [0, 5]) (by kernel_rfl)) (List.Sublist.refl _)
  · simp only [Bool.not_eq_false', decide_eq_true_eq] at h1
    refine tri_exit ?_
    refine post_then_exit ?_
    refine post_round_exit ?_
    refine post_block_hit ?_
    refine post_then ?_
    refine wr [0, 1] rfl ?_
    refine kSe 2 0 [(4, ii (i : Int))] [] ?_
    refine tri_ret ?_
    refine post_ret1 (v := ii (i : Int)) rfl (.tmp rfl) (fun W hR => ?_)
    have hfix : (u.getD i 0).toNat = i := by have := hC0.2.1 i (by omega); simp only [Nat.zero_add, Int.toNat_natCast, Decidable.not_not] at h1; omega
    have hroot : i = R (ixOf ks x) := by rw [← hC0.2.2.2.2, ← hC0.2.2.1 i hC0.2.2.2.1]; exact (rt_of_fix hC0.2.1 (by omega) hfix).symm
    exact ⟨_, ⟨u, sp, b, cap, bm, by rw [hC0.1], by omega, by omega, by omega, by simpa [hC0.1] using k4, hC0.2.1, fun j hj => hC0.2.2.1 j (by omega)⟩, by rw [hroot], hR.forget (List.Sublist.refl _)⟩
theorem joinI {bu : Nat} {ks : List (Int)} {R : Nat → Nat} {uns : List (Nat × Obj)} {w : World} (x y : Int) (hU : UN 229 (Value.int .i64) bu ks R uns) (hR0 : Rep w (uns.map (·.1)) uns w) (hx : x ∈ ks) (hy : y ∈ ks) : Calls Tryz.prog 97 #[.pointer (some ⟨bu, 0, none⟩), .int .i64 x, .int .i64 y] w fun e w' => ∃ uns', UN 229 (Value.int .i64) bu ks (fun j => if R j = max (R (ixOf ks x)) (R (ixOf ks y)) then min (R (ixOf ks x)) (R (ixOf ks y)) else R j) uns' ∧ e = .returned (.tuple #[]) ∧ Rep w (uns.map (·.1)) uns' w' := by
  refine calls_ofR (n := 25) Tryz.func97 rfl Tryz.ntmps97 rfl hR0 ?_
  refine tri_eq (l' := [(0, pt bu 0), (1, ii x), (2, ii y)]) (hs' := uns) rfl rfl ?_
  refine wr [0, 1, 2, 3, 4, 5, 6, 7] rfl ?_
  refine kS 2 0 [(9, ii x), (8, pt bu 0)] [0, 2] ?_
  refine opsT_callR (f := 99) (args := #[pt bu 0, ii x]) uns [] (fun _ => .int .i64 (R (ixOf ks x) : Int)) (fun u => u) (fun u => UN 229 (Value.int .i64) bu ks R u) rfl rfl rfl rfl rfl (run_call en99 rfl rfl rfl (by kernel_rfl)) (by simp) (fun W hR => rootI x hU (Rep.mineSub hR (by simp)) hx) (fun uns1 hU1 => ?_)
  refine opsT_heq (hs' := uns1) (by simp) ?_
  refine kS 2 0 [(12, ii y), (11, pt bu 0)] [10, 0] ?_
  refine opsT_callR (f := 99) (args := #[pt bu 0, ii y]) uns1 [] (fun _ => .int .i64 (R (ixOf ks y) : Int)) (fun u => u) (fun u => UN 229 (Value.int .i64) bu ks R u) rfl rfl rfl rfl rfl (run_call en99 rfl rfl rfl (by kernel_rfl)) (by simp) (fun W hR => rootI y hU1 (Rep.mineSub hR (by simp)) hy) (fun uns2 hU2 => ?_)
  refine opsT_heq (hs' := uns2) (by simp) ?_
  obtain ⟨up, sp, b, cap, bm, rfl, k1, k2, k3, k4, k5, k6⟩ := hU2
  have gx := ixOf_lt hx
  have gy := ixOf_lt hy
  have rx := rt_le k5 (i := ixOf ks x) (by omega)
  have ry := rt_le k5 (i := ixOf ks y) (by omega)
  have fx := rt_fix k5 (i := ixOf ks x) (by omega)
  have fy := rt_fix k5 (i := ixOf ks y) (by omega)
  rw [k6 _ (by omega)] at rx ry fx fy
  generalize R (ixOf ks x) = a2 at *
  generalize R (ixOf ks y) = c2 at *
  refine opsT_leq (l' := [(13, ii (c2 : Int)), (12, ii y), (11, pt bu 0), (10, ii (a2 : Int)), (0, pt bu 0)]) rfl ?_
  refine opsT_heq (hs' := [(bu, .cells #[sl b 0 up.length cap, .map (some bm)] 229 (0, 0)), (bm, mapB (Value.int .i64) nth ks), (b, roomB up sp 3)]) rfl ?_
  refine kSe 2 0 [(7, ii (c2 : Int)), (6, ii (a2 : Int))] [0] ?_
  refine tri_region (todo := [0, 1, 2, 3, 4, 5, 6, 7, 8, 9, 10, 11]) rfl ?_
  refine kS 3 0 [(16, pt bu 0)] [7, 6] ?_
  refine kL 0 (sl b 0 up.length cap) ?_
  refine kO 7 150994944 [(24, pt b (0 + (if (c2 : Int) > (a2 : Int) then (c2 : Int) else (a2 : Int)).toNat)), (23, ii (if (c2 : Int) < (a2 : Int) then (c2 : Int) else (a2 : Int)))] [] [(0 : Int) ≤ (if (c2 : Int) > (a2 : Int) then (c2 : Int) else (a2 : Int)), (if (c2 : Int) > (a2 : Int) then (c2 : Int) else (a2 : Int)) < ((up.length : Nat) : Int)] (by refine ap ?_ (ap1 ?_) <;> (first | omega | (split <;> omega) | assumption)) ?_
  refine opsT_storeRoom 2 b (0 + (if (c2 : Int) > (a2 : Int) then (c2 : Int) else (a2 : Int)).toNat) up sp 3 (if (c2 : Int) < (a2 : Int) then (c2 : Int) else (a2 : Int)) rfl rfl rfl rfl rfl rfl rfl rfl (by kernel_rfl) (by simp only [Nat.zero_add]; split <;> omega) ?_
  refine kP [] ?_
  refine opsT_end ?_
  refine post_end0 rfl (fun W hR => ?_)
  have hj : Down (up.set (max a2 c2) ((min a2 c2 : Nat) : Int)) ∧ ∀ j, j < up.length → rt (up.set (max a2 c2) ((min a2 c2 : Nat) : Int)) j = if rt up j = max a2 c2 then min a2 c2 else rt up j := by
    rcases Nat.le_total a2 c2 with h | h
    · rw [Nat.max_eq_right h, Nat.min_eq_left h]; exact rt_join k5 (by omega) h fy fx
    · rw [Nat.max_eq_left h, Nat.min_eq_right h]; exact rt_join k5 (by omega) h fx fy
  have e1 : ((if (c2 : Int) > (a2 : Int) then (c2 : Int) else (a2 : Int))).toNat = max a2 c2 := by split <;> omega
  have e2 : ((if (c2 : Int) < (a2 : Int) then (c2 : Int) else (a2 : Int))) = ((min a2 c2 : Nat) : Int) := by split <;> omega
  have hR2 := hR.forget (List.Sublist.refl _)
  rw [show up.set (0 + (if (c2 : Int) > (a2 : Int) then (c2 : Int) else (a2 : Int)).toNat) (if (c2 : Int) < (a2 : Int) then (c2 : Int) else (a2 : Int)) = up.set (max a2 c2) ((min a2 c2 : Nat) : Int) by rw [Nat.zero_add, e1, e2]] at hR2
  exact ⟨[(bu, .cells #[sl b 0 up.length cap, .map (some bm)] 229 (0, 0)), (bm, mapB (Value.int .i64) nth ks), (b, roomB (up.set (max a2 c2) ((min a2 c2 : Nat) : Int)) sp 3)], ⟨up.set (max a2 c2) ((min a2 c2 : Nat) : Int), sp, b, cap, bm, by rw [List.length_set], by simpa using k1, by simpa using k2, by simpa using k3, by simpa using k4, hj.1, fun j hj2 => by
    rw [List.length_set] at hj2
    rw [hj.2 j hj2, k6 j hj2]⟩, rfl, hR2⟩
theorem rootP {bu : Nat} {ks : List (Int × Int)} {R : Nat → Nat} {uns : List (Nat × Obj)} {w : World} (x : Int × Int) (hU : UN 165 pairV bu ks R uns) (hR0 : Rep w (uns.map (·.1)) uns w) (hx : x ∈ ks) : Calls Tryz.prog 55 #[.pointer (some ⟨bu, 0, none⟩), .agg #[.int .i64 x.1, .int .i64 x.2]] w fun e w' => ∃ uns', UN 165 pairV bu ks R uns' ∧ e = .returned (.int .i64 (R (ixOf ks x) : Int)) ∧ Rep w (uns.map (·.1)) uns' w' := by
  obtain ⟨up, sp, b, cap, bm, rfl, k1, k2, k3, k4, k5, k6⟩ := hU
  refine calls_ofR (n := 45) Tryz.func55 rfl Tryz.ntmps55 rfl hR0 ?_
  refine tri_eq (l' := [(0, pt bu 0), (1, .agg #[ii x.1, ii x.2])]) (hs' := [(bu, .cells #[sl b 0 up.length cap, .map (some bm)] 165 (0, 0)), (bm, mapB pairV nth ks), (b, roomB up sp 3)]) rfl rfl ?_
  refine wr [0, 1] rfl ?_
  refine kB (.agg #[ii x.1, ii x.2]) fun b1 => ?_
  refine kSn 1 0 [] [3, 0] [0, 1, 2, 3] ?_
  refine kS 1 0 [(6, pt bu 0)] [3, 0] ?_
  refine kL 0 (.agg #[ii x.1, ii x.2]) ?_
  refine kC en115 #[pt bu 0, .agg #[ii x.1, ii x.2]] (ii (ixOf ks x : Int)) rfl (fun W hR => numOldP x ⟨up, sp, b, cap, bm, rfl, k1, k2, k3, k4, k5, k6⟩ (Rep.mineSub hR (.cons _ (List.Sublist.refl _))) hx) ?_ (by kernel_rfl)
  refine kSe 1 0 [(5, ii (ixOf ks x : Int))] [0] ?_
  refine tri_seq ?_
  refine tri_block ?_
  refine tri_loop (β := Nat × List Int) (fun xz => [(0, pt bu 0), (5, ii (xz.1 : Int))]) (fun xz => [(bu, .cells #[sl b 0 up.length cap, .map (some bm)] 165 (0, 0)), (bm, mapB pairV nth ks), (b, roomB xz.2 sp 3)]) (fun xz => xz.2.length = up.length ∧ Down xz.2 ∧ (∀ j, j < up.length → rt xz.2 j = R j) ∧ xz.1 < up.length ∧ R xz.1 = R (ixOf ks x)) (fun xz => xz.1) ((ixOf ks x), up) (look_pickL (ks := [0, 5]) (by kernel_rfl)) (.cons _ (List.Sublist.refl _)) ⟨rfl, k5, k6, (by have := ixOf_lt hx; omega), rfl⟩ ?_
  rintro ⟨i, u⟩ hC0
  try dsimp only at hC0
  refine tri_eq (l' := [(0, pt bu 0), (5, ii (i : Int))]) (hs' := [(bu, .cells #[sl b 0 up.length cap, .map (some bm)] 165 (0, 0)), (bm, mapB pairV nth ks), (b, roomB u sp 3)]) rfl rfl ?_
  refine tri_seq ?_
  refine wr [0, 1, 2, 3, 4, 5, 6, 7, 8] rfl ?_
  refine kS 3 0 [(11, pt bu 0)] [0, 5] ?_
  refine kL 0 (sl b 0 up.length cap) ?_
  refine kO 2 144 [(14, pt b (0 + i))] [0, 5] [(0 : Int) ≤ (i : Int), (i : Int) < ((up.length : Nat) : Int)] (by refine ap ?_ (ap1 ?_) <;> (first | omega | (have hz0 := hC0.1; have hz1 := hC0.2.2.2.1; have hz2 := hC0.2.1 i (by omega); simp only [Nat.zero_add, Int.toNat_natCast] at *; omega) | assumption)) ?_
  refine opsT_loadRoom 2 b (0 + i) u sp 3 rfl rfl rfl rfl rfl rfl rfl rfl (by first | (simp [hC0.1]; done) | (simp only [List.length_set, Nat.zero_add, Int.toNat_natCast]; have hz0 := hC0.1; have hz1 := hC0.2.2.2.1; have hz2 := hC0.2.1 i (by omega); omega) | (have hz0 := hC0.1; have hz1 := hC0.2.2.2.1; have hz2 := hC0.2.1 i (by omega); simp only [Nat.zero_add, Int.toNat_natCast] at *; omega)) (fun _ => rfl) ?_
  refine kSe 2 80 [(17, .bool (!decide (u.getD (0 + i) 0 = (i : Int))))] [0, 5] ?_
  refine tri_cond (b := !decide (u.getD (0 + i) 0 = (i : Int))) rfl (fun h1 => ?_) (fun h1 => ?_)
  · simp only [Bool.not_eq_true', decide_eq_false_iff_not] at h1
    refine tri_skip ?_
    refine post_then ?_
    refine tri_block ?_
    refine tri_seq ?_
    refine kD 19 0x9090900000000000000 [3, 8, 12, 15, 17] [sl b 0 up.length cap, sl b 0 up.length cap, sl b 0 up.length cap, ii (u.getD (0 + i) 0), ii (u.getD (0 + (u.getD (0 + i) 0).toNat) 0)] [(36, pt b (0 + i)), (35, ii (u.getD (0 + (u.getD (0 + i) 0).toNat) 0))] [0, 5] [(0 : Int) ≤ (i : Int), (i : Int) < ((up.length : Nat) : Int), (0 : Int) ≤ u.getD (0 + i) 0, u.getD (0 + i) 0 < ((up.length : Nat) : Int), (0 : Int) ≤ (i : Int), (i : Int) < ((up.length : Nat) : Int)] [19] rfl (by refine ap ?_ (ap ?_ (ap ?_ (ap ?_ (ap ?_ (ap1 ?_))))) <;> (first | omega | (have hz0 := hC0.1; have hz1 := hC0.2.2.2.1; have hz2 := hC0.2.1 i (by omega); simp only [Nat.zero_add, Int.toNat_natCast] at *; omega) | assumption)) (qA (qL 0) (qA (qL 0) (qA (qL 0) (qA (qK [(32, pt b (0 + i))] (by kernel_rfl) (opQ_loadRoom 2 b (0 + i) u sp 3 rfl rfl rfl rfl rfl rfl rfl rfl (by first | (simp [hC0.1]; done) | (simp only [List.length_set, Nat.zero_add, Int.toNat_natCast]; have hz0 := hC0.1; have hz1 := hC0.2.2.2.1; have hz2 := hC0.2.1 i (by omega); omega) | (have hz0 := hC0.1; have hz1 := hC0.2.2.2.1; have hz2 := hC0.2.1 i (by omega); simp only [Nat.zero_add, Int.toNat_natCast] at *; omega)) (fun _ => rfl))) (qA (qK [(34, pt b (0 + (u.getD (0 + i) 0).toNat))] (by kernel_rfl) (opQ_loadRoom 2 b (0 + (u.getD (0 + i) 0).toNat) u sp 3 rfl rfl rfl rfl rfl rfl rfl rfl (by first | (simp [hC0.1]; done) | (simp only [List.length_set, Nat.zero_add, Int.toNat_natCast]; have hz0 := hC0.1; have hz1 := hC0.2.2.2.1; have hz2 := hC0.2.1 i (by omega); omega) | (have hz0 := hC0.1; have hz1 := hC0.2.2.2.1; have hz2 := hC0.2.1 i (by omega); simp only [Nat.zero_add, Int.toNat_natCast] at *; omega)) (fun _ => rfl))) qZ))))) ?_ (by kernel_rfl)
    refine opsT_storeRoom 2 b (0 + i) u sp 3 (u.getD (0 + (u.getD (0 + i) 0).toNat) 0) rfl rfl rfl rfl rfl rfl rfl rfl (by kernel_rfl) (by first | (simp [hC0.1]; done) | (simp only [List.length_set, Nat.zero_add, Int.toNat_natCast]; have hz0 := hC0.1; have hz1 := hC0.2.2.2.1; have hz2 := hC0.2.1 i (by omega); omega) | (have hz0 := hC0.1; have hz1 := hC0.2.2.2.1; have hz2 := hC0.2.1 i (by omega); simp only [Nat.zero_add, Int.toNat_natCast] at *; omega)) ?_
    refine kPe [0, 5] ?_
    refine tri_region (todo := [0, 1, 2, 3, 4, 5, 6, 7]) rfl ?_
    refine kS 3 0 [(39, pt bu 0)] [0, 5] ?_
    refine kL 0 (sl b 0 up.length cap) ?_
    refine kO 2 144 [(42, pt b (0 + i))] [0, 5] [(0 : Int) ≤ (i : Int), (i : Int) < ((up.length : Nat) : Int)] (by refine ap ?_ (ap1 ?_) <;> (first | omega | (have hz0 := hC0.1; have hz1 := hC0.2.2.2.1; have hz2 := hC0.2.1 i (by omega); simp only [Nat.zero_add, Int.toNat_natCast] at *; omega) | assumption)) ?_
    refine opsT_loadRoom 2 b (0 + i) (u.set (0 + i) (u.getD (0 + (u.getD (0 + i) 0).toNat) 0)) sp 3 rfl rfl rfl rfl rfl rfl rfl rfl (by first | (simp [hC0.1]; done) | (simp only [List.length_set, Nat.zero_add, Int.toNat_natCast]; have hz0 := hC0.1; have hz1 := hC0.2.2.2.1; have hz2 := hC0.2.1 i (by omega); omega) | (have hz0 := hC0.1; have hz1 := hC0.2.2.2.1; have hz2 := hC0.2.1 i (by omega); simp only [Nat.zero_add, Int.toNat_natCast] at *; omega)) (fun _ => rfl) ?_
    refine kS 1 0 [(5, ii ((u.set (0 + i) (u.getD (0 + (u.getD (0 + i) 0).toNat) 0)).getD (0 + i) 0))] [0] ?_
    refine opsT_end ?_
    refine post_block ?_
    have hi0 : i < u.length := by omega
    have hd0 := hC0.2.1 i hi0
    have hd1 := hC0.2.1 (u.getD i 0).toNat (by omega)
    have hne : ¬ (u.getD i 0).toNat = i := by simp only [Nat.zero_add, Int.toNat_natCast] at h1; omega
    have hh := rt_halve hC0.2.1 hi0
    have hgi : (u.set i (u.getD (u.getD i 0).toNat 0)).getD i 0 = u.getD (u.getD i 0).toNat 0 := by rw [getD_lset hi0]; simp
    have hR1 : R (u.getD (u.getD i 0).toNat 0).toNat = R i := by
      rw [← hC0.2.2.1 i (by omega), ← hC0.2.2.1 _ (by omega), rt_step hC0.2.1 hi0, if_neg hne, rt_step hC0.2.1 (i := (u.getD i 0).toNat) (by omega)]
      split
      · rename_i e; rw [e]; exact rt_of_fix hC0.2.1 (by omega) e
      · rfl
    refine post_leq (l' := [(5, ii ((u.getD (u.getD i 0).toNat 0).toNat : Int)), (0, pt bu 0)]) (by simp only [Nat.zero_add, Int.toNat_natCast, hgi]; rw [Int.toNat_of_nonneg (by omega)]) ?_
    refine post_heq (hs' := [(bu, .cells #[sl b 0 up.length cap, .map (some bm)] 165 (0, 0)), (bm, mapB pairV nth ks), (b, roomB (u.set i (u.getD (u.getD i 0).toNat 0)) sp 3)]) (by simp [Nat.zero_add]) ?_
    refine post_round ((u.getD (u.getD i 0).toNat 0).toNat, (u.set i (u.getD (u.getD i 0).toNat 0))) ⟨by simp [hC0.1], hh.1, fun j hj => by rw [hh.2 j (by omega)]; exact hC0.2.2.1 j hj, by omega, by rw [hR1]; exact hC0.2.2.2.2⟩ (by show _ < i; omega) (look_pickL (ks := [0, 5]) (by kernel_rfl)) (List.Sublist.refl _)
  · simp only [Bool.not_eq_false', decide_eq_true_eq] at h1
    refine tri_exit ?_
    refine post_then_exit ?_
    refine post_round_exit ?_
    refine post_block_hit ?_
    refine post_then ?_
    refine wr [0, 1] rfl ?_
    refine kSe 2 0 [(4, ii (i : Int))] [] ?_
    refine tri_ret ?_
    refine post_ret1 (v := ii (i : Int)) rfl (.tmp rfl) (fun W hR => ?_)
    have hfix : (u.getD i 0).toNat = i := by have := hC0.2.1 i (by omega); simp only [Nat.zero_add, Int.toNat_natCast, Decidable.not_not] at h1; omega
    have hroot : i = R (ixOf ks x) := by rw [← hC0.2.2.2.2, ← hC0.2.2.1 i hC0.2.2.2.1]; exact (rt_of_fix hC0.2.1 (by omega) hfix).symm
    exact ⟨_, ⟨u, sp, b, cap, bm, by rw [hC0.1], by omega, by omega, by omega, by simpa [hC0.1] using k4, hC0.2.1, fun j hj => hC0.2.2.1 j (by omega)⟩, by rw [hroot], hR.forget (List.Sublist.refl _)⟩
theorem joinP {bu : Nat} {ks : List (Int × Int)} {R : Nat → Nat} {uns : List (Nat × Obj)} {w : World} (x y : Int × Int) (hU : UN 165 pairV bu ks R uns) (hR0 : Rep w (uns.map (·.1)) uns w) (hx : x ∈ ks) (hy : y ∈ ks) : Calls Tryz.prog 116 #[.pointer (some ⟨bu, 0, none⟩), .agg #[.int .i64 x.1, .int .i64 x.2], .agg #[.int .i64 y.1, .int .i64 y.2]] w fun e w' => ∃ uns', UN 165 pairV bu ks (fun j => if R j = max (R (ixOf ks x)) (R (ixOf ks y)) then min (R (ixOf ks x)) (R (ixOf ks y)) else R j) uns' ∧ e = .returned (.tuple #[]) ∧ Rep w (uns.map (·.1)) uns' w' := by
  refine calls_ofR (n := 25) Tryz.func116 rfl Tryz.ntmps116 rfl hR0 ?_
  refine tri_eq (l' := [(0, pt bu 0), (1, .agg #[ii x.1, ii x.2]), (2, .agg #[ii y.1, ii y.2])]) (hs' := uns) rfl rfl ?_
  refine wr [0, 1] rfl ?_
  refine kB (.agg #[ii x.1, ii x.2]) fun b1 => ?_
  refine kB (.agg #[ii y.1, ii y.2]) fun b2 => ?_
  refine kPe [5, 4, 0] ?_
  refine tri_seq ?_
  refine tri_drawI (Inv := fun W => ∃ u, UN 165 pairV bu ks R u ∧ Rep w (uns.map (·.1)) (u ++ ([(b2, .cells #[ii y.1, ii y.2] 93 (0, 0)), (b1, .cells #[ii x.1, ii x.2] 93 (0, 0))] : List (Nat × Obj))) W) 8 [pt bu 0, .agg #[ii x.1, ii x.2], ii (R (ixOf ks x) : Int), pt bu 0, .agg #[ii y.1, ii y.2], ii (R (ixOf ks y) : Int), ii (R (ixOf ks x) : Int), ii (R (ixOf ks y) : Int)] (l' := [(7, ii (R (ixOf ks y) : Int)), (6, ii (R (ixOf ks x) : Int)), (13, ii (R (ixOf ks y) : Int)), (12, .agg #[ii y.1, ii y.2]), (11, pt bu 0), (10, ii (R (ixOf ks x) : Int)), (9, .agg #[ii x.1, ii x.2]), (8, pt bu 0), (5, pt b2 0), (4, pt b1 0), (0, pt bu 0)]) (todo := []) (by kernel_rfl) (by kernel_rfl) rfl (by
    refine qall_seg [.ex] (l' := [(8, pt bu 0), (5, pt b2 0), (4, pt b1 0), (0, pt bu 0)]) (vs := [pt bu 0]) (vs' := [.agg #[ii x.1, ii x.2], ii (R (ixOf ks x) : Int), pt bu 0, .agg #[ii y.1, ii y.2], ii (R (ixOf ks y) : Int), ii (R (ixOf ks x) : Int), ii (R (ixOf ks y) : Int)]) (obl := []) (by kernel_rfl) trivial ?_
    refine qall_cons (opI_loadOwn b1 0 2 #[ii x.1, ii x.2] 93 (0, 0) rfl rfl rfl rfl rfl rfl rfl (fun W ⟨u, _, h⟩ => h.own _ _ (by simp)) (by kernel_rfl)) ?_
    refine qall_cons (opI_call (f := 55) (args := #[pt bu 0, .agg #[ii x.1, ii x.2]]) rfl rfl rfl rfl rfl (run_call en55 rfl rfl rfl (by kernel_rfl)) (fun W ⟨u, hu, h⟩ => (rootP x hu (Rep.mineSub h (List.sublist_append_left _ _)) hx).mono fun e W' ⟨u', hu', he, hr⟩ => ⟨he, u', hu', h.glue hr⟩)) ?_
    refine qall_seg [.ex] (l' := [(11, pt bu 0), (10, ii (R (ixOf ks x) : Int)), (9, .agg #[ii x.1, ii x.2]), (8, pt bu 0), (5, pt b2 0), (4, pt b1 0), (0, pt bu 0)]) (vs := [pt bu 0]) (vs' := [.agg #[ii y.1, ii y.2], ii (R (ixOf ks y) : Int), ii (R (ixOf ks x) : Int), ii (R (ixOf ks y) : Int)]) (obl := []) (by kernel_rfl) trivial ?_
    refine qall_cons (opI_loadOwn b2 0 2 #[ii y.1, ii y.2] 93 (0, 0) rfl rfl rfl rfl rfl rfl rfl (fun W ⟨u, _, h⟩ => h.own _ _ (by simp)) (by kernel_rfl)) ?_
    refine qall_cons (opI_call (f := 55) (args := #[pt bu 0, .agg #[ii y.1, ii y.2]]) rfl rfl rfl rfl rfl (run_call en55 rfl rfl rfl (by kernel_rfl)) (fun W ⟨u, hu, h⟩ => (rootP y hu (Rep.mineSub h (List.sublist_append_left _ _)) hy).mono fun e W' ⟨u', hu', he, hr⟩ => ⟨he, u', hu', h.glue hr⟩)) ?_
    refine qall_seg [.ex, .ex] (l' := [(7, ii (R (ixOf ks y) : Int)), (6, ii (R (ixOf ks x) : Int)), (13, ii (R (ixOf ks y) : Int)), (12, .agg #[ii y.1, ii y.2]), (11, pt bu 0), (10, ii (R (ixOf ks x) : Int)), (9, .agg #[ii x.1, ii x.2]), (8, pt bu 0), (5, pt b2 0), (4, pt b1 0), (0, pt bu 0)]) (vs := [ii (R (ixOf ks x) : Int), ii (R (ixOf ks y) : Int)]) (vs' := []) (obl := []) (by kernel_rfl) trivial ?_
    exact qall_nil) (by kernel_rfl) rfl (fun W h => ⟨uns, hU, h.perm (List.perm_append_comm (l₁ := ([(b2, .cells #[ii y.1, ii y.2] 93 (0, 0)), (b1, .cells #[ii x.1, ii x.2] 93 (0, 0))] : List (Nat × Obj))))⟩) ?_
  rintro act W hact ⟨uns2, hU2, hR⟩
  refine (?_ : OpsT Tryz.prog none 25 [] w _ _ _ [] [(7, ii (R (ixOf ks y) : Int)), (6, ii (R (ixOf ks x) : Int)), (13, ii (R (ixOf ks y) : Int)), (12, .agg #[ii y.1, ii y.2]), (11, pt bu 0), (10, ii (R (ixOf ks x) : Int)), (9, .agg #[ii x.1, ii x.2]), (8, pt bu 0), (5, pt b2 0), (4, pt b1 0), (0, pt bu 0)] (uns2 ++ ([(b2, .cells #[ii y.1, ii y.2] 93 (0, 0)), (b1, .cells #[ii x.1, ii x.2] 93 (0, 0))] : List (Nat × Obj)))) act W hact hR
  obtain ⟨up, sp, b, cap, bm, rfl, k1, k2, k3, k4, k5, k6⟩ := hU2
  have gx := ixOf_lt hx
  have gy := ixOf_lt hy
  have rx := rt_le k5 (i := ixOf ks x) (by omega)
  have ry := rt_le k5 (i := ixOf ks y) (by omega)
  have fx := rt_fix k5 (i := ixOf ks x) (by omega)
  have fy := rt_fix k5 (i := ixOf ks y) (by omega)
  rw [k6 _ (by omega)] at rx ry fx fy
  generalize R (ixOf ks x) = a2 at *
  generalize R (ixOf ks y) = c2 at *
  refine opsT_leq (l' := [(7, ii (c2 : Int)), (6, ii (a2 : Int)), (13, ii (c2 : Int)), (12, .agg #[ii y.1, ii y.2]), (11, pt bu 0), (10, ii (a2 : Int)), (9, .agg #[ii x.1, ii x.2]), (8, pt bu 0), (5, pt b2 0), (4, pt b1 0), (0, pt bu 0)]) rfl ?_
  refine opsT_heq (hs' := [(bu, .cells #[sl b 0 up.length cap, .map (some bm)] 165 (0, 0)), (bm, mapB pairV nth ks), (b, roomB up sp 3), (b2, .cells #[ii y.1, ii y.2] 93 (0, 0)), (b1, .cells #[ii x.1, ii x.2] 93 (0, 0))]) rfl ?_
  refine kPe [7, 6, 0] ?_
  refine tri_region (todo := [0, 1, 2, 3, 4, 5, 6, 7, 8, 9, 10, 11]) rfl ?_
  refine kS 3 0 [(16, pt bu 0)] [7, 6] ?_
  refine kL 0 (sl b 0 up.length cap) ?_
  refine kO 7 150994944 [(24, pt b (0 + (if (c2 : Int) > (a2 : Int) then (c2 : Int) else (a2 : Int)).toNat)), (23, ii (if (c2 : Int) < (a2 : Int) then (c2 : Int) else (a2 : Int)))] [] [(0 : Int) ≤ (if (c2 : Int) > (a2 : Int) then (c2 : Int) else (a2 : Int)), (if (c2 : Int) > (a2 : Int) then (c2 : Int) else (a2 : Int)) < ((up.length : Nat) : Int)] (by refine ap ?_ (ap1 ?_) <;> (first | omega | (split <;> omega) | assumption)) ?_
  refine opsT_storeRoom 2 b (0 + (if (c2 : Int) > (a2 : Int) then (c2 : Int) else (a2 : Int)).toNat) up sp 3 (if (c2 : Int) < (a2 : Int) then (c2 : Int) else (a2 : Int)) rfl rfl rfl rfl rfl rfl rfl rfl (by kernel_rfl) (by simp only [Nat.zero_add]; split <;> omega) ?_
  refine kP [] ?_
  refine opsT_end ?_
  refine post_end0 rfl (fun W hR => ?_)
  have hj : Down (up.set (max a2 c2) ((min a2 c2 : Nat) : Int)) ∧ ∀ j, j < up.length → rt (up.set (max a2 c2) ((min a2 c2 : Nat) : Int)) j = if rt up j = max a2 c2 then min a2 c2 else rt up j := by
    rcases Nat.le_total a2 c2 with h | h
    · rw [Nat.max_eq_right h, Nat.min_eq_left h]; exact rt_join k5 (by omega) h fy fx
    · rw [Nat.max_eq_left h, Nat.min_eq_right h]; exact rt_join k5 (by omega) h fx fy
  have e1 : ((if (c2 : Int) > (a2 : Int) then (c2 : Int) else (a2 : Int))).toNat = max a2 c2 := by split <;> omega
  have e2 : ((if (c2 : Int) < (a2 : Int) then (c2 : Int) else (a2 : Int))) = ((min a2 c2 : Nat) : Int) := by split <;> omega
  have hR2 := hR.forget (.cons_cons _ (.cons_cons _ (.cons_cons _ (List.nil_sublist _))))
  rw [show up.set (0 + (if (c2 : Int) > (a2 : Int) then (c2 : Int) else (a2 : Int)).toNat) (if (c2 : Int) < (a2 : Int) then (c2 : Int) else (a2 : Int)) = up.set (max a2 c2) ((min a2 c2 : Nat) : Int) by rw [Nat.zero_add, e1, e2]] at hR2
  exact ⟨[(bu, .cells #[sl b 0 up.length cap, .map (some bm)] 165 (0, 0)), (bm, mapB pairV nth ks), (b, roomB (up.set (max a2 c2) ((min a2 c2 : Nat) : Int)) sp 3)], ⟨up.set (max a2 c2) ((min a2 c2 : Nat) : Int), sp, b, cap, bm, by rw [List.length_set], by simpa using k1, by simpa using k2, by simpa using k3, by simpa using k4, hj.1, fun j hj2 => by
    rw [List.length_set] at hj2
    rw [hj.2 j hj2, k6 j hj2]⟩, rfl, hR2⟩
theorem newI (w : World) : Calls Tryz.prog 94 #[] w fun e w' => ∃ b : Nat × List (Nat × Obj), U0 (κ := Int) 229 (Value.int .i64) b.1 b.2 ∧ e = .returned (.pointer (some ⟨b.1, 0, none⟩)) ∧ Rep w [] b.2 w' := by
  refine calls_of (n := 4) Tryz.func94 rfl Tryz.ntmps94 rfl ?_
  refine tri_eq (l' := []) (hs' := []) rfl rfl ?_
  refine wr [0] rfl ?_
  refine kSn 1 0 [] [] [0, 1, 2, 3] ?_
  refine opsT_makeMap (Value.int .i64) nth rfl rfl rfl rfl rfl rfl (fun b1 => ?_)
  refine kS 1 0 [(2, .agg #[.slice none 0 0, .map (some b1)])] [] ?_
  refine kB (.agg #[.slice none 0 0, .map (some b1)]) fun b2 => ?_
  refine kSe 1 0 [(0, pt b2 0)] [] ?_
  refine tri_ret ?_
  refine post_ret1 (v := pt b2 0) rfl (.tmp rfl) (fun W hR => ?_)
  exact ⟨(b2, _), ⟨b1, rfl⟩, rfl, hR⟩
theorem newP (w : World) : Calls Tryz.prog 114 #[] w fun e w' => ∃ b : Nat × List (Nat × Obj), U0 (κ := Int × Int) 165 pairV b.1 b.2 ∧ e = .returned (.pointer (some ⟨b.1, 0, none⟩)) ∧ Rep w [] b.2 w' := by
  refine calls_of (n := 4) Tryz.func114 rfl Tryz.ntmps114 rfl ?_
  refine tri_eq (l' := []) (hs' := []) rfl rfl ?_
  refine wr [0] rfl ?_
  refine kSn 1 0 [] [] [0, 1, 2, 3] ?_
  refine opsT_makeMap pairV nth rfl rfl rfl rfl rfl rfl (fun b1 => ?_)
  refine kS 1 0 [(2, .agg #[.slice none 0 0, .map (some b1)])] [] ?_
  refine kB (.agg #[.slice none 0 0, .map (some b1)]) fun b2 => ?_
  refine kSe 1 0 [(0, pt b2 0)] [] ?_
  refine tri_ret ?_
  refine post_ret1 (v := pt b2 0) rfl (.tmp rfl) (fun W hR => ?_)
  exact ⟨(b2, _), ⟨b1, rfl⟩, rfl, hR⟩
end Go.Proofs.YtlkbokbcfajhjaaGreat
