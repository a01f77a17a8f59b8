/- G22: Type, Carried, pieces -/
import Derived.Test.YtlkbokbcfajhjaaGreatG21
import Derived.Test.YtlkbokbcfajhjaaGreatG19
import Derived.Test.YtlkbokbcfajhjaaGreatB17
import Derived.Test.YtlkbokbcfajhjaaGreatD1
namespace Go.Proofs.YtlkbokbcfajhjaaGreat
open Go.Proofs.Walk
set_option maxRecDepth 100000
set_option linter.unusedVariables false
set_option linter.unusedSimpArgs false

theorem en11 : Walk.Enters Tryz.prog 11 := Walk.enters Tryz.func11 (by kernel_rfl) rfl
theorem en49 : Walk.Enters Tryz.prog 49 := Walk.enters Tryz.func49 (by kernel_rfl) rfl
theorem en17 : Walk.Enters Tryz.prog 17 := Walk.enters Tryz.func17 (by kernel_rfl) rfl
theorem type_lt {i j : Nat} (h : i < j) (hj : j < 4) (w : World) : Calls Tryz.prog 49 #[ii (i : Int), ii (j : Int)] w fun e w' => e = .returned (.int .i64 ((tyN i j : Nat) : Int)) ∧ Ext w w' := by
  have hlt : ¬ (j : Int) < (i : Int) := by omega
  refine calls_of (n := 19) Tryz.func49 rfl Tryz.ntmps49 rfl ?_
  refine tri_eq (l' := [(0, ii (i : Int)), (1, ii (j : Int))]) (hs' := []) rfl rfl ?_
  refine wr [0] rfl ?_
  refine kSe 1 0 [] [0, 1] ?_
  refine tri_seq ?_
  refine wr [0, 1, 2] rfl ?_
  refine kOe 3 1792 [(7, .bool false)] [0, 1] [¬ ((j : Int) < (i : Int))] hlt ?_
  refine tri_cond_false rfl ?_
  refine tri_skip ?_
  refine post_then ?_
  refine tri_seq ?_
  refine wr [0, 1] rfl ?_
  refine kSe 2 80 [(12, .bool (decide ((i : Int) = 0)))] [0, 1] ?_
  refine tri_cond_dec (p := (i : Int) = 0) rfl (fun h1 => ?_) (fun h1 => ?_)
  · refine wr [0, 1, 2] rfl ?_
    refine kOe 3 32 [(4, ii ((j : Int) - 1))] [] [I64 ((j : Int) - 1)] (ap1 (by first | omega | (simp; done) | assumption)) ?_
    refine tri_ret ?_
    refine post_then_ret ?_
    refine post_ret1 (v := ii ((j : Int) - 1)) rfl (.tmp rfl) (fun W hR => ?_)
    refine ⟨?_, hR.ext⟩
    obtain ⟨rfl, rfl⟩ | ⟨rfl, rfl⟩ | ⟨rfl, rfl⟩ | ⟨rfl, rfl⟩ | ⟨rfl, rfl⟩ | ⟨rfl, rfl⟩ : (i = 0 ∧ j = 1) ∨ (i = 0 ∧ j = 2) ∨ (i = 0 ∧ j = 3) ∨ (i = 1 ∧ j = 2) ∨ (i = 1 ∧ j = 3) ∨ (i = 2 ∧ j = 3) := (by omega) <;> first | rfl | (exfalso; omega)
  · refine tri_skip ?_
    refine post_then ?_
    refine wr [0, 1, 2, 3, 4] rfl ?_
    refine kOe 5 8224 [(4, ii ((5 - (i : Int)) - (j : Int)))] [] [I64 (5 - (i : Int)), I64 ((5 - (i : Int)) - (j : Int))] (by refine ap ?_ (ap1 ?_) <;> (first | omega | (simp; done) | assumption)) ?_
    refine tri_ret ?_
    refine post_ret1 (v := ii ((5 - (i : Int)) - (j : Int))) rfl (.tmp rfl) (fun W hR => ?_)
    refine ⟨?_, hR.ext⟩
    obtain ⟨rfl, rfl⟩ | ⟨rfl, rfl⟩ | ⟨rfl, rfl⟩ | ⟨rfl, rfl⟩ | ⟨rfl, rfl⟩ | ⟨rfl, rfl⟩ : (i = 0 ∧ j = 1) ∨ (i = 0 ∧ j = 2) ∨ (i = 0 ∧ j = 3) ∨ (i = 1 ∧ j = 2) ∨ (i = 1 ∧ j = 3) ∨ (i = 2 ∧ j = 3) := (by omega) <;> first | rfl | (exfalso; omega)
theorem ty_symm (i j : Nat) (hi : i < 4) (hj : j < 4) : tyN i j = tyN j i := by
  have h1 : i = 0 ∨ i = 1 ∨ i = 2 ∨ i = 3 := by omega
  have h2 : j = 0 ∨ j = 1 ∨ j = 2 ∨ j = 3 := by omega
  rcases h1 with rfl | rfl | rfl | rfl <;> rcases h2 with rfl | rfl | rfl | rfl <;> rfl

theorem type_gt {i j : Nat} (h : j < i) (hi : i < 4) (w : World) : Calls Tryz.prog 49 #[ii (i : Int), ii (j : Int)] w fun e w' => e = .returned (.int .i64 ((tyN i j : Nat) : Int)) ∧ Ext w w' := by
  have hlt : (j : Int) < (i : Int) := by omega
  have hj : j < 4 := by omega
  refine calls_of (n := 19) Tryz.func49 rfl Tryz.ntmps49 rfl ?_
  refine tri_eq (l' := [(0, ii (i : Int)), (1, ii (j : Int))]) (hs' := []) rfl rfl ?_
  refine wr [0] rfl ?_
  refine kSe 1 0 [] [0, 1] ?_
  refine tri_seq ?_
  refine wr [0, 1, 2] rfl ?_
  refine kOe 3 1536 [(7, .bool true)] [0, 1] [(j : Int) < (i : Int)] hlt ?_
  refine tri_cond_true rfl ?_
  refine wr [0, 1, 2, 3] rfl ?_
  refine kS 2 0 [(9, ii (i : Int)), (8, ii (j : Int))] [] ?_
  refine kC en49 #[ii (j : Int), ii (i : Int)] (ii ((tyN j i : Nat) : Int)) rfl (fun W hR => type_lt (by omega) (by omega) W) ?_ (by kernel_rfl)
  refine kSe 1 0 [(4, ii ((tyN j i : Nat) : Int))] [] ?_
  refine tri_ret ?_
  refine post_then_ret ?_
  refine post_ret1 (v := ii ((tyN j i : Nat) : Int)) rfl (.tmp rfl) (fun W hR => ?_)
  exact ⟨by rw [show tyN i j = tyN j i from ty_symm i j hi hj], hR.ext⟩
theorem type_ {i j : Int} (i0 : 0 ≤ i) (i4 : i < 4) (j0 : 0 ≤ j) (j4 : j < 4) (hne : i ≠ j) (w : World) : Calls Tryz.prog 49 #[.int .i64 i, .int .i64 j] w fun e w' => e = .returned (.int .i64 ((tyN i.toNat j.toNat : Nat) : Int)) ∧ Ext w w' := by
  obtain ⟨I, rfl⟩ : ∃ I : Nat, i = I := ⟨i.toNat, by omega⟩
  obtain ⟨J, rfl⟩ : ∃ J : Nat, j = J := ⟨j.toNat, by omega⟩
  simp only [Int.toNat_natCast]
  rcases Nat.lt_or_ge I J with h | h
  · exact type_lt h (by omega) w
  · exact type_gt (by omega) (by omega) w
/-- The coordinates, carried over: the first x. -/
def carL (v : Nat → Int) (ord : Nat → Int) (pm : Nat → Nat → Int) (x : Nat) : List Int := (List.range x).map fun x => v (blk 10 (fun i => (ord i).toNat) (fun i => entP fun k => (pm i k).toNat) x)
theorem carL_succ (v : Nat → Int) (ord : Nat → Int) (pm : Nat → Nat → Int) (x : Nat) : carL v ord pm (x + 1) = carL v ord pm x ++ [v (blk 10 (fun i => (ord i).toNat) (fun i => entP fun k => (pm i k).toNat) x)] := by simp [carL, List.range_succ]
theorem carL_len (v : Nat → Int) (ord : Nat → Int) (pm : Nat → Nat → Int) (x : Nat) : (carL v ord pm x).length = x := by simp [carL]
theorem car_tri (v : Nat → Int) (ord : Nat → Int) (pm : Nat → Nat → Int) {i k : Nat} (hk : k < 4) : v (blk 10 (fun i => (ord i).toNat) (fun i => entP fun k => (pm i k).toNat) (10 * i + k)) = v (10 * (ord i).toNat + (pm i k).toNat) := by
  rw [blk_at (by omega)]; unfold entP; rw [if_pos hk]
theorem car_quad (v : Nat → Int) (ord : Nat → Int) (pm : Nat → Nat → Int) {i k : Nat} (hk0 : 0 < k) (hk : k < 4) : v (blk 10 (fun i => (ord i).toNat) (fun i => entP fun k => (pm i k).toNat) (10 * i + (3 + k))) = v (10 * (ord i).toNat + 4 + tyN (pm i 0).toNat (pm i k).toNat) := by
  rw [blk_at (by omega)]; unfold entP tyP; rw [if_neg (by omega), if_pos (by omega), show 3 + k - 4 + 1 = k by omega, Nat.add_assoc]
theorem car_oct (v : Nat → Int) (ord : Nat → Int) (pm : Nat → Nat → Int) {i k : Nat} (hk0 : 0 < k) (hk : k < 4) : v (blk 10 (fun i => (ord i).toNat) (fun i => entP fun k => (pm i k).toNat) (10 * i + (6 + k))) = v (10 * (ord i).toNat + 7 + tyN (pm i 0).toNat (pm i k).toNat) := by
  rw [blk_at (by omega)]; unfold entP tyP; rw [if_neg (by omega), if_neg (by omega), show 6 + k - 7 + 1 = k by omega, Nat.add_assoc]

theorem carried_ {bo oo n co bp op cp bv ov nv cv : Nat} {v ord : Nat → Int} {pm : Nat → Nat → Int} {w : World} (hv : AtV w bv ov nv v) (ho : AtV w bo oo n ord) (hp : AtP w bp op n pm) (hnv : nv = 10 * n) (hn : n ≤ 1000) (hpm : ∀ i, i < n → PermOK pm i) (hOrd : OrdOK n ord n) : Calls Tryz.prog 11 #[sl bv ov nv cv, sl bo oo n co, sl bp op n cp] w fun e w' => ∃ p : Value × List (Nat × Obj), Vec 3 1 ((carL v ord pm (10 * n)).map (Value.int .i64)) (10 * n) p.1 p.2 ∧ e = .returned p.1 ∧ Rep w [] p.2 w' := by
  refine calls_of (n := 72) Tryz.func11 rfl Tryz.ntmps11 rfl ?_
  refine tri_eq (l' := [(0, sl bv ov nv cv), (1, sl bo oo n co), (2, sl bp op n cp)]) (hs' := []) rfl rfl ?_
  refine wr [0] rfl ?_
  refine kSn 1 0 [] [0, 1, 2] [0] ?_
  refine kSe 1 0 [(7, .slice none 0 0)] [0, 1, 2] ?_
  refine tri_seq ?_
  refine wr [0] rfl ?_
  refine kSe 1 0 [(8, ii 0)] [7, 0, 1, 2] ?_
  refine tri_block ?_
  refine tri_heq (hs' := []) (by simp) ?_
  refine tri_loop (β := Nat × Value × List (Nat × Obj)) (fun xz => [(0, sl bv ov nv cv), (1, sl bo oo n co), (2, sl bp op n cp), (8, ii (xz.1 : Int)), (7, xz.2.1)]) (fun xz => xz.2.2) (fun xz => xz.1 ≤ n ∧ Vec 3 1 ((carL v ord pm (10 * xz.1)).map (Value.int .i64)) (10 * xz.1) xz.2.1 xz.2.2) (fun xz => n - xz.1) (0, (.slice none 0 0), []) (look_pickL (ks := [0, 1, 2, 8, 7]) (by kernel_rfl)) (List.Sublist.refl _) ⟨Nat.zero_le _, Vec.nil⟩ ?_
  rintro ⟨i, sv, hw⟩ hC0
  try dsimp only at hC0
  refine tri_eq (l' := [(0, sl bv ov nv cv), (1, sl bo oo n co), (2, sl bp op n cp), (8, ii (i : Int)), (7, sv)]) (hs' := hw) rfl rfl ?_
  refine tri_seq ?_
  refine wr [0, 1, 2, 3] rfl ?_
  refine kSe 4 20480 [(18, .bool (decide ((i : Int) < ((n : Nat) : Int))))] [0, 1, 2, 8, 7] ?_
  refine tri_cond_dec (p := (i : Int) < ((n : Nat) : Int)) rfl (fun h1 => ?_) (fun h1 => ?_)
  · refine tri_skip ?_
    refine post_then ?_
    refine tri_seq ?_
    refine tri_block ?_
    refine tri_seq ?_
    refine tri_drawA 10 8 (fun b1 => [sl bo oo n co, ii (i : Int), pt bo (oo + i), ii (ord i), sl bp op n cp, ii (i : Int), pt bp (op + i * 4), .agg #[ii (pm i 0), ii (pm i 1), ii (pm i 2), ii (pm i 3)], pt b1 0, ii (ord i)]) (fun b1 => pt b1 0) (.cells #[ii 0, ii 0, ii 0, ii 0] 72 (0, 0)) (l' := fun b1 => [(9, ii (ord i)), (10, pt b1 0), (28, .agg #[ii (pm i 0), ii (pm i 1), ii (pm i 2), ii (pm i 3)]), (27, pt bp (op + i * 4)), (26, ii (i : Int)), (25, sl bp op n cp), (24, ii (ord i)), (23, pt bo (oo + i)), (22, ii (i : Int)), (21, sl bo oo n co), (18, .bool (decide ((i : Int) < ((n : Nat) : Int)))), (0, sl bv ov nv cv), (1, sl bo oo n co), (2, sl bp op n cp), (8, ii (i : Int)), (7, sv)]) (todo := [10]) (by kernel_rfl) (by kernel_rfl) (fun _ => rfl) (by kernel_rfl) (fun _ => rfl) (fun xA yA jA hjA => ?_) ?_ ?_ (lk := []) (by kernel_rfl) ?_ (fun _ => by kernel_rfl) rfl (fun b1 => ?_)
    · exact getElem?_but (f := fun b1 => [sl bo oo n co, ii (i : Int), pt bo (oo + i), ii (ord i), sl bp op n cp, ii (i : Int), pt bp (op + i * 4), .agg #[ii (pm i 0), ii (pm i 1), ii (pm i 2), ii (pm i 3)], pt b1 0, ii (ord i)]) (g := fun b1 => pt b1 0) 8 (fun _ => ([sl bo oo n co, ii (i : Int), pt bo (oo + i), ii (ord i), sl bp op n cp, ii (i : Int), pt bp (op + i * 4), .agg #[ii (pm i 0), ii (pm i 1), ii (pm i 2), ii (pm i 3)]] : List Value)) (fun _ => ([ii (ord i)] : List Value)) (fun _ _ => rfl) (fun _ _ => rfl) (fun _ => rfl) (fun _ => rfl) xA yA jA hjA
    · show QAllX _ _ _ _ _ _ _ [sl bo oo n co, ii (i : Int), pt bo (oo + i), ii (ord i), sl bp op n cp, ii (i : Int), pt bp (op + i * 4), .agg #[ii (pm i 0), ii (pm i 1), ii (pm i 2), ii (pm i 3)], pt 0 0, ii (ord i)]
      refine qallx_appendE (vs := [sl bo oo n co, ii (i : Int), pt bo (oo + i), ii (ord i), sl bp op n cp, ii (i : Int), pt bp (op + i * 4), .agg #[ii (pm i 0), ii (pm i 1), ii (pm i 2), ii (pm i 3)]]) (vs' := [pt 0 0, ii (ord i)]) (by kernel_rfl) (by
        exact qallW [some .ex, some .ex, some .at, none, some .ex, some .ex, some .at, none] [ii (ord i), .agg #[ii (pm i 0), ii (pm i 1), ii (pm i 2), ii (pm i 3)]] [(3, [(23, pt bo (oo + i))], ii (ord i)), (7, [(27, pt bp (op + i * 4))], .agg #[ii (pm i 0), ii (pm i 1), ii (pm i 2), ii (pm i 3)])] [(0 : Int) ≤ (i : Int), (i : Int) < ((n : Nat) : Int), (0 : Int) ≤ (i : Int), (i : Int) < ((n : Nat) : Int)] (by kernel_rfl) (by refine ap ?_ (ap ?_ (ap ?_ (ap1 ?_))) <;> (first | omega | (have := hpk (by omega); omega) | (have := hpk2 (by omega); omega) | (have := hpk3 (by omega); omega) | assumption)) (aq (opQ_loadBase bo (oo + i) [ii (ord i)] rfl rfl rfl rfl rfl rfl rfl (by kernel_rfl) (by simp) (ho.one (by omega))) (aq (opQ_loadBase bp (op + i * 4) [ii (pm i 0), ii (pm i 1), ii (pm i 2), ii (pm i 3)] rfl rfl rfl rfl rfl rfl rfl (by kernel_rfl) (by simp) (hp.row (by omega))) aq0))) rfl ?_
      refine qallx_skip rfl (qallx_of_qall (by
        exact qallW [some .ex] [] [] [] (by kernel_rfl) trivial aq0))
    · intro b1
      refine qallx_appendE (vs := [sl bo oo n co, ii (i : Int), pt bo (oo + i), ii (ord i), sl bp op n cp, ii (i : Int), pt bp (op + i * 4), .agg #[ii (pm i 0), ii (pm i 1), ii (pm i 2), ii (pm i 3)]]) (vs' := [pt b1 0, ii (ord i)]) (by kernel_rfl) (by
        exact qallW [some .ex, some .ex, some .at, none, some .ex, some .ex, some .at, none] [ii (ord i), .agg #[ii (pm i 0), ii (pm i 1), ii (pm i 2), ii (pm i 3)]] [(3, [(23, pt bo (oo + i))], ii (ord i)), (7, [(27, pt bp (op + i * 4))], .agg #[ii (pm i 0), ii (pm i 1), ii (pm i 2), ii (pm i 3)])] [(0 : Int) ≤ (i : Int), (i : Int) < ((n : Nat) : Int), (0 : Int) ≤ (i : Int), (i : Int) < ((n : Nat) : Int)] (by kernel_rfl) (by refine ap ?_ (ap ?_ (ap ?_ (ap1 ?_))) <;> (first | omega | (have := hpk (by omega); omega) | (have := hpk2 (by omega); omega) | (have := hpk3 (by omega); omega) | assumption)) (aq (opQ_loadBase bo (oo + i) [ii (ord i)] rfl rfl rfl rfl rfl rfl rfl (by kernel_rfl) (by simp) (ho.one (by omega))) (aq (opQ_loadBase bp (op + i * 4) [ii (pm i 0), ii (pm i 1), ii (pm i 2), ii (pm i 3)] rfl rfl rfl rfl rfl rfl rfl (by kernel_rfl) (by simp) (hp.row (by omega))) aq0))) rfl ?_
      refine qallx_skip rfl (qallx_of_qall (by
        exact qallW [some .ex] [] [] [] (by kernel_rfl) trivial aq0))
    · exact opA_alloc (.agg #[ii 0, ii 0, ii 0, ii 0]) rfl rfl rfl rfl rfl rfl (by kernel_rfl)
    refine opsT_heq (hs' := (b1, .cells #[ii 0, ii 0, ii 0, ii 0] 72 (0, 0)) :: hw) rfl ?_
    refine kW 0 #[ii (pm i 0), ii (pm i 1), ii (pm i 2), ii (pm i 3)] ?_
    refine kPe [9, 10, 0, 1, 2, 8, 7] ?_
    refine tri_seq ?_
    refine wr [0] rfl ?_
    refine kSe 1 0 [(11, ii 0)] [9, 10, 0, 1, 2, 8, 7] ?_
    refine tri_block ?_
    have hpi := (permOK_iff (hpm i (by omega))).1
    have hoi := hOrd.lt i (by omega)
    have hoj := (hOrd i (by omega)).1
    have hpq := (permOK_iff (hpm i (by omega))).2.2
    refine tri_loop (β := Nat × Value × List (Nat × Obj)) (fun xz => [(9, ii (ord i)), (10, pt b1 0), (0, sl bv ov nv cv), (1, sl bo oo n co), (2, sl bp op n cp), (8, ii (i : Int)), (11, ii (xz.1 : Int)), (7, xz.2.1)]) (fun xz => (b1, .cells #[ii (pm i 0), ii (pm i 1), ii (pm i 2), ii (pm i 3)] 72 (0, 0)) :: xz.2.2) (fun xz => xz.1 ≤ 4 ∧ Vec 3 1 ((carL v ord pm (10 * i + xz.1)).map (Value.int .i64)) (10 * i + xz.1) xz.2.1 xz.2.2) (fun xz => 4 - xz.1) (0, sv, hw) (look_pickL (ks := [9, 10, 0, 1, 2, 8, 11, 7]) (by kernel_rfl)) (List.Sublist.refl _) ⟨Nat.zero_le _, hC0.2⟩ ?_
    rintro ⟨k, sA, hw1⟩ hC1
    try dsimp only at hC1
    refine tri_eq (l' := [(9, ii (ord i)), (10, pt b1 0), (0, sl bv ov nv cv), (1, sl bo oo n co), (2, sl bp op n cp), (8, ii (i : Int)), (11, ii (k : Int)), (7, sA)]) (hs' := (b1, .cells #[ii (pm i 0), ii (pm i 1), ii (pm i 2), ii (pm i 3)] 72 (0, 0)) :: hw1) rfl rfl ?_
    have hpk : k < 4 → 0 ≤ pm i k ∧ pm i k < 4 := hpi k
    refine tri_seq ?_
    refine wr [0, 1] rfl ?_
    refine kSe 2 80 [(30, .bool (decide ((k : Int) < 4)))] [9, 10, 0, 1, 2, 8, 11, 7] ?_
    refine tri_cond_dec (p := (k : Int) < 4) rfl (fun h2 => ?_) (fun h2 => ?_)
    · refine tri_skip ?_
      refine post_then ?_
      refine tri_seq ?_
      refine tri_block ?_
      refine tri_region (todo := [0, 1, 2, 3, 4, 5, 6, 7, 8, 9, 10, 11, 12]) rfl ?_
      refine kO 6 9445376 [(38, pt b1 (0 + k)), (36, ii (10 * (ord i))), (34, sl bv ov nv cv), (33, sA)] [9, 10, 0, 1, 2, 8, 11, 7] [I64 (10 * (ord i)), (0 : Int) ≤ (k : Int), (k : Int) < ((4 : Nat) : Int)] (by refine ap ?_ (ap ?_ (ap1 ?_)) <;> (first | omega | (have := hpk (by omega); omega) | (have := hpk2 (by omega); omega) | (have := hpk3 (by omega); omega) | assumption)) ?_
      refine kI 0 (0 + k) 1 [pm i 0, pm i 1, pm i 2, pm i 3] (ii ([pm i 0, pm i 1, pm i 2, pm i 3].getD (0 + k + 0) 0)) (by first | omega | (simp; omega)) ?_
      rw [show [pm i 0, pm i 1, pm i 2, pm i 3].getD (0 + k + 0) 0 = pm i k from by simp only [Nat.zero_add, Nat.add_zero, Int.toNat_natCast]; exact five_pm pm i k (by omega)]
      refine kO 2 146 [(41, pt bv (ov + ((10 * (ord i)) + (pm i k)).toNat))] [33, 9, 10, 0, 1, 2, 8, 11, 7] [I64 ((10 * (ord i)) + (pm i k)), (0 : Int) ≤ (10 * (ord i)) + (pm i k), (10 * (ord i)) + (pm i k) < ((nv : Nat) : Int)] (by refine ap ?_ (ap ?_ (ap1 ?_)) <;> (first | omega | (have := hpk (by omega); omega) | (have := hpk2 (by omega); omega) | (have := hpk3 (by omega); omega) | assumption)) ?_
      refine kM bv (ov + ((10 * (ord i)) + (pm i k)).toNat) [ii (v (((10 * (ord i)) + (pm i k)).toNat))] (ii (v (((10 * (ord i)) + (pm i k)).toNat))) (hv.one (by first | omega | (have := hpk (by omega); omega) | (have := hpk2 (by omega); omega) | (have := hpk3 (by omega); omega) | assumption)) ?_
      refine opsT_buildSlice (e := 3) (size := 1) (z := ii 0) [ii (v (((10 * (ord i)) + (pm i k)).toNat))] rfl rfl rfl rfl rfl rfl (by kernel_rfl) (by kernel_rfl) (by kernel_rfl) (by kernel_rfl) (fun b2 => ?_)
      refine opsT_heq (hs' := (b2, .cells #[ii (v (((10 * (ord i)) + (pm i k)).toNat))] 3 (0, 0)) :: (b1, .cells #[ii (pm i 0), ii (pm i 1), ii (pm i 2), ii (pm i 3)] 72 (0, 0)) :: hw1) rfl ?_
      refine opsT_append (e := 3) (size := 1) (bytes := 8) (z := (ii 0)) (vs := (carL v ord pm (10 * i + k)).map (Value.int .i64)) (news := [ii (v (((10 * (ord i)) + (pm i k)).toNat))]) (m := (10 * i + k)) (k := 1) (sv := sA) (hv := hw1) (own := [(b2, .cells #[ii (v (((10 * (ord i)) + (pm i k)).toNat))] 3 (0, 0)), (b1, .cells #[ii (pm i 0), ii (pm i 1), ii (pm i 2), ii (pm i 3)] 72 (0, 0))]) rfl rfl rfl rfl rfl rfl rfl rfl rfl rfl rfl (by kernel_rfl) (by kernel_rfl) rfl (List.perm_append_comm (l₁ := ([(b2, .cells #[ii (v (((10 * (ord i)) + (pm i k)).toNat))] 3 (0, 0)), (b1, .cells #[ii (pm i 0), ii (pm i 1), ii (pm i 2), ii (pm i 3)] 72 (0, 0))] : List (Nat × Obj))) (l₂ := hw1)) hC1.2 rfl (by first | omega | (have := hpk (by omega); omega) | (have := hpk2 (by omega); omega) | (have := hpk3 (by omega); omega) | assumption) (by first | omega | (have := hpk (by omega); omega) | (have := hpk2 (by omega); omega) | (have := hpk3 (by omega); omega) | assumption) (fun W hR => src_own (e2 := 3) (off := 0) (us := [ii (v (((10 * (ord i)) + (pm i k)).toNat))]) hR (by kernel_rfl) (List.mem_append_right _ (List.mem_of_getElem? (i := 0) rfl)) rfl (fun j v hj => by simpa using hj) rfl) (fun sv1 hv1 hV1 => ?_)
      refine opsT_perm (hs' := (b2, .cells #[ii (v (((10 * (ord i)) + (pm i k)).toNat))] 3 (0, 0)) :: (b1, .cells #[ii (pm i 0), ii (pm i 1), ii (pm i 2), ii (pm i 3)] 72 (0, 0)) :: hv1) (List.perm_append_comm (l₁ := hv1) (l₂ := ([(b2, .cells #[ii (v (((10 * (ord i)) + (pm i k)).toNat))] 3 (0, 0)), (b1, .cells #[ii (pm i 0), ii (pm i 1), ii (pm i 2), ii (pm i 3)] 72 (0, 0))] : List (Nat × Obj)))) ?_
      refine kS 1 0 [(7, sv1)] [9, 10, 0, 1, 2, 8, 11] ?_
      refine opsT_end ?_
      refine post_block ?_
      refine post_then ?_
      refine tri_region (todo := [0, 1, 2]) rfl ?_
      refine kO 3 32 [(11, ii ((k : Int) + 1))] [7, 9, 10, 0, 1, 2, 8] [I64 ((k : Int) + 1)] (ap1 (by first | omega | (have := hpk (by omega); omega) | (have := hpk2 (by omega); omega) | (have := hpk3 (by omega); omega) | assumption)) ?_
      refine opsT_end ?_
      refine post_round ((k + 1), sv1, hv1) ⟨by omega, by rw [← Nat.add_assoc, carL_succ, List.map_append, car_tri v ord pm (by omega)]; rw [show (10 * ord i + pm i k).toNat = 10 * (ord i).toNat + (pm i k).toNat by have := hpk (by omega); omega] at hV1; exact hV1⟩ (by show 4 - (k + 1) < 4 - k; omega) (look_pickL (ks := [9, 10, 0, 1, 2, 8, 11, 7]) (by kernel_rfl)) (.cons _ (List.Sublist.refl _))
    · refine tri_exit ?_
      refine post_then_exit ?_
      refine post_round_exit ?_
      refine post_block_hit ?_
      refine post_then ?_
      refine wr [0] rfl ?_
      refine kSe 1 0 [(12, ii 1)] [9, 10, 0, 1, 2, 8, 7] ?_
      refine tri_block ?_
      have hpi0 := hpi 0 (by omega)
      refine tri_loop (β := Nat × Value × List (Nat × Obj)) (fun xz => [(9, ii (ord i)), (10, pt b1 0), (0, sl bv ov nv cv), (1, sl bo oo n co), (2, sl bp op n cp), (8, ii (i : Int)), (12, ii (xz.1 : Int)), (7, xz.2.1)]) (fun xz => (b1, .cells #[ii (pm i 0), ii (pm i 1), ii (pm i 2), ii (pm i 3)] 72 (0, 0)) :: xz.2.2) (fun xz => (0 < xz.1 ∧ xz.1 ≤ 7) ∧ Vec 3 1 ((carL v ord pm (10 * i + (3 + xz.1))).map (Value.int .i64)) (10 * i + (3 + xz.1)) xz.2.1 xz.2.2) (fun xz => 7 - xz.1) (1, sA, hw1) (look_pickL (ks := [9, 10, 0, 1, 2, 8, 12, 7]) (by kernel_rfl)) (List.Sublist.refl _) ⟨by omega, by rw [show 10 * i + (3 + 1) = 10 * i + k by omega]; exact hC1.2⟩ ?_
      rintro ⟨q, sB, hw2⟩ hC2
      try dsimp only at hC2
      refine tri_eq (l' := [(9, ii (ord i)), (10, pt b1 0), (0, sl bv ov nv cv), (1, sl bo oo n co), (2, sl bp op n cp), (8, ii (i : Int)), (12, ii (q : Int)), (7, sB)]) (hs' := (b1, .cells #[ii (pm i 0), ii (pm i 1), ii (pm i 2), ii (pm i 3)] 72 (0, 0)) :: hw2) rfl rfl ?_
      have hpk2 : q < 4 → (0 ≤ pm i q ∧ pm i q < 4) ∧ (0 < q → (pm i 0) ≠ pm i q) := fun h => ⟨hpi q h, fun h0 e => by have := hpq 0 q (by omega) h (by dsimp only; omega); omega⟩
      have hpk3 : q < 7 → (0 ≤ pm i (q - 3) ∧ pm i (q - 3) < 4) ∧ (3 < q → (pm i 0) ≠ pm i (q - 3)) := fun h => ⟨hpi (q - 3) (by omega), fun h0 e => by have := hpq 0 (q - 3) (by omega) (by omega) (by dsimp only; omega); omega⟩
      have hl1 := tyN_lt (pm i 0).toNat (pm i q).toNat
      have hl2 := tyN_lt (pm i 0).toNat (pm i (q - 3)).toNat
      refine tri_seq ?_
      refine wr [0, 1] rfl ?_
      refine kSe 2 80 [(46, .bool (decide ((q : Int) < 7)))] [9, 10, 0, 1, 2, 8, 12, 7] ?_
      refine tri_cond_dec (p := (q : Int) < 7) rfl (fun h3 => ?_) (fun h3 => ?_)
      · refine tri_skip ?_
        refine post_then ?_
        refine tri_seq ?_
        refine tri_block ?_
        refine wr [0] rfl ?_
        refine kSn 1 0 [(13, ii 4)] [9, 10, 0, 1, 2, 8, 12, 7] [0, 1] ?_
        refine kSe 2 0 [(14, ii (q : Int))] [13, 9, 10, 0, 1, 2, 8, 12, 7] ?_
        refine tri_seq ?_
        refine wr [0, 1] rfl ?_
        refine kSe 2 80 [(51, .bool (decide (3 < (q : Int))))] [14, 13, 9, 10, 0, 1, 2, 8, 12, 7] ?_
        refine tri_cond_dec (p := 3 < (q : Int)) rfl (fun h4 => ?_) (fun h4 => ?_)
        · refine tri_region (todo := [0, 1, 2, 3]) rfl ?_
          refine kOe 4 32 [(14, ii ((q : Int) - 3)), (13, ii 7)] [9, 10, 0, 1, 2, 8, 12, 7] [I64 ((q : Int) - 3)] (ap1 (by first | omega | (have := hpk (by omega); omega) | (have := hpk2 (by omega); omega) | (have := hpk3 (by omega); omega) | assumption)) ?_
          refine tri_drawA 16 15 (fun b2 => [sB, sl bv ov nv cv, ii (ord i), ii (10 * (ord i)), ii 7, ii ((10 * (ord i)) + 7), pt b1 0, ii (pm i 0), ii ((q : Int) - 3), pt b1 (0 + ((q : Int) - 3).toNat), ii ([pm i 0, pm i 1, pm i 2, pm i 3].getD (0 + ((q : Int) - 3).toNat + 0) 0), ii ((tyN ((pm i 0).toNat) ((pm i (q - 3)).toNat) : Nat) : Int), ii (((10 * (ord i)) + 7) + ((tyN ((pm i 0).toNat) ((pm i (q - 3)).toNat) : Nat) : Int)), pt bv (ov + (((10 * (ord i)) + 7) + ((tyN ((pm i 0).toNat) ((pm i (q - 3)).toNat) : Nat) : Int)).toNat), ii (v ((((10 * (ord i)) + 7) + ((tyN ((pm i 0).toNat) ((pm i (q - 3)).toNat) : Nat) : Int)).toNat)), sl b2 0 1 1]) (fun b2 => sl b2 0 1 1) (.cells #[ii (v ((((10 * (ord i)) + 7) + ((tyN ((pm i 0).toNat) ((pm i (q - 3)).toNat) : Nat) : Int)).toNat))] 3 (0, 0)) (l' := fun b2 => [(69, sl b2 0 1 1), (68, ii (v ((((10 * (ord i)) + 7) + ((tyN ((pm i 0).toNat) ((pm i (q - 3)).toNat) : Nat) : Int)).toNat))), (67, pt bv (ov + (((10 * (ord i)) + 7) + ((tyN ((pm i 0).toNat) ((pm i (q - 3)).toNat) : Nat) : Int)).toNat)), (66, ii (((10 * (ord i)) + 7) + ((tyN ((pm i 0).toNat) ((pm i (q - 3)).toNat) : Nat) : Int))), (65, ii ((tyN ((pm i 0).toNat) ((pm i (q - 3)).toNat) : Nat) : Int)), (64, ii ([pm i 0, pm i 1, pm i 2, pm i 3].getD (0 + ((q : Int) - 3).toNat + 0) 0)), (63, pt b1 (0 + ((q : Int) - 3).toNat)), (62, ii ((q : Int) - 3)), (61, ii (pm i 0)), (60, pt b1 0), (59, ii ((10 * (ord i)) + 7)), (58, ii 7), (57, ii (10 * (ord i))), (56, ii (ord i)), (55, sl bv ov nv cv), (54, sB), (14, ii ((q : Int) - 3)), (13, ii 7), (9, ii (ord i)), (10, pt b1 0), (0, sl bv ov nv cv), (1, sl bo oo n co), (2, sl bp op n cp), (8, ii (i : Int)), (12, ii (q : Int)), (7, sB)]) (todo := [16, 17]) (by kernel_rfl) (by kernel_rfl) (fun _ => rfl) (by kernel_rfl) (fun _ => rfl) (fun xA yA jA hjA => ?_) ?_ ?_ (lk := [(68, ii (v ((((10 * (ord i)) + 7) + ((tyN ((pm i 0).toNat) ((pm i (q - 3)).toNat) : Nat) : Int)).toNat)))]) (by kernel_rfl) ?_ (fun _ => by kernel_rfl) rfl (fun b2 => ?_)
          · exact getElem?_but (f := fun b2 => [sB, sl bv ov nv cv, ii (ord i), ii (10 * (ord i)), ii 7, ii ((10 * (ord i)) + 7), pt b1 0, ii (pm i 0), ii ((q : Int) - 3), pt b1 (0 + ((q : Int) - 3).toNat), ii ([pm i 0, pm i 1, pm i 2, pm i 3].getD (0 + ((q : Int) - 3).toNat + 0) 0), ii ((tyN ((pm i 0).toNat) ((pm i (q - 3)).toNat) : Nat) : Int), ii (((10 * (ord i)) + 7) + ((tyN ((pm i 0).toNat) ((pm i (q - 3)).toNat) : Nat) : Int)), pt bv (ov + (((10 * (ord i)) + 7) + ((tyN ((pm i 0).toNat) ((pm i (q - 3)).toNat) : Nat) : Int)).toNat), ii (v ((((10 * (ord i)) + 7) + ((tyN ((pm i 0).toNat) ((pm i (q - 3)).toNat) : Nat) : Int)).toNat)), sl b2 0 1 1]) (g := fun b2 => sl b2 0 1 1) 15 (fun _ => ([sB, sl bv ov nv cv, ii (ord i), ii (10 * (ord i)), ii 7, ii ((10 * (ord i)) + 7), pt b1 0, ii (pm i 0), ii ((q : Int) - 3), pt b1 (0 + ((q : Int) - 3).toNat), ii ([pm i 0, pm i 1, pm i 2, pm i 3].getD (0 + ((q : Int) - 3).toNat + 0) 0), ii ((tyN ((pm i 0).toNat) ((pm i (q - 3)).toNat) : Nat) : Int), ii (((10 * (ord i)) + 7) + ((tyN ((pm i 0).toNat) ((pm i (q - 3)).toNat) : Nat) : Int)), pt bv (ov + (((10 * (ord i)) + 7) + ((tyN ((pm i 0).toNat) ((pm i (q - 3)).toNat) : Nat) : Int)).toNat), ii (v ((((10 * (ord i)) + 7) + ((tyN ((pm i 0).toNat) ((pm i (q - 3)).toNat) : Nat) : Int)).toNat))] : List Value)) (fun _ => ([] : List Value)) (fun _ _ => rfl) (fun _ _ => rfl) (fun _ => rfl) (fun _ => rfl) xA yA jA hjA
          · show QAllX _ _ _ _ _ _ _ [sB, sl bv ov nv cv, ii (ord i), ii (10 * (ord i)), ii 7, ii ((10 * (ord i)) + 7), pt b1 0, ii (pm i 0), ii ((q : Int) - 3), pt b1 (0 + ((q : Int) - 3).toNat), ii ([pm i 0, pm i 1, pm i 2, pm i 3].getD (0 + ((q : Int) - 3).toNat + 0) 0), ii ((tyN ((pm i 0).toNat) ((pm i (q - 3)).toNat) : Nat) : Int), ii (((10 * (ord i)) + 7) + ((tyN ((pm i 0).toNat) ((pm i (q - 3)).toNat) : Nat) : Int)), pt bv (ov + (((10 * (ord i)) + 7) + ((tyN ((pm i 0).toNat) ((pm i (q - 3)).toNat) : Nat) : Int)).toNat), ii (v ((((10 * (ord i)) + 7) + ((tyN ((pm i 0).toNat) ((pm i (q - 3)).toNat) : Nat) : Int)).toNat)), sl 0 0 1 1]
            refine qallx_appendE (vs := [sB, sl bv ov nv cv, ii (ord i), ii (10 * (ord i)), ii 7, ii ((10 * (ord i)) + 7), pt b1 0, ii (pm i 0), ii ((q : Int) - 3), pt b1 (0 + ((q : Int) - 3).toNat), ii ([pm i 0, pm i 1, pm i 2, pm i 3].getD (0 + ((q : Int) - 3).toNat + 0) 0), ii ((tyN ((pm i 0).toNat) ((pm i (q - 3)).toNat) : Nat) : Int), ii (((10 * (ord i)) + 7) + ((tyN ((pm i 0).toNat) ((pm i (q - 3)).toNat) : Nat) : Int)), pt bv (ov + (((10 * (ord i)) + 7) + ((tyN ((pm i 0).toNat) ((pm i (q - 3)).toNat) : Nat) : Int)).toNat), ii (v ((((10 * (ord i)) + 7) + ((tyN ((pm i 0).toNat) ((pm i (q - 3)).toNat) : Nat) : Int)).toNat))]) (vs' := [sl 0 0 1 1]) (by kernel_rfl) (by
              exact qallW [some .ex, some .ex, some .ex, some .ar, some .ex, some .ar, some .ex, none, some .ex, some .at, none, none, some .ar, some .at, none] [ii (pm i 0), ii ([pm i 0, pm i 1, pm i 2, pm i 3].getD (0 + ((q : Int) - 3).toNat + 0) 0), ii ((tyN ((pm i 0).toNat) ((pm i (q - 3)).toNat) : Nat) : Int), ii (v ((((10 * (ord i)) + 7) + ((tyN ((pm i 0).toNat) ((pm i (q - 3)).toNat) : Nat) : Int)).toNat))] [(7, [(60, pt b1 0)], ii (pm i 0)), (10, [(63, pt b1 (0 + ((q : Int) - 3).toNat))], ii ([pm i 0, pm i 1, pm i 2, pm i 3].getD (0 + ((q : Int) - 3).toNat + 0) 0)), (11, [(64, ii ([pm i 0, pm i 1, pm i 2, pm i 3].getD (0 + ((q : Int) - 3).toNat + 0) 0)), (61, ii (pm i 0))], ii ((tyN ((pm i 0).toNat) ((pm i (q - 3)).toNat) : Nat) : Int)), (14, [(67, pt bv (ov + (((10 * (ord i)) + 7) + ((tyN ((pm i 0).toNat) ((pm i (q - 3)).toNat) : Nat) : Int)).toNat))], ii (v ((((10 * (ord i)) + 7) + ((tyN ((pm i 0).toNat) ((pm i (q - 3)).toNat) : Nat) : Int)).toNat)))] [I64 (10 * (ord i)), I64 ((10 * (ord i)) + 7), (0 : Int) ≤ (q : Int) - 3, (q : Int) - 3 < ((4 : Nat) : Int), I64 (((10 * (ord i)) + 7) + ((tyN ((pm i 0).toNat) ((pm i (q - 3)).toNat) : Nat) : Int)), (0 : Int) ≤ ((10 * (ord i)) + 7) + ((tyN ((pm i 0).toNat) ((pm i (q - 3)).toNat) : Nat) : Int), ((10 * (ord i)) + 7) + ((tyN ((pm i 0).toNat) ((pm i (q - 3)).toNat) : Nat) : Int) < ((nv : Nat) : Int)] (by kernel_rfl) (by refine ap ?_ (ap ?_ (ap ?_ (ap ?_ (ap ?_ (ap ?_ (ap1 ?_)))))) <;> (first | omega | (have := hpk (by omega); omega) | (have := hpk2 (by omega); omega) | (have := hpk3 (by omega); omega) | assumption)) (aq (opQ_loadOwn 0 b1 0 1 #[ii (pm i 0), ii (pm i 1), ii (pm i 2), ii (pm i 3)] 72 (0, 0) rfl rfl rfl rfl rfl rfl rfl rfl (by kernel_rfl)) (aq (opQ_loadInts 0 b1 (0 + ((q : Int) - 3).toNat) 1 [pm i 0, pm i 1, pm i 2, pm i 3] 72 rfl rfl rfl rfl rfl rfl rfl rfl (by first | omega | (simp; omega)) (by kernel_rfl)) (aq (opQ_callx (f := 49) (args := #[ii (pm i 0), ii ([pm i 0, pm i 1, pm i 2, pm i 3].getD (0 + ((q : Int) - 3).toNat + 0) 0)]) rfl rfl rfl rfl rfl (run_call en49 rfl rfl rfl (by kernel_rfl)) (fun W hR => (by rw [show [pm i 0, pm i 1, pm i 2, pm i 3].getD (0 + ((q : Int) - 3).toNat + 0) 0 = pm i (q - 3) from by simp only [Nat.zero_add, Nat.add_zero]; rw [show ((q : Int) - 3).toNat = q - 3 by omega]; exact five_pm pm i (q - 3) (by omega)]; exact type_ (i := (pm i 0)) (j := (pm i (q - 3))) (by omega) (by omega) (by omega) (by omega) (by omega) W))) (aq (opQ_loadBase bv (ov + (((10 * (ord i)) + 7) + ((tyN ((pm i 0).toNat) ((pm i (q - 3)).toNat) : Nat) : Int)).toNat) [ii (v ((((10 * (ord i)) + 7) + ((tyN ((pm i 0).toNat) ((pm i (q - 3)).toNat) : Nat) : Int)).toNat))] rfl rfl rfl rfl rfl rfl rfl (by kernel_rfl) (by simp) (hv.one (by first | omega | (have := hpk (by omega); omega) | (have := hpk2 (by omega); omega) | (have := hpk3 (by omega); omega) | assumption))) aq0))))) rfl ?_
            refine qallx_skip rfl (qallx_of_qall (by
              exact qallW [] [] [] [] (by kernel_rfl) trivial aq0))
          · intro b2
            refine qallx_appendE (vs := [sB, sl bv ov nv cv, ii (ord i), ii (10 * (ord i)), ii 7, ii ((10 * (ord i)) + 7), pt b1 0, ii (pm i 0), ii ((q : Int) - 3), pt b1 (0 + ((q : Int) - 3).toNat), ii ([pm i 0, pm i 1, pm i 2, pm i 3].getD (0 + ((q : Int) - 3).toNat + 0) 0), ii ((tyN ((pm i 0).toNat) ((pm i (q - 3)).toNat) : Nat) : Int), ii (((10 * (ord i)) + 7) + ((tyN ((pm i 0).toNat) ((pm i (q - 3)).toNat) : Nat) : Int)), pt bv (ov + (((10 * (ord i)) + 7) + ((tyN ((pm i 0).toNat) ((pm i (q - 3)).toNat) : Nat) : Int)).toNat), ii (v ((((10 * (ord i)) + 7) + ((tyN ((pm i 0).toNat) ((pm i (q - 3)).toNat) : Nat) : Int)).toNat))]) (vs' := [sl b2 0 1 1]) (by kernel_rfl) (by
              exact qallW [some .ex, some .ex, some .ex, some .ar, some .ex, some .ar, some .ex, none, some .ex, some .at, none, none, some .ar, some .at, none] [ii (pm i 0), ii ([pm i 0, pm i 1, pm i 2, pm i 3].getD (0 + ((q : Int) - 3).toNat + 0) 0), ii ((tyN ((pm i 0).toNat) ((pm i (q - 3)).toNat) : Nat) : Int), ii (v ((((10 * (ord i)) + 7) + ((tyN ((pm i 0).toNat) ((pm i (q - 3)).toNat) : Nat) : Int)).toNat))] [(7, [(60, pt b1 0)], ii (pm i 0)), (10, [(63, pt b1 (0 + ((q : Int) - 3).toNat))], ii ([pm i 0, pm i 1, pm i 2, pm i 3].getD (0 + ((q : Int) - 3).toNat + 0) 0)), (11, [(64, ii ([pm i 0, pm i 1, pm i 2, pm i 3].getD (0 + ((q : Int) - 3).toNat + 0) 0)), (61, ii (pm i 0))], ii ((tyN ((pm i 0).toNat) ((pm i (q - 3)).toNat) : Nat) : Int)), (14, [(67, pt bv (ov + (((10 * (ord i)) + 7) + ((tyN ((pm i 0).toNat) ((pm i (q - 3)).toNat) : Nat) : Int)).toNat))], ii (v ((((10 * (ord i)) + 7) + ((tyN ((pm i 0).toNat) ((pm i (q - 3)).toNat) : Nat) : Int)).toNat)))] [I64 (10 * (ord i)), I64 ((10 * (ord i)) + 7), (0 : Int) ≤ (q : Int) - 3, (q : Int) - 3 < ((4 : Nat) : Int), I64 (((10 * (ord i)) + 7) + ((tyN ((pm i 0).toNat) ((pm i (q - 3)).toNat) : Nat) : Int)), (0 : Int) ≤ ((10 * (ord i)) + 7) + ((tyN ((pm i 0).toNat) ((pm i (q - 3)).toNat) : Nat) : Int), ((10 * (ord i)) + 7) + ((tyN ((pm i 0).toNat) ((pm i (q - 3)).toNat) : Nat) : Int) < ((nv : Nat) : Int)] (by kernel_rfl) (by refine ap ?_ (ap ?_ (ap ?_ (ap ?_ (ap ?_ (ap ?_ (ap1 ?_)))))) <;> (first | omega | (have := hpk (by omega); omega) | (have := hpk2 (by omega); omega) | (have := hpk3 (by omega); omega) | assumption)) (aq (opQ_loadOwn 1 b1 0 1 #[ii (pm i 0), ii (pm i 1), ii (pm i 2), ii (pm i 3)] 72 (0, 0) rfl rfl rfl rfl rfl rfl rfl rfl (by kernel_rfl)) (aq (opQ_loadInts 1 b1 (0 + ((q : Int) - 3).toNat) 1 [pm i 0, pm i 1, pm i 2, pm i 3] 72 rfl rfl rfl rfl rfl rfl rfl rfl (by first | omega | (simp; omega)) (by kernel_rfl)) (aq (opQ_callx (f := 49) (args := #[ii (pm i 0), ii ([pm i 0, pm i 1, pm i 2, pm i 3].getD (0 + ((q : Int) - 3).toNat + 0) 0)]) rfl rfl rfl rfl rfl (run_call en49 rfl rfl rfl (by kernel_rfl)) (fun W hR => (by rw [show [pm i 0, pm i 1, pm i 2, pm i 3].getD (0 + ((q : Int) - 3).toNat + 0) 0 = pm i (q - 3) from by simp only [Nat.zero_add, Nat.add_zero]; rw [show ((q : Int) - 3).toNat = q - 3 by omega]; exact five_pm pm i (q - 3) (by omega)]; exact type_ (i := (pm i 0)) (j := (pm i (q - 3))) (by omega) (by omega) (by omega) (by omega) (by omega) W))) (aq (opQ_loadBase bv (ov + (((10 * (ord i)) + 7) + ((tyN ((pm i 0).toNat) ((pm i (q - 3)).toNat) : Nat) : Int)).toNat) [ii (v ((((10 * (ord i)) + 7) + ((tyN ((pm i 0).toNat) ((pm i (q - 3)).toNat) : Nat) : Int)).toNat))] rfl rfl rfl rfl rfl rfl rfl (by kernel_rfl) (by simp) (hv.one (by first | omega | (have := hpk (by omega); omega) | (have := hpk2 (by omega); omega) | (have := hpk3 (by omega); omega) | assumption))) aq0))))) rfl ?_
            refine qallx_skip rfl (qallx_of_qall (by
              exact qallW [] [] [] [] (by kernel_rfl) trivial aq0))
          · exact opA_buildSlice (e := 3) (size := 1) (z := ii 0) [ii (v ((((10 * (ord i)) + 7) + ((tyN ((pm i 0).toNat) ((pm i (q - 3)).toNat) : Nat) : Int)).toNat))] rfl rfl rfl rfl rfl rfl (by kernel_rfl) (by kernel_rfl) (by kernel_rfl) (by kernel_rfl)
          refine opsT_heq (hs' := (b2, .cells #[ii (v ((((10 * (ord i)) + 7) + ((tyN ((pm i 0).toNat) ((pm i (q - 3)).toNat) : Nat) : Int)).toNat))] 3 (0, 0)) :: (b1, .cells #[ii (pm i 0), ii (pm i 1), ii (pm i 2), ii (pm i 3)] 72 (0, 0)) :: hw2) rfl ?_
          rw [show [pm i 0, pm i 1, pm i 2, pm i 3].getD (0 + ((q : Int) - 3).toNat + 0) 0 = pm i (q - 3) from by simp only [Nat.zero_add, Nat.add_zero]; rw [show ((q : Int) - 3).toNat = q - 3 by omega]; exact five_pm pm i (q - 3) (by omega)]
          refine opsT_append (e := 3) (size := 1) (bytes := 8) (z := (ii 0)) (vs := (carL v ord pm (10 * i + (3 + q))).map (Value.int .i64)) (news := [ii (v ((((10 * (ord i)) + 7) + ((tyN ((pm i 0).toNat) ((pm i (q - 3)).toNat) : Nat) : Int)).toNat))]) (m := (10 * i + (3 + q))) (k := 1) (sv := sB) (hv := hw2) (own := [(b2, .cells #[ii (v ((((10 * (ord i)) + 7) + ((tyN ((pm i 0).toNat) ((pm i (q - 3)).toNat) : Nat) : Int)).toNat))] 3 (0, 0)), (b1, .cells #[ii (pm i 0), ii (pm i 1), ii (pm i 2), ii (pm i 3)] 72 (0, 0))]) rfl rfl rfl rfl rfl rfl rfl rfl rfl rfl rfl (by kernel_rfl) (by kernel_rfl) rfl (List.perm_append_comm (l₁ := ([(b2, .cells #[ii (v ((((10 * (ord i)) + 7) + ((tyN ((pm i 0).toNat) ((pm i (q - 3)).toNat) : Nat) : Int)).toNat))] 3 (0, 0)), (b1, .cells #[ii (pm i 0), ii (pm i 1), ii (pm i 2), ii (pm i 3)] 72 (0, 0))] : List (Nat × Obj))) (l₂ := hw2)) hC2.2 rfl (by first | omega | (have := hpk (by omega); omega) | (have := hpk2 (by omega); omega) | (have := hpk3 (by omega); omega) | assumption) (by first | omega | (have := hpk (by omega); omega) | (have := hpk2 (by omega); omega) | (have := hpk3 (by omega); omega) | assumption) (fun W hR => src_own (e2 := 3) (off := 0) (us := [ii (v ((((10 * (ord i)) + 7) + ((tyN ((pm i 0).toNat) ((pm i (q - 3)).toNat) : Nat) : Int)).toNat))]) hR (by kernel_rfl) (List.mem_append_right _ (List.mem_of_getElem? (i := 0) rfl)) rfl (fun j v hj => by simpa using hj) rfl) (fun sv1 hv1 hV1 => ?_)
          refine opsT_perm (hs' := (b2, .cells #[ii (v ((((10 * (ord i)) + 7) + ((tyN ((pm i 0).toNat) ((pm i (q - 3)).toNat) : Nat) : Int)).toNat))] 3 (0, 0)) :: (b1, .cells #[ii (pm i 0), ii (pm i 1), ii (pm i 2), ii (pm i 3)] 72 (0, 0)) :: hv1) (List.perm_append_comm (l₁ := hv1) (l₂ := ([(b2, .cells #[ii (v ((((10 * (ord i)) + 7) + ((tyN ((pm i 0).toNat) ((pm i (q - 3)).toNat) : Nat) : Int)).toNat))] 3 (0, 0)), (b1, .cells #[ii (pm i 0), ii (pm i 1), ii (pm i 2), ii (pm i 3)] 72 (0, 0))] : List (Nat × Obj)))) ?_
          refine kS 1 0 [(7, sv1)] [9, 10, 0, 1, 2, 8, 12] ?_
          refine opsT_end ?_
          refine post_block ?_
          refine post_then ?_
          refine tri_region (todo := [0, 1, 2]) rfl ?_
          refine kO 3 32 [(12, ii ((q : Int) + 1))] [7, 9, 10, 0, 1, 2, 8] [I64 ((q : Int) + 1)] (ap1 (by first | omega | (have := hpk (by omega); omega) | (have := hpk2 (by omega); omega) | (have := hpk3 (by omega); omega) | assumption)) ?_
          refine opsT_end ?_
          refine post_round ((q + 1), sv1, hv1) ⟨by omega, by rw [show 10 * i + (3 + (q + 1)) = 10 * i + (6 + (q - 3)) + 1 by omega, carL_succ, List.map_append, car_oct v ord pm (by omega) (by omega)]; rw [show 10 * i + (3 + q) = 10 * i + (6 + (q - 3)) by omega] at hV1; rw [show (10 * ord i + 7 + ((tyN (pm i 0).toNat (pm i (q - 3)).toNat : Nat) : Int)).toNat = 10 * (ord i).toNat + 7 + tyN (pm i 0).toNat (pm i (q - 3)).toNat by omega] at hV1; exact hV1⟩ (by show 7 - (q + 1) < 7 - q; omega) (look_pickL (ks := [9, 10, 0, 1, 2, 8, 12, 7]) (by kernel_rfl)) (.cons _ (List.Sublist.refl _))
        · refine tri_skip ?_
          refine post_then ?_
          refine tri_drawA 16 15 (fun b2 => [sB, sl bv ov nv cv, ii (ord i), ii (10 * (ord i)), ii 4, ii ((10 * (ord i)) + 4), pt b1 0, ii (pm i 0), ii (q : Int), pt b1 (0 + q), ii ([pm i 0, pm i 1, pm i 2, pm i 3].getD (0 + q + 0) 0), ii ((tyN ((pm i 0).toNat) ((pm i q).toNat) : Nat) : Int), ii (((10 * (ord i)) + 4) + ((tyN ((pm i 0).toNat) ((pm i q).toNat) : Nat) : Int)), pt bv (ov + (((10 * (ord i)) + 4) + ((tyN ((pm i 0).toNat) ((pm i q).toNat) : Nat) : Int)).toNat), ii (v ((((10 * (ord i)) + 4) + ((tyN ((pm i 0).toNat) ((pm i q).toNat) : Nat) : Int)).toNat)), sl b2 0 1 1]) (fun b2 => sl b2 0 1 1) (.cells #[ii (v ((((10 * (ord i)) + 4) + ((tyN ((pm i 0).toNat) ((pm i q).toNat) : Nat) : Int)).toNat))] 3 (0, 0)) (l' := fun b2 => [(69, sl b2 0 1 1), (68, ii (v ((((10 * (ord i)) + 4) + ((tyN ((pm i 0).toNat) ((pm i q).toNat) : Nat) : Int)).toNat))), (67, pt bv (ov + (((10 * (ord i)) + 4) + ((tyN ((pm i 0).toNat) ((pm i q).toNat) : Nat) : Int)).toNat)), (66, ii (((10 * (ord i)) + 4) + ((tyN ((pm i 0).toNat) ((pm i q).toNat) : Nat) : Int))), (65, ii ((tyN ((pm i 0).toNat) ((pm i q).toNat) : Nat) : Int)), (64, ii ([pm i 0, pm i 1, pm i 2, pm i 3].getD (0 + q + 0) 0)), (63, pt b1 (0 + q)), (62, ii (q : Int)), (61, ii (pm i 0)), (60, pt b1 0), (59, ii ((10 * (ord i)) + 4)), (58, ii 4), (57, ii (10 * (ord i))), (56, ii (ord i)), (55, sl bv ov nv cv), (54, sB), (51, .bool (decide (3 < (q : Int)))), (14, ii (q : Int)), (13, ii 4), (9, ii (ord i)), (10, pt b1 0), (0, sl bv ov nv cv), (1, sl bo oo n co), (2, sl bp op n cp), (8, ii (i : Int)), (12, ii (q : Int)), (7, sB)]) (todo := [16, 17]) (by kernel_rfl) (by kernel_rfl) (fun _ => rfl) (by kernel_rfl) (fun _ => rfl) (fun xA yA jA hjA => ?_) ?_ ?_ (lk := [(68, ii (v ((((10 * (ord i)) + 4) + ((tyN ((pm i 0).toNat) ((pm i q).toNat) : Nat) : Int)).toNat)))]) (by kernel_rfl) ?_ (fun _ => by kernel_rfl) rfl (fun b2 => ?_)
          · exact getElem?_but (f := fun b2 => [sB, sl bv ov nv cv, ii (ord i), ii (10 * (ord i)), ii 4, ii ((10 * (ord i)) + 4), pt b1 0, ii (pm i 0), ii (q : Int), pt b1 (0 + q), ii ([pm i 0, pm i 1, pm i 2, pm i 3].getD (0 + q + 0) 0), ii ((tyN ((pm i 0).toNat) ((pm i q).toNat) : Nat) : Int), ii (((10 * (ord i)) + 4) + ((tyN ((pm i 0).toNat) ((pm i q).toNat) : Nat) : Int)), pt bv (ov + (((10 * (ord i)) + 4) + ((tyN ((pm i 0).toNat) ((pm i q).toNat) : Nat) : Int)).toNat), ii (v ((((10 * (ord i)) + 4) + ((tyN ((pm i 0).toNat) ((pm i q).toNat) : Nat) : Int)).toNat)), sl b2 0 1 1]) (g := fun b2 => sl b2 0 1 1) 15 (fun _ => ([sB, sl bv ov nv cv, ii (ord i), ii (10 * (ord i)), ii 4, ii ((10 * (ord i)) + 4), pt b1 0, ii (pm i 0), ii (q : Int), pt b1 (0 + q), ii ([pm i 0, pm i 1, pm i 2, pm i 3].getD (0 + q + 0) 0), ii ((tyN ((pm i 0).toNat) ((pm i q).toNat) : Nat) : Int), ii (((10 * (ord i)) + 4) + ((tyN ((pm i 0).toNat) ((pm i q).toNat) : Nat) : Int)), pt bv (ov + (((10 * (ord i)) + 4) + ((tyN ((pm i 0).toNat) ((pm i q).toNat) : Nat) : Int)).toNat), ii (v ((((10 * (ord i)) + 4) + ((tyN ((pm i 0).toNat) ((pm i q).toNat) : Nat) : Int)).toNat))] : List Value)) (fun _ => ([] : List Value)) (fun _ _ => rfl) (fun _ _ => rfl) (fun _ => rfl) (fun _ => rfl) xA yA jA hjA
          · show QAllX _ _ _ _ _ _ _ [sB, sl bv ov nv cv, ii (ord i), ii (10 * (ord i)), ii 4, ii ((10 * (ord i)) + 4), pt b1 0, ii (pm i 0), ii (q : Int), pt b1 (0 + q), ii ([pm i 0, pm i 1, pm i 2, pm i 3].getD (0 + q + 0) 0), ii ((tyN ((pm i 0).toNat) ((pm i q).toNat) : Nat) : Int), ii (((10 * (ord i)) + 4) + ((tyN ((pm i 0).toNat) ((pm i q).toNat) : Nat) : Int)), pt bv (ov + (((10 * (ord i)) + 4) + ((tyN ((pm i 0).toNat) ((pm i q).toNat) : Nat) : Int)).toNat), ii (v ((((10 * (ord i)) + 4) + ((tyN ((pm i 0).toNat) ((pm i q).toNat) : Nat) : Int)).toNat)), sl 0 0 1 1]
            refine qallx_appendE (vs := [sB, sl bv ov nv cv, ii (ord i), ii (10 * (ord i)), ii 4, ii ((10 * (ord i)) + 4), pt b1 0, ii (pm i 0), ii (q : Int), pt b1 (0 + q), ii ([pm i 0, pm i 1, pm i 2, pm i 3].getD (0 + q + 0) 0), ii ((tyN ((pm i 0).toNat) ((pm i q).toNat) : Nat) : Int), ii (((10 * (ord i)) + 4) + ((tyN ((pm i 0).toNat) ((pm i q).toNat) : Nat) : Int)), pt bv (ov + (((10 * (ord i)) + 4) + ((tyN ((pm i 0).toNat) ((pm i q).toNat) : Nat) : Int)).toNat), ii (v ((((10 * (ord i)) + 4) + ((tyN ((pm i 0).toNat) ((pm i q).toNat) : Nat) : Int)).toNat))]) (vs' := [sl 0 0 1 1]) (by kernel_rfl) (by
              exact qallW [some .ex, some .ex, some .ex, some .ar, some .ex, some .ar, some .ex, none, some .ex, some .at, none, none, some .ar, some .at, none] [ii (pm i 0), ii ([pm i 0, pm i 1, pm i 2, pm i 3].getD (0 + q + 0) 0), ii ((tyN ((pm i 0).toNat) ((pm i q).toNat) : Nat) : Int), ii (v ((((10 * (ord i)) + 4) + ((tyN ((pm i 0).toNat) ((pm i q).toNat) : Nat) : Int)).toNat))] [(7, [(60, pt b1 0)], ii (pm i 0)), (10, [(63, pt b1 (0 + q))], ii ([pm i 0, pm i 1, pm i 2, pm i 3].getD (0 + q + 0) 0)), (11, [(64, ii ([pm i 0, pm i 1, pm i 2, pm i 3].getD (0 + q + 0) 0)), (61, ii (pm i 0))], ii ((tyN ((pm i 0).toNat) ((pm i q).toNat) : Nat) : Int)), (14, [(67, pt bv (ov + (((10 * (ord i)) + 4) + ((tyN ((pm i 0).toNat) ((pm i q).toNat) : Nat) : Int)).toNat))], ii (v ((((10 * (ord i)) + 4) + ((tyN ((pm i 0).toNat) ((pm i q).toNat) : Nat) : Int)).toNat)))] [I64 (10 * (ord i)), I64 ((10 * (ord i)) + 4), (0 : Int) ≤ (q : Int), (q : Int) < ((4 : Nat) : Int), I64 (((10 * (ord i)) + 4) + ((tyN ((pm i 0).toNat) ((pm i q).toNat) : Nat) : Int)), (0 : Int) ≤ ((10 * (ord i)) + 4) + ((tyN ((pm i 0).toNat) ((pm i q).toNat) : Nat) : Int), ((10 * (ord i)) + 4) + ((tyN ((pm i 0).toNat) ((pm i q).toNat) : Nat) : Int) < ((nv : Nat) : Int)] (by kernel_rfl) (by refine ap ?_ (ap ?_ (ap ?_ (ap ?_ (ap ?_ (ap ?_ (ap1 ?_)))))) <;> (first | omega | (have := hpk (by omega); omega) | (have := hpk2 (by omega); omega) | (have := hpk3 (by omega); omega) | assumption)) (aq (opQ_loadOwn 0 b1 0 1 #[ii (pm i 0), ii (pm i 1), ii (pm i 2), ii (pm i 3)] 72 (0, 0) rfl rfl rfl rfl rfl rfl rfl rfl (by kernel_rfl)) (aq (opQ_loadInts 0 b1 (0 + q) 1 [pm i 0, pm i 1, pm i 2, pm i 3] 72 rfl rfl rfl rfl rfl rfl rfl rfl (by first | omega | (simp; omega)) (by kernel_rfl)) (aq (opQ_callx (f := 49) (args := #[ii (pm i 0), ii ([pm i 0, pm i 1, pm i 2, pm i 3].getD (0 + q + 0) 0)]) rfl rfl rfl rfl rfl (run_call en49 rfl rfl rfl (by kernel_rfl)) (fun W hR => (by rw [show [pm i 0, pm i 1, pm i 2, pm i 3].getD (0 + q + 0) 0 = pm i q from by simp only [Nat.zero_add, Nat.add_zero, Int.toNat_natCast]; exact five_pm pm i q (by omega)]; exact type_ (i := (pm i 0)) (j := (pm i q)) (by omega) (by omega) (by omega) (by omega) (by omega) W))) (aq (opQ_loadBase bv (ov + (((10 * (ord i)) + 4) + ((tyN ((pm i 0).toNat) ((pm i q).toNat) : Nat) : Int)).toNat) [ii (v ((((10 * (ord i)) + 4) + ((tyN ((pm i 0).toNat) ((pm i q).toNat) : Nat) : Int)).toNat))] rfl rfl rfl rfl rfl rfl rfl (by kernel_rfl) (by simp) (hv.one (by first | omega | (have := hpk (by omega); omega) | (have := hpk2 (by omega); omega) | (have := hpk3 (by omega); omega) | assumption))) aq0))))) rfl ?_
            refine qallx_skip rfl (qallx_of_qall (by
              exact qallW [] [] [] [] (by kernel_rfl) trivial aq0))
          · intro b2
            refine qallx_appendE (vs := [sB, sl bv ov nv cv, ii (ord i), ii (10 * (ord i)), ii 4, ii ((10 * (ord i)) + 4), pt b1 0, ii (pm i 0), ii (q : Int), pt b1 (0 + q), ii ([pm i 0, pm i 1, pm i 2, pm i 3].getD (0 + q + 0) 0), ii ((tyN ((pm i 0).toNat) ((pm i q).toNat) : Nat) : Int), ii (((10 * (ord i)) + 4) + ((tyN ((pm i 0).toNat) ((pm i q).toNat) : Nat) : Int)), pt bv (ov + (((10 * (ord i)) + 4) + ((tyN ((pm i 0).toNat) ((pm i q).toNat) : Nat) : Int)).toNat), ii (v ((((10 * (ord i)) + 4) + ((tyN ((pm i 0).toNat) ((pm i q).toNat) : Nat) : Int)).toNat))]) (vs' := [sl b2 0 1 1]) (by kernel_rfl) (by
              exact qallW [some .ex, some .ex, some .ex, some .ar, some .ex, some .ar, some .ex, none, some .ex, some .at, none, none, some .ar, some .at, none] [ii (pm i 0), ii ([pm i 0, pm i 1, pm i 2, pm i 3].getD (0 + q + 0) 0), ii ((tyN ((pm i 0).toNat) ((pm i q).toNat) : Nat) : Int), ii (v ((((10 * (ord i)) + 4) + ((tyN ((pm i 0).toNat) ((pm i q).toNat) : Nat) : Int)).toNat))] [(7, [(60, pt b1 0)], ii (pm i 0)), (10, [(63, pt b1 (0 + q))], ii ([pm i 0, pm i 1, pm i 2, pm i 3].getD (0 + q + 0) 0)), (11, [(64, ii ([pm i 0, pm i 1, pm i 2, pm i 3].getD (0 + q + 0) 0)), (61, ii (pm i 0))], ii ((tyN ((pm i 0).toNat) ((pm i q).toNat) : Nat) : Int)), (14, [(67, pt bv (ov + (((10 * (ord i)) + 4) + ((tyN ((pm i 0).toNat) ((pm i q).toNat) : Nat) : Int)).toNat))], ii (v ((((10 * (ord i)) + 4) + ((tyN ((pm i 0).toNat) ((pm i q).toNat) : Nat) : Int)).toNat)))] [I64 (10 * (ord i)), I64 ((10 * (ord i)) + 4), (0 : Int) ≤ (q : Int), (q : Int) < ((4 : Nat) : Int), I64 (((10 * (ord i)) + 4) + ((tyN ((pm i 0).toNat) ((pm i q).toNat) : Nat) : Int)), (0 : Int) ≤ ((10 * (ord i)) + 4) + ((tyN ((pm i 0).toNat) ((pm i q).toNat) : Nat) : Int), ((10 * (ord i)) + 4) + ((tyN ((pm i 0).toNat) ((pm i q).toNat) : Nat) : Int) < ((nv : Nat) : Int)] (by kernel_rfl) (by refine ap ?_ (ap ?_ (ap ?_ (ap ?_ (ap ?_ (ap ?_ (ap1 ?_)))))) <;> (first | omega | (have := hpk (by omega); omega) | (have := hpk2 (by omega); omega) | (have := hpk3 (by omega); omega) | assumption)) (aq (opQ_loadOwn 1 b1 0 1 #[ii (pm i 0), ii (pm i 1), ii (pm i 2), ii (pm i 3)] 72 (0, 0) rfl rfl rfl rfl rfl rfl rfl rfl (by kernel_rfl)) (aq (opQ_loadInts 1 b1 (0 + q) 1 [pm i 0, pm i 1, pm i 2, pm i 3] 72 rfl rfl rfl rfl rfl rfl rfl rfl (by first | omega | (simp; omega)) (by kernel_rfl)) (aq (opQ_callx (f := 49) (args := #[ii (pm i 0), ii ([pm i 0, pm i 1, pm i 2, pm i 3].getD (0 + q + 0) 0)]) rfl rfl rfl rfl rfl (run_call en49 rfl rfl rfl (by kernel_rfl)) (fun W hR => (by rw [show [pm i 0, pm i 1, pm i 2, pm i 3].getD (0 + q + 0) 0 = pm i q from by simp only [Nat.zero_add, Nat.add_zero, Int.toNat_natCast]; exact five_pm pm i q (by omega)]; exact type_ (i := (pm i 0)) (j := (pm i q)) (by omega) (by omega) (by omega) (by omega) (by omega) W))) (aq (opQ_loadBase bv (ov + (((10 * (ord i)) + 4) + ((tyN ((pm i 0).toNat) ((pm i q).toNat) : Nat) : Int)).toNat) [ii (v ((((10 * (ord i)) + 4) + ((tyN ((pm i 0).toNat) ((pm i q).toNat) : Nat) : Int)).toNat))] rfl rfl rfl rfl rfl rfl rfl (by kernel_rfl) (by simp) (hv.one (by first | omega | (have := hpk (by omega); omega) | (have := hpk2 (by omega); omega) | (have := hpk3 (by omega); omega) | assumption))) aq0))))) rfl ?_
            refine qallx_skip rfl (qallx_of_qall (by
              exact qallW [] [] [] [] (by kernel_rfl) trivial aq0))
          · exact opA_buildSlice (e := 3) (size := 1) (z := ii 0) [ii (v ((((10 * (ord i)) + 4) + ((tyN ((pm i 0).toNat) ((pm i q).toNat) : Nat) : Int)).toNat))] rfl rfl rfl rfl rfl rfl (by kernel_rfl) (by kernel_rfl) (by kernel_rfl) (by kernel_rfl)
          refine opsT_heq (hs' := (b2, .cells #[ii (v ((((10 * (ord i)) + 4) + ((tyN ((pm i 0).toNat) ((pm i q).toNat) : Nat) : Int)).toNat))] 3 (0, 0)) :: (b1, .cells #[ii (pm i 0), ii (pm i 1), ii (pm i 2), ii (pm i 3)] 72 (0, 0)) :: hw2) rfl ?_
          rw [show [pm i 0, pm i 1, pm i 2, pm i 3].getD (0 + q + 0) 0 = pm i q from by simp only [Nat.zero_add, Nat.add_zero, Int.toNat_natCast]; exact five_pm pm i q (by omega)]
          refine opsT_append (e := 3) (size := 1) (bytes := 8) (z := (ii 0)) (vs := (carL v ord pm (10 * i + (3 + q))).map (Value.int .i64)) (news := [ii (v ((((10 * (ord i)) + 4) + ((tyN ((pm i 0).toNat) ((pm i q).toNat) : Nat) : Int)).toNat))]) (m := (10 * i + (3 + q))) (k := 1) (sv := sB) (hv := hw2) (own := [(b2, .cells #[ii (v ((((10 * (ord i)) + 4) + ((tyN ((pm i 0).toNat) ((pm i q).toNat) : Nat) : Int)).toNat))] 3 (0, 0)), (b1, .cells #[ii (pm i 0), ii (pm i 1), ii (pm i 2), ii (pm i 3)] 72 (0, 0))]) rfl rfl rfl rfl rfl rfl rfl rfl rfl rfl rfl (by kernel_rfl) (by kernel_rfl) rfl (List.perm_append_comm (l₁ := ([(b2, .cells #[ii (v ((((10 * (ord i)) + 4) + ((tyN ((pm i 0).toNat) ((pm i q).toNat) : Nat) : Int)).toNat))] 3 (0, 0)), (b1, .cells #[ii (pm i 0), ii (pm i 1), ii (pm i 2), ii (pm i 3)] 72 (0, 0))] : List (Nat × Obj))) (l₂ := hw2)) hC2.2 rfl (by first | omega | (have := hpk (by omega); omega) | (have := hpk2 (by omega); omega) | (have := hpk3 (by omega); omega) | assumption) (by first | omega | (have := hpk (by omega); omega) | (have := hpk2 (by omega); omega) | (have := hpk3 (by omega); omega) | assumption) (fun W hR => src_own (e2 := 3) (off := 0) (us := [ii (v ((((10 * (ord i)) + 4) + ((tyN ((pm i 0).toNat) ((pm i q).toNat) : Nat) : Int)).toNat))]) hR (by kernel_rfl) (List.mem_append_right _ (List.mem_of_getElem? (i := 0) rfl)) rfl (fun j v hj => by simpa using hj) rfl) (fun sv1 hv1 hV1 => ?_)
          refine opsT_perm (hs' := (b2, .cells #[ii (v ((((10 * (ord i)) + 4) + ((tyN ((pm i 0).toNat) ((pm i q).toNat) : Nat) : Int)).toNat))] 3 (0, 0)) :: (b1, .cells #[ii (pm i 0), ii (pm i 1), ii (pm i 2), ii (pm i 3)] 72 (0, 0)) :: hv1) (List.perm_append_comm (l₁ := hv1) (l₂ := ([(b2, .cells #[ii (v ((((10 * (ord i)) + 4) + ((tyN ((pm i 0).toNat) ((pm i q).toNat) : Nat) : Int)).toNat))] 3 (0, 0)), (b1, .cells #[ii (pm i 0), ii (pm i 1), ii (pm i 2), ii (pm i 3)] 72 (0, 0))] : List (Nat × Obj)))) ?_
          refine kS 1 0 [(7, sv1)] [9, 10, 0, 1, 2, 8, 12] ?_
          refine opsT_end ?_
          refine post_block ?_
          refine post_then ?_
          refine tri_region (todo := [0, 1, 2]) rfl ?_
          refine kO 3 32 [(12, ii ((q : Int) + 1))] [7, 9, 10, 0, 1, 2, 8] [I64 ((q : Int) + 1)] (ap1 (by first | omega | (have := hpk (by omega); omega) | (have := hpk2 (by omega); omega) | (have := hpk3 (by omega); omega) | assumption)) ?_
          refine opsT_end ?_
          refine post_round ((q + 1), sv1, hv1) ⟨by omega, by rw [show 10 * i + (3 + (q + 1)) = 10 * i + (3 + q) + 1 by omega, carL_succ, List.map_append, car_quad v ord pm (by omega) (by omega)]; rw [show (10 * ord i + 4 + ((tyN (pm i 0).toNat (pm i q).toNat : Nat) : Int)).toNat = 10 * (ord i).toNat + 4 + tyN (pm i 0).toNat (pm i q).toNat by omega] at hV1; exact hV1⟩ (by show 7 - (q + 1) < 7 - q; omega) (look_pickL (ks := [9, 10, 0, 1, 2, 8, 12, 7]) (by kernel_rfl)) (.cons _ (List.Sublist.refl _))
      · refine tri_exit ?_
        refine post_then_exit ?_
        refine post_round_exit ?_
        refine post_block_hit ?_
        refine post_block ?_
        refine post_then ?_
        refine tri_region (todo := [0, 1, 2]) rfl ?_
        refine kO 3 32 [(8, ii ((i : Int) + 1))] [0, 1, 2, 7] [I64 ((i : Int) + 1)] (ap1 (by first | omega | (have := hpk (by omega); omega) | (have := hpk2 (by omega); omega) | (have := hpk3 (by omega); omega) | assumption)) ?_
        refine opsT_end ?_
        refine post_round ((i + 1), sB, hw2) ⟨by omega, by rw [show 10 * (i + 1) = 10 * i + (3 + q) by omega]; exact hC2.2⟩ (by show n - (i + 1) < n - i; omega) (look_pickL (ks := [0, 1, 2, 8, 7]) (by kernel_rfl)) (.cons _ (List.Sublist.refl _))
  · refine tri_exit ?_
    refine post_then_exit ?_
    refine post_round_exit ?_
    refine post_block_hit ?_
    refine post_then ?_
    refine wr [0, 1] rfl ?_
    refine kSe 2 0 [(6, sv)] [] ?_
    refine tri_ret ?_
    refine post_ret1 (v := sv) rfl (.tmp rfl) (fun W hR => ?_)
    have hin : i = n := by omega
    subst hin
    exact ⟨(sv, hw), hC0.2, rfl, hR.forget (List.Sublist.refl _)⟩
end Go.Proofs.YtlkbokbcfajhjaaGreat
