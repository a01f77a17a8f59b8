/- G15: the Euler characteristic -/
import Derived.Test.YtlkbokbcfajhjaaGreatG14
import Derived.Test.YtlkbokbcfajhjaaGreatMA
import Derived.Test.YtlkbokbcfajhjaaGreatB17
import Derived.Test.YtlkbokbcfajhjaaGreatD1
namespace Go.Proofs.YtlkbokbcfajhjaaGreat
open Go.Proofs.Walk
set_option maxRecDepth 100000
set_option linter.unusedVariables false
set_option linter.unusedSimpArgs false

theorem en51 : Walk.Enters Tryz.prog 51 := Walk.enters Tryz.func51 (by kernel_rfl) rfl
theorem sumL_getD (l : List Int) : sumTo l.length (fun i => l.getD i 0) = sumL l := by
  induction l with
  | nil => rfl
  | cons x l ih =>
    have : ∀ k, sumTo (k + 1) (fun i => (x :: l).getD i 0) = x + sumTo k (fun i => l.getD i 0) := by
      intro k
      induction k with
      | zero => simp [sumTo, sumL, List.range_succ]
      | succ k ihk => rw [sumTo_succ, ihk, sumTo_succ]; simp only [List.getD_cons_succ]; omega
    rw [List.length_cons, this, ih]; rfl
theorem sumTo_bound {F : Nat → Int} {B : Int} {N : Nat} (hB : 0 ≤ B) (h : ∀ i, i < N → 0 ≤ F i ∧ F i ≤ B) : ∀ k, k ≤ N → 0 ≤ sumTo k F ∧ sumTo k F ≤ B * k
  | 0, _ => by simp [sumTo, sumL]
  | k + 1, hk => by
    have ih := sumTo_bound hB h k (by omega)
    have := h k (by omega)
    rw [sumTo_succ]
    have e : B * ((k + 1 : Nat) : Int) = B * k + B := by rw [Int.natCast_add, Int.mul_add]; simp
    omega
theorem wtP_bound {v : Nat → Int} {n t e : Nat} (hv : InR n v) (ht : 10 * t + 10 ≤ n) (he : e < 6) : 0 ≤ wtP v t e ∧ wtP v t e ≤ 9000000 := by
  have := wtS_bound hv ht he 3 (by omega)
  rw [wtS_three] at this
  omega
theorem wts_bound {n : Nat} {c : Nat → Nat → Int} {v : Nat → Int} (hv : InR (10 * n) v) (i : Nat) : 0 ≤ (wtsTo n c v (6 * n)).getD i 0 ∧ (wtsTo n c v (6 * n)).getD i 0 ≤ 9000000 := by
  rcases Nat.lt_or_ge i (wtsTo n c v (6 * n)).length with h | h
  · have hm := getD_mem' (d := (0 : Int)) h
    unfold wtsTo at hm
    obtain ⟨x, hx, e⟩ := List.mem_map.1 hm
    have hx := List.mem_range.1 (List.mem_filter.1 hx).1
    unfold wtsTo
    rw [← e]
    exact wtP_bound hv (by omega) (by omega)
  · rw [List.getD, List.getElem?_eq_none h]; simp
theorem wts_pos {n : Nat} (c : Nat → Nat → Int) (v : Nat → Int) (hn : 0 < n) : 0 < (wtsTo n c v (6 * n)).length := by
  unfold wtsTo
  rw [List.length_map]
  have h0 : edgeR n c 0 = 0 := Nat.le_zero.1 ((cls_of (joinsTo n c (eqns n c).length)).le 0)
  have : 0 ∈ (List.range (6 * n)).filter fun x => edgeR n c x = x := List.mem_filter.2 ⟨List.mem_range.2 (by omega), by simpa using h0⟩
  exact List.length_pos_of_mem this
theorem arcP_bound {v : Nat → Int} {n t f i : Nat} (hv : InR n v) (ht : 10 * t + 10 ≤ n) (hi : i < 4) : 0 ≤ arcP v t f i ∧ arcP v t f i ≤ 4000000 := by
  have h3 := tyN_lt i f
  have e1 := hv (10 * t + i) (by omega); have e2 := hv (10 * t + 4 + tyN i f) (by omega); have e3 := hv (10 * t + 7 + (tyN i f + 1) % 3) (by omega); have e4 := hv (10 * t + 7 + (tyN i f + 2) % 3) (by omega)
  unfold arcP; omega
/-- The arcs of a face around the vertices below i. -/
def faceTo (v : Nat → Int) (t f : Nat) : Nat → Int
  | 0 => 0
  | i + 1 => faceTo v t f i + if i = f then 0 else arcP v t f i
theorem faceTo_four (v : Nat → Int) (t f : Nat) : faceTo v t f 4 = faceA v t f := by simp [faceTo, faceA]
theorem faceTo_bound {v : Nat → Int} {n t f : Nat} (hv : InR n v) (ht : 10 * t + 10 ≤ n) : ∀ i, i ≤ 4 → 0 ≤ faceTo v t f i ∧ faceTo v t f i ≤ 4000000 * i
  | 0, _ => by simp [faceTo]
  | i + 1, h => by
    have ih := faceTo_bound hv ht i (f := f) (by omega)
    have := arcP_bound (f := f) hv ht (i := i) (by omega)
    unfold faceTo; split <;> omega
/-- The arcs of the first x faces. -/
def facesTo (c : Nat → Nat → Int) (v : Nat → Int) (x : Nat) : Int := sumTo x fun x => if SkipE c (x / 4) (x % 4) then 0 else faceA v (x / 4) (x % 4)
theorem facesTo_bound {c : Nat → Nat → Int} {v : Nat → Int} {n : Nat} (hv : InR (10 * n) v) {x : Nat} (hx : x ≤ 4 * n) : 0 ≤ facesTo c v x ∧ facesTo c v x ≤ 16000000 * x :=
  sumTo_bound (N := 4 * n) (by omega) (fun i hi => by
    split
    · omega
    · have := faceTo_bound hv (t := i / 4) (f := i % 4) (by omega) 4 (by omega)
      rw [faceTo_four] at this; omega) x hx
theorem facesTo_step {c : Nat → Nat → Int} {v : Nat → Int} {t f : Nat} (hf : f < 4) : facesTo c v (4 * t + f + 1) = facesTo c v (4 * t + f) + if SkipE c t f then 0 else faceTo v t f 4 := by
  unfold facesTo
  rw [sumTo_succ, show (4 * t + f) / 4 = t by omega, show (4 * t + f) % 4 = f by omega, faceTo_four]

theorem euler_ {b off n cap bv ov nv cv : Nat} {c : Nat → Nat → Int} {v : Nat → Int} {w : World} (hc : At w b off n c) (hv : AtV w bv ov nv v) (hg : GlueOK n c) (hn : n ≤ 60) (hn0 : 0 < n) (hnv : nv = 10 * n) (hin : InR nv v) : Calls Tryz.prog 51 #[.agg #[sl b off n cap], sl bv ov nv cv] w fun e w' => e = .returned (.int .i64 (eulP n c v)) ∧ Ext w w' := by
  have hin10 : InR (10 * n) v := hnv ▸ hin
  have hS1 := sumTo_bound (F := fun i => (wtsTo n c v (6 * n)).getD i 0) (N := (wtsTo n c v (6 * n)).length) (B := 9000000) (by omega) (fun i _ => wts_bound hin10 i) (wtsTo n c v (6 * n)).length (by omega)
  refine calls_of (n := 90) Tryz.func51 rfl Tryz.ntmps51 rfl ?_
  refine tri_eq (l' := [(0, .agg #[sl b off n cap]), (1, sl bv ov nv cv)]) (hs' := []) rfl rfl ?_
  refine wr [0, 1] rfl ?_
  refine kB (.agg #[sl b off n cap]) fun b1 => ?_
  refine kSn 1 0 [] [2, 1] [0] ?_
  refine kSe 1 0 [(5, ii 0)] [2, 1] ?_
  refine tri_seq ?_
  refine wr [0, 1, 2, 3, 4] rfl ?_
  refine kL 0 (.agg #[sl b off n cap]) ?_
  refine kS 1 0 [(16, sl bv ov nv cv)] [15, 5, 2, 1] ?_
  refine opsT_callR (f := 50) (args := #[.agg #[sl b off n cap], sl bv ov nv cv]) [] [(b1, .cells #[sl b off n cap] 24 (0, 0))] (fun p : Value × List (Nat × Obj) => p.1) (fun p => p.2) (fun p => Vec 3 1 ((wtsTo n c v (6 * n)).map (Value.int .i64)) (wtsTo n c v (6 * n)).length p.1 p.2) rfl rfl rfl rfl rfl (run_call en50 rfl rfl rfl (by kernel_rfl)) (List.Perm.refl _) (fun W hR => weights_ (hc.rep hR (by simp)) (hv.rep hR (by simp)) hg hn hn0 hnv hin) ?_
  rintro ⟨sv, hvs⟩ hV
  dsimp only at hV
  obtain ⟨bw, capw, spw, rfl, _, _, rfl⟩ := hV.pos (wts_pos c v hn0)
  refine opsT_leq (l' := [(17, sl bw 0 ((wtsTo n c v (6 * n)).length) capw), (16, sl bv ov nv cv), (15, .agg #[sl b off n cap]), (5, ii 0), (2, pt b1 0), (1, sl bv ov nv cv)]) rfl ?_
  refine opsT_heq (hs' := [(bw, roomB (wtsTo n c v (6 * n)) spw 3), (b1, .cells #[sl b off n cap] 24 (0, 0))]) rfl ?_
  refine kSe 2 0 [(19, ii 0), (18, ii (((wtsTo n c v (6 * n)).length : Nat) : Int))] [17, 5, 2, 1] ?_
  refine tri_block ?_
  refine tri_eq (l' := [(19, ii 0), (18, ii (((wtsTo n c v (6 * n)).length : Nat) : Int)), (17, sl bw 0 ((wtsTo n c v (6 * n)).length) capw), (5, ii (sumTo 0 (fun i => (wtsTo n c v (6 * n)).getD i 0))), (2, pt b1 0), (1, sl bv ov nv cv)]) (hs' := [(bw, roomB (wtsTo n c v (6 * n)) spw 3), (b1, .cells #[sl b off n cap] 24 (0, 0))]) rfl rfl ?_
  refine tri_loop (β := Nat) (fun xz => [(18, ii (((wtsTo n c v (6 * n)).length : Nat) : Int)), (17, sl bw 0 ((wtsTo n c v (6 * n)).length) capw), (2, pt b1 0), (1, sl bv ov nv cv), (19, ii (xz : Int)), (5, ii (sumTo xz (fun i => (wtsTo n c v (6 * n)).getD i 0)))]) (fun xz => [(bw, roomB (wtsTo n c v (6 * n)) spw 3), (b1, .cells #[sl b off n cap] 24 (0, 0))]) (fun xz => xz ≤ (wtsTo n c v (6 * n)).length) (fun xz => (wtsTo n c v (6 * n)).length - xz) 0 (look_pickL (ks := [18, 17, 2, 1, 19, 5]) (by kernel_rfl)) (List.Sublist.refl _) (Nat.zero_le _) ?_
  rintro k hC0
  try dsimp only at hC0
  refine tri_eq (l' := [(18, ii (((wtsTo n c v (6 * n)).length : Nat) : Int)), (17, sl bw 0 ((wtsTo n c v (6 * n)).length) capw), (2, pt b1 0), (1, sl bv ov nv cv), (19, ii (k : Int)), (5, ii (sumTo k (fun i => (wtsTo n c v (6 * n)).getD i 0)))]) (hs' := [(bw, roomB (wtsTo n c v (6 * n)) spw 3), (b1, .cells #[sl b off n cap] 24 (0, 0))]) rfl rfl ?_
  refine wr [0] rfl ?_
  refine kSe 1 5 [(20, .bool (decide ((k : Int) < (((wtsTo n c v (6 * n)).length : Nat) : Int))))] [18, 17, 2, 1, 19, 5] ?_
  refine tri_seq ?_
  refine tri_cond_dec (p := (k : Int) < (((wtsTo n c v (6 * n)).length : Nat) : Int)) rfl (fun h1 => ?_) (fun h1 => ?_)
  · refine tri_skip ?_
    refine post_then ?_
    refine tri_seq ?_
    refine tri_block ?_
    refine wr [0, 1, 2] rfl ?_
    refine kO 1 9 [(21, pt bw (0 + k))] [18, 17, 2, 1, 19, 5] [(0 : Int) ≤ (k : Int), (k : Int) < (((wtsTo n c v (6 * n)).length : Nat) : Int)] (by refine ap ?_ (ap1 ?_) <;> (first | omega | ((try simp only [Nat.zero_add]); have z1 := wtsTo_len n c v (6 * n); have z2 := wts_bound (c := c) hin10 k; have z3 := sumTo_bound (F := fun i => (wtsTo n c v (6 * n)).getD i 0) (N := (wtsTo n c v (6 * n)).length) (B := 9000000) (by omega) (fun i _ => wts_bound hin10 i) k (by omega); omega) | (have z1 := wtsTo_len n c v (6 * n); have z3 := hS1; have z4 := sumTo_bound (N := nv) (B := 1000000) (by omega) hin x (by omega); have z5 := hin x (by omega); omega) | (have z1 := wtsTo_len n c v (6 * n); have z3 := hS1; have z4 := sumTo_bound (N := nv) (B := 1000000) (by omega) hin nv (by omega); have z5 := facesTo_bound (c := c) hin10 (x := 4 * t + f) (by omega); have z6 := faceTo_bound hin (t := t) (f := f) (by omega) i (by omega); have z7 := arcP_bound (f := f) hin (t := t) (i := i) (by omega) (by omega); omega))) ?_
    refine opsT_loadRoom 0 bw (0 + k) (wtsTo n c v (6 * n)) spw 3 rfl rfl rfl rfl rfl rfl rfl rfl (by simp <;> omega) (fun _ => rfl) ?_
    refine kSe 1 0 [(7, ii ((wtsTo n c v (6 * n)).getD (0 + k) 0))] [18, 17, 2, 1, 19, 5] ?_
    refine tri_region (todo := [0, 1, 2, 3]) rfl ?_
    refine kO 4 512 [(5, ii ((sumTo k (fun i => (wtsTo n c v (6 * n)).getD i 0)) + ((wtsTo n c v (6 * n)).getD (0 + k) 0)))] [18, 17, 2, 1, 19] [I64 ((sumTo k (fun i => (wtsTo n c v (6 * n)).getD i 0)) + ((wtsTo n c v (6 * n)).getD (0 + k) 0))] (ap1 (by first | omega | ((try simp only [Nat.zero_add]); have z1 := wtsTo_len n c v (6 * n); have z2 := wts_bound (c := c) hin10 k; have z3 := sumTo_bound (F := fun i => (wtsTo n c v (6 * n)).getD i 0) (N := (wtsTo n c v (6 * n)).length) (B := 9000000) (by omega) (fun i _ => wts_bound hin10 i) k (by omega); omega) | (have z1 := wtsTo_len n c v (6 * n); have z3 := hS1; have z4 := sumTo_bound (N := nv) (B := 1000000) (by omega) hin x (by omega); have z5 := hin x (by omega); omega) | (have z1 := wtsTo_len n c v (6 * n); have z3 := hS1; have z4 := sumTo_bound (N := nv) (B := 1000000) (by omega) hin nv (by omega); have z5 := facesTo_bound (c := c) hin10 (x := 4 * t + f) (by omega); have z6 := faceTo_bound hin (t := t) (f := f) (by omega) i (by omega); have z7 := arcP_bound (f := f) hin (t := t) (i := i) (by omega) (by omega); omega))) ?_
    refine opsT_end ?_
    refine post_block ?_
    refine post_then ?_
    refine tri_region (todo := [0, 1]) rfl ?_
    refine kO 2 2 [(19, ii ((k : Int) + 1))] [5, 18, 17, 2, 1] [I64 ((k : Int) + 1)] (ap1 (by first | omega | ((try simp only [Nat.zero_add]); have z1 := wtsTo_len n c v (6 * n); have z2 := wts_bound (c := c) hin10 k; have z3 := sumTo_bound (F := fun i => (wtsTo n c v (6 * n)).getD i 0) (N := (wtsTo n c v (6 * n)).length) (B := 9000000) (by omega) (fun i _ => wts_bound hin10 i) k (by omega); omega) | (have z1 := wtsTo_len n c v (6 * n); have z3 := hS1; have z4 := sumTo_bound (N := nv) (B := 1000000) (by omega) hin x (by omega); have z5 := hin x (by omega); omega) | (have z1 := wtsTo_len n c v (6 * n); have z3 := hS1; have z4 := sumTo_bound (N := nv) (B := 1000000) (by omega) hin nv (by omega); have z5 := facesTo_bound (c := c) hin10 (x := 4 * t + f) (by omega); have z6 := faceTo_bound hin (t := t) (f := f) (by omega) i (by omega); have z7 := arcP_bound (f := f) hin (t := t) (i := i) (by omega) (by omega); omega))) ?_
    refine opsT_end ?_
    refine post_leq (l' := [(19, ii ((k : Int) + 1)), (5, ii (sumTo (k + 1) (fun i => (wtsTo n c v (6 * n)).getD i 0))), (18, ii (((wtsTo n c v (6 * n)).length : Nat) : Int)), (17, sl bw 0 ((wtsTo n c v (6 * n)).length) capw), (2, pt b1 0), (1, sl bv ov nv cv)]) (by rw [show (sumTo (k + 1) (fun i => (wtsTo n c v (6 * n)).getD i 0) : Int) = (sumTo k (fun i => (wtsTo n c v (6 * n)).getD i 0)) + ((wtsTo n c v (6 * n)).getD (0 + k) 0) by rw [sumTo_succ, Nat.zero_add]]) ?_
    refine post_round (k + 1) (by omega) (by show (wtsTo n c v (6 * n)).length - (k + 1) < (wtsTo n c v (6 * n)).length - k; omega) (look_pickL (ks := [18, 17, 2, 1, 19, 5]) (by kernel_rfl)) (List.Sublist.refl _)
  · refine tri_exit ?_
    refine post_then_exit ?_
    refine post_round_exit ?_
    refine post_block_hit ?_
    refine post_then ?_
    refine tri_seq ?_
    refine wr [0, 1, 2] rfl ?_
    refine kSe 3 0 [(29, ii 0), (28, ii ((nv : Nat) : Int)), (27, sl bv ov nv cv)] [2, 1, 5] ?_
    refine tri_block ?_
    refine tri_eq (l' := [(29, ii 0), (28, ii ((nv : Nat) : Int)), (27, sl bv ov nv cv), (2, pt b1 0), (1, sl bv ov nv cv), (5, ii ((sumTo (wtsTo n c v (6 * n)).length (fun i => (wtsTo n c v (6 * n)).getD i 0)) + sumTo 0 v))]) (hs' := [(bw, roomB (wtsTo n c v (6 * n)) spw 3), (b1, .cells #[sl b off n cap] 24 (0, 0))]) (by rw [show k = (wtsTo n c v (6 * n)).length by omega, sumTo_zero, Int.add_zero]) rfl ?_
    refine tri_loop (β := Nat) (fun xz => [(28, ii ((nv : Nat) : Int)), (27, sl bv ov nv cv), (2, pt b1 0), (1, sl bv ov nv cv), (29, ii (xz : Int)), (5, ii ((sumTo (wtsTo n c v (6 * n)).length (fun i => (wtsTo n c v (6 * n)).getD i 0)) + sumTo xz v))]) (fun xz => [(bw, roomB (wtsTo n c v (6 * n)) spw 3), (b1, .cells #[sl b off n cap] 24 (0, 0))]) (fun xz => xz ≤ nv) (fun xz => nv - xz) 0 (look_pickL (ks := [28, 27, 2, 1, 29, 5]) (by kernel_rfl)) (List.Sublist.refl _) (Nat.zero_le _) ?_
    rintro x hC1
    try dsimp only at hC1
    refine tri_eq (l' := [(28, ii ((nv : Nat) : Int)), (27, sl bv ov nv cv), (2, pt b1 0), (1, sl bv ov nv cv), (29, ii (x : Int)), (5, ii ((sumTo (wtsTo n c v (6 * n)).length (fun i => (wtsTo n c v (6 * n)).getD i 0)) + sumTo x v))]) (hs' := [(bw, roomB (wtsTo n c v (6 * n)) spw 3), (b1, .cells #[sl b off n cap] 24 (0, 0))]) rfl rfl ?_
    refine wr [0] rfl ?_
    refine kSe 1 5 [(30, .bool (decide ((x : Int) < ((nv : Nat) : Int))))] [28, 27, 2, 1, 29, 5] ?_
    refine tri_seq ?_
    refine tri_cond_dec (p := (x : Int) < ((nv : Nat) : Int)) rfl (fun h2 => ?_) (fun h2 => ?_)
    · refine tri_skip ?_
      refine post_then ?_
      refine tri_seq ?_
      refine tri_block ?_
      refine wr [0, 1, 2] rfl ?_
      refine kO 1 9 [(31, pt bv (ov + x))] [28, 27, 2, 1, 29, 5] [(0 : Int) ≤ (x : Int), (x : Int) < ((nv : Nat) : Int)] (by refine ap ?_ (ap1 ?_) <;> (first | omega | ((try simp only [Nat.zero_add]); have z1 := wtsTo_len n c v (6 * n); have z2 := wts_bound (c := c) hin10 k; have z3 := sumTo_bound (F := fun i => (wtsTo n c v (6 * n)).getD i 0) (N := (wtsTo n c v (6 * n)).length) (B := 9000000) (by omega) (fun i _ => wts_bound hin10 i) k (by omega); omega) | (have z1 := wtsTo_len n c v (6 * n); have z3 := hS1; have z4 := sumTo_bound (N := nv) (B := 1000000) (by omega) hin x (by omega); have z5 := hin x (by omega); omega) | (have z1 := wtsTo_len n c v (6 * n); have z3 := hS1; have z4 := sumTo_bound (N := nv) (B := 1000000) (by omega) hin nv (by omega); have z5 := facesTo_bound (c := c) hin10 (x := 4 * t + f) (by omega); have z6 := faceTo_bound hin (t := t) (f := f) (by omega) i (by omega); have z7 := arcP_bound (f := f) hin (t := t) (i := i) (by omega) (by omega); omega))) ?_
      refine kM bv (ov + x) [ii (v x)] (ii (v x)) (hv.one (by omega)) ?_
      refine kSe 1 0 [(9, ii (v x))] [28, 27, 2, 1, 29, 5] ?_
      refine tri_region (todo := [0, 1, 2, 3]) rfl ?_
      refine kO 4 512 [(5, ii (((sumTo (wtsTo n c v (6 * n)).length (fun i => (wtsTo n c v (6 * n)).getD i 0)) + sumTo x v) + (v x)))] [28, 27, 2, 1, 29] [I64 (((sumTo (wtsTo n c v (6 * n)).length (fun i => (wtsTo n c v (6 * n)).getD i 0)) + sumTo x v) + (v x))] (ap1 (by first | omega | ((try simp only [Nat.zero_add]); have z1 := wtsTo_len n c v (6 * n); have z2 := wts_bound (c := c) hin10 k; have z3 := sumTo_bound (F := fun i => (wtsTo n c v (6 * n)).getD i 0) (N := (wtsTo n c v (6 * n)).length) (B := 9000000) (by omega) (fun i _ => wts_bound hin10 i) k (by omega); omega) | (have z1 := wtsTo_len n c v (6 * n); have z3 := hS1; have z4 := sumTo_bound (N := nv) (B := 1000000) (by omega) hin x (by omega); have z5 := hin x (by omega); omega) | (have z1 := wtsTo_len n c v (6 * n); have z3 := hS1; have z4 := sumTo_bound (N := nv) (B := 1000000) (by omega) hin nv (by omega); have z5 := facesTo_bound (c := c) hin10 (x := 4 * t + f) (by omega); have z6 := faceTo_bound hin (t := t) (f := f) (by omega) i (by omega); have z7 := arcP_bound (f := f) hin (t := t) (i := i) (by omega) (by omega); omega))) ?_
      refine opsT_end ?_
      refine post_block ?_
      refine post_then ?_
      refine tri_region (todo := [0, 1]) rfl ?_
      refine kO 2 2 [(29, ii ((x : Int) + 1))] [5, 28, 27, 2, 1] [I64 ((x : Int) + 1)] (ap1 (by first | omega | ((try simp only [Nat.zero_add]); have z1 := wtsTo_len n c v (6 * n); have z2 := wts_bound (c := c) hin10 k; have z3 := sumTo_bound (F := fun i => (wtsTo n c v (6 * n)).getD i 0) (N := (wtsTo n c v (6 * n)).length) (B := 9000000) (by omega) (fun i _ => wts_bound hin10 i) k (by omega); omega) | (have z1 := wtsTo_len n c v (6 * n); have z3 := hS1; have z4 := sumTo_bound (N := nv) (B := 1000000) (by omega) hin x (by omega); have z5 := hin x (by omega); omega) | (have z1 := wtsTo_len n c v (6 * n); have z3 := hS1; have z4 := sumTo_bound (N := nv) (B := 1000000) (by omega) hin nv (by omega); have z5 := facesTo_bound (c := c) hin10 (x := 4 * t + f) (by omega); have z6 := faceTo_bound hin (t := t) (f := f) (by omega) i (by omega); have z7 := arcP_bound (f := f) hin (t := t) (i := i) (by omega) (by omega); omega))) ?_
      refine opsT_end ?_
      refine post_leq (l' := [(29, ii ((x : Int) + 1)), (5, ii ((sumTo (wtsTo n c v (6 * n)).length (fun i => (wtsTo n c v (6 * n)).getD i 0)) + sumTo (x + 1) v)), (28, ii ((nv : Nat) : Int)), (27, sl bv ov nv cv), (2, pt b1 0), (1, sl bv ov nv cv)]) (by rw [show ((sumTo (wtsTo n c v (6 * n)).length (fun i => (wtsTo n c v (6 * n)).getD i 0)) + sumTo (x + 1) v : Int) = ((sumTo (wtsTo n c v (6 * n)).length (fun i => (wtsTo n c v (6 * n)).getD i 0)) + sumTo x v) + (v x) by rw [sumTo_succ, Int.add_assoc]]) ?_
      refine post_round (x + 1) (by omega) (by show nv - (x + 1) < nv - x; omega) (look_pickL (ks := [28, 27, 2, 1, 29, 5]) (by kernel_rfl)) (List.Sublist.refl _)
    · refine tri_exit ?_
      refine post_then_exit ?_
      refine post_round_exit ?_
      refine post_block_hit ?_
      refine post_then ?_
      refine tri_seq ?_
      refine wr [0, 1, 2, 3] rfl ?_
      refine kS 1 0 [(37, pt b1 0)] [1, 5] ?_
      refine kL 1 (sl b off n cap) ?_
      refine kSe 2 0 [(40, ii 0), (39, ii ((n : Nat) : Int))] [38, 1, 5] ?_
      refine tri_block ?_
      refine tri_eq (l' := [(40, ii 0), (39, ii ((n : Nat) : Int)), (38, sl b off n cap), (1, sl bv ov nv cv), (5, ii (((sumTo (wtsTo n c v (6 * n)).length (fun i => (wtsTo n c v (6 * n)).getD i 0)) + sumTo nv v) - facesTo c v (4 * 0)))]) (hs' := [(bw, roomB (wtsTo n c v (6 * n)) spw 3), (b1, .cells #[sl b off n cap] 24 (0, 0))]) (by rw [show x = nv by omega]; simp [facesTo, sumTo_zero]) rfl ?_
      refine tri_loop (β := Nat) (fun xz => [(39, ii ((n : Nat) : Int)), (38, sl b off n cap), (1, sl bv ov nv cv), (40, ii (xz : Int)), (5, ii (((sumTo (wtsTo n c v (6 * n)).length (fun i => (wtsTo n c v (6 * n)).getD i 0)) + sumTo nv v) - facesTo c v (4 * xz)))]) (fun xz => [(bw, roomB (wtsTo n c v (6 * n)) spw 3), (b1, .cells #[sl b off n cap] 24 (0, 0))]) (fun xz => xz ≤ n) (fun xz => n - xz) 0 (look_pickL (ks := [39, 38, 1, 40, 5]) (by kernel_rfl)) (List.Sublist.refl _) (Nat.zero_le _) ?_
      rintro t hC2
      try dsimp only at hC2
      refine tri_eq (l' := [(39, ii ((n : Nat) : Int)), (38, sl b off n cap), (1, sl bv ov nv cv), (40, ii (t : Int)), (5, ii (((sumTo (wtsTo n c v (6 * n)).length (fun i => (wtsTo n c v (6 * n)).getD i 0)) + sumTo nv v) - facesTo c v (4 * t)))]) (hs' := [(bw, roomB (wtsTo n c v (6 * n)) spw 3), (b1, .cells #[sl b off n cap] 24 (0, 0))]) rfl rfl ?_
      refine wr [0] rfl ?_
      refine kSe 1 5 [(41, .bool (decide ((t : Int) < ((n : Nat) : Int))))] [39, 38, 1, 40, 5] ?_
      refine tri_seq ?_
      refine tri_cond_dec (p := (t : Int) < ((n : Nat) : Int)) rfl (fun h3 => ?_) (fun h3 => ?_)
      · refine tri_skip ?_
        refine post_then ?_
        refine tri_seq ?_
        refine tri_block ?_
        refine wr [0, 1, 2, 3, 4, 5] rfl ?_
        refine kO 2 144 [(43, pt b (off + t * 20)), (42, ii (t : Int))] [39, 38, 1, 40, 5] [(0 : Int) ≤ (t : Int), (t : Int) < ((n : Nat) : Int)] (by refine ap ?_ (ap1 ?_) <;> (first | omega | ((try simp only [Nat.zero_add]); have z1 := wtsTo_len n c v (6 * n); have z2 := wts_bound (c := c) hin10 k; have z3 := sumTo_bound (F := fun i => (wtsTo n c v (6 * n)).getD i 0) (N := (wtsTo n c v (6 * n)).length) (B := 9000000) (by omega) (fun i _ => wts_bound hin10 i) k (by omega); omega) | (have z1 := wtsTo_len n c v (6 * n); have z3 := hS1; have z4 := sumTo_bound (N := nv) (B := 1000000) (by omega) hin x (by omega); have z5 := hin x (by omega); omega) | (have z1 := wtsTo_len n c v (6 * n); have z3 := hS1; have z4 := sumTo_bound (N := nv) (B := 1000000) (by omega) hin nv (by omega); have z5 := facesTo_bound (c := c) hin10 (x := 4 * t + f) (by omega); have z6 := faceTo_bound hin (t := t) (f := f) (by omega) i (by omega); have z7 := arcP_bound (f := f) hin (t := t) (i := i) (by omega) (by omega); omega))) ?_
        refine kM b (off + t * 20) [ii (c t 0), ii (c t 1), ii (c t 2), ii (c t 3), ii (c t 4), ii (c t 5), ii (c t 6), ii (c t 7), ii (c t 8), ii (c t 9), ii (c t 10), ii (c t 11), ii (c t 12), ii (c t 13), ii (c t 14), ii (c t 15), ii (c t 16), ii (c t 17), ii (c t 18), ii (c t 19)] (.agg #[ii (c t 0), ii (c t 1), ii (c t 2), ii (c t 3), ii (c t 4), ii (c t 5), ii (c t 6), ii (c t 7), ii (c t 8), ii (c t 9), ii (c t 10), ii (c t 11), ii (c t 12), ii (c t 13), ii (c t 14), ii (c t 15), ii (c t 16), ii (c t 17), ii (c t 18), ii (c t 19)]) (At.row hc (by omega)) ?_
        refine kA (.agg #[ii 0, ii 0, ii 0, ii 0, ii 0, ii 0, ii 0, ii 0, ii 0, ii 0, ii 0, ii 0, ii 0, ii 0, ii 0, ii 0, ii 0, ii 0, ii 0, ii 0]) fun b2 => ?_
        refine kS 1 0 [(10, ii (t : Int))] [11, 44, 39, 38, 1, 40, 5] ?_
        refine kW 0 #[ii (c t 0), ii (c t 1), ii (c t 2), ii (c t 3), ii (c t 4), ii (c t 5), ii (c t 6), ii (c t 7), ii (c t 8), ii (c t 9), ii (c t 10), ii (c t 11), ii (c t 12), ii (c t 13), ii (c t 14), ii (c t 15), ii (c t 16), ii (c t 17), ii (c t 18), ii (c t 19)] ?_
        refine kP [10, 11, 39, 38, 1, 40, 5] ?_
        refine wn [0, 1] rfl ?_
        refine kL 0 (.agg #[ii (c t 0), ii (c t 1), ii (c t 2), ii (c t 3), ii (c t 4), ii (c t 5), ii (c t 6), ii (c t 7), ii (c t 8), ii (c t 9), ii (c t 10), ii (c t 11), ii (c t 12), ii (c t 13), ii (c t 14), ii (c t 15), ii (c t 16), ii (c t 17), ii (c t 18), ii (c t 19)]) ?_
        refine kSe 1 0 [(46, ii 0)] [45, 10, 39, 38, 1, 40, 5] ?_
        refine tri_block ?_
        refine tri_eq (l' := [(46, ii 0), (45, .agg #[ii (c t 0), ii (c t 1), ii (c t 2), ii (c t 3), ii (c t 4), ii (c t 5), ii (c t 6), ii (c t 7), ii (c t 8), ii (c t 9), ii (c t 10), ii (c t 11), ii (c t 12), ii (c t 13), ii (c t 14), ii (c t 15), ii (c t 16), ii (c t 17), ii (c t 18), ii (c t 19)]), (10, ii (t : Int)), (39, ii ((n : Nat) : Int)), (38, sl b off n cap), (1, sl bv ov nv cv), (40, ii (t : Int)), (5, ii (((sumTo (wtsTo n c v (6 * n)).length (fun i => (wtsTo n c v (6 * n)).getD i 0)) + sumTo nv v) - facesTo c v (4 * t + 0)))]) (hs' := [(b2, .cells #[ii (c t 0), ii (c t 1), ii (c t 2), ii (c t 3), ii (c t 4), ii (c t 5), ii (c t 6), ii (c t 7), ii (c t 8), ii (c t 9), ii (c t 10), ii (c t 11), ii (c t 12), ii (c t 13), ii (c t 14), ii (c t 15), ii (c t 16), ii (c t 17), ii (c t 18), ii (c t 19)] 76 (0, 0)), (bw, roomB (wtsTo n c v (6 * n)) spw 3), (b1, .cells #[sl b off n cap] 24 (0, 0))]) rfl rfl ?_
        refine tri_loop (β := Nat) (fun xz => [(45, .agg #[ii (c t 0), ii (c t 1), ii (c t 2), ii (c t 3), ii (c t 4), ii (c t 5), ii (c t 6), ii (c t 7), ii (c t 8), ii (c t 9), ii (c t 10), ii (c t 11), ii (c t 12), ii (c t 13), ii (c t 14), ii (c t 15), ii (c t 16), ii (c t 17), ii (c t 18), ii (c t 19)]), (10, ii (t : Int)), (39, ii ((n : Nat) : Int)), (38, sl b off n cap), (1, sl bv ov nv cv), (40, ii (t : Int)), (46, ii (xz : Int)), (5, ii (((sumTo (wtsTo n c v (6 * n)).length (fun i => (wtsTo n c v (6 * n)).getD i 0)) + sumTo nv v) - facesTo c v (4 * t + xz)))]) (fun xz => [(b2, .cells #[ii (c t 0), ii (c t 1), ii (c t 2), ii (c t 3), ii (c t 4), ii (c t 5), ii (c t 6), ii (c t 7), ii (c t 8), ii (c t 9), ii (c t 10), ii (c t 11), ii (c t 12), ii (c t 13), ii (c t 14), ii (c t 15), ii (c t 16), ii (c t 17), ii (c t 18), ii (c t 19)] 76 (0, 0)), (bw, roomB (wtsTo n c v (6 * n)) spw 3), (b1, .cells #[sl b off n cap] 24 (0, 0))]) (fun xz => xz ≤ 4) (fun xz => 4 - xz) 0 (look_pickL (ks := [45, 10, 39, 38, 1, 40, 46, 5]) (by kernel_rfl)) (List.Sublist.refl _) (by omega) ?_
        rintro f hC3
        try dsimp only at hC3
        refine tri_eq (l' := [(45, .agg #[ii (c t 0), ii (c t 1), ii (c t 2), ii (c t 3), ii (c t 4), ii (c t 5), ii (c t 6), ii (c t 7), ii (c t 8), ii (c t 9), ii (c t 10), ii (c t 11), ii (c t 12), ii (c t 13), ii (c t 14), ii (c t 15), ii (c t 16), ii (c t 17), ii (c t 18), ii (c t 19)]), (10, ii (t : Int)), (39, ii ((n : Nat) : Int)), (38, sl b off n cap), (1, sl bv ov nv cv), (40, ii (t : Int)), (46, ii (f : Int)), (5, ii (((sumTo (wtsTo n c v (6 * n)).length (fun i => (wtsTo n c v (6 * n)).getD i 0)) + sumTo nv v) - facesTo c v (4 * t + f)))]) (hs' := [(b2, .cells #[ii (c t 0), ii (c t 1), ii (c t 2), ii (c t 3), ii (c t 4), ii (c t 5), ii (c t 6), ii (c t 7), ii (c t 8), ii (c t 9), ii (c t 10), ii (c t 11), ii (c t 12), ii (c t 13), ii (c t 14), ii (c t 15), ii (c t 16), ii (c t 17), ii (c t 18), ii (c t 19)] 76 (0, 0)), (bw, roomB (wtsTo n c v (6 * n)) spw 3), (b1, .cells #[sl b off n cap] 24 (0, 0))]) rfl rfl ?_
        refine wr [0] rfl ?_
        refine kSe 1 5 [(47, .bool (decide ((f : Int) < 4)))] [45, 10, 39, 38, 1, 40, 46, 5] ?_
        refine tri_seq ?_
        refine tri_cond_dec (p := (f : Int) < 4) rfl (fun h4 => ?_) (fun h4 => ?_)
        · refine tri_skip ?_
          refine post_then ?_
          refine tri_seq ?_
          refine tri_block ?_
          refine wr [0, 1, 2, 3, 4] rfl ?_
          refine kO 2 176 [(49, .agg #[ii ([c t 0, c t 1, c t 2, c t 3, c t 4, c t 5, c t 6, c t 7, c t 8, c t 9, c t 10, c t 11, c t 12, c t 13, c t 14, c t 15, c t 16, c t 17, c t 18, c t 19].getD (f * 5 + 0) 0), ii ([c t 0, c t 1, c t 2, c t 3, c t 4, c t 5, c t 6, c t 7, c t 8, c t 9, c t 10, c t 11, c t 12, c t 13, c t 14, c t 15, c t 16, c t 17, c t 18, c t 19].getD (f * 5 + 1) 0), ii ([c t 0, c t 1, c t 2, c t 3, c t 4, c t 5, c t 6, c t 7, c t 8, c t 9, c t 10, c t 11, c t 12, c t 13, c t 14, c t 15, c t 16, c t 17, c t 18, c t 19].getD (f * 5 + 2) 0), ii ([c t 0, c t 1, c t 2, c t 3, c t 4, c t 5, c t 6, c t 7, c t 8, c t 9, c t 10, c t 11, c t 12, c t 13, c t 14, c t 15, c t 16, c t 17, c t 18, c t 19].getD (f * 5 + 3) 0), ii ([c t 0, c t 1, c t 2, c t 3, c t 4, c t 5, c t 6, c t 7, c t 8, c t 9, c t 10, c t 11, c t 12, c t 13, c t 14, c t 15, c t 16, c t 17, c t 18, c t 19].getD (f * 5 + 4) 0)]), (48, ii (f : Int))] [45, 10, 39, 38, 1, 40, 46, 5] [(0 : Int) ≤ (f : Int), (f : Int) < ((4 : Nat) : Int)] (by refine ap ?_ (ap1 ?_) <;> (first | omega | ((try simp only [Nat.zero_add]); have z1 := wtsTo_len n c v (6 * n); have z2 := wts_bound (c := c) hin10 k; have z3 := sumTo_bound (F := fun i => (wtsTo n c v (6 * n)).getD i 0) (N := (wtsTo n c v (6 * n)).length) (B := 9000000) (by omega) (fun i _ => wts_bound hin10 i) k (by omega); omega) | (have z1 := wtsTo_len n c v (6 * n); have z3 := hS1; have z4 := sumTo_bound (N := nv) (B := 1000000) (by omega) hin x (by omega); have z5 := hin x (by omega); omega) | (have z1 := wtsTo_len n c v (6 * n); have z3 := hS1; have z4 := sumTo_bound (N := nv) (B := 1000000) (by omega) hin nv (by omega); have z5 := facesTo_bound (c := c) hin10 (x := 4 * t + f) (by omega); have z6 := faceTo_bound hin (t := t) (f := f) (by omega) i (by omega); have z7 := arcP_bound (f := f) hin (t := t) (i := i) (by omega) (by omega); omega))) ?_
          rw [show [c t 0, c t 1, c t 2, c t 3, c t 4, c t 5, c t 6, c t 7, c t 8, c t 9, c t 10, c t 11, c t 12, c t 13, c t 14, c t 15, c t 16, c t 17, c t 18, c t 19].getD (f * 5 + 0) 0 = c t (f * 5) from row20 c t (j := 0) (by omega) (by omega)]
          rw [show [c t 0, c t 1, c t 2, c t 3, c t 4, c t 5, c t 6, c t 7, c t 8, c t 9, c t 10, c t 11, c t 12, c t 13, c t 14, c t 15, c t 16, c t 17, c t 18, c t 19].getD (f * 5 + 1) 0 = c t (f * 5 + 1) from row20 c t (j := 1) (by omega) (by omega)]
          rw [show [c t 0, c t 1, c t 2, c t 3, c t 4, c t 5, c t 6, c t 7, c t 8, c t 9, c t 10, c t 11, c t 12, c t 13, c t 14, c t 15, c t 16, c t 17, c t 18, c t 19].getD (f * 5 + 2) 0 = c t (f * 5 + 2) from row20 c t (j := 2) (by omega) (by omega)]
          rw [show [c t 0, c t 1, c t 2, c t 3, c t 4, c t 5, c t 6, c t 7, c t 8, c t 9, c t 10, c t 11, c t 12, c t 13, c t 14, c t 15, c t 16, c t 17, c t 18, c t 19].getD (f * 5 + 3) 0 = c t (f * 5 + 3) from row20 c t (j := 3) (by omega) (by omega)]
          rw [show [c t 0, c t 1, c t 2, c t 3, c t 4, c t 5, c t 6, c t 7, c t 8, c t 9, c t 10, c t 11, c t 12, c t 13, c t 14, c t 15, c t 16, c t 17, c t 18, c t 19].getD (f * 5 + 4) 0 = c t (f * 5 + 4) from row20 c t (j := 4) (by omega) (by omega)]
          refine kA (.agg #[ii 0, ii 0, ii 0, ii 0, ii 0]) fun b3 => ?_
          refine kS 1 0 [(12, ii (f : Int))] [13, 49, 45, 10, 39, 38, 1, 40, 46, 5] ?_
          refine kW 0 #[ii (c t (f * 5)), ii (c t (f * 5 + 1)), ii (c t (f * 5 + 2)), ii (c t (f * 5 + 3)), ii (c t (f * 5 + 4))] ?_
          refine kPe [12, 13, 45, 10, 39, 38, 1, 40, 46, 5] ?_
          refine tri_seq ?_
          refine tri_seq ?_
          by_cases h5 : 0 ≤ c t (f * 5)
          · by_cases h6 : c t (f * 5) < (t : Int)
            · refine tri_region (todo := [0, 1, 2, 3, 4, 5, 6, 7, 8, 9, 10, 11, 12, 13, 14, 15, 16, 17, 18, 19, 20, 21, 22]) rfl ?_
              refine kS 1 0 [(50, pt b3 0)] [12, 13, 45, 10, 39, 38, 1, 40, 46, 5] ?_
              refine kL 0 (ii (c t (f * 5))) ?_
              refine kO 3 6 [(54, pt b3 0), (53, .bool true)] [12, 13, 45, 10, 39, 38, 1, 40, 46, 5] [0 ≤ c t (f * 5)] h5 ?_
              refine kL 0 (ii (c t (f * 5))) ?_
              refine kOe 17 76861433640456288 [(72, .bool true)] [12, 45, 10, 39, 38, 1, 40, 46, 5] [c t (f * 5) < (t : Int)] h6 ?_
              refine tri_cond_true rfl ?_
              refine tri_exit ?_
              refine post_then_exit ?_
              refine post_block_hit ?_
              refine post_then ?_
              refine tri_region (todo := [0, 1]) rfl ?_
              refine kO 2 2 [(46, ii ((f : Int) + 1))] [45, 10, 39, 38, 1, 40, 5] [I64 ((f : Int) + 1)] (ap1 (by first | omega | ((try simp only [Nat.zero_add]); have z1 := wtsTo_len n c v (6 * n); have z2 := wts_bound (c := c) hin10 k; have z3 := sumTo_bound (F := fun i => (wtsTo n c v (6 * n)).getD i 0) (N := (wtsTo n c v (6 * n)).length) (B := 9000000) (by omega) (fun i _ => wts_bound hin10 i) k (by omega); omega) | (have z1 := wtsTo_len n c v (6 * n); have z3 := hS1; have z4 := sumTo_bound (N := nv) (B := 1000000) (by omega) hin x (by omega); have z5 := hin x (by omega); omega) | (have z1 := wtsTo_len n c v (6 * n); have z3 := hS1; have z4 := sumTo_bound (N := nv) (B := 1000000) (by omega) hin nv (by omega); have z5 := facesTo_bound (c := c) hin10 (x := 4 * t + f) (by omega); have z6 := faceTo_bound hin (t := t) (f := f) (by omega) i (by omega); have z7 := arcP_bound (f := f) hin (t := t) (i := i) (by omega) (by omega); omega))) ?_
              refine opsT_end ?_
              refine post_leq (l' := [(46, ii ((f : Int) + 1)), (45, .agg #[ii (c t 0), ii (c t 1), ii (c t 2), ii (c t 3), ii (c t 4), ii (c t 5), ii (c t 6), ii (c t 7), ii (c t 8), ii (c t 9), ii (c t 10), ii (c t 11), ii (c t 12), ii (c t 13), ii (c t 14), ii (c t 15), ii (c t 16), ii (c t 17), ii (c t 18), ii (c t 19)]), (10, ii (t : Int)), (39, ii ((n : Nat) : Int)), (38, sl b off n cap), (1, sl bv ov nv cv), (40, ii (t : Int)), (5, ii (((sumTo (wtsTo n c v (6 * n)).length (fun i => (wtsTo n c v (6 * n)).getD i 0)) + sumTo nv v) - facesTo c v (4 * t + (f + 1))))]) (by rw [show (((sumTo (wtsTo n c v (6 * n)).length (fun i => (wtsTo n c v (6 * n)).getD i 0)) + sumTo nv v) - facesTo c v (4 * t + (f + 1)) : Int) = ((sumTo (wtsTo n c v (6 * n)).length (fun i => (wtsTo n c v (6 * n)).getD i 0)) + sumTo nv v) - facesTo c v (4 * t + f) by rw [← Nat.add_assoc, facesTo_step (by omega), if_pos (by unfold SkipE; omega), Int.add_zero]]) ?_
              refine post_round (f + 1) (by omega) (by show 4 - (f + 1) < 4 - f; omega) (look_pickL (ks := [45, 10, 39, 38, 1, 40, 46, 5]) (by kernel_rfl)) (.cons _ (List.Sublist.refl _))
            · by_cases h7 : c t (f * 5) = (t : Int)
              · refine tri_region (todo := [0, 1, 2, 3, 4, 5, 6, 7, 8, 9, 10, 11, 12, 13, 14, 15, 16, 17, 18, 19, 20, 21, 22]) rfl ?_
                refine kS 1 0 [(50, pt b3 0)] [12, 13, 45, 10, 39, 38, 1, 40, 46, 5] ?_
                refine kL 0 (ii (c t (f * 5))) ?_
                refine kO 3 6 [(54, pt b3 0), (53, .bool true)] [12, 13, 45, 10, 39, 38, 1, 40, 46, 5] [0 ≤ c t (f * 5)] h5 ?_
                refine kL 0 (ii (c t (f * 5))) ?_
                refine kO 4 112 [(59, pt b3 0), (58, .bool false)] [53, 12, 13, 45, 10, 39, 38, 1, 40, 46, 5] [¬ (c t (f * 5) < (t : Int))] h6 ?_
                refine kL 0 (ii (c t (f * 5))) ?_
                refine kO 6 9437280 [(66, pt b3 (1 + f)), (63, .bool true)] [58, 53, 12, 45, 10, 39, 38, 1, 40, 46, 5] [c t (f * 5) = (t : Int), (0 : Int) ≤ (f : Int), (f : Int) < ((4 : Nat) : Int)] (by refine ap h7 (ap ?_ (ap1 ?_)) <;> (first | omega | ((try simp only [Nat.zero_add]); have z1 := wtsTo_len n c v (6 * n); have z2 := wts_bound (c := c) hin10 k; have z3 := sumTo_bound (F := fun i => (wtsTo n c v (6 * n)).getD i 0) (N := (wtsTo n c v (6 * n)).length) (B := 9000000) (by omega) (fun i _ => wts_bound hin10 i) k (by omega); omega) | (have z1 := wtsTo_len n c v (6 * n); have z3 := hS1; have z4 := sumTo_bound (N := nv) (B := 1000000) (by omega) hin x (by omega); have z5 := hin x (by omega); omega) | (have z1 := wtsTo_len n c v (6 * n); have z3 := hS1; have z4 := sumTo_bound (N := nv) (B := 1000000) (by omega) hin nv (by omega); have z5 := facesTo_bound (c := c) hin10 (x := 4 * t + f) (by omega); have z6 := faceTo_bound hin (t := t) (f := f) (by omega) i (by omega); have z7 := arcP_bound (f := f) hin (t := t) (i := i) (by omega) (by omega); omega))) ?_
                refine kI 0 (1 + f) 1 [c t (f * 5), c t (f * 5 + 1), c t (f * 5 + 2), c t (f * 5 + 3), c t (f * 5 + 4)] (ii ([c t (f * 5), c t (f * 5 + 1), c t (f * 5 + 2), c t (f * 5 + 3), c t (f * 5 + 4)].getD (1 + f + 0) 0)) (by simp <;> omega) ?_
                rw [show [c t (f * 5), c t (f * 5 + 1), c t (f * 5 + 2), c t (f * 5 + 3), c t (f * 5 + 4)].getD (1 + f + 0) 0 = c t (f * 5 + 1 + f) from five c t f (by omega)]
                refine kSe 5 80 [(72, .bool (decide (c t (f * 5 + 1 + f) < (f : Int))))] [12, 45, 10, 39, 38, 1, 40, 46, 5] ?_
                refine tri_cond_dec (p := c t (f * 5 + 1 + f) < (f : Int)) rfl (fun h8 => ?_) (fun h8 => ?_)
                · refine tri_exit ?_
                  refine post_then_exit ?_
                  refine post_block_hit ?_
                  refine post_then ?_
                  refine tri_region (todo := [0, 1]) rfl ?_
                  refine kO 2 2 [(46, ii ((f : Int) + 1))] [45, 10, 39, 38, 1, 40, 5] [I64 ((f : Int) + 1)] (ap1 (by first | omega | ((try simp only [Nat.zero_add]); have z1 := wtsTo_len n c v (6 * n); have z2 := wts_bound (c := c) hin10 k; have z3 := sumTo_bound (F := fun i => (wtsTo n c v (6 * n)).getD i 0) (N := (wtsTo n c v (6 * n)).length) (B := 9000000) (by omega) (fun i _ => wts_bound hin10 i) k (by omega); omega) | (have z1 := wtsTo_len n c v (6 * n); have z3 := hS1; have z4 := sumTo_bound (N := nv) (B := 1000000) (by omega) hin x (by omega); have z5 := hin x (by omega); omega) | (have z1 := wtsTo_len n c v (6 * n); have z3 := hS1; have z4 := sumTo_bound (N := nv) (B := 1000000) (by omega) hin nv (by omega); have z5 := facesTo_bound (c := c) hin10 (x := 4 * t + f) (by omega); have z6 := faceTo_bound hin (t := t) (f := f) (by omega) i (by omega); have z7 := arcP_bound (f := f) hin (t := t) (i := i) (by omega) (by omega); omega))) ?_
                  refine opsT_end ?_
                  refine post_leq (l' := [(46, ii ((f : Int) + 1)), (45, .agg #[ii (c t 0), ii (c t 1), ii (c t 2), ii (c t 3), ii (c t 4), ii (c t 5), ii (c t 6), ii (c t 7), ii (c t 8), ii (c t 9), ii (c t 10), ii (c t 11), ii (c t 12), ii (c t 13), ii (c t 14), ii (c t 15), ii (c t 16), ii (c t 17), ii (c t 18), ii (c t 19)]), (10, ii (t : Int)), (39, ii ((n : Nat) : Int)), (38, sl b off n cap), (1, sl bv ov nv cv), (40, ii (t : Int)), (5, ii (((sumTo (wtsTo n c v (6 * n)).length (fun i => (wtsTo n c v (6 * n)).getD i 0)) + sumTo nv v) - facesTo c v (4 * t + (f + 1))))]) (by rw [show (((sumTo (wtsTo n c v (6 * n)).length (fun i => (wtsTo n c v (6 * n)).getD i 0)) + sumTo nv v) - facesTo c v (4 * t + (f + 1)) : Int) = ((sumTo (wtsTo n c v (6 * n)).length (fun i => (wtsTo n c v (6 * n)).getD i 0)) + sumTo nv v) - facesTo c v (4 * t + f) by rw [← Nat.add_assoc, facesTo_step (by omega), if_pos (by unfold SkipE; omega), Int.add_zero]]) ?_
                  refine post_round (f + 1) (by omega) (by show 4 - (f + 1) < 4 - f; omega) (look_pickL (ks := [45, 10, 39, 38, 1, 40, 46, 5]) (by kernel_rfl)) (.cons _ (List.Sublist.refl _))
                · refine tri_skip ?_
                  refine post_then ?_
                  refine wr [0] rfl ?_
                  refine kSe 1 0 [(73, ii 0)] [12, 45, 10, 39, 38, 1, 40, 46, 5] ?_
                  refine tri_block ?_
                  refine tri_eq (l' := [(73, ii 0), (12, ii (f : Int)), (45, .agg #[ii (c t 0), ii (c t 1), ii (c t 2), ii (c t 3), ii (c t 4), ii (c t 5), ii (c t 6), ii (c t 7), ii (c t 8), ii (c t 9), ii (c t 10), ii (c t 11), ii (c t 12), ii (c t 13), ii (c t 14), ii (c t 15), ii (c t 16), ii (c t 17), ii (c t 18), ii (c t 19)]), (10, ii (t : Int)), (39, ii ((n : Nat) : Int)), (38, sl b off n cap), (1, sl bv ov nv cv), (40, ii (t : Int)), (46, ii (f : Int)), (5, ii ((((sumTo (wtsTo n c v (6 * n)).length (fun i => (wtsTo n c v (6 * n)).getD i 0)) + sumTo nv v) - facesTo c v (4 * t + f)) - faceTo v t f 0))]) (hs' := [(b3, .cells #[ii (c t (f * 5)), ii (c t (f * 5 + 1)), ii (c t (f * 5 + 2)), ii (c t (f * 5 + 3)), ii (c t (f * 5 + 4))] 75 (0, 0)), (b2, .cells #[ii (c t 0), ii (c t 1), ii (c t 2), ii (c t 3), ii (c t 4), ii (c t 5), ii (c t 6), ii (c t 7), ii (c t 8), ii (c t 9), ii (c t 10), ii (c t 11), ii (c t 12), ii (c t 13), ii (c t 14), ii (c t 15), ii (c t 16), ii (c t 17), ii (c t 18), ii (c t 19)] 76 (0, 0)), (bw, roomB (wtsTo n c v (6 * n)) spw 3), (b1, .cells #[sl b off n cap] 24 (0, 0))]) (by simp [faceTo]) rfl ?_
                  refine tri_loop (β := Nat) (fun xz => [(12, ii (f : Int)), (45, .agg #[ii (c t 0), ii (c t 1), ii (c t 2), ii (c t 3), ii (c t 4), ii (c t 5), ii (c t 6), ii (c t 7), ii (c t 8), ii (c t 9), ii (c t 10), ii (c t 11), ii (c t 12), ii (c t 13), ii (c t 14), ii (c t 15), ii (c t 16), ii (c t 17), ii (c t 18), ii (c t 19)]), (10, ii (t : Int)), (39, ii ((n : Nat) : Int)), (38, sl b off n cap), (1, sl bv ov nv cv), (40, ii (t : Int)), (46, ii (f : Int)), (73, ii (xz : Int)), (5, ii ((((sumTo (wtsTo n c v (6 * n)).length (fun i => (wtsTo n c v (6 * n)).getD i 0)) + sumTo nv v) - facesTo c v (4 * t + f)) - faceTo v t f xz))]) (fun xz => [(b3, .cells #[ii (c t (f * 5)), ii (c t (f * 5 + 1)), ii (c t (f * 5 + 2)), ii (c t (f * 5 + 3)), ii (c t (f * 5 + 4))] 75 (0, 0)), (b2, .cells #[ii (c t 0), ii (c t 1), ii (c t 2), ii (c t 3), ii (c t 4), ii (c t 5), ii (c t 6), ii (c t 7), ii (c t 8), ii (c t 9), ii (c t 10), ii (c t 11), ii (c t 12), ii (c t 13), ii (c t 14), ii (c t 15), ii (c t 16), ii (c t 17), ii (c t 18), ii (c t 19)] 76 (0, 0)), (bw, roomB (wtsTo n c v (6 * n)) spw 3), (b1, .cells #[sl b off n cap] 24 (0, 0))]) (fun xz => xz ≤ 4) (fun xz => 4 - xz) 0 (look_pickL (ks := [12, 45, 10, 39, 38, 1, 40, 46, 73, 5]) (by kernel_rfl)) (List.Sublist.refl _) (by omega) ?_
                  rintro i hC4
                  try dsimp only at hC4
                  refine tri_eq (l' := [(12, ii (f : Int)), (45, .agg #[ii (c t 0), ii (c t 1), ii (c t 2), ii (c t 3), ii (c t 4), ii (c t 5), ii (c t 6), ii (c t 7), ii (c t 8), ii (c t 9), ii (c t 10), ii (c t 11), ii (c t 12), ii (c t 13), ii (c t 14), ii (c t 15), ii (c t 16), ii (c t 17), ii (c t 18), ii (c t 19)]), (10, ii (t : Int)), (39, ii ((n : Nat) : Int)), (38, sl b off n cap), (1, sl bv ov nv cv), (40, ii (t : Int)), (46, ii (f : Int)), (73, ii (i : Int)), (5, ii ((((sumTo (wtsTo n c v (6 * n)).length (fun i => (wtsTo n c v (6 * n)).getD i 0)) + sumTo nv v) - facesTo c v (4 * t + f)) - faceTo v t f i))]) (hs' := [(b3, .cells #[ii (c t (f * 5)), ii (c t (f * 5 + 1)), ii (c t (f * 5 + 2)), ii (c t (f * 5 + 3)), ii (c t (f * 5 + 4))] 75 (0, 0)), (b2, .cells #[ii (c t 0), ii (c t 1), ii (c t 2), ii (c t 3), ii (c t 4), ii (c t 5), ii (c t 6), ii (c t 7), ii (c t 8), ii (c t 9), ii (c t 10), ii (c t 11), ii (c t 12), ii (c t 13), ii (c t 14), ii (c t 15), ii (c t 16), ii (c t 17), ii (c t 18), ii (c t 19)] 76 (0, 0)), (bw, roomB (wtsTo n c v (6 * n)) spw 3), (b1, .cells #[sl b off n cap] 24 (0, 0))]) rfl rfl ?_
                  refine wr [0] rfl ?_
                  refine kSe 1 5 [(74, .bool (decide ((i : Int) < 4)))] [12, 45, 10, 39, 38, 1, 40, 46, 73, 5] ?_
                  refine tri_seq ?_
                  refine tri_cond_dec (p := (i : Int) < 4) rfl (fun h9 => ?_) (fun h9 => ?_)
                  · refine tri_skip ?_
                    refine post_then ?_
                    refine tri_seq ?_
                    refine tri_block ?_
                    refine wr [0, 1] rfl ?_
                    refine kSn 2 0 [(14, ii (i : Int))] [12, 45, 10, 39, 38, 1, 40, 46, 73, 5] [0, 1, 2] ?_
                    refine kSe 3 1280 [(78, .bool (!decide ((i : Int) = (f : Int))))] [14, 12, 45, 10, 39, 38, 1, 40, 46, 73, 5] ?_
                    refine tri_cond (b := !decide ((i : Int) = (f : Int))) rfl (fun h10 => ?_) (fun h10 => ?_)
                    · simp only [Bool.not_eq_true', decide_eq_false_iff_not] at h10
                      refine tri_region (todo := [0, 1, 2, 3, 4, 5, 6, 7]) rfl ?_
                      refine kS 5 0 [(83, ii (i : Int)), (82, ii (f : Int)), (81, ii (t : Int)), (80, sl bv ov nv cv), (79, ii ((((sumTo (wtsTo n c v (6 * n)).length (fun i => (wtsTo n c v (6 * n)).getD i 0)) + sumTo nv v) - facesTo c v (4 * t + f)) - faceTo v t f i))] [12, 45, 10, 39, 38, 1, 40, 46, 73, 5] ?_
                      refine kC en101 #[sl bv ov nv cv, ii (t : Int), ii (f : Int), ii (i : Int)] (ii (arcP v t f i)) rfl (fun W hR => arcsN_ (hv.rep hR (by simp)) hin (by omega) (by omega) (by omega) (by omega) (by omega)) ?_ (by kernel_rfl)
                      refine kO 2 2 [(5, ii (((((sumTo (wtsTo n c v (6 * n)).length (fun i => (wtsTo n c v (6 * n)).getD i 0)) + sumTo nv v) - facesTo c v (4 * t + f)) - faceTo v t f i) - (arcP v t f i)))] [12, 45, 10, 39, 38, 1, 40, 46, 73] [I64 (((((sumTo (wtsTo n c v (6 * n)).length (fun i => (wtsTo n c v (6 * n)).getD i 0)) + sumTo nv v) - facesTo c v (4 * t + f)) - faceTo v t f i) - (arcP v t f i))] (ap1 (by first | omega | ((try simp only [Nat.zero_add]); have z1 := wtsTo_len n c v (6 * n); have z2 := wts_bound (c := c) hin10 k; have z3 := sumTo_bound (F := fun i => (wtsTo n c v (6 * n)).getD i 0) (N := (wtsTo n c v (6 * n)).length) (B := 9000000) (by omega) (fun i _ => wts_bound hin10 i) k (by omega); omega) | (have z1 := wtsTo_len n c v (6 * n); have z3 := hS1; have z4 := sumTo_bound (N := nv) (B := 1000000) (by omega) hin x (by omega); have z5 := hin x (by omega); omega) | (have z1 := wtsTo_len n c v (6 * n); have z3 := hS1; have z4 := sumTo_bound (N := nv) (B := 1000000) (by omega) hin nv (by omega); have z5 := facesTo_bound (c := c) hin10 (x := 4 * t + f) (by omega); have z6 := faceTo_bound hin (t := t) (f := f) (by omega) i (by omega); have z7 := arcP_bound (f := f) hin (t := t) (i := i) (by omega) (by omega); omega))) ?_
                      refine opsT_end ?_
                      refine post_block ?_
                      refine post_then ?_
                      refine tri_region (todo := [0, 1]) rfl ?_
                      refine kO 2 2 [(73, ii ((i : Int) + 1))] [5, 12, 45, 10, 39, 38, 1, 40, 46] [I64 ((i : Int) + 1)] (ap1 (by first | omega | ((try simp only [Nat.zero_add]); have z1 := wtsTo_len n c v (6 * n); have z2 := wts_bound (c := c) hin10 k; have z3 := sumTo_bound (F := fun i => (wtsTo n c v (6 * n)).getD i 0) (N := (wtsTo n c v (6 * n)).length) (B := 9000000) (by omega) (fun i _ => wts_bound hin10 i) k (by omega); omega) | (have z1 := wtsTo_len n c v (6 * n); have z3 := hS1; have z4 := sumTo_bound (N := nv) (B := 1000000) (by omega) hin x (by omega); have z5 := hin x (by omega); omega) | (have z1 := wtsTo_len n c v (6 * n); have z3 := hS1; have z4 := sumTo_bound (N := nv) (B := 1000000) (by omega) hin nv (by omega); have z5 := facesTo_bound (c := c) hin10 (x := 4 * t + f) (by omega); have z6 := faceTo_bound hin (t := t) (f := f) (by omega) i (by omega); have z7 := arcP_bound (f := f) hin (t := t) (i := i) (by omega) (by omega); omega))) ?_
                      refine opsT_end ?_
                      refine post_leq (l' := [(73, ii ((i : Int) + 1)), (5, ii ((((sumTo (wtsTo n c v (6 * n)).length (fun i => (wtsTo n c v (6 * n)).getD i 0)) + sumTo nv v) - facesTo c v (4 * t + f)) - faceTo v t f (i + 1))), (12, ii (f : Int)), (45, .agg #[ii (c t 0), ii (c t 1), ii (c t 2), ii (c t 3), ii (c t 4), ii (c t 5), ii (c t 6), ii (c t 7), ii (c t 8), ii (c t 9), ii (c t 10), ii (c t 11), ii (c t 12), ii (c t 13), ii (c t 14), ii (c t 15), ii (c t 16), ii (c t 17), ii (c t 18), ii (c t 19)]), (10, ii (t : Int)), (39, ii ((n : Nat) : Int)), (38, sl b off n cap), (1, sl bv ov nv cv), (40, ii (t : Int)), (46, ii (f : Int))]) (by rw [show ((((sumTo (wtsTo n c v (6 * n)).length (fun i => (wtsTo n c v (6 * n)).getD i 0)) + sumTo nv v) - facesTo c v (4 * t + f)) - faceTo v t f (i + 1) : Int) = ((((sumTo (wtsTo n c v (6 * n)).length (fun i => (wtsTo n c v (6 * n)).getD i 0)) + sumTo nv v) - facesTo c v (4 * t + f)) - faceTo v t f i) - (arcP v t f i) by rw [faceTo, if_neg (by omega)]; omega]) ?_
                      refine post_round (i + 1) (by omega) (by show 4 - (i + 1) < 4 - i; omega) (look_pickL (ks := [12, 45, 10, 39, 38, 1, 40, 46, 73, 5]) (by kernel_rfl)) (List.Sublist.refl _)
                    · simp only [Bool.not_eq_false', decide_eq_true_eq] at h10
                      refine tri_skip ?_
                      refine post_block ?_
                      refine post_then ?_
                      refine tri_region (todo := [0, 1]) rfl ?_
                      refine kO 2 2 [(73, ii ((i : Int) + 1))] [12, 45, 10, 39, 38, 1, 40, 46, 5] [I64 ((i : Int) + 1)] (ap1 (by first | omega | ((try simp only [Nat.zero_add]); have z1 := wtsTo_len n c v (6 * n); have z2 := wts_bound (c := c) hin10 k; have z3 := sumTo_bound (F := fun i => (wtsTo n c v (6 * n)).getD i 0) (N := (wtsTo n c v (6 * n)).length) (B := 9000000) (by omega) (fun i _ => wts_bound hin10 i) k (by omega); omega) | (have z1 := wtsTo_len n c v (6 * n); have z3 := hS1; have z4 := sumTo_bound (N := nv) (B := 1000000) (by omega) hin x (by omega); have z5 := hin x (by omega); omega) | (have z1 := wtsTo_len n c v (6 * n); have z3 := hS1; have z4 := sumTo_bound (N := nv) (B := 1000000) (by omega) hin nv (by omega); have z5 := facesTo_bound (c := c) hin10 (x := 4 * t + f) (by omega); have z6 := faceTo_bound hin (t := t) (f := f) (by omega) i (by omega); have z7 := arcP_bound (f := f) hin (t := t) (i := i) (by omega) (by omega); omega))) ?_
                      refine opsT_end ?_
                      refine post_leq (l' := [(73, ii ((i : Int) + 1)), (12, ii (f : Int)), (45, .agg #[ii (c t 0), ii (c t 1), ii (c t 2), ii (c t 3), ii (c t 4), ii (c t 5), ii (c t 6), ii (c t 7), ii (c t 8), ii (c t 9), ii (c t 10), ii (c t 11), ii (c t 12), ii (c t 13), ii (c t 14), ii (c t 15), ii (c t 16), ii (c t 17), ii (c t 18), ii (c t 19)]), (10, ii (t : Int)), (39, ii ((n : Nat) : Int)), (38, sl b off n cap), (1, sl bv ov nv cv), (40, ii (t : Int)), (46, ii (f : Int)), (5, ii ((((sumTo (wtsTo n c v (6 * n)).length (fun i => (wtsTo n c v (6 * n)).getD i 0)) + sumTo nv v) - facesTo c v (4 * t + f)) - faceTo v t f (i + 1)))]) (by rw [show ((((sumTo (wtsTo n c v (6 * n)).length (fun i => (wtsTo n c v (6 * n)).getD i 0)) + sumTo nv v) - facesTo c v (4 * t + f)) - faceTo v t f (i + 1) : Int) = (((sumTo (wtsTo n c v (6 * n)).length (fun i => (wtsTo n c v (6 * n)).getD i 0)) + sumTo nv v) - facesTo c v (4 * t + f)) - faceTo v t f i by rw [faceTo, if_pos (by omega)]; omega]) ?_
                      refine post_round (i + 1) (by omega) (by show 4 - (i + 1) < 4 - i; omega) (look_pickL (ks := [12, 45, 10, 39, 38, 1, 40, 46, 73, 5]) (by kernel_rfl)) (List.Sublist.refl _)
                  · refine tri_exit ?_
                    refine post_then_exit ?_
                    refine post_round_exit ?_
                    refine post_block_hit ?_
                    refine post_block ?_
                    refine post_then ?_
                    refine tri_region (todo := [0, 1]) rfl ?_
                    refine kO 2 2 [(46, ii ((f : Int) + 1))] [45, 10, 39, 38, 1, 40, 5] [I64 ((f : Int) + 1)] (ap1 (by first | omega | ((try simp only [Nat.zero_add]); have z1 := wtsTo_len n c v (6 * n); have z2 := wts_bound (c := c) hin10 k; have z3 := sumTo_bound (F := fun i => (wtsTo n c v (6 * n)).getD i 0) (N := (wtsTo n c v (6 * n)).length) (B := 9000000) (by omega) (fun i _ => wts_bound hin10 i) k (by omega); omega) | (have z1 := wtsTo_len n c v (6 * n); have z3 := hS1; have z4 := sumTo_bound (N := nv) (B := 1000000) (by omega) hin x (by omega); have z5 := hin x (by omega); omega) | (have z1 := wtsTo_len n c v (6 * n); have z3 := hS1; have z4 := sumTo_bound (N := nv) (B := 1000000) (by omega) hin nv (by omega); have z5 := facesTo_bound (c := c) hin10 (x := 4 * t + f) (by omega); have z6 := faceTo_bound hin (t := t) (f := f) (by omega) i (by omega); have z7 := arcP_bound (f := f) hin (t := t) (i := i) (by omega) (by omega); omega))) ?_
                    refine opsT_end ?_
                    refine post_leq (l' := [(46, ii ((f : Int) + 1)), (45, .agg #[ii (c t 0), ii (c t 1), ii (c t 2), ii (c t 3), ii (c t 4), ii (c t 5), ii (c t 6), ii (c t 7), ii (c t 8), ii (c t 9), ii (c t 10), ii (c t 11), ii (c t 12), ii (c t 13), ii (c t 14), ii (c t 15), ii (c t 16), ii (c t 17), ii (c t 18), ii (c t 19)]), (10, ii (t : Int)), (39, ii ((n : Nat) : Int)), (38, sl b off n cap), (1, sl bv ov nv cv), (40, ii (t : Int)), (5, ii (((sumTo (wtsTo n c v (6 * n)).length (fun i => (wtsTo n c v (6 * n)).getD i 0)) + sumTo nv v) - facesTo c v (4 * t + (f + 1))))]) (by rw [show (((sumTo (wtsTo n c v (6 * n)).length (fun i => (wtsTo n c v (6 * n)).getD i 0)) + sumTo nv v) - facesTo c v (4 * t + (f + 1)) : Int) = (((sumTo (wtsTo n c v (6 * n)).length (fun i => (wtsTo n c v (6 * n)).getD i 0)) + sumTo nv v) - facesTo c v (4 * t + f)) - faceTo v t f i by rw [← Nat.add_assoc, facesTo_step (by omega), if_neg (by unfold SkipE; omega), show i = 4 by omega]; omega]) ?_
                    refine post_round (f + 1) (by omega) (by show 4 - (f + 1) < 4 - f; omega) (look_pickL (ks := [45, 10, 39, 38, 1, 40, 46, 5]) (by kernel_rfl)) (.cons _ (List.Sublist.refl _))
              · refine tri_region (todo := [0, 1, 2, 3, 4, 5, 6, 7, 8, 9, 10, 11, 12, 13, 14, 15, 16, 17, 18, 19, 20, 21, 22]) rfl ?_
                refine kS 1 0 [(50, pt b3 0)] [12, 13, 45, 10, 39, 38, 1, 40, 46, 5] ?_
                refine kL 0 (ii (c t (f * 5))) ?_
                refine kO 3 6 [(54, pt b3 0), (53, .bool true)] [12, 13, 45, 10, 39, 38, 1, 40, 46, 5] [0 ≤ c t (f * 5)] h5 ?_
                refine kL 0 (ii (c t (f * 5))) ?_
                refine kO 4 112 [(59, pt b3 0), (58, .bool false)] [53, 12, 13, 45, 10, 39, 38, 1, 40, 46, 5] [¬ (c t (f * 5) < (t : Int))] h6 ?_
                refine kL 0 (ii (c t (f * 5))) ?_
                refine kOe 12 4581298288 [(72, .bool false)] [12, 45, 10, 39, 38, 1, 40, 46, 5] [¬ (c t (f * 5) = (t : Int))] h7 ?_
                refine tri_cond_false rfl ?_
                refine tri_skip ?_
                refine post_then ?_
                refine wr [0] rfl ?_
                refine kSe 1 0 [(73, ii 0)] [12, 45, 10, 39, 38, 1, 40, 46, 5] ?_
                refine tri_block ?_
                refine tri_eq (l' := [(73, ii 0), (12, ii (f : Int)), (45, .agg #[ii (c t 0), ii (c t 1), ii (c t 2), ii (c t 3), ii (c t 4), ii (c t 5), ii (c t 6), ii (c t 7), ii (c t 8), ii (c t 9), ii (c t 10), ii (c t 11), ii (c t 12), ii (c t 13), ii (c t 14), ii (c t 15), ii (c t 16), ii (c t 17), ii (c t 18), ii (c t 19)]), (10, ii (t : Int)), (39, ii ((n : Nat) : Int)), (38, sl b off n cap), (1, sl bv ov nv cv), (40, ii (t : Int)), (46, ii (f : Int)), (5, ii ((((sumTo (wtsTo n c v (6 * n)).length (fun i => (wtsTo n c v (6 * n)).getD i 0)) + sumTo nv v) - facesTo c v (4 * t + f)) - faceTo v t f 0))]) (hs' := [(b3, .cells #[ii (c t (f * 5)), ii (c t (f * 5 + 1)), ii (c t (f * 5 + 2)), ii (c t (f * 5 + 3)), ii (c t (f * 5 + 4))] 75 (0, 0)), (b2, .cells #[ii (c t 0), ii (c t 1), ii (c t 2), ii (c t 3), ii (c t 4), ii (c t 5), ii (c t 6), ii (c t 7), ii (c t 8), ii (c t 9), ii (c t 10), ii (c t 11), ii (c t 12), ii (c t 13), ii (c t 14), ii (c t 15), ii (c t 16), ii (c t 17), ii (c t 18), ii (c t 19)] 76 (0, 0)), (bw, roomB (wtsTo n c v (6 * n)) spw 3), (b1, .cells #[sl b off n cap] 24 (0, 0))]) (by simp [faceTo]) rfl ?_
                refine tri_loop (β := Nat) (fun xz => [(12, ii (f : Int)), (45, .agg #[ii (c t 0), ii (c t 1), ii (c t 2), ii (c t 3), ii (c t 4), ii (c t 5), ii (c t 6), ii (c t 7), ii (c t 8), ii (c t 9), ii (c t 10), ii (c t 11), ii (c t 12), ii (c t 13), ii (c t 14), ii (c t 15), ii (c t 16), ii (c t 17), ii (c t 18), ii (c t 19)]), (10, ii (t : Int)), (39, ii ((n : Nat) : Int)), (38, sl b off n cap), (1, sl bv ov nv cv), (40, ii (t : Int)), (46, ii (f : Int)), (73, ii (xz : Int)), (5, ii ((((sumTo (wtsTo n c v (6 * n)).length (fun i => (wtsTo n c v (6 * n)).getD i 0)) + sumTo nv v) - facesTo c v (4 * t + f)) - faceTo v t f xz))]) (fun xz => [(b3, .cells #[ii (c t (f * 5)), ii (c t (f * 5 + 1)), ii (c t (f * 5 + 2)), ii (c t (f * 5 + 3)), ii (c t (f * 5 + 4))] 75 (0, 0)), (b2, .cells #[ii (c t 0), ii (c t 1), ii (c t 2), ii (c t 3), ii (c t 4), ii (c t 5), ii (c t 6), ii (c t 7), ii (c t 8), ii (c t 9), ii (c t 10), ii (c t 11), ii (c t 12), ii (c t 13), ii (c t 14), ii (c t 15), ii (c t 16), ii (c t 17), ii (c t 18), ii (c t 19)] 76 (0, 0)), (bw, roomB (wtsTo n c v (6 * n)) spw 3), (b1, .cells #[sl b off n cap] 24 (0, 0))]) (fun xz => xz ≤ 4) (fun xz => 4 - xz) 0 (look_pickL (ks := [12, 45, 10, 39, 38, 1, 40, 46, 73, 5]) (by kernel_rfl)) (List.Sublist.refl _) (by omega) ?_
                rintro i hC4
                try dsimp only at hC4
                refine tri_eq (l' := [(12, ii (f : Int)), (45, .agg #[ii (c t 0), ii (c t 1), ii (c t 2), ii (c t 3), ii (c t 4), ii (c t 5), ii (c t 6), ii (c t 7), ii (c t 8), ii (c t 9), ii (c t 10), ii (c t 11), ii (c t 12), ii (c t 13), ii (c t 14), ii (c t 15), ii (c t 16), ii (c t 17), ii (c t 18), ii (c t 19)]), (10, ii (t : Int)), (39, ii ((n : Nat) : Int)), (38, sl b off n cap), (1, sl bv ov nv cv), (40, ii (t : Int)), (46, ii (f : Int)), (73, ii (i : Int)), (5, ii ((((sumTo (wtsTo n c v (6 * n)).length (fun i => (wtsTo n c v (6 * n)).getD i 0)) + sumTo nv v) - facesTo c v (4 * t + f)) - faceTo v t f i))]) (hs' := [(b3, .cells #[ii (c t (f * 5)), ii (c t (f * 5 + 1)), ii (c t (f * 5 + 2)), ii (c t (f * 5 + 3)), ii (c t (f * 5 + 4))] 75 (0, 0)), (b2, .cells #[ii (c t 0), ii (c t 1), ii (c t 2), ii (c t 3), ii (c t 4), ii (c t 5), ii (c t 6), ii (c t 7), ii (c t 8), ii (c t 9), ii (c t 10), ii (c t 11), ii (c t 12), ii (c t 13), ii (c t 14), ii (c t 15), ii (c t 16), ii (c t 17), ii (c t 18), ii (c t 19)] 76 (0, 0)), (bw, roomB (wtsTo n c v (6 * n)) spw 3), (b1, .cells #[sl b off n cap] 24 (0, 0))]) rfl rfl ?_
                refine wr [0] rfl ?_
                refine kSe 1 5 [(74, .bool (decide ((i : Int) < 4)))] [12, 45, 10, 39, 38, 1, 40, 46, 73, 5] ?_
                refine tri_seq ?_
                refine tri_cond_dec (p := (i : Int) < 4) rfl (fun h8 => ?_) (fun h8 => ?_)
                · refine tri_skip ?_
                  refine post_then ?_
                  refine tri_seq ?_
                  refine tri_block ?_
                  refine wr [0, 1] rfl ?_
                  refine kSn 2 0 [(14, ii (i : Int))] [12, 45, 10, 39, 38, 1, 40, 46, 73, 5] [0, 1, 2] ?_
                  refine kSe 3 1280 [(78, .bool (!decide ((i : Int) = (f : Int))))] [14, 12, 45, 10, 39, 38, 1, 40, 46, 73, 5] ?_
                  refine tri_cond (b := !decide ((i : Int) = (f : Int))) rfl (fun h9 => ?_) (fun h9 => ?_)
                  · simp only [Bool.not_eq_true', decide_eq_false_iff_not] at h9
                    refine tri_region (todo := [0, 1, 2, 3, 4, 5, 6, 7]) rfl ?_
                    refine kS 5 0 [(83, ii (i : Int)), (82, ii (f : Int)), (81, ii (t : Int)), (80, sl bv ov nv cv), (79, ii ((((sumTo (wtsTo n c v (6 * n)).length (fun i => (wtsTo n c v (6 * n)).getD i 0)) + sumTo nv v) - facesTo c v (4 * t + f)) - faceTo v t f i))] [12, 45, 10, 39, 38, 1, 40, 46, 73, 5] ?_
                    refine kC en101 #[sl bv ov nv cv, ii (t : Int), ii (f : Int), ii (i : Int)] (ii (arcP v t f i)) rfl (fun W hR => arcsN_ (hv.rep hR (by simp)) hin (by omega) (by omega) (by omega) (by omega) (by omega)) ?_ (by kernel_rfl)
                    refine kO 2 2 [(5, ii (((((sumTo (wtsTo n c v (6 * n)).length (fun i => (wtsTo n c v (6 * n)).getD i 0)) + sumTo nv v) - facesTo c v (4 * t + f)) - faceTo v t f i) - (arcP v t f i)))] [12, 45, 10, 39, 38, 1, 40, 46, 73] [I64 (((((sumTo (wtsTo n c v (6 * n)).length (fun i => (wtsTo n c v (6 * n)).getD i 0)) + sumTo nv v) - facesTo c v (4 * t + f)) - faceTo v t f i) - (arcP v t f i))] (ap1 (by first | omega | ((try simp only [Nat.zero_add]); have z1 := wtsTo_len n c v (6 * n); have z2 := wts_bound (c := c) hin10 k; have z3 := sumTo_bound (F := fun i => (wtsTo n c v (6 * n)).getD i 0) (N := (wtsTo n c v (6 * n)).length) (B := 9000000) (by omega) (fun i _ => wts_bound hin10 i) k (by omega); omega) | (have z1 := wtsTo_len n c v (6 * n); have z3 := hS1; have z4 := sumTo_bound (N := nv) (B := 1000000) (by omega) hin x (by omega); have z5 := hin x (by omega); omega) | (have z1 := wtsTo_len n c v (6 * n); have z3 := hS1; have z4 := sumTo_bound (N := nv) (B := 1000000) (by omega) hin nv (by omega); have z5 := facesTo_bound (c := c) hin10 (x := 4 * t + f) (by omega); have z6 := faceTo_bound hin (t := t) (f := f) (by omega) i (by omega); have z7 := arcP_bound (f := f) hin (t := t) (i := i) (by omega) (by omega); omega))) ?_
                    refine opsT_end ?_
                    refine post_block ?_
                    refine post_then ?_
                    refine tri_region (todo := [0, 1]) rfl ?_
                    refine kO 2 2 [(73, ii ((i : Int) + 1))] [5, 12, 45, 10, 39, 38, 1, 40, 46] [I64 ((i : Int) + 1)] (ap1 (by first | omega | ((try simp only [Nat.zero_add]); have z1 := wtsTo_len n c v (6 * n); have z2 := wts_bound (c := c) hin10 k; have z3 := sumTo_bound (F := fun i => (wtsTo n c v (6 * n)).getD i 0) (N := (wtsTo n c v (6 * n)).length) (B := 9000000) (by omega) (fun i _ => wts_bound hin10 i) k (by omega); omega) | (have z1 := wtsTo_len n c v (6 * n); have z3 := hS1; have z4 := sumTo_bound (N := nv) (B := 1000000) (by omega) hin x (by omega); have z5 := hin x (by omega); omega) | (have z1 := wtsTo_len n c v (6 * n); have z3 := hS1; have z4 := sumTo_bound (N := nv) (B := 1000000) (by omega) hin nv (by omega); have z5 := facesTo_bound (c := c) hin10 (x := 4 * t + f) (by omega); have z6 := faceTo_bound hin (t := t) (f := f) (by omega) i (by omega); have z7 := arcP_bound (f := f) hin (t := t) (i := i) (by omega) (by omega); omega))) ?_
                    refine opsT_end ?_
                    refine post_leq (l' := [(73, ii ((i : Int) + 1)), (5, ii ((((sumTo (wtsTo n c v (6 * n)).length (fun i => (wtsTo n c v (6 * n)).getD i 0)) + sumTo nv v) - facesTo c v (4 * t + f)) - faceTo v t f (i + 1))), (12, ii (f : Int)), (45, .agg #[ii (c t 0), ii (c t 1), ii (c t 2), ii (c t 3), ii (c t 4), ii (c t 5), ii (c t 6), ii (c t 7), ii (c t 8), ii (c t 9), ii (c t 10), ii (c t 11), ii (c t 12), ii (c t 13), ii (c t 14), ii (c t 15), ii (c t 16), ii (c t 17), ii (c t 18), ii (c t 19)]), (10, ii (t : Int)), (39, ii ((n : Nat) : Int)), (38, sl b off n cap), (1, sl bv ov nv cv), (40, ii (t : Int)), (46, ii (f : Int))]) (by rw [show ((((sumTo (wtsTo n c v (6 * n)).length (fun i => (wtsTo n c v (6 * n)).getD i 0)) + sumTo nv v) - facesTo c v (4 * t + f)) - faceTo v t f (i + 1) : Int) = ((((sumTo (wtsTo n c v (6 * n)).length (fun i => (wtsTo n c v (6 * n)).getD i 0)) + sumTo nv v) - facesTo c v (4 * t + f)) - faceTo v t f i) - (arcP v t f i) by rw [faceTo, if_neg (by omega)]; omega]) ?_
                    refine post_round (i + 1) (by omega) (by show 4 - (i + 1) < 4 - i; omega) (look_pickL (ks := [12, 45, 10, 39, 38, 1, 40, 46, 73, 5]) (by kernel_rfl)) (List.Sublist.refl _)
                  · simp only [Bool.not_eq_false', decide_eq_true_eq] at h9
                    refine tri_skip ?_
                    refine post_block ?_
                    refine post_then ?_
                    refine tri_region (todo := [0, 1]) rfl ?_
                    refine kO 2 2 [(73, ii ((i : Int) + 1))] [12, 45, 10, 39, 38, 1, 40, 46, 5] [I64 ((i : Int) + 1)] (ap1 (by first | omega | ((try simp only [Nat.zero_add]); have z1 := wtsTo_len n c v (6 * n); have z2 := wts_bound (c := c) hin10 k; have z3 := sumTo_bound (F := fun i => (wtsTo n c v (6 * n)).getD i 0) (N := (wtsTo n c v (6 * n)).length) (B := 9000000) (by omega) (fun i _ => wts_bound hin10 i) k (by omega); omega) | (have z1 := wtsTo_len n c v (6 * n); have z3 := hS1; have z4 := sumTo_bound (N := nv) (B := 1000000) (by omega) hin x (by omega); have z5 := hin x (by omega); omega) | (have z1 := wtsTo_len n c v (6 * n); have z3 := hS1; have z4 := sumTo_bound (N := nv) (B := 1000000) (by omega) hin nv (by omega); have z5 := facesTo_bound (c := c) hin10 (x := 4 * t + f) (by omega); have z6 := faceTo_bound hin (t := t) (f := f) (by omega) i (by omega); have z7 := arcP_bound (f := f) hin (t := t) (i := i) (by omega) (by omega); omega))) ?_
                    refine opsT_end ?_
                    refine post_leq (l' := [(73, ii ((i : Int) + 1)), (12, ii (f : Int)), (45, .agg #[ii (c t 0), ii (c t 1), ii (c t 2), ii (c t 3), ii (c t 4), ii (c t 5), ii (c t 6), ii (c t 7), ii (c t 8), ii (c t 9), ii (c t 10), ii (c t 11), ii (c t 12), ii (c t 13), ii (c t 14), ii (c t 15), ii (c t 16), ii (c t 17), ii (c t 18), ii (c t 19)]), (10, ii (t : Int)), (39, ii ((n : Nat) : Int)), (38, sl b off n cap), (1, sl bv ov nv cv), (40, ii (t : Int)), (46, ii (f : Int)), (5, ii ((((sumTo (wtsTo n c v (6 * n)).length (fun i => (wtsTo n c v (6 * n)).getD i 0)) + sumTo nv v) - facesTo c v (4 * t + f)) - faceTo v t f (i + 1)))]) (by rw [show ((((sumTo (wtsTo n c v (6 * n)).length (fun i => (wtsTo n c v (6 * n)).getD i 0)) + sumTo nv v) - facesTo c v (4 * t + f)) - faceTo v t f (i + 1) : Int) = (((sumTo (wtsTo n c v (6 * n)).length (fun i => (wtsTo n c v (6 * n)).getD i 0)) + sumTo nv v) - facesTo c v (4 * t + f)) - faceTo v t f i by rw [faceTo, if_pos (by omega)]; omega]) ?_
                    refine post_round (i + 1) (by omega) (by show 4 - (i + 1) < 4 - i; omega) (look_pickL (ks := [12, 45, 10, 39, 38, 1, 40, 46, 73, 5]) (by kernel_rfl)) (List.Sublist.refl _)
                · refine tri_exit ?_
                  refine post_then_exit ?_
                  refine post_round_exit ?_
                  refine post_block_hit ?_
                  refine post_block ?_
                  refine post_then ?_
                  refine tri_region (todo := [0, 1]) rfl ?_
                  refine kO 2 2 [(46, ii ((f : Int) + 1))] [45, 10, 39, 38, 1, 40, 5] [I64 ((f : Int) + 1)] (ap1 (by first | omega | ((try simp only [Nat.zero_add]); have z1 := wtsTo_len n c v (6 * n); have z2 := wts_bound (c := c) hin10 k; have z3 := sumTo_bound (F := fun i => (wtsTo n c v (6 * n)).getD i 0) (N := (wtsTo n c v (6 * n)).length) (B := 9000000) (by omega) (fun i _ => wts_bound hin10 i) k (by omega); omega) | (have z1 := wtsTo_len n c v (6 * n); have z3 := hS1; have z4 := sumTo_bound (N := nv) (B := 1000000) (by omega) hin x (by omega); have z5 := hin x (by omega); omega) | (have z1 := wtsTo_len n c v (6 * n); have z3 := hS1; have z4 := sumTo_bound (N := nv) (B := 1000000) (by omega) hin nv (by omega); have z5 := facesTo_bound (c := c) hin10 (x := 4 * t + f) (by omega); have z6 := faceTo_bound hin (t := t) (f := f) (by omega) i (by omega); have z7 := arcP_bound (f := f) hin (t := t) (i := i) (by omega) (by omega); omega))) ?_
                  refine opsT_end ?_
                  refine post_leq (l' := [(46, ii ((f : Int) + 1)), (45, .agg #[ii (c t 0), ii (c t 1), ii (c t 2), ii (c t 3), ii (c t 4), ii (c t 5), ii (c t 6), ii (c t 7), ii (c t 8), ii (c t 9), ii (c t 10), ii (c t 11), ii (c t 12), ii (c t 13), ii (c t 14), ii (c t 15), ii (c t 16), ii (c t 17), ii (c t 18), ii (c t 19)]), (10, ii (t : Int)), (39, ii ((n : Nat) : Int)), (38, sl b off n cap), (1, sl bv ov nv cv), (40, ii (t : Int)), (5, ii (((sumTo (wtsTo n c v (6 * n)).length (fun i => (wtsTo n c v (6 * n)).getD i 0)) + sumTo nv v) - facesTo c v (4 * t + (f + 1))))]) (by rw [show (((sumTo (wtsTo n c v (6 * n)).length (fun i => (wtsTo n c v (6 * n)).getD i 0)) + sumTo nv v) - facesTo c v (4 * t + (f + 1)) : Int) = (((sumTo (wtsTo n c v (6 * n)).length (fun i => (wtsTo n c v (6 * n)).getD i 0)) + sumTo nv v) - facesTo c v (4 * t + f)) - faceTo v t f i by rw [← Nat.add_assoc, facesTo_step (by omega), if_neg (by unfold SkipE; omega), show i = 4 by omega]; omega]) ?_
                  refine post_round (f + 1) (by omega) (by show 4 - (f + 1) < 4 - f; omega) (look_pickL (ks := [45, 10, 39, 38, 1, 40, 46, 5]) (by kernel_rfl)) (.cons _ (List.Sublist.refl _))
          · refine tri_region (todo := [0, 1, 2, 3, 4, 5, 6, 7, 8, 9, 10, 11, 12, 13, 14, 15, 16, 17, 18, 19, 20, 21, 22]) rfl ?_
            refine kS 1 0 [(50, pt b3 0)] [12, 13, 45, 10, 39, 38, 1, 40, 46, 5] ?_
            refine kL 0 (ii (c t (f * 5))) ?_
            refine kOe 21 0x11111111111111111107 [(72, .bool false)] [12, 45, 10, 39, 38, 1, 40, 46, 5] [¬ (0 ≤ c t (f * 5))] h5 ?_
            refine tri_cond_false rfl ?_
            refine tri_skip ?_
            refine post_then ?_
            refine wr [0] rfl ?_
            refine kSe 1 0 [(73, ii 0)] [12, 45, 10, 39, 38, 1, 40, 46, 5] ?_
            refine tri_block ?_
            refine tri_eq (l' := [(73, ii 0), (12, ii (f : Int)), (45, .agg #[ii (c t 0), ii (c t 1), ii (c t 2), ii (c t 3), ii (c t 4), ii (c t 5), ii (c t 6), ii (c t 7), ii (c t 8), ii (c t 9), ii (c t 10), ii (c t 11), ii (c t 12), ii (c t 13), ii (c t 14), ii (c t 15), ii (c t 16), ii (c t 17), ii (c t 18), ii (c t 19)]), (10, ii (t : Int)), (39, ii ((n : Nat) : Int)), (38, sl b off n cap), (1, sl bv ov nv cv), (40, ii (t : Int)), (46, ii (f : Int)), (5, ii ((((sumTo (wtsTo n c v (6 * n)).length (fun i => (wtsTo n c v (6 * n)).getD i 0)) + sumTo nv v) - facesTo c v (4 * t + f)) - faceTo v t f 0))]) (hs' := [(b3, .cells #[ii (c t (f * 5)), ii (c t (f * 5 + 1)), ii (c t (f * 5 + 2)), ii (c t (f * 5 + 3)), ii (c t (f * 5 + 4))] 75 (0, 0)), (b2, .cells #[ii (c t 0), ii (c t 1), ii (c t 2), ii (c t 3), ii (c t 4), ii (c t 5), ii (c t 6), ii (c t 7), ii (c t 8), ii (c t 9), ii (c t 10), ii (c t 11), ii (c t 12), ii (c t 13), ii (c t 14), ii (c t 15), ii (c t 16), ii (c t 17), ii (c t 18), ii (c t 19)] 76 (0, 0)), (bw, roomB (wtsTo n c v (6 * n)) spw 3), (b1, .cells #[sl b off n cap] 24 (0, 0))]) (by simp [faceTo]) rfl ?_
            refine tri_loop (β := Nat) (fun xz => [(12, ii (f : Int)), (45, .agg #[ii (c t 0), ii (c t 1), ii (c t 2), ii (c t 3), ii (c t 4), ii (c t 5), ii (c t 6), ii (c t 7), ii (c t 8), ii (c t 9), ii (c t 10), ii (c t 11), ii (c t 12), ii (c t 13), ii (c t 14), ii (c t 15), ii (c t 16), ii (c t 17), ii (c t 18), ii (c t 19)]), (10, ii (t : Int)), (39, ii ((n : Nat) : Int)), (38, sl b off n cap), (1, sl bv ov nv cv), (40, ii (t : Int)), (46, ii (f : Int)), (73, ii (xz : Int)), (5, ii ((((sumTo (wtsTo n c v (6 * n)).length (fun i => (wtsTo n c v (6 * n)).getD i 0)) + sumTo nv v) - facesTo c v (4 * t + f)) - faceTo v t f xz))]) (fun xz => [(b3, .cells #[ii (c t (f * 5)), ii (c t (f * 5 + 1)), ii (c t (f * 5 + 2)), ii (c t (f * 5 + 3)), ii (c t (f * 5 + 4))] 75 (0, 0)), (b2, .cells #[ii (c t 0), ii (c t 1), ii (c t 2), ii (c t 3), ii (c t 4), ii (c t 5), ii (c t 6), ii (c t 7), ii (c t 8), ii (c t 9), ii (c t 10), ii (c t 11), ii (c t 12), ii (c t 13), ii (c t 14), ii (c t 15), ii (c t 16), ii (c t 17), ii (c t 18), ii (c t 19)] 76 (0, 0)), (bw, roomB (wtsTo n c v (6 * n)) spw 3), (b1, .cells #[sl b off n cap] 24 (0, 0))]) (fun xz => xz ≤ 4) (fun xz => 4 - xz) 0 (look_pickL (ks := [12, 45, 10, 39, 38, 1, 40, 46, 73, 5]) (by kernel_rfl)) (List.Sublist.refl _) (by omega) ?_
            rintro i hC4
            try dsimp only at hC4
            refine tri_eq (l' := [(12, ii (f : Int)), (45, .agg #[ii (c t 0), ii (c t 1), ii (c t 2), ii (c t 3), ii (c t 4), ii (c t 5), ii (c t 6), ii (c t 7), ii (c t 8), ii (c t 9), ii (c t 10), ii (c t 11), ii (c t 12), ii (c t 13), ii (c t 14), ii (c t 15), ii (c t 16), ii (c t 17), ii (c t 18), ii (c t 19)]), (10, ii (t : Int)), (39, ii ((n : Nat) : Int)), (38, sl b off n cap), (1, sl bv ov nv cv), (40, ii (t : Int)), (46, ii (f : Int)), (73, ii (i : Int)), (5, ii ((((sumTo (wtsTo n c v (6 * n)).length (fun i => (wtsTo n c v (6 * n)).getD i 0)) + sumTo nv v) - facesTo c v (4 * t + f)) - faceTo v t f i))]) (hs' := [(b3, .cells #[ii (c t (f * 5)), ii (c t (f * 5 + 1)), ii (c t (f * 5 + 2)), ii (c t (f * 5 + 3)), ii (c t (f * 5 + 4))] 75 (0, 0)), (b2, .cells #[ii (c t 0), ii (c t 1), ii (c t 2), ii (c t 3), ii (c t 4), ii (c t 5), ii (c t 6), ii (c t 7), ii (c t 8), ii (c t 9), ii (c t 10), ii (c t 11), ii (c t 12), ii (c t 13), ii (c t 14), ii (c t 15), ii (c t 16), ii (c t 17), ii (c t 18), ii (c t 19)] 76 (0, 0)), (bw, roomB (wtsTo n c v (6 * n)) spw 3), (b1, .cells #[sl b off n cap] 24 (0, 0))]) rfl rfl ?_
            refine wr [0] rfl ?_
            refine kSe 1 5 [(74, .bool (decide ((i : Int) < 4)))] [12, 45, 10, 39, 38, 1, 40, 46, 73, 5] ?_
            refine tri_seq ?_
            refine tri_cond_dec (p := (i : Int) < 4) rfl (fun h6 => ?_) (fun h6 => ?_)
            · refine tri_skip ?_
              refine post_then ?_
              refine tri_seq ?_
              refine tri_block ?_
              refine wr [0, 1] rfl ?_
              refine kSn 2 0 [(14, ii (i : Int))] [12, 45, 10, 39, 38, 1, 40, 46, 73, 5] [0, 1, 2] ?_
              refine kSe 3 1280 [(78, .bool (!decide ((i : Int) = (f : Int))))] [14, 12, 45, 10, 39, 38, 1, 40, 46, 73, 5] ?_
              refine tri_cond (b := !decide ((i : Int) = (f : Int))) rfl (fun h7 => ?_) (fun h7 => ?_)
              · simp only [Bool.not_eq_true', decide_eq_false_iff_not] at h7
                refine tri_region (todo := [0, 1, 2, 3, 4, 5, 6, 7]) rfl ?_
                refine kS 5 0 [(83, ii (i : Int)), (82, ii (f : Int)), (81, ii (t : Int)), (80, sl bv ov nv cv), (79, ii ((((sumTo (wtsTo n c v (6 * n)).length (fun i => (wtsTo n c v (6 * n)).getD i 0)) + sumTo nv v) - facesTo c v (4 * t + f)) - faceTo v t f i))] [12, 45, 10, 39, 38, 1, 40, 46, 73, 5] ?_
                refine kC en101 #[sl bv ov nv cv, ii (t : Int), ii (f : Int), ii (i : Int)] (ii (arcP v t f i)) rfl (fun W hR => arcsN_ (hv.rep hR (by simp)) hin (by omega) (by omega) (by omega) (by omega) (by omega)) ?_ (by kernel_rfl)
                refine kO 2 2 [(5, ii (((((sumTo (wtsTo n c v (6 * n)).length (fun i => (wtsTo n c v (6 * n)).getD i 0)) + sumTo nv v) - facesTo c v (4 * t + f)) - faceTo v t f i) - (arcP v t f i)))] [12, 45, 10, 39, 38, 1, 40, 46, 73] [I64 (((((sumTo (wtsTo n c v (6 * n)).length (fun i => (wtsTo n c v (6 * n)).getD i 0)) + sumTo nv v) - facesTo c v (4 * t + f)) - faceTo v t f i) - (arcP v t f i))] (ap1 (by first | omega | ((try simp only [Nat.zero_add]); have z1 := wtsTo_len n c v (6 * n); have z2 := wts_bound (c := c) hin10 k; have z3 := sumTo_bound (F := fun i => (wtsTo n c v (6 * n)).getD i 0) (N := (wtsTo n c v (6 * n)).length) (B := 9000000) (by omega) (fun i _ => wts_bound hin10 i) k (by omega); omega) | (have z1 := wtsTo_len n c v (6 * n); have z3 := hS1; have z4 := sumTo_bound (N := nv) (B := 1000000) (by omega) hin x (by omega); have z5 := hin x (by omega); omega) | (have z1 := wtsTo_len n c v (6 * n); have z3 := hS1; have z4 := sumTo_bound (N := nv) (B := 1000000) (by omega) hin nv (by omega); have z5 := facesTo_bound (c := c) hin10 (x := 4 * t + f) (by omega); have z6 := faceTo_bound hin (t := t) (f := f) (by omega) i (by omega); have z7 := arcP_bound (f := f) hin (t := t) (i := i) (by omega) (by omega); omega))) ?_
                refine opsT_end ?_
                refine post_block ?_
                refine post_then ?_
                refine tri_region (todo := [0, 1]) rfl ?_
                refine kO 2 2 [(73, ii ((i : Int) + 1))] [5, 12, 45, 10, 39, 38, 1, 40, 46] [I64 ((i : Int) + 1)] (ap1 (by first | omega | ((try simp only [Nat.zero_add]); have z1 := wtsTo_len n c v (6 * n); have z2 := wts_bound (c := c) hin10 k; have z3 := sumTo_bound (F := fun i => (wtsTo n c v (6 * n)).getD i 0) (N := (wtsTo n c v (6 * n)).length) (B := 9000000) (by omega) (fun i _ => wts_bound hin10 i) k (by omega); omega) | (have z1 := wtsTo_len n c v (6 * n); have z3 := hS1; have z4 := sumTo_bound (N := nv) (B := 1000000) (by omega) hin x (by omega); have z5 := hin x (by omega); omega) | (have z1 := wtsTo_len n c v (6 * n); have z3 := hS1; have z4 := sumTo_bound (N := nv) (B := 1000000) (by omega) hin nv (by omega); have z5 := facesTo_bound (c := c) hin10 (x := 4 * t + f) (by omega); have z6 := faceTo_bound hin (t := t) (f := f) (by omega) i (by omega); have z7 := arcP_bound (f := f) hin (t := t) (i := i) (by omega) (by omega); omega))) ?_
                refine opsT_end ?_
                refine post_leq (l' := [(73, ii ((i : Int) + 1)), (5, ii ((((sumTo (wtsTo n c v (6 * n)).length (fun i => (wtsTo n c v (6 * n)).getD i 0)) + sumTo nv v) - facesTo c v (4 * t + f)) - faceTo v t f (i + 1))), (12, ii (f : Int)), (45, .agg #[ii (c t 0), ii (c t 1), ii (c t 2), ii (c t 3), ii (c t 4), ii (c t 5), ii (c t 6), ii (c t 7), ii (c t 8), ii (c t 9), ii (c t 10), ii (c t 11), ii (c t 12), ii (c t 13), ii (c t 14), ii (c t 15), ii (c t 16), ii (c t 17), ii (c t 18), ii (c t 19)]), (10, ii (t : Int)), (39, ii ((n : Nat) : Int)), (38, sl b off n cap), (1, sl bv ov nv cv), (40, ii (t : Int)), (46, ii (f : Int))]) (by rw [show ((((sumTo (wtsTo n c v (6 * n)).length (fun i => (wtsTo n c v (6 * n)).getD i 0)) + sumTo nv v) - facesTo c v (4 * t + f)) - faceTo v t f (i + 1) : Int) = ((((sumTo (wtsTo n c v (6 * n)).length (fun i => (wtsTo n c v (6 * n)).getD i 0)) + sumTo nv v) - facesTo c v (4 * t + f)) - faceTo v t f i) - (arcP v t f i) by rw [faceTo, if_neg (by omega)]; omega]) ?_
                refine post_round (i + 1) (by omega) (by show 4 - (i + 1) < 4 - i; omega) (look_pickL (ks := [12, 45, 10, 39, 38, 1, 40, 46, 73, 5]) (by kernel_rfl)) (List.Sublist.refl _)
              · simp only [Bool.not_eq_false', decide_eq_true_eq] at h7
                refine tri_skip ?_
                refine post_block ?_
                refine post_then ?_
                refine tri_region (todo := [0, 1]) rfl ?_
                refine kO 2 2 [(73, ii ((i : Int) + 1))] [12, 45, 10, 39, 38, 1, 40, 46, 5] [I64 ((i : Int) + 1)] (ap1 (by first | omega | ((try simp only [Nat.zero_add]); have z1 := wtsTo_len n c v (6 * n); have z2 := wts_bound (c := c) hin10 k; have z3 := sumTo_bound (F := fun i => (wtsTo n c v (6 * n)).getD i 0) (N := (wtsTo n c v (6 * n)).length) (B := 9000000) (by omega) (fun i _ => wts_bound hin10 i) k (by omega); omega) | (have z1 := wtsTo_len n c v (6 * n); have z3 := hS1; have z4 := sumTo_bound (N := nv) (B := 1000000) (by omega) hin x (by omega); have z5 := hin x (by omega); omega) | (have z1 := wtsTo_len n c v (6 * n); have z3 := hS1; have z4 := sumTo_bound (N := nv) (B := 1000000) (by omega) hin nv (by omega); have z5 := facesTo_bound (c := c) hin10 (x := 4 * t + f) (by omega); have z6 := faceTo_bound hin (t := t) (f := f) (by omega) i (by omega); have z7 := arcP_bound (f := f) hin (t := t) (i := i) (by omega) (by omega); omega))) ?_
                refine opsT_end ?_
                refine post_leq (l' := [(73, ii ((i : Int) + 1)), (12, ii (f : Int)), (45, .agg #[ii (c t 0), ii (c t 1), ii (c t 2), ii (c t 3), ii (c t 4), ii (c t 5), ii (c t 6), ii (c t 7), ii (c t 8), ii (c t 9), ii (c t 10), ii (c t 11), ii (c t 12), ii (c t 13), ii (c t 14), ii (c t 15), ii (c t 16), ii (c t 17), ii (c t 18), ii (c t 19)]), (10, ii (t : Int)), (39, ii ((n : Nat) : Int)), (38, sl b off n cap), (1, sl bv ov nv cv), (40, ii (t : Int)), (46, ii (f : Int)), (5, ii ((((sumTo (wtsTo n c v (6 * n)).length (fun i => (wtsTo n c v (6 * n)).getD i 0)) + sumTo nv v) - facesTo c v (4 * t + f)) - faceTo v t f (i + 1)))]) (by rw [show ((((sumTo (wtsTo n c v (6 * n)).length (fun i => (wtsTo n c v (6 * n)).getD i 0)) + sumTo nv v) - facesTo c v (4 * t + f)) - faceTo v t f (i + 1) : Int) = (((sumTo (wtsTo n c v (6 * n)).length (fun i => (wtsTo n c v (6 * n)).getD i 0)) + sumTo nv v) - facesTo c v (4 * t + f)) - faceTo v t f i by rw [faceTo, if_pos (by omega)]; omega]) ?_
                refine post_round (i + 1) (by omega) (by show 4 - (i + 1) < 4 - i; omega) (look_pickL (ks := [12, 45, 10, 39, 38, 1, 40, 46, 73, 5]) (by kernel_rfl)) (List.Sublist.refl _)
            · refine tri_exit ?_
              refine post_then_exit ?_
              refine post_round_exit ?_
              refine post_block_hit ?_
              refine post_block ?_
              refine post_then ?_
              refine tri_region (todo := [0, 1]) rfl ?_
              refine kO 2 2 [(46, ii ((f : Int) + 1))] [45, 10, 39, 38, 1, 40, 5] [I64 ((f : Int) + 1)] (ap1 (by first | omega | ((try simp only [Nat.zero_add]); have z1 := wtsTo_len n c v (6 * n); have z2 := wts_bound (c := c) hin10 k; have z3 := sumTo_bound (F := fun i => (wtsTo n c v (6 * n)).getD i 0) (N := (wtsTo n c v (6 * n)).length) (B := 9000000) (by omega) (fun i _ => wts_bound hin10 i) k (by omega); omega) | (have z1 := wtsTo_len n c v (6 * n); have z3 := hS1; have z4 := sumTo_bound (N := nv) (B := 1000000) (by omega) hin x (by omega); have z5 := hin x (by omega); omega) | (have z1 := wtsTo_len n c v (6 * n); have z3 := hS1; have z4 := sumTo_bound (N := nv) (B := 1000000) (by omega) hin nv (by omega); have z5 := facesTo_bound (c := c) hin10 (x := 4 * t + f) (by omega); have z6 := faceTo_bound hin (t := t) (f := f) (by omega) i (by omega); have z7 := arcP_bound (f := f) hin (t := t) (i := i) (by omega) (by omega); omega))) ?_
              refine opsT_end ?_
              refine post_leq (l' := [(46, ii ((f : Int) + 1)), (45, .agg #[ii (c t 0), ii (c t 1), ii (c t 2), ii (c t 3), ii (c t 4), ii (c t 5), ii (c t 6), ii (c t 7), ii (c t 8), ii (c t 9), ii (c t 10), ii (c t 11), ii (c t 12), ii (c t 13), ii (c t 14), ii (c t 15), ii (c t 16), ii (c t 17), ii (c t 18), ii (c t 19)]), (10, ii (t : Int)), (39, ii ((n : Nat) : Int)), (38, sl b off n cap), (1, sl bv ov nv cv), (40, ii (t : Int)), (5, ii (((sumTo (wtsTo n c v (6 * n)).length (fun i => (wtsTo n c v (6 * n)).getD i 0)) + sumTo nv v) - facesTo c v (4 * t + (f + 1))))]) (by rw [show (((sumTo (wtsTo n c v (6 * n)).length (fun i => (wtsTo n c v (6 * n)).getD i 0)) + sumTo nv v) - facesTo c v (4 * t + (f + 1)) : Int) = (((sumTo (wtsTo n c v (6 * n)).length (fun i => (wtsTo n c v (6 * n)).getD i 0)) + sumTo nv v) - facesTo c v (4 * t + f)) - faceTo v t f i by rw [← Nat.add_assoc, facesTo_step (by omega), if_neg (by unfold SkipE; omega), show i = 4 by omega]; omega]) ?_
              refine post_round (f + 1) (by omega) (by show 4 - (f + 1) < 4 - f; omega) (look_pickL (ks := [45, 10, 39, 38, 1, 40, 46, 5]) (by kernel_rfl)) (.cons _ (List.Sublist.refl _))
        · refine tri_exit ?_
          refine post_then_exit ?_
          refine post_round_exit ?_
          refine post_block_hit ?_
          refine post_block ?_
          refine post_then ?_
          refine tri_region (todo := [0, 1]) rfl ?_
          refine kO 2 2 [(40, ii ((t : Int) + 1))] [39, 38, 1, 5] [I64 ((t : Int) + 1)] (ap1 (by first | omega | ((try simp only [Nat.zero_add]); have z1 := wtsTo_len n c v (6 * n); have z2 := wts_bound (c := c) hin10 k; have z3 := sumTo_bound (F := fun i => (wtsTo n c v (6 * n)).getD i 0) (N := (wtsTo n c v (6 * n)).length) (B := 9000000) (by omega) (fun i _ => wts_bound hin10 i) k (by omega); omega) | (have z1 := wtsTo_len n c v (6 * n); have z3 := hS1; have z4 := sumTo_bound (N := nv) (B := 1000000) (by omega) hin x (by omega); have z5 := hin x (by omega); omega) | (have z1 := wtsTo_len n c v (6 * n); have z3 := hS1; have z4 := sumTo_bound (N := nv) (B := 1000000) (by omega) hin nv (by omega); have z5 := facesTo_bound (c := c) hin10 (x := 4 * t + f) (by omega); have z6 := faceTo_bound hin (t := t) (f := f) (by omega) i (by omega); have z7 := arcP_bound (f := f) hin (t := t) (i := i) (by omega) (by omega); omega))) ?_
          refine opsT_end ?_
          refine post_leq (l' := [(40, ii ((t : Int) + 1)), (39, ii ((n : Nat) : Int)), (38, sl b off n cap), (1, sl bv ov nv cv), (5, ii (((sumTo (wtsTo n c v (6 * n)).length (fun i => (wtsTo n c v (6 * n)).getD i 0)) + sumTo nv v) - facesTo c v (4 * (t + 1))))]) (by rw [show (((sumTo (wtsTo n c v (6 * n)).length (fun i => (wtsTo n c v (6 * n)).getD i 0)) + sumTo nv v) - facesTo c v (4 * (t + 1)) : Int) = ((sumTo (wtsTo n c v (6 * n)).length (fun i => (wtsTo n c v (6 * n)).getD i 0)) + sumTo nv v) - facesTo c v (4 * t + f) by rw [show 4 * (t + 1) = 4 * t + f by omega]]) ?_
          refine post_round (t + 1) (by omega) (by show n - (t + 1) < n - t; omega) (look_pickL (ks := [39, 38, 1, 40, 5]) (by kernel_rfl)) (.cons _ (List.Sublist.refl _))
      · refine tri_exit ?_
        refine post_then_exit ?_
        refine post_round_exit ?_
        refine post_block_hit ?_
        refine post_then ?_
        refine wr [0, 1] rfl ?_
        refine kSe 2 0 [(4, ii (((sumTo (wtsTo n c v (6 * n)).length (fun i => (wtsTo n c v (6 * n)).getD i 0)) + sumTo nv v) - facesTo c v (4 * t)))] [] ?_
        refine tri_ret ?_
        refine post_ret1 (v := ii (((sumTo (wtsTo n c v (6 * n)).length (fun i => (wtsTo n c v (6 * n)).getD i 0)) + sumTo nv v) - facesTo c v (4 * t))) rfl (.tmp rfl) (fun W hR => ?_)
        exact ⟨by rw [show t = n by omega, sumL_getD, hnv]; rfl, hR.ext⟩
end Go.Proofs.YtlkbokbcfajhjaaGreat
