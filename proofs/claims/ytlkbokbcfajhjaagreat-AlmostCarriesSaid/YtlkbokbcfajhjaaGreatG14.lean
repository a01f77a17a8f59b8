/- G14: weights -/
import Derived.Test.YtlkbokbcfajhjaaGreatG13
import Derived.Test.YtlkbokbcfajhjaaGreatBA
import Derived.Test.YtlkbokbcfajhjaaGreatB17
import Derived.Test.YtlkbokbcfajhjaaGreatD1
namespace Go.Proofs.YtlkbokbcfajhjaaGreat
open Go.Proofs.Walk
set_option maxRecDepth 100000
set_option linter.unusedVariables false
set_option linter.unusedSimpArgs false

theorem At.perm {W : World} {b off n : Nat} {c : Nat → Nat → Int} (hc : At W b off n c) {t f : Nat} (ht : t < n) (hf : f < 4) : Cells W b (off + t * 20 + f * 5 + 1) [.int .i64 (c t (f * 5 + 1)), .int .i64 (c t (f * 5 + 2)), .int .i64 (c t (f * 5 + 3)), .int .i64 (c t (f * 5 + 4))] := by
  have := hc.cells ht (f * 5 + 1) 4 [.int .i64 (c t (f * 5 + 1)), .int .i64 (c t (f * 5 + 2)), .int .i64 (c t (f * 5 + 3)), .int .i64 (c t (f * 5 + 4))] (by omega) fun i v hi => by
    rcases i with _ | _ | _ | _ | i <;> simp at hi <;> first | (subst hi; exact ⟨by omega, rfl⟩) | skip
  exact this
theorem four (c : Nat → Nat → Int) (t f : Nat) {i : Nat} (hi : i < 4) : [c t (f * 5 + 1), c t (f * 5 + 2), c t (f * 5 + 3), c t (f * 5 + 4)].getD (0 + i) 0 = c t (f * 5 + 1 + i) := by
  have h1 : i = 0 ∨ i = 1 ∨ i = 2 ∨ i = 3 := by omega
  rcases h1 with rfl | rfl | rfl | rfl <;> rfl
theorem edgeN_lt' (i j : Nat) : edgeN i j < 6 := by
  unfold edgeN
  generalize i * 4 + j = m
  rcases Nat.lt_or_ge m 16 with h | h
  · exact (by decide : ∀ m : Fin 16, ([0, 0, 1, 2, 0, 0, 3, 4, 1, 3, 0, 5, 2, 4, 5, 0] : List Nat).getD m.1 0 < 6) ⟨m, h⟩
  · rw [List.getD, List.getElem?_eq_none (by simpa using h)]; simp
theorem glued_ne {n : Nat} {c : Nat → Nat → Int} (hg : GlueOK n c) {t f : Nat} (ht : t < n) (hf : f < 4) (h : ¬ Skip c t f) {i j : Nat} (hi : i < 4) (hj : j < 4) (hij : i ≠ j) : c t (f * 5 + 1 + i) ≠ c t (f * 5 + 1 + j) := by
  have hF := hg.2 (4 * t + f) (by omega)
  rw [show (4 * t + f) / 4 = t by omega, show (4 * t + f) % 4 = f by omega] at hF
  rcases hF with hF | ⟨h1, h2, h3, _⟩
  · exact absurd (Or.inl (by omega)) h
  · have := sel_ne h3 hi hj hij
    rw [sel_at c t f hi, sel_at c t f hj] at this
    exact this

theorem weights_ {b off n cap bv ov nv cv : Nat} {c : Nat → Nat → Int} {v : Nat → Int} {w : World} (hc : At w b off n c) (hv : AtV w bv ov nv v) (hg : GlueOK n c) (hn : n ≤ 60) (hn0 : 0 < n) (hnv : nv = 10 * n) (hin : InR nv v) : Calls Tryz.prog 50 #[.agg #[sl b off n cap], sl bv ov nv cv] w fun e w' => ∃ p : Value × List (Nat × Obj), Vec 3 1 ((wtsTo n c v (6 * n)).map (Value.int .i64)) (wtsTo n c v (6 * n)).length p.1 p.2 ∧ e = .returned p.1 ∧ Rep w [] p.2 w' := by
  refine calls_ofMarks (n := 97) Tryz.func50 rfl Tryz.ntmps50 rfl (Rep.refl _) ?_
  refine tri_eq (l' := [(0, .agg #[sl b off n cap]), (1, sl bv ov nv cv)]) (hs' := []) rfl rfl ?_
  refine wr [0, 1] rfl ?_
  refine kB (.agg #[sl b off n cap]) fun b1 => ?_
  refine kSn 1 0 [(4, .slice none 0 0)] [2, 1] [0, 1, 2] ?_
  refine opsT_callR (f := 94) (args := #[]) [] [(b1, .cells #[sl b off n cap] 24 (0, 0))] (fun b : Nat × List (Nat × Obj) => .pointer (some ⟨b.1, 0, none⟩)) (fun b => b.2) (fun b => U0 (κ := Int) 229 (Value.int .i64) b.1 b.2) rfl rfl rfl rfl rfl (run_call en94 rfl rfl rfl (by kernel_rfl)) (List.Perm.refl _) (fun W hR => newI W) ?_
  rintro ⟨bu, u0⟩ hU0
  refine opsT_perm (hs' := (b1, .cells #[sl b off n cap] 24 (0, 0)) :: u0) (List.perm_append_comm (l₂ := ([(b1, .cells #[sl b off n cap] 24 (0, 0))] : List (Nat × Obj)))) ?_
  refine kA (.pointer none) fun b2 => ?_
  refine kW 0 #[pt bu 0] ?_
  refine kPe [5, 4, 2, 1] ?_
  refine tri_seq ?_
  refine wr [0, 1, 2, 3, 4] rfl ?_
  refine kS 1 0 [(13, pt b1 0)] [5, 4, 2, 1] ?_
  refine kL 1 (sl b off n cap) ?_
  refine kOe 3 32 [(17, ii 0), (16, ii (6 * ((n : Nat) : Int)))] [5, 4, 2, 1] [I64 (6 * ((n : Nat) : Int))] (ap1 (by first | omega | (have z1 := edgeN_lt' i q; have z2 := edgeN_lt' (c t (f * 5 + 1 + i)).toNat (c t (f * 5 + 1 + q)).toNat; omega) | (have z3 := wtsTo_len n c v x; omega) | assumption)) ?_
  refine tri_block ?_
  refine tri_loop (β := Nat × List (Nat × Obj)) (fun xz => [(16, ii (6 * ((n : Nat) : Int))), (5, pt b2 0), (4, .slice none 0 0), (2, pt b1 0), (1, sl bv ov nv cv), (17, ii (xz.1 : Int))]) (fun xz => (b2, .cells #[pt bu 0] 137 (0, 0)) :: (b1, .cells #[sl b off n cap] 24 (0, 0)) :: xz.2) (fun xz => xz.1 ≤ 6 * n ∧ Reg bu xz.1 xz.2) (fun xz => 6 * n - xz.1) (0, u0) (look_pickL (ks := [16, 5, 4, 2, 1, 17]) (by kernel_rfl)) (List.Sublist.refl _) ⟨Nat.zero_le _, .inl ⟨rfl, hU0⟩⟩ ?_
  rintro ⟨x, u⟩ hC0
  try dsimp only at hC0
  refine tri_eq (l' := [(16, ii (6 * ((n : Nat) : Int))), (5, pt b2 0), (4, .slice none 0 0), (2, pt b1 0), (1, sl bv ov nv cv), (17, ii (x : Int))]) (hs' := (b2, .cells #[pt bu 0] 137 (0, 0)) :: (b1, .cells #[sl b off n cap] 24 (0, 0)) :: u) rfl rfl ?_
  refine wr [0] rfl ?_
  refine kSe 1 5 [(18, .bool (decide ((x : Int) < 6 * ((n : Nat) : Int))))] [16, 5, 4, 2, 1, 17] ?_
  refine tri_seq ?_
  refine tri_cond_dec (p := (x : Int) < 6 * ((n : Nat) : Int)) rfl (fun h1 => ?_) (fun h1 => ?_)
  · refine tri_skip ?_
    refine post_then ?_
    refine tri_seq ?_
    refine tri_block ?_
    refine wr [0, 1] rfl ?_
    refine kSe 2 0 [(6, ii (x : Int))] [16, 5, 4, 2, 1, 17] ?_
    refine tri_region (todo := [0, 1, 2]) rfl ?_
    refine kL 0 (pt bu 0) ?_
    refine kS 1 0 [(21, ii (x : Int))] [20, 16, 5, 4, 2, 1, 17] ?_
    refine kR en95 #[pt bu 0, ii (x : Int)] u ([(b2, .cells #[pt bu 0] 137 (0, 0)), (b1, .cells #[sl b off n cap] 24 (0, 0))]) (fun _ => ii (x : Int)) (fun u => u) (fun u => Reg bu (x + 1) u) rfl (List.perm_append_comm (l₁ := ([(b2, .cells #[pt bu 0] 137 (0, 0)), (b1, .cells #[sl b off n cap] 24 (0, 0))] : List (Nat × Obj))) (l₂ := u)) (fun W hR => reg_step hC0.2 (Rep.mineOf hR) (by omega)) (fun u1 hU1 => ?_) (by kernel_rfl)
    refine opsT_perm (hs' := (b2, .cells #[pt bu 0] 137 (0, 0)) :: (b1, .cells #[sl b off n cap] 24 (0, 0)) :: u1) (List.perm_append_comm (l₁ := u1) (l₂ := ([(b2, .cells #[pt bu 0] 137 (0, 0)), (b1, .cells #[sl b off n cap] 24 (0, 0))] : List (Nat × Obj)))) ?_
    refine kP [16, 5, 4, 2, 1, 17] ?_
    refine opsT_end ?_
    refine post_block ?_
    refine post_then ?_
    refine tri_region (todo := [0, 1]) rfl ?_
    refine kO 2 2 [(17, ii ((x : Int) + 1))] [16, 5, 4, 2, 1] [I64 ((x : Int) + 1)] (ap1 (by first | omega | (have z1 := edgeN_lt' i q; have z2 := edgeN_lt' (c t (f * 5 + 1 + i)).toNat (c t (f * 5 + 1 + q)).toNat; omega) | (have z3 := wtsTo_len n c v x; omega) | assumption)) ?_
    refine opsT_end ?_
    refine post_round ((x + 1), u1) ⟨by omega, hU1⟩ (by show 6 * n - (x + 1) < 6 * n - x; omega) (look_pickL (ks := [16, 5, 4, 2, 1, 17]) (by kernel_rfl)) (List.Sublist.refl _)
  · refine tri_exit ?_
    refine post_then_exit ?_
    refine post_round_exit ?_
    refine post_block_hit ?_
    refine post_then ?_
    refine tri_seq ?_
    refine wr [0, 1] rfl ?_
    refine kL 1 (.agg #[sl b off n cap]) ?_
    refine opsT_callR (f := 96) (args := #[.agg #[sl b off n cap]]) [] ((b2, .cells #[pt bu 0] 137 (0, 0)) :: (b1, .cells #[sl b off n cap] 24 (0, 0)) :: u) (fun bg => .func (.func 167) #[] #[.pointer (some ⟨bg, 0, none⟩)]) (fun bg => [(bg, .cells #[sl b off n cap] 24 (0, 0))]) (fun _ => True) rfl rfl rfl rfl rfl (run_call en96 rfl rfl rfl (by kernel_rfl)) (List.Perm.refl _) (fun W hR => matches_ _ W) (fun bg1 _ => ?_)
    refine opsT_heq (hs' := (bg1, .cells #[sl b off n cap] 24 (0, 0)) :: (b2, .cells #[pt bu 0] 137 (0, 0)) :: (b1, .cells #[sl b off n cap] 24 (0, 0)) :: u) rfl ?_
    have hUN : UN 229 (Value.int .i64) bu (keysTo (6 * n)) (fun j => j) u := by rcases hC0.2 with ⟨h0, _⟩ | ⟨_, h⟩ <;> first | (exfalso; omega) | (rw [show 6 * n = x by omega]; exact h)
    refine kPe [25, 5, 4, 2, 1] ?_
    refine tri_block ?_
    refine tri_range (β := List (Nat × Obj)) (capt := [(bg1, .cells #[sl b off n cap] 24 (0, 0))]) (own := []) (N := (eqns n c).length) (xs := (fun k => matchV c ((eqns n c).getD k (0, 0, 0)))) (fun xz => (b2, .cells #[pt bu 0] 137 (0, 0)) :: (b1, .cells #[sl b off n cap] 24 (0, 0)) :: xz) (fun k xz => UN 229 (Value.int .i64) bu (keysTo (6 * n)) ((joinsTo n c k).foldl joinR (fun j => j)) xz) (fun cx xz => False) u rfl en167 (matches_iter (by omega) hc (by simp)) (by first | rfl | simp) hUN (fun k hk => rfl) (fun k hk => rfl) ?_ ?_ ?_
    · rintro k hk u1 hI L1 rc1 own1 hst
      dsimp only at hI ⊢
      have hm := getD_mem' (d := (0, 0, 0)) hk
      generalize hp : (eqns n c).getD k (0, 0, 0) = p at hm ⊢
      obtain ⟨t, f, i⟩ := p
      obtain ⟨m1, m2, m3, m4, m5⟩ := mem_eqns hm
      dsimp only at m1 m2 m3 m4 m5
      obtain ⟨g1, g2, g3, g4, g5, g6, g7⟩ := glued hg m1 m2 m3 m5
      have g8 := g7 m4
      refine tri_eq (l' := [(26, .agg #[ii (t : Int), ii (f : Int), ii (i : Int), ii (c t (f * 5)), ii (c t (f * 5 + 1 + f)), ii (c t (f * 5 + 1 + i))]), (25, .func (.func 167) #[] #[pt bg1 0]), (5, pt b2 0), (4, .slice none 0 0), (2, pt b1 0), (1, sl bv ov nv cv)]) (hs' := (L1, .loop rc1) :: (b2, .cells #[pt bu 0] 137 (0, 0)) :: (b1, .cells #[sl b off n cap] 24 (0, 0)) :: (u1 ++ (own1))) rfl rfl ?_
      refine tri_region (todo := [0, 1]) rfl ?_
      refine kA (.agg #[ii 0, ii 0, ii 0, ii 0, ii 0, ii 0]) fun b3 => ?_
      refine kW 0 #[ii (t : Int), ii (f : Int), ii (i : Int), ii (c t (f * 5)), ii (c t (f * 5 + 1 + f)), ii (c t (f * 5 + 1 + i))] ?_
      refine kP [7, 5, 2] ?_
      refine opsT_end ?_
      refine post_assign' (pre := [(b3, .cells #[ii (t : Int), ii (f : Int), ii (i : Int), ii (c t (f * 5)), ii (c t (f * 5 + 1 + f)), ii (c t (f * 5 + 1 + i))] 143 (0, 0))]) hst rfl ?_
      refine tri_eq (l' := [(7, pt b3 0), (5, pt b2 0), (2, pt b1 0)]) (hs' := (L1, .loop { rc1 with state := .busy }) :: (b3, .cells #[ii (t : Int), ii (f : Int), ii (i : Int), ii (c t (f * 5)), ii (c t (f * 5 + 1 + f)), ii (c t (f * 5 + 1 + i))] 143 (0, 0)) :: (b2, .cells #[pt bu 0] 137 (0, 0)) :: (b1, .cells #[sl b off n cap] 24 (0, 0)) :: (u1 ++ (own1))) rfl rfl ?_
      refine tri_block ?_
      refine tri_seq ?_
      refine tri_drawA 11 10 (fun b4 => [pt b1 0, sl b off n cap, pt b3 0, ii (t : Int), pt b3 1, ii (f : Int), pt b (off + t * 20), pt b (off + t * 20 + f * 5), pt b (off + t * 20 + f * 5 + 1), .agg #[ii (c t (f * 5 + 1)), ii (c t (f * 5 + 2)), ii (c t (f * 5 + 3)), ii (c t (f * 5 + 4))], pt b4 0]) (fun b4 => pt b4 0) (.cells #[ii 0, ii 0, ii 0, ii 0] 72 (0, 0)) (l' := fun b4 => [(8, pt b4 0), (36, .agg #[ii (c t (f * 5 + 1)), ii (c t (f * 5 + 2)), ii (c t (f * 5 + 3)), ii (c t (f * 5 + 4))]), (35, pt b (off + t * 20 + f * 5 + 1)), (34, pt b (off + t * 20 + f * 5)), (33, pt b (off + t * 20)), (32, ii (f : Int)), (31, pt b3 1), (30, ii (t : Int)), (29, pt b3 0), (28, sl b off n cap), (27, pt b1 0), (7, pt b3 0), (5, pt b2 0), (2, pt b1 0)]) (todo := [11]) (by kernel_rfl) (by kernel_rfl) (fun _ => rfl) (by kernel_rfl) (fun _ => rfl) (fun xA yA jA hjA => ?_) ?_ ?_ (lk := []) (by kernel_rfl) ?_ (fun _ => by kernel_rfl) rfl (fun b4 => ?_)
      · exact getElem?_but (f := fun b4 => [pt b1 0, sl b off n cap, pt b3 0, ii (t : Int), pt b3 1, ii (f : Int), pt b (off + t * 20), pt b (off + t * 20 + f * 5), pt b (off + t * 20 + f * 5 + 1), .agg #[ii (c t (f * 5 + 1)), ii (c t (f * 5 + 2)), ii (c t (f * 5 + 3)), ii (c t (f * 5 + 4))], pt b4 0]) (g := fun b4 => pt b4 0) 10 (fun _ => ([pt b1 0, sl b off n cap, pt b3 0, ii (t : Int), pt b3 1, ii (f : Int), pt b (off + t * 20), pt b (off + t * 20 + f * 5), pt b (off + t * 20 + f * 5 + 1), .agg #[ii (c t (f * 5 + 1)), ii (c t (f * 5 + 2)), ii (c t (f * 5 + 3)), ii (c t (f * 5 + 4))]] : List Value)) (fun _ => ([] : List Value)) (fun _ _ => rfl) (fun _ _ => rfl) (fun _ => rfl) (fun _ => rfl) xA yA jA hjA
      · show QAllX _ _ _ _ _ _ _ [pt b1 0, sl b off n cap, pt b3 0, ii (t : Int), pt b3 1, ii (f : Int), pt b (off + t * 20), pt b (off + t * 20 + f * 5), pt b (off + t * 20 + f * 5 + 1), .agg #[ii (c t (f * 5 + 1)), ii (c t (f * 5 + 2)), ii (c t (f * 5 + 3)), ii (c t (f * 5 + 4))], pt 0 0]
        refine qallx_appendE (vs := [pt b1 0, sl b off n cap, pt b3 0, ii (t : Int), pt b3 1, ii (f : Int), pt b (off + t * 20), pt b (off + t * 20 + f * 5), pt b (off + t * 20 + f * 5 + 1), .agg #[ii (c t (f * 5 + 1)), ii (c t (f * 5 + 2)), ii (c t (f * 5 + 3)), ii (c t (f * 5 + 4))]]) (vs' := [pt 0 0]) (by kernel_rfl) (by
          exact qallW [some .ex, none, some .ex, none, some .ex, none, some .at, some .at, some .ex, none] [sl b off n cap, ii (t : Int), ii (f : Int), .agg #[ii (c t (f * 5 + 1)), ii (c t (f * 5 + 2)), ii (c t (f * 5 + 3)), ii (c t (f * 5 + 4))]] [(1, [(27, pt b1 0)], sl b off n cap), (3, [(29, pt b3 0)], ii (t : Int)), (5, [(31, pt b3 1)], ii (f : Int)), (9, [(35, pt b (off + t * 20 + f * 5 + 1))], .agg #[ii (c t (f * 5 + 1)), ii (c t (f * 5 + 2)), ii (c t (f * 5 + 3)), ii (c t (f * 5 + 4))])] [(0 : Int) ≤ (t : Int), (t : Int) < ((n : Nat) : Int), (0 : Int) ≤ (f : Int), (f : Int) < ((4 : Nat) : Int)] (by kernel_rfl) (by refine ap ?_ (ap ?_ (ap ?_ (ap1 ?_))) <;> (first | omega | (have z1 := edgeN_lt' i q; have z2 := edgeN_lt' (c t (f * 5 + 1 + i)).toNat (c t (f * 5 + 1 + q)).toNat; omega) | (have z3 := wtsTo_len n c v x; omega) | assumption)) (aq (opQ_loadOwn 3 b1 0 1 #[sl b off n cap] 24 (0, 0) rfl rfl rfl rfl rfl rfl rfl rfl (by kernel_rfl)) (aq (opQ_loadOwn 1 b3 0 1 #[ii (t : Int), ii (f : Int), ii (i : Int), ii (c t (f * 5)), ii (c t (f * 5 + 1 + f)), ii (c t (f * 5 + 1 + i))] 143 (0, 0) rfl rfl rfl rfl rfl rfl rfl rfl (by kernel_rfl)) (aq (opQ_loadOwn 1 b3 1 1 #[ii (t : Int), ii (f : Int), ii (i : Int), ii (c t (f * 5)), ii (c t (f * 5 + 1 + f)), ii (c t (f * 5 + 1 + i))] 143 (0, 0) rfl rfl rfl rfl rfl rfl rfl rfl (by kernel_rfl)) (aq (opQ_loadBase b (off + t * 20 + f * 5 + 1) [ii (c t (f * 5 + 1)), ii (c t (f * 5 + 2)), ii (c t (f * 5 + 3)), ii (c t (f * 5 + 4))] rfl rfl rfl rfl rfl rfl rfl (by kernel_rfl) (by simp) (At.perm hc (by omega) (by omega))) aq0))))) rfl ?_
        refine qallx_skip rfl (qallx_of_qall (by
          exact qallW [] [] [] [] (by kernel_rfl) trivial aq0))
      · intro b4
        refine qallx_appendE (vs := [pt b1 0, sl b off n cap, pt b3 0, ii (t : Int), pt b3 1, ii (f : Int), pt b (off + t * 20), pt b (off + t * 20 + f * 5), pt b (off + t * 20 + f * 5 + 1), .agg #[ii (c t (f * 5 + 1)), ii (c t (f * 5 + 2)), ii (c t (f * 5 + 3)), ii (c t (f * 5 + 4))]]) (vs' := [pt b4 0]) (by kernel_rfl) (by
          exact qallW [some .ex, none, some .ex, none, some .ex, none, some .at, some .at, some .ex, none] [sl b off n cap, ii (t : Int), ii (f : Int), .agg #[ii (c t (f * 5 + 1)), ii (c t (f * 5 + 2)), ii (c t (f * 5 + 3)), ii (c t (f * 5 + 4))]] [(1, [(27, pt b1 0)], sl b off n cap), (3, [(29, pt b3 0)], ii (t : Int)), (5, [(31, pt b3 1)], ii (f : Int)), (9, [(35, pt b (off + t * 20 + f * 5 + 1))], .agg #[ii (c t (f * 5 + 1)), ii (c t (f * 5 + 2)), ii (c t (f * 5 + 3)), ii (c t (f * 5 + 4))])] [(0 : Int) ≤ (t : Int), (t : Int) < ((n : Nat) : Int), (0 : Int) ≤ (f : Int), (f : Int) < ((4 : Nat) : Int)] (by kernel_rfl) (by refine ap ?_ (ap ?_ (ap ?_ (ap1 ?_))) <;> (first | omega | (have z1 := edgeN_lt' i q; have z2 := edgeN_lt' (c t (f * 5 + 1 + i)).toNat (c t (f * 5 + 1 + q)).toNat; omega) | (have z3 := wtsTo_len n c v x; omega) | assumption)) (aq (opQ_loadOwn 4 b1 0 1 #[sl b off n cap] 24 (0, 0) rfl rfl rfl rfl rfl rfl rfl rfl (by kernel_rfl)) (aq (opQ_loadOwn 2 b3 0 1 #[ii (t : Int), ii (f : Int), ii (i : Int), ii (c t (f * 5)), ii (c t (f * 5 + 1 + f)), ii (c t (f * 5 + 1 + i))] 143 (0, 0) rfl rfl rfl rfl rfl rfl rfl rfl (by kernel_rfl)) (aq (opQ_loadOwn 2 b3 1 1 #[ii (t : Int), ii (f : Int), ii (i : Int), ii (c t (f * 5)), ii (c t (f * 5 + 1 + f)), ii (c t (f * 5 + 1 + i))] 143 (0, 0) rfl rfl rfl rfl rfl rfl rfl rfl (by kernel_rfl)) (aq (opQ_loadBase b (off + t * 20 + f * 5 + 1) [ii (c t (f * 5 + 1)), ii (c t (f * 5 + 2)), ii (c t (f * 5 + 3)), ii (c t (f * 5 + 4))] rfl rfl rfl rfl rfl rfl rfl (by kernel_rfl) (by simp) (At.perm hc (by omega) (by omega))) aq0))))) rfl ?_
        refine qallx_skip rfl (qallx_of_qall (by
          exact qallW [] [] [] [] (by kernel_rfl) trivial aq0))
      · exact opA_alloc (.agg #[ii 0, ii 0, ii 0, ii 0]) rfl rfl rfl rfl rfl rfl (by kernel_rfl)
      refine opsT_heq (hs' := (b4, .cells #[ii 0, ii 0, ii 0, ii 0] 72 (0, 0)) :: (L1, .loop { rc1 with state := .busy }) :: (b3, .cells #[ii (t : Int), ii (f : Int), ii (i : Int), ii (c t (f * 5)), ii (c t (f * 5 + 1 + f)), ii (c t (f * 5 + 1 + i))] 143 (0, 0)) :: (b2, .cells #[pt bu 0] 137 (0, 0)) :: (b1, .cells #[sl b off n cap] 24 (0, 0)) :: (u1 ++ (own1))) rfl ?_
      refine kW 0 #[ii (c t (f * 5 + 1)), ii (c t (f * 5 + 2)), ii (c t (f * 5 + 3)), ii (c t (f * 5 + 4))] ?_
      refine kP [8, 7, 5] ?_
      refine wn [0] rfl ?_
      refine kSe 1 0 [(37, ii 0)] [8, 7, 5] ?_
      refine tri_block ?_
      refine tri_loop (β := Nat × List (Nat × Obj)) (fun xz => [(8, pt b4 0), (7, pt b3 0), (5, pt b2 0), (37, ii (xz.1 : Int))]) (fun xz => (b4, .cells #[ii (c t (f * 5 + 1)), ii (c t (f * 5 + 2)), ii (c t (f * 5 + 3)), ii (c t (f * 5 + 4))] 72 (0, 0)) :: (L1, .loop { rc1 with state := .busy }) :: (b3, .cells #[ii (t : Int), ii (f : Int), ii (i : Int), ii (c t (f * 5)), ii (c t (f * 5 + 1 + f)), ii (c t (f * 5 + 1 + i))] 143 (0, 0)) :: (b2, .cells #[pt bu 0] 137 (0, 0)) :: (b1, .cells #[sl b off n cap] 24 (0, 0)) :: (xz.2 ++ (own1))) (fun xz => xz.1 ≤ 4 ∧ UN 229 (Value.int .i64) bu (keysTo (6 * n)) ((edgesTo c (t, f, i) xz.1).foldl joinR ((joinsTo n c k).foldl joinR (fun j => j))) xz.2) (fun xz => 4 - xz.1) (0, u1) (look_pickL (ks := [8, 7, 5, 37]) (by kernel_rfl)) (List.Sublist.refl _) ⟨Nat.zero_le _, hI⟩ ?_
      rintro ⟨q, u2⟩ hC2
      try dsimp only at hC2
      refine tri_eq (l' := [(8, pt b4 0), (7, pt b3 0), (5, pt b2 0), (37, ii (q : Int))]) (hs' := (b4, .cells #[ii (c t (f * 5 + 1)), ii (c t (f * 5 + 2)), ii (c t (f * 5 + 3)), ii (c t (f * 5 + 4))] 72 (0, 0)) :: (L1, .loop { rc1 with state := .busy }) :: (b3, .cells #[ii (t : Int), ii (f : Int), ii (i : Int), ii (c t (f * 5)), ii (c t (f * 5 + 1 + f)), ii (c t (f * 5 + 1 + i))] 143 (0, 0)) :: (b2, .cells #[pt bu 0] 137 (0, 0)) :: (b1, .cells #[sl b off n cap] 24 (0, 0)) :: (u2 ++ (own1))) rfl rfl ?_
      refine wr [0] rfl ?_
      refine kSe 1 5 [(38, .bool (decide ((q : Int) < 4)))] [8, 7, 5, 37] ?_
      refine tri_seq ?_
      refine tri_cond_dec (p := (q : Int) < 4) rfl (fun h2 => ?_) (fun h2 => ?_)
      · refine tri_skip ?_
        refine post_then ?_
        refine tri_seq ?_
        refine tri_block ?_
        refine wr [0, 1] rfl ?_
        refine kSe 2 0 [(9, ii (q : Int))] [8, 7, 5, 37] ?_
        refine tri_seq ?_
        by_cases h3 : (q : Int) = (f : Int)
        · refine tri_region (todo := [0, 1, 2, 3, 4, 5, 6, 7, 8, 9]) rfl ?_
          refine kS 2 0 [(41, pt b3 1), (40, ii (q : Int))] [9, 8, 7, 5, 37] ?_
          refine kL 2 (ii (f : Int)) ?_
          refine kOe 7 1118471 [(49, .bool false)] [9, 8, 7, 5, 37] [¬ ((q : Int) ≠ (f : Int))] (fun hn => hn h3) ?_
          refine tri_cond_false rfl ?_
          refine tri_skip ?_
          refine post_block ?_
          refine post_then ?_
          refine tri_region (todo := [0, 1]) rfl ?_
          refine kO 2 2 [(37, ii ((q : Int) + 1))] [8, 7, 5] [I64 ((q : Int) + 1)] (ap1 (by first | omega | (have z1 := edgeN_lt' i q; have z2 := edgeN_lt' (c t (f * 5 + 1 + i)).toNat (c t (f * 5 + 1 + q)).toNat; omega) | (have z3 := wtsTo_len n c v x; omega) | assumption)) ?_
          refine opsT_end ?_
          refine post_round ((q + 1), u2) ⟨by omega, (by show UN _ _ _ _ _ _; rw [edgesTo_skip (p := (t, f, i)) (by show ¬ (q ≠ f ∧ q ≠ i); omega)]; exact hC2.2)⟩ (by show 4 - (q + 1) < 4 - q; omega) (look_pickL (ks := [8, 7, 5, 37]) (by kernel_rfl)) (List.Sublist.refl _)
        · refine tri_region (todo := [0, 1, 2, 3, 4, 5, 6, 7, 8, 9]) rfl ?_
          refine kS 2 0 [(41, pt b3 1), (40, ii (q : Int))] [9, 8, 7, 5, 37] ?_
          refine kL 2 (ii (f : Int)) ?_
          refine kO 4 6 [(46, pt b3 2), (45, ii (q : Int)), (44, .bool true)] [9, 8, 7, 5, 37] [(q : Int) ≠ (f : Int)] h3 ?_
          refine kL 2 (ii (i : Int)) ?_
          refine kSe 2 5 [(49, .bool (!decide ((q : Int) = (i : Int))))] [9, 8, 7, 5, 37] ?_
          refine tri_cond (b := !decide ((q : Int) = (i : Int))) rfl (fun h4 => ?_) (fun h4 => ?_)
          · simp only [Bool.not_eq_true', decide_eq_false_iff_not] at h4
            refine kD 21 0x200900900200200002000 [0, 2, 5, 7, 10, 13, 15, 18, 19] [pt bu 0, ii (t : Int), ii (i : Int), ii ((edgeN i q : Nat) : Int), ii (c t (f * 5)), ii (i : Int), ii ([c t (f * 5 + 1), c t (f * 5 + 2), c t (f * 5 + 3), c t (f * 5 + 4)].getD (0 + i + 0) 0), ii ([c t (f * 5 + 1), c t (f * 5 + 2), c t (f * 5 + 3), c t (f * 5 + 4)].getD (0 + q + 0) 0), ii ((edgeN ((c t (f * 5 + 1 + i)).toNat) ((c t (f * 5 + 1 + q)).toNat) : Nat) : Int)] [(70, ii ((6 * (c t (f * 5))) + ((edgeN ((c t (f * 5 + 1 + i)).toNat) ((c t (f * 5 + 1 + q)).toNat) : Nat) : Int))), (58, ii ((6 * (t : Int)) + ((edgeN i q : Nat) : Int))), (50, pt bu 0)] [8, 7, 5, 37] [I64 (6 * (t : Int)), I64 ((6 * (t : Int)) + ((edgeN i q : Nat) : Int)), I64 (6 * (c t (f * 5))), (0 : Int) ≤ (i : Int), (i : Int) < ((4 : Nat) : Int), (0 : Int) ≤ (q : Int), (q : Int) < ((4 : Nat) : Int), I64 ((6 * (c t (f * 5))) + ((edgeN ((c t (f * 5 + 1 + i)).toNat) ((c t (f * 5 + 1 + q)).toNat) : Nat) : Int))] [21] rfl (by refine ap ?_ (ap ?_ (ap ?_ (ap ?_ (ap ?_ (ap ?_ (ap ?_ (ap1 ?_))))))) <;> (first | omega | (have z1 := edgeN_lt' i q; have z2 := edgeN_lt' (c t (f * 5 + 1 + i)).toNat (c t (f * 5 + 1 + q)).toNat; omega) | (have z3 := wtsTo_len n c v x; omega) | assumption)) (qA (qL 3) (qA (qL 2) (qA (qL 2) (qA (qC en98 #[ii (i : Int), ii (q : Int)] rfl (fun W hR => (by exact edge_ (i := (i : Int)) (j := (q : Int)) (by omega) (by omega) (by omega) (by omega) (by omega) W)) (by kernel_rfl)) (qA (qL 2) (qA (qL 2) (qA (qI 0 (0 + i) 1 [c t (f * 5 + 1), c t (f * 5 + 2), c t (f * 5 + 3), c t (f * 5 + 4)] (by simp <;> omega)) (qA (qI 0 (0 + q) 1 [c t (f * 5 + 1), c t (f * 5 + 2), c t (f * 5 + 3), c t (f * 5 + 4)] (by simp <;> omega)) (qA (qC en98 #[ii ([c t (f * 5 + 1), c t (f * 5 + 2), c t (f * 5 + 3), c t (f * 5 + 4)].getD (0 + i + 0) 0), ii ([c t (f * 5 + 1), c t (f * 5 + 2), c t (f * 5 + 3), c t (f * 5 + 4)].getD (0 + q + 0) 0)] rfl (fun W hR => (by rw [show [c t (f * 5 + 1), c t (f * 5 + 2), c t (f * 5 + 3), c t (f * 5 + 4)].getD (0 + i + 0) 0 = c t (f * 5 + 1 + i) from four c t f (by omega), show [c t (f * 5 + 1), c t (f * 5 + 2), c t (f * 5 + 3), c t (f * 5 + 4)].getD (0 + q + 0) 0 = c t (f * 5 + 1 + q) from four c t f (by omega)]; have hq4 : q < 4 := (by omega); obtain ⟨_, _, _, _, y1, y2, _⟩ := glued hg m1 m2 hq4 m5; have y3 := glued_ne hg m1 m2 m5 m3 hq4 (by omega); exact edge_ (i := (c t (f * 5 + 1 + i))) (j := (c t (f * 5 + 1 + q))) (by omega) (by omega) (by omega) (by omega) (by omega) W)) (by kernel_rfl)) qZ))))))))) ?_ (by kernel_rfl)
            refine kR en97 #[pt bu 0, ii ((6 * (t : Int)) + ((edgeN i q : Nat) : Int)), ii ((6 * (c t (f * 5))) + ((edgeN ((c t (f * 5 + 1 + i)).toNat) ((c t (f * 5 + 1 + q)).toNat) : Nat) : Int))] u2 ((b4, .cells #[ii (c t (f * 5 + 1)), ii (c t (f * 5 + 2)), ii (c t (f * 5 + 3)), ii (c t (f * 5 + 4))] 72 (0, 0)) :: (L1, .loop { rc1 with state := .busy }) :: (b3, .cells #[ii (t : Int), ii (f : Int), ii (i : Int), ii (c t (f * 5)), ii (c t (f * 5 + 1 + f)), ii (c t (f * 5 + 1 + i))] 143 (0, 0)) :: (b2, .cells #[pt bu 0] 137 (0, 0)) :: (b1, .cells #[sl b off n cap] 24 (0, 0)) :: own1) (fun _ => .tuple #[]) (fun u => u) (fun u => UN 229 (Value.int .i64) bu (keysTo (6 * n)) (joinR ((edgesTo c (t, f, i) q).foldl joinR ((joinsTo n c k).foldl joinR (fun j => j))) (6 * t + edgeN i q, 6 * (c t (f * 5)).toNat + edgeN (c t (f * 5 + 1 + i)).toNat (c t (f * 5 + 1 + q)).toNat)) u) rfl (List.perm_append_comm_assoc ([(b4, .cells #[ii (c t (f * 5 + 1)), ii (c t (f * 5 + 2)), ii (c t (f * 5 + 3)), ii (c t (f * 5 + 4))] 72 (0, 0)), (L1, .loop { rc1 with state := .busy }), (b3, .cells #[ii (t : Int), ii (f : Int), ii (i : Int), ii (c t (f * 5)), ii (c t (f * 5 + 1 + f)), ii (c t (f * 5 + 1 + i))] 143 (0, 0)), (b2, .cells #[pt bu 0] 137 (0, 0)), (b1, .cells #[sl b off n cap] 24 (0, 0))] : List (Nat × Obj)) u2 (own1 : List (Nat × Obj))) (fun W hR => (by rw [show ((6 * (t : Int)) + ((edgeN i q : Nat) : Int) : Int) = ((6 * t + edgeN i q : Nat) : Int) by omega, show ((6 * (c t (f * 5))) + ((edgeN ((c t (f * 5 + 1 + i)).toNat) ((c t (f * 5 + 1 + q)).toNat) : Nat) : Int) : Int) = ((6 * (c t (f * 5)).toNat + edgeN (c t (f * 5 + 1 + i)).toNat (c t (f * 5 + 1 + q)).toNat : Nat) : Int) by omega]; exact join_at hC2.2 (Rep.mineOf hR) (by have z1 := edgeN_lt' i q; omega) (by have z2 := edgeN_lt' (c t (f * 5 + 1 + i)).toNat (c t (f * 5 + 1 + q)).toNat; omega))) (fun u1 hU1 => ?_) (by kernel_rfl)
            refine opsT_perm (hs' := (b4, .cells #[ii (c t (f * 5 + 1)), ii (c t (f * 5 + 2)), ii (c t (f * 5 + 3)), ii (c t (f * 5 + 4))] 72 (0, 0)) :: (L1, .loop { rc1 with state := .busy }) :: (b3, .cells #[ii (t : Int), ii (f : Int), ii (i : Int), ii (c t (f * 5)), ii (c t (f * 5 + 1 + f)), ii (c t (f * 5 + 1 + i))] 143 (0, 0)) :: (b2, .cells #[pt bu 0] 137 (0, 0)) :: (b1, .cells #[sl b off n cap] 24 (0, 0)) :: (u1 ++ (own1))) (List.perm_append_comm_assoc u1 ([(b4, .cells #[ii (c t (f * 5 + 1)), ii (c t (f * 5 + 2)), ii (c t (f * 5 + 3)), ii (c t (f * 5 + 4))] 72 (0, 0)), (L1, .loop { rc1 with state := .busy }), (b3, .cells #[ii (t : Int), ii (f : Int), ii (i : Int), ii (c t (f * 5)), ii (c t (f * 5 + 1 + f)), ii (c t (f * 5 + 1 + i))] 143 (0, 0)), (b2, .cells #[pt bu 0] 137 (0, 0)), (b1, .cells #[sl b off n cap] 24 (0, 0))] : List (Nat × Obj)) (own1 : List (Nat × Obj))) ?_
            refine kP [8, 7, 5, 37] ?_
            refine opsT_end ?_
            refine post_block ?_
            refine post_then ?_
            refine tri_region (todo := [0, 1]) rfl ?_
            refine kO 2 2 [(37, ii ((q : Int) + 1))] [8, 7, 5] [I64 ((q : Int) + 1)] (ap1 (by first | omega | (have z1 := edgeN_lt' i q; have z2 := edgeN_lt' (c t (f * 5 + 1 + i)).toNat (c t (f * 5 + 1 + q)).toNat; omega) | (have z3 := wtsTo_len n c v x; omega) | assumption)) ?_
            refine opsT_end ?_
            refine post_round ((q + 1), u1) ⟨by omega, (by show UN _ _ _ _ _ _; rw [edgesTo_step (p := (t, f, i)) ⟨by show q ≠ f; omega, by show q ≠ i; omega⟩, List.foldl_append]; exact hU1)⟩ (by show 4 - (q + 1) < 4 - q; omega) (look_pickL (ks := [8, 7, 5, 37]) (by kernel_rfl)) (List.Sublist.refl _)
          · simp only [Bool.not_eq_false', decide_eq_true_eq] at h4
            refine tri_skip ?_
            refine post_block ?_
            refine post_then ?_
            refine tri_region (todo := [0, 1]) rfl ?_
            refine kO 2 2 [(37, ii ((q : Int) + 1))] [8, 7, 5] [I64 ((q : Int) + 1)] (ap1 (by first | omega | (have z1 := edgeN_lt' i q; have z2 := edgeN_lt' (c t (f * 5 + 1 + i)).toNat (c t (f * 5 + 1 + q)).toNat; omega) | (have z3 := wtsTo_len n c v x; omega) | assumption)) ?_
            refine opsT_end ?_
            refine post_round ((q + 1), u2) ⟨by omega, (by show UN _ _ _ _ _ _; rw [edgesTo_skip (p := (t, f, i)) (by show ¬ (q ≠ f ∧ q ≠ i); omega)]; exact hC2.2)⟩ (by show 4 - (q + 1) < 4 - q; omega) (look_pickL (ks := [8, 7, 5, 37]) (by kernel_rfl)) (List.Sublist.refl _)
      · refine tri_exit ?_
        refine post_then_exit ?_
        refine post_round_exit ?_
        refine post_block_hit ?_
        refine post_block ?_
        refine post_perm (hs' := (L1, .loop { rc1 with state := .busy }) :: (b4, .cells #[ii (c t (f * 5 + 1)), ii (c t (f * 5 + 2)), ii (c t (f * 5 + 3)), ii (c t (f * 5 + 4))] 72 (0, 0)) :: (b3, .cells #[ii (t : Int), ii (f : Int), ii (i : Int), ii (c t (f * 5)), ii (c t (f * 5 + 1 + f)), ii (c t (f * 5 + 1 + i))] 143 (0, 0)) :: (b2, .cells #[pt bu 0] 137 (0, 0)) :: (b1, .cells #[sl b off n cap] 24 (0, 0)) :: (u2 ++ (own1))) (List.perm_middle (l₁ := ([(b4, .cells #[ii (c t (f * 5 + 1)), ii (c t (f * 5 + 2)), ii (c t (f * 5 + 3)), ii (c t (f * 5 + 4))] 72 (0, 0))] : List (Nat × Obj)))) ?_
        exact post_rq u2 (by show UN _ _ _ _ _ _; rw [joinsTo_step hk hp, List.foldl_append]; have hh := hC2.2; rw [show q = 4 by omega] at hh; exact hh) (.cons_cons _ (.cons _ (.cons _ (List.Sublist.refl _))))
    · rintro u1 hI D1 L2 rc2
      refine post_perm (hs' := (D1, .deferred (some [])) :: (L2, .loop rc2) :: (b2, .cells #[pt bu 0] 137 (0, 0)) :: (b1, .cells #[sl b off n cap] 24 (0, 0)) :: (u1 ++ ([(bg1, .cells #[sl b off n cap] 24 (0, 0))]))) (List.Perm.refl _) ?_
      refine post_block ?_
      refine post_then ?_
      refine wr [0, 1] rfl ?_
      refine opsT_buildSlice (e := 3) (size := 1) (z := ii 0) [] rfl rfl rfl rfl rfl rfl (by kernel_rfl) (by kernel_rfl) (by kernel_rfl) (by kernel_rfl) (fun b5 => ?_)
      refine opsT_heq (hs' := (b5, .cells #[] 3 (0, 0)) :: (D1, .deferred (some [])) :: (L2, .loop rc2) :: (b2, .cells #[pt bu 0] 137 (0, 0)) :: (b1, .cells #[sl b off n cap] 24 (0, 0)) :: (u1 ++ ([(bg1, .cells #[sl b off n cap] 24 (0, 0))]))) rfl ?_
      refine kSe 1 0 [(10, sl b5 0 0 0)] [5, 2, 1] ?_
      refine tri_seq ?_
      refine wr [0, 1, 2, 3, 4] rfl ?_
      refine kS 1 0 [(74, pt b1 0)] [10, 5, 1] ?_
      refine kL 4 (sl b off n cap) ?_
      refine kOe 3 32 [(78, ii 0), (77, ii (6 * ((n : Nat) : Int)))] [10, 5, 1] [I64 (6 * ((n : Nat) : Int))] (ap1 (by first | omega | (have z1 := edgeN_lt' i q; have z2 := edgeN_lt' (c t (f * 5 + 1 + i)).toNat (c t (f * 5 + 1 + q)).toNat; omega) | (have z3 := wtsTo_len n c v x; omega) | assumption)) ?_
      refine tri_block ?_
      refine tri_perm (hs' := (D1, .deferred (some [])) :: (L2, .loop rc2) :: (b2, .cells #[pt bu 0] 137 (0, 0)) :: (b1, .cells #[sl b off n cap] 24 (0, 0)) :: (u1 ++ ((bg1, .cells #[sl b off n cap] 24 (0, 0)) :: [(b5, .cells #[] 3 (0, 0))]))) (by have hp := List.perm_append_comm (l₁ := ([(b5, .cells #[] 3 (0, 0))] : List (Nat × Obj))) (l₂ := ((D1, .deferred (some [])) :: (L2, .loop rc2) :: (b2, .cells #[pt bu 0] 137 (0, 0)) :: (b1, .cells #[sl b off n cap] 24 (0, 0)) :: (u1 ++ ([(bg1, .cells #[sl b off n cap] 24 (0, 0))])) : List (Nat × Obj))); simpa only [List.cons_append, List.append_assoc, List.nil_append] using hp) ?_
      refine tri_loop (β := Nat × List (Nat × Obj) × Value × List (Nat × Obj)) (fun xz => [(77, ii (6 * ((n : Nat) : Int))), (5, pt b2 0), (1, sl bv ov nv cv), (78, ii (xz.1 : Int)), (10, xz.2.2.1)]) (fun xz => (D1, .deferred (some [])) :: (L2, .loop rc2) :: (b2, .cells #[pt bu 0] 137 (0, 0)) :: (b1, .cells #[sl b off n cap] 24 (0, 0)) :: (xz.2.1 ++ ((bg1, .cells #[sl b off n cap] 24 (0, 0)) :: xz.2.2.2))) (fun xz => xz.1 ≤ 6 * n ∧ UN 229 (Value.int .i64) bu (keysTo (6 * n)) (edgeR n c) xz.2.1 ∧ Vec 3 1 ((wtsTo n c v xz.1).map (Value.int .i64)) (wtsTo n c v xz.1).length xz.2.2.1 xz.2.2.2) (fun xz => 6 * n - xz.1) (0, u1, (.slice (some ⟨b5, 0, none⟩) 0 0), [(b5, .cells #[] 3 (0, 0))]) (look_pickL (ks := [77, 5, 1, 78, 10]) (by kernel_rfl)) (List.Sublist.refl _) ⟨Nat.zero_le _, hI, Vec.full (vs := []) rfl⟩ ?_
      rintro ⟨x, u, sv, hvs⟩ hC3
      try dsimp only at hC3
      refine tri_eq (l' := [(77, ii (6 * ((n : Nat) : Int))), (5, pt b2 0), (1, sl bv ov nv cv), (78, ii (x : Int)), (10, sv)]) (hs' := (D1, .deferred (some [])) :: (L2, .loop rc2) :: (b2, .cells #[pt bu 0] 137 (0, 0)) :: (b1, .cells #[sl b off n cap] 24 (0, 0)) :: (u ++ ((bg1, .cells #[sl b off n cap] 24 (0, 0)) :: hvs))) rfl rfl ?_
      refine wr [0] rfl ?_
      refine kSe 1 5 [(79, .bool (decide ((x : Int) < 6 * ((n : Nat) : Int))))] [77, 5, 1, 78, 10] ?_
      refine tri_seq ?_
      refine tri_cond_dec (p := (x : Int) < 6 * ((n : Nat) : Int)) rfl (fun h3 => ?_) (fun h3 => ?_)
      · refine tri_skip ?_
        refine post_then ?_
        refine tri_seq ?_
        refine tri_block ?_
        refine wr [0, 1] rfl ?_
        refine kSn 2 0 [(11, ii (x : Int))] [77, 5, 1, 78, 10] [0, 1, 2, 3, 4] ?_
        refine kL 2 (pt bu 0) ?_
        refine kS 1 0 [(82, ii (x : Int))] [81, 11, 77, 5, 1, 78, 10] ?_
        refine kR en99 #[pt bu 0, ii (x : Int)] u ((D1, .deferred (some [])) :: (L2, .loop rc2) :: (b2, .cells #[pt bu 0] 137 (0, 0)) :: (b1, .cells #[sl b off n cap] 24 (0, 0)) :: (bg1, .cells #[sl b off n cap] 24 (0, 0)) :: hvs) (fun _ => ii (edgeR n c x : Int)) (fun u => u) (fun u => UN 229 (Value.int .i64) bu (keysTo (6 * n)) (edgeR n c) u) rfl (List.perm_append_comm_assoc ([(D1, .deferred (some [])), (L2, .loop rc2), (b2, .cells #[pt bu 0] 137 (0, 0)), (b1, .cells #[sl b off n cap] 24 (0, 0))] : List (Nat × Obj)) u ((bg1, .cells #[sl b off n cap] 24 (0, 0)) :: hvs : List (Nat × Obj))) (fun W hR => root_at hC3.2.1 (Rep.mineOf hR) (by omega)) (fun u1 hU1 => ?_) (by kernel_rfl)
        refine opsT_perm (hs' := (D1, .deferred (some [])) :: (L2, .loop rc2) :: (b2, .cells #[pt bu 0] 137 (0, 0)) :: (b1, .cells #[sl b off n cap] 24 (0, 0)) :: (u1 ++ ((bg1, .cells #[sl b off n cap] 24 (0, 0)) :: hvs))) (List.perm_append_comm_assoc u1 ([(D1, .deferred (some [])), (L2, .loop rc2), (b2, .cells #[pt bu 0] 137 (0, 0)), (b1, .cells #[sl b off n cap] 24 (0, 0))] : List (Nat × Obj)) ((bg1, .cells #[sl b off n cap] 24 (0, 0)) :: hvs : List (Nat × Obj))) ?_
        refine kSe 2 80 [(85, .bool (decide ((edgeR n c x : Int) = (x : Int))))] [11, 77, 5, 1, 78, 10] ?_
        refine tri_cond_dec (p := (edgeR n c x : Int) = (x : Int)) rfl (fun h4 => ?_) (fun h4 => ?_)
        · refine tri_region (todo := [0, 1, 2, 3, 4, 5, 6, 7, 8, 9]) rfl ?_
          refine kO 6 4206592 [(91, ii ((x : Int) % 6)), (89, ii ((x : Int) / 6)), (87, sl bv ov nv cv), (86, sv)] [77, 5, 1, 78, 10] [(0 : Int) ≤ (x : Int), (x : Int) ≤ (9223372036854775807 : Int), (0 : Int) < 6, (0 : Int) ≤ (x : Int), (0 : Int) < 6] (by refine ap ?_ (ap ?_ (ap ?_ (ap ?_ (ap1 ?_)))) <;> (first | omega | (have z1 := edgeN_lt' i q; have z2 := edgeN_lt' (c t (f * 5 + 1 + i)).toNat (c t (f * 5 + 1 + q)).toNat; omega) | (have z3 := wtsTo_len n c v x; omega) | assumption)) ?_
          refine kC en100 #[sl bv ov nv cv, ii ((x : Int) / 6), ii ((x : Int) % 6)] (ii (wtP v (x / 6) (x % 6))) rfl (fun W hR => (by have hw := weight_ (cap := cv) (hv.rep hR (by simp)) hin (by omega) (t := (x : Int) / 6) (e := (x : Int) % 6) (by omega) (by omega) (by omega) (by omega); rw [show ((x : Int) / 6).toNat = x / 6 by omega, show ((x : Int) % 6).toNat = x % 6 by omega] at hw; exact hw)) ?_ (by kernel_rfl)
          refine opsT_buildSlice (e := 3) (size := 1) (z := ii 0) [ii (wtP v (x / 6) (x % 6))] rfl rfl rfl rfl rfl rfl (by kernel_rfl) (by kernel_rfl) (by kernel_rfl) (by kernel_rfl) (fun b6 => ?_)
          refine opsT_heq (hs' := (b6, .cells #[ii (wtP v (x / 6) (x % 6))] 3 (0, 0)) :: (D1, .deferred (some [])) :: (L2, .loop rc2) :: (b2, .cells #[pt bu 0] 137 (0, 0)) :: (b1, .cells #[sl b off n cap] 24 (0, 0)) :: (u1 ++ ((bg1, .cells #[sl b off n cap] 24 (0, 0)) :: hvs))) rfl ?_
          refine opsT_append (e := 3) (size := 1) (bytes := 8) (z := (ii 0)) (vs := (wtsTo n c v x).map (Value.int .i64)) (news := [ii (wtP v (x / 6) (x % 6))]) (m := (wtsTo n c v x).length) (k := 1) (sv := sv) (hv := hvs) (own := (b6, .cells #[ii (wtP v (x / 6) (x % 6))] 3 (0, 0)) :: (D1, .deferred (some [])) :: (L2, .loop rc2) :: (b2, .cells #[pt bu 0] 137 (0, 0)) :: (b1, .cells #[sl b off n cap] 24 (0, 0)) :: (u1 ++ ([(bg1, .cells #[sl b off n cap] 24 (0, 0))]))) rfl rfl rfl rfl rfl rfl rfl rfl rfl rfl rfl (by kernel_rfl) (by kernel_rfl) rfl (by have hp := List.perm_append_comm (l₁ := ((b6, .cells #[ii (wtP v (x / 6) (x % 6))] 3 (0, 0)) :: (D1, .deferred (some [])) :: (L2, .loop rc2) :: (b2, .cells #[pt bu 0] 137 (0, 0)) :: (b1, .cells #[sl b off n cap] 24 (0, 0)) :: (u1 ++ ([(bg1, .cells #[sl b off n cap] 24 (0, 0))])) : List (Nat × Obj))) (l₂ := hvs); simpa only [List.cons_append, List.append_assoc, List.nil_append] using hp) hC3.2.2 rfl (by first | omega | (have z1 := edgeN_lt' i q; have z2 := edgeN_lt' (c t (f * 5 + 1 + i)).toNat (c t (f * 5 + 1 + q)).toNat; omega) | (have z3 := wtsTo_len n c v x; omega) | assumption) (by first | omega | (have z1 := edgeN_lt' i q; have z2 := edgeN_lt' (c t (f * 5 + 1 + i)).toNat (c t (f * 5 + 1 + q)).toNat; omega) | (have z3 := wtsTo_len n c v x; omega) | assumption) (fun W hR => src_own (e2 := 3) (off := 0) (us := [ii (wtP v (x / 6) (x % 6))]) hR (by kernel_rfl) (List.mem_append_right _ (List.mem_of_getElem? (i := 0) rfl)) rfl (fun j v hj => by simpa using hj) rfl) (fun sv1 hv1 hV1 => ?_)
          refine opsT_perm (hs' := (b6, .cells #[ii (wtP v (x / 6) (x % 6))] 3 (0, 0)) :: (D1, .deferred (some [])) :: (L2, .loop rc2) :: (b2, .cells #[pt bu 0] 137 (0, 0)) :: (b1, .cells #[sl b off n cap] 24 (0, 0)) :: (u1 ++ ((bg1, .cells #[sl b off n cap] 24 (0, 0)) :: hv1))) (by have hp := List.perm_append_comm (l₁ := hv1) (l₂ := ((b6, .cells #[ii (wtP v (x / 6) (x % 6))] 3 (0, 0)) :: (D1, .deferred (some [])) :: (L2, .loop rc2) :: (b2, .cells #[pt bu 0] 137 (0, 0)) :: (b1, .cells #[sl b off n cap] 24 (0, 0)) :: (u1 ++ ([(bg1, .cells #[sl b off n cap] 24 (0, 0))])) : List (Nat × Obj))); simpa only [List.cons_append, List.append_assoc, List.nil_append] using hp) ?_
          refine kS 1 0 [(10, sv1)] [77, 5, 1, 78] ?_
          refine opsT_end ?_
          refine post_block ?_
          refine post_then ?_
          refine tri_region (todo := [0, 1]) rfl ?_
          refine kO 2 2 [(78, ii ((x : Int) + 1))] [10, 77, 5, 1] [I64 ((x : Int) + 1)] (ap1 (by first | omega | (have z1 := edgeN_lt' i q; have z2 := edgeN_lt' (c t (f * 5 + 1 + i)).toNat (c t (f * 5 + 1 + q)).toNat; omega) | (have z3 := wtsTo_len n c v x; omega) | assumption)) ?_
          refine opsT_end ?_
          refine post_round ((x + 1), u1, sv1, hv1) ⟨by omega, hU1, (by rw [wtsTo_step (by omega), List.map_append, List.length_append]; exact hV1)⟩ (by show 6 * n - (x + 1) < 6 * n - x; omega) (look_pickL (ks := [77, 5, 1, 78, 10]) (by kernel_rfl)) (.cons _ (List.Sublist.refl _))
        · refine tri_skip ?_
          refine post_block ?_
          refine post_then ?_
          refine tri_region (todo := [0, 1]) rfl ?_
          refine kO 2 2 [(78, ii ((x : Int) + 1))] [77, 5, 1, 10] [I64 ((x : Int) + 1)] (ap1 (by first | omega | (have z1 := edgeN_lt' i q; have z2 := edgeN_lt' (c t (f * 5 + 1 + i)).toNat (c t (f * 5 + 1 + q)).toNat; omega) | (have z3 := wtsTo_len n c v x; omega) | assumption)) ?_
          refine opsT_end ?_
          refine post_round ((x + 1), u1, sv, hvs) ⟨by omega, hU1, (by rw [wtsTo_skip (by omega)]; exact hC3.2.2)⟩ (by show 6 * n - (x + 1) < 6 * n - x; omega) (look_pickL (ks := [77, 5, 1, 78, 10]) (by kernel_rfl)) (List.Sublist.refl _)
      · refine tri_exit ?_
        refine post_then_exit ?_
        refine post_round_exit ?_
        refine post_block_hit ?_
        refine post_then ?_
        refine wr [0, 1] rfl ?_
        refine kSe 2 0 [(4, sv)] [] ?_
        refine tri_ret ?_
        refine post_outM ?_
        refine outM_mark 0 rfl ?_
        refine outM_ret1 (v := sv) rfl (.tmp rfl) (fun W hR => ?_)
        have hh := hC3.2.2
        rw [show x = 6 * n by omega] at hh
        exact ⟨(sv, hvs), hh, rfl, hR.forget (.cons _ (.cons _ (.cons _ (.cons _ (List.sublist_append_of_sublist_right (.cons _ (List.Sublist.refl _)))))))⟩
    · exact fun c x h => h.elim
end Go.Proofs.YtlkbokbcfajhjaaGreat
