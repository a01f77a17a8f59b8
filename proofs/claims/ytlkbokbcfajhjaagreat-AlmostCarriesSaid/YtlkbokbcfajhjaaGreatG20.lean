/- G20: permutations that came in -/
import Derived.Test.YtlkbokbcfajhjaaGreatG3
import Derived.Test.YtlkbokbcfajhjaaGreatG9
import Derived.Test.YtlkbokbcfajhjaaGreatB17
import Derived.Test.YtlkbokbcfajhjaaGreatD1
namespace Go.Proofs.YtlkbokbcfajhjaaGreat
open Go.Proofs.Walk
set_option maxRecDepth 100000
set_option linter.unusedVariables false
set_option linter.unusedSimpArgs false

theorem en44 : Walk.Enters Tryz.prog 44 := Walk.enters Tryz.func44 (by kernel_rfl) rfl
theorem en45 : Walk.Enters Tryz.prog 45 := Walk.enters Tryz.func45 (by kernel_rfl) rfl
theorem en93 : Walk.Enters Tryz.prog 93 := Walk.enters Tryz.func93 (by kernel_rfl) rfl
/-- Permutations in the heap. -/
def AtP (W : World) (b off n : Nat) (pm : Nat → Nat → Int) : Prop := ∀ t, t < n → ∀ k, k < 4 → W.cell? ⟨b, off + (t * 4 + k), none⟩ = some (.int .i64 (pm t k))
theorem AtP.ext {w w' : World} (h : Ext w w') {b off n : Nat} {pm : Nat → Nat → Int} (hc : AtP w b off n pm) : AtP w' b off n pm := fun t ht k hk => h.cell (hc t ht k hk)
theorem AtP.one {W : World} {b off n : Nat} {pm : Nat → Nat → Int} (hc : AtP W b off n pm) {t k : Nat} (ht : t < n) (hk : k < 4) : Cells W b (off + t * 4 + k) [.int .i64 (pm t k)] := fun i v hi => by
  rcases i with _ | i
  · simp at hi; subst hi
    have := hc t ht k hk
    rw [show off + t * 4 + k + 0 = off + (t * 4 + k) by omega]
    exact this
  · simp at hi
theorem AtP.rep {W0 : World} {M : List Nat} {hs : List (Nat × Obj)} {W : World} (hR : Rep W0 M hs W) {b off n : Nat} {pm : Nat → Nat → Int} (hb : b ∉ M) (hc : AtP W0 b off n pm) : AtP W b off n pm := fun t ht k hk => by
  have := Cells.base hR hb (hc.one ht hk) 0 _ rfl
  rw [← this]; congr 2; omega
theorem AtP.row {W : World} {b off n : Nat} {pm : Nat → Nat → Int} (hc : AtP W b off n pm) {t : Nat} (ht : t < n) : Cells W b (off + t * 4) [.int .i64 (pm t 0), .int .i64 (pm t 1), .int .i64 (pm t 2), .int .i64 (pm t 3)] := fun i v hi => by
  rcases i with _ | _ | _ | _ | i <;> simp at hi
  · subst hi; exact hc.one ht (k := 0) (by omega) 0 _ rfl
  · subst hi; exact hc.one ht (k := 1) (by omega) 0 _ rfl
  · subst hi; exact hc.one ht (k := 2) (by omega) 0 _ rfl
  · subst hi; exact hc.one ht (k := 3) (by omega) 0 _ rfl
/-- A permutation. -/
abbrev PermOK (pm : Nat → Nat → Int) (t : Nat) : Prop := OkPerm (pm t 0) (pm t 1) (pm t 2) (pm t 3)

theorem notValid (p0 p1 p2 p3 : Int) (w : World) : Calls Tryz.prog 45 #[.agg #[ii p0, ii p1, ii p2, ii p3]] w fun e w' => e = .returned (.bool (!decide (OkPerm p0 p1 p2 p3))) ∧ Ext w w' := by
  refine calls_of (n := 6) Tryz.func45 rfl Tryz.ntmps45 rfl ?_
  refine tri_eq (l' := [(0, .agg #[ii p0, ii p1, ii p2, ii p3])]) (hs' := []) rfl rfl ?_
  refine wr [0, 1] rfl ?_
  refine kB (.agg #[ii p0, ii p1, ii p2, ii p3]) fun b1 => ?_
  refine kSn 1 0 [] [1] [0, 1, 2, 3] ?_
  refine kL 0 (.agg #[ii p0, ii p1, ii p2, ii p3]) ?_
  refine kC en46 #[.agg #[ii p0, ii p1, ii p2, ii p3]] (.bool (decide (OkPerm p0 p1 p2 p3))) rfl (fun W hR => valid p0 p1 p2 p3 W) ?_ (by kernel_rfl)
  refine kSe 2 0 [(2, .bool (!(decide (OkPerm p0 p1 p2 p3))))] [] ?_
  refine tri_ret ?_
  refine post_ret1 (v := .bool (!(decide (OkPerm p0 p1 p2 p3)))) rfl (.tmp rfl) (fun W hR => ?_)
  exact ⟨rfl, hR.ext⟩
theorem notValid_no {p0 p1 p2 p3 : Int} (h : OkPerm p0 p1 p2 p3) (w : World) : Calls Tryz.prog 45 #[.agg #[ii p0, ii p1, ii p2, ii p3]] w fun e w' => e = .returned (.bool false) ∧ Ext w w' :=
  (notValid p0 p1 p2 p3 w).mono fun e w' h' => ⟨by rw [h'.1, decide_eq_true h]; rfl, h'.2⟩
theorem notValid_yes {p0 p1 p2 p3 : Int} (h : ¬ OkPerm p0 p1 p2 p3) (w : World) : Calls Tryz.prog 45 #[.agg #[ii p0, ii p1, ii p2, ii p3]] w fun e w' => e = .returned (.bool true) ∧ Ext w w' :=
  (notValid p0 p1 p2 p3 w).mono fun e w' h' => ⟨by rw [h'.1, decide_eq_false h]; rfl, h'.2⟩
theorem perms_step {pm : Nat → Nat → Int} {i : Nat} (h : ∀ j, j < i → PermOK pm j) (hi : PermOK pm i) : ∀ j, j < i + 1 → PermOK pm j := fun j hj => by
  by_cases e : j = i
  · subst e; exact hi
  · exact h j (by omega)

theorem indexP {bp op np cp : Nat} {pm : Nat → Nat → Int} {w : World} (hp : AtP w bp op np pm) (hn : np ≤ 1000000000000) : Calls Tryz.prog 93 #[sl bp op np cp, .func (.func 45) #[] #[]] w fun e w' => ∃ r : Int, ((r = -1 ∧ ∀ i, i < np → PermOK pm i) ∨ (0 ≤ r ∧ ¬ ∀ i, i < np → PermOK pm i)) ∧ e = .returned (.int .i64 r) ∧ Ext w w' := by
  refine calls_of (n := 19) Tryz.func93 rfl Tryz.ntmps93 rfl ?_
  refine tri_eq (l' := [(0, sl bp op np cp), (1, .func (.func 45) #[] #[])]) (hs' := []) rfl rfl ?_
  refine wr [0] rfl ?_
  refine kSe 1 0 [] [0, 1] ?_
  refine tri_seq ?_
  refine wr [0, 1, 2] rfl ?_
  refine kSe 3 0 [(8, ii 0), (7, ii ((np : Nat) : Int))] [0, 1] ?_
  refine tri_block ?_
  refine tri_loop (β := Nat) (fun xz => [(7, ii ((np : Nat) : Int)), (0, sl bp op np cp), (1, .func (.func 45) #[] #[]), (8, ii (xz : Int))]) (fun xz => []) (fun xz => xz ≤ np ∧ ∀ j, j < xz → PermOK pm j) (fun xz => np - xz) 0 (look_pickL (ks := [7, 0, 1, 8]) (by kernel_rfl)) (List.Sublist.refl _) ⟨Nat.zero_le _, fun j h => absurd h (by omega)⟩ ?_
  rintro i hC0
  try dsimp only at hC0
  refine tri_eq (l' := [(7, ii ((np : Nat) : Int)), (0, sl bp op np cp), (1, .func (.func 45) #[] #[]), (8, ii (i : Int))]) (hs' := []) rfl rfl ?_
  refine wr [0] rfl ?_
  refine kSe 1 5 [(9, .bool (decide ((i : Int) < ((np : Nat) : Int))))] [7, 0, 1, 8] ?_
  refine tri_seq ?_
  refine tri_cond_dec (p := (i : Int) < ((np : Nat) : Int)) rfl (fun h1 => ?_) (fun h1 => ?_)
  · refine tri_skip ?_
    refine post_then ?_
    refine tri_seq ?_
    refine tri_block ?_
    refine wr [0, 1] rfl ?_
    refine kSe 2 0 [(5, ii (i : Int))] [7, 0, 1, 8] ?_
    refine tri_seq ?_
    by_cases h2 : OkPerm (pm i 0) (pm i 1) (pm i 2) (pm i 3)
    · refine tri_region (todo := [0, 1, 2, 3, 4, 5]) rfl ?_
      refine kO 4 36864 [(14, pt bp (op + i * 4)), (11, .func (.func 45) #[] #[])] [5, 7, 0, 1, 8] [(0 : Int) ≤ (i : Int), (i : Int) < ((np : Nat) : Int)] (by refine ap ?_ (ap1 ?_) <;> (first | omega | assumption)) ?_
      refine kM bp (op + i * 4) [ii (pm i 0), ii (pm i 1), ii (pm i 2), ii (pm i 3)] (.agg #[ii (pm i 0), ii (pm i 1), ii (pm i 2), ii (pm i 3)]) (hp.row (by omega)) ?_
      refine kC en45 #[.agg #[ii (pm i 0), ii (pm i 1), ii (pm i 2), ii (pm i 3)]] (.bool false) rfl (fun W hR => notValid_no h2 W) ?_ (by kernel_rfl)
      refine kPe [16, 5, 7, 0, 1, 8] ?_
      refine tri_cond_false rfl ?_
      refine tri_skip ?_
      refine post_block ?_
      refine post_then ?_
      refine tri_region (todo := [0, 1]) rfl ?_
      refine kO 2 2 [(8, ii ((i : Int) + 1))] [7, 0, 1] [I64 ((i : Int) + 1)] (ap1 (by first | omega | assumption)) ?_
      refine opsT_end ?_
      refine post_round (i + 1) ⟨by omega, perms_step hC0.2 (by assumption)⟩ (by show np - (i + 1) < np - i; omega) (look_pickL (ks := [7, 0, 1, 8]) (by kernel_rfl)) (List.Sublist.refl _)
    · refine tri_region (todo := [0, 1, 2, 3, 4, 5]) rfl ?_
      refine kO 4 36864 [(14, pt bp (op + i * 4)), (11, .func (.func 45) #[] #[])] [5, 7, 0, 1, 8] [(0 : Int) ≤ (i : Int), (i : Int) < ((np : Nat) : Int)] (by refine ap ?_ (ap1 ?_) <;> (first | omega | assumption)) ?_
      refine kM bp (op + i * 4) [ii (pm i 0), ii (pm i 1), ii (pm i 2), ii (pm i 3)] (.agg #[ii (pm i 0), ii (pm i 1), ii (pm i 2), ii (pm i 3)]) (hp.row (by omega)) ?_
      refine kC en45 #[.agg #[ii (pm i 0), ii (pm i 1), ii (pm i 2), ii (pm i 3)]] (.bool true) rfl (fun W hR => notValid_yes h2 W) ?_ (by kernel_rfl)
      refine kPe [16, 5, 7, 0, 1, 8] ?_
      refine tri_cond_true rfl ?_
      refine wr [0, 1] rfl ?_
      refine kSe 2 0 [(4, ii (i : Int))] [] ?_
      refine tri_ret ?_
      refine post_block_ret ?_
      refine post_then_ret ?_
      refine post_round_ret ?_
      refine post_block_ret ?_
      refine post_then_ret ?_
      refine post_ret1 (v := ii (i : Int)) rfl (.tmp rfl) (fun W hR => ?_)
      exact ⟨_, .inr ⟨by omega, fun h => absurd (h i (by omega)) (by assumption)⟩, rfl, hR.ext⟩
  · refine tri_exit ?_
    refine post_then_exit ?_
    refine post_round_exit ?_
    refine post_block_hit ?_
    refine post_then ?_
    refine wr [0] rfl ?_
    refine kSe 1 0 [(4, ii (-1))] [] ?_
    refine tri_ret ?_
    refine post_ret1 (v := ii (-1)) rfl (.tmp rfl) (fun W hR => ?_)
    exact ⟨-1, .inl ⟨rfl, fun i hi => hC0.2 i (by omega)⟩, rfl, hR.ext⟩
theorem containsP {bp op np cp : Nat} {pm : Nat → Nat → Int} {w : World} (hp : AtP w bp op np pm) (hn : np ≤ 1000000000000) : Calls Tryz.prog 44 #[sl bp op np cp, .func (.func 45) #[] #[]] w fun e w' => ∃ r : Bool, (r = false ↔ ∀ i, i < np → PermOK pm i) ∧ e = .returned (.bool r) ∧ Ext w w' := by
  refine calls_of (n := 9) Tryz.func44 rfl Tryz.ntmps44 rfl ?_
  refine tri_eq (l' := [(0, sl bp op np cp), (1, .func (.func 45) #[] #[])]) (hs' := []) rfl rfl ?_
  refine wr [0] rfl ?_
  refine kSn 1 0 [] [0, 1] [0, 1, 2, 3, 4] ?_
  refine kS 2 0 [(6, .func (.func 45) #[] #[]), (5, sl bp op np cp)] [] ?_
  refine opsT_callR (f := 93) (args := #[sl bp op np cp, .func (.func 45) #[] #[]]) [] [] (fun r => .int .i64 r) (fun _ => []) (fun r => (r = -1 ∧ ∀ i, i < np → PermOK pm i) ∨ (0 ≤ r ∧ ¬ ∀ i, i < np → PermOK pm i)) rfl rfl rfl rfl rfl (run_call en93 rfl rfl rfl (by kernel_rfl)) (List.Perm.refl _) (fun W hR => (indexP (hp.rep hR (by simp)) hn).mono fun e w' ⟨r, h1, h2, h3⟩ => ⟨r, h1, h2, h3.size, fun b hb _ => h3.same b hb, fun _ _ h => by simp at h, fun _ _ h => by simp at h, by simp, h3.calm⟩) (fun r hr => ?_)
  refine opsT_heq (hs' := []) rfl ?_
  refine kSe 2 5 [(4, .bool (decide (0 ≤ r)))] [] ?_
  refine tri_ret ?_
  refine post_ret1 (v := .bool (decide (0 ≤ r))) rfl (.tmp rfl) (fun W hR => ?_)
  rcases hr with ⟨h1, h2⟩ | ⟨h1, h2⟩
  · exact ⟨false, ⟨fun _ => h2, fun _ => rfl⟩, by rw [decide_eq_false (by omega)], hR.ext⟩
  · exact ⟨true, ⟨(fun h => by cases h), fun h => absurd h h2⟩, by rw [decide_eq_true h1], hR.ext⟩
end Go.Proofs.YtlkbokbcfajhjaaGreat
