/- G2: the faces of a gluing -/
import Derived.Test.YtlkbokbcfajhjaaGreatG1
import Derived.Test.YtlkbokbcfajhjaaGreatB17
import Derived.Test.YtlkbokbcfajhjaaGreatD1
namespace Go.Proofs.YtlkbokbcfajhjaaGreat
open Go.Proofs.Walk
set_option maxRecDepth 100000
set_option linter.unusedVariables false
set_option linter.unusedSimpArgs false

/-- The rows of a gluing in the heap: 20 ints for each tetrahedron. -/
def At (W : World) (b off n : Nat) (c : Nat → Nat → Int) : Prop := ∀ t, t < n → ∀ k, k < 20 → W.cell? ⟨b, off + (t * 20 + k), none⟩ = some (.int .i64 (c t k))
theorem At.ext {w w' : World} (h : Ext w w') {b off n : Nat} {c : Nat → Nat → Int} (hc : At w b off n c) : At w' b off n c := fun t ht k hk => h.cell (hc t ht k hk)
theorem At.rep {W0 : World} {M : List Nat} {hs : List (Nat × Obj)} {W : World} (hR : Rep W0 M hs W) {b off n : Nat} {c : Nat → Nat → Int} (hb : b ∉ M) (hc : At W0 b off n c) : At W b off n c := fun t ht k hk =>
  (Cells.base hR hb (vs := [.int .i64 (c t k)]) fun i v hi => by
    rcases i with _ | i
    · simp at hi; subst hi; exact hc t ht k hk
    · simp at hi) 0 _ rfl
theorem At.cells {W : World} {b off n : Nat} {c : Nat → Nat → Int} (hc : At W b off n c) {t : Nat} (ht : t < n) (k m : Nat) (vs : List Value) (hk : k + m ≤ 20) (hv : ∀ i v, vs[i]? = some v → i < m ∧ v = .int .i64 (c t (k + i))) : Cells W b (off + t * 20 + k) vs := fun i v hi => by
  obtain ⟨hm, rfl⟩ := hv i v hi
  have := hc t ht (k + i) (by omega)
  rw [show off + t * 20 + k + i = off + (t * 20 + (k + i)) by omega]
  exact this
theorem At.row {W : World} {b off n : Nat} {c : Nat → Nat → Int} (hc : At W b off n c) {t : Nat} (ht : t < n) : Cells W b (off + t * 20) [.int .i64 (c t 0), .int .i64 (c t 1), .int .i64 (c t 2), .int .i64 (c t 3), .int .i64 (c t 4), .int .i64 (c t 5), .int .i64 (c t 6), .int .i64 (c t 7), .int .i64 (c t 8), .int .i64 (c t 9), .int .i64 (c t 10), .int .i64 (c t 11), .int .i64 (c t 12), .int .i64 (c t 13), .int .i64 (c t 14), .int .i64 (c t 15), .int .i64 (c t 16), .int .i64 (c t 17), .int .i64 (c t 18), .int .i64 (c t 19)] :=
  hc.cells ht 0 20 _ (by omega) fun i v hi => by
    have h : i < 20 := by simpa using (List.getElem?_eq_some_iff.1 hi).1
    refine ⟨h, ?_⟩
    have : ∀ j : Fin 20, ([.int .i64 (c t 0), .int .i64 (c t 1), .int .i64 (c t 2), .int .i64 (c t 3), .int .i64 (c t 4), .int .i64 (c t 5), .int .i64 (c t 6), .int .i64 (c t 7), .int .i64 (c t 8), .int .i64 (c t 9), .int .i64 (c t 10), .int .i64 (c t 11), .int .i64 (c t 12), .int .i64 (c t 13), .int .i64 (c t 14), .int .i64 (c t 15), .int .i64 (c t 16), .int .i64 (c t 17), .int .i64 (c t 18), .int .i64 (c t 19)] : List Value)[j.1]? = some (.int .i64 (c t (0 + j.1))) := by
      intro j
      match j with
      | ⟨0, _⟩ => rfl
      | ⟨1, _⟩ => rfl
      | ⟨2, _⟩ => rfl
      | ⟨3, _⟩ => rfl
      | ⟨4, _⟩ => rfl
      | ⟨5, _⟩ => rfl
      | ⟨6, _⟩ => rfl
      | ⟨7, _⟩ => rfl
      | ⟨8, _⟩ => rfl
      | ⟨9, _⟩ => rfl
      | ⟨10, _⟩ => rfl
      | ⟨11, _⟩ => rfl
      | ⟨12, _⟩ => rfl
      | ⟨13, _⟩ => rfl
      | ⟨14, _⟩ => rfl
      | ⟨15, _⟩ => rfl
      | ⟨16, _⟩ => rfl
      | ⟨17, _⟩ => rfl
      | ⟨18, _⟩ => rfl
      | ⟨19, _⟩ => rfl
      | ⟨k + 20, h⟩ => exact absurd h (by omega)
    have h2 := this ⟨i, h⟩
    simp only at h2
    rw [hi] at h2
    exact Option.some.inj h2
theorem At.face {W : World} {b off n : Nat} {c : Nat → Nat → Int} (hc : At W b off n c) {t f : Nat} (ht : t < n) (hf : f < 4) : Cells W b (off + t * 20 + f * 5) [.int .i64 (c t (f * 5)), .int .i64 (c t (f * 5 + 1)), .int .i64 (c t (f * 5 + 2)), .int .i64 (c t (f * 5 + 3)), .int .i64 (c t (f * 5 + 4))] :=
  hc.cells ht (f * 5) 5 _ (by omega) fun i v hi => by
    rcases i with _ | _ | _ | _ | _ | i <;> simp at hi <;> first | (subst hi; exact ⟨by omega, rfl⟩) | skip
/-- The k-th face: where it is, and what it is glued to. -/
def faceAt (c : Nat → Nat → Int) (t f : Nat) : Array Value := #[.agg #[.int .i64 ((t : Nat) : Int), .int .i64 ((f : Nat) : Int)], .agg #[.int .i64 (c t (f * 5)), .int .i64 (c t (f * 5 + 1)), .int .i64 (c t (f * 5 + 2)), .int .i64 (c t (f * 5 + 3)), .int .i64 (c t (f * 5 + 4))]]
theorem faceAt_eq (c : Nat → Nat → Int) (t f : Nat) (hf : f < 4) : faceAt c ((4 * t + f) / 4) ((4 * t + f) % 4) = faceAt c t f := by
  rw [show (4 * t + f) / 4 = t by omega, show (4 * t + f) % 4 = f by omega]

theorem faces_iter {b off n cap bg : Nat} {c : Nat → Nat → Int} {W0 : World} {M : List Nat} (hn : n ≤ 1000000000) (hc : At W0 b off n c) (hb : b ∉ M) :
    Iter Tryz.prog 166 #[.pointer (some ⟨bg, 0, none⟩)] [(bg, .cells #[sl b off n cap] 24 (0, 0))] (4 * n) (fun k => faceAt c (k / 4) (k % 4)) W0 M := by
  refine ⟨fun β H I Ix yv hy x₀ hI own W hR => ?_⟩
  refine calls_iter (H := H) (z := x₀) (capt := [(bg, .cells #[sl b off n cap] 24 (0, 0))]) (own := own) Tryz.func166 rfl Tryz.ntmps166 rfl hR ?_
  refine tri_eq (l' := [(0, yv), (1, pt bg 0)]) (hs' := (bg, .cells #[sl b off n cap] 24 (0, 0)) :: (H x₀ ++ own)) rfl rfl ?_
  refine wr [0, 1, 2, 3] rfl ?_
  refine kS 1 0 [(6, pt bg 0)] [0, 1] ?_
  refine kL 0 (sl b off n cap) ?_
  refine kSe 2 0 [(9, ii 0), (8, ii ((n : Nat) : Int))] [0, 1] ?_
  refine tri_block ?_
  refine tri_loop (β := Nat × β) (fun xz => [(8, ii ((n : Nat) : Int)), (0, yv), (1, pt bg 0), (9, ii (xz.1 : Int))]) (fun xz => (bg, .cells #[sl b off n cap] 24 (0, 0)) :: (H xz.2 ++ own)) (fun xz => xz.1 ≤ n ∧ I (4 * xz.1) xz.2) (fun xz => n - xz.1) (0, x₀) (look_pickL (ks := [8, 0, 1, 9]) (by kernel_rfl)) (List.Sublist.refl _) ⟨by omega, hI⟩ ?_
  rintro ⟨t, z⟩ hC0
  try dsimp only at hC0
  refine tri_eq (l' := [(8, ii ((n : Nat) : Int)), (0, yv), (1, pt bg 0), (9, ii (t : Int))]) (hs' := (bg, .cells #[sl b off n cap] 24 (0, 0)) :: (H z ++ own)) rfl rfl ?_
  refine wr [0] rfl ?_
  refine kSe 1 5 [(10, .bool (decide ((t : Int) < ((n : Nat) : Int))))] [8, 0, 1, 9] ?_
  refine tri_seq ?_
  refine tri_cond_dec (p := (t : Int) < ((n : Nat) : Int)) rfl (fun h1 => ?_) (fun h1 => ?_)
  · refine tri_skip ?_
    refine post_then ?_
    refine tri_seq ?_
    refine tri_block ?_
    refine wr [0, 1] rfl ?_
    refine kSn 2 0 [(3, ii (t : Int))] [8, 0, 1, 9] [0, 1, 2, 3, 4, 5] ?_
    refine kS 1 0 [(12, pt bg 0)] [3, 8, 0, 1, 9] ?_
    refine kL 0 (sl b off n cap) ?_
    refine kO 2 144 [(15, pt b (off + t * 20))] [3, 8, 0, 1, 9] [(0 : Int) ≤ (t : Int), (t : Int) < ((n : Nat) : Int)] (by refine ap ?_ (ap1 ?_) <;> (first | omega | (simp; done) | assumption)) ?_
    refine kM b (off + t * 20) [ii (c t 0), ii (c t 1), ii (c t 2), ii (c t 3), ii (c t 4), ii (c t 5), ii (c t 6), ii (c t 7), ii (c t 8), ii (c t 9), ii (c t 10), ii (c t 11), ii (c t 12), ii (c t 13), ii (c t 14), ii (c t 15), ii (c t 16), ii (c t 17), ii (c t 18), ii (c t 19)] (.agg #[ii (c t 0), ii (c t 1), ii (c t 2), ii (c t 3), ii (c t 4), ii (c t 5), ii (c t 6), ii (c t 7), ii (c t 8), ii (c t 9), ii (c t 10), ii (c t 11), ii (c t 12), ii (c t 13), ii (c t 14), ii (c t 15), ii (c t 16), ii (c t 17), ii (c t 18), ii (c t 19)]) (At.row hc (by omega)) ?_ (hb := hb)
    refine kSe 1 0 [(17, ii 0)] [16, 3, 8, 0, 1, 9] ?_
    refine tri_block ?_
    refine tri_rounds 4 ?_
    refine wr [0] rfl ?_
    refine kSe 1 0 [(18, .bool true)] [17, 16, 3, 8, 0, 1, 9] ?_
    refine tri_seq ?_
    refine tri_cond_true rfl ?_
    refine tri_skip ?_
    refine post_then ?_
    refine tri_seq ?_
    refine tri_block ?_
    refine wr [0, 1, 2, 3, 4] rfl ?_
    refine kS 2 0 [(20, .agg #[ii (c t 0), ii (c t 1), ii (c t 2), ii (c t 3), ii (c t 4)]), (19, ii 0)] [17, 16, 3, 8, 0, 1, 9] ?_
    refine kA (.agg #[ii 0, ii 0, ii 0, ii 0, ii 0]) fun b1 => ?_
    refine kS 1 0 [(4, ii 0)] [5, 20, 17, 16, 3, 8, 0, 1, 9] ?_
    refine kW 0 #[ii (c t 0), ii (c t 1), ii (c t 2), ii (c t 3), ii (c t 4)] ?_
    refine kP [4, 5, 17, 16, 3, 8, 0, 1, 9] ?_
    refine wn [0, 1, 2, 3, 4, 5, 6] rfl ?_
    refine kS 4 0 [(24, .agg #[ii (t : Int), ii 0]), (21, yv)] [5, 17, 16, 3, 8, 0, 1, 9] ?_
    refine kL 0 (.agg #[ii (c t 0), ii (c t 1), ii (c t 2), ii (c t 3), ii (c t 4)]) ?_
    refine opsT_yield (H := H) (I' := I ((4 * t + 0) + 1)) (Ix := Ix) (z := z) (y := yv) (args := #[.agg #[ii (t : Int), ii 0], .agg #[ii (c t 0), ii (c t 1), ii (c t 2), ii (c t 3), ii (c t 4)]]) [(b1, .cells #[ii (c t 0), ii (c t 1), ii (c t 2), ii (c t 3), ii (c t 4)] 75 (0, 0)), (bg, .cells #[sl b off n cap] 24 (0, 0))] own rfl rfl rfl rfl rfl rfl rfl rfl (by kernel_rfl) rfl (fun own' W' hW' => (by rw [show (#[.agg #[.int .i64 (t : Int), .int .i64 0], .agg #[ii (c t 0), ii (c t 1), ii (c t 2), ii (c t 3), ii (c t 4)]] : Array Value) = faceAt c ((4 * t + 0) / 4) ((4 * t + 0) % 4) from (faceAt_eq c t 0 (by omega)).symm]; exact hy (4 * t + 0) (by omega) z hC0.2 own' W' hW')) (fun z1 hI1 => ?_) (fun z2 hX1 => ?_)
    · refine opsT_heq (hs' := (b1, .cells #[ii (c t 0), ii (c t 1), ii (c t 2), ii (c t 3), ii (c t 4)] 75 (0, 0)) :: (bg, .cells #[sl b off n cap] 24 (0, 0)) :: (H z1 ++ own)) rfl ?_
      refine kSe 1 0 [(27, .bool false)] [17, 16, 3, 8, 0, 1, 9] ?_
      refine tri_cond_false rfl ?_
      refine tri_skip ?_
      refine post_block ?_
      refine post_then ?_
      refine tri_region (todo := [0, 1]) rfl ?_
      refine kS 2 0 [(17, ii 1)] [16, 3, 8, 0, 1, 9] ?_
      refine opsT_end ?_
      refine post_more ?_
      refine wr [0] rfl ?_
      refine kSe 1 0 [(18, .bool true)] [17, 16, 3, 8, 0, 1, 9] ?_
      refine tri_seq ?_
      refine tri_cond_true rfl ?_
      refine tri_skip ?_
      refine post_then ?_
      refine tri_seq ?_
      refine tri_block ?_
      refine wr [0, 1, 2, 3, 4] rfl ?_
      refine kS 2 0 [(20, .agg #[ii (c t 5), ii (c t 6), ii (c t 7), ii (c t 8), ii (c t 9)]), (19, ii 1)] [17, 16, 3, 8, 0, 1, 9] ?_
      refine kA (.agg #[ii 0, ii 0, ii 0, ii 0, ii 0]) fun b2 => ?_
      refine kS 1 0 [(4, ii 1)] [5, 20, 17, 16, 3, 8, 0, 1, 9] ?_
      refine kW 0 #[ii (c t 5), ii (c t 6), ii (c t 7), ii (c t 8), ii (c t 9)] ?_
      refine kP [4, 5, 17, 16, 3, 8, 0, 1, 9] ?_
      refine wn [0, 1, 2, 3, 4, 5, 6] rfl ?_
      refine kS 4 0 [(24, .agg #[ii (t : Int), ii 1]), (21, yv)] [5, 17, 16, 3, 8, 0, 1, 9] ?_
      refine kL 0 (.agg #[ii (c t 5), ii (c t 6), ii (c t 7), ii (c t 8), ii (c t 9)]) ?_
      refine opsT_yield (H := H) (I' := I ((4 * t + 1) + 1)) (Ix := Ix) (z := z1) (y := yv) (args := #[.agg #[ii (t : Int), ii 1], .agg #[ii (c t 5), ii (c t 6), ii (c t 7), ii (c t 8), ii (c t 9)]]) [(b2, .cells #[ii (c t 5), ii (c t 6), ii (c t 7), ii (c t 8), ii (c t 9)] 75 (0, 0)), (b1, .cells #[ii (c t 0), ii (c t 1), ii (c t 2), ii (c t 3), ii (c t 4)] 75 (0, 0)), (bg, .cells #[sl b off n cap] 24 (0, 0))] own rfl rfl rfl rfl rfl rfl rfl rfl (by kernel_rfl) rfl (fun own' W' hW' => (by rw [show (#[.agg #[.int .i64 (t : Int), .int .i64 1], .agg #[ii (c t 5), ii (c t 6), ii (c t 7), ii (c t 8), ii (c t 9)]] : Array Value) = faceAt c ((4 * t + 1) / 4) ((4 * t + 1) % 4) from (faceAt_eq c t 1 (by omega)).symm]; exact hy (4 * t + 1) (by omega) z1 hI1 own' W' hW')) (fun z3 hI2 => ?_) (fun z4 hX2 => ?_)
      · refine opsT_heq (hs' := (b2, .cells #[ii (c t 5), ii (c t 6), ii (c t 7), ii (c t 8), ii (c t 9)] 75 (0, 0)) :: (b1, .cells #[ii (c t 0), ii (c t 1), ii (c t 2), ii (c t 3), ii (c t 4)] 75 (0, 0)) :: (bg, .cells #[sl b off n cap] 24 (0, 0)) :: (H z3 ++ own)) rfl ?_
        refine kSe 1 0 [(27, .bool false)] [17, 16, 3, 8, 0, 1, 9] ?_
        refine tri_cond_false rfl ?_
        refine tri_skip ?_
        refine post_block ?_
        refine post_then ?_
        refine tri_region (todo := [0, 1]) rfl ?_
        refine kS 2 0 [(17, ii 2)] [16, 3, 8, 0, 1, 9] ?_
        refine opsT_end ?_
        refine post_more ?_
        refine wr [0] rfl ?_
        refine kSe 1 0 [(18, .bool true)] [17, 16, 3, 8, 0, 1, 9] ?_
        refine tri_seq ?_
        refine tri_cond_true rfl ?_
        refine tri_skip ?_
        refine post_then ?_
        refine tri_seq ?_
        refine tri_block ?_
        refine wr [0, 1, 2, 3, 4] rfl ?_
        refine kS 2 0 [(20, .agg #[ii (c t 10), ii (c t 11), ii (c t 12), ii (c t 13), ii (c t 14)]), (19, ii 2)] [17, 16, 3, 8, 0, 1, 9] ?_
        refine kA (.agg #[ii 0, ii 0, ii 0, ii 0, ii 0]) fun b3 => ?_
        refine kS 1 0 [(4, ii 2)] [5, 20, 17, 16, 3, 8, 0, 1, 9] ?_
        refine kW 0 #[ii (c t 10), ii (c t 11), ii (c t 12), ii (c t 13), ii (c t 14)] ?_
        refine kP [4, 5, 17, 16, 3, 8, 0, 1, 9] ?_
        refine wn [0, 1, 2, 3, 4, 5, 6] rfl ?_
        refine kS 4 0 [(24, .agg #[ii (t : Int), ii 2]), (21, yv)] [5, 17, 16, 3, 8, 0, 1, 9] ?_
        refine kL 0 (.agg #[ii (c t 10), ii (c t 11), ii (c t 12), ii (c t 13), ii (c t 14)]) ?_
        refine opsT_yield (H := H) (I' := I ((4 * t + 2) + 1)) (Ix := Ix) (z := z3) (y := yv) (args := #[.agg #[ii (t : Int), ii 2], .agg #[ii (c t 10), ii (c t 11), ii (c t 12), ii (c t 13), ii (c t 14)]]) [(b3, .cells #[ii (c t 10), ii (c t 11), ii (c t 12), ii (c t 13), ii (c t 14)] 75 (0, 0)), (b2, .cells #[ii (c t 5), ii (c t 6), ii (c t 7), ii (c t 8), ii (c t 9)] 75 (0, 0)), (b1, .cells #[ii (c t 0), ii (c t 1), ii (c t 2), ii (c t 3), ii (c t 4)] 75 (0, 0)), (bg, .cells #[sl b off n cap] 24 (0, 0))] own rfl rfl rfl rfl rfl rfl rfl rfl (by kernel_rfl) rfl (fun own' W' hW' => (by rw [show (#[.agg #[.int .i64 (t : Int), .int .i64 2], .agg #[ii (c t 10), ii (c t 11), ii (c t 12), ii (c t 13), ii (c t 14)]] : Array Value) = faceAt c ((4 * t + 2) / 4) ((4 * t + 2) % 4) from (faceAt_eq c t 2 (by omega)).symm]; exact hy (4 * t + 2) (by omega) z3 hI2 own' W' hW')) (fun z5 hI3 => ?_) (fun z6 hX3 => ?_)
        · refine opsT_heq (hs' := (b3, .cells #[ii (c t 10), ii (c t 11), ii (c t 12), ii (c t 13), ii (c t 14)] 75 (0, 0)) :: (b2, .cells #[ii (c t 5), ii (c t 6), ii (c t 7), ii (c t 8), ii (c t 9)] 75 (0, 0)) :: (b1, .cells #[ii (c t 0), ii (c t 1), ii (c t 2), ii (c t 3), ii (c t 4)] 75 (0, 0)) :: (bg, .cells #[sl b off n cap] 24 (0, 0)) :: (H z5 ++ own)) rfl ?_
          refine kSe 1 0 [(27, .bool false)] [17, 16, 3, 8, 0, 1, 9] ?_
          refine tri_cond_false rfl ?_
          refine tri_skip ?_
          refine post_block ?_
          refine post_then ?_
          refine tri_region (todo := [0, 1]) rfl ?_
          refine kS 2 0 [(17, ii 3)] [16, 3, 8, 0, 1, 9] ?_
          refine opsT_end ?_
          refine post_more ?_
          refine wr [0] rfl ?_
          refine kSe 1 0 [(18, .bool true)] [17, 16, 3, 8, 0, 1, 9] ?_
          refine tri_seq ?_
          refine tri_cond_true rfl ?_
          refine tri_skip ?_
          refine post_then ?_
          refine tri_seq ?_
          refine tri_block ?_
          refine wr [0, 1, 2, 3, 4] rfl ?_
          refine kS 2 0 [(20, .agg #[ii (c t 15), ii (c t 16), ii (c t 17), ii (c t 18), ii (c t 19)]), (19, ii 3)] [17, 16, 3, 8, 0, 1, 9] ?_
          refine kA (.agg #[ii 0, ii 0, ii 0, ii 0, ii 0]) fun b4 => ?_
          refine kS 1 0 [(4, ii 3)] [5, 20, 17, 16, 3, 8, 0, 1, 9] ?_
          refine kW 0 #[ii (c t 15), ii (c t 16), ii (c t 17), ii (c t 18), ii (c t 19)] ?_
          refine kP [4, 5, 17, 16, 3, 8, 0, 1, 9] ?_
          refine wn [0, 1, 2, 3, 4, 5, 6] rfl ?_
          refine kS 4 0 [(24, .agg #[ii (t : Int), ii 3]), (21, yv)] [5, 17, 16, 3, 8, 0, 1, 9] ?_
          refine kL 0 (.agg #[ii (c t 15), ii (c t 16), ii (c t 17), ii (c t 18), ii (c t 19)]) ?_
          refine opsT_yield (H := H) (I' := I ((4 * t + 3) + 1)) (Ix := Ix) (z := z5) (y := yv) (args := #[.agg #[ii (t : Int), ii 3], .agg #[ii (c t 15), ii (c t 16), ii (c t 17), ii (c t 18), ii (c t 19)]]) [(b4, .cells #[ii (c t 15), ii (c t 16), ii (c t 17), ii (c t 18), ii (c t 19)] 75 (0, 0)), (b3, .cells #[ii (c t 10), ii (c t 11), ii (c t 12), ii (c t 13), ii (c t 14)] 75 (0, 0)), (b2, .cells #[ii (c t 5), ii (c t 6), ii (c t 7), ii (c t 8), ii (c t 9)] 75 (0, 0)), (b1, .cells #[ii (c t 0), ii (c t 1), ii (c t 2), ii (c t 3), ii (c t 4)] 75 (0, 0)), (bg, .cells #[sl b off n cap] 24 (0, 0))] own rfl rfl rfl rfl rfl rfl rfl rfl (by kernel_rfl) rfl (fun own' W' hW' => (by rw [show (#[.agg #[.int .i64 (t : Int), .int .i64 3], .agg #[ii (c t 15), ii (c t 16), ii (c t 17), ii (c t 18), ii (c t 19)]] : Array Value) = faceAt c ((4 * t + 3) / 4) ((4 * t + 3) % 4) from (faceAt_eq c t 3 (by omega)).symm]; exact hy (4 * t + 3) (by omega) z5 hI3 own' W' hW')) (fun z7 hI4 => ?_) (fun z8 hX4 => ?_)
          · refine opsT_heq (hs' := (b4, .cells #[ii (c t 15), ii (c t 16), ii (c t 17), ii (c t 18), ii (c t 19)] 75 (0, 0)) :: (b3, .cells #[ii (c t 10), ii (c t 11), ii (c t 12), ii (c t 13), ii (c t 14)] 75 (0, 0)) :: (b2, .cells #[ii (c t 5), ii (c t 6), ii (c t 7), ii (c t 8), ii (c t 9)] 75 (0, 0)) :: (b1, .cells #[ii (c t 0), ii (c t 1), ii (c t 2), ii (c t 3), ii (c t 4)] 75 (0, 0)) :: (bg, .cells #[sl b off n cap] 24 (0, 0)) :: (H z7 ++ own)) rfl ?_
            refine kSe 1 0 [(27, .bool false)] [17, 16, 3, 8, 0, 1, 9] ?_
            refine tri_cond_false rfl ?_
            refine tri_skip ?_
            refine post_block ?_
            refine post_then ?_
            refine tri_region (todo := [0, 1]) rfl ?_
            refine kS 2 0 [(17, ii 4)] [16, 3, 8, 0, 1, 9] ?_
            refine opsT_end ?_
            refine post_more ?_
            refine wr [0] rfl ?_
            refine kSe 1 0 [(18, .bool false)] [17, 16, 3, 8, 0, 1, 9] ?_
            refine tri_seq ?_
            refine tri_cond_false rfl ?_
            refine tri_exit ?_
            refine post_then_exit ?_
            refine post_more_exit ?_
            refine post_block_hit ?_
            refine post_block ?_
            refine post_then ?_
            refine tri_region (todo := [0, 1]) rfl ?_
            refine kO 2 2 [(9, ii ((t : Int) + 1))] [8, 0, 1] [I64 ((t : Int) + 1)] (ap1 (by first | omega | (simp; done) | assumption)) ?_
            refine opsT_end ?_
            refine post_round ((t + 1), z7) ⟨by omega, (by rw [show 4 * (t + 1) = 4 * t + 3 + 1 by omega]; exact hI4)⟩ (by show n - (t + 1) < n - t; omega) (look_pickL (ks := [8, 0, 1, 9]) (by kernel_rfl)) (.cons _ (.cons _ (.cons _ (.cons _ (List.Sublist.refl _)))))
          · refine opsT_heq (hs' := (b4, .cells #[ii (c t 15), ii (c t 16), ii (c t 17), ii (c t 18), ii (c t 19)] 75 (0, 0)) :: (b3, .cells #[ii (c t 10), ii (c t 11), ii (c t 12), ii (c t 13), ii (c t 14)] 75 (0, 0)) :: (b2, .cells #[ii (c t 5), ii (c t 6), ii (c t 7), ii (c t 8), ii (c t 9)] 75 (0, 0)) :: (b1, .cells #[ii (c t 0), ii (c t 1), ii (c t 2), ii (c t 3), ii (c t 4)] 75 (0, 0)) :: (bg, .cells #[sl b off n cap] 24 (0, 0)) :: (H z8 ++ own)) rfl ?_
            refine kSe 1 0 [(27, .bool true)] [17, 16, 3, 8, 0, 1, 9] ?_
            refine tri_cond_true rfl ?_
            refine tri_ret ?_
            refine post_block_ret ?_
            refine post_then_ret ?_
            refine post_more_ret ?_
            refine post_block_ret ?_
            refine post_block_ret ?_
            refine post_then_ret ?_
            refine post_round_ret ?_
            refine post_block_ret ?_
            refine post_ret0 rfl (fun W hR => ?_)
            exact ⟨rfl, .inr ⟨z8, hX4, (Rep.back (capt := [(bg, .cells #[sl b off n cap] 24 (0, 0))]) (hR.forget (.cons _ (.cons _ (.cons _ (.cons _ (List.Sublist.refl _)))))))⟩⟩
        · refine opsT_heq (hs' := (b3, .cells #[ii (c t 10), ii (c t 11), ii (c t 12), ii (c t 13), ii (c t 14)] 75 (0, 0)) :: (b2, .cells #[ii (c t 5), ii (c t 6), ii (c t 7), ii (c t 8), ii (c t 9)] 75 (0, 0)) :: (b1, .cells #[ii (c t 0), ii (c t 1), ii (c t 2), ii (c t 3), ii (c t 4)] 75 (0, 0)) :: (bg, .cells #[sl b off n cap] 24 (0, 0)) :: (H z6 ++ own)) rfl ?_
          refine kSe 1 0 [(27, .bool true)] [17, 16, 3, 8, 0, 1, 9] ?_
          refine tri_cond_true rfl ?_
          refine tri_ret ?_
          refine post_block_ret ?_
          refine post_then_ret ?_
          refine post_more_ret ?_
          refine post_block_ret ?_
          refine post_block_ret ?_
          refine post_then_ret ?_
          refine post_round_ret ?_
          refine post_block_ret ?_
          refine post_ret0 rfl (fun W hR => ?_)
          exact ⟨rfl, .inr ⟨z6, hX3, (Rep.back (capt := [(bg, .cells #[sl b off n cap] 24 (0, 0))]) (hR.forget (.cons _ (.cons _ (.cons _ (List.Sublist.refl _))))))⟩⟩
      · refine opsT_heq (hs' := (b2, .cells #[ii (c t 5), ii (c t 6), ii (c t 7), ii (c t 8), ii (c t 9)] 75 (0, 0)) :: (b1, .cells #[ii (c t 0), ii (c t 1), ii (c t 2), ii (c t 3), ii (c t 4)] 75 (0, 0)) :: (bg, .cells #[sl b off n cap] 24 (0, 0)) :: (H z4 ++ own)) rfl ?_
        refine kSe 1 0 [(27, .bool true)] [17, 16, 3, 8, 0, 1, 9] ?_
        refine tri_cond_true rfl ?_
        refine tri_ret ?_
        refine post_block_ret ?_
        refine post_then_ret ?_
        refine post_more_ret ?_
        refine post_block_ret ?_
        refine post_block_ret ?_
        refine post_then_ret ?_
        refine post_round_ret ?_
        refine post_block_ret ?_
        refine post_ret0 rfl (fun W hR => ?_)
        exact ⟨rfl, .inr ⟨z4, hX2, (Rep.back (capt := [(bg, .cells #[sl b off n cap] 24 (0, 0))]) (hR.forget (.cons _ (.cons _ (List.Sublist.refl _)))))⟩⟩
    · refine opsT_heq (hs' := (b1, .cells #[ii (c t 0), ii (c t 1), ii (c t 2), ii (c t 3), ii (c t 4)] 75 (0, 0)) :: (bg, .cells #[sl b off n cap] 24 (0, 0)) :: (H z2 ++ own)) rfl ?_
      refine kSe 1 0 [(27, .bool true)] [17, 16, 3, 8, 0, 1, 9] ?_
      refine tri_cond_true rfl ?_
      refine tri_ret ?_
      refine post_block_ret ?_
      refine post_then_ret ?_
      refine post_more_ret ?_
      refine post_block_ret ?_
      refine post_block_ret ?_
      refine post_then_ret ?_
      refine post_round_ret ?_
      refine post_block_ret ?_
      refine post_ret0 rfl (fun W hR => ?_)
      exact ⟨rfl, .inr ⟨z2, hX1, (Rep.back (capt := [(bg, .cells #[sl b off n cap] 24 (0, 0))]) (hR.forget (.cons _ (List.Sublist.refl _))))⟩⟩
  · refine tri_exit ?_
    refine post_then_exit ?_
    refine post_round_exit ?_
    refine post_block_hit ?_
    refine post_end0 rfl (fun W hR => ?_)
    exact ⟨rfl, .inl ⟨z, (by rw [show n = t by omega]; exact hC0.2), (Rep.back (capt := [(bg, .cells #[sl b off n cap] 24 (0, 0))]) (hR.forget (List.Sublist.refl _)))⟩⟩
end Go.Proofs.YtlkbokbcfajhjaaGreat
