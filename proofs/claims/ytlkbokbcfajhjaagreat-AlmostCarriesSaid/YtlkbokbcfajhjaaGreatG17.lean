/- G17: the piece with an arc -/
import Derived.Test.YtlkbokbcfajhjaaGreatG16
import Derived.Test.YtlkbokbcfajhjaaGreatBA
import Derived.Test.YtlkbokbcfajhjaaGreatB17
import Derived.Test.YtlkbokbcfajhjaaGreatD1
namespace Go.Proofs.YtlkbokbcfajhjaaGreat
open Go.Proofs.Walk
set_option maxRecDepth 100000
set_option linter.unusedVariables false
set_option linter.unusedSimpArgs false

theorem en117 : Walk.Enters Tryz.prog 117 := Walk.enters Tryz.func117 (by kernel_rfl) rfl
/-- A surface in the heap. -/
def SurfAt (W : World) (bs : Nat) (sg sv : Value) : Prop := Cells W bs 0 [sg, sv]
theorem SurfAt.rep {W0 : World} {M : List Nat} {hs : List (Nat × Obj)} {W : World} (hR : Rep W0 M hs W) {bs : Nat} {sg sv : Value} (hb : bs ∉ M) (h : SurfAt W0 bs sg sv) : SurfAt W bs sg sv := Cells.base hR hb h
theorem SurfAt.v {W : World} {bs : Nat} {sg sv : Value} (h : SurfAt W bs sg sv) : Cells W bs 1 [sv] := fun i v hi => by
  rcases i with _ | i
  · exact h 1 v hi
  · simp at hi
theorem SurfAt.g {W : World} {bs : Nat} {sg sv : Value} (h : SurfAt W bs sg sv) : Cells W bs 0 [sg] := fun i v hi => by
  rcases i with _ | i
  · exact h 0 v hi
  · simp at hi
/-- A piece, as a value. -/
def pcV (x : Nat × Nat) : Value := .agg #[.int .i64 (x.1 : Int), .int .i64 (x.2 : Int)]
theorem pcV_eq {x : Nat × Nat} {a b : Int} (h1 : (x.1 : Int) = a) (h2 : (x.2 : Int) = b) : Ending.returned (.agg #[.int .i64 a, .int .i64 b]) = .returned (pcV x) := by rw [← h1, ← h2]; rfl

theorem at_ {b off n cap bs bv ov nv cv : Nat} {v : Nat → Int} {w : World} (hs : SurfAt w bs (.slice (some ⟨b, off, none⟩) n cap) (.slice (some ⟨bv, ov, none⟩) nv cv)) (hv : AtV w bv ov nv v) (hin : InR nv v) (hnv : nv ≤ 1000000) {t f i r : Nat} (ht : 10 * t + 10 ≤ nv) (hf : f < 4) (hi : i < 4) (hne : i ≠ f) (hr : (r : Int) < arcP v t f i) : Calls Tryz.prog 117 #[pt bs 0, ii (t : Int), ii (f : Int), ii (i : Int), ii (r : Int)] w fun e w' => e = .returned (pcV (atN v t f i r)) ∧ Ext w w' := by
  have h3 := tyN_lt i f
  refine calls_of (n := 107) Tryz.func117 rfl Tryz.ntmps117 rfl ?_
  refine tri_eq (l' := [(0, pt bs 0), (1, ii (t : Int)), (2, ii (f : Int)), (3, ii (i : Int)), (4, ii (r : Int))]) (hs' := []) rfl rfl ?_
  refine wr [0] rfl ?_
  refine kA (.agg #[ii 0, ii 0]) fun b1 => ?_
  refine wn [0, 1, 2, 3, 4, 5] rfl ?_
  refine kC en169 #[] (.agg #[ii (-1), ii 0, ii 1, ii 2, ii 0, ii (-1), ii 2, ii 1, ii 1, ii 2, ii (-1), ii 0, ii 2, ii 1, ii 0, ii (-1)]) rfl (fun W hR => types_ W) ?_ (by kernel_rfl)
  refine kO 2 176 [(19, .agg #[ii ([-1, 0, 1, 2, 0, -1, 2, 1, 1, 2, -1, 0, 2, 1, 0, -1].getD (i * 4 + 0) 0), ii ([-1, 0, 1, 2, 0, -1, 2, 1, 1, 2, -1, 0, 2, 1, 0, -1].getD (i * 4 + 1) 0), ii ([-1, 0, 1, 2, 0, -1, 2, 1, 1, 2, -1, 0, 2, 1, 0, -1].getD (i * 4 + 2) 0), ii ([-1, 0, 1, 2, 0, -1, 2, 1, 1, 2, -1, 0, 2, 1, 0, -1].getD (i * 4 + 3) 0)])] [10, 0, 1, 2, 3, 4] [(0 : Int) ≤ (i : Int), (i : Int) < ((4 : Nat) : Int)] (by refine ap ?_ (ap1 ?_) <;> (first | omega | assumption | (have e1 := hin (10 * t + i) (by omega); have e2 := hin (10 * t + 4 + tyN i f) (by omega); have e3 := hin (10 * t + 7 + (tyN i f + 1) % 3) (by omega); have e4 := hin (10 * t + 7 + (tyN i f + 2) % 3) (by omega); unfold arcP at hr; simp only [show (10 * (t : Int) + (i : Int)).toNat = 10 * t + i by omega, show (10 * (t : Int) + 4 + ((tyN i f : Nat) : Int)).toNat = 10 * t + 4 + tyN i f by omega, show (10 * (t : Int) + 7 + (((tyN i f : Nat) : Int) + 1) % 3).toNat = 10 * t + 7 + (tyN i f + 1) % 3 by omega, show (10 * (t : Int) + 7 + (((tyN i f : Nat) : Int) + 2) % 3).toNat = 10 * t + 7 + (tyN i f + 2) % 3 by omega] at *; omega))) ?_
  refine kO 3 160 [(11, ii ([[-1, 0, 1, 2, 0, -1, 2, 1, 1, 2, -1, 0, 2, 1, 0, -1].getD (i * 4 + 0) 0, [-1, 0, 1, 2, 0, -1, 2, 1, 1, 2, -1, 0, 2, 1, 0, -1].getD (i * 4 + 1) 0, [-1, 0, 1, 2, 0, -1, 2, 1, 1, 2, -1, 0, 2, 1, 0, -1].getD (i * 4 + 2) 0, [-1, 0, 1, 2, 0, -1, 2, 1, 1, 2, -1, 0, 2, 1, 0, -1].getD (i * 4 + 3) 0].getD f 0))] [10, 0, 1, 2, 3, 4] [(0 : Int) ≤ (f : Int), (f : Int) < ((4 : Nat) : Int)] (by refine ap ?_ (ap1 ?_) <;> (first | omega | assumption | (have e1 := hin (10 * t + i) (by omega); have e2 := hin (10 * t + 4 + tyN i f) (by omega); have e3 := hin (10 * t + 7 + (tyN i f + 1) % 3) (by omega); have e4 := hin (10 * t + 7 + (tyN i f + 2) % 3) (by omega); unfold arcP at hr; simp only [show (10 * (t : Int) + (i : Int)).toNat = 10 * t + i by omega, show (10 * (t : Int) + 4 + ((tyN i f : Nat) : Int)).toNat = 10 * t + 4 + tyN i f by omega, show (10 * (t : Int) + 7 + (((tyN i f : Nat) : Int) + 1) % 3).toNat = 10 * t + 7 + (tyN i f + 1) % 3 by omega, show (10 * (t : Int) + 7 + (((tyN i f : Nat) : Int) + 2) % 3).toNat = 10 * t + 7 + (tyN i f + 2) % 3 by omega] at *; omega))) ?_
  rw [show [[-1, 0, 1, 2, 0, -1, 2, 1, 1, 2, -1, 0, 2, 1, 0, -1].getD (i * 4 + 0) 0, [-1, 0, 1, 2, 0, -1, 2, 1, 1, 2, -1, 0, 2, 1, 0, -1].getD (i * 4 + 1) 0, [-1, 0, 1, 2, 0, -1, 2, 1, 1, 2, -1, 0, 2, 1, 0, -1].getD (i * 4 + 2) 0, [-1, 0, 1, 2, 0, -1, 2, 1, 1, 2, -1, 0, 2, 1, 0, -1].getD (i * 4 + 3) 0].getD f 0 = ((tyN i f : Nat) : Int) from ty_el hi hf hne]
  refine wn [0, 1, 2, 3, 4, 5, 6, 7, 8, 9, 10] rfl ?_
  refine kS 3 0 [(24, pt bs 1)] [11, 10, 0, 1, 2, 3, 4] ?_
  refine kM bs 1 [sl bv ov nv cv] (sl bv ov nv cv) (hs.v) ?_
  refine kO 5 598048 [(30, pt bv (ov + ((10 * (t : Int)) + (i : Int)).toNat))] [11, 10, 0, 1, 2, 3, 4] [I64 (10 * (t : Int)), I64 ((10 * (t : Int)) + (i : Int)), (0 : Int) ≤ (10 * (t : Int)) + (i : Int), (10 * (t : Int)) + (i : Int) < ((nv : Nat) : Int)] (by refine ap ?_ (ap ?_ (ap ?_ (ap1 ?_))) <;> (first | omega | assumption | (have e1 := hin (10 * t + i) (by omega); have e2 := hin (10 * t + 4 + tyN i f) (by omega); have e3 := hin (10 * t + 7 + (tyN i f + 1) % 3) (by omega); have e4 := hin (10 * t + 7 + (tyN i f + 2) % 3) (by omega); unfold arcP at hr; simp only [show (10 * (t : Int) + (i : Int)).toNat = 10 * t + i by omega, show (10 * (t : Int) + 4 + ((tyN i f : Nat) : Int)).toNat = 10 * t + 4 + tyN i f by omega, show (10 * (t : Int) + 7 + (((tyN i f : Nat) : Int) + 1) % 3).toNat = 10 * t + 7 + (tyN i f + 1) % 3 by omega, show (10 * (t : Int) + 7 + (((tyN i f : Nat) : Int) + 2) % 3).toNat = 10 * t + 7 + (tyN i f + 2) % 3 by omega] at *; omega))) ?_
  refine kM bv (ov + ((10 * (t : Int)) + (i : Int)).toNat) [ii (v (((10 * (t : Int)) + (i : Int)).toNat))] (ii (v (((10 * (t : Int)) + (i : Int)).toNat))) (hv.one (by omega)) ?_
  refine kSe 1 0 [(12, ii (v (((10 * (t : Int)) + (i : Int)).toNat)))] [11, 10, 0, 1, 2, 3, 4] ?_
  refine tri_seq ?_
  refine wr [0, 1, 2] rfl ?_
  refine kSe 3 1280 [(34, .bool (decide ((r : Int) < v (((10 * (t : Int)) + (i : Int)).toNat))))] [12, 11, 10, 0, 1, 2, 3, 4] ?_
  refine tri_cond_dec (p := (r : Int) < v (((10 * (t : Int)) + (i : Int)).toNat)) rfl (fun h1 => ?_) (fun h1 => ?_)
  · refine wr [0, 1, 2, 3, 4, 5, 6] rfl ?_
    refine kO 6 8224 [(40, .agg #[ii ((10 * (t : Int)) + (i : Int)), ii (r : Int)])] [10] [I64 (10 * (t : Int)), I64 ((10 * (t : Int)) + (i : Int))] (by refine ap ?_ (ap1 ?_) <;> (first | omega | assumption | (have e1 := hin (10 * t + i) (by omega); have e2 := hin (10 * t + 4 + tyN i f) (by omega); have e3 := hin (10 * t + 7 + (tyN i f + 1) % 3) (by omega); have e4 := hin (10 * t + 7 + (tyN i f + 2) % 3) (by omega); unfold arcP at hr; simp only [show (10 * (t : Int) + (i : Int)).toNat = 10 * t + i by omega, show (10 * (t : Int) + 4 + ((tyN i f : Nat) : Int)).toNat = 10 * t + 4 + tyN i f by omega, show (10 * (t : Int) + 7 + (((tyN i f : Nat) : Int) + 1) % 3).toNat = 10 * t + 7 + (tyN i f + 1) % 3 by omega, show (10 * (t : Int) + 7 + (((tyN i f : Nat) : Int) + 2) % 3).toNat = 10 * t + 7 + (tyN i f + 2) % 3 by omega] at *; omega))) ?_
    refine kW 0 #[ii ((10 * (t : Int)) + (i : Int)), ii (r : Int)] ?_
    refine kPe [10] ?_
    refine tri_ret ?_
    refine post_then_ret ?_
    refine post_ret1 (v := .agg #[ii ((10 * (t : Int)) + (i : Int)), ii (r : Int)]) rfl (.cell 0 b1 0 2 #[ii ((10 * (t : Int)) + (i : Int)), ii (r : Int)] 93 (0, 0) rfl rfl (by kernel_rfl)) (fun W hR => ?_)
    refine ⟨?_, hR.ext⟩
    have e1 := hin (10 * t + i) (by omega)
    have e2 := hin (10 * t + 4 + tyN i f) (by omega)
    have e3 := hin (10 * t + 7 + (tyN i f + 1) % 3) (by omega)
    have e4 := hin (10 * t + 7 + (tyN i f + 2) % 3) (by omega)
    unfold arcP at hr
    simp only [show (10 * (t : Int) + (i : Int)).toNat = 10 * t + i by omega, show (10 * (t : Int) + 4 + ((tyN i f : Nat) : Int)).toNat = 10 * t + 4 + tyN i f by omega, show (10 * (t : Int) + 7 + (((tyN i f : Nat) : Int) + 1) % 3).toNat = 10 * t + 7 + (tyN i f + 1) % 3 by omega, show (10 * (t : Int) + 7 + (((tyN i f : Nat) : Int) + 2) % 3).toNat = 10 * t + 7 + (tyN i f + 2) % 3 by omega] at *
    refine pcV_eq ?_ ?_ <;> unfold atN vn nearB <;> simp only [decide_eq_true_eq] <;> (repeat' split) <;> (try dsimp only) <;> omega
  · refine tri_skip ?_
    refine post_then ?_
    refine wr [0, 1, 2, 3] rfl ?_
    refine kOn 4 512 [(4, ii ((r : Int) - (v (((10 * (t : Int)) + (i : Int)).toNat))))] [11, 10, 0, 1, 2, 3] [I64 ((r : Int) - (v (((10 * (t : Int)) + (i : Int)).toNat)))] [0, 1, 2, 3, 4, 5] (ap1 (by first | omega | assumption | (have e1 := hin (10 * t + i) (by omega); have e2 := hin (10 * t + 4 + tyN i f) (by omega); have e3 := hin (10 * t + 7 + (tyN i f + 1) % 3) (by omega); have e4 := hin (10 * t + 7 + (tyN i f + 2) % 3) (by omega); unfold arcP at hr; simp only [show (10 * (t : Int) + (i : Int)).toNat = 10 * t + i by omega, show (10 * (t : Int) + 4 + ((tyN i f : Nat) : Int)).toNat = 10 * t + 4 + tyN i f by omega, show (10 * (t : Int) + 7 + (((tyN i f : Nat) : Int) + 1) % 3).toNat = 10 * t + 7 + (tyN i f + 1) % 3 by omega, show (10 * (t : Int) + 7 + (((tyN i f : Nat) : Int) + 2) % 3).toNat = 10 * t + 7 + (tyN i f + 2) % 3 by omega] at *; omega))) ?_
    refine kOe 6 131616 [(13, ii (((10 * (t : Int)) + 4) + ((tyN i f : Nat) : Int)))] [4, 11, 10, 0, 1, 2, 3] [I64 (10 * (t : Int)), I64 ((10 * (t : Int)) + 4), I64 (((10 * (t : Int)) + 4) + ((tyN i f : Nat) : Int))] (by refine ap ?_ (ap ?_ (ap1 ?_)) <;> (first | omega | assumption | (have e1 := hin (10 * t + i) (by omega); have e2 := hin (10 * t + 4 + tyN i f) (by omega); have e3 := hin (10 * t + 7 + (tyN i f + 1) % 3) (by omega); have e4 := hin (10 * t + 7 + (tyN i f + 2) % 3) (by omega); unfold arcP at hr; simp only [show (10 * (t : Int) + (i : Int)).toNat = 10 * t + i by omega, show (10 * (t : Int) + 4 + ((tyN i f : Nat) : Int)).toNat = 10 * t + 4 + tyN i f by omega, show (10 * (t : Int) + 7 + (((tyN i f : Nat) : Int) + 1) % 3).toNat = 10 * t + 7 + (tyN i f + 1) % 3 by omega, show (10 * (t : Int) + 7 + (((tyN i f : Nat) : Int) + 2) % 3).toNat = 10 * t + 7 + (tyN i f + 2) % 3 by omega] at *; omega))) ?_
    refine tri_seq ?_
    refine wr [0, 1, 2, 3, 4, 5, 6, 7] rfl ?_
    refine kS 3 0 [(51, pt bs 1)] [13, 4, 11, 10, 0, 1, 2, 3] ?_
    refine kM bs 1 [sl bv ov nv cv] (sl bv ov nv cv) (hs.v) ?_
    refine kO 2 144 [(54, pt bv (ov + (((10 * (t : Int)) + 4) + ((tyN i f : Nat) : Int)).toNat))] [13, 4, 11, 10, 0, 1, 2, 3] [(0 : Int) ≤ ((10 * (t : Int)) + 4) + ((tyN i f : Nat) : Int), ((10 * (t : Int)) + 4) + ((tyN i f : Nat) : Int) < ((nv : Nat) : Int)] (by refine ap ?_ (ap1 ?_) <;> (first | omega | assumption | (have e1 := hin (10 * t + i) (by omega); have e2 := hin (10 * t + 4 + tyN i f) (by omega); have e3 := hin (10 * t + 7 + (tyN i f + 1) % 3) (by omega); have e4 := hin (10 * t + 7 + (tyN i f + 2) % 3) (by omega); unfold arcP at hr; simp only [show (10 * (t : Int) + (i : Int)).toNat = 10 * t + i by omega, show (10 * (t : Int) + 4 + ((tyN i f : Nat) : Int)).toNat = 10 * t + 4 + tyN i f by omega, show (10 * (t : Int) + 7 + (((tyN i f : Nat) : Int) + 1) % 3).toNat = 10 * t + 7 + (tyN i f + 1) % 3 by omega, show (10 * (t : Int) + 7 + (((tyN i f : Nat) : Int) + 2) % 3).toNat = 10 * t + 7 + (tyN i f + 2) % 3 by omega] at *; omega))) ?_
    refine kM bv (ov + (((10 * (t : Int)) + 4) + ((tyN i f : Nat) : Int)).toNat) [ii (v ((((10 * (t : Int)) + 4) + ((tyN i f : Nat) : Int)).toNat))] (ii (v ((((10 * (t : Int)) + 4) + ((tyN i f : Nat) : Int)).toNat))) (hv.one (by omega)) ?_
    refine kSn 1 0 [(12, ii (v ((((10 * (t : Int)) + 4) + ((tyN i f : Nat) : Int)).toNat)))] [13, 4, 11, 10, 0, 1, 2, 3] [0, 1, 2] ?_
    refine kSe 3 1280 [(58, .bool (decide ((r : Int) - (v (((10 * (t : Int)) + (i : Int)).toNat)) < v ((((10 * (t : Int)) + 4) + ((tyN i f : Nat) : Int)).toNat))))] [12, 13, 4, 11, 10, 0, 1, 2, 3] ?_
    refine tri_cond_dec (p := (r : Int) - (v (((10 * (t : Int)) + (i : Int)).toNat)) < v ((((10 * (t : Int)) + 4) + ((tyN i f : Nat) : Int)).toNat)) rfl (fun h2 => ?_) (fun h2 => ?_)
    · refine tri_seq ?_
      refine tri_seq ?_
      by_cases h3 : (i = 0 ∨ i = tyN i f + 1)
      · refine tri_region (todo := [0, 1, 2, 3]) rfl ?_
        refine kS 2 0 [(60, ii (i : Int)), (59, ii ((tyN i f : Nat) : Int))] [12, 13, 4, 10] ?_
        refine kC en177 #[ii ((tyN i f : Nat) : Int), ii (i : Int)] (.bool true) rfl (fun W hR => ((near_ (tyN i f) i (by omega) W).mono fun e w' h => ⟨by rw [h.1, decide_eq_true (by omega)], h.2⟩)) ?_ (by kernel_rfl)
        refine kSe 1 0 [(62, .bool false)] [12, 13, 4, 10] ?_
        refine tri_cond_false rfl ?_
        refine tri_skip ?_
        refine post_then ?_
        refine wr [0, 1, 2, 3] rfl ?_
        refine kS 3 0 [(69, .agg #[ii (((10 * (t : Int)) + 4) + ((tyN i f : Nat) : Int)), ii ((r : Int) - (v (((10 * (t : Int)) + (i : Int)).toNat)))])] [10] ?_
        refine kW 0 #[ii (((10 * (t : Int)) + 4) + ((tyN i f : Nat) : Int)), ii ((r : Int) - (v (((10 * (t : Int)) + (i : Int)).toNat)))] ?_
        refine kPe [10] ?_
        refine tri_ret ?_
        refine post_then_ret ?_
        refine post_ret1 (v := .agg #[ii (((10 * (t : Int)) + 4) + ((tyN i f : Nat) : Int)), ii ((r : Int) - (v (((10 * (t : Int)) + (i : Int)).toNat)))]) rfl (.cell 0 b1 0 2 #[ii (((10 * (t : Int)) + 4) + ((tyN i f : Nat) : Int)), ii ((r : Int) - (v (((10 * (t : Int)) + (i : Int)).toNat)))] 93 (0, 0) rfl rfl (by kernel_rfl)) (fun W hR => ?_)
        refine ⟨?_, hR.ext⟩
        have e1 := hin (10 * t + i) (by omega)
        have e2 := hin (10 * t + 4 + tyN i f) (by omega)
        have e3 := hin (10 * t + 7 + (tyN i f + 1) % 3) (by omega)
        have e4 := hin (10 * t + 7 + (tyN i f + 2) % 3) (by omega)
        unfold arcP at hr
        simp only [show (10 * (t : Int) + (i : Int)).toNat = 10 * t + i by omega, show (10 * (t : Int) + 4 + ((tyN i f : Nat) : Int)).toNat = 10 * t + 4 + tyN i f by omega, show (10 * (t : Int) + 7 + (((tyN i f : Nat) : Int) + 1) % 3).toNat = 10 * t + 7 + (tyN i f + 1) % 3 by omega, show (10 * (t : Int) + 7 + (((tyN i f : Nat) : Int) + 2) % 3).toNat = 10 * t + 7 + (tyN i f + 2) % 3 by omega] at *
        refine pcV_eq ?_ ?_ <;> unfold atN vn nearB <;> simp only [decide_eq_true_eq] <;> (repeat' split) <;> (try dsimp only) <;> omega
      · refine tri_region (todo := [0, 1, 2, 3]) rfl ?_
        refine kS 2 0 [(60, ii (i : Int)), (59, ii ((tyN i f : Nat) : Int))] [12, 13, 4, 10] ?_
        refine kC en177 #[ii ((tyN i f : Nat) : Int), ii (i : Int)] (.bool false) rfl (fun W hR => ((near_ (tyN i f) i (by omega) W).mono fun e w' h => ⟨by rw [h.1, decide_eq_false (by omega)], h.2⟩)) ?_ (by kernel_rfl)
        refine kSe 1 0 [(62, .bool true)] [12, 13, 4, 10] ?_
        refine tri_cond_true rfl ?_
        refine tri_region (todo := [0, 1, 2, 3, 4]) rfl ?_
        refine kOn 5 8224 [(4, ii (((v ((((10 * (t : Int)) + 4) + ((tyN i f : Nat) : Int)).toNat)) - 1) - ((r : Int) - (v (((10 * (t : Int)) + (i : Int)).toNat)))))] [13, 10] [I64 ((v ((((10 * (t : Int)) + 4) + ((tyN i f : Nat) : Int)).toNat)) - 1), I64 (((v ((((10 * (t : Int)) + 4) + ((tyN i f : Nat) : Int)).toNat)) - 1) - ((r : Int) - (v (((10 * (t : Int)) + (i : Int)).toNat))))] [0, 1, 2, 3] (by refine ap ?_ (ap1 ?_) <;> (first | omega | assumption | (have e1 := hin (10 * t + i) (by omega); have e2 := hin (10 * t + 4 + tyN i f) (by omega); have e3 := hin (10 * t + 7 + (tyN i f + 1) % 3) (by omega); have e4 := hin (10 * t + 7 + (tyN i f + 2) % 3) (by omega); unfold arcP at hr; simp only [show (10 * (t : Int) + (i : Int)).toNat = 10 * t + i by omega, show (10 * (t : Int) + 4 + ((tyN i f : Nat) : Int)).toNat = 10 * t + 4 + tyN i f by omega, show (10 * (t : Int) + 7 + (((tyN i f : Nat) : Int) + 1) % 3).toNat = 10 * t + 7 + (tyN i f + 1) % 3 by omega, show (10 * (t : Int) + 7 + (((tyN i f : Nat) : Int) + 2) % 3).toNat = 10 * t + 7 + (tyN i f + 2) % 3 by omega] at *; omega))) ?_
        refine kS 3 0 [(69, .agg #[ii (((10 * (t : Int)) + 4) + ((tyN i f : Nat) : Int)), ii (((v ((((10 * (t : Int)) + 4) + ((tyN i f : Nat) : Int)).toNat)) - 1) - ((r : Int) - (v (((10 * (t : Int)) + (i : Int)).toNat))))])] [10] ?_
        refine kW 0 #[ii (((10 * (t : Int)) + 4) + ((tyN i f : Nat) : Int)), ii (((v ((((10 * (t : Int)) + 4) + ((tyN i f : Nat) : Int)).toNat)) - 1) - ((r : Int) - (v (((10 * (t : Int)) + (i : Int)).toNat))))] ?_
        refine kPe [10] ?_
        refine tri_ret ?_
        refine post_then_ret ?_
        refine post_ret1 (v := .agg #[ii (((10 * (t : Int)) + 4) + ((tyN i f : Nat) : Int)), ii (((v ((((10 * (t : Int)) + 4) + ((tyN i f : Nat) : Int)).toNat)) - 1) - ((r : Int) - (v (((10 * (t : Int)) + (i : Int)).toNat))))]) rfl (.cell 0 b1 0 2 #[ii (((10 * (t : Int)) + 4) + ((tyN i f : Nat) : Int)), ii (((v ((((10 * (t : Int)) + 4) + ((tyN i f : Nat) : Int)).toNat)) - 1) - ((r : Int) - (v (((10 * (t : Int)) + (i : Int)).toNat))))] 93 (0, 0) rfl rfl (by kernel_rfl)) (fun W hR => ?_)
        refine ⟨?_, hR.ext⟩
        have e1 := hin (10 * t + i) (by omega)
        have e2 := hin (10 * t + 4 + tyN i f) (by omega)
        have e3 := hin (10 * t + 7 + (tyN i f + 1) % 3) (by omega)
        have e4 := hin (10 * t + 7 + (tyN i f + 2) % 3) (by omega)
        unfold arcP at hr
        simp only [show (10 * (t : Int) + (i : Int)).toNat = 10 * t + i by omega, show (10 * (t : Int) + 4 + ((tyN i f : Nat) : Int)).toNat = 10 * t + 4 + tyN i f by omega, show (10 * (t : Int) + 7 + (((tyN i f : Nat) : Int) + 1) % 3).toNat = 10 * t + 7 + (tyN i f + 1) % 3 by omega, show (10 * (t : Int) + 7 + (((tyN i f : Nat) : Int) + 2) % 3).toNat = 10 * t + 7 + (tyN i f + 2) % 3 by omega] at *
        refine pcV_eq ?_ ?_ <;> unfold atN vn nearB <;> simp only [decide_eq_true_eq] <;> (repeat' split) <;> (try dsimp only) <;> omega
    · refine tri_skip ?_
      refine post_then ?_
      refine wr [0, 1, 2, 3] rfl ?_
      refine kOn 4 512 [(4, ii (((r : Int) - (v (((10 * (t : Int)) + (i : Int)).toNat))) - (v ((((10 * (t : Int)) + 4) + ((tyN i f : Nat) : Int)).toNat))))] [10, 0, 1, 2, 3] [I64 (((r : Int) - (v (((10 * (t : Int)) + (i : Int)).toNat))) - (v ((((10 * (t : Int)) + 4) + ((tyN i f : Nat) : Int)).toNat)))] [0, 1, 2, 3, 4, 5] (ap1 (by first | omega | assumption | (have e1 := hin (10 * t + i) (by omega); have e2 := hin (10 * t + 4 + tyN i f) (by omega); have e3 := hin (10 * t + 7 + (tyN i f + 1) % 3) (by omega); have e4 := hin (10 * t + 7 + (tyN i f + 2) % 3) (by omega); unfold arcP at hr; simp only [show (10 * (t : Int) + (i : Int)).toNat = 10 * t + i by omega, show (10 * (t : Int) + 4 + ((tyN i f : Nat) : Int)).toNat = 10 * t + 4 + tyN i f by omega, show (10 * (t : Int) + 7 + (((tyN i f : Nat) : Int) + 1) % 3).toNat = 10 * t + 7 + (tyN i f + 1) % 3 by omega, show (10 * (t : Int) + 7 + (((tyN i f : Nat) : Int) + 2) % 3).toNat = 10 * t + 7 + (tyN i f + 2) % 3 by omega] at *; omega))) ?_
      refine kS 3 0 [(75, ii (i : Int)), (74, ii (f : Int)), (73, ii (t : Int))] [4, 10, 0] ?_
      refine kC en170 #[ii (t : Int), ii (f : Int), ii (i : Int)] (.agg #[ii (10 * (t : Int) + (i : Int)), ii (10 * (t : Int) + 4 + ((tyN i f : Nat) : Int)), ii (10 * (t : Int) + 7 + (((tyN i f : Nat) : Int) + 1) % 3), ii (10 * (t : Int) + 7 + (((tyN i f : Nat) : Int) + 2) % 3)]) rfl (fun W hR => terms_ (by omega) hf hi hne W) ?_ (by kernel_rfl)
      refine kA (.agg #[ii 0, ii 0, ii 0, ii 0]) fun b2 => ?_
      refine kW 0 #[ii (10 * (t : Int) + (i : Int)), ii (10 * (t : Int) + 4 + ((tyN i f : Nat) : Int)), ii (10 * (t : Int) + 7 + (((tyN i f : Nat) : Int) + 1) % 3), ii (10 * (t : Int) + 7 + (((tyN i f : Nat) : Int) + 2) % 3)] ?_
      refine kPe [14, 4, 10, 0] ?_
      refine tri_seq ?_
      refine wr [0, 1, 2] rfl ?_
      refine kSe 3 0 [(79, ii 0), (78, ii 2), (77, sl b2 2 2 2)] [4, 10, 0] ?_
      refine tri_block ?_
      refine tri_rounds 2 ?_
      refine wr [0] rfl ?_
      refine kSe 1 0 [(80, .bool true)] [79, 78, 77, 4, 10, 0] ?_
      refine tri_seq ?_
      refine tri_cond_true rfl ?_
      refine tri_skip ?_
      refine post_then ?_
      refine tri_seq ?_
      refine tri_block ?_
      refine wr [0, 1, 2] rfl ?_
      refine kS 1 0 [(81, pt b2 2)] [79, 78, 77, 4, 10, 0] ?_
      refine kL 0 (ii (10 * (t : Int) + 7 + (((tyN i f : Nat) : Int) + 1) % 3)) ?_
      refine kSe 1 0 [(16, ii (10 * (t : Int) + 7 + (((tyN i f : Nat) : Int) + 1) % 3))] [79, 78, 77, 4, 10, 0] ?_
      refine tri_seq ?_
      refine wr [0, 1, 2, 3, 4, 5, 6, 7, 8] rfl ?_
      refine kS 4 0 [(86, pt bs 1), (83, ii (((r : Int) - (v (((10 * (t : Int)) + (i : Int)).toNat))) - (v ((((10 * (t : Int)) + 4) + ((tyN i f : Nat) : Int)).toNat))))] [16, 79, 78, 77, 4, 10, 0] ?_
      refine kM bs 1 [sl bv ov nv cv] (sl bv ov nv cv) (hs.v) ?_
      refine kO 2 144 [(89, pt bv (ov + (10 * (t : Int) + 7 + (((tyN i f : Nat) : Int) + 1) % 3).toNat))] [83, 16, 79, 78, 77, 4, 10, 0] [(0 : Int) ≤ 10 * (t : Int) + 7 + (((tyN i f : Nat) : Int) + 1) % 3, 10 * (t : Int) + 7 + (((tyN i f : Nat) : Int) + 1) % 3 < ((nv : Nat) : Int)] (by refine ap ?_ (ap1 ?_) <;> (first | omega | assumption | (have e1 := hin (10 * t + i) (by omega); have e2 := hin (10 * t + 4 + tyN i f) (by omega); have e3 := hin (10 * t + 7 + (tyN i f + 1) % 3) (by omega); have e4 := hin (10 * t + 7 + (tyN i f + 2) % 3) (by omega); unfold arcP at hr; simp only [show (10 * (t : Int) + (i : Int)).toNat = 10 * t + i by omega, show (10 * (t : Int) + 4 + ((tyN i f : Nat) : Int)).toNat = 10 * t + 4 + tyN i f by omega, show (10 * (t : Int) + 7 + (((tyN i f : Nat) : Int) + 1) % 3).toNat = 10 * t + 7 + (tyN i f + 1) % 3 by omega, show (10 * (t : Int) + 7 + (((tyN i f : Nat) : Int) + 2) % 3).toNat = 10 * t + 7 + (tyN i f + 2) % 3 by omega] at *; omega))) ?_
      refine kM bv (ov + (10 * (t : Int) + 7 + (((tyN i f : Nat) : Int) + 1) % 3).toNat) [ii (v ((10 * (t : Int) + 7 + (((tyN i f : Nat) : Int) + 1) % 3).toNat))] (ii (v ((10 * (t : Int) + 7 + (((tyN i f : Nat) : Int) + 1) % 3).toNat))) (hv.one (by omega)) ?_
      refine kSe 1 5 [(91, .bool (decide (((r : Int) - (v (((10 * (t : Int)) + (i : Int)).toNat))) - (v ((((10 * (t : Int)) + 4) + ((tyN i f : Nat) : Int)).toNat)) < v ((10 * (t : Int) + 7 + (((tyN i f : Nat) : Int) + 1) % 3).toNat))))] [16, 79, 78, 77, 4, 10, 0] ?_
      refine tri_cond_dec (p := ((r : Int) - (v (((10 * (t : Int)) + (i : Int)).toNat))) - (v ((((10 * (t : Int)) + 4) + ((tyN i f : Nat) : Int)).toNat)) < v ((10 * (t : Int) + 7 + (((tyN i f : Nat) : Int) + 1) % 3).toNat)) rfl (fun h3 => ?_) (fun h3 => ?_)
      · refine wr [0, 1, 2, 3] rfl ?_
        refine kS 3 0 [(94, .agg #[ii (10 * (t : Int) + 7 + (((tyN i f : Nat) : Int) + 1) % 3), ii (((r : Int) - (v (((10 * (t : Int)) + (i : Int)).toNat))) - (v ((((10 * (t : Int)) + 4) + ((tyN i f : Nat) : Int)).toNat)))])] [10] ?_
        refine kW 1 #[ii (10 * (t : Int) + 7 + (((tyN i f : Nat) : Int) + 1) % 3), ii (((r : Int) - (v (((10 * (t : Int)) + (i : Int)).toNat))) - (v ((((10 * (t : Int)) + 4) + ((tyN i f : Nat) : Int)).toNat)))] ?_
        refine kPe [10] ?_
        refine tri_ret ?_
        refine post_then_ret ?_
        refine post_block_ret ?_
        refine post_then_ret ?_
        refine post_more_ret ?_
        refine post_block_ret ?_
        refine post_then_ret ?_
        refine post_ret1 (v := .agg #[ii (10 * (t : Int) + 7 + (((tyN i f : Nat) : Int) + 1) % 3), ii (((r : Int) - (v (((10 * (t : Int)) + (i : Int)).toNat))) - (v ((((10 * (t : Int)) + 4) + ((tyN i f : Nat) : Int)).toNat)))]) rfl (.cell 1 b1 0 2 #[ii (10 * (t : Int) + 7 + (((tyN i f : Nat) : Int) + 1) % 3), ii (((r : Int) - (v (((10 * (t : Int)) + (i : Int)).toNat))) - (v ((((10 * (t : Int)) + 4) + ((tyN i f : Nat) : Int)).toNat)))] 93 (0, 0) rfl rfl (by kernel_rfl)) (fun W hR => ?_)
        refine ⟨?_, hR.ext⟩
        have e1 := hin (10 * t + i) (by omega)
        have e2 := hin (10 * t + 4 + tyN i f) (by omega)
        have e3 := hin (10 * t + 7 + (tyN i f + 1) % 3) (by omega)
        have e4 := hin (10 * t + 7 + (tyN i f + 2) % 3) (by omega)
        unfold arcP at hr
        simp only [show (10 * (t : Int) + (i : Int)).toNat = 10 * t + i by omega, show (10 * (t : Int) + 4 + ((tyN i f : Nat) : Int)).toNat = 10 * t + 4 + tyN i f by omega, show (10 * (t : Int) + 7 + (((tyN i f : Nat) : Int) + 1) % 3).toNat = 10 * t + 7 + (tyN i f + 1) % 3 by omega, show (10 * (t : Int) + 7 + (((tyN i f : Nat) : Int) + 2) % 3).toNat = 10 * t + 7 + (tyN i f + 2) % 3 by omega] at *
        refine pcV_eq ?_ ?_ <;> unfold atN vn nearB <;> simp only [decide_eq_true_eq] <;> (repeat' split) <;> (try dsimp only) <;> omega
      · refine tri_skip ?_
        refine post_then ?_
        refine tri_region (todo := [0, 1, 2, 3, 4, 5, 6, 7, 8, 9]) rfl ?_
        refine kS 4 0 [(98, pt bs 1), (95, ii (((r : Int) - (v (((10 * (t : Int)) + (i : Int)).toNat))) - (v ((((10 * (t : Int)) + 4) + ((tyN i f : Nat) : Int)).toNat))))] [16, 79, 78, 77, 4, 10, 0] ?_
        refine kM bs 1 [sl bv ov nv cv] (sl bv ov nv cv) (hs.v) ?_
        refine kO 2 144 [(101, pt bv (ov + (10 * (t : Int) + 7 + (((tyN i f : Nat) : Int) + 1) % 3).toNat))] [95, 79, 78, 77, 4, 10, 0] [(0 : Int) ≤ 10 * (t : Int) + 7 + (((tyN i f : Nat) : Int) + 1) % 3, 10 * (t : Int) + 7 + (((tyN i f : Nat) : Int) + 1) % 3 < ((nv : Nat) : Int)] (by refine ap ?_ (ap1 ?_) <;> (first | omega | assumption | (have e1 := hin (10 * t + i) (by omega); have e2 := hin (10 * t + 4 + tyN i f) (by omega); have e3 := hin (10 * t + 7 + (tyN i f + 1) % 3) (by omega); have e4 := hin (10 * t + 7 + (tyN i f + 2) % 3) (by omega); unfold arcP at hr; simp only [show (10 * (t : Int) + (i : Int)).toNat = 10 * t + i by omega, show (10 * (t : Int) + 4 + ((tyN i f : Nat) : Int)).toNat = 10 * t + 4 + tyN i f by omega, show (10 * (t : Int) + 7 + (((tyN i f : Nat) : Int) + 1) % 3).toNat = 10 * t + 7 + (tyN i f + 1) % 3 by omega, show (10 * (t : Int) + 7 + (((tyN i f : Nat) : Int) + 2) % 3).toNat = 10 * t + 7 + (tyN i f + 2) % 3 by omega] at *; omega))) ?_
        refine kM bv (ov + (10 * (t : Int) + 7 + (((tyN i f : Nat) : Int) + 1) % 3).toNat) [ii (v ((10 * (t : Int) + 7 + (((tyN i f : Nat) : Int) + 1) % 3).toNat))] (ii (v ((10 * (t : Int) + 7 + (((tyN i f : Nat) : Int) + 1) % 3).toNat))) (hv.one (by omega)) ?_
        refine kO 2 2 [(4, ii ((((r : Int) - (v (((10 * (t : Int)) + (i : Int)).toNat))) - (v ((((10 * (t : Int)) + 4) + ((tyN i f : Nat) : Int)).toNat))) - (v ((10 * (t : Int) + 7 + (((tyN i f : Nat) : Int) + 1) % 3).toNat))))] [79, 78, 77, 10, 0] [I64 ((((r : Int) - (v (((10 * (t : Int)) + (i : Int)).toNat))) - (v ((((10 * (t : Int)) + 4) + ((tyN i f : Nat) : Int)).toNat))) - (v ((10 * (t : Int) + 7 + (((tyN i f : Nat) : Int) + 1) % 3).toNat)))] (ap1 (by first | omega | assumption | (have e1 := hin (10 * t + i) (by omega); have e2 := hin (10 * t + 4 + tyN i f) (by omega); have e3 := hin (10 * t + 7 + (tyN i f + 1) % 3) (by omega); have e4 := hin (10 * t + 7 + (tyN i f + 2) % 3) (by omega); unfold arcP at hr; simp only [show (10 * (t : Int) + (i : Int)).toNat = 10 * t + i by omega, show (10 * (t : Int) + 4 + ((tyN i f : Nat) : Int)).toNat = 10 * t + 4 + tyN i f by omega, show (10 * (t : Int) + 7 + (((tyN i f : Nat) : Int) + 1) % 3).toNat = 10 * t + 7 + (tyN i f + 1) % 3 by omega, show (10 * (t : Int) + 7 + (((tyN i f : Nat) : Int) + 2) % 3).toNat = 10 * t + 7 + (tyN i f + 2) % 3 by omega] at *; omega))) ?_
        refine opsT_end ?_
        refine post_block ?_
        refine post_then ?_
        refine tri_region (todo := [0, 1]) rfl ?_
        refine kS 2 0 [(79, ii 1)] [4, 78, 77, 10, 0] ?_
        refine opsT_end ?_
        refine post_more ?_
        refine wr [0] rfl ?_
        refine kSe 1 0 [(80, .bool true)] [79, 4, 78, 77, 10, 0] ?_
        refine tri_seq ?_
        refine tri_cond_true rfl ?_
        refine tri_skip ?_
        refine post_then ?_
        refine tri_seq ?_
        refine tri_block ?_
        refine wr [0, 1, 2] rfl ?_
        refine kS 1 0 [(81, pt b2 3)] [79, 4, 78, 77, 10, 0] ?_
        refine kL 0 (ii (10 * (t : Int) + 7 + (((tyN i f : Nat) : Int) + 2) % 3)) ?_
        refine kSe 1 0 [(16, ii (10 * (t : Int) + 7 + (((tyN i f : Nat) : Int) + 2) % 3))] [79, 4, 78, 77, 10, 0] ?_
        refine tri_seq ?_
        refine wr [0, 1, 2, 3, 4, 5, 6, 7, 8] rfl ?_
        refine kS 4 0 [(86, pt bs 1), (83, ii ((((r : Int) - (v (((10 * (t : Int)) + (i : Int)).toNat))) - (v ((((10 * (t : Int)) + 4) + ((tyN i f : Nat) : Int)).toNat))) - (v ((10 * (t : Int) + 7 + (((tyN i f : Nat) : Int) + 1) % 3).toNat))))] [16, 79, 4, 78, 77, 10, 0] ?_
        refine kM bs 1 [sl bv ov nv cv] (sl bv ov nv cv) (hs.v) ?_
        refine kO 2 144 [(89, pt bv (ov + (10 * (t : Int) + 7 + (((tyN i f : Nat) : Int) + 2) % 3).toNat))] [83, 16, 79, 4, 78, 77, 10, 0] [(0 : Int) ≤ 10 * (t : Int) + 7 + (((tyN i f : Nat) : Int) + 2) % 3, 10 * (t : Int) + 7 + (((tyN i f : Nat) : Int) + 2) % 3 < ((nv : Nat) : Int)] (by refine ap ?_ (ap1 ?_) <;> (first | omega | assumption | (have e1 := hin (10 * t + i) (by omega); have e2 := hin (10 * t + 4 + tyN i f) (by omega); have e3 := hin (10 * t + 7 + (tyN i f + 1) % 3) (by omega); have e4 := hin (10 * t + 7 + (tyN i f + 2) % 3) (by omega); unfold arcP at hr; simp only [show (10 * (t : Int) + (i : Int)).toNat = 10 * t + i by omega, show (10 * (t : Int) + 4 + ((tyN i f : Nat) : Int)).toNat = 10 * t + 4 + tyN i f by omega, show (10 * (t : Int) + 7 + (((tyN i f : Nat) : Int) + 1) % 3).toNat = 10 * t + 7 + (tyN i f + 1) % 3 by omega, show (10 * (t : Int) + 7 + (((tyN i f : Nat) : Int) + 2) % 3).toNat = 10 * t + 7 + (tyN i f + 2) % 3 by omega] at *; omega))) ?_
        refine kM bv (ov + (10 * (t : Int) + 7 + (((tyN i f : Nat) : Int) + 2) % 3).toNat) [ii (v ((10 * (t : Int) + 7 + (((tyN i f : Nat) : Int) + 2) % 3).toNat))] (ii (v ((10 * (t : Int) + 7 + (((tyN i f : Nat) : Int) + 2) % 3).toNat))) (hv.one (by omega)) ?_
        refine kSe 1 5 [(91, .bool (decide ((((r : Int) - (v (((10 * (t : Int)) + (i : Int)).toNat))) - (v ((((10 * (t : Int)) + 4) + ((tyN i f : Nat) : Int)).toNat))) - (v ((10 * (t : Int) + 7 + (((tyN i f : Nat) : Int) + 1) % 3).toNat)) < v ((10 * (t : Int) + 7 + (((tyN i f : Nat) : Int) + 2) % 3).toNat))))] [16, 79, 4, 78, 77, 10, 0] ?_
        refine tri_cond_dec (p := (((r : Int) - (v (((10 * (t : Int)) + (i : Int)).toNat))) - (v ((((10 * (t : Int)) + 4) + ((tyN i f : Nat) : Int)).toNat))) - (v ((10 * (t : Int) + 7 + (((tyN i f : Nat) : Int) + 1) % 3).toNat)) < v ((10 * (t : Int) + 7 + (((tyN i f : Nat) : Int) + 2) % 3).toNat)) rfl (fun h4 => ?_) (fun h4 => ?_)
        · refine wr [0, 1, 2, 3] rfl ?_
          refine kS 3 0 [(94, .agg #[ii (10 * (t : Int) + 7 + (((tyN i f : Nat) : Int) + 2) % 3), ii ((((r : Int) - (v (((10 * (t : Int)) + (i : Int)).toNat))) - (v ((((10 * (t : Int)) + 4) + ((tyN i f : Nat) : Int)).toNat))) - (v ((10 * (t : Int) + 7 + (((tyN i f : Nat) : Int) + 1) % 3).toNat)))])] [10] ?_
          refine kW 1 #[ii (10 * (t : Int) + 7 + (((tyN i f : Nat) : Int) + 2) % 3), ii ((((r : Int) - (v (((10 * (t : Int)) + (i : Int)).toNat))) - (v ((((10 * (t : Int)) + 4) + ((tyN i f : Nat) : Int)).toNat))) - (v ((10 * (t : Int) + 7 + (((tyN i f : Nat) : Int) + 1) % 3).toNat)))] ?_
          refine kPe [10] ?_
          refine tri_ret ?_
          refine post_then_ret ?_
          refine post_block_ret ?_
          refine post_then_ret ?_
          refine post_more_ret ?_
          refine post_block_ret ?_
          refine post_then_ret ?_
          refine post_ret1 (v := .agg #[ii (10 * (t : Int) + 7 + (((tyN i f : Nat) : Int) + 2) % 3), ii ((((r : Int) - (v (((10 * (t : Int)) + (i : Int)).toNat))) - (v ((((10 * (t : Int)) + 4) + ((tyN i f : Nat) : Int)).toNat))) - (v ((10 * (t : Int) + 7 + (((tyN i f : Nat) : Int) + 1) % 3).toNat)))]) rfl (.cell 1 b1 0 2 #[ii (10 * (t : Int) + 7 + (((tyN i f : Nat) : Int) + 2) % 3), ii ((((r : Int) - (v (((10 * (t : Int)) + (i : Int)).toNat))) - (v ((((10 * (t : Int)) + 4) + ((tyN i f : Nat) : Int)).toNat))) - (v ((10 * (t : Int) + 7 + (((tyN i f : Nat) : Int) + 1) % 3).toNat)))] 93 (0, 0) rfl rfl (by kernel_rfl)) (fun W hR => ?_)
          refine ⟨?_, hR.ext⟩
          have e1 := hin (10 * t + i) (by omega)
          have e2 := hin (10 * t + 4 + tyN i f) (by omega)
          have e3 := hin (10 * t + 7 + (tyN i f + 1) % 3) (by omega)
          have e4 := hin (10 * t + 7 + (tyN i f + 2) % 3) (by omega)
          unfold arcP at hr
          simp only [show (10 * (t : Int) + (i : Int)).toNat = 10 * t + i by omega, show (10 * (t : Int) + 4 + ((tyN i f : Nat) : Int)).toNat = 10 * t + 4 + tyN i f by omega, show (10 * (t : Int) + 7 + (((tyN i f : Nat) : Int) + 1) % 3).toNat = 10 * t + 7 + (tyN i f + 1) % 3 by omega, show (10 * (t : Int) + 7 + (((tyN i f : Nat) : Int) + 2) % 3).toNat = 10 * t + 7 + (tyN i f + 2) % 3 by omega] at *
          refine pcV_eq ?_ ?_ <;> unfold atN vn nearB <;> simp only [decide_eq_true_eq] <;> (repeat' split) <;> (try dsimp only) <;> omega
        · refine tri_skip ?_
          refine post_then ?_
          refine tri_region (todo := [0, 1, 2, 3, 4, 5, 6, 7, 8, 9]) rfl ?_
          refine kS 4 0 [(98, pt bs 1), (95, ii ((((r : Int) - (v (((10 * (t : Int)) + (i : Int)).toNat))) - (v ((((10 * (t : Int)) + 4) + ((tyN i f : Nat) : Int)).toNat))) - (v ((10 * (t : Int) + 7 + (((tyN i f : Nat) : Int) + 1) % 3).toNat))))] [16, 79, 4, 78, 77, 10, 0] ?_
          refine kM bs 1 [sl bv ov nv cv] (sl bv ov nv cv) (hs.v) ?_
          refine kO 2 144 [(101, pt bv (ov + (10 * (t : Int) + 7 + (((tyN i f : Nat) : Int) + 2) % 3).toNat))] [95, 79, 4, 78, 77, 10, 0] [(0 : Int) ≤ 10 * (t : Int) + 7 + (((tyN i f : Nat) : Int) + 2) % 3, 10 * (t : Int) + 7 + (((tyN i f : Nat) : Int) + 2) % 3 < ((nv : Nat) : Int)] (by refine ap ?_ (ap1 ?_) <;> (first | omega | assumption | (have e1 := hin (10 * t + i) (by omega); have e2 := hin (10 * t + 4 + tyN i f) (by omega); have e3 := hin (10 * t + 7 + (tyN i f + 1) % 3) (by omega); have e4 := hin (10 * t + 7 + (tyN i f + 2) % 3) (by omega); unfold arcP at hr; simp only [show (10 * (t : Int) + (i : Int)).toNat = 10 * t + i by omega, show (10 * (t : Int) + 4 + ((tyN i f : Nat) : Int)).toNat = 10 * t + 4 + tyN i f by omega, show (10 * (t : Int) + 7 + (((tyN i f : Nat) : Int) + 1) % 3).toNat = 10 * t + 7 + (tyN i f + 1) % 3 by omega, show (10 * (t : Int) + 7 + (((tyN i f : Nat) : Int) + 2) % 3).toNat = 10 * t + 7 + (tyN i f + 2) % 3 by omega] at *; omega))) ?_
          refine kM bv (ov + (10 * (t : Int) + 7 + (((tyN i f : Nat) : Int) + 2) % 3).toNat) [ii (v ((10 * (t : Int) + 7 + (((tyN i f : Nat) : Int) + 2) % 3).toNat))] (ii (v ((10 * (t : Int) + 7 + (((tyN i f : Nat) : Int) + 2) % 3).toNat))) (hv.one (by omega)) ?_
          refine kO 2 2 [(4, ii (((((r : Int) - (v (((10 * (t : Int)) + (i : Int)).toNat))) - (v ((((10 * (t : Int)) + 4) + ((tyN i f : Nat) : Int)).toNat))) - (v ((10 * (t : Int) + 7 + (((tyN i f : Nat) : Int) + 1) % 3).toNat))) - (v ((10 * (t : Int) + 7 + (((tyN i f : Nat) : Int) + 2) % 3).toNat))))] [79, 78, 77, 10, 0] [I64 (((((r : Int) - (v (((10 * (t : Int)) + (i : Int)).toNat))) - (v ((((10 * (t : Int)) + 4) + ((tyN i f : Nat) : Int)).toNat))) - (v ((10 * (t : Int) + 7 + (((tyN i f : Nat) : Int) + 1) % 3).toNat))) - (v ((10 * (t : Int) + 7 + (((tyN i f : Nat) : Int) + 2) % 3).toNat)))] (ap1 (by first | omega | assumption | (have e1 := hin (10 * t + i) (by omega); have e2 := hin (10 * t + 4 + tyN i f) (by omega); have e3 := hin (10 * t + 7 + (tyN i f + 1) % 3) (by omega); have e4 := hin (10 * t + 7 + (tyN i f + 2) % 3) (by omega); unfold arcP at hr; simp only [show (10 * (t : Int) + (i : Int)).toNat = 10 * t + i by omega, show (10 * (t : Int) + 4 + ((tyN i f : Nat) : Int)).toNat = 10 * t + 4 + tyN i f by omega, show (10 * (t : Int) + 7 + (((tyN i f : Nat) : Int) + 1) % 3).toNat = 10 * t + 7 + (tyN i f + 1) % 3 by omega, show (10 * (t : Int) + 7 + (((tyN i f : Nat) : Int) + 2) % 3).toNat = 10 * t + 7 + (tyN i f + 2) % 3 by omega] at *; omega))) ?_
          refine opsT_end ?_
          refine post_block ?_
          refine post_then ?_
          refine tri_region (todo := [0, 1]) rfl ?_
          refine kS 2 0 [(79, ii 2)] [4, 78, 77, 10, 0] ?_
          refine opsT_end ?_
          refine post_more ?_
          refine wr [0] rfl ?_
          refine kSe 1 0 [(80, .bool false)] [79, 4, 78, 77, 10, 0] ?_
          refine tri_seq ?_
          refine tri_cond_false rfl ?_
          refine tri_exit ?_
          refine post_then_exit ?_
          refine post_more_exit ?_
          refine post_block_hit ?_
          refine post_then ?_
          refine tri_region (todo := [0, 1, 2]) rfl ?_
          refine kS 1 0 [(105, .agg #[])] [10] ?_
          exfalso
          first | omega | (have e1 := hin (10 * t + i) (by omega); have e2 := hin (10 * t + 4 + tyN i f) (by omega); have e3 := hin (10 * t + 7 + (tyN i f + 1) % 3) (by omega); have e4 := hin (10 * t + 7 + (tyN i f + 2) % 3) (by omega); unfold arcP at hr; simp only [show (10 * (t : Int) + (i : Int)).toNat = 10 * t + i by omega, show (10 * (t : Int) + 4 + ((tyN i f : Nat) : Int)).toNat = 10 * t + 4 + tyN i f by omega, show (10 * (t : Int) + 7 + (((tyN i f : Nat) : Int) + 1) % 3).toNat = 10 * t + 7 + (tyN i f + 1) % 3 by omega, show (10 * (t : Int) + 7 + (((tyN i f : Nat) : Int) + 2) % 3).toNat = 10 * t + 7 + (tyN i f + 2) % 3 by omega] at *; omega)
end Go.Proofs.YtlkbokbcfajhjaaGreat
