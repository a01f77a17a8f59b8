/- G25s: sorting -/
import Derived.Test.YtlkbokbcfajhjaaGreatG24
import Derived.Test.YtlkbokbcfajhjaaGreatBA
import Derived.Test.YtlkbokbcfajhjaaGreatShelf
import Derived.Test.YtlkbokbcfajhjaaGreatB17
import Derived.Test.YtlkbokbcfajhjaaGreatD1
namespace Go.Proofs.YtlkbokbcfajhjaaGreat
open Go.Proofs.Walk
set_option maxRecDepth 100000
set_option linter.unusedVariables false
set_option linter.unusedSimpArgs false

theorem en176 : Walk.Enters Tryz.prog 176 := Walk.enters Tryz.func176 (by kernel_rfl) rfl
theorem en150 : Walk.Enters Tryz.prog 150 := Walk.enters Tryz.func150 (by kernel_rfl) rfl
theorem en80 : Walk.Enters Tryz.prog 80 := Walk.enters Tryz.func80 (by kernel_rfl) rfl
theorem en218 : Walk.Enters Tryz.prog 218 := Walk.enters Tryz.func218 (by kernel_rfl) rfl
/-- The entries of a list. -/
def vOf (l : List Int) (j : Nat) : Int := l.getD j 0
/-- What one's own blocks hold. -/
theorem atV_own {W0 W : World} {M : List Nat} {hs : List (Nat × Obj)} {b m : Nat} {t : TypeId} {l : List Int} (hR : Rep W0 M hs W) (hm : (b, intsB l t) ∈ hs) (hl : l.length = m) : AtV W b 0 m (vOf l) := by
  intro i hi
  rw [cell_own (hR.own b _ hm)]
  subst hl
  simp [vOf, List.getD, hi]
theorem atV_room {W0 W : World} {M : List Nat} {hs : List (Nat × Obj)} {b m : Nat} {t : TypeId} {l : List Int} {sp : List Value} (hR : Rep W0 M hs W) (hm : (b, vecB (l.map (Value.int .i64) ++ sp) t) ∈ hs) (hl : l.length = m) : AtV W b 0 m (vOf l) := by
  intro i hi
  rw [cell_own (hR.own b _ hm)]
  subst hl
  have h1 : (l.map (Value.int .i64))[i]? = some (.int .i64 (vOf l i)) := by simp [vOf, List.getD, hi]
  have h2 : i < (l.map (Value.int .i64)).length := by simpa using hi
  simp only [Nat.zero_add, List.getElem?_toArray, List.getElem?_append_left h2, h1]
theorem listN_of {l : List Int} {m : Nat} (hl : l.length = m) : listN m (vOf l) = l := by
  subst hl
  apply List.ext_getElem?
  intro i
  by_cases hi : i < l.length
  · simp [listN, vOf, hi]
  · simp [listN, vOf, hi]
/-- Comparing. -/
def cmpZ (a b : Int) : Int := if a < b then -1 else if b < a then 1 else 0
def lexC (a c : Nat → Int) : Nat → Nat → Int
  | 0, _ => 0
  | k + 1, i => if cmpZ (a i) (c i) = 0 then lexC a c k (i + 1) else cmpZ (a i) (c i)
theorem lexC_same {a c : Nat → Int} {n i : Nat} (hi : i < n) (h : cmpZ (a i) (c i) = 0) : lexC a c (n - i) i = lexC a c (n - (i + 1)) (i + 1) := by
  rw [show n - i = (n - (i + 1)) + 1 by omega]
  simp only [lexC, if_pos h]
theorem lexC_else {a c : Nat → Int} {n i : Nat} (hi : i < n) (h : ¬ cmpZ (a i) (c i) = 0) : lexC a c (n - i) i = cmpZ (a i) (c i) := by
  rw [show n - i = (n - (i + 1)) + 1 by omega]
  simp only [lexC, if_neg h]

theorem isNaN_ (x : Int) (w : World) : Calls Tryz.prog 176 #[ii x] w fun e w' => e = .returned (.bool false) ∧ Ext w w' := by
  refine calls_of (n := 6) Tryz.func176 rfl Tryz.ntmps176 rfl ?_
  refine tri_eq (l' := [(0, ii x)]) (hs' := []) rfl rfl ?_
  refine wr [0] rfl ?_
  refine kSn 1 0 [] [0] [0, 1, 2, 3] ?_
  refine kSe 4 1280 [(2, .bool (!decide (x = x)))] [] ?_
  refine tri_ret ?_
  refine post_ret1 (v := .bool (!decide (x = x))) rfl (.tmp rfl) (fun W hR => ?_)
  exact ⟨by simp, hR.ext⟩
theorem cmpZ_ (a c : Int) (w : World) : Calls Tryz.prog 150 #[ii a, ii c] w fun e w' => e = .returned (.int .i64 (cmpZ a c)) ∧ Ext w w' := by
  refine calls_of (n := 20) Tryz.func150 rfl Tryz.ntmps150 rfl ?_
  refine tri_eq (l' := [(0, ii a), (1, ii c)]) (hs' := []) rfl rfl ?_
  refine wr [0] rfl ?_
  refine kSn 1 0 [] [0, 1] [0, 1, 2] ?_
  refine kS 1 0 [(7, ii a)] [0, 1] ?_
  refine kC en176 #[ii a] (.bool false) rfl (fun W hR => isNaN_ _ W) ?_ (by kernel_rfl)
  refine kSn 1 0 [(5, .bool false)] [0, 1] [0, 1, 2] ?_
  refine kS 1 0 [(9, ii c)] [5, 0, 1] ?_
  refine kC en176 #[ii c] (.bool false) rfl (fun W hR => isNaN_ _ W) ?_ (by kernel_rfl)
  refine kSe 1 0 [(6, .bool false)] [5, 0, 1] ?_
  refine tri_seq ?_
  refine wr [0] rfl ?_
  refine kSe 1 0 [(11, .bool false)] [6, 0, 1] ?_
  refine tri_cond_false rfl ?_
  refine tri_skip ?_
  refine post_then ?_
  refine tri_seq ?_
  refine wr [0] rfl ?_
  refine kSe 1 0 [(13, .bool false)] [0, 1] ?_
  refine tri_cond_false rfl ?_
  refine tri_skip ?_
  refine post_then ?_
  refine tri_seq ?_
  refine wr [0, 1, 2] rfl ?_
  refine kSe 3 1280 [(16, .bool (decide (a < c)))] [0, 1] ?_
  refine tri_cond_dec (p := a < c) rfl (fun h1 => ?_) (fun h1 => ?_)
  · refine wr [0] rfl ?_
    refine kSe 1 0 [(4, ii (-1))] [] ?_
    refine tri_ret ?_
    refine post_then_ret ?_
    refine post_ret1 (v := ii (-1)) rfl (.tmp rfl) (fun W hR => ?_)
    refine ⟨?_, hR.ext⟩
    unfold cmpZ
    first | (rw [if_pos (by assumption)]; done) | (rw [if_neg (by assumption), if_pos (by assumption)]; done) | (rw [if_neg (by assumption), if_neg (by assumption)]; done)
  · refine tri_skip ?_
    refine post_then ?_
    refine tri_seq ?_
    refine wr [0, 1, 2] rfl ?_
    refine kSe 3 1280 [(19, .bool (decide (c < a)))] [] ?_
    refine tri_cond_dec (p := c < a) rfl (fun h2 => ?_) (fun h2 => ?_)
    · refine wr [0] rfl ?_
      refine kSe 1 0 [(4, ii 1)] [] ?_
      refine tri_ret ?_
      refine post_then_ret ?_
      refine post_ret1 (v := ii 1) rfl (.tmp rfl) (fun W hR => ?_)
      refine ⟨?_, hR.ext⟩
      unfold cmpZ
      first | (rw [if_pos (by assumption)]; done) | (rw [if_neg (by assumption), if_pos (by assumption)]; done) | (rw [if_neg (by assumption), if_neg (by assumption)]; done)
    · refine tri_skip ?_
      refine post_then ?_
      refine wr [0] rfl ?_
      refine kSe 1 0 [(4, ii 0)] [] ?_
      refine tri_ret ?_
      refine post_ret1 (v := ii 0) rfl (.tmp rfl) (fun W hR => ?_)
      refine ⟨?_, hR.ext⟩
      unfold cmpZ
      first | (rw [if_pos (by assumption)]; done) | (rw [if_neg (by assumption), if_pos (by assumption)]; done) | (rw [if_neg (by assumption), if_neg (by assumption)]; done)
theorem compare_ {ba oa na ca bb ob cb : Nat} {a c : Nat → Int} {w : World} (ha : AtV w ba oa na a) (hb : AtV w bb ob na c) (hn : na ≤ 1000000000000) : Calls Tryz.prog 80 #[sl ba oa na ca, sl bb ob na cb] w fun e w' => e = .returned (.int .i64 (lexC a c na 0)) ∧ Ext w w' := by
  refine calls_of (n := 36) Tryz.func80 rfl Tryz.ntmps80 rfl ?_
  refine tri_eq (l' := [(0, sl ba oa na ca), (1, sl bb ob na cb)]) (hs' := []) rfl rfl ?_
  refine wr [0] rfl ?_
  refine kSe 1 0 [] [0, 1] ?_
  refine tri_seq ?_
  refine wr [0, 1, 2] rfl ?_
  refine kSe 3 0 [(11, ii 0), (10, ii ((na : Nat) : Int)), (9, sl ba oa na ca)] [0, 1] ?_
  refine tri_block ?_
  refine tri_loop (β := Nat) (fun xz => [(10, ii ((na : Nat) : Int)), (9, sl ba oa na ca), (0, sl ba oa na ca), (1, sl bb ob na cb), (11, ii (xz : Int))]) (fun xz => []) (fun xz => xz ≤ na ∧ lexC a c na 0 = lexC a c (na - xz) xz) (fun xz => na - xz) 0 (look_pickL (ks := [10, 9, 0, 1, 11]) (by kernel_rfl)) (List.Sublist.refl _) ⟨Nat.zero_le _, rfl⟩ ?_
  rintro i hC0
  try dsimp only at hC0
  refine tri_eq (l' := [(10, ii ((na : Nat) : Int)), (9, sl ba oa na ca), (0, sl ba oa na ca), (1, sl bb ob na cb), (11, ii (i : Int))]) (hs' := []) rfl rfl ?_
  refine wr [0] rfl ?_
  refine kSe 1 5 [(12, .bool (decide ((i : Int) < ((na : Nat) : Int))))] [10, 9, 0, 1, 11] ?_
  refine tri_seq ?_
  refine tri_cond_dec (p := (i : Int) < ((na : Nat) : Int)) rfl (fun h1 => ?_) (fun h1 => ?_)
  · refine tri_skip ?_
    refine post_then ?_
    refine tri_seq ?_
    refine tri_block ?_
    refine wr [0, 1, 2, 3, 4] rfl ?_
    refine kO 2 144 [(14, pt ba (oa + i)), (13, ii (i : Int))] [10, 9, 0, 1, 11] [(0 : Int) ≤ (i : Int), (i : Int) < ((na : Nat) : Int)] (by refine ap ?_ (ap1 ?_) <;> (first | omega | assumption)) ?_
    refine kM ba (oa + i) [ii (a i)] (ii (a i)) (ha.one (by omega)) ?_
    refine kSe 2 0 [(6, ii (a i)), (5, ii (i : Int))] [10, 9, 0, 1, 11] ?_
    refine tri_seq ?_
    refine wr [0, 1, 2, 3] rfl ?_
    refine kSe 4 20480 [(19, .bool (decide (((na : Nat) : Int) ≤ (i : Int))))] [6, 5, 10, 9, 0, 1, 11] ?_
    refine tri_cond_dec (p := ((na : Nat) : Int) ≤ (i : Int)) rfl (fun h2 => ?_) (fun h2 => ?_)
    · refine wr [0] rfl ?_
      refine kSe 1 0 [(4, ii 1)] [] ?_
      refine tri_ret ?_
      refine post_then_ret ?_
      refine post_block_ret ?_
      refine post_then_ret ?_
      refine post_round_ret ?_
      refine post_block_ret ?_
      refine post_then_ret ?_
      refine post_ret1 (v := ii 1) rfl (.tmp rfl) (fun W hR => ?_)
      first | (exfalso; omega) | (refine ⟨?_, hR.ext⟩; rw [hC0.2, lexC_else (by omega) (by assumption)]) | (refine ⟨?_, hR.ext⟩; rw [hC0.2, show na - i = 0 by omega]; rfl)
    · refine tri_skip ?_
      refine post_then ?_
      refine wr [0, 1, 2, 3, 4] rfl ?_
      refine kO 3 2304 [(22, pt bb (ob + i))] [6, 10, 9, 0, 1, 11] [(0 : Int) ≤ (i : Int), (i : Int) < ((na : Nat) : Int)] (by refine ap ?_ (ap1 ?_) <;> (first | omega | assumption)) ?_
      refine kM bb (ob + i) [ii (c i)] (ii (c i)) (hb.one (by omega)) ?_
      refine kSn 1 0 [(7, ii (c i))] [6, 10, 9, 0, 1, 11] [0, 1, 2, 3] ?_
      refine kS 2 0 [(25, ii (c i)), (24, ii (a i))] [10, 9, 0, 1, 11] ?_
      refine kC en150 #[ii (a i), ii (c i)] (ii (cmpZ (a i) (c i))) rfl (fun W hR => cmpZ_ _ _ W) ?_ (by kernel_rfl)
      refine kSn 1 0 [(8, ii (cmpZ (a i) (c i)))] [10, 9, 0, 1, 11] [0, 1] ?_
      refine kSe 2 80 [(28, .bool (!decide ((cmpZ (a i) (c i)) = 0)))] [8, 10, 9, 0, 1, 11] ?_
      refine tri_cond (b := !decide ((cmpZ (a i) (c i)) = 0)) rfl (fun h3 => ?_) (fun h3 => ?_)
      · simp only [Bool.not_eq_true', decide_eq_false_iff_not] at h3
        refine wr [0, 1] rfl ?_
        refine kSe 2 0 [(4, ii (cmpZ (a i) (c i)))] [] ?_
        refine tri_ret ?_
        refine post_block_ret ?_
        refine post_then_ret ?_
        refine post_round_ret ?_
        refine post_block_ret ?_
        refine post_then_ret ?_
        refine post_ret1 (v := ii (cmpZ (a i) (c i))) rfl (.tmp rfl) (fun W hR => ?_)
        first | (exfalso; omega) | (refine ⟨?_, hR.ext⟩; rw [hC0.2, lexC_else (by omega) (by assumption)]) | (refine ⟨?_, hR.ext⟩; rw [hC0.2, show na - i = 0 by omega]; rfl)
      · simp only [Bool.not_eq_false', decide_eq_true_eq] at h3
        refine tri_skip ?_
        refine post_block ?_
        refine post_then ?_
        refine tri_region (todo := [0, 1]) rfl ?_
        refine kO 2 2 [(11, ii ((i : Int) + 1))] [10, 9, 0, 1] [I64 ((i : Int) + 1)] (ap1 (by first | omega | assumption)) ?_
        refine opsT_end ?_
        refine post_round (i + 1) ⟨by show i + 1 ≤ na; omega, by rw [hC0.2]; exact lexC_same (by omega) (by assumption)⟩ (by show na - (i + 1) < na - i; omega) (look_pickL (ks := [10, 9, 0, 1, 11]) (by kernel_rfl)) (List.Sublist.refl _)
  · refine tri_exit ?_
    refine post_then_exit ?_
    refine post_round_exit ?_
    refine post_block_hit ?_
    refine post_then ?_
    refine tri_seq ?_
    refine wr [0, 1, 2, 3, 4] rfl ?_
    refine kSe 5 327680 [(35, .bool (decide (((na : Nat) : Int) < ((na : Nat) : Int))))] [] ?_
    refine tri_cond_dec (p := ((na : Nat) : Int) < ((na : Nat) : Int)) rfl (fun h2 => ?_) (fun h2 => ?_)
    · refine wr [0] rfl ?_
      refine kSe 1 0 [(4, ii (-1))] [] ?_
      refine tri_ret ?_
      refine post_then_ret ?_
      refine post_ret1 (v := ii (-1)) rfl (.tmp rfl) (fun W hR => ?_)
      first | (exfalso; omega) | (refine ⟨?_, hR.ext⟩; rw [hC0.2, lexC_else (by omega) (by assumption)]) | (refine ⟨?_, hR.ext⟩; rw [hC0.2, show na - i = 0 by omega]; rfl)
    · refine tri_skip ?_
      refine post_then ?_
      refine wr [0] rfl ?_
      refine kSe 1 0 [(4, ii 0)] [] ?_
      refine tri_ret ?_
      refine post_ret1 (v := ii 0) rfl (.tmp rfl) (fun W hR => ?_)
      first | (exfalso; omega) | (refine ⟨?_, hR.ext⟩; rw [hC0.2, lexC_else (by omega) (by assumption)]) | (refine ⟨?_, hR.ext⟩; rw [hC0.2, show na - i = 0 by omega]; rfl)
theorem cmpRows_ (p0 p1 p2 p3 p4 p5 q0 q1 q2 q3 q4 q5 : Int) (w : World) : Calls Tryz.prog 218 #[.agg #[ii p0, ii p1, ii p2, ii p3, ii p4, ii p5], .agg #[ii q0, ii q1, ii q2, ii q3, ii q4, ii q5]] w fun e w' => e = .returned (.int .i64 (lexC (vOf [p0, p1, p2, p3, p4, p5]) (vOf [q0, q1, q2, q3, q4, q5]) 6 0)) ∧ Ext w w' := by
  refine calls_of (n := 8) Tryz.func218 rfl Tryz.ntmps218 rfl ?_
  refine tri_eq (l' := [(0, .agg #[ii p0, ii p1, ii p2, ii p3, ii p4, ii p5]), (1, .agg #[ii q0, ii q1, ii q2, ii q3, ii q4, ii q5])]) (hs' := []) rfl rfl ?_
  refine wr [0, 1, 2] rfl ?_
  refine kB (.agg #[ii p0, ii p1, ii p2, ii p3, ii p4, ii p5]) fun b1 => ?_
  refine kB (.agg #[ii q0, ii q1, ii q2, ii q3, ii q4, ii q5]) fun b2 => ?_
  refine kSe 1 0 [] [3, 2] ?_
  refine tri_seq ?_
  refine kD 4 0 [2] [ii (lexC (vOf [p0, p1, p2, p3, p4, p5]) (vOf [q0, q1, q2, q3, q4, q5]) 6 0)] [(4, ii (lexC (vOf [p0, p1, p2, p3, p4, p5]) (vOf [q0, q1, q2, q3, q4, q5]) 6 0))] [] [] [] rfl trivial (qA (qC en80 #[sl b1 0 6 6, sl b2 0 6 6] rfl (fun W hR => compare_ (atV_own (t := 174) (l := [p0, p1, p2, p3, p4, p5]) hR (List.mem_of_getElem? (i := 1) rfl) rfl) (atV_own (t := 174) (l := [q0, q1, q2, q3, q4, q5]) hR (List.mem_of_getElem? (i := 0) rfl) rfl) (by decide)) (by kernel_rfl)) qZ) ?_ (by kernel_rfl)
  refine we ?_
  refine tri_ret ?_
  refine post_ret1 (v := ii (lexC (vOf [p0, p1, p2, p3, p4, p5]) (vOf [q0, q1, q2, q3, q4, q5]) 6 0)) rfl (.tmp rfl) (fun W hR => ?_)
  exact ⟨rfl, hR.ext⟩
theorem calm_grown {w w' : World} (h : Ext w w') : ∃ q os, w' = Go.Sort.grow (w.drewN q) os := by
  refine ⟨w'.drawn - w.drawn, (w'.heap.toList.drop w.heap.size).toArray, ?_⟩
  obtain ⟨h1, h2, h3⟩ := h
  obtain ⟨c1, c2, c3, c4⟩ := h3
  have hh : w'.heap = w.heap ++ (w'.heap.toList.drop w.heap.size).toArray := by
    apply Array.ext_getElem?
    intro i
    by_cases hi : i < w.heap.size
    · rw [Array.getElem?_append_left hi, h2 i hi]
    · rw [Array.getElem?_append_right (by omega)]
      simp only [List.getElem?_toArray, List.getElem?_drop, Array.getElem?_toList]
      congr 1; omega
  obtain ⟨hp, tp, dr, os, out⟩ := w'
  dsimp only at c1 c2 c3 c4 hh
  have hd : dr = w.drawn + (dr - w.drawn) := by omega
  show _ = _
  unfold Go.Sort.grow
  dsimp only [World.drewN]
  rw [← hh, ← hd]
  congr
theorem rep_row {α : Type} [Inhabited α] {w : World} {bq n : Nat} {vs sp : List Value} {t : TypeId} {enc : α → Value} {d : Array α} {os : Array Obj} (h : w.heap[bq]? = some (vecB (vs ++ sp) t)) (hd : d.size = vs.length) :
    Rep w [bq] [(bq, vecB (d.toList.map enc ++ sp) t)] (Go.Sort.grow (Go.Sort.putRow enc (Go.Sort.ahead w n) bq 0 d) os) := by
  have hlt : bq < w.heap.size := (Array.getElem?_eq_some_iff.1 h).1
  have hb : ∀ b, b < w.heap.size → (Go.Sort.grow (Go.Sort.putRow enc (Go.Sort.ahead w n) bq 0 d) os).heap[b]? = (w.heap.modify bq (Go.Sort.onCells (Go.Sort.putCells enc 0 d)))[b]? := fun b hb => by
    show (w.heap.modify bq _ ++ os)[b]? = _
    rw [Array.getElem?_append_left (by simpa using hb)]
  refine ⟨?_, fun b hlt' hM => ?_, fun b o hm => ?_, fun b o hm => ?_, by simp, ⟨rfl, rfl, rfl, Nat.le_add_right _ _⟩⟩
  · show w.heap.size ≤ (w.heap.modify bq _ ++ os).size
    simp
  · rw [hb b hlt', Array.getElem?_modify, if_neg (by simpa using fun e => hM (by simp [e]))]
  · obtain ⟨rfl, rfl⟩ : b = bq ∧ o = vecB (d.toList.map enc ++ sp) t := by simpa using hm
    rw [hb b hlt, Array.getElem?_modify, if_pos rfl, h]
    simp only [Option.map_some, vecB, Go.Sort.onCells, Option.some.injEq, Obj.cells.injEq, and_true]
    apply Array.ext_getElem?
    intro k
    simp only [Go.Sort.putCells, Array.getElem?_mapIdx, List.getElem?_toArray, Nat.zero_le, true_and, Nat.zero_add, Nat.sub_zero]
    by_cases hk : k < d.size
    · have h1 : k < (d.toList.map enc).length := by simpa using hk
      rw [List.getElem?_append_left (by omega), List.getElem?_append_left h1, List.getElem?_eq_getElem (by omega)]
      simp [hk, getElem!_pos]
    · rw [List.getElem?_append_right (by omega), List.getElem?_append_right (by simpa using hk)]
      simp only [List.length_map, Array.length_toList, hd]
      cases sp[k - vs.length]? with
      | none => rfl
      | some v => simp [show ¬ k < vs.length by omega]
  · obtain ⟨rfl, _⟩ : b = bq ∧ o = vecB (d.toList.map enc ++ sp) t := by simpa using hm
    exact .inr (by simp)
/-- slices.Sort of a row of ints. -/
theorem sort_ {b cap : Nat} {l : List Int} {sp : List Value} {w : World} (h : w.heap[b]? = some (roomB l sp 3)) (hl : l.length ≤ 1000000) : Calls Tryz.prog 15 #[.slice (some ⟨b, 0, none⟩) l.length cap] w fun e w' => e = .returned (.tuple #[]) ∧ Rep w [b] [(b, roomB (l.mergeSort fun x y => decide (x ≤ y)) sp 3)] w' := by
  have hlt : b < w.heap.size := (Array.getElem?_eq_some_iff.1 h).1
  refine (Tryz.slices_Sort_int b 0 cap l w (fun j hj => ⟨?_, ?_⟩) hlt (by omega)).mono fun e w' ⟨he, n, os, hw⟩ => ⟨he, ?_⟩
  · rw [cell_own h, Nat.zero_add]
    have hj' : j < l.length := by simpa using hj
    have : j < (l.map (Value.int .i64)).length := by simpa using hj'
    simp only [List.getElem?_toArray]
    rw [List.getElem?_append_left this]
    simp [hj', getElem!_pos]
  · simp [World.frozen?, h, roomB, vecB]
  · rw [hw]
    exact rep_row (vs := l.map (Value.int .i64)) h (by simp [List.length_mergeSort])
/-- The seven discs: the units, and none; and their order. -/
def discU : List Int := [1, 0, 0, 0, 0, 0, 0, 1, 0, 0, 0, 0, 0, 0, 1, 0, 0, 0, 0, 0, 0, 1, 0, 0, 0, 0, 0, 0, 1, 0, 0, 0, 0, 0, 0, 1, 0, 0, 0, 0, 0, 0]
def discL : List Int := [0, 0, 0, 0, 0, 0, 0, 0, 0, 0, 0, 1, 0, 0, 0, 0, 1, 0, 0, 0, 0, 1, 0, 0, 0, 0, 1, 0, 0, 0, 0, 1, 0, 0, 0, 0, 1, 0, 0, 0, 0, 0]
def rowU (x : Fin 7) : List Int := [vOf discU (6 * x.val + 0), vOf discU (6 * x.val + 1), vOf discU (6 * x.val + 2), vOf discU (6 * x.val + 3), vOf discU (6 * x.val + 4), vOf discU (6 * x.val + 5)]
def encU (x : Fin 7) : List Value := (rowU x).map (Value.int .i64)
def cfU (x y : Fin 7) : Int := lexC (vOf (rowU x)) (vOf (rowU y)) 6 0
theorem flatU (d : Array (Fin 7)) (l : List Int) (hd : d.size = 7) (h : ∀ j, j < 42 → (rowU d[j / 6]!).getD (j % 6) 0 = l.getD j 0) (j : Nat) (hj : j < 42) : (Go.Sort.flatK encU 6 d)[j]! = .int .i64 (l.getD j 0) := by
  rw [Go.Sort.get_flatK encU 6 d j (by omega)]
  have h1 : ∀ x : Fin 7, ∀ k, k < 6 → (encU x)[k]! = .int .i64 ((rowU x).getD k 0) := fun x k hk => by
    have hk' : k < (rowU x).length := hk
    simp [encU, hk', getElem!_pos]
  rw [h1 _ _ (Nat.mod_lt _ (by decide)), h j hj]
theorem flatUL (d : Array (Fin 7)) (l : List Int) (hd : d.size = 7) (hl : l.length = 42) (h : ∀ j, j < 42 → (rowU d[j / 6]!).getD (j % 6) 0 = l.getD j 0) : (Go.Sort.flatK encU 6 d).toList.map id = l.map (Value.int .i64) := by
  have hsz : (Go.Sort.flatK encU 6 d).size = 42 := by rw [Go.Sort.size_flatK, hd]
  apply List.ext_getElem?
  intro j
  by_cases hj : j < 42
  · have h1 := flatU d l hd h j hj
    rw [getElem!_pos _ j (by omega)] at h1
    rw [List.map_id, Array.getElem?_toList, Array.getElem?_eq_getElem (by omega), h1]
    simp [List.getD, show j < l.length by omega]
  · rw [List.getElem?_eq_none (by simpa [hsz] using hj), List.getElem?_eq_none (by simpa [hl] using hj)]
theorem sortDiscs_ {bq cap : Nat} {sp : List Value} {w : World} (h : w.heap[bq]? = some (roomB discU sp 174)) : Calls Tryz.prog 217 #[.slice (some ⟨bq, 0, none⟩) 7 cap, .func (.func 218) #[] #[]] w fun e w' => e = .returned (.tuple #[]) ∧ Rep w [bq] [(bq, roomB discL sp 174)] w' := by
  have hlt : bq < w.heap.size := (Array.getElem?_eq_some_iff.1 h).1
  let d : Array (Fin 7) := #[0, 1, 2, 3, 4, 5, 6]
  have hAnti : ∀ a b : Fin 7, (!(Go.Proofs.ltOf cfU) b a) = true → (!(Go.Proofs.ltOf cfU) a b) = true → a = b := by decide +kernel
  have hsort : d.toList.mergeSort (fun x y => !(Go.Proofs.ltOf cfU) y x) = [6, 5, 4, 3, 2, 1, 0] := by
    refine List.Perm.eq_of_pairwise (le := fun a b => (!(Go.Proofs.ltOf cfU) b a) = true) (fun a b _ _ => hAnti a b) (List.pairwise_mergeSort ?_ ?_ _) ?_ ((List.mergeSort_perm _ _).trans ?_)
    · decide +kernel
    · decide +kernel
    · decide +kernel
    · exact List.isPerm_iff.1 (by decide +kernel)
  have hget : ∀ j, j < 42 → (Go.Sort.flatK encU 6 d)[j]! = .int .i64 (discU.getD j 0) := flatU d discU rfl (by decide +kernel)
  refine (Tryz.slices_SortFunc_total_f217 6 (fun w => rfl) (fun w => rfl) encU (fun _ => rfl) (fun x v hv => ?_) cfU ⟨?_, ?_, ?_⟩ 218 #[] bq 0 cap d w en218.run (fun m os dk hs x y => ?_) (fun j hj => ⟨?_, ?_⟩) hlt (by decide) ?_).mono fun e w' ⟨he, n, os, hw⟩ => ⟨he, ?_⟩
  · obtain ⟨z, _, rfl⟩ := List.mem_map.1 hv; rfl
  · decide +kernel
  · decide +kernel
  · decide +kernel
  · exact (cmpRows_ _ _ _ _ _ _ _ _ _ _ _ _ _).mono fun e w' ⟨he, hx⟩ => ⟨he, calm_grown hx⟩
  · have hj : j < 42 := by simpa [d] using hj
    rw [cell_own h, Nat.zero_add]
    show _ = some (id ((Go.Sort.flatK encU 6 d)[j]!))
    rw [hget j hj]
    have : j < (discU.map (Value.int .i64)).length := by simpa [discU] using hj
    simp only [List.getElem?_toArray]
    rw [List.getElem?_append_left this]
    simp [List.getD, show j < discU.length from hj]
  · simp [World.frozen?, h, roomB, vecB]
  · decide +kernel
  · rw [hw, hsort]
    have := rep_row (os := os) (n := n) (enc := id) (d := Go.Sort.flatK encU 6 [6, 5, 4, 3, 2, 1, 0].toArray) (vs := discU.map (Value.int .i64)) h (by rw [Go.Sort.size_flatK]; rfl)
    have e1 : (Go.Sort.flatK encU 6 [6, 5, 4, 3, 2, 1, 0].toArray).toList.map id = discL.map (Value.int .i64) := flatUL _ discL rfl rfl (by decide +kernel)
    rw [e1] at this
    exact this

end Go.Proofs.YtlkbokbcfajhjaaGreat
