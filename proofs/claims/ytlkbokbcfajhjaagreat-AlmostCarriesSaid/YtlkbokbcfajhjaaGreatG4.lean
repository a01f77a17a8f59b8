/- G4: unions -/
import Derived.Test.YtlkbokbcfajhjaaGreatRows
import Derived.Test.YtlkbokbcfajhjaaGreatB8
import Derived.Test.YtlkbokbcfajhjaaGreatB17
import Derived.Test.YtlkbokbcfajhjaaGreatD1
namespace Go.Proofs.YtlkbokbcfajhjaaGreat
open Go.Proofs.Walk
set_option maxRecDepth 100000
set_option linter.unusedVariables false
set_option linter.unusedSimpArgs false

theorem keyI : KeyIs Tryz.prog 3 (Value.int .i64) := keyInt (by kernel_rfl)
theorem keyP : KeyIs Tryz.prog 93 pairV := keyPair (by kernel_rfl) (fun x y => by kernel_rfl) (fun b x => by kernel_rfl)
/-- The i-th element met has the number i. -/
def nth {κ : Type} : Nat → κ → Value := fun i _ => .int .i64 (i : Int)
/-- A union without elements, at bu. -/
def U0 {κ : Type} (sty : TypeId) (enc : κ → Value) (bu : Nat) (uns : List (Nat × Obj)) : Prop := ∃ bm, uns = [(bu, .cells #[.slice none 0 0, .map (some bm)] sty (0, 0)), (bm, mapB enc nth [])]
/-- A union of the elements ks, in the order in which they were met; R: the number of the first element of each one's class. -/
def UN {κ : Type} (sty : TypeId) (enc : κ → Value) (bu : Nat) (ks : List κ) (R : Nat → Nat) (uns : List (Nat × Obj)) : Prop :=
  ∃ up sp b cap bm, uns = [(bu, .cells #[.slice (some ⟨b, 0, none⟩) up.length cap, .map (some bm)] sty (0, 0)), (bm, mapB enc nth ks), (b, roomB up sp 3)] ∧ up.length = ks.length ∧ 0 < up.length ∧ up.length ≤ cap ∧ (up.map (Value.int .i64) ++ sp).length = cap * 1 ∧ Down up ∧ ∀ j, j < up.length → rt up j = R j

theorem Rep.mineSub {W0 : World} {M : List Nat} {hs uns : List (Nat × Obj)} {W : World} (hR : Rep W0 M hs W) (hsub : uns.Sublist hs) : Rep W (uns.map (·.1)) uns W :=
  Rep.mine (fun b o hm => hR.own b o (hsub.subset hm)) (hR.nodup.sublist (hsub.map _))
theorem Rep.extM {uns hs : List (Nat × Obj)} {w W : World} (h0 : Rep w (uns.map (·.1)) uns w) (hR : Rep w (uns.map (·.1)) hs W) (hsub : uns.Sublist hs) : Ext w W := by
  refine ⟨hR.size, fun b hb => ?_, hR.calm⟩
  by_cases hm : b ∈ uns.map (·.1)
  · obtain ⟨⟨b', o⟩, hm2, rfl⟩ := List.mem_map.1 hm
    rw [hR.own b' o (hsub.subset hm2), h0.own b' o hm2]
  · exact hR.same b hb hm

theorem en95 : Walk.Enters Tryz.prog 95 := Walk.enters Tryz.func95 (by kernel_rfl) rfl
theorem en99 : Walk.Enters Tryz.prog 99 := Walk.enters Tryz.func99 (by kernel_rfl) rfl
theorem en97 : Walk.Enters Tryz.prog 97 := Walk.enters Tryz.func97 (by kernel_rfl) rfl
theorem en94 : Walk.Enters Tryz.prog 94 := Walk.enters Tryz.func94 (by kernel_rfl) rfl
theorem numOldI {bu : Nat} {ks : List (Int)} {R : Nat → Nat} {uns : List (Nat × Obj)} {w : World} (x : Int) (hU : UN 229 (Value.int .i64) bu ks R uns) (hR0 : Rep w (uns.map (·.1)) uns w) (hx : x ∈ ks) : Calls Tryz.prog 95 #[.pointer (some ⟨bu, 0, none⟩), ii x] w fun e w' => e = .returned (.int .i64 (ixOf ks x : Int)) ∧ Ext w w' := by
  obtain ⟨up, sp, b, cap, bm, rfl, h1, h2, h3, h4, h5, h6⟩ := hU
  refine calls_ofR (n := 40) Tryz.func95 rfl Tryz.ntmps95 rfl hR0 ?_
  refine tri_eq (l' := [(0, pt bu 0), (1, ii x)]) (hs' := [(bu, .cells #[sl b 0 up.length cap, .map (some bm)] 229 (0, 0)), (bm, mapB (Value.int .i64) nth ks), (b, roomB up sp 3)]) rfl rfl ?_
  refine wr [0] rfl ?_
  refine kSn 1 0 [] [0, 1] [0, 1, 2, 3, 4, 5, 6, 7, 8, 9, 10] ?_
  refine kS 3 0 [(10, pt bu 1)] [0, 1] ?_
  refine kL 0 (.map (some bm)) ?_
  refine kS 1 0 [(12, ii x)] [11, 0, 1] ?_
  refine opsT_lookYes (e := 3) keyI nth 1 bm ks x (ii (ixOf ks x : Int)) (ii 0) rfl rfl rfl rfl rfl rfl rfl rfl (by kernel_rfl) (by kernel_rfl) rfl hx rfl ?_
  refine kSe 5 0 [(6, .bool true), (5, ii (ixOf ks x : Int))] [0, 1] ?_
  refine tri_seq ?_
  refine wr [0, 1] rfl ?_
  refine kSe 2 0 [(17, .bool false)] [5, 0, 1] ?_
  refine tri_cond_false rfl ?_
  refine tri_skip ?_
  refine post_then ?_
  refine wr [0, 1] rfl ?_
  refine kSe 2 0 [(4, ii (ixOf ks x : Int))] [] ?_
  refine tri_ret ?_
  refine post_ret1 (v := ii (ixOf ks x : Int)) rfl (.tmp rfl) (fun W hR => ?_)
  exact ⟨by rw [show ixOf ks x = ixOf ks x from rfl], Rep.extM hR0 hR (List.Sublist.refl _)⟩
theorem numNewI {bu : Nat} {ks : List (Int)} {R : Nat → Nat} {uns : List (Nat × Obj)} {w : World} (x : Int) (hU : UN 229 (Value.int .i64) bu ks R uns) (hR0 : Rep w (uns.map (·.1)) uns w) (hx : x ∉ ks) (hk : ks.length ≤ 1000000) : Calls Tryz.prog 95 #[.pointer (some ⟨bu, 0, none⟩), ii x] w fun e w' => ∃ uns', UN 229 (Value.int .i64) bu (ks ++ [x]) (fun j => if j = ks.length then j else R j) uns' ∧ e = .returned (.int .i64 (ks.length : Int)) ∧ Rep w (uns.map (·.1)) uns' w' := by
  obtain ⟨up, sp, b, cap, bm, rfl, h1, h2, h3, h4, h5, h6⟩ := hU
  refine calls_ofR (n := 40) Tryz.func95 rfl Tryz.ntmps95 rfl hR0 ?_
  refine tri_eq (l' := [(0, pt bu 0), (1, ii x)]) (hs' := [(bu, .cells #[sl b 0 up.length cap, .map (some bm)] 229 (0, 0)), (bm, mapB (Value.int .i64) nth ks), (b, roomB up sp 3)]) rfl rfl ?_
  refine wr [0] rfl ?_
  refine kSn 1 0 [] [0, 1] [0, 1, 2, 3, 4, 5, 6, 7, 8, 9, 10] ?_
  refine kS 3 0 [(10, pt bu 1)] [0, 1] ?_
  refine kL 0 (.map (some bm)) ?_
  refine kS 1 0 [(12, ii x)] [11, 0, 1] ?_
  refine opsT_lookNo (e := 3) keyI nth 1 bm ks x (ii 0) rfl rfl rfl rfl rfl rfl rfl rfl (by kernel_rfl) (by kernel_rfl) rfl hx ?_
  refine kSe 5 0 [(6, .bool false), (5, ii 0)] [0, 1] ?_
  refine tri_seq ?_
  refine wr [0, 1] rfl ?_
  refine kSe 2 0 [(17, .bool true)] [5, 0, 1] ?_
  refine tri_cond_true rfl ?_
  refine wr [0, 1, 2, 3, 4, 5] rfl ?_
  refine kS 3 0 [(20, pt bu 0)] [5, 0, 1] ?_
  refine kL 0 (sl b 0 up.length cap) ?_
  refine kSn 2 0 [(5, ii ((up.length : Nat) : Int))] [0, 1] [0, 1, 2, 3, 4, 5, 6] ?_
  refine kS 3 0 [(25, pt bu 1)] [5, 0, 1] ?_
  refine kL 0 (.map (some bm)) ?_
  refine kS 2 0 [(28, ii ((up.length : Nat) : Int)), (27, ii x)] [26, 5, 0] ?_
  refine opsT_mapNew (e := 3) keyI nth 1 bm ks x rfl rfl rfl rfl rfl rfl rfl (by first | rfl | (show _ = some (nth _ _); rw [← h1]; rfl)) (by kernel_rfl) rfl hx ?_
  refine kPe [5, 0] ?_
  refine tri_region (todo := [0, 1, 2, 3, 4, 5, 6, 7, 8, 9, 10]) rfl ?_
  refine kS 4 0 [(32, pt bu 0), (29, pt bu 0)] [5] ?_
  refine kL 0 (sl b 0 up.length cap) ?_
  refine kS 1 0 [(34, ii ((up.length : Nat) : Int))] [33, 29, 5] ?_
  refine opsT_buildSlice (e := 3) (size := 1) (z := ii 0) [ii ((up.length : Nat) : Int)] rfl rfl rfl rfl rfl rfl (by kernel_rfl) (by kernel_rfl) (by kernel_rfl) (by kernel_rfl) (fun b1 => ?_)
  refine opsT_heq (hs' := [(b1, .cells #[ii ((up.length : Nat) : Int)] 3 (0, 0)), (bu, .cells #[sl b 0 up.length cap, .map (some bm)] 229 (0, 0)), (bm, mapB (Value.int .i64) nth (ks ++ [x])), (b, roomB up sp 3)]) rfl ?_
  refine opsT_append (e := 3) (size := 1) (bytes := 8) (z := (ii 0)) (vs := (up.map (Value.int .i64))) (news := [ii ((up.length : Nat) : Int)]) (m := up.length) (k := 1) (sv := (sl b 0 up.length cap)) (hv := [(b, roomB up sp 3)]) (own := [(b1, .cells #[ii ((up.length : Nat) : Int)] 3 (0, 0)), (bu, .cells #[sl b 0 up.length cap, .map (some bm)] 229 (0, 0)), (bm, mapB (Value.int .i64) nth (ks ++ [x]))]) rfl rfl rfl rfl rfl rfl rfl rfl rfl rfl rfl (by kernel_rfl) (by kernel_rfl) rfl (List.perm_middle (l₁ := ([(b1, .cells #[ii ((up.length : Nat) : Int)] 3 (0, 0)), (bu, .cells #[sl b 0 up.length cap, .map (some bm)] 229 (0, 0)), (bm, mapB (Value.int .i64) nth (ks ++ [x]))] : List (Nat × Obj)))) ⟨(by simp), .inr ⟨_, _, sp, rfl, (by first | omega | assumption), (by assumption), rfl⟩⟩ rfl (by first | omega | assumption) (by first | omega | assumption) (fun W hR => src_own (e2 := 3) (off := 0) (us := [ii ((up.length : Nat) : Int)]) hR (by kernel_rfl) (List.mem_append_right _ (List.mem_of_getElem? (i := 0) rfl)) rfl (fun j v hj => by simpa using hj) rfl) (fun sv hv hV => ?_)
  rw [show ((up.map (Value.int .i64)) ++ [ii ((up.length : Nat) : Int)] : List Value) = (up ++ [((up.length : Nat) : Int)]).map (Value.int .i64) by simp] at hV
  obtain ⟨bv1, cap1, sp1, rfl, hcapbv1, hspbv1, rfl⟩ := hV.pos (by omega)
  refine opsT_heq (hs' := [(bv1, roomB (up ++ [((up.length : Nat) : Int)]) sp1 3), (b1, .cells #[ii ((up.length : Nat) : Int)] 3 (0, 0)), (bu, .cells #[sl b 0 up.length cap, .map (some bm)] 229 (0, 0)), (bm, mapB (Value.int .i64) nth (ks ++ [x]))]) rfl ?_
  refine kS 2 0 [(38, pt bu 0)] [36, 5] ?_
  refine kW 2 #[sl bv1 0 (up.length + 1) cap1, .map (some bm)] ?_
  refine kP [5] ?_
  refine wn [0, 1] rfl ?_
  refine kSe 2 0 [(4, ii ((up.length : Nat) : Int))] [] ?_
  refine tri_ret ?_
  refine post_ret1 (v := ii ((up.length : Nat) : Int)) rfl (.tmp rfl) (fun W hR => ?_)
  have hR := (hR.forget (.cons_cons _ (.cons _ (List.Sublist.refl _)))).perm (List.perm_append_comm (l₁ := [(bv1, roomB (up ++ [((up.length : Nat) : Int)]) sp1 3)]) (l₂ := [(bu, .cells #[sl bv1 0 (up.length + 1) cap1, .map (some bm)] 229 (0, 0)), (bm, mapB (Value.int .i64) nth (ks ++ [x]))]))
  exact ⟨_, ⟨up ++ [((up.length : Nat) : Int)], sp1, bv1, cap1, bm, by simp, by simp [h1], by simp, by simpa using hcapbv1, hspbv1, (rt_push h5).1, fun j hj => by
    rw [(rt_push h5).2 j (by simpa using hj), h1]
    by_cases hj2 : j = ks.length
    · simp [hj2]
    · simp only [hj2, if_false]; exact h6 j (by simp at hj; omega)⟩, by rw [h1], hR⟩
theorem numNilI {bu : Nat} {uns : List (Nat × Obj)} {w : World} (x : Int) (hU : U0 229 (Value.int .i64) bu uns) (hR0 : Rep w (uns.map (·.1)) uns w) : Calls Tryz.prog 95 #[.pointer (some ⟨bu, 0, none⟩), ii x] w fun e w' => ∃ uns', UN 229 (Value.int .i64) bu [x] (fun j => j) uns' ∧ e = .returned (.int .i64 0) ∧ Rep w (uns.map (·.1)) uns' w' := by
  obtain ⟨bm, rfl⟩ := hU
  have hx : x ∉ ([] : List (Int)) := by simp
  refine calls_ofR (n := 40) Tryz.func95 rfl Tryz.ntmps95 rfl hR0 ?_
  refine tri_eq (l' := [(0, pt bu 0), (1, ii x)]) (hs' := [(bu, .cells #[.slice none 0 0, .map (some bm)] 229 (0, 0)), (bm, mapB (Value.int .i64) nth [])]) rfl rfl ?_
  refine wr [0] rfl ?_
  refine kSn 1 0 [] [0, 1] [0, 1, 2, 3, 4, 5, 6, 7, 8, 9, 10] ?_
  refine kS 3 0 [(10, pt bu 1)] [0, 1] ?_
  refine kL 0 (.map (some bm)) ?_
  refine kS 1 0 [(12, ii x)] [11, 0, 1] ?_
  refine opsT_lookNo (e := 3) keyI nth 1 bm [] x (ii 0) rfl rfl rfl rfl rfl rfl rfl rfl (by kernel_rfl) (by kernel_rfl) rfl hx ?_
  refine kSe 5 0 [(6, .bool false), (5, ii 0)] [0, 1] ?_
  refine tri_seq ?_
  refine wr [0, 1] rfl ?_
  refine kSe 2 0 [(17, .bool true)] [5, 0, 1] ?_
  refine tri_cond_true rfl ?_
  refine wr [0, 1, 2, 3, 4, 5] rfl ?_
  refine kS 3 0 [(20, pt bu 0)] [5, 0, 1] ?_
  refine kL 0 (.slice none 0 0) ?_
  refine kSn 2 0 [(5, ii 0)] [0, 1] [0, 1, 2, 3, 4, 5, 6] ?_
  refine kS 3 0 [(25, pt bu 1)] [5, 0, 1] ?_
  refine kL 0 (.map (some bm)) ?_
  refine kS 2 0 [(28, ii 0), (27, ii x)] [26, 5, 0] ?_
  refine opsT_mapNew (e := 3) keyI nth 1 bm [] x rfl rfl rfl rfl rfl rfl rfl (by first | rfl | (show _ = some (nth _ _); rw [← h1]; rfl)) (by kernel_rfl) rfl hx ?_
  refine kPe [5, 0] ?_
  refine tri_region (todo := [0, 1, 2, 3, 4, 5, 6, 7, 8, 9, 10]) rfl ?_
  refine kS 4 0 [(32, pt bu 0), (29, pt bu 0)] [5] ?_
  refine kL 0 (.slice none 0 0) ?_
  refine kS 1 0 [(34, ii 0)] [33, 29, 5] ?_
  refine opsT_buildSlice (e := 3) (size := 1) (z := ii 0) [ii 0] rfl rfl rfl rfl rfl rfl (by kernel_rfl) (by kernel_rfl) (by kernel_rfl) (by kernel_rfl) (fun b1 => ?_)
  refine opsT_heq (hs' := [(b1, .cells #[ii 0] 3 (0, 0)), (bu, .cells #[.slice none 0 0, .map (some bm)] 229 (0, 0)), (bm, mapB (Value.int .i64) nth [x])]) rfl ?_
  refine opsT_append (e := 3) (size := 1) (bytes := 8) (z := (ii 0)) (vs := []) (news := [ii 0]) (m := 0) (k := 1) (sv := (.slice none 0 0)) (hv := []) (own := [(b1, .cells #[ii 0] 3 (0, 0)), (bu, .cells #[.slice none 0 0, .map (some bm)] 229 (0, 0)), (bm, mapB (Value.int .i64) nth [x])]) rfl rfl rfl rfl rfl rfl rfl rfl rfl rfl rfl (by kernel_rfl) (by kernel_rfl) rfl (List.Perm.refl _) Vec.nil rfl (by first | omega | assumption) (by first | omega | assumption) (fun W hR => src_own (e2 := 3) (off := 0) (us := [ii 0]) hR (by kernel_rfl) (List.mem_append_right _ (List.mem_of_getElem? (i := 0) rfl)) rfl (fun j v hj => by simpa using hj) rfl) (fun sv hv hV => ?_)
  rw [show ([] ++ [ii 0] : List Value) = ([0]).map (Value.int .i64) by simp] at hV
  obtain ⟨bv1, cap1, sp1, rfl, hcapbv1, hspbv1, rfl⟩ := hV.pos (by omega)
  refine opsT_heq (hs' := [(bv1, roomB [0] sp1 3), (b1, .cells #[ii 0] 3 (0, 0)), (bu, .cells #[.slice none 0 0, .map (some bm)] 229 (0, 0)), (bm, mapB (Value.int .i64) nth [x])]) rfl ?_
  refine kS 2 0 [(38, pt bu 0)] [36, 5] ?_
  refine kW 2 #[sl bv1 0 (0 + 1) cap1, .map (some bm)] ?_
  refine kP [5] ?_
  refine wn [0, 1] rfl ?_
  refine kSe 2 0 [(4, ii 0)] [] ?_
  refine tri_ret ?_
  refine post_ret1 (v := ii 0) rfl (.tmp rfl) (fun W hR => ?_)
  have hR := (hR.forget (.cons_cons _ (.cons _ (List.Sublist.refl _)))).perm (List.perm_append_comm (l₁ := [(bv1, roomB [0] sp1 3)]) (l₂ := [(bu, .cells #[sl bv1 0 (0 + 1) cap1, .map (some bm)] 229 (0, 0)), (bm, mapB (Value.int .i64) nth [x])]))
  exact ⟨_, ⟨[0], sp1, bv1, cap1, bm, by simp, by simp, by simp, by simpa using hcapbv1, hspbv1, (by intro i hi; simp at hi; subst hi; simp), fun j hj => (by simp at hj; subst hj; rfl)⟩, rfl, hR⟩
theorem en115 : Walk.Enters Tryz.prog 115 := Walk.enters Tryz.func115 (by kernel_rfl) rfl
theorem en55 : Walk.Enters Tryz.prog 55 := Walk.enters Tryz.func55 (by kernel_rfl) rfl
theorem en116 : Walk.Enters Tryz.prog 116 := Walk.enters Tryz.func116 (by kernel_rfl) rfl
theorem en114 : Walk.Enters Tryz.prog 114 := Walk.enters Tryz.func114 (by kernel_rfl) rfl
theorem numOldP {bu : Nat} {ks : List (Int × Int)} {R : Nat → Nat} {uns : List (Nat × Obj)} {w : World} (x : Int × Int) (hU : UN 165 pairV bu ks R uns) (hR0 : Rep w (uns.map (·.1)) uns w) (hx : x ∈ ks) : Calls Tryz.prog 115 #[.pointer (some ⟨bu, 0, none⟩), .agg #[.int .i64 x.1, .int .i64 x.2]] w fun e w' => e = .returned (.int .i64 (ixOf ks x : Int)) ∧ Ext w w' := by
  obtain ⟨up, sp, b, cap, bm, rfl, h1, h2, h3, h4, h5, h6⟩ := hU
  refine calls_ofR (n := 40) Tryz.func115 rfl Tryz.ntmps115 rfl hR0 ?_
  refine tri_eq (l' := [(0, pt bu 0), (1, .agg #[ii x.1, ii x.2])]) (hs' := [(bu, .cells #[sl b 0 up.length cap, .map (some bm)] 165 (0, 0)), (bm, mapB pairV nth ks), (b, roomB up sp 3)]) rfl rfl ?_
  refine wr [0, 1] rfl ?_
  refine kB (.agg #[ii x.1, ii x.2]) fun b1 => ?_
  refine kSe 1 0 [] [3, 0] ?_
  refine tri_seq ?_
  refine kD 11 0 [3, 4, 5] [.map (some bm), .agg #[ii x.1, ii x.2], .tuple #[ii (ixOf ks (x.1, x.2) : Int), .bool true]] [(6, .bool true), (5, ii (ixOf ks (x.1, x.2) : Int))] [3, 0] [] [] rfl trivial (qA (qL 1) (qA (qL 0) (qA (qK [(12, .agg #[ii x.1, ii x.2]), (11, .map (some bm))] (by kernel_rfl) (opQ_lookYes (e := 3) keyP nth 2 bm ks (x.1, x.2) (ii (ixOf ks (x.1, x.2) : Int)) (ii 0) rfl rfl rfl rfl rfl rfl rfl rfl (by kernel_rfl) (by kernel_rfl) rfl hx rfl)) qZ))) ?_ (by kernel_rfl)
  refine we ?_
  refine tri_seq ?_
  refine wr [0, 1] rfl ?_
  refine kSe 2 0 [(17, .bool false)] [5, 3, 0] ?_
  refine tri_cond_false rfl ?_
  refine tri_skip ?_
  refine post_then ?_
  refine wr [0, 1] rfl ?_
  refine kSe 2 0 [(4, ii (ixOf ks (x.1, x.2) : Int))] [] ?_
  refine tri_ret ?_
  refine post_ret1 (v := ii (ixOf ks (x.1, x.2) : Int)) rfl (.tmp rfl) (fun W hR => ?_)
  exact ⟨by rw [show ixOf ks x = ixOf ks (x.1, x.2) from rfl], Rep.extM hR0 hR (.cons _ (List.Sublist.refl _))⟩
theorem numNewP {bu : Nat} {ks : List (Int × Int)} {R : Nat → Nat} {uns : List (Nat × Obj)} {w : World} (x : Int × Int) (hU : UN 165 pairV bu ks R uns) (hR0 : Rep w (uns.map (·.1)) uns w) (hx : x ∉ ks) (hk : ks.length ≤ 1000000) : Calls Tryz.prog 115 #[.pointer (some ⟨bu, 0, none⟩), .agg #[.int .i64 x.1, .int .i64 x.2]] w fun e w' => ∃ uns', UN 165 pairV bu (ks ++ [x]) (fun j => if j = ks.length then j else R j) uns' ∧ e = .returned (.int .i64 (ks.length : Int)) ∧ Rep w (uns.map (·.1)) uns' w' := by
  obtain ⟨up, sp, b, cap, bm, rfl, h1, h2, h3, h4, h5, h6⟩ := hU
  refine calls_ofR (n := 40) Tryz.func115 rfl Tryz.ntmps115 rfl hR0 ?_
  refine tri_eq (l' := [(0, pt bu 0), (1, .agg #[ii x.1, ii x.2])]) (hs' := [(bu, .cells #[sl b 0 up.length cap, .map (some bm)] 165 (0, 0)), (bm, mapB pairV nth ks), (b, roomB up sp 3)]) rfl rfl ?_
  refine wr [0, 1] rfl ?_
  refine kB (.agg #[ii x.1, ii x.2]) fun b1 => ?_
  refine kSe 1 0 [] [3, 0] ?_
  refine tri_seq ?_
  refine kD 11 0 [3, 4, 5] [.map (some bm), .agg #[ii x.1, ii x.2], .tuple #[ii 0, .bool false]] [(6, .bool false), (5, ii 0)] [3, 0] [] [] rfl trivial (qA (qL 1) (qA (qL 0) (qA (qK [(12, .agg #[ii x.1, ii x.2]), (11, .map (some bm))] (by kernel_rfl) (opQ_lookNo (e := 3) keyP nth 2 bm ks (x.1, x.2) (ii 0) rfl rfl rfl rfl rfl rfl rfl rfl (by kernel_rfl) (by kernel_rfl) rfl hx)) qZ))) ?_ (by kernel_rfl)
  refine we ?_
  refine tri_seq ?_
  refine wr [0, 1] rfl ?_
  refine kSe 2 0 [(17, .bool true)] [5, 3, 0] ?_
  refine tri_cond_true rfl ?_
  refine wr [0, 1, 2, 3, 4, 5] rfl ?_
  refine kS 3 0 [(20, pt bu 0)] [5, 3, 0] ?_
  refine kL 1 (sl b 0 up.length cap) ?_
  refine kSe 2 0 [(5, ii ((up.length : Nat) : Int))] [3, 0] ?_
  refine tri_seq ?_
  refine kD 6 0 [3, 4] [.map (some bm), .agg #[ii x.1, ii x.2]] [(28, ii ((up.length : Nat) : Int)), (27, .agg #[ii x.1, ii x.2]), (26, .map (some bm))] [5, 0] [] [6] rfl trivial (qA (qL 1) (qA (qL 0) qZ)) ?_ (by kernel_rfl)
  refine opsT_mapNew (e := 3) keyP nth 2 bm ks (x.1, x.2) rfl rfl rfl rfl rfl rfl rfl (by first | rfl | (show _ = some (nth _ _); rw [← h1]; rfl)) (by kernel_rfl) rfl hx ?_
  refine kPe [5, 0] ?_
  refine tri_region (todo := [0, 1, 2, 3, 4, 5, 6, 7, 8, 9, 10]) rfl ?_
  refine kS 4 0 [(32, pt bu 0), (29, pt bu 0)] [5] ?_
  refine kL 1 (sl b 0 up.length cap) ?_
  refine kS 1 0 [(34, ii ((up.length : Nat) : Int))] [33, 29, 5] ?_
  refine opsT_buildSlice (e := 3) (size := 1) (z := ii 0) [ii ((up.length : Nat) : Int)] rfl rfl rfl rfl rfl rfl (by kernel_rfl) (by kernel_rfl) (by kernel_rfl) (by kernel_rfl) (fun b2 => ?_)
  refine opsT_heq (hs' := [(b2, .cells #[ii ((up.length : Nat) : Int)] 3 (0, 0)), (b1, .cells #[ii x.1, ii x.2] 93 (0, 0)), (bu, .cells #[sl b 0 up.length cap, .map (some bm)] 165 (0, 0)), (bm, mapB pairV nth (ks ++ [(x.1, x.2)])), (b, roomB up sp 3)]) rfl ?_
  refine opsT_append (e := 3) (size := 1) (bytes := 8) (z := (ii 0)) (vs := (up.map (Value.int .i64))) (news := [ii ((up.length : Nat) : Int)]) (m := up.length) (k := 1) (sv := (sl b 0 up.length cap)) (hv := [(b, roomB up sp 3)]) (own := [(b2, .cells #[ii ((up.length : Nat) : Int)] 3 (0, 0)), (b1, .cells #[ii x.1, ii x.2] 93 (0, 0)), (bu, .cells #[sl b 0 up.length cap, .map (some bm)] 165 (0, 0)), (bm, mapB pairV nth (ks ++ [(x.1, x.2)]))]) rfl rfl rfl rfl rfl rfl rfl rfl rfl rfl rfl (by kernel_rfl) (by kernel_rfl) rfl (List.perm_middle (l₁ := ([(b2, .cells #[ii ((up.length : Nat) : Int)] 3 (0, 0)), (b1, .cells #[ii x.1, ii x.2] 93 (0, 0)), (bu, .cells #[sl b 0 up.length cap, .map (some bm)] 165 (0, 0)), (bm, mapB pairV nth (ks ++ [(x.1, x.2)]))] : List (Nat × Obj)))) ⟨(by simp), .inr ⟨_, _, sp, rfl, (by first | omega | assumption), (by assumption), rfl⟩⟩ rfl (by first | omega | assumption) (by first | omega | assumption) (fun W hR => src_own (e2 := 3) (off := 0) (us := [ii ((up.length : Nat) : Int)]) hR (by kernel_rfl) (List.mem_append_right _ (List.mem_of_getElem? (i := 0) rfl)) rfl (fun j v hj => by simpa using hj) rfl) (fun sv hv hV => ?_)
  rw [show ((up.map (Value.int .i64)) ++ [ii ((up.length : Nat) : Int)] : List Value) = (up ++ [((up.length : Nat) : Int)]).map (Value.int .i64) by simp] at hV
  obtain ⟨bv1, cap1, sp1, rfl, hcapbv1, hspbv1, rfl⟩ := hV.pos (by omega)
  refine opsT_heq (hs' := [(bv1, roomB (up ++ [((up.length : Nat) : Int)]) sp1 3), (b2, .cells #[ii ((up.length : Nat) : Int)] 3 (0, 0)), (b1, .cells #[ii x.1, ii x.2] 93 (0, 0)), (bu, .cells #[sl b 0 up.length cap, .map (some bm)] 165 (0, 0)), (bm, mapB pairV nth (ks ++ [(x.1, x.2)]))]) rfl ?_
  refine kS 2 0 [(38, pt bu 0)] [36, 5] ?_
  refine kW 3 #[sl bv1 0 (up.length + 1) cap1, .map (some bm)] ?_
  refine kP [5] ?_
  refine wn [0, 1] rfl ?_
  refine kSe 2 0 [(4, ii ((up.length : Nat) : Int))] [] ?_
  refine tri_ret ?_
  refine post_ret1 (v := ii ((up.length : Nat) : Int)) rfl (.tmp rfl) (fun W hR => ?_)
  have hR := (hR.forget (.cons_cons _ (.cons _ (.cons _ (List.Sublist.refl _))))).perm (List.perm_append_comm (l₁ := [(bv1, roomB (up ++ [((up.length : Nat) : Int)]) sp1 3)]) (l₂ := [(bu, .cells #[sl bv1 0 (up.length + 1) cap1, .map (some bm)] 165 (0, 0)), (bm, mapB pairV nth (ks ++ [(x.1, x.2)]))]))
  exact ⟨_, ⟨up ++ [((up.length : Nat) : Int)], sp1, bv1, cap1, bm, by simp, by simp [h1], by simp, by simpa using hcapbv1, hspbv1, (rt_push h5).1, fun j hj => by
    rw [(rt_push h5).2 j (by simpa using hj), h1]
    by_cases hj2 : j = ks.length
    · simp [hj2]
    · simp only [hj2, if_false]; exact h6 j (by simp at hj; omega)⟩, by rw [h1], hR⟩
theorem numNilP {bu : Nat} {uns : List (Nat × Obj)} {w : World} (x : Int × Int) (hU : U0 165 pairV bu uns) (hR0 : Rep w (uns.map (·.1)) uns w) : Calls Tryz.prog 115 #[.pointer (some ⟨bu, 0, none⟩), .agg #[.int .i64 x.1, .int .i64 x.2]] w fun e w' => ∃ uns', UN 165 pairV bu [x] (fun j => j) uns' ∧ e = .returned (.int .i64 0) ∧ Rep w (uns.map (·.1)) uns' w' := by
  obtain ⟨bm, rfl⟩ := hU
  have hx : x ∉ ([] : List (Int × Int)) := by simp
  refine calls_ofR (n := 40) Tryz.func115 rfl Tryz.ntmps115 rfl hR0 ?_
  refine tri_eq (l' := [(0, pt bu 0), (1, .agg #[ii x.1, ii x.2])]) (hs' := [(bu, .cells #[.slice none 0 0, .map (some bm)] 165 (0, 0)), (bm, mapB pairV nth [])]) rfl rfl ?_
  refine wr [0, 1] rfl ?_
  refine kB (.agg #[ii x.1, ii x.2]) fun b1 => ?_
  refine kSe 1 0 [] [3, 0] ?_
  refine tri_seq ?_
  refine kD 11 0 [3, 4, 5] [.map (some bm), .agg #[ii x.1, ii x.2], .tuple #[ii 0, .bool false]] [(6, .bool false), (5, ii 0)] [3, 0] [] [] rfl trivial (qA (qL 1) (qA (qL 0) (qA (qK [(12, .agg #[ii x.1, ii x.2]), (11, .map (some bm))] (by kernel_rfl) (opQ_lookNo (e := 3) keyP nth 2 bm [] (x.1, x.2) (ii 0) rfl rfl rfl rfl rfl rfl rfl rfl (by kernel_rfl) (by kernel_rfl) rfl hx)) qZ))) ?_ (by kernel_rfl)
  refine we ?_
  refine tri_seq ?_
  refine wr [0, 1] rfl ?_
  refine kSe 2 0 [(17, .bool true)] [5, 3, 0] ?_
  refine tri_cond_true rfl ?_
  refine wr [0, 1, 2, 3, 4, 5] rfl ?_
  refine kS 3 0 [(20, pt bu 0)] [5, 3, 0] ?_
  refine kL 1 (.slice none 0 0) ?_
  refine kSe 2 0 [(5, ii 0)] [3, 0] ?_
  refine tri_seq ?_
  refine kD 6 0 [3, 4] [.map (some bm), .agg #[ii x.1, ii x.2]] [(28, ii 0), (27, .agg #[ii x.1, ii x.2]), (26, .map (some bm))] [5, 0] [] [6] rfl trivial (qA (qL 1) (qA (qL 0) qZ)) ?_ (by kernel_rfl)
  refine opsT_mapNew (e := 3) keyP nth 2 bm [] (x.1, x.2) rfl rfl rfl rfl rfl rfl rfl (by first | rfl | (show _ = some (nth _ _); rw [← h1]; rfl)) (by kernel_rfl) rfl hx ?_
  refine kPe [5, 0] ?_
  refine tri_region (todo := [0, 1, 2, 3, 4, 5, 6, 7, 8, 9, 10]) rfl ?_
  refine kS 4 0 [(32, pt bu 0), (29, pt bu 0)] [5] ?_
  refine kL 1 (.slice none 0 0) ?_
  refine kS 1 0 [(34, ii 0)] [33, 29, 5] ?_
  refine opsT_buildSlice (e := 3) (size := 1) (z := ii 0) [ii 0] rfl rfl rfl rfl rfl rfl (by kernel_rfl) (by kernel_rfl) (by kernel_rfl) (by kernel_rfl) (fun b2 => ?_)
  refine opsT_heq (hs' := [(b2, .cells #[ii 0] 3 (0, 0)), (b1, .cells #[ii x.1, ii x.2] 93 (0, 0)), (bu, .cells #[.slice none 0 0, .map (some bm)] 165 (0, 0)), (bm, mapB pairV nth [(x.1, x.2)])]) rfl ?_
  refine opsT_append (e := 3) (size := 1) (bytes := 8) (z := (ii 0)) (vs := []) (news := [ii 0]) (m := 0) (k := 1) (sv := (.slice none 0 0)) (hv := []) (own := [(b2, .cells #[ii 0] 3 (0, 0)), (b1, .cells #[ii x.1, ii x.2] 93 (0, 0)), (bu, .cells #[.slice none 0 0, .map (some bm)] 165 (0, 0)), (bm, mapB pairV nth [(x.1, x.2)])]) rfl rfl rfl rfl rfl rfl rfl rfl rfl rfl rfl (by kernel_rfl) (by kernel_rfl) rfl (List.Perm.refl _) Vec.nil rfl (by first | omega | assumption) (by first | omega | assumption) (fun W hR => src_own (e2 := 3) (off := 0) (us := [ii 0]) hR (by kernel_rfl) (List.mem_append_right _ (List.mem_of_getElem? (i := 0) rfl)) rfl (fun j v hj => by simpa using hj) rfl) (fun sv hv hV => ?_)
  rw [show ([] ++ [ii 0] : List Value) = ([0]).map (Value.int .i64) by simp] at hV
  obtain ⟨bv1, cap1, sp1, rfl, hcapbv1, hspbv1, rfl⟩ := hV.pos (by omega)
  refine opsT_heq (hs' := [(bv1, roomB [0] sp1 3), (b2, .cells #[ii 0] 3 (0, 0)), (b1, .cells #[ii x.1, ii x.2] 93 (0, 0)), (bu, .cells #[.slice none 0 0, .map (some bm)] 165 (0, 0)), (bm, mapB pairV nth [(x.1, x.2)])]) rfl ?_
  refine kS 2 0 [(38, pt bu 0)] [36, 5] ?_
  refine kW 3 #[sl bv1 0 (0 + 1) cap1, .map (some bm)] ?_
  refine kP [5] ?_
  refine wn [0, 1] rfl ?_
  refine kSe 2 0 [(4, ii 0)] [] ?_
  refine tri_ret ?_
  refine post_ret1 (v := ii 0) rfl (.tmp rfl) (fun W hR => ?_)
  have hR := (hR.forget (.cons_cons _ (.cons _ (.cons _ (List.Sublist.refl _))))).perm (List.perm_append_comm (l₁ := [(bv1, roomB [0] sp1 3)]) (l₂ := [(bu, .cells #[sl bv1 0 (0 + 1) cap1, .map (some bm)] 165 (0, 0)), (bm, mapB pairV nth [(x.1, x.2)])]))
  exact ⟨_, ⟨[0], sp1, bv1, cap1, bm, by simp, by simp, by simp, by simpa using hcapbv1, hspbv1, (by intro i hi; simp at hi; subst hi; simp), fun j hj => (by simp at hj; subst hj; rfl)⟩, rfl, hR⟩
end Go.Proofs.YtlkbokbcfajhjaaGreat
