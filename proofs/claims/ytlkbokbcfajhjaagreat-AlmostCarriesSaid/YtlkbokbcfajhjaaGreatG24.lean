/- G24: Clone -/
import Derived.Test.YtlkbokbcfajhjaaGreatG23
import Derived.Test.YtlkbokbcfajhjaaGreatB17
import Derived.Test.YtlkbokbcfajhjaaGreatD1
namespace Go.Proofs.YtlkbokbcfajhjaaGreat
open Go.Proofs.Walk
set_option maxRecDepth 100000
set_option linter.unusedVariables false
set_option linter.unusedSimpArgs false

/-- The first n ints. -/
def listN (n : Nat) (a : Nat → Int) : List Int := (List.range n).map a
theorem listN_len (n : Nat) (a : Nat → Int) : (listN n a).length = n := by simp [listN]
theorem src_base {W0 W : World} {M : List Nat} {hs : List (Nat × Obj)} {n b off cap : Nat} {a : Nat → Int} (h : AtV W b off n a) {tx e2 : TypeId} (hk : Tryz.prog.underlying tx = some (.slice e2)) :
    Src Tryz.prog 1 tx (.slice (some ⟨b, off, none⟩) n cap) n ((listN n a).map (Value.int .i64)) W :=
  Src.ofSlice W hk _ n cap _ (by simp [listN]) (fun j v hj => by
    have : ((⟨b, off, none⟩ : Addr).add j) = ⟨b, off + j, none⟩ := by unfold Addr.add; split <;> simp_all
    rw [this]
    have hlt : j < n := by have := (List.getElem?_eq_some_iff.1 hj).1; simpa [listN] using this
    simp [listN, hlt] at hj
    subst hj
    exact h j hlt) (fun u hu => by
    obtain ⟨x, _, rfl⟩ := List.mem_map.1 hu; rfl)

theorem clone_ {ba oa na ca : Nat} {a : Nat → Int} {w : World} (ha : AtV w ba oa na a) (hn : na ≤ 1000000000) : Calls Tryz.prog 14 #[sl ba oa na ca] w fun e w' => ∃ p : Value × List (Nat × Obj), Vec 3 1 ((listN na a).map (Value.int .i64)) na p.1 p.2 ∧ e = .returned p.1 ∧ Rep w [] p.2 w' := by
  refine calls_of (n := 8) Tryz.func14 rfl Tryz.ntmps14 rfl ?_
  refine tri_eq (l' := [(0, sl ba oa na ca)]) (hs' := []) rfl rfl ?_
  refine wr [0] rfl ?_
  refine kSe 1 0 [] [0] ?_
  refine tri_seq ?_
  refine wr [0, 1] rfl ?_
  refine kSe 2 0 [(4, .bool false)] [0] ?_
  refine tri_cond_false rfl ?_
  refine tri_skip ?_
  refine post_then ?_
  refine wr [0, 1, 2, 3] rfl ?_
  refine opsT_buildSlice (e := 3) (size := 1) (z := ii 0) [] rfl rfl rfl rfl rfl rfl (by kernel_rfl) (by kernel_rfl) (by kernel_rfl) (by kernel_rfl) (fun b1 => ?_)
  refine opsT_heq (hs' := [(b1, .cells #[] 3 (0, 0))]) rfl ?_
  refine kS 1 0 [(6, sl ba oa na ca)] [5] ?_
  refine opsT_append (e := 3) (size := 1) (bytes := 8) (z := .int .i64 0) (vs := []) (news := (listN na a).map (Value.int .i64)) (m := 0) (k := na) (sv := .slice (some ⟨b1, 0, none⟩) 0 0) (hv := [(b1, vecB [] 3)]) (own := []) rfl rfl rfl rfl rfl rfl rfl rfl rfl rfl rfl (by kernel_rfl) (by kernel_rfl) rfl (List.Perm.refl _) (Vec.full (vs := []) rfl) (by simp [oneCell]) (by omega) (by omega) (fun W hR => src_base (W0 := W) (M := []) (hs := []) (ha.rep hR (by simp)) (e2 := 3) (by kernel_rfl)) (fun sv hv hV => ?_)
  rw [List.nil_append, Nat.zero_add] at hV
  refine opsT_heq (hs' := hv) (by simp) ?_
  refine kSe 1 0 [(2, sv)] [] ?_
  refine tri_ret ?_
  refine post_ret1 (v := sv) rfl (.tmp rfl) (fun W hR => ?_)
  exact ⟨(sv, hv), hV, rfl, hR⟩
end Go.Proofs.YtlkbokbcfajhjaaGreat
