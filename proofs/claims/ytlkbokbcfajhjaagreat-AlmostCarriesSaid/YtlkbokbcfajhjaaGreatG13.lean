/- G13: weights: the union of the edges -/
import Derived.Test.YtlkbokbcfajhjaaGreatG12
import Derived.Test.YtlkbokbcfajhjaaGreatG5
import Derived.Test.YtlkbokbcfajhjaaGreatB17
import Derived.Test.YtlkbokbcfajhjaaGreatD1
namespace Go.Proofs.YtlkbokbcfajhjaaGreat
open Go.Proofs.Walk
set_option maxRecDepth 100000
set_option linter.unusedVariables false
set_option linter.unusedSimpArgs false

theorem en50 : Walk.Enters Tryz.prog 50 := Walk.enters Tryz.func50 (by kernel_rfl) rfl
theorem edge_ {i j : Int} (i0 : 0 ≤ i) (i4 : i < 4) (j0 : 0 ≤ j) (j4 : j < 4) (hij : i ≠ j) (w : World) : Calls Tryz.prog 98 #[.int .i64 i, .int .i64 j] w fun e w' => e = .returned (.int .i64 ((edgeN i.toNat j.toNat : Nat) : Int)) ∧ Ext w w' := by
  obtain ⟨I, rfl⟩ : ∃ I : Nat, i = I := ⟨i.toNat, by omega⟩
  obtain ⟨J, rfl⟩ : ∃ J : Nat, j = J := ⟨j.toNat, by omega⟩
  simp only [Int.toNat_natCast]
  exact edgeNat_ (by omega) (by omega) (fun e => hij (by rw [e])) w

/-- The first x numbers. -/
def keysTo (x : Nat) : List Int := (List.range x).map fun i : Nat => (i : Int)
theorem keysTo_len (x : Nat) : (keysTo x).length = x := by simp [keysTo]
theorem keysTo_succ (x : Nat) : keysTo (x + 1) = keysTo x ++ [(x : Int)] := by simp [keysTo, List.range_succ]
theorem mem_keysTo {x : Nat} {z : Int} : z ∈ keysTo x ↔ 0 ≤ z ∧ z < x := by
  simp only [keysTo, List.mem_map, List.mem_range]
  constructor
  · rintro ⟨a, h, rfl⟩; omega
  · rintro ⟨h1, h2⟩; exact ⟨z.toNat, by omega, by omega⟩
theorem ixOf_keysTo : ∀ {x z : Nat}, z < x → ixOf (keysTo x) (z : Int) = z
  | 0, _, h => by omega
  | x + 1, z, h => by
    unfold ixOf
    rw [keysTo_succ]
    by_cases e : z < x
    · rw [List.idxOf_append, if_pos (mem_keysTo.2 (by omega))]
      exact ixOf_keysTo e
    · have : z = x := by omega
      subst this
      rw [List.idxOf_append, if_neg (by rw [mem_keysTo]; omega), keysTo_len]
      simp
/-- A union in which the first x numbers have been met. -/
def Reg (bu x : Nat) (uns : List (Nat × Obj)) : Prop := (x = 0 ∧ U0 (κ := Int) 229 (Value.int .i64) bu uns) ∨ (0 < x ∧ UN 229 (Value.int .i64) bu (keysTo x) (fun j => j) uns)
theorem reg_step {bu x : Nat} {uns : List (Nat × Obj)} {w : World} (h : Reg bu x uns) (hR0 : Rep w (uns.map (·.1)) uns w) (hx : x ≤ 1000000) :
    Calls Tryz.prog 95 #[.pointer (some ⟨bu, 0, none⟩), .int .i64 (x : Int)] w fun e w' => ∃ uns', Reg bu (x + 1) uns' ∧ e = .returned (.int .i64 (x : Int)) ∧ Rep w (uns.map (·.1)) uns' w' := by
  rcases h with ⟨rfl, h⟩ | ⟨h0, h⟩
  · exact (numNilI (0 : Int) h hR0).mono fun e w' ⟨u, h1, h2, h3⟩ => ⟨u, .inr ⟨by omega, h1⟩, h2, h3⟩
  · refine (numNewI (x : Int) h hR0 (by rw [mem_keysTo]; omega) (by rw [keysTo_len]; exact hx)).mono fun e w' ⟨u, h1, h2, h3⟩ => ⟨u, .inr ⟨by omega, ?_⟩, by rw [h2, keysTo_len], h3⟩
    rw [keysTo_succ]
    rw [show (fun j => if j = (keysTo x).length then j else j) = (fun j : Nat => j) by funext j; split <;> rfl] at h1
    exact h1
theorem join_at {bu x : Nat} {R : Nat → Nat} {uns : List (Nat × Obj)} {w : World} (h : UN 229 (Value.int .i64) bu (keysTo x) R uns) (hR0 : Rep w (uns.map (·.1)) uns w) {a b : Nat} (ha : a < x) (hb : b < x) :
    Calls Tryz.prog 97 #[.pointer (some ⟨bu, 0, none⟩), .int .i64 (a : Int), .int .i64 (b : Int)] w fun e w' => ∃ uns', UN 229 (Value.int .i64) bu (keysTo x) (joinR R (a, b)) uns' ∧ e = .returned (.tuple #[]) ∧ Rep w (uns.map (·.1)) uns' w' := by
  have := joinI (a : Int) (b : Int) h hR0 (mem_keysTo.2 (by omega)) (mem_keysTo.2 (by omega))
  rw [ixOf_keysTo ha, ixOf_keysTo hb] at this
  exact this
theorem root_at {bu x : Nat} {R : Nat → Nat} {uns : List (Nat × Obj)} {w : World} (h : UN 229 (Value.int .i64) bu (keysTo x) R uns) (hR0 : Rep w (uns.map (·.1)) uns w) {a : Nat} (ha : a < x) :
    Calls Tryz.prog 99 #[.pointer (some ⟨bu, 0, none⟩), .int .i64 (a : Int)] w fun e w' => ∃ uns', UN 229 (Value.int .i64) bu (keysTo x) R uns' ∧ e = .returned (.int .i64 (R a : Int)) ∧ Rep w (uns.map (·.1)) uns' w' := by
  have := rootI (a : Int) h hR0 (mem_keysTo.2 (by omega))
  rw [ixOf_keysTo ha] at this
  exact this
theorem weight_ {b off n cap : Nat} {v : Nat → Int} {w : World} (hc : AtV w b off n v) (hv : InR n v) (hn : n ≤ 1000000) {t e : Int} (t0 : 0 ≤ t) (ht : 10 * t + 10 ≤ n) (e0 : 0 ≤ e) (e6 : e < 6) :
    Calls Tryz.prog 100 #[.slice (some ⟨b, off, none⟩) n cap, .int .i64 t, .int .i64 e] w fun e' w' => e' = .returned (.int .i64 (wtP v t.toNat e.toNat)) ∧ Ext w w' := by
  obtain ⟨T, rfl⟩ : ∃ T : Nat, t = T := ⟨t.toNat, by omega⟩
  obtain ⟨E, rfl⟩ : ∃ E : Nat, e = E := ⟨e.toNat, by omega⟩
  simp only [Int.toNat_natCast]
  exact weightN_ hc hv (by omega) hn (by omega)
end Go.Proofs.YtlkbokbcfajhjaaGreat
