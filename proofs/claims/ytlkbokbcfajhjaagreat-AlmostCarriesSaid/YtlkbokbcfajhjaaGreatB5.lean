/- B5: calls that leave blocks of their own, or turn the caller's. -/
import Derived.Test.YtlkbokbcfajhjaaGreatB4
namespace Go.Proofs.Walk
open Go.Proofs
set_option linter.unusedVariables false
section
variable {P : Program} {r : Option Nat} {n : Nat} {ds : List Deferred} {W0 : World} {M : List Nat}

theorem Rep.glue {mine rest ns : List (Nat × Obj)} {W W' : World} (hR : Rep W0 M (mine ++ rest) W) (h : Rep W (mine.map (·.1)) ns W') : Rep W0 M (ns ++ rest) W' := by
  have hnd := hR.nodup
  rw [List.map_append, List.nodup_append] at hnd
  have hrest : ∀ b o, (b, o) ∈ rest → b ∉ mine.map (·.1) := fun b o hm hb => hnd.2.2 b hb b (List.mem_map_of_mem (f := (·.1)) hm) rfl
  have hlt : ∀ b o, (b, o) ∈ mine ++ rest → b < W.heap.size := fun b o hm => hR.lt hm
  refine ⟨Nat.le_trans hR.size h.size, fun b hb hM => ?_, fun b o hm => ?_, fun b o hm => ?_, ?_, hR.calm.trans h.calm⟩
  · rw [h.same b (Nat.lt_of_lt_of_le hb hR.size) fun hb' => ?_, hR.same b hb hM]
    obtain ⟨⟨b', o⟩, hm, rfl⟩ := List.mem_map.1 hb'
    rcases hR.new b' o (List.mem_append_left _ hm) with h' | h'
    · simp at hb; omega
    · exact hM h'
  · rcases List.mem_append.1 hm with hm | hm
    · exact h.own b o hm
    · rw [h.same b (hlt b o (List.mem_append_right _ hm)) (hrest b o hm)]
      exact hR.own b o (List.mem_append_right _ hm)
  · rcases List.mem_append.1 hm with hm | hm
    · rcases h.new b o hm with h' | h'
      · exact Or.inl (Nat.le_trans hR.size h')
      · obtain ⟨⟨b', o'⟩, hm', rfl⟩ := List.mem_map.1 h'
        exact hR.new b' o' (List.mem_append_left _ hm')
    · exact hR.new b o (List.mem_append_right _ hm)
  · rw [List.map_append, List.nodup_append]
    refine ⟨h.nodup, hnd.2.1, fun b hb c hc => ?_⟩
    rintro rfl
    obtain ⟨⟨b', o⟩, hm, rfl⟩ := List.mem_map.1 hb
    obtain ⟨⟨c', o'⟩, hm', hcc⟩ := List.mem_map.1 hc
    cases hcc
    rcases h.new _ o hm with h' | h'
    · have := hlt _ o' (List.mem_append_right _ hm')
      omega
    · exact hrest _ o' hm' h'

/-- A call that gives back a value, with blocks of its own; it may turn those of the caller's that are named. -/
theorem opsT_callR {ops : Array Oper} {Q : Exit → Act → World → Prop} {i : Nat} {rest : List Nat} {l : List (Nat × Value)} {hs : List (Nat × Obj)} {o : Oper} {d : Nat}
    {f : FuncId} {args : Array Value} {β : Type} (mine own : List (Nat × Obj)) (v : β → Value) (ns : β → List (Nat × Obj)) (C : β → Prop)
    (ho : ops[i]? = some o) (hw : wantedL ops l o = some true) (hk : known l o.op = true) (hd : o.dst = some d) (hdn : Nat.blt d n = true)
    (hrun : ∀ W : World, (execOp (evD l) o).run P W = .ok (.enter f args) W) (hp : hs.Perm (mine ++ own))
    (hc : ∀ W, Rep W0 M (mine ++ own) W → Calls P f args W fun e W' => ∃ b, C b ∧ e = .returned (v b) ∧ Rep W (mine.map (·.1)) (ns b) W')
    (k : ∀ b, C b → OpsT P r n ds W0 M ops Q rest (setL l d (v b)) (ns b ++ own)) : OpsT P r n ds W0 M ops Q (i :: rest) l hs :=
  opsT_calld (β := { b : β // C b }) (fun b => v b.1) (fun b => ns b.1 ++ own) ho hw hk hd hdn (fun W _ => hrun W)
    (fun W hR => (hc W (hR.perm hp)).mono fun e W' ⟨b, hC, he, hx⟩ => ⟨⟨b, hC⟩, he, (hR.perm hp).glue hx⟩) (fun b => k b.1 b.2)

/-- Blocks of the world, taken as one's own. -/
theorem Rep.mine {hs : List (Nat × Obj)} {W : World} (ho : ∀ b o, (b, o) ∈ hs → W.heap[b]? = some o) (hn : (hs.map (·.1)).Nodup) : Rep W (hs.map (·.1)) hs W :=
  ⟨Nat.le_refl _, fun _ _ _ => rfl, ho, fun b o hm => Or.inr (List.mem_map_of_mem (f := (·.1)) hm), hn, .refl W⟩
theorem Rep.mineOf {mine rest : List (Nat × Obj)} {W : World} (hR : Rep W0 M (mine ++ rest) W) : Rep W (mine.map (·.1)) mine W :=
  Rep.mine (fun b o hm => hR.own b o (List.mem_append_left _ hm)) (by have := hR.nodup; rw [List.map_append, List.nodup_append] at this; exact this.1)
end
end Go.Proofs.Walk
