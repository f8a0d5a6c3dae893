/- A region that draws its order within a round of a loop over an iterator: walked as anywhere, where nothing in it is deferred and nothing is outgrown. No program. -/
import Derived.OrdersIn
import Derived.TacticsIn
import Derived.RangeFuncCalls
import Derived.Deep.RegionHeld3
namespace Go.Proofs.YtaijjffnamjhiaaGreatDoor
open Go

variable {P : Program} {ops : Array Oper} {Q : Exit → Act → World → Prop} {md : Region.Mode}

theorem upon_round {l n : Nat} {o : Oper} {a : Act} {K : Act → World → Prop} (r : Result Next) (h : o.upon P a K Q r) : o.uponIn (Fence.wide.inRound l) n P a K Q r := by
  match r, h with
  | .ok (.value _) _, h => exact h
  | .ok .skip _, h => exact h
  | .ok (.defer _) _, h => exact h
  | .ok (.enter _ _) _, h =>
    refine ⟨(fun g => by cases g), CallsIn.inRound l (callsIn_wide.2 ?_)⟩
    exact h
  | .ok (.row _ _) _, h =>
    refine ⟨(fun g => by cases g), fun c cs _ => ?_⟩
    obtain ⟨v, w', hv, hs⟩ := h c cs
    exact ⟨v, w', hv, stepsIn_wide.2 hs⟩
  | .halt (.panic _) _, h => exact h
theorem oper_round {l n : Nat} {o : Oper} {a : Act} {w : World} {K : Act → World → Prop} (hd : ∀ c, o.op ≠ .defer c) (h : o.wp P a w K Q) : o.wpIn (Fence.wide.inRound l) n P a w K Q := by
  refine ⟨fun _ _ => trivial, ?_⟩
  show o.uponIn _ n P a K Q ((Oper.semAt (some l) a.eval o).run P w)
  rw [Oper.semAt_some l _ o hd]
  exact upon_round _ h
theorem any_round {l n : Nat} (hQ : ∀ a w, ¬ Q .outgrown a w) (hd : ∀ (i : Nat) (o : Oper), ops[i]? = some o → ∀ c, o.op ≠ .defer c) : ∀ (fuel : Nat) (listed : Array Bool) (a : Act) (w : World), wpAny P md ops Q fuel listed a w → wpAnyIn (Fence.wide.inRound l) n P md ops Q fuel listed a w
  | 0, _, _, _, h => h
  | fuel + 1, listed, a, w, h => ⟨h.1, fun i hi => by
      have g := h.2 i hi
      unfold wpOp at g
      unfold wpOpIn
      split
      · rename_i ho
        simp only [ho] at g
        exact any_round hQ hd fuel _ _ _ g
      · rename_i o ho
        simp only [ho] at g
        split
        · rename_i hw
          simp only [hw, if_true] at g
          rcases g with g | ⟨_, a', w', g⟩
          · exact Oper.wpIn_mono (fun a w h => any_round hQ hd fuel _ a w h) (oper_round (hd i o ho) g)
          · exact absurd g (hQ a' w')
        · rename_i hw
          simp only [hw] at g
          exact ⟨fun _ _ => trivial, any_round hQ hd fuel _ _ _ g⟩⟩
/-- is nothing in a list of operations deferred? -/
def calm (l : List Oper) : Bool := l.all fun o => match o.op with | .defer _ => false | _ => true
theorem calm_spec {l : List Oper} (h : calm l = true) : ∀ (i : Nat) (o : Oper), l.toArray[i]? = some o → ∀ c, o.op ≠ .defer c := fun i o ho c e => by
  have := List.all_eq_true.1 h o (List.mem_of_getElem? (by simpa using ho))
  rw [e] at this
  simp at this
/-- the beginning of a region in a round -/
theorem region_round {S : World → Prop} {l : List Oper} {l₀ n id : Nat} {a : Act} {w : World} (hm : P.follows .mixedOrders = true) (hc : calm l = true) (hQ : ∀ a w, ¬ Q .outgrown a w) (hS : S w.drew)
    (h : S w.drew → wpAnyH P .any l.toArray Q S l.toArray.size (Array.replicate l.toArray.size false) a w.drew) : (Code.region id l.toArray true).wpIn (Fence.wide.inRound l₀) n P Q a w :=
  wpIn_region_any hm (any_round hQ (calm_spec hc) _ _ _ _ (wpAny_of_held _ _ _ _ (h hS)))
end Go.Proofs.YtaijjffnamjhiaaGreatDoor
