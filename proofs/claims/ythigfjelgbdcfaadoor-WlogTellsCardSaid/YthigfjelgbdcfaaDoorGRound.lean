/- How a drawn region without calls is walked inside the body of a loop over a function. -/
import Derived.Test.YthigfjelgbdcfaaDoorGBase
import Derived.OrdersHeld
import Derived.OrdersIn
import Derived.Deep.RegionHeld3
import Derived.OwnWalkIn

/-! A region that draws its order and holds no call, in whatever fence: from the lone calculus. -/
namespace Go.Proofs.YthigfjelgbdcfaaDoor

def ValOnly (P : Program) (o : Oper) : Prop := ∀ (a : Act) (w : World), match (execOp a.eval o).run P w with | .ok (.value _) _ => True | .ok .skip _ => True | .halt _ _ => True | _ => False

theorem vo_value {P : Program} {o : Oper} (h : ∀ a : Act, ∃ s : Sem Value, execOp a.eval o = (do pure (.value (← s)))) : ValOnly P o := by
  intro a w
  obtain ⟨s, hs⟩ := h a
  rw [hs]
  simp only [bind, pure, Sem.run_bind']
  cases Sem.run P s w <;> simp [Result.andThen, Sem.run]
theorem vo_unit {P : Program} {o : Oper} (h : ∀ a : Act, ∃ s : Sem Unit, execOp a.eval o = (do s; pure .skip)) : ValOnly P o := by
  intro a w
  obtain ⟨s, hs⟩ := h a
  rw [hs]
  simp only [bind, pure, Sem.run_bind']
  cases Sem.run P s w <;> simp [Result.andThen, Sem.run]

def plainOp : Op → Bool
  | .move _ | .assign _ | .load _ _ | .store _ _ _ | .fieldAddr _ _ _ | .binOp _ _ _ _ _ | .indexAddr _ _ _ | .unOp _ _ _ | .alloc _ | .build _ _ => true
  | _ => false

theorem vo_plain {P : Program} {o : Oper} (h : plainOp o.op = true) : ValOnly P o := by
  cases ho : o.op <;> rw [ho] at h <;> simp only [plainOp, Bool.false_eq_true] at h
  case move x => intro a w; simp [execOp, ho]
  case assign x => intro a w; simp [execOp, ho]
  case load => exact vo_value fun a => ⟨_, by simp only [execOp, ho]; rfl⟩
  case store => exact vo_unit fun a => ⟨_, by simp only [execOp, ho]; rfl⟩
  case fieldAddr => exact vo_value fun a => ⟨_, by simp only [execOp, ho]; rfl⟩
  case binOp => exact vo_value fun a => ⟨_, by simp only [execOp, ho]; rfl⟩
  case indexAddr => exact vo_value fun a => ⟨_, by simp only [execOp, ho]; rfl⟩
  case unOp => exact vo_value fun a => ⟨_, by simp only [execOp, ho]; rfl⟩
  case alloc => exact vo_value fun a => ⟨_, by simp only [execOp, ho]; rfl⟩
  case build => exact vo_value fun a => ⟨_, by simp only [execOp, ho]; rfl⟩

theorem wpOpIn_of {F : Fence} {n : Nat} {P : Program} {ops : Array Oper} {Q : Exit → Act → World → Prop} {i : Nat} {K K' : Act → World → Prop} {a : Act} {w : World}
    (hv : ∀ o, ops[i]? = some o → plainOp o.op = true) (hQ : ∀ a w, ¬ Q .outgrown a w) (hK : ∀ a w, K a w → K' a w) (h : wpOp P ops Q i K a w) : wpOpIn F n P ops Q i K' a w := by
  unfold wpOp at h
  unfold wpOpIn
  split
  · rename_i hn
    simp only [hn] at h
    exact hK _ _ h
  · rename_i o ho
    simp only [ho] at h
    have hp := hv o ho
    have hnc : ∀ c, o.op ≠ .call c := fun c e => by rw [e] at hp; simp [plainOp] at hp
    have hnd : ∀ c, o.op ≠ .defer c := fun c e => by rw [e] at hp; simp [plainOp] at hp
    have hab : ∀ w' ρ, o.about P w' ρ = none := by
      intro w' ρ
      unfold Oper.about
      split
      · rename_i c e; exact absurd e (hnc c)
      · rfl
    split
    · rename_i hw
      simp only [hw, if_true] at h
      rcases h with h | ⟨_, aL, wL, hL⟩
      · refine ⟨fun f hf => (by rw [hab] at hf; cases hf), ?_⟩
        rw [Oper.semAt_eq _ _ _ hnd]
        unfold Oper.wp at h
        have hvo := vo_plain (P := P) hp a w
        generalize (execOp a.eval o).run P w = r at *
        cases r with
        | ok nx w' =>
          cases nx with
          | value u => exact hK _ _ h
          | skip => exact hK _ _ h
          | _ => exact hvo.elim
        | halt x w' =>
          cases x with
          | panic u => exact h
          | _ => exact h.elim
      · exact absurd hL (hQ _ _)
    · rename_i hw
      simp only [hw] at h
      exact ⟨fun f hf => (by rw [hab] at hf; cases hf), hK _ _ h⟩

theorem wpAnyIn_of {F : Fence} {n : Nat} {P : Program} {md : Region.Mode} {ops : Array Oper} {Q : Exit → Act → World → Prop}
    (hv : ∀ (i : Nat) (o : Oper), ops[i]? = some o → plainOp o.op = true) (hQ : ∀ a w, ¬ Q .outgrown a w) : ∀ (fuel : Nat) (listed : Array Bool) (a : Act) (w : World), wpAny P md ops Q fuel listed a w → wpAnyIn F n P md ops Q fuel listed a w
  | 0, _, _, _, h => h
  | fuel + 1, _, _, _, h => ⟨h.1, fun i hi => wpOpIn_of (hv i) hQ (fun a w hk => wpAnyIn_of hv hQ fuel _ a w hk) (h.2 i hi)⟩

/-- the law: in whatever fence, by the lone calculus with what is held -/
theorem wpIn_region_held {F : Fence} {n : Nat} {P : Program} {id : Nat} {l : List Oper} {Q : Exit → Act → World → Prop} {S : World → Prop} {a : Act} {w : World} (hm : P.follows .mixedOrders = true)
    (hv : l.all (fun o => plainOp o.op) = true) (hQ : ∀ a w, ¬ Q .outgrown a w)
    (h : wpAnyH P .any l.toArray Q S l.length (Array.replicate l.length false) a w.drew) : (Code.region id l.toArray true).wpIn F n P Q a w := by
  refine wpIn_region_any hm (wpAnyIn_of (fun i o ho => ?_) hQ _ _ _ _ (wpAny_of_held (S := S) _ _ _ _ ?_))
  · have : o ∈ l := by simpa using Array.mem_of_getElem? ho
    exact List.all_eq_true.1 hv o this
  · simpa using h

/-- normal, at one frame, in one world -/
def NrmAt (a0 : Act) (w0 : World) (e : Exit) (a : Act) (w : World) : Prop := e = .normal ∧ a = a0 ∧ w = w0
theorem NrmAt.panic {a0 : Act} {w0 : World} {X : Prop} {a : Act} {w : World} {c} (h : NrmAt a0 w0 (.panic c) a w) : X := by cases h.1
theorem NrmAt.outgrown {a0 : Act} {w0 : World} {a : Act} {w : World} : ¬ NrmAt a0 w0 .outgrown a w := fun h => by cases h.1

end Go.Proofs.YthigfjelgbdcfaaDoor
