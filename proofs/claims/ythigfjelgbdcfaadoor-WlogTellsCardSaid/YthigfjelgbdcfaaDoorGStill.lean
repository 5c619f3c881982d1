/- A boxed calculus for regions whose guards skip operations; nothing of the program. -/
import Derived.Test.YthigfjelgbdcfaaDoorGBase
import Derived.Deep.RegionHeld3
import Derived.OrdersHeld

/-! Regions whose end may go up. The goal is kept in a box: no tactic's look at it runs the region. -/
namespace Go.Proofs.YthigfjelgbdcfaaDoor

structure Bx (p : Prop) : Prop where
  out : p

section
variable {P : Program} {ops : Array Oper} {w : World} {Q : Act → Prop} {l rest : List Oper} {a : Act} {o : Oper}

theorem bx_start (h : Bx (wpStill P ops w Q l a)) : wpStill P ops w Q l a := h.out
theorem bx_nil (h : Q a) : Bx (wpStill P ops w Q [] a) := ⟨h⟩
theorem bx_skip (h : Region.wanted o (yielded ops a.tmps) = false) (k : Bx (wpStill P ops w Q rest (a.put o.dst undef))) : Bx (wpStill P ops w Q (o :: rest) a) := by
  refine ⟨?_⟩
  unfold wpStill
  rw [h]
  exact k.out
theorem bx_step (h : ∀ K : Act → Prop, (∀ a, Bx (wpStill P ops w Q rest a) → K a) → if Region.wanted o (yielded ops a.tmps) then o.still P a w K else K (a.put o.dst undef)) : Bx (wpStill P ops w Q (o :: rest) a) :=
  ⟨h _ (fun _ h => h.out)⟩
end

theorem exec_binOp {P : Program} {o : Oper} {ev : Operand → Value} {b : BinOp} {t t2 : TypeId} {x y : Operand} {u v r : Value} {w : World} (ho : o.op = .binOp b t x y t2) (hx : ev x = u) (hy : ev y = v) (hg : (eqGuard b t x y u v).run P w = .ok () w) (h : (binOp b t u v).run P w = .ok r w) : (execOp ev o).run P w = .ok (.value r) w := by
  unfold execOp
  rw [ho]
  simp only [hx, hy, bind, pure, Sem.run_bind', hg, h, Result.andThen]
  rfl

section
variable {P : Program} {ops : Array Oper} {Q : Exit → Act → World → Prop} {md : Region.Mode} {S : World → Prop}
theorem bxh_start {id : Nat} {a : Act} {w : World} (hm : P.follows .mixedOrders = true) (h : Bx (wpAnyH P .any ops Q S ops.size (Array.replicate ops.size false) a w.drew)) : (Code.region id ops true).wp P Q a w :=
  wp_region_held hm h.out
theorem bxh_take {i : Nat} {oi : Oper} {v : Value} {fuel : Nat} {listed : Array Bool} {a : Act} {w : World} (hi : ops[i]? = some oi)
    (hs : Region.noSelect ops = true) (hf : Region.free md ops listed i = true) (hr : (Region.ready md ops listed).contains i = true)
    (hQ : ∀ c a w, Q (.panic c) (a.put oi.dst v) w → Q (.panic c) a w) (hy : YieldsIf P ops S oi v a) (hS : S w)
    (h : Bx (wpAnyH P md ops Q S fuel (listed.setIfInBounds i true) (a.put oi.dst v) w)) : Bx (wpAnyH P md ops Q S (fuel + 1) listed a w) :=
  ⟨wpAnyH_take hi hs hf hr hQ hy hS h.out⟩
theorem bxh_skip {i : Nat} {oi : Oper} {fuel : Nat} {listed : Array Bool} {a : Act} {w : World} (hi : ops[i]? = some oi)
    (hs : Region.noSelect ops = true) (hf : Region.free md ops listed i = true) (hr : (Region.ready md ops listed).contains i = true)
    (hQ : ∀ c a w, Q (.panic c) (a.put oi.dst undef) w → Q (.panic c) a w) (hw : Region.wanted oi (yielded ops a.tmps) = false) (hS : S w)
    (h : Bx (wpAnyH P md ops Q S fuel (listed.setIfInBounds i true) (a.put oi.dst undef) w)) : Bx (wpAnyH P md ops Q S (fuel + 1) listed a w) :=
  ⟨wpAnyH_take hi hs hf hr hQ (.inr ⟨hw, rfl⟩) hS h.out⟩
theorem bxh_next {i : Nat} {o : Oper} {fuel : Nat} {listed : Array Bool} {a : Act} {w : World} (hr : Region.ready md ops listed = [i]) (ho : ops[i]? = some o)
    (h : ∀ K' : Act → World → Prop, Shut (∀ a w, S w → (S w → Bx (wpAnyH P md ops Q S fuel (listed.setIfInBounds i true) a w)) → K' a w) → if Region.wanted o (yielded ops a.tmps) = true then Oper.wp P o a w K' Q else K' (a.put o.dst undef) w) :
    Bx (wpAnyH P md ops Q S (fuel + 1) listed a w) :=
  ⟨wpAnyH_ready hr (by simp) (AllReadyH.cons ho (fun K' hK => h K' (fun a w hS hB => hK.out a w hS (fun hS => (hB hS).out))) AllReadyH.nil)⟩
theorem bxh_two {i j : Nat} {o o2 : Oper} {fuel : Nat} {listed : Array Bool} {a : Act} {w : World} (hr : Region.ready md ops listed = [i, j]) (ho : ops[i]? = some o) (ho2 : ops[j]? = some o2)
    (h : ∀ K' : Act → World → Prop, Shut (∀ a w, S w → (S w → Bx (wpAnyH P md ops Q S fuel (listed.setIfInBounds i true) a w)) → K' a w) → if Region.wanted o (yielded ops a.tmps) = true then Oper.wp P o a w K' Q else K' (a.put o.dst undef) w)
    (h2 : ∀ K' : Act → World → Prop, Shut (∀ a w, S w → (S w → Bx (wpAnyH P md ops Q S fuel (listed.setIfInBounds j true) a w)) → K' a w) → if Region.wanted o2 (yielded ops a.tmps) = true then Oper.wp P o2 a w K' Q else K' (a.put o2.dst undef) w) :
    Bx (wpAnyH P md ops Q S (fuel + 1) listed a w) :=
  ⟨wpAnyH_ready hr (by simp) (AllReadyH.cons ho (fun K' hK => h K' (fun a w hS hB => hK.out a w hS (fun hS => (hB hS).out))) (AllReadyH.cons ho2 (fun K' hK => h2 K' (fun a w hS hB => hK.out a w hS (fun hS => (hB hS).out))) AllReadyH.nil))⟩
theorem bxh_done {listed : Array Bool} {a : Act} {w : World} (hr : Region.ready md ops listed = []) (h : Q .normal a w) (fuel : Nat) : Bx (wpAnyH P md ops Q S fuel listed a w) :=
  ⟨wpAnyH_done hr h fuel⟩
end

end Go.Proofs.YthigfjelgbdcfaaDoor
