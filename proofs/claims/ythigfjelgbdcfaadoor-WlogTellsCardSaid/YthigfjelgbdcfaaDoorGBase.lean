/- Words on worlds, blocks and calls that the proof of WlogTells leans on; nothing of the program, no condition. -/
import Derived.WalkKit
import Derived.WalkLawsBesides
import Derived.Lib.Hide
import Derived.Deep.RegionWith
import Derived.Deep.QuietTactic
import Derived.BigQuiet
import Derived.StillTailTactics
import Derived.Lib.QuietBelow

/-! Worlds: what is below a bound stays as it was, also where both sides are written alike. Nothing of the program. -/
namespace Go.Proofs.YthigfjelgbdcfaaDoor
open Go.RowKit

def stCell (a : Addr) (v : Value) : Obj → Obj
  | .cells c e f => .cells (if a.spot.isSome then c else c.setIfInBounds a.off v) e f
  | o => o
theorem setCell_eq (w : World) (a : Addr) (v : Value) : w.setCell a v = { w with heap := w.heap.modify a.block (stCell a v) } := by
  have h : (fun o : Obj => match o with
      | .cells c elem frozen => Obj.cells (if a.spot.isSome then c else c.setIfInBounds a.off v) elem frozen
      | o => o) = stCell a v := by funext o; cases o <;> rfl
  rw [← h]; rfl
theorem setCell_heap (w : World) (a : Addr) (v : Value) (k : Nat) : (w.setCell a v).heap[k]? = if a.block = k then (w.heap[k]?).map (stCell a v) else w.heap[k]? := by
  rw [setCell_eq]
  simp only [Array.getElem?_modify]

theorem below_both {B : Nat} {w w1 : World} (h : Below B w w1) (p : Addr) (v : Value) : Below B (w.setCell p v) (w1.setCell p v) :=
  ⟨h.os, h.tape, h.output, by simpa using h.size, fun k hk => by rw [setCell_heap, setCell_heap, h.block k hk]⟩

theorem below_both2 {B : Nat} {w w1 : World} (h : Below B w w1) (p q : Addr) (v u : Value) : Below B ((w.setCell p v).setCell q u) ((w1.setCell p v).setCell q u) := below_both (below_both h p v) q u

theorem bcell {W w1 : World} (hb : Below W.heap.size W w1) : (∀ b o, b < W.heap.size → w1.cell? ⟨b, o, none⟩ = W.cell? ⟨b, o, none⟩) ∧ (∀ b o, b < W.heap.size → w1.frozen? ⟨b, o, none⟩ = W.frozen? ⟨b, o, none⟩) :=
  ⟨fun b o h => hb.cell (p := ⟨b, o, none⟩) h, fun b o h => hb.frozen (p := ⟨b, o, none⟩) h⟩

theorem regrown_cell (W : World) : ∀ d os b o, b < W.heap.size → (Go.Sort.grow (redrawn W d) os).cell? ⟨b, o, none⟩ = W.cell? ⟨b, o, none⟩ :=
  fun d os b o h => (below_regrown W d os).cell (p := ⟨b, o, none⟩) h

theorem w64 {x : Int} (h0 : -9223372036854775808 ≤ x) (h1 : x ≤ 9223372036854775807) : IntKind.i64.wrap x = x := by rw [IntKind.wrap_i64]; omega
theorem ret_bool {a b : Bool} (h : a = b) : Ending.returned (.bool a) = .returned (.bool b) := by rw [h]
theorem ret_int {k : IntKind} {a b : Int} (h : a = b) : Ending.returned (.int k a) = .returned (.int k b) := by rw [h]

theorem blk_alloc (w : World) (o : Obj) : Below w.heap.size w (w.alloc o) := (Below.refl _ _).alloc (Nat.le_refl _) o

theorem below_err {w w'' : World} {o : Obj} {v : Value} (hB : Below (w.alloc o).heap.size ((w.alloc o).setCell ⟨w.heap.size, 0, none⟩ v) w'') : Below w.heap.size w w'' :=
  Below.trans (((Below.refl _ _).alloc (Nat.le_refl _) o).setCell (p := ⟨w.heap.size, 0, none⟩) (Nat.le_refl _) v) (hB.mono (by simp))

theorem and_one_01 (z : Int) : bits BinOp.and IntKind.i64 z 1 = 0 ∨ bits BinOp.and IntKind.i64 z 1 = 1 := by
  have h : (BitVec.ofInt 64 z &&& BitVec.ofInt 64 1).toNat ≤ 1 := by
    rw [BitVec.toNat_and]
    exact Nat.and_le_right
  have e : bits BinOp.and IntKind.i64 z 1 = IntKind.i64.wrap ((BitVec.ofInt 64 z &&& BitVec.ofInt 64 1).toNat : Nat) := rfl
  rw [e]
  generalize (BitVec.ofInt 64 z &&& BitVec.ofInt 64 1).toNat = n at h
  rw [IntKind.wrap_i64]
  omega

/-! A region that draws its order, in a function that defers: what its panics ask may be asked of every act that keeps one slot and the deferred calls. -/
def NoDefer (P : Program) (o : Oper) : Prop := ∀ (a : Act) (w : World) (d : Deferred) (w' : World), (execOp a.eval o).run P w ≠ .ok (.defer d) w'

def panicAny (t : Nat) (v : Value) (ds : List Deferred) (Q : Exit → Act → World → Prop) : Exit → Act → World → Prop
  | .panic c, _, w => ∀ a' : Act, a'.tmps[t]? = some v → a'.defers = ds → Q (.panic c) a' w
  | e, a, w => Q e a w

theorem put_keep {a : Act} {t : Nat} {v u : Value} {d : Option Tmp} (h : a.tmps[t]? = some v) (hd : d ≠ some t) : (a.put d u).tmps[t]? = some v := by
  cases d with
  | none => exact h
  | some d =>
    have : d ≠ t := fun e => hd (by rw [e])
    simp only [Act.put, Array.getElem?_setIfInBounds]
    rw [if_neg this]
    exact h

theorem put_defers (a : Act) (d : Option Tmp) (u : Value) : (a.put d u).defers = a.defers := by cases d <;> rfl

theorem wpOp_keep {P : Program} {ops : Array Oper} {Q : Exit → Act → World → Prop} {t : Nat} {v : Value} {ds : List Deferred} {i : Nat} {K K' : Act → World → Prop} {a : Act} {w : World}
    (ho : ∀ o, ops[i]? = some o → o.dst ≠ some t ∧ NoDefer P o) (h1 : a.tmps[t]? = some v) (h2 : a.defers = ds)
    (hK : ∀ a w, K a w → a.tmps[t]? = some v → a.defers = ds → K' a w) (h : wpOp P ops (panicAny t v ds Q) i K a w) : wpOp P ops Q i K' a w := by
  unfold wpOp at *
  split
  · rename_i hn
    simp only [hn] at h
    exact hK _ _ h h1 h2
  · rename_i o hs
    simp only [hs] at h
    obtain ⟨hd, hnd⟩ := ho o hs
    have hput : ∀ u w', K (a.put o.dst u) w' → K' (a.put o.dst u) w' := fun u w' hk => hK _ _ hk (put_keep h1 hd) ((put_defers a o.dst u).trans h2)
    split
    · rename_i hw
      simp only [hw, if_true] at h
      rcases h with h | ⟨h, aL, wL, hL⟩
      · refine .inl ?_
        unfold Oper.wp at *
        have hnd' := hnd a w
        generalize (execOp a.eval o).run P w = r at *
        cases r with
        | ok n w' =>
          cases n with
          | value u => exact hput _ _ h
          | skip => exact hput _ _ h
          | defer d => exact absurd rfl (hnd' d w')
          | enter f args =>
            simp only [Oper.upon] at h ⊢
            refine h.mono fun e w2 he => ?_
            cases e with
            | returned u => exact hput _ _ he
            | panicked c => exact he a h1 h2
            | outgrown => obtain ⟨aL, wL, hL⟩ := he; exact ⟨aL, wL, hL⟩
          | row row args =>
            simp only [Oper.upon] at h ⊢
            exact h.mono fun u w2 he => hput _ _ he
          | _ => exact h.elim
        | halt x w' =>
          cases x with
          | panic u => exact h a h1 h2
          | _ => exact h.elim
      · exact .inr ⟨h, aL, wL, hL⟩
    · rename_i hw
      simp only [hw] at h
      exact hput _ _ h

theorem wpAny_keep {P : Program} {md : Region.Mode} {ops : Array Oper} {Q : Exit → Act → World → Prop} {t : Nat} {v : Value} {ds : List Deferred}
    (ho : ∀ (i : Nat) (o : Oper), ops[i]? = some o → o.dst ≠ some t ∧ NoDefer P o) : ∀ (fuel : Nat) (listed : Array Bool) (a : Act) (w : World), a.tmps[t]? = some v → a.defers = ds →
      wpAny P md ops (panicAny t v ds Q) fuel listed a w → wpAny P md ops Q fuel listed a w
  | 0, _, _, _, _, _, h => h
  | fuel + 1, _, _, _, h1, h2, h => ⟨h.1, fun i hi => wpOp_keep (ho i) h1 h2 (fun a w hk k1 k2 => wpAny_keep ho fuel _ a w k1 k2 hk) (h.2 i hi)⟩

theorem nd_value {P : Program} {o : Oper} (h : ∀ a : Act, ∃ s : Sem Value, execOp a.eval o = (do pure (.value (← s)))) : NoDefer P o := by
  intro a w d w'
  obtain ⟨s, hs⟩ := h a
  rw [hs]
  simp only [bind, pure, Sem.run_bind']
  cases Sem.run P s w <;> simp [Result.andThen, Sem.run]
theorem nd_unit {P : Program} {o : Oper} (h : ∀ a : Act, ∃ s : Sem Unit, execOp a.eval o = (do s; pure .skip)) : NoDefer P o := by
  intro a w d w'
  obtain ⟨s, hs⟩ := h a
  rw [hs]
  simp only [bind, pure, Sem.run_bind']
  cases Sem.run P s w <;> simp [Result.andThen, Sem.run]

end Go.Proofs.YthigfjelgbdcfaaDoor
