/-
  Words of my own for a range over a function: the contract of an iterator (IterC), the law of the statement (rangeFunc_st), both told by St's list.
-/
import Derived.Test.YtkhlhnpoieolhaaRd
import Derived.RangeFuncNested
import Derived.RangeFuncBound
import Derived.RangeFuncCalls
import Derived.RangeFuncLeaves
import Derived.RangeFuncOwn
import Derived.OwnWalkIn
import Derived.TacticsInMore
import Derived.LoopNIn
import Derived.LoopIn
namespace Go.Proofs.Ytkhlhnpoieolhaa
open Go.RowKit

theorem Upd.putObj {w : World} {g : Nat} {o : Obj} (o' : Obj) (h : w.heap[g]? = some o) : Upd g o' w (w.putObj g o') :=
  ⟨rfl, rfl, rfl, by simp, fun k _ hne => World.putObj_heap_other hne, World.putObj_heap_same (lt_of_block h)⟩

/-- What a call of yield comes to, at the fence that asks nothing. -/
abbrev YieldW (P : Program) (l : Nat) (args : Array Value) (W : World) (R : Ending → World → Prop) : Prop := YieldAt Fence.wide 0 P l args W R

/-- What a round answers: it goes on, or it has said 'no more'; I lies as it lay. -/
def roundAns {α : Type} (Cal Calx : List α → List Reg → Prop) (B : Nat) (w0 : World) (I : List Reg) (pre : List α) (e : Ending) (W' : World) : Prop :=
  (e = .returned (.bool true) ∧ ∃ C', Cal pre C' ∧ St B w0 W' (C' ++ I)) ∨ (e = .returned (.bool false) ∧ ∃ C', Calx pre C' ∧ St B w0 W' (C' ++ I))

/-- The contract of an iterator: it tells the elements of xs, one behind the other; It is the memory of its own. -/
def IterC {α : Type} (P : Program) (gf : FuncId) (lb : Array Value) (B : Nat) (w0 : World) (encs : α → Array Value) (It : List Reg) (xs : List α) : Prop :=
  ∀ (l : Nat) (Cal Calx : List α → List Reg → Prop),
    (∀ pre x W I C, pre ++ [x] <+: xs → Cal pre C → St B w0 W (C ++ I) → YieldW P l (encs x) W (roundAns Cal Calx B w0 I (pre ++ [x]))) →
    ∀ C W, Cal [] C → St B w0 W (It ++ C) → CallsIn Fence.wide 0 P gf (#[.func (.yield l) #[] #[]] ++ lb) W fun e W' =>
      (∃ v, e = .returned v) ∧ ((∃ C', Cal xs C' ∧ St B w0 W' C') ∨ (∃ pre C', pre <+: xs ∧ Calx pre C' ∧ St B w0 W' C'))

/-- How the body of a round may be left. -/
def roundSt {α : Type} (Cal : List α → List Reg → Prop) (Calx : Code → List α → List Reg → Prop) (B : Nat) (w0 : World) (I : List Reg) (pre : List α) : Exit → Act → World → Prop
  | .normal, _, W' => ∃ C', Cal pre C' ∧ St B w0 W' (C' ++ I)
  | .ret, _, W' => ∃ C', Calx .ret pre C' ∧ St B w0 W' (C' ++ I)
  | .exit id, _, W' => ∃ C', Calx (.exit id) pre C' ∧ St B w0 W' (C' ++ I)
  | .goto t, _, W' => ∃ C', Calx (.goto t) pre C' ∧ St B w0 W' (C' ++ I)
  | .panic _, _, _ => False
  | .outgrown, _, _ => False

theorem St.mid {B : Nat} {w0 w : World} {C L : List Reg} {r : Reg} (h : St B w0 w (C ++ r :: L)) : St B w0 w (r :: (C ++ L)) := h.perm List.perm_middle
theorem St.unmid {B : Nat} {w0 w : World} {C L : List Reg} {r : Reg} (h : St B w0 w (r :: (C ++ L))) : St B w0 w (C ++ r :: L) := h.perm List.perm_middle.symm

variable {P : Program}
theorem rangeFunc_st {α : Type} {g : Operand} {ps : Array Tmp} {assign body : Code} {Q : Exit → Act → World → Prop} {a : Act} {w : World}
    {gf : FuncId} {lb : Array Value} (hg : a.eval g = .func (.func gf) #[] lb) (eg : ∀ args w, (callFunc gf args).run P w = .ok (.enter gf args) w)
    {B : Nat} {w0 : World} {encs : α → Array Value} {It : List Reg} {xs : List α} (hit : IterC P gf lb B w0 encs It xs) (hps : ∀ x, (encs x).size = ps.size)
    (Cal : List α → List Reg → Prop) (Calx : Code → List α → List Reg → Prop) {C0 : List Reg} (h0 : Cal [] C0) (hs : St B w0 w (It ++ C0))
    (As : Act → List α → α → Act → List Reg → Prop)
    (hassign : ∀ (l : Nat) (pre : List α) (x : α) (W : World) (I C : List Reg), pre ++ [x] <+: xs → Cal pre C → St B w0 W (C ++ I) →
      assign.wpIn (Fence.wide.inRound l) 0 P (Exit.then (fun a₁ w₁ => ∃ C₁, As a pre x a₁ C₁ ∧ St B w0 w₁ (C₁ ++ I)) (fun _ _ _ => False)) { tmps := (ps.zip (encs x)).foldl (fun t (p, v) => t.setIfInBounds p v) a.tmps, defers := [] } W)
    (hbody : ∀ (l : Nat) (pre : List α) (x : α) (a₁ : Act) (W : World) (I C₁ : List Reg), pre ++ [x] <+: xs → As a pre x a₁ C₁ → St B w0 W (C₁ ++ I) →
      body.wpIn (Fence.wide.inRound l) 0 P (roundSt Cal Calx B w0 I (pre ++ [x])) a₁ W)
    (hdone : ∀ (D : Nat) (C : List Reg) (W : World), Cal xs C → St B w0 W (Reg.box D (.deferred (some [])) :: C) → Q .normal { a with defers := { target := .collected D, args := #[] } :: a.defers } W)
    (hstop : ∀ (D : Nat) (c : Code) (pre : List α) (C : List Reg) (W : World), pre <+: xs → Calx c pre C → St B w0 W (Reg.box D (.deferred (some [])) :: C) → c.wpIn Fence.wide 0 P Q { a with defers := { target := .collected D, args := #[] } :: a.defers } W) :
    (Code.rangeFunc g ps assign body).wpIn Fence.wide 0 P Q a w := by
  refine wpIn_rangeFunc ?_
  intro fn hfn
  obtain ⟨rec, hrec⟩ : ∃ rec : LoopState → Option Code → Loop, rec = fun st pe => { state := st, pending := pe, fn, tmps := a.tmps, params := ps, assign, body, defers := w.heap.size } := ⟨_, rfl⟩
  obtain ⟨W1, hW1⟩ : ∃ W1, (w.alloc (.deferred (some []))).alloc (.loop (rec .ready none)) = W1 := ⟨_, rfl⟩
  have hs1 : St B w0 W1 (Reg.box (w.heap.size + 1) (.loop (rec .ready none)) :: Reg.box w.heap.size (.deferred (some [])) :: (It ++ C0)) := by
    have := (hs.alloc (.deferred (some []))).alloc (.loop (rec .ready none))
    rw [hW1, World.size_alloc] at this
    exact this
  refine ⟨w.heap.size + 1, [{ target := .collected w.heap.size, args := #[] }], W1, { target := .fn (.func gf) lb, args := #[.func (.yield (w.heap.size + 1)) #[] #[]] }, W1, gf,
    #[.func (.yield (w.heap.size + 1)) #[] #[]] ++ lb, W1, ?_, ?_, ?_, ?_, fun h => (by cases h), ?_⟩
  · rw [← hW1, hrec]; exact run_enterLoop_outer _ _ _ _ _
  · simp only [resolve, hg]
    simp [go_sem]
  · intro f' _; trivial
  · simp [invoke, go_sem, eg]
  · refine (hit (w.heap.size + 1)
      (fun pre C' => ∃ C, Cal pre C ∧ C' = Reg.box (w.heap.size + 1) (.loop (rec .ready none)) :: Reg.box w.heap.size (.deferred (some [])) :: C)
      (fun pre C' => ∃ c C, Calx c pre C ∧ C' = Reg.box (w.heap.size + 1) (.loop (rec .done (some c))) :: Reg.box w.heap.size (.deferred (some [])) :: C)
      ?_ _ W1 ⟨C0, h0, rfl⟩ ?_).mono ?_
    · rintro pre x W I C' hpre ⟨C, hC, rfl⟩ hW
      have hl : W.heap[w.heap.size + 1]? = some (.loop (rec .ready none)) := hW.get (by simp)
      have hy := run_yield (P := P) (args := encs x) hl (by rw [hrec]; simp [hps])
      rw [hrec] at hy
      refine ⟨fn, _, assign, body, hy, roundIn_of_wpIn trivial ?_⟩
      have hW' : St B w0 W (C ++ (Reg.box (w.heap.size + 1) (.loop (rec .ready none)) :: Reg.box w.heap.size (.deferred (some [])) :: I)) := by
        have := hW
        simp only [List.cons_append] at this
        refine St.unmid ?_
        refine this.perm ?_
        exact (List.perm_middle (l₁ := C)).symm.cons _
      refine wpIn_mono (hassign _ pre x W _ C hpre hC hW') ?_
      rintro e a₁ w₁ hp
      cases e with
      | normal =>
        obtain ⟨C₁, hAs, hW1'⟩ := hp
        have hl1 : w₁.heap[w.heap.size + 1]? = some (.loop (rec .ready none)) := hW1'.get (by simp)
        refine ⟨_, run_beginRound hl1 (by rw [hrec]), ?_⟩
        have hW2 : St B w0 (w₁.putObj (w.heap.size + 1) (.loop { rec .ready none with state := .busy })) (C₁ ++ (Reg.box (w.heap.size + 1) (.loop { rec .ready none with state := .busy }) :: Reg.box w.heap.size (.deferred (some [])) :: I)) :=
          (hW1'.mid.updHead (Upd.putObj _ hl1)).unmid
        refine wpIn_mono (hbody _ pre x a₁ _ _ C₁ hpre hAs hW2) ?_
        have fin : ∀ (jump : Option Code) (W3 : World) (C' : List Reg), St B w0 W3 (C' ++ (Reg.box (w.heap.size + 1) (.loop { rec .ready none with state := .busy }) :: Reg.box w.heap.size (.deferred (some [])) :: I)) →
            (Instr.endRound (w.heap.size + 1) jump).run P W3 = .ok (.bool jump.isNone) (W3.putObj (w.heap.size + 1) (.loop (rec (if jump.isNone then .ready else .done) jump))) ∧
            St B w0 (W3.putObj (w.heap.size + 1) (.loop (rec (if jump.isNone then .ready else .done) jump))) ((Reg.box (w.heap.size + 1) (.loop (rec (if jump.isNone then .ready else .done) jump)) :: Reg.box w.heap.size (.deferred (some [])) :: C') ++ I) := fun jump W3 C' h3 => by
          have hl3 : W3.heap[w.heap.size + 1]? = some (.loop { rec .ready none with state := .busy }) := h3.get (by simp)
          have h4 := run_endRound (P := P) jump hl3
          refine ⟨by rw [hrec] at h4 ⊢; exact h4, ?_⟩
          have h5 := h3.mid.updHead (Upd.putObj (.loop (rec (if jump.isNone then .ready else .done) jump)) hl3)
          simp only [List.cons_append]
          exact h5.perm ((List.perm_middle (l₁ := C')).cons _)
        rintro e a3 W3 hp3
        cases e with
        | normal =>
          obtain ⟨C', hC', h3⟩ := hp3
          obtain ⟨f1, f2⟩ := fin none W3 C' h3
          exact ⟨_, _, f1, .inl ⟨rfl, _, ⟨C', hC', rfl⟩, f2⟩⟩
        | ret =>
          obtain ⟨C', hC', h3⟩ := hp3
          obtain ⟨f1, f2⟩ := fin (some .ret) W3 C' h3
          exact ⟨_, _, f1, .inr ⟨rfl, _, ⟨.ret, C', hC', rfl⟩, f2⟩⟩
        | exit id =>
          obtain ⟨C', hC', h3⟩ := hp3
          obtain ⟨f1, f2⟩ := fin (some (.exit id)) W3 C' h3
          exact ⟨_, _, f1, .inr ⟨rfl, _, ⟨.exit id, C', hC', rfl⟩, f2⟩⟩
        | goto t =>
          obtain ⟨C', hC', h3⟩ := hp3
          obtain ⟨f1, f2⟩ := fin (some (.goto t)) W3 C' h3
          exact ⟨_, _, f1, .inr ⟨rfl, _, ⟨.goto t, C', hC', rfl⟩, f2⟩⟩
        | panic ch => exact hp3.elim
        | outgrown => exact hp3.elim
      | exit id => exact hp.elim
      | goto t => exact hp.elim
      | ret => exact hp.elim
      | panic ch => exact hp.elim
      | outgrown => exact hp.elim
    · refine hs1.perm ?_
      refine List.Perm.trans ?_ List.perm_append_comm
      simp only [List.cons_append]
      exact (List.perm_append_comm.cons _).cons _
    · rintro e W2 ⟨⟨v, rfl⟩, (⟨C', ⟨C, hC, rfl⟩, h2⟩ | ⟨pre, C', hpre, ⟨c, C, hC, rfl⟩, h2⟩)⟩
      · have hl : W2.heap[w.heap.size + 1]? = some (.loop (rec .ready none)) := h2.get0
        refine ⟨none, _, by have := run_endLoop (P := P) hl (by rw [hrec]; simp); rw [hrec] at this; exact this, ?_⟩
        exact hdone _ C _ hC ((h2.updHead (Upd.putObj _ hl)).drop)
      · have hl : W2.heap[w.heap.size + 1]? = some (.loop (rec .done (some c))) := h2.get0
        refine ⟨some c, _, by have := run_endLoop (P := P) hl (by rw [hrec]; simp); rw [hrec] at this; exact this, ?_⟩
        exact hstop _ c pre C _ hpre hC ((h2.updHead (Upd.putObj _ hl)).drop)

theorem enters_of' {f : FuncId} {fn : Func} {c : Code} (hf : P.funcs[f]? = some fn) (hname : (fn.name == "runtime.NumGoroutine") = false) (hb : fn.body = some c) : ∀ args w, (callFunc f args).run P w = .ok (.enter f args) w := by
  intro args w
  have h1 : fn.name ≠ "runtime.NumGoroutine" := by simpa using hname
  simp [callFunc, hf, h1, hb, mark]
/-- A function that holds a range over a function, on its way out: the mark is taken up. -/
theorem leaves_mark {fn : Func} {R : Ending → World → Prop} {tmps : Array Value} {W : World} {D : Nat} {B : Nat} {w0 : World} {C : List Reg} {v : Value} (h : St B w0 W (Reg.box D (.deferred (some [])) :: C))
    (hr : ∀ W', St B w0 W' C → (results fn tmps).run P W' = .ok v W' ∧ R (.returned v) W') :
    LeavesInM Fence.wide 0 P fn tmps R [{ target := .collected D, args := #[] }] .returning W := by
  have hk : W.heap[D]? = some (.deferred (some [])) := h.get0
  refine ⟨by simp, .inl ⟨D, _, rfl, run_takeDeferred hk, ?_⟩⟩
  obtain ⟨h1, h2⟩ := hr _ (h.updHead (Upd.putObj (.deferred none) hk)).drop
  exact ⟨v, h1, h2⟩
end Go.Proofs.Ytkhlhnpoieolhaa
