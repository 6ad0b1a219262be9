/-
  Words of my own: append to a row of the call's own, told by St's list.
-/
import Derived.Test.YtkhlhnpoieolhaaRd
import Derived.OwnWalkIn
namespace Go.Proofs.Ytkhlhnpoieolhaa
open Go.RowKit

section
variable {P : Program} {B : Nat} {w0 W : World} {L : List Reg} {lo hi : Nat} {v : Value} {e : TypeId} {sz k : Nat} {xs : List Value}

/-- The run of an append of one element that has just been laid into a block of its own. -/
theorem run_append1 (t ty : TypeId) (z : Value) (bytes : Nat) (ht : P.underlying t = some (.slice e)) (hinfo : (P.info? e).map (fun i => (i.zero, i.size, i.bytes)) = some (some z, sz, bytes)) (hz : z.cells.size = sz) (hsz : 0 < sz)
    (HS : St B w0 W (Reg.row lo hi v e sz k xs :: L)) (cs : Array Value) (hcs : cs.size = sz) (h1 : ∀ u ∈ cs.toList, u.oneCell' = true) (hk : k + 1 ≤ maxLen) (hb : (k + 1) * bytes ≤ 140737488355328) :
    ∃ g cap w' lo' hi', (Builtin.append_ #[t, t] ty #[v, .slice (some ⟨W.heap.size, 0, none⟩) 1 1]).run P (W.alloc (.cells cs e)) = .ok (.slice (some ⟨g, 0, none⟩) (k + 1) cap) w' ∧
      St B w0 w' (Reg.row lo' hi' (.slice (some ⟨g, 0, none⟩) (k + 1) cap) e sz (k + 1) (xs ++ cs.toList) :: L) ∧ k + 1 ≤ cap := by
  obtain ⟨i0, hi0, hzz⟩ := Option.map_eq_some_iff.1 hinfo
  simp only [Prod.mk.injEq] at hzz
  obtain ⟨hz0, hz1, hz2⟩ := hzz
  have hA := HS.reg0
  have HS1 := HS.ext ((Below.refl W.heap.size W).alloc (Nat.le_refl _) (.cells cs e))
  have hr := HS.each _ (List.mem_cons_self ..)
  obtain ⟨v', w', hrun, hown, hg, -, hat⟩ := run_append_own_at (P := P) (W.alloc (.cells cs e)) lo t ty e i0 z sz bytes ht hi0 hz0 hz1 hz2 hz hsz v k xs (hA.1.alloc _) ⟨W.heap.size, 0, none⟩ 1 1 cs.toList (by simp [hcs])
    (fun j u hu => by
      have ha : (⟨W.heap.size, 0, none⟩ : Addr).add j = ⟨W.heap.size, j, none⟩ := by unfold Addr.add; split <;> simp_all
      rw [ha, blk_cell (heap_alloc_new W _)]
      simpa using hu) h1 hk hb (by have := hr.2.1; have := hr.2.2.1; simp; simp only [Reg.row] at *; omega)
  obtain ⟨lo', hi', hst⟩ := HS1.appended hown hg hat
  rcases hown.2 with ⟨_, h0⟩ | ⟨g, cap, cur, rfl, _, _, hc, _⟩
  · omega
  · exact ⟨g, cap, w', lo', hi', hrun, hst, hc⟩

variable {ops : Array Oper} {rest : List Oper} {o : Oper} {a : Act} {Q : Exit → Act → World → Prop}
theorem wpList_append1 (hgd : o.guard = none) (s x : Operand) (t : TypeId) (ho : o.op = .call { callee := .builtin .append, args := #[s, x], argTypes := #[t, t] })
    (z : Value) (bytes : Nat) (ht : P.underlying t = some (.slice e)) (hinfo : (P.info? e).map (fun i => (i.zero, i.size, i.bytes)) = some (some z, sz, bytes)) (hz : z.cells.size = sz) (hsz : 0 < sz)
    (HS : St B w0 W (Reg.row lo hi v e sz k xs :: L)) (cs : Array Value) (hs : a.eval s = v) (hx : a.eval x = .slice (some ⟨W.heap.size, 0, none⟩) 1 1) (hcs : cs.size = sz) (h1 : ∀ u ∈ cs.toList, u.oneCell' = true) (hk : k + 1 ≤ maxLen) (hb : (k + 1) * bytes ≤ 140737488355328)
    (h : ∀ g cap w' lo' hi', St B w0 w' (Reg.row lo' hi' (.slice (some ⟨g, 0, none⟩) (k + 1) cap) e sz (k + 1) (xs ++ cs.toList) :: L) → k + 1 ≤ cap → wpList P ops Q rest (a.put o.dst (.slice (some ⟨g, 0, none⟩) (k + 1) cap)) w') :
    wpList P ops Q (o :: rest) a (W.alloc (.cells cs e)) := by
  refine wpList_plain hgd fun K hK => ?_
  obtain ⟨g, cap, w', lo', hi', hrun, hst, hc⟩ := run_append1 (P := P) t o.type z bytes ht hinfo hz hsz HS cs hcs h1 hk hb
  unfold Oper.wp
  simp [execOp, ho, resolve, invoke, builtin, hs, hx, hrun, Result.andThen]
  exact hK _ _ (h g cap w' lo' hi' hst hc)
theorem wpListIn_append1 {F : Fence} {n : Nat} (hgd : o.guard = none) (s x : Operand) (t : TypeId) (ho : o.op = .call { callee := .builtin .append, args := #[s, x], argTypes := #[t, t] })
    (z : Value) (bytes : Nat) (ht : P.underlying t = some (.slice e)) (hinfo : (P.info? e).map (fun i => (i.zero, i.size, i.bytes)) = some (some z, sz, bytes)) (hz : z.cells.size = sz) (hsz : 0 < sz)
    (HS : St B w0 W (Reg.row lo hi v e sz k xs :: L)) (cs : Array Value) (hs : a.eval s = v) (hx : a.eval x = .slice (some ⟨W.heap.size, 0, none⟩) 1 1) (hcs : cs.size = sz) (h1 : ∀ u ∈ cs.toList, u.oneCell' = true) (hk : k + 1 ≤ maxLen) (hb : (k + 1) * bytes ≤ 140737488355328)
    (h : ∀ g cap w' lo' hi', St B w0 w' (Reg.row lo' hi' (.slice (some ⟨g, 0, none⟩) (k + 1) cap) e sz (k + 1) (xs ++ cs.toList) :: L) → k + 1 ≤ cap → wpListIn F n P ops Q rest (a.put o.dst (.slice (some ⟨g, 0, none⟩) (k + 1) cap)) w') :
    wpListIn F n P ops Q (o :: rest) a (W.alloc (.cells cs e)) := by
  refine wpListIn_plain hgd fun K hK => ?_
  obtain ⟨g, cap, w', lo', hi', hrun, hst, hc⟩ := run_append1 (P := P) t o.type z bytes ht hinfo hz hsz HS cs hcs h1 hk hb
  unfold Oper.wpIn
  refine ⟨?_, ?_⟩
  · simp [Oper.about, ho, resolve, Target.leads, Sem.run_pure]
  · rw [Oper.semAt_plain F _ _ (by rw [ho]; intro c hc'; cases hc')]
    simp [execOp, ho, resolve, invoke, builtin, hs, hx, hrun, Result.andThen]
    exact hK _ _ (h g cap w' lo' hi' hst hc)
end
end Go.Proofs.Ytkhlhnpoieolhaa
