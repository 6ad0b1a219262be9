/-
  The walk of the arbiter's Grants.
-/
import Derived.Test.YtkhlhnpoieolhaaRun
namespace Go.Proofs.Ytkhlhnpoieolhaa
open Go.RowKit
set_option linter.unusedSimpArgs false
set_option linter.unusedVariables false


attribute [local go_sem] Oper.semAt_some
/-- The cells that a step turned. -/
def grantsL (l : List (CL × AL)) : List CL := (l.filter fun x => decide (¬ (x.1.c = x.2.c.c ∧ x.1.h = x.2.c.h))).map fun x => x.2.c
theorem grantsL_snoc (l : List (CL × AL)) (x : CL × AL) : grantsL (l ++ [x]) = if x.1.c = x.2.c.c ∧ x.1.h = x.2.c.h then grantsL l else grantsL l ++ [x.2.c] := by
  by_cases h : x.1.c = x.2.c.c ∧ x.1.h = x.2.c.h
  · rw [if_pos h]; simp [grantsL, h]
  · rw [if_neg h]; simp only [grantsL, List.filter_append, List.map_append, List.filter_cons, List.filter_nil, decide_not, h, decide_false, Bool.not_false, if_true, List.map_cons, List.map_nil]
theorem grantsL_len (l : List (CL × AL)) : (grantsL l).length ≤ l.length := by
  simp only [grantsL, List.length_map]; exact List.length_filter_le _ _
def GraCal (b2 b5 : Nat) (c0 : CL) (pre : List (CL × AL)) (C : List Reg) : Prop :=
  ∃ v lo hi, C = [Reg.row lo hi v 25 2 (grantsL pre).length ((grantsL pre).flatMap clC), Reg.box b5 (.cells #[v] 32), Reg.box b2 (clO c0)]
set_option maxRecDepth 100000 in
set_option maxHeartbeats 1000000 in
theorem grants_any (c : CL) (ps : List PL) (a : Option Addr) (n cap : Nat) (w : World) (hc : clOk c) (hps : Rd plC 3 w a n ps) (hn : n ≤ 1000) :
    Calls Try.prog 17 #[clV c, .slice a n cap] w fun e w' => ∃ v lo hi, e = .returned v ∧ St w.heap.size w w' [Reg.row lo hi v 25 2 (grantsL (askedL c ps)).length ((grantsL (askedL c ps)).flatMap clC)] := by
  have hlen := askedL_len c ps
  rw [hps.1] at hlen
  refine (callsIn_wide (n := 0)).1 ?_
  have Hc := Lib.hid hc
  have HP := Lib.hid hps
  have HS := Lib.hid (St.refl w)
  have HLEN := Lib.hid hlen
  clear hc hps hlen
  refine callsIn_of_wp_marks Try.func17 rfl trivial ?_ rfl
  simp only [Try.ntmps17, List.size_toArray, List.length_cons, List.length_nil, Nat.reduceAdd, Nat.reduceSub, Array.replicate_succ, Array.replicate_zero, List.push_toArray, List.append_toArray, List.nil_append, List.cons_append]
  gi_wp2_with fail
  refine ⟨trivial, rfl, ?_⟩
  refine CallsIn.mono (callsIn_wide.2 (asked_any c _ _ _ _)) ?_
  rintro en w2 ⟨rfl, rfl⟩
  gi_wp2_with fail
  have hs2 := (((((HS.out.alloc (clO c)).alloc (.cells #[.slice none 0 0] 32)).alloc (clO c)).alloc (.cells #[.slice a n cap] 30)).rowNil 25 2).down2
  simp only [World.size_alloc] at hs2
  have HS2 := Lib.hid hs2
  clear hs2 HS
  refine rangeFunc_st (gf := 113) rfl (enters_of' Try.func113 (by kernel_rfl) rfl) (asked_iter w.heap.size w _ _ a n cap c ps Hc.out HP.out rfl) (fun _ => rfl)
    (GraCal w.heap.size (w.heap.size + 1) c) (fun _ _ _ => False) ⟨_, _, _, rfl⟩ HS2.out
    (fun a pre x a₁ C₁ => ∃ b6 b7 C, GraCal w.heap.size (w.heap.size + 1) c pre C ∧ C₁ = Reg.box b7 (alO x.2) :: Reg.box b6 (clO x.1) :: C ∧ a₁ = { tmps := (((a.tmps.setIfInBounds 11 (clV x.1)).setIfInBounds 12 (alV x.2)).setIfInBounds 6 (.pointer (some ⟨b6, 0, none⟩))).setIfInBounds 7 (.pointer (some ⟨b7, 0, none⟩)), defers := [] }) ?_ ?_ ?_ ?_

  · rintro l pre x W I C hpre hC hW
    dsimp only [pairV, clV, alV]
    gi_wp2
    have hW2 := (hW.alloc (clO x.1)).alloc (alO x.2)
    rw [World.size_alloc] at hW2
    exact ⟨_, ⟨_, _, C, hC, rfl, rfl⟩, hW2⟩
  · rintro l pre x a₁ W I C₁ hpre ⟨b6, b7, C, ⟨v, lo, hi, rfl⟩, rfl, rfl⟩ hW
    simp only [List.setIfInBounds_toArray, List.set_cons_zero, List.set_cons_succ]
    have HS := Lib.hid hW
    clear hW
    obtain ⟨x_0, x_1, x_2, x_3, x_4, x_5, x_f, x_l⟩ := cells6 (St.get0 HS.out)
    obtain ⟨y_0, y_1, y_f, y_l⟩ := cells2 (St.get1 HS.out)
    obtain ⟨o_0, o_f, o_l⟩ := cells1 (St.get3 HS.out)
    obtain ⟨c_0, c_1, c_f, c_l⟩ := cells2 (St.get4 HS.out)
    have n1 := St.ne03 HS.out
    have n2 := St.ne13 HS.out
    have hk : (grantsL pre).length + 1 ≤ 1000 := by have h1 := hpre.length_le; have h2 := HLEN.out; have h3 := grantsL_len pre; simp at h1; omega
    have hd := grantsL_snoc pre x
    by_cases hx : x.1.c = x.2.c.c
    · by_cases hy : x.1.h = x.2.c.h
      · rw [if_pos ⟨hx, hy⟩] at hd
        gi_wp2_with fail
        refine ⟨_, ⟨v, lo, hi, by rw [hd]⟩, HS.out.drop.drop⟩
      · rw [if_neg (fun h => hy h.2)] at hd
        gi_wp2_with (gi_at_builtin; refine wpListIn_append1 rfl _ _ _ rfl _ 16 Try.underlying32 Try.info25 rfl (by decide) HS.out.up2 _ rfl rfl rfl (by simp [Value.oneCell']) (by unfold maxLen; omega) (by omega) ?_; intro g cap2 w4 lo2 hi2 hst hcap; obtain ⟨y_0, y_f, y_l⟩ := cells1 hst.get3; replace hst := Lib.hid hst)
        refine ⟨_, ⟨(.slice (some ⟨g, 0, none⟩) ((grantsL pre).length + 1) cap2), lo2, hi2, rfl⟩, ?_⟩
        rw [hd, List.length_append, List.flatMap_append, List.flatMap_singleton]
        exact (hst.out.set3 (o := 0) _).up1.drop.up1.drop
    · rw [if_neg (fun h => hx h.1)] at hd
      gi_wp2_with (gi_at_builtin; refine wpListIn_append1 rfl _ _ _ rfl _ 16 Try.underlying32 Try.info25 rfl (by decide) HS.out.up2 _ rfl rfl rfl (by simp [Value.oneCell']) (by unfold maxLen; omega) (by omega) ?_; intro g cap2 w4 lo2 hi2 hst hcap; obtain ⟨y_0, y_f, y_l⟩ := cells1 hst.get3; replace hst := Lib.hid hst)
      refine ⟨_, ⟨(.slice (some ⟨g, 0, none⟩) ((grantsL pre).length + 1) cap2), lo2, hi2, rfl⟩, ?_⟩
      rw [hd, List.length_append, List.flatMap_append, List.flatMap_singleton]
      exact (hst.out.set3 (o := 0) _).up1.drop.up1.drop
  · rintro D C W ⟨v, lo, hi, rfl⟩ hW
    have HS := Lib.hid hW
    clear hW
    obtain ⟨o_0, o_f, o_l⟩ := cells1 (St.get2 HS.out)
    obtain ⟨c_0, c_1, c_f, c_l⟩ := cells2 (St.get3 HS.out)
    gi_wp2_with fail
    refine leaves_mark (D := D) (v := v) (HS.out) ?_
    intro W' h'
    refine ⟨by simp [results, Try.results17, go_sem], ⟨v, lo, hi, rfl, h'.sub (by simp)⟩⟩
  · rintro D c pre C W _ h _
    exact h.elim
end Go.Proofs.Ytkhlhnpoieolhaa
