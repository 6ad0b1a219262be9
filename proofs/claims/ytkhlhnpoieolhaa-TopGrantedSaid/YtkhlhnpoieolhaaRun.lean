/-
  The walks of the arbiter's Run and Grants.
-/
import Derived.Test.YtkhlhnpoieolhaaIter
import Derived.Test.YtkhlhnpoieolhaaAp
namespace Go.Proofs.Ytkhlhnpoieolhaa
open Go.RowKit
set_option linter.unusedSimpArgs false
set_option linter.unusedVariables false


attribute [local go_sem] Oper.semAt_some
theorem Try.info38 : (Try.prog.info? 38).map (fun i => (i.zero, i.size, i.bytes)) = some (some (.agg #[.int .i64 0, .int .u64 0, .int .u64 0, .bool false, .int .u64 0, .int .i64 0]), 6, 48) := by kernel_rfl
theorem Try.info25 : (Try.prog.info? 25).map (fun i => (i.zero, i.size, i.bytes)) = some (some (.agg #[.int .u64 0, .int .i64 0]), 2, 16) := by kernel_rfl
theorem askedL_len (c : CL) (ps : List PL) : (askedL c ps).length ≤ ps.length := by
  induction ps generalizing c with
  | nil => simp [askedL]
  | cons p ps ih =>
    simp only [askedL]
    split
    · simpa using ih _
    · exact Nat.le_trans (ih _) (by simp)
/-- The answers, and the cell behind them all. -/
def runC (c : CL) (l : List (CL × AL)) : CL := l.foldl (fun _ x => x.2.c) c
theorem runC_snoc (c : CL) (l : List (CL × AL)) (x : CL × AL) : runC c (l ++ [x]) = x.2.c := by simp [runC]
def ansC (l : List (CL × AL)) : List Value := l.flatMap fun x => alC x.2
theorem ansC_snoc (l : List (CL × AL)) (x : CL × AL) : ansC (l ++ [x]) = ansC l ++ alC x.2 := by simp [ansC]
def zC : CL := ⟨0, 0⟩
abbrev clO (c : CL) : Obj := .cells #[.int .u64 c.c, .int .i64 c.h] 25
abbrev alO (x : AL) : Obj := .cells #[.int .i64 x.p.n, .int .u64 x.p.e, .int .u64 x.p.b, .bool x.g, .int .u64 x.c.c, .int .i64 x.c.h] 38
def RunCal (b2 b4 b8 : Nat) (c0 : CL) (pre : List (CL × AL)) (C : List Reg) : Prop :=
  ∃ v lo hi, C = [Reg.row lo hi v 38 6 pre.length (ansC pre), Reg.box b8 (.cells #[v] 31), Reg.box b4 (clO zC), Reg.box b2 (clO (runC c0 pre))]
set_option maxRecDepth 100000 in
set_option maxHeartbeats 1000000 in
theorem run_any (c : CL) (ps : List PL) (a : Option Addr) (n cap : Nat) (w : World) (hc : clOk c) (hps : Rd plC 3 w a n ps) (hn : n ≤ 1000) :
    Calls Try.prog 14 #[clV c, .slice a n cap] w fun e w' => ∃ v lo hi, e = .returned (.tuple #[clV (runC c (askedL c ps)), v, .int .i64 0]) ∧ St w.heap.size w w' [Reg.row lo hi v 38 6 (askedL c ps).length (ansC (askedL c ps))] := by
  have hlen := askedL_len c ps
  rw [hps.1] at hlen
  refine (callsIn_wide (n := 0)).1 ?_
  have Hc := Lib.hid hc
  have HP := Lib.hid hps
  have HS := Lib.hid (St.refl w)
  have HLEN := Lib.hid hlen
  clear hc hps hlen
  refine callsIn_of_wp_marks Try.func14 rfl trivial ?_ rfl
  simp only [Try.ntmps14, List.size_toArray, List.length_cons, List.length_nil, Nat.reduceAdd, Nat.reduceSub, Array.replicate_succ, Array.replicate_zero, List.push_toArray, List.append_toArray, List.nil_append, List.cons_append]
  gi_wp2_with fail
  refine ⟨trivial, rfl, ?_⟩
  refine CallsIn.mono (callsIn_wide.2 (check_any _ _ _)) ?_
  rintro en w1 ⟨rfl, hb1⟩
  rw [show cellErr c.c c.h = 0 from Hc.out]

  first | have HSm := ((HS.out.alloc _).alloc _).ext hb1 | have HSm := ((HS.out.alloc _).alloc _).drew.ext hb1 | have HSm := (((HS.out.alloc _).alloc _).drewN _).ext hb1 | have HSm := ((HS.out.alloc _).alloc _).drew.drew.ext hb1
  try simp only [World.size_alloc, World.size_setCell, World.size_drew, size_drewN, List.setIfInBounds_toArray, List.set_cons_zero, List.set_cons_succ] at HSm
  have HSn := Lib.hid HSm
  clear HSm
  clear HS
  have HS := HSn
  clear HSn
  obtain ⟨c_0, c_1, c_f, c_l⟩ := cells2 (St.get1 HS.out)
  clear hb1
  gi_wp2_with fail
  refine ⟨trivial, rfl, ?_⟩
  refine CallsIn.mono (callsIn_wide.2 (asked_any c _ _ _ _)) ?_
  rintro en w2 ⟨rfl, rfl⟩
  gi_wp2_with fail
  have hs2 := ((((HS.out.alloc (.cells #[.slice none 0 0] 31)).alloc (clO c)).alloc (.cells #[.slice a n cap] 30)).rowNil 38 6).down2
  simp only [World.size_alloc] at hs2
  clear c_0 c_1 c_f c_l
  have HS2 := Lib.hid hs2
  clear hs2 HS
  refine rangeFunc_st (gf := 113) rfl (enters_of' Try.func113 (by kernel_rfl) rfl) (asked_iter w.heap.size w _ _ a n cap c ps Hc.out HP.out rfl) (fun _ => rfl)
    (RunCal w.heap.size (w.heap.size + 1) w1.heap.size c) (fun _ _ _ => False) ⟨_, _, _, rfl⟩ HS2.out
    (fun a pre x a₁ C₁ => ∃ b10 C, RunCal w.heap.size (w.heap.size + 1) w1.heap.size c pre C ∧ C₁ = Reg.box b10 (alO x.2) :: C ∧ a₁ = { tmps := ((a.tmps.setIfInBounds 20 (clV x.1)).setIfInBounds 21 (alV x.2)).setIfInBounds 10 (.pointer (some ⟨b10, 0, none⟩)), defers := [] }) ?_ ?_ ?_ ?_
  · rintro l pre x W I C hpre hC hW
    dsimp only [pairV, clV, alV]
    gi_wp2
    exact ⟨_, ⟨_, C, hC, rfl, rfl⟩, hW.alloc _⟩
  · rintro l pre x a₁ W I C₁ hpre ⟨b10, C, ⟨v, lo, hi, rfl⟩, rfl, rfl⟩ hW
    simp only [List.setIfInBounds_toArray, List.set_cons_zero, List.set_cons_succ]
    have HS := Lib.hid hW
    clear hW
    obtain ⟨x_0, x_1, x_2, x_3, x_4, x_5, x_f, x_l⟩ := cells6 (St.get0 HS.out)
    obtain ⟨o_0, o_f, o_l⟩ := cells1 (St.get2 HS.out)
    obtain ⟨c_0, c_1, c_f, c_l⟩ := cells2 (St.get4 HS.out)
    have n1 := St.ne04 HS.out
    have n2 := St.ne02 HS.out
    have n3 := St.ne24 HS.out
    have hk : pre.length + 1 ≤ 1000 := by have h1 := hpre.length_le; have h2 := HLEN.out; simp at h1; omega
    gi_wp2_with (gi_at_builtin; refine wpListIn_append1 rfl _ _ _ rfl _ 48 Try.underlying31 Try.info38 rfl (by decide) HS.out.up1 _ rfl rfl rfl (by simp [Value.oneCell']) (by unfold maxLen; omega) (by omega) ?_; intro g cap2 w4 lo2 hi2 hst hcap; obtain ⟨y_0, y_f, y_l⟩ := cells1 hst.get2; obtain ⟨x_0, x_1, x_2, x_3, x_4, x_5, x_f, x_l⟩ := cells6 hst.get1; obtain ⟨z_0, z_1, z_f, z_l⟩ := cells2 hst.get4; replace hst := Lib.hid hst)
    refine ⟨_, ⟨(.slice (some ⟨g, 0, none⟩) (pre.length + 1) cap2), lo2, hi2, rfl⟩, ?_⟩
    rw [List.length_append, ansC_snoc, runC_snoc]
    exact (((hst.out.set2 (o := 0) _).set4 (o := 0) _).set4 (o := 1) _).up1.drop
  · rintro D C W ⟨v, lo, hi, rfl⟩ hW
    have HS := Lib.hid hW
    clear hW
    obtain ⟨o_0, o_f, o_l⟩ := cells1 (St.get2 HS.out)
    obtain ⟨r_0, r_1, r_f, r_l⟩ := cells2 (St.get3 HS.out)
    obtain ⟨c_0, c_1, c_f, c_l⟩ := cells2 (St.get4 HS.out)
    gi_wp2_with fail
    have n3 := St.ne23 HS.out
    gi_region
    all_goals gi_wp2_with fail
    refine leaves_mark (D := D) (v := .tuple #[clV (runC c (askedL c ps)), v, .int .i64 0]) (((HS.out.set3 (o := 0) _).set3 (o := 1) _).drew) ?_
    intro W' h'
    obtain ⟨u_0, u_1, u_f, u_l⟩ := cells2 (St.get2 h')
    refine ⟨by simp [results, Try.results14, go_sem, clV, u_0, u_1], ⟨v, lo, hi, rfl, h'.sub (by simp)⟩⟩
  · rintro D c pre C W _ h _
    exact h.elim
end Go.Proofs.Ytkhlhnpoieolhaa
