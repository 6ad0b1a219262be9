/-
  The walks of the arbiter's iterator: the answers to pleas, one behind the other.
-/
import Derived.Test.YtkhlhnpoieolhaaCell
import Derived.Test.YtkhlhnpoieolhaaEq
import Derived.Test.YtkhlhnpoieolhaaRf
namespace Go.Proofs.Ytkhlhnpoieolhaa
open Go.RowKit
set_option linter.unusedSimpArgs false
set_option linter.unusedVariables false


attribute [local go_sem] Oper.semAt_some
/-- The cell behind a plea; whether it is granted; the answer. -/
def askN (c : CL) (p : PL) : CL := if c.c = p.e ∧ epochB (p.e + 1) = true then ⟨c.c + 1, p.n⟩ else c
def askG (c : CL) (p : PL) : Bool := decide ((c.c = p.e ∧ epochB (p.e + 1) = true) ∨ (c.c = p.e + 1 ∧ c.h = p.n))
def askA (c : CL) (p : PL) : AL := ⟨p, askG c p, askN c p⟩
abbrev clV (c : CL) : Value := .agg #[.int .u64 c.c, .int .i64 c.h]
abbrev plV (p : PL) : Value := .agg #[.int .i64 p.n, .int .u64 p.e, .int .u64 p.b]
abbrev alV (x : AL) : Value := .agg #[.int .i64 x.p.n, .int .u64 x.p.e, .int .u64 x.p.b, .bool x.g, .int .u64 x.c.c, .int .i64 x.c.h]
def clOk (c : CL) : Prop := cellErr c.c c.h = 0
def plOk (p : PL) : Prop := pleaErr p.n p.e p.b = 0
theorem clOk.bd {c : CL} (h : clOk c) : 1 ≤ c.c ∧ c.c ≤ 1099511627776 ∧ nodeB c.h = true := by
  simp only [clOk, cellErr] at h
  split at h
  · rename_i h1
    simp [epochB] at h1
    exact ⟨h1.1.1, h1.1.2, h1.2⟩
  · cases h
theorem plOk.bd {p : PL} (h : plOk p) : 1 ≤ p.e ∧ p.e ≤ 1099511627776 ∧ nodeB p.n = true := by
  simp only [plOk, pleaErr] at h
  split at h
  · rename_i h1
    simp [epochB] at h1
    exact ⟨h1.1.2.1, h1.1.2.2, h1.1.1⟩
  · cases h
theorem askN_ok {c : CL} {p : PL} (hc : clOk c) (hp : plOk p) : clOk (askN c p) := by
  unfold askN
  split
  · rename_i h
    have := hp.bd.2.2
    have h2 := h.2
    rw [← h.1] at h2
    simp [clOk, cellErr, this, h2]
  · exact hc
theorem ask_good (c : CL) (p : PL) (w : World) (hc : clOk c) (hp : plOk p) :
    Calls Try.prog 11 #[clV c, plV p] w fun en w' => en = .returned (.tuple #[clV (askN c p), alV (askA c p), .int .i64 0]) ∧ Below w.heap.size w w' := by
  obtain ⟨c1, c2, c3⟩ := hc.bd
  obtain ⟨p1, p2, p3⟩ := hp.bd
  by_cases h1 : c.c = p.e ∧ epochB (p.e + 1) = true
  · have := ask_granted c.c c.h p.n p.e p.b w hc hp p1 p2 c1 c2 (by simp [comesV, h1])
    have e1 : askN c p = ⟨c.c + 1, p.n⟩ := by simp only [askN]; rw [if_pos h1]
    have e2 : askG c p = true := by simp only [askG]; exact decide_eq_true (.inl h1)
    simp only [askA, e1, e2]
    exact this
  · by_cases h2 : c.c = p.e + 1 ∧ c.h = p.n
    · have := ask_had c.c c.h p.n p.e p.b w hc hp p1 p2 c1 c2 (by simp only [comesV]; rw [if_neg h1, if_pos h2])
      have e1 : askN c p = c := by simp only [askN]; rw [if_neg h1]
      have e2 : askG c p = true := by simp only [askG]; exact decide_eq_true (.inr h2)
      simp only [askA, e1, e2]
      exact this
    · have := ask_refused c.c c.h p.n p.e p.b w hc hp p1 p2 c1 c2 (by simp only [comesV]; rw [if_neg h1, if_neg h2])
      have e1 : askN c p = c := by simp only [askN]; rw [if_neg h1]
      have e2 : askG c p = false := by simp only [askG]; exact decide_eq_false (fun h => h.elim h1 h2)
      simp only [askA, e1, e2]
      exact this
theorem pleaErr_or (n e b : Int) : pleaErr n e b = 0 ∨ pleaErr n e b = 2 := by
  simp only [pleaErr]
  split <;> simp
instance (p : PL) : Decidable (plOk p) := inferInstanceAs (Decidable (_ = _))
/-- What the iterator tells. -/
def askedL : CL → List PL → List (CL × AL)
  | _, [] => []
  | c, p :: ps => if plOk p then (c, askA c p) :: askedL (askN c p) ps else askedL c ps
def pairV (x : CL × AL) : Array Value := #[clV x.1, alV x.2]
set_option maxHeartbeats 400000 in
theorem asked_any (c : CL) (a : Option Addr) (n cap : Nat) (w : World) : Calls Try.prog 65 #[clV c, .slice a n cap] w fun e w' =>
    e = .returned (.func (.func 113) #[] #[.pointer (some ⟨w.heap.size + 1, 0, none⟩), .pointer (some ⟨w.heap.size, 0, none⟩)]) ∧ (w.alloc (.cells #[.int .u64 c.c, .int .i64 c.h] 25)).alloc (.cells #[.slice a n cap] 30) = w' := by
  go_enter Try.func65, Try.ntmps65
  go_wp2
  go_ret
  exact ⟨rfl, rfl⟩


set_option maxRecDepth 100000 in
set_option maxHeartbeats 1000000 in
theorem asked_iter (B : Nat) (w0 : World) (bl bc : Nat) (a : Option Addr) (n cap : Nat) (c : CL) (ps : List PL) (hc : clOk c) (hps : Rd plC 3 w0 a n ps) (hB : B = w0.heap.size) :
    IterC Try.prog 113 #[.pointer (some ⟨bl, 0, none⟩), .pointer (some ⟨bc, 0, none⟩)] B w0 pairV [Reg.box bl (.cells #[.slice a n cap] 30), Reg.box bc (.cells #[.int .u64 c.c, .int .i64 c.h] 25)] (askedL c ps) := by
  intro l Cal Calx hY C W hC hW
  have HC := Lib.hid hc
  have HP := Lib.hid hps
  have HY := Lib.hid hY
  have hmax := hps.2.1
  unfold maxLen at hmax
  clear hc hps hY
  refine callsIn_of_wp Try.func113 rfl trivial ?_ rfl
  simp only [Try.ntmps113, List.size_toArray, List.length_cons, List.length_nil, Nat.reduceAdd, Nat.reduceSub, Array.replicate_succ, Array.replicate_zero, List.push_toArray, List.append_toArray, List.nil_append, List.cons_append]
  obtain ⟨l_0, l_f, l_l⟩ := cells1 hW.get0
  have HS := Lib.hid hW
  clear hW
  gi_wp2
  gi_loopw [11] (fun u wr => ∃ (k : Nat) (pre : List (CL × AL)) (c' : CL) (C' : List Reg), k ≤ n ∧ u = .int .i64 k ∧ clOk c' ∧ askedL c ps = pre ++ askedL c' (ps.drop k) ∧ Cal pre C' ∧ St B w0 wr (Reg.box bl (.cells #[.slice a n cap] 30) :: Reg.box bc (.cells #[.int .u64 c'.c, .int .i64 c'.h] 25) :: C')) (fun u _ => n - (intOf u).toNat)
  case atStart => exact ⟨0, [], c, C, Nat.zero_le _, rfl, HC.out, rfl, hC, HS.out⟩
  case round =>
    obtain ⟨k, pre, c', C', hk, rfl, hc', hx, hCal, hst⟩ := hrel
    clear HS l_0 l_f l_l hC
    have HS := Lib.hid hst
    have HX := Lib.hid hx
    clear hst hx
    by_cases hlt : k < n
    · obtain ⟨b1, o1, rfl, hc1⟩ := (HP.out.below (hB ▸ HS.out.below)).2.2 (by omega)
      obtain ⟨p, hp⟩ : ∃ p, ps[k]? = some p := ⟨_, List.getElem?_eq_getElem (by rw [HP.out.1]; exact hlt)⟩
      have f0 : wr.cell? ⟨b1, o1 + k * 3, none⟩ = some (.int .i64 p.n) := hc1 k p hp 0 _ rfl
      have f1 : wr.cell? ⟨b1, o1 + k * 3 + 1, none⟩ = some (.int .u64 p.e) := hc1 k p hp 1 _ rfl
      have f2 : wr.cell? ⟨b1, o1 + k * 3 + 2, none⟩ = some (.int .u64 p.b) := hc1 k p hp 2 _ rfl
      have HPk := Lib.hid hp
      clear hc1 hp
      obtain ⟨bc_0, bc_1, bc_f, bc_l⟩ := cells2 HS.out.get1

      gi_wp2_with fail
      refine ⟨trivial, rfl, ?_⟩
      by_cases hok : plOk p
      · refine CallsIn.mono (callsIn_wide.2 (ask_good c' p _ hc' hok)) ?_
        rintro en w1 ⟨rfl, hb1⟩
        first | have HSm := (HS.out.alloc _).ext hb1 | have HSm := (HS.out.alloc _).drew.ext hb1 | have HSm := ((HS.out.alloc _).drewN _).ext hb1 | have HSm := (HS.out.alloc _).drew.drew.ext hb1
        try simp only [World.size_alloc, World.size_setCell, World.size_drew, size_drewN, List.setIfInBounds_toArray, List.set_cons_zero, List.set_cons_succ] at HSm
        have HSn := Lib.hid HSm
        clear HSm
        clear bc_0 bc_1 bc_f bc_l
        clear HS
        have HS := HSn
        clear HSn
        obtain ⟨p_0, p_1, p_2, p_f, p_l⟩ := cells3 (St.get0 HS.out)
        obtain ⟨bl_0, bl_f, bl_l⟩ := cells1 (St.get1 HS.out)
        obtain ⟨bc_0, bc_1, bc_f, bc_l⟩ := cells2 (St.get2 HS.out)
        clear hb1
        gi_wp2_with fail
        have hd : ps.drop k = p :: ps.drop (k + 1) := by rw [List.drop_eq_getElem_cons (by rw [HP.out.1]; exact hlt)]; congr 1; exact (List.getElem?_eq_some_iff.1 HPk.out).2
        have hx2 : askedL c ps = (pre ++ [(c', askA c' p)]) ++ askedL (askN c' p) (ps.drop (k + 1)) := by rw [HX.out, hd, askedL, if_pos hok]; simp
        have hs2 := (HS.out.alloc (.cells #[.int .u64 (askN c' p).c, .int .i64 (askN c' p).h] 25)).alloc (.cells #[.int .i64 (askA c' p).p.n, .int .u64 (askA c' p).p.e, .int .u64 (askA c' p).p.b, .bool (askA c' p).g, .int .u64 (askA c' p).c.c, .int .i64 (askA c' p).c.h] 38)
        simp only [World.size_alloc] at hs2
        have hs3 : St B w0 _ (C' ++ [_, _, _, _, _]) := hs2.perm (List.perm_append_comm (l₁ := [_, _, _, _, _]))
        obtain ⟨fn, tmps, assign, body, hy, hR⟩ := HY.out pre (c', askA c' p) _ _ C' ⟨_, hx2.symm⟩ hCal hs3
        dsimp only [pairV, clV, alV] at hy
        have HR := Lib.hid hR
        clear hR hs2 hs3
        clear p_0 p_1 p_2 p_f p_l bl_0 bl_f bl_l bc_0 bc_1 bc_f bc_l
        have HX2 := Lib.hid hx2
        clear hx2 hd HX HS
        rw [hy, Oper.uponIn_round]
        clear hy
        refine ⟨fun h => (by cases h), ?_⟩
        refine RoundIn.mono HR.out ?_
        rintro e W2 (⟨rfl, C2, hC2, hst⟩ | ⟨rfl, C2, hC2, hst⟩)
        · have HS := Lib.hid (hst.perm (List.perm_append_comm (l₂ := [_, _, _, _, _])))
          clear hst
          obtain ⟨xc_0, xc_1, xc_f, xc_l⟩ := cells2 (St.get1 HS.out)
          obtain ⟨bc_0, bc_1, bc_f, bc_l⟩ := cells2 (St.get4 HS.out)
          have n1 := St.ne14 HS.out
          gi_wp2_with fail
          refine ⟨⟨k + 1, _, askN c' p, C2, by omega, by go_num, askN_ok hc' hok, HX2.out, hC2, ?_⟩, by simp [intOf]; omega⟩
          exact ((HS.out.set4 _).set4 _).drop.drop.drop
        · gi_wp2_with fail
          refine bodyPost_ret (results_none rfl _ _ _) rfl ⟨⟨_, rfl⟩, .inr ⟨_, C2, ⟨_, HX2.out.symm⟩, hC2, hst.sub (List.sublist_append_left _ _)⟩⟩
      · refine CallsIn.mono (callsIn_wide.2 (ask_bad c'.c c'.h p.n p.e p.b _ hc' ((pleaErr_or _ _ _).resolve_left hok))) ?_
        rintro en w1 ⟨rfl, hb1⟩
        first | have HSm := (HS.out.alloc _).ext hb1 | have HSm := (HS.out.alloc _).drew.ext hb1 | have HSm := ((HS.out.alloc _).drewN _).ext hb1 | have HSm := (HS.out.alloc _).drew.drew.ext hb1
        try simp only [World.size_alloc, World.size_setCell, World.size_drew, size_drewN, List.setIfInBounds_toArray, List.set_cons_zero, List.set_cons_succ] at HSm
        have HSn := Lib.hid HSm
        clear HSm
        clear bc_0 bc_1 bc_f bc_l
        clear HS
        have HS := HSn
        clear HSn
        obtain ⟨p_0, p_1, p_2, p_f, p_l⟩ := cells3 (St.get0 HS.out)
        obtain ⟨bl_0, bl_f, bl_l⟩ := cells1 (St.get1 HS.out)
        obtain ⟨bc_0, bc_1, bc_f, bc_l⟩ := cells2 (St.get2 HS.out)
        clear hb1
        gi_wp2_with fail
        have hd : ps.drop k = p :: ps.drop (k + 1) := by rw [List.drop_eq_getElem_cons (by rw [HP.out.1]; exact hlt)]; congr 1; exact (List.getElem?_eq_some_iff.1 HPk.out).2
        refine ⟨⟨k + 1, pre, c', C', by omega, by go_num, hc', ?_, hCal, ?_⟩, by simp [intOf]; omega⟩
        · rw [HX.out, hd, askedL, if_neg hok]
        · exact (((HS.out.drop).alloc _).alloc _).drop.drop
    · gi_wp2
      go_end0
      have hkn : k = n := by omega
      refine ⟨⟨_, rfl⟩, .inl ⟨C', ?_, HS.out.drop.drop⟩⟩
      have h0 : ps.drop k = [] := List.drop_eq_nil_of_le (by rw [HP.out.1]; omega)
      rw [HX.out, h0, askedL, List.append_nil]
      exact hCal
end Go.Proofs.Ytkhlhnpoieolhaa
