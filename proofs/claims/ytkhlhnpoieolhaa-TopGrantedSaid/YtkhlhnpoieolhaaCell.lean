/-
  The walks of the arbiter's small functions: each returns what its Lean function tells, and nothing that was there before the call is turned.
-/
import Derived.Test.YtkhlhnpoieolhaaRt
namespace Go.Proofs.Ytkhlhnpoieolhaa
open Go.RowKit
set_option linter.unusedSimpArgs false
set_option linter.unusedVariables false


def nodeB (n : Int) : Bool := decide (1 ≤ n ∧ n ≤ 2)
def epochB (n : Int) : Bool := decide (1 ≤ n ∧ n ≤ 1099511627776)
set_option maxHeartbeats 400000 in
theorem node_any (n : Int) (w : World) : Calls Try.prog 63 #[.int .i64 n] w fun e w' => e = .returned (.bool (nodeB n)) ∧ w = w' := by
  by_cases h1 : 1 ≤ n <;> by_cases h2 : n ≤ 2
  all_goals
    go_enter Try.func63, Try.ntmps63
    go_wp2
    go_ret
    exact ⟨by simp [nodeB, h1, h2], rfl⟩
set_option maxHeartbeats 400000 in
theorem epoch_any (n : Int) (w : World) : Calls Try.prog 64 #[.int .u64 n] w fun e w' => e = .returned (.bool (epochB n)) ∧ w = w' := by
  by_cases h1 : 1 ≤ n <;> by_cases h2 : n ≤ 1099511627776
  all_goals
    go_enter Try.func64, Try.ntmps64
    go_wp2
    go_ret
    exact ⟨by simp [epochB, h1, h2], rfl⟩
def cellErr (c n : Int) : Int := if epochB c && nodeB n then 0 else 310
set_option maxHeartbeats 400000 in
theorem check_any (c n : Int) (w : World) : Calls Try.prog 13 #[.agg #[.int .u64 c, .int .i64 n]] w fun e w' => e = .returned (.int .i64 (cellErr c n)) ∧ Below w.heap.size w w' := by
  cases h1 : epochB c <;> cases h2 : nodeB n
  all_goals
    go_enter Try.func13, Try.ntmps13
    go_wp2_with (first | (go_at_call 64; refine (epoch_any _ _).mono ?_; rintro e w' ⟨rfl, rfl⟩) | (go_at_call 63; refine (node_any _ _).mono ?_; rintro e w' ⟨rfl, rfl⟩))
    go_ret
    exact ⟨by simp [cellErr, h1, h2], (Below.refl _ _).alloc (Nat.le_refl _) _⟩
def pleaErr (n e b : Int) : Int := if nodeB n && epochB e && decide (b ≤ 1099511627776) then 0 else 2
set_option maxHeartbeats 400000 in
theorem checkPlea_any (n e b : Int) (w : World) : Calls Try.prog 12 #[.agg #[.int .i64 n, .int .u64 e, .int .u64 b]] w fun en w' => en = .returned (.int .i64 (pleaErr n e b)) ∧ Below w.heap.size w w' := by
  cases h1 : nodeB n <;> cases h2 : epochB e <;> by_cases h3 : b ≤ 1099511627776
  all_goals
    go_enter Try.func12, Try.ntmps12
    go_wp2_with (first | (go_at_call 64; refine (epoch_any _ _).mono ?_; rintro e w' ⟨rfl, rfl⟩) | (go_at_call 63; refine (node_any _ _).mono ?_; rintro e w' ⟨rfl, rfl⟩))
    go_ret
    exact ⟨by simp [pleaErr, h1, h2, h3], (Below.refl _ _).alloc (Nat.le_refl _) _⟩

set_option maxHeartbeats 400000 in
theorem granted_behind (g c h : Int) (w : World) (hc : 0 ≤ c) (hc' : c ≤ 1099511627776) : Calls Try.prog 162 #[.agg #[.int .i64 g], .agg #[.int .u64 c, .int .i64 h]] w fun en w' => en = .returned (.agg #[.int .u64 (c + 1), .int .i64 g]) ∧ Below w.heap.size w w' := by
  go_enter Try.func162, Try.ntmps162
  go_wp2
  refine bodyPost_ret (v := .agg #[.int .u64 (c + 1), .int .i64 g]) (by simp [results, Try.results162, go_sem]) rfl ⟨rfl, ?_⟩
  exact (((Below.refl _ _).alloc (Nat.le_refl _) _).alloc (by simp) _).alloc (by simp; omega) _
set_option maxHeartbeats 400000 in
theorem had_behind (c h : Int) (w : World) : Calls Try.prog 163 #[.agg #[], .agg #[.int .u64 c, .int .i64 h]] w fun en w' => en = .returned (.agg #[.int .u64 c, .int .i64 h]) ∧ Below w.heap.size w w' := by
  go_enter Try.func163, Try.ntmps163
  go_wp2
  refine bodyPost_ret (v := .agg #[.int .u64 c, .int .i64 h]) (by simp [results, Try.results163, go_sem]) rfl ⟨rfl, ?_⟩
  exact (((Below.refl _ _).alloc (Nat.le_refl _) _).alloc (by simp) _).alloc (by simp; omega) _
set_option maxHeartbeats 400000 in
theorem refused_behind (c h : Int) (w : World) : Calls Try.prog 165 #[.agg #[], .agg #[.int .u64 c, .int .i64 h]] w fun en w' => en = .returned (.agg #[.int .u64 c, .int .i64 h]) ∧ Below w.heap.size w w' := by
  go_enter Try.func165, Try.ntmps165
  go_wp2
  refine bodyPost_ret (v := .agg #[.int .u64 c, .int .i64 h]) (by simp [results, Try.results165, go_sem]) rfl ⟨rfl, ?_⟩
  exact (((Below.refl _ _).alloc (Nat.le_refl _) _).alloc (by simp) _).alloc (by simp; omega) _

def comesV (c h n e : Int) : Value :=
  if c = e ∧ epochB (e + 1) = true then .iface 143 (.agg #[.int .i64 n]) else if c = e + 1 ∧ h = n then .iface 145 (.agg #[]) else .iface 212 (.agg #[])
theorem below3 {w : World} (o1 o2 o3 : Obj) : Below w.heap.size w (((w.alloc o1).alloc o2).alloc o3) :=
  (((Below.refl _ _).alloc (Nat.le_refl _) _).alloc (by simp) _).alloc (by simp; omega) _
set_option maxHeartbeats 1000000 in
theorem comes_any (c h n e b : Int) (w : World) (he : 0 ≤ e) (he' : e ≤ 1099511627776) : Calls Try.prog 62 #[.agg #[.int .u64 c, .int .i64 h], .agg #[.int .i64 n, .int .u64 e, .int .u64 b]] w fun en w' => en = .returned (comesV c h n e) ∧ Below w.heap.size w w' := by
  by_cases h1 : c = e
  · subst h1
    have h5 : ¬ (c = c + 1) := by omega
    cases h2 : epochB (c + 1)
    · go_enter Try.func62, Try.ntmps62
      go_wp2_with (first | (go_at_call 64; refine (epoch_any _ _).mono ?_; rintro e w' ⟨rfl, rfl⟩))
      go_ret
      exact ⟨by simp [comesV, h2, h5], below3 _ _ _⟩
    · go_enter Try.func62, Try.ntmps62
      go_wp2_with (first | (go_at_call 64; refine (epoch_any _ _).mono ?_; rintro e w' ⟨rfl, rfl⟩))
      go_ret
      exact ⟨by simp [comesV, h2], below3 _ _ _⟩
  · by_cases h3 : c = e + 1
    · subst h3
      by_cases h4 : h = n
      · subst h4
        go_enter Try.func62, Try.ntmps62
        go_wp2_with (first | (go_at_call 64; refine (epoch_any _ _).mono ?_; rintro e w' ⟨rfl, rfl⟩))
        go_ret
        exact ⟨by simp [comesV, h1], below3 _ _ _⟩
      · go_enter Try.func62, Try.ntmps62
        go_wp2_with (first | (go_at_call 64; refine (epoch_any _ _).mono ?_; rintro e w' ⟨rfl, rfl⟩))
        go_ret
        exact ⟨by simp [comesV, h1, h4], below3 _ _ _⟩
    · go_enter Try.func62, Try.ntmps62
      go_wp2_with (first | (go_at_call 64; refine (epoch_any _ _).mono ?_; rintro e w' ⟨rfl, rfl⟩))
      go_ret
      exact ⟨by simp [comesV, h1, h3], below3 _ _ _⟩
theorem belowNext {w w1 w2 : World} (h : Below w.heap.size w w1) (h2 : Below w1.heap.size w1 w2) : Below w.heap.size w w2 := h.trans (h2.mono h.size)
theorem belowAlloc {w w1 : World} (h : Below w.heap.size w w1) (o : Obj) : Below w.heap.size w (w1.alloc o) := h.alloc h.size o

set_option maxHeartbeats 1000000 in
theorem ask_bad (c h n e b : Int) (w : World) (hc : cellErr c h = 0) (hp : pleaErr n e b = 2) :
    Calls Try.prog 11 #[.agg #[.int .u64 c, .int .i64 h], .agg #[.int .i64 n, .int .u64 e, .int .u64 b]] w fun en w' => en = .returned (.tuple #[.agg #[.int .u64 0, .int .i64 0], .agg #[.int .i64 0, .int .u64 0, .int .u64 0, .bool false, .int .u64 0, .int .i64 0], .int .i64 2]) ∧ Below w.heap.size w w' := by
  replace hc := Lib.hid hc
  replace hp := Lib.hid hp
  have HS := Lib.hid (St.refl w)
  go_enter Try.func11, Try.ntmps11
  go_wp2_with fail
  refine (check_any _ _ _).mono ?_
  rintro en w1 ⟨rfl, hb1⟩
  rw [hc.out]
  first | have HSm := ((((HS.out.alloc _).alloc _).alloc _).alloc _).ext hb1 | have HSm := ((((HS.out.alloc _).alloc _).alloc _).alloc _).drew.ext hb1 | have HSm := (((((HS.out.alloc _).alloc _).alloc _).alloc _).drewN _).ext hb1 | have HSm := ((((HS.out.alloc _).alloc _).alloc _).alloc _).drew.drew.ext hb1
  try simp only [World.size_alloc, World.size_setCell, World.size_drew, size_drewN, List.setIfInBounds_toArray, List.set_cons_zero, List.set_cons_succ] at HSm
  have HSn := Lib.hid HSm
  clear HSm
  clear HS
  have HS := HSn
  clear HSn
  obtain ⟨s_0, s_1, s_2, s_3, s_4, s_5, s_f, s_l⟩ := cells6 (St.get0 HS.out)
  obtain ⟨r_0, r_1, r_f, r_l⟩ := cells2 (St.get1 HS.out)
  obtain ⟨p_0, p_1, p_2, p_f, p_l⟩ := cells3 (St.get2 HS.out)
  obtain ⟨c_0, c_1, c_f, c_l⟩ := cells2 (St.get3 HS.out)
  clear hb1
  go_wp2_with fail
  refine (checkPlea_any _ _ _ _).mono ?_
  rintro en w2 ⟨rfl, hb1⟩
  rw [hp.out]
  first | have HSm := HS.out.ext hb1 | have HSm := HS.out.drew.ext hb1 | have HSm := (HS.out.drewN _).ext hb1 | have HSm := HS.out.drew.drew.ext hb1
  try simp only [World.size_alloc, World.size_setCell, World.size_drew, size_drewN, List.setIfInBounds_toArray, List.set_cons_zero, List.set_cons_succ] at HSm
  have HSn := Lib.hid HSm
  clear HSm
  clear s_0 s_1 s_2 s_3 s_4 s_5 s_f s_l r_0 r_1 r_f r_l p_0 p_1 p_2 p_f p_l c_0 c_1 c_f c_l
  clear HS
  have HS := HSn
  clear HSn
  obtain ⟨s_0, s_1, s_2, s_3, s_4, s_5, s_f, s_l⟩ := cells6 (St.get0 HS.out)
  obtain ⟨r_0, r_1, r_f, r_l⟩ := cells2 (St.get1 HS.out)
  obtain ⟨p_0, p_1, p_2, p_f, p_l⟩ := cells3 (St.get2 HS.out)
  obtain ⟨c_0, c_1, c_f, c_l⟩ := cells2 (St.get3 HS.out)
  clear hb1
  go_wp2_with fail
  refine bodyPost_ret (v := .tuple #[.agg #[.int .u64 0, .int .i64 0], .agg #[.int .i64 0, .int .u64 0, .int .u64 0, .bool false, .int .u64 0, .int .i64 0], .int .i64 2]) (by simp [results, Try.results11, go_sem, r_0, r_1, s_0, s_1, s_2, s_3, s_4, s_5]) rfl ⟨rfl, ?_⟩
  exact (((((((((HS.out.set1 _).set1 _).set0 _).set0 _).set0 _).set0 _).set0 _).set0 _)).below
set_option maxRecDepth 100000 in
set_option maxHeartbeats 1000000 in
theorem ask_had (c h n e b : Int) (w : World) (hc : cellErr c h = 0) (hp : pleaErr n e b = 0) (h1 : 1 ≤ e) (h2 : e ≤ 1099511627776) (h3 : 1 ≤ c) (h4 : c ≤ 1099511627776) (hcase : comesV c h n e = .iface 145 (.agg #[])) :
    Calls Try.prog 11 #[.agg #[.int .u64 c, .int .i64 h], .agg #[.int .i64 n, .int .u64 e, .int .u64 b]] w fun en w' => en = .returned (.tuple #[.agg #[.int .u64 (c), .int .i64 h], .agg #[.int .i64 n, .int .u64 e, .int .u64 b, .bool true, .int .u64 (c), .int .i64 h], .int .i64 0]) ∧ Below w.heap.size w w' := by
  have hm : ∀ (w : World), (method 361 145 (.agg #[]) "curfew/cell.behind").run Try.prog w = .ok (163, .agg #[]) w := fun _ => by kernel_rfl
  have ta143 : ∀ (w : World), (Instr.typeAssert (.iface 145 (.agg #[])) 139 143 true).run Try.prog w = .ok (.tuple #[.agg #[.int .i64 0], .bool false]) w := fun _ => by kernel_rfl
  have ta145 : ∀ (w : World), (Instr.typeAssert (.iface 145 (.agg #[])) 139 145 true).run Try.prog w = .ok (.tuple #[.agg #[], .bool true]) w := fun _ => by kernel_rfl
  replace hcase := Lib.hid hcase
  replace hc := Lib.hid hc
  replace hp := Lib.hid hp
  have HS := Lib.hid (St.refl w)
  go_enter Try.func11, Try.ntmps11
  go_wp2_with fail
  refine (check_any _ _ _).mono ?_
  rintro en w1 ⟨rfl, hb1⟩
  rw [hc.out]
  first | have HSm := ((((HS.out.alloc _).alloc _).alloc _).alloc _).ext hb1 | have HSm := ((((HS.out.alloc _).alloc _).alloc _).alloc _).drew.ext hb1 | have HSm := (((((HS.out.alloc _).alloc _).alloc _).alloc _).drewN _).ext hb1 | have HSm := ((((HS.out.alloc _).alloc _).alloc _).alloc _).drew.drew.ext hb1
  try simp only [World.size_alloc, World.size_setCell, World.size_drew, size_drewN, List.setIfInBounds_toArray, List.set_cons_zero, List.set_cons_succ] at HSm
  have HSn := Lib.hid HSm
  clear HSm
  clear HS
  have HS := HSn
  clear HSn
  obtain ⟨s_0, s_1, s_2, s_3, s_4, s_5, s_f, s_l⟩ := cells6 (St.get0 HS.out)
  obtain ⟨r_0, r_1, r_f, r_l⟩ := cells2 (St.get1 HS.out)
  obtain ⟨p_0, p_1, p_2, p_f, p_l⟩ := cells3 (St.get2 HS.out)
  obtain ⟨c_0, c_1, c_f, c_l⟩ := cells2 (St.get3 HS.out)
  clear hb1
  go_wp2_with fail
  refine (checkPlea_any _ _ _ _).mono ?_
  rintro en w2 ⟨rfl, hb1⟩
  rw [hp.out]
  first | have HSm := HS.out.ext hb1 | have HSm := HS.out.drew.ext hb1 | have HSm := (HS.out.drewN _).ext hb1 | have HSm := HS.out.drew.drew.ext hb1
  try simp only [World.size_alloc, World.size_setCell, World.size_drew, size_drewN, List.setIfInBounds_toArray, List.set_cons_zero, List.set_cons_succ] at HSm
  have HSn := Lib.hid HSm
  clear HSm
  clear s_0 s_1 s_2 s_3 s_4 s_5 s_f s_l r_0 r_1 r_f r_l p_0 p_1 p_2 p_f p_l c_0 c_1 c_f c_l
  clear HS
  have HS := HSn
  clear HSn
  obtain ⟨s_0, s_1, s_2, s_3, s_4, s_5, s_f, s_l⟩ := cells6 (St.get0 HS.out)
  obtain ⟨r_0, r_1, r_f, r_l⟩ := cells2 (St.get1 HS.out)
  obtain ⟨p_0, p_1, p_2, p_f, p_l⟩ := cells3 (St.get2 HS.out)
  obtain ⟨c_0, c_1, c_f, c_l⟩ := cells2 (St.get3 HS.out)
  clear hb1
  go_wp2_with fail
  refine (comes_any _ _ _ _ _ _ (by omega) (by omega)).mono ?_
  rintro en w3 ⟨rfl, hb1⟩
  rw [hcase.out]
  first | have HSm := HS.out.ext hb1 | have HSm := HS.out.drew.ext hb1 | have HSm := (HS.out.drewN _).ext hb1 | have HSm := HS.out.drew.drew.ext hb1
  try simp only [World.size_alloc, World.size_setCell, World.size_drew, size_drewN, List.setIfInBounds_toArray, List.set_cons_zero, List.set_cons_succ] at HSm
  have HSn := Lib.hid HSm
  clear HSm
  clear s_0 s_1 s_2 s_3 s_4 s_5 s_f s_l r_0 r_1 r_f r_l p_0 p_1 p_2 p_f p_l c_0 c_1 c_f c_l
  clear HS
  have HS := HSn
  clear HSn
  obtain ⟨s_0, s_1, s_2, s_3, s_4, s_5, s_f, s_l⟩ := cells6 (St.get0 HS.out)
  obtain ⟨r_0, r_1, r_f, r_l⟩ := cells2 (St.get1 HS.out)
  obtain ⟨p_0, p_1, p_2, p_f, p_l⟩ := cells3 (St.get2 HS.out)
  obtain ⟨c_0, c_1, c_f, c_l⟩ := cells2 (St.get3 HS.out)
  clear hb1
  go_wp2_with fail
  refine cutO (fun a a' w' => ∃ b', a' = (((((a.put (some 24) (.agg #[.int .i64 n, .int .u64 e, .int .u64 b])).put (some 25) (.iface 145 (.agg #[]))).put (some 26) (.agg #[.int .u64 c, .int .i64 h])).put (some 27) (.agg #[.int .u64 (c), .int .i64 h])).put (some 28) (.agg #[.int .i64 n, .int .u64 e, .int .u64 b, .bool false, .int .u64 (c), .int .i64 h])).put (some 9) (.pointer (some ⟨b', 0, none⟩)) ∧ ∀ L, St w.heap.size w w3 L → St w.heap.size w w' (Reg.box b' (.cells #[.int .i64 n, .int .u64 e, .int .u64 b, .bool false, .int .u64 (c), .int .i64 h] 38) :: L)) ?_ ?_
  · rintro a' w4 ⟨b', rfl, hSt⟩
    simp only [Act.put, List.setIfInBounds_toArray, List.set_cons_zero, List.set_cons_succ]
    first | have HSm := hSt _ HS.out
    try simp only [World.size_alloc, World.size_setCell, World.size_drew, size_drewN, List.setIfInBounds_toArray, List.set_cons_zero, List.set_cons_succ] at HSm
    have HSn := Lib.hid HSm
    clear HSm
    clear s_0 s_1 s_2 s_3 s_4 s_5 s_f s_l r_0 r_1 r_f r_l p_0 p_1 p_2 p_f p_l c_0 c_1 c_f c_l
    clear HS
    have HS := HSn
    clear HSn
    obtain ⟨a_0, a_1, a_2, a_3, a_4, a_5, a_f, a_l⟩ := cells6 (St.get0 HS.out)
    obtain ⟨s_0, s_1, s_2, s_3, s_4, s_5, s_f, s_l⟩ := cells6 (St.get1 HS.out)
    obtain ⟨r_0, r_1, r_f, r_l⟩ := cells2 (St.get2 HS.out)
    clear hSt
    go_wp2_with fail
    have n1 := St.ne02 HS.out
    have n2 := St.ne01 HS.out
    go_region
    all_goals go_wp2_with fail
    refine bodyPost_ret (v := .tuple #[.agg #[.int .u64 (c), .int .i64 h], .agg #[.int .i64 n, .int .u64 e, .int .u64 b, .bool true, .int .u64 (c), .int .i64 h], .int .i64 0]) (by simp [results, Try.results11, go_sem, r_0, r_1, s_0, s_1, s_2, s_3, s_4, s_5]) rfl ⟨rfl, ?_⟩
    have gb := (HS.out.each _ (List.mem_cons_self ..)).1
    repeat (first | (with_reducible exact HS.out.below) | (with_reducible refine Below.drew ?_) | ((with_reducible refine Below.setCell ?_ ?_ _); rotate_left; · first | exact gb | (simp; done) | (simp; omega)))
  · intro K hK
    refine regT (fun w' => Below w3.heap.size w3 w') (fun i => i == 6) (by kernel_rfl) ?_
    refine takeS (i := 0) (v := ?_) rfl (by kernel_rfl) (by kernel_rfl) (by kernel_rfl) (by kernel_rfl) (fun _ _ _ h => h) (Below.refl _ _).drew (Or.inl ⟨by first | rfl | go_simp, ?_⟩) ?_
    rotate_left
    · intro w' hS
      have q0 := keepS hS p_0
      have q1 := keepS hS p_1
      have q2 := keepS hS p_2
      go_simp
      rfl
    simp only [Act.put, List.setIfInBounds_toArray, List.set_cons_zero, List.set_cons_succ]
    refine takeS (i := 1) (v := ?_) rfl (by kernel_rfl) (by kernel_rfl) (by kernel_rfl) (by kernel_rfl) (fun _ _ _ h => h) (Below.refl _ _).drew (Or.inl ⟨by first | rfl | go_simp, ?_⟩) ?_
    rotate_left
    · intro w' hS
      go_simp
      rfl
    simp only [Act.put, List.setIfInBounds_toArray, List.set_cons_zero, List.set_cons_succ]
    refine takeS (i := 2) (v := ?_) rfl (by kernel_rfl) (by kernel_rfl) (by kernel_rfl) (by kernel_rfl) (fun _ _ _ h => h) (Below.refl _ _).drew (Or.inl ⟨by first | rfl | go_simp, ?_⟩) ?_
    rotate_left
    · intro w' hS
      have q0 := keepS hS c_0
      have q1 := keepS hS c_1
      go_simp
      rfl
    simp only [Act.put, List.setIfInBounds_toArray, List.set_cons_zero, List.set_cons_succ]
    refine come2 (i := 3) (j := 5) (by kernel_rfl) rfl rfl ?_ ?_
    · intro K1 hK1
      rw [if_pos (by first | rfl | go_simp)]
      go_simp
      refine (had_behind _ _ _).mono ?_
      rintro en w4 ⟨rfl, hb4⟩
      have S4 := Lib.hid (belowNext (Below.refl w3.heap.size w3).drew hb4)
      refine hK1.out _ _ ⟨fun _ => S4.out, ?_⟩
      clear hK1 K1
      refine takeS (i := 4) (v := ?_) rfl (by kernel_rfl) (by kernel_rfl) (by kernel_rfl) (by kernel_rfl) (fun _ _ _ h => h) S4.out (Or.inl ⟨by first | rfl | go_simp, ?_⟩) ?_
      rotate_left
      · intro w' hS
        go_simp
        rfl
      simp only [Act.put, List.setIfInBounds_toArray, List.set_cons_zero, List.set_cons_succ]
      refine come1 (i := 5) (by kernel_rfl) rfl ?_
      intro K1 hK1
      rw [if_pos (by first | rfl | go_simp)]
      go_simp
      refine hK1.out _ _ ⟨fun _ => belowAlloc S4.out _, ?_⟩
      clear hK1 K1
      refine come1 (i := 6) (by kernel_rfl) rfl ?_
      intro K1 hK1
      rw [if_pos (by first | rfl | go_simp)]
      go_simp
      refine hK1.out _ _ ⟨(fun h => absurd h (by decide)), ?_⟩
      clear hK1 K1
      refine come0 (by kernel_rfl) ?_
      refine hK.out _ _ ⟨w4.heap.size, rfl, fun L h => ?_⟩
      exact (h.drew.ext hb4).alloc _
    · intro K1 hK1
      rw [if_pos (by first | rfl | go_simp)]
      go_simp
      refine hK1.out _ _ ⟨fun _ => (belowAlloc (Below.refl w3.heap.size w3) _).drew, ?_⟩
      clear hK1 K1
      refine come1 (i := 3) (by kernel_rfl) rfl ?_
      intro K1 hK1
      rw [if_pos (by first | rfl | go_simp)]
      go_simp
      refine (had_behind _ _ _).mono ?_
      rintro en w4 ⟨rfl, hb4⟩
      have S4 := Lib.hid (belowNext (belowAlloc (Below.refl w3.heap.size w3) _).drew hb4)
      have HS4 := Lib.hid ((HS.out.alloc _).drew.ext hb4)
      obtain ⟨x_0, x_1, x_2, x_3, x_4, x_5, x_f, x_l⟩ := cells6 (St.get0 HS4.out)
      refine hK1.out _ _ ⟨fun _ => S4.out, ?_⟩
      clear hK1 K1
      refine takeS (i := 4) (v := ?_) rfl (by kernel_rfl) (by kernel_rfl) (by kernel_rfl) (by kernel_rfl) (fun _ _ _ h => h) S4.out (Or.inl ⟨by first | rfl | go_simp, ?_⟩) ?_
      rotate_left
      · intro w' hS
        go_simp
        rfl
      simp only [Act.put, List.setIfInBounds_toArray, List.set_cons_zero, List.set_cons_succ]
      refine come1 (i := 6) (by kernel_rfl) rfl ?_
      intro K1 hK1
      rw [if_pos (by first | rfl | go_simp)]
      go_simp
      refine hK1.out _ _ ⟨(fun h => absurd h (by decide)), ?_⟩
      clear hK1 K1
      refine come0 (by kernel_rfl) ?_
      refine hK.out _ _ ⟨w3.heap.size, rfl, fun L h => ?_⟩
      exact ((((((((h.alloc _).drew.ext hb4).set0 _).set0 _).set0 _).set0 _).set0 _).set0 _)
set_option maxRecDepth 100000 in
set_option maxHeartbeats 1000000 in
theorem ask_granted (c h n e b : Int) (w : World) (hc : cellErr c h = 0) (hp : pleaErr n e b = 0) (h1 : 1 ≤ e) (h2 : e ≤ 1099511627776) (h3 : 1 ≤ c) (h4 : c ≤ 1099511627776) (hcase : comesV c h n e = .iface 143 (.agg #[.int .i64 n])) :
    Calls Try.prog 11 #[.agg #[.int .u64 c, .int .i64 h], .agg #[.int .i64 n, .int .u64 e, .int .u64 b]] w fun en w' => en = .returned (.tuple #[.agg #[.int .u64 (c + 1), .int .i64 n], .agg #[.int .i64 n, .int .u64 e, .int .u64 b, .bool true, .int .u64 (c + 1), .int .i64 n], .int .i64 0]) ∧ Below w.heap.size w w' := by
  have hm : ∀ (w : World), (method 361 143 (.agg #[.int .i64 n]) "curfew/cell.behind").run Try.prog w = .ok (162, .agg #[.int .i64 n]) w := fun _ => by kernel_rfl
  have ta143 : ∀ (w : World), (Instr.typeAssert (.iface 143 (.agg #[.int .i64 n])) 139 143 true).run Try.prog w = .ok (.tuple #[.agg #[.int .i64 n], .bool true]) w := fun _ => by kernel_rfl
  have ta145 : ∀ (w : World), (Instr.typeAssert (.iface 143 (.agg #[.int .i64 n])) 139 145 true).run Try.prog w = .ok (.tuple #[.agg #[], .bool false]) w := fun _ => by kernel_rfl
  replace hcase := Lib.hid hcase
  replace hc := Lib.hid hc
  replace hp := Lib.hid hp
  have HS := Lib.hid (St.refl w)
  go_enter Try.func11, Try.ntmps11
  go_wp2_with fail
  refine (check_any _ _ _).mono ?_
  rintro en w1 ⟨rfl, hb1⟩
  rw [hc.out]
  first | have HSm := ((((HS.out.alloc _).alloc _).alloc _).alloc _).ext hb1 | have HSm := ((((HS.out.alloc _).alloc _).alloc _).alloc _).drew.ext hb1 | have HSm := (((((HS.out.alloc _).alloc _).alloc _).alloc _).drewN _).ext hb1 | have HSm := ((((HS.out.alloc _).alloc _).alloc _).alloc _).drew.drew.ext hb1
  try simp only [World.size_alloc, World.size_setCell, World.size_drew, size_drewN, List.setIfInBounds_toArray, List.set_cons_zero, List.set_cons_succ] at HSm
  have HSn := Lib.hid HSm
  clear HSm
  clear HS
  have HS := HSn
  clear HSn
  obtain ⟨s_0, s_1, s_2, s_3, s_4, s_5, s_f, s_l⟩ := cells6 (St.get0 HS.out)
  obtain ⟨r_0, r_1, r_f, r_l⟩ := cells2 (St.get1 HS.out)
  obtain ⟨p_0, p_1, p_2, p_f, p_l⟩ := cells3 (St.get2 HS.out)
  obtain ⟨c_0, c_1, c_f, c_l⟩ := cells2 (St.get3 HS.out)
  clear hb1
  go_wp2_with fail
  refine (checkPlea_any _ _ _ _).mono ?_
  rintro en w2 ⟨rfl, hb1⟩
  rw [hp.out]
  first | have HSm := HS.out.ext hb1 | have HSm := HS.out.drew.ext hb1 | have HSm := (HS.out.drewN _).ext hb1 | have HSm := HS.out.drew.drew.ext hb1
  try simp only [World.size_alloc, World.size_setCell, World.size_drew, size_drewN, List.setIfInBounds_toArray, List.set_cons_zero, List.set_cons_succ] at HSm
  have HSn := Lib.hid HSm
  clear HSm
  clear s_0 s_1 s_2 s_3 s_4 s_5 s_f s_l r_0 r_1 r_f r_l p_0 p_1 p_2 p_f p_l c_0 c_1 c_f c_l
  clear HS
  have HS := HSn
  clear HSn
  obtain ⟨s_0, s_1, s_2, s_3, s_4, s_5, s_f, s_l⟩ := cells6 (St.get0 HS.out)
  obtain ⟨r_0, r_1, r_f, r_l⟩ := cells2 (St.get1 HS.out)
  obtain ⟨p_0, p_1, p_2, p_f, p_l⟩ := cells3 (St.get2 HS.out)
  obtain ⟨c_0, c_1, c_f, c_l⟩ := cells2 (St.get3 HS.out)
  clear hb1
  go_wp2_with fail
  refine (comes_any _ _ _ _ _ _ (by omega) (by omega)).mono ?_
  rintro en w3 ⟨rfl, hb1⟩
  rw [hcase.out]
  first | have HSm := HS.out.ext hb1 | have HSm := HS.out.drew.ext hb1 | have HSm := (HS.out.drewN _).ext hb1 | have HSm := HS.out.drew.drew.ext hb1
  try simp only [World.size_alloc, World.size_setCell, World.size_drew, size_drewN, List.setIfInBounds_toArray, List.set_cons_zero, List.set_cons_succ] at HSm
  have HSn := Lib.hid HSm
  clear HSm
  clear s_0 s_1 s_2 s_3 s_4 s_5 s_f s_l r_0 r_1 r_f r_l p_0 p_1 p_2 p_f p_l c_0 c_1 c_f c_l
  clear HS
  have HS := HSn
  clear HSn
  obtain ⟨s_0, s_1, s_2, s_3, s_4, s_5, s_f, s_l⟩ := cells6 (St.get0 HS.out)
  obtain ⟨r_0, r_1, r_f, r_l⟩ := cells2 (St.get1 HS.out)
  obtain ⟨p_0, p_1, p_2, p_f, p_l⟩ := cells3 (St.get2 HS.out)
  obtain ⟨c_0, c_1, c_f, c_l⟩ := cells2 (St.get3 HS.out)
  clear hb1
  go_wp2_with fail
  refine cutO (fun a a' w' => ∃ b', a' = (((((a.put (some 24) (.agg #[.int .i64 n, .int .u64 e, .int .u64 b])).put (some 25) (.iface 143 (.agg #[.int .i64 n]))).put (some 26) (.agg #[.int .u64 c, .int .i64 h])).put (some 27) (.agg #[.int .u64 (c + 1), .int .i64 n])).put (some 28) (.agg #[.int .i64 n, .int .u64 e, .int .u64 b, .bool false, .int .u64 (c + 1), .int .i64 n])).put (some 9) (.pointer (some ⟨b', 0, none⟩)) ∧ ∀ L, St w.heap.size w w3 L → St w.heap.size w w' (Reg.box b' (.cells #[.int .i64 n, .int .u64 e, .int .u64 b, .bool false, .int .u64 (c + 1), .int .i64 n] 38) :: L)) ?_ ?_
  · rintro a' w4 ⟨b', rfl, hSt⟩
    simp only [Act.put, List.setIfInBounds_toArray, List.set_cons_zero, List.set_cons_succ]
    first | have HSm := hSt _ HS.out
    try simp only [World.size_alloc, World.size_setCell, World.size_drew, size_drewN, List.setIfInBounds_toArray, List.set_cons_zero, List.set_cons_succ] at HSm
    have HSn := Lib.hid HSm
    clear HSm
    clear s_0 s_1 s_2 s_3 s_4 s_5 s_f s_l r_0 r_1 r_f r_l p_0 p_1 p_2 p_f p_l c_0 c_1 c_f c_l
    clear HS
    have HS := HSn
    clear HSn
    obtain ⟨a_0, a_1, a_2, a_3, a_4, a_5, a_f, a_l⟩ := cells6 (St.get0 HS.out)
    obtain ⟨s_0, s_1, s_2, s_3, s_4, s_5, s_f, s_l⟩ := cells6 (St.get1 HS.out)
    obtain ⟨r_0, r_1, r_f, r_l⟩ := cells2 (St.get2 HS.out)
    clear hSt
    go_wp2_with fail
    have n1 := St.ne02 HS.out
    have n2 := St.ne01 HS.out
    go_region
    all_goals go_wp2_with fail
    refine bodyPost_ret (v := .tuple #[.agg #[.int .u64 (c + 1), .int .i64 n], .agg #[.int .i64 n, .int .u64 e, .int .u64 b, .bool true, .int .u64 (c + 1), .int .i64 n], .int .i64 0]) (by simp [results, Try.results11, go_sem, r_0, r_1, s_0, s_1, s_2, s_3, s_4, s_5]) rfl ⟨rfl, ?_⟩
    have gb := (HS.out.each _ (List.mem_cons_self ..)).1
    repeat (first | (with_reducible exact HS.out.below) | (with_reducible refine Below.drew ?_) | ((with_reducible refine Below.setCell ?_ ?_ _); rotate_left; · first | exact gb | (simp; done) | (simp; omega)))
  · intro K hK
    refine regT (fun w' => Below w3.heap.size w3 w') (fun i => i == 6) (by kernel_rfl) ?_
    refine takeS (i := 0) (v := ?_) rfl (by kernel_rfl) (by kernel_rfl) (by kernel_rfl) (by kernel_rfl) (fun _ _ _ h => h) (Below.refl _ _).drew (Or.inl ⟨by first | rfl | go_simp, ?_⟩) ?_
    rotate_left
    · intro w' hS
      have q0 := keepS hS p_0
      have q1 := keepS hS p_1
      have q2 := keepS hS p_2
      go_simp
      rfl
    simp only [Act.put, List.setIfInBounds_toArray, List.set_cons_zero, List.set_cons_succ]
    refine takeS (i := 1) (v := ?_) rfl (by kernel_rfl) (by kernel_rfl) (by kernel_rfl) (by kernel_rfl) (fun _ _ _ h => h) (Below.refl _ _).drew (Or.inl ⟨by first | rfl | go_simp, ?_⟩) ?_
    rotate_left
    · intro w' hS
      go_simp
      rfl
    simp only [Act.put, List.setIfInBounds_toArray, List.set_cons_zero, List.set_cons_succ]
    refine takeS (i := 2) (v := ?_) rfl (by kernel_rfl) (by kernel_rfl) (by kernel_rfl) (by kernel_rfl) (fun _ _ _ h => h) (Below.refl _ _).drew (Or.inl ⟨by first | rfl | go_simp, ?_⟩) ?_
    rotate_left
    · intro w' hS
      have q0 := keepS hS c_0
      have q1 := keepS hS c_1
      go_simp
      rfl
    simp only [Act.put, List.setIfInBounds_toArray, List.set_cons_zero, List.set_cons_succ]
    refine come2 (i := 3) (j := 5) (by kernel_rfl) rfl rfl ?_ ?_
    · intro K1 hK1
      rw [if_pos (by first | rfl | go_simp)]
      go_simp
      refine (granted_behind _ _ _ _ (by omega) (by omega)).mono ?_
      rintro en w4 ⟨rfl, hb4⟩
      have S4 := Lib.hid (belowNext (Below.refl w3.heap.size w3).drew hb4)
      refine hK1.out _ _ ⟨fun _ => S4.out, ?_⟩
      clear hK1 K1
      refine takeS (i := 4) (v := ?_) rfl (by kernel_rfl) (by kernel_rfl) (by kernel_rfl) (by kernel_rfl) (fun _ _ _ h => h) S4.out (Or.inl ⟨by first | rfl | go_simp, ?_⟩) ?_
      rotate_left
      · intro w' hS
        go_simp
        rfl
      simp only [Act.put, List.setIfInBounds_toArray, List.set_cons_zero, List.set_cons_succ]
      refine come1 (i := 5) (by kernel_rfl) rfl ?_
      intro K1 hK1
      rw [if_pos (by first | rfl | go_simp)]
      go_simp
      refine hK1.out _ _ ⟨fun _ => belowAlloc S4.out _, ?_⟩
      clear hK1 K1
      refine come1 (i := 6) (by kernel_rfl) rfl ?_
      intro K1 hK1
      rw [if_pos (by first | rfl | go_simp)]
      go_simp
      refine hK1.out _ _ ⟨(fun h => absurd h (by decide)), ?_⟩
      clear hK1 K1
      refine come0 (by kernel_rfl) ?_
      refine hK.out _ _ ⟨w4.heap.size, rfl, fun L h => ?_⟩
      exact (h.drew.ext hb4).alloc _
    · intro K1 hK1
      rw [if_pos (by first | rfl | go_simp)]
      go_simp
      refine hK1.out _ _ ⟨fun _ => (belowAlloc (Below.refl w3.heap.size w3) _).drew, ?_⟩
      clear hK1 K1
      refine come1 (i := 3) (by kernel_rfl) rfl ?_
      intro K1 hK1
      rw [if_pos (by first | rfl | go_simp)]
      go_simp
      refine (granted_behind _ _ _ _ (by omega) (by omega)).mono ?_
      rintro en w4 ⟨rfl, hb4⟩
      have S4 := Lib.hid (belowNext (belowAlloc (Below.refl w3.heap.size w3) _).drew hb4)
      have HS4 := Lib.hid ((HS.out.alloc _).drew.ext hb4)
      obtain ⟨x_0, x_1, x_2, x_3, x_4, x_5, x_f, x_l⟩ := cells6 (St.get0 HS4.out)
      refine hK1.out _ _ ⟨fun _ => S4.out, ?_⟩
      clear hK1 K1
      refine takeS (i := 4) (v := ?_) rfl (by kernel_rfl) (by kernel_rfl) (by kernel_rfl) (by kernel_rfl) (fun _ _ _ h => h) S4.out (Or.inl ⟨by first | rfl | go_simp, ?_⟩) ?_
      rotate_left
      · intro w' hS
        go_simp
        rfl
      simp only [Act.put, List.setIfInBounds_toArray, List.set_cons_zero, List.set_cons_succ]
      refine come1 (i := 6) (by kernel_rfl) rfl ?_
      intro K1 hK1
      rw [if_pos (by first | rfl | go_simp)]
      go_simp
      refine hK1.out _ _ ⟨(fun h => absurd h (by decide)), ?_⟩
      clear hK1 K1
      refine come0 (by kernel_rfl) ?_
      refine hK.out _ _ ⟨w3.heap.size, rfl, fun L h => ?_⟩
      exact ((((((((h.alloc _).drew.ext hb4).set0 _).set0 _).set0 _).set0 _).set0 _).set0 _)
set_option maxRecDepth 100000 in
set_option maxHeartbeats 1000000 in
theorem ask_refused (c h n e b : Int) (w : World) (hc : cellErr c h = 0) (hp : pleaErr n e b = 0) (h1 : 1 ≤ e) (h2 : e ≤ 1099511627776) (h3 : 1 ≤ c) (h4 : c ≤ 1099511627776) (hcase : comesV c h n e = .iface 212 (.agg #[])) :
    Calls Try.prog 11 #[.agg #[.int .u64 c, .int .i64 h], .agg #[.int .i64 n, .int .u64 e, .int .u64 b]] w fun en w' => en = .returned (.tuple #[.agg #[.int .u64 (c), .int .i64 h], .agg #[.int .i64 n, .int .u64 e, .int .u64 b, .bool false, .int .u64 (c), .int .i64 h], .int .i64 0]) ∧ Below w.heap.size w w' := by
  have hm : ∀ (w : World), (method 361 212 (.agg #[]) "curfew/cell.behind").run Try.prog w = .ok (165, .agg #[]) w := fun _ => by kernel_rfl
  have ta143 : ∀ (w : World), (Instr.typeAssert (.iface 212 (.agg #[])) 139 143 true).run Try.prog w = .ok (.tuple #[.agg #[.int .i64 0], .bool false]) w := fun _ => by kernel_rfl
  have ta145 : ∀ (w : World), (Instr.typeAssert (.iface 212 (.agg #[])) 139 145 true).run Try.prog w = .ok (.tuple #[.agg #[], .bool false]) w := fun _ => by kernel_rfl
  replace hcase := Lib.hid hcase
  replace hc := Lib.hid hc
  replace hp := Lib.hid hp
  have HS := Lib.hid (St.refl w)
  go_enter Try.func11, Try.ntmps11
  go_wp2_with fail
  refine (check_any _ _ _).mono ?_
  rintro en w1 ⟨rfl, hb1⟩
  rw [hc.out]
  first | have HSm := ((((HS.out.alloc _).alloc _).alloc _).alloc _).ext hb1 | have HSm := ((((HS.out.alloc _).alloc _).alloc _).alloc _).drew.ext hb1 | have HSm := (((((HS.out.alloc _).alloc _).alloc _).alloc _).drewN _).ext hb1 | have HSm := ((((HS.out.alloc _).alloc _).alloc _).alloc _).drew.drew.ext hb1
  try simp only [World.size_alloc, World.size_setCell, World.size_drew, size_drewN, List.setIfInBounds_toArray, List.set_cons_zero, List.set_cons_succ] at HSm
  have HSn := Lib.hid HSm
  clear HSm
  clear HS
  have HS := HSn
  clear HSn
  obtain ⟨s_0, s_1, s_2, s_3, s_4, s_5, s_f, s_l⟩ := cells6 (St.get0 HS.out)
  obtain ⟨r_0, r_1, r_f, r_l⟩ := cells2 (St.get1 HS.out)
  obtain ⟨p_0, p_1, p_2, p_f, p_l⟩ := cells3 (St.get2 HS.out)
  obtain ⟨c_0, c_1, c_f, c_l⟩ := cells2 (St.get3 HS.out)
  clear hb1
  go_wp2_with fail
  refine (checkPlea_any _ _ _ _).mono ?_
  rintro en w2 ⟨rfl, hb1⟩
  rw [hp.out]
  first | have HSm := HS.out.ext hb1 | have HSm := HS.out.drew.ext hb1 | have HSm := (HS.out.drewN _).ext hb1 | have HSm := HS.out.drew.drew.ext hb1
  try simp only [World.size_alloc, World.size_setCell, World.size_drew, size_drewN, List.setIfInBounds_toArray, List.set_cons_zero, List.set_cons_succ] at HSm
  have HSn := Lib.hid HSm
  clear HSm
  clear s_0 s_1 s_2 s_3 s_4 s_5 s_f s_l r_0 r_1 r_f r_l p_0 p_1 p_2 p_f p_l c_0 c_1 c_f c_l
  clear HS
  have HS := HSn
  clear HSn
  obtain ⟨s_0, s_1, s_2, s_3, s_4, s_5, s_f, s_l⟩ := cells6 (St.get0 HS.out)
  obtain ⟨r_0, r_1, r_f, r_l⟩ := cells2 (St.get1 HS.out)
  obtain ⟨p_0, p_1, p_2, p_f, p_l⟩ := cells3 (St.get2 HS.out)
  obtain ⟨c_0, c_1, c_f, c_l⟩ := cells2 (St.get3 HS.out)
  clear hb1
  go_wp2_with fail
  refine (comes_any _ _ _ _ _ _ (by omega) (by omega)).mono ?_
  rintro en w3 ⟨rfl, hb1⟩
  rw [hcase.out]
  first | have HSm := HS.out.ext hb1 | have HSm := HS.out.drew.ext hb1 | have HSm := (HS.out.drewN _).ext hb1 | have HSm := HS.out.drew.drew.ext hb1
  try simp only [World.size_alloc, World.size_setCell, World.size_drew, size_drewN, List.setIfInBounds_toArray, List.set_cons_zero, List.set_cons_succ] at HSm
  have HSn := Lib.hid HSm
  clear HSm
  clear s_0 s_1 s_2 s_3 s_4 s_5 s_f s_l r_0 r_1 r_f r_l p_0 p_1 p_2 p_f p_l c_0 c_1 c_f c_l
  clear HS
  have HS := HSn
  clear HSn
  obtain ⟨s_0, s_1, s_2, s_3, s_4, s_5, s_f, s_l⟩ := cells6 (St.get0 HS.out)
  obtain ⟨r_0, r_1, r_f, r_l⟩ := cells2 (St.get1 HS.out)
  obtain ⟨p_0, p_1, p_2, p_f, p_l⟩ := cells3 (St.get2 HS.out)
  obtain ⟨c_0, c_1, c_f, c_l⟩ := cells2 (St.get3 HS.out)
  clear hb1
  go_wp2_with fail
  refine cutO (fun a a' w' => ∃ b', a' = (((((a.put (some 24) (.agg #[.int .i64 n, .int .u64 e, .int .u64 b])).put (some 25) (.iface 212 (.agg #[]))).put (some 26) (.agg #[.int .u64 c, .int .i64 h])).put (some 27) (.agg #[.int .u64 (c), .int .i64 h])).put (some 28) (.agg #[.int .i64 n, .int .u64 e, .int .u64 b, .bool false, .int .u64 (c), .int .i64 h])).put (some 9) (.pointer (some ⟨b', 0, none⟩)) ∧ ∀ L, St w.heap.size w w3 L → St w.heap.size w w' (Reg.box b' (.cells #[.int .i64 n, .int .u64 e, .int .u64 b, .bool false, .int .u64 (c), .int .i64 h] 38) :: L)) ?_ ?_
  · rintro a' w4 ⟨b', rfl, hSt⟩
    simp only [Act.put, List.setIfInBounds_toArray, List.set_cons_zero, List.set_cons_succ]
    first | have HSm := hSt _ HS.out
    try simp only [World.size_alloc, World.size_setCell, World.size_drew, size_drewN, List.setIfInBounds_toArray, List.set_cons_zero, List.set_cons_succ] at HSm
    have HSn := Lib.hid HSm
    clear HSm
    clear s_0 s_1 s_2 s_3 s_4 s_5 s_f s_l r_0 r_1 r_f r_l p_0 p_1 p_2 p_f p_l c_0 c_1 c_f c_l
    clear HS
    have HS := HSn
    clear HSn
    obtain ⟨a_0, a_1, a_2, a_3, a_4, a_5, a_f, a_l⟩ := cells6 (St.get0 HS.out)
    obtain ⟨s_0, s_1, s_2, s_3, s_4, s_5, s_f, s_l⟩ := cells6 (St.get1 HS.out)
    obtain ⟨r_0, r_1, r_f, r_l⟩ := cells2 (St.get2 HS.out)
    clear hSt
    go_wp2_with fail
    have n1 := St.ne02 HS.out
    have n2 := St.ne01 HS.out
    go_region
    all_goals go_wp2_with fail
    refine bodyPost_ret (v := .tuple #[.agg #[.int .u64 (c), .int .i64 h], .agg #[.int .i64 n, .int .u64 e, .int .u64 b, .bool false, .int .u64 (c), .int .i64 h], .int .i64 0]) (by simp [results, Try.results11, go_sem, r_0, r_1, s_0, s_1, s_2, s_3, s_4, s_5]) rfl ⟨rfl, ?_⟩
    have gb := (HS.out.each _ (List.mem_cons_self ..)).1
    repeat (first | (with_reducible exact HS.out.below) | (with_reducible refine Below.drew ?_) | ((with_reducible refine Below.setCell ?_ ?_ _); rotate_left; · first | exact gb | (simp; done) | (simp; omega)))
  · intro K hK
    refine regT (fun w' => Below w3.heap.size w3 w') (fun i => i == 6) (by kernel_rfl) ?_
    refine takeS (i := 0) (v := ?_) rfl (by kernel_rfl) (by kernel_rfl) (by kernel_rfl) (by kernel_rfl) (fun _ _ _ h => h) (Below.refl _ _).drew (Or.inl ⟨by first | rfl | go_simp, ?_⟩) ?_
    rotate_left
    · intro w' hS
      have q0 := keepS hS p_0
      have q1 := keepS hS p_1
      have q2 := keepS hS p_2
      go_simp
      rfl
    simp only [Act.put, List.setIfInBounds_toArray, List.set_cons_zero, List.set_cons_succ]
    refine takeS (i := 1) (v := ?_) rfl (by kernel_rfl) (by kernel_rfl) (by kernel_rfl) (by kernel_rfl) (fun _ _ _ h => h) (Below.refl _ _).drew (Or.inl ⟨by first | rfl | go_simp, ?_⟩) ?_
    rotate_left
    · intro w' hS
      go_simp
      rfl
    simp only [Act.put, List.setIfInBounds_toArray, List.set_cons_zero, List.set_cons_succ]
    refine takeS (i := 2) (v := ?_) rfl (by kernel_rfl) (by kernel_rfl) (by kernel_rfl) (by kernel_rfl) (fun _ _ _ h => h) (Below.refl _ _).drew (Or.inl ⟨by first | rfl | go_simp, ?_⟩) ?_
    rotate_left
    · intro w' hS
      have q0 := keepS hS c_0
      have q1 := keepS hS c_1
      go_simp
      rfl
    simp only [Act.put, List.setIfInBounds_toArray, List.set_cons_zero, List.set_cons_succ]
    refine come2 (i := 3) (j := 5) (by kernel_rfl) rfl rfl ?_ ?_
    · intro K1 hK1
      rw [if_pos (by first | rfl | go_simp)]
      go_simp
      refine (refused_behind _ _ _).mono ?_
      rintro en w4 ⟨rfl, hb4⟩
      have S4 := Lib.hid (belowNext (Below.refl w3.heap.size w3).drew hb4)
      refine hK1.out _ _ ⟨fun _ => S4.out, ?_⟩
      clear hK1 K1
      refine takeS (i := 4) (v := ?_) rfl (by kernel_rfl) (by kernel_rfl) (by kernel_rfl) (by kernel_rfl) (fun _ _ _ h => h) S4.out (Or.inl ⟨by first | rfl | go_simp, ?_⟩) ?_
      rotate_left
      · intro w' hS
        go_simp
        rfl
      simp only [Act.put, List.setIfInBounds_toArray, List.set_cons_zero, List.set_cons_succ]
      refine come1 (i := 5) (by kernel_rfl) rfl ?_
      intro K1 hK1
      rw [if_pos (by first | rfl | go_simp)]
      go_simp
      refine hK1.out _ _ ⟨fun _ => belowAlloc S4.out _, ?_⟩
      clear hK1 K1
      refine come1 (i := 6) (by kernel_rfl) rfl ?_
      intro K1 hK1
      rw [if_pos (by first | rfl | go_simp)]
      go_simp
      refine hK1.out _ _ ⟨(fun h => absurd h (by decide)), ?_⟩
      clear hK1 K1
      refine come0 (by kernel_rfl) ?_
      refine hK.out _ _ ⟨w4.heap.size, rfl, fun L h => ?_⟩
      exact (h.drew.ext hb4).alloc _
    · intro K1 hK1
      rw [if_pos (by first | rfl | go_simp)]
      go_simp
      refine hK1.out _ _ ⟨fun _ => (belowAlloc (Below.refl w3.heap.size w3) _).drew, ?_⟩
      clear hK1 K1
      refine come1 (i := 3) (by kernel_rfl) rfl ?_
      intro K1 hK1
      rw [if_pos (by first | rfl | go_simp)]
      go_simp
      refine (refused_behind _ _ _).mono ?_
      rintro en w4 ⟨rfl, hb4⟩
      have S4 := Lib.hid (belowNext (belowAlloc (Below.refl w3.heap.size w3) _).drew hb4)
      have HS4 := Lib.hid ((HS.out.alloc _).drew.ext hb4)
      obtain ⟨x_0, x_1, x_2, x_3, x_4, x_5, x_f, x_l⟩ := cells6 (St.get0 HS4.out)
      refine hK1.out _ _ ⟨fun _ => S4.out, ?_⟩
      clear hK1 K1
      refine takeS (i := 4) (v := ?_) rfl (by kernel_rfl) (by kernel_rfl) (by kernel_rfl) (by kernel_rfl) (fun _ _ _ h => h) S4.out (Or.inl ⟨by first | rfl | go_simp, ?_⟩) ?_
      rotate_left
      · intro w' hS
        go_simp
        rfl
      simp only [Act.put, List.setIfInBounds_toArray, List.set_cons_zero, List.set_cons_succ]
      refine come1 (i := 6) (by kernel_rfl) rfl ?_
      intro K1 hK1
      rw [if_pos (by first | rfl | go_simp)]
      go_simp
      refine hK1.out _ _ ⟨(fun h => absurd h (by decide)), ?_⟩
      clear hK1 K1
      refine come0 (by kernel_rfl) ?_
      refine hK.out _ _ ⟨w3.heap.size, rfl, fun L h => ?_⟩
      exact ((((((((h.alloc _).drew.ext hb4).set0 _).set0 _).set0 _).set0 _).set0 _).set0 _)
end Go.Proofs.Ytkhlhnpoieolhaa
