/-
  The walk of the law TopGranted.
-/
import Derived.Test.YtkhlhnpoieolhaaGrants
import Derived.Test.YtkhlhnpoieolhaaIn
import Derived.Deep.CutRange
import Derived.Lib.QuietBelow
import Derived.BigQuiet
import Derived.IntWalk
namespace Go.Proofs.Ytkhlhnpoieolhaa
open Go.RowKit
set_option linter.unusedSimpArgs false
set_option linter.unusedVariables false


theorem Try.info36 : (Try.prog.info? 36).map (fun i => (i.zero, i.size, i.bytes)) = some (some (.agg #[.int .i64 0, .int .u64 0, .int .u64 0]), 3, 24) := by kernel_rfl
set_option maxHeartbeats 400000 in
theorem new_any (w : World) : Calls Try.prog 8 #[] w fun e w' => e = .returned (.agg #[.int .u64 1, .int .i64 1]) ∧ Below w.heap.size w w' := by
  go_enter Try.func8, Try.ntmps8
  go_wp2
  refine bodyPost_ret (v := .agg #[.int .u64 1, .int .i64 1]) (by simp [results, Try.results8, go_sem]) rfl ⟨rfl, ?_⟩
  exact (Below.refl _ _).alloc (Nat.le_refl _) _
theorem askedL_snoc (c : CL) (ps : List PL) (p : PL) : askedL c (ps ++ [p]) = askedL c ps ++ (if plOk p then [(runC c (askedL c ps), askA (runC c (askedL c ps)) p)] else []) := by
  induction ps generalizing c with
  | nil => simp [askedL, runC]
  | cons q ps ih =>
    simp only [List.cons_append, askedL]
    split
    · rw [ih]; rfl
    · exact ih c
theorem asked_bad {c : CL} {ps : List PL} {p : PL} (h : ¬ plOk p) : askedL c (ps ++ [p]) = askedL c ps := by rw [askedL_snoc, if_neg h, List.append_nil]
theorem asked_ok {c d : CL} {ps : List PL} {p : PL} (h : plOk p) (hd : runC c (askedL c ps) = d) : askedL c (ps ++ [p]) = askedL c ps ++ [(d, askA d p)] := by rw [askedL_snoc, if_pos h, hd]
theorem nextV_bd (l : List Int) (p : Nat) (m : Int) (hb : ∀ x ∈ l, 0 ≤ x ∧ x ≤ 255) (hm : 1 ≤ m) : 0 ≤ nextV l p m ∧ nextV l p m ≤ m - 1 := by
  unfold nextV
  split
  · have := Int.emod_nonneg (l.getD p 0) (show m ≠ 0 by omega)
    have := Int.emod_lt_of_pos (l.getD p 0) (show 0 < m by omega)
    omega
  · omega
theorem nextP_le (l : List Int) (p : Nat) (h : p ≤ l.length) : nextP l p ≤ l.length := by
  unfold nextP; split <;> omega
theorem ansC_len (l : List (CL × AL)) : (ansC l).length = l.length * 6 := by
  induction l with
  | nil => rfl
  | cons x l ih => simp only [ansC, List.flatMap_cons, List.length_append] at ih ⊢; rw [ih]; simp [alC]; omega
theorem last_cells {W : World} {lo hi g m cap : Nat} {xs : List Value} {v0 v1 v2 v3 v4 v5 : Value} (h : (Reg.row lo hi (.slice (some ⟨g, 0, none⟩) (m + 1) cap) 38 6 (m + 1) (xs ++ [v0, v1, v2, v3, v4, v5])).A W) (hx : xs.length = m * 6) :
    W.cell? ⟨g, m * 6, none⟩ = some v0 ∧ W.cell? ⟨g, m * 6 + 1, none⟩ = some v1 ∧ W.cell? ⟨g, m * 6 + 2, none⟩ = some v2 ∧ W.cell? ⟨g, m * 6 + 3, none⟩ = some v3 ∧ W.cell? ⟨g, m * 6 + 4, none⟩ = some v4 ∧ W.cell? ⟨g, m * 6 + 5, none⟩ = some v5 := by
  have hc : ∀ j v, [v0, v1, v2, v3, v4, v5][j]? = some v → W.cell? ⟨g, m * 6 + j, none⟩ = some v := fun j v hv => by
    have ha : (⟨g, 0, none⟩ : Addr).add (m * 6 + j) = ⟨g, m * 6 + j, none⟩ := by unfold Addr.add; split <;> simp_all
    have := h.1.cells (g := g) rfl (m * 6 + j) v (by rw [List.getElem?_append_right (by omega), hx, Nat.add_sub_cancel_left]; exact hv)
    rw [ha] at this
    exact this
  exact ⟨hc 0 _ rfl, hc 1 _ rfl, hc 2 _ rfl, hc 3 _ rfl, hc 4 _ rfl, hc 5 _ rfl⟩
theorem St.join {B : Nat} {w0 w w' : World} {L L' : List Reg} (h : St B w0 w L) (h' : St w.heap.size w w' L') : St B w0 w' (L' ++ L) := by
  have h1 := h.ext h'.below
  refine ⟨h1.below, h1.size, fun r hr => ?_, List.pairwise_append.2 ⟨h'.apart, h1.apart, fun r hr s hs => ?_⟩⟩
  · rcases List.mem_append.1 hr with hr | hr
    · obtain ⟨a, b, c, d, e⟩ := h'.each r hr
      exact ⟨Nat.le_trans h.size a, b, c, d, e⟩
    · exact h1.each r hr
  · have := (h'.each r hr).1
    have := (h.each s hs).2.2.1
    unfold Reg.apart
    omega
theorem row_rd {α : Type} {f : α → List Value} {sz : Nat} (hf : ∀ x, (f x).length = sz) {W : World} {lo hi : Nat} {v : Value} {e : TypeId} {l : List α} (h : (Reg.row lo hi v e sz l.length (l.flatMap f)).A W) : ∃ a c, v = .slice a l.length c ∧ Rd f sz W a l.length l := rd_of_own hf h.1 rfl
theorem row_rd' {α : Type} {f : α → List Value} {sz : Nat} (hf : ∀ x, (f x).length = sz) {W : World} {lo hi n c : Nat} {a : Option Addr} {e : TypeId} {l : List α} (h : (Reg.row lo hi (.slice a n c) e sz l.length (l.flatMap f)).A W) : Rd f sz W a l.length l := by
  obtain ⟨a', c', he, hr⟩ := row_rd hf h
  cases he
  exact hr
theorem ansC_map (l : List (CL × AL)) : ansC l = (l.map Prod.snd).flatMap alC := by simp [ansC, List.flatMap_map]
theorem an_rd {W : World} {lo hi : Nat} {v : Value} {l : List (CL × AL)} (h : (Reg.row lo hi v 38 6 l.length (ansC l)).A W) : ∃ a c, v = .slice a l.length c ∧ Rd alC 6 W a l.length (l.map Prod.snd) := by
  refine rd_of_own (f := alC) (sz := 6) (base := lo) (e := 38) (fun _ => rfl) ?_ (List.length_map _)
  rw [← ansC_map]
  exact h.1
theorem an_rd' {W : World} {lo hi n c : Nat} {a : Option Addr} {l : List (CL × AL)} (h : (Reg.row lo hi (.slice a n c) 38 6 l.length (ansC l)).A W) : Rd alC 6 W a l.length (l.map Prod.snd) := by
  obtain ⟨a', c', he, hr⟩ := an_rd h
  cases he
  exact hr
def GInv (w : World) (g : Nat) (a : Option Addr) (n c : Nat) (v5 v6 v7 v8 v9 v10 : Value) (wr : World) : Prop :=
  ∃ (k p e : Nat) (h : Int) (ps : List PL) (lo1 hi1 lo2 hi2 lo3 hi3 : Nat), k ≤ 40 ∧ v10 = .int .i64 k ∧ v5 = .int .i64 e ∧ v6 = .int .i64 h ∧ 1 ≤ e ∧ e ≤ k + 1 ∧ (h = 1 ∨ h = 2) ∧ p ≤ n ∧ ps.length ≤ k ∧ runC ⟨1, 1⟩ (askedL ⟨1, 1⟩ ps) = ⟨e, h⟩ ∧
  St w.heap.size w wr [Reg.box (g + 1) (clO ⟨e, h⟩), Reg.box g (inObj a n c p), Reg.row lo1 hi1 v7 36 3 ps.length (ps.flatMap plC), Reg.row lo2 hi2 v8 38 6 (askedL ⟨1, 1⟩ ps).length (ansC (askedL ⟨1, 1⟩ ps)), Reg.row lo3 hi3 v9 25 2 (grantsL (askedL ⟨1, 1⟩ ps)).length ((grantsL (askedL ⟨1, 1⟩ ps)).flatMap clC)]

set_option maxRecDepth 100000 in
set_option maxHeartbeats 4000000 in
theorem granted_any (a : Option Addr) (n c : Nat) (l : List Int) (w : World) (hl : RdB w a n l) (hb : ∀ x ∈ l, 0 ≤ x ∧ x ≤ 255) : Calls Try.prog 3 #[.slice a n c] w fun e w' => e = .returned (.bool true) ∧ Below w.heap.size w w' := by
  have HL := Lib.hid hl
  have HB := Lib.hid hb
  clear hl hb
  have HS := Lib.hid (St.refl w)
  go_enter Try.func3, Try.ntmps3
  go_wp2_with (go_at_call 8; refine (new_any _).mono ?_; rintro e w1 ⟨rfl, hb⟩)
  have hs := ((((((HS.out.ext hb).alloc (.cells #[.slice a n c, .int .i64 0] 29)).alloc (clO ⟨1, 1⟩)).rowNil 25 2).down2.rowNil 38 6).down2.rowNil 36 3).down2
  have HS2 := Lib.hid hs
  clear hs HS hb
  simp only [World.size_alloc] at HS2 ⊢
  generalize hg : w1.heap.size = g at *
  go_loopw [5, 6, 7, 8, 9, 10] (fun v5 v6 v7 v8 v9 v10 wr => GInv w g a n c v5 v6 v7 v8 v9 v10 wr) (fun v5 v6 v7 v8 v9 v10 _ => 40 - (intOf v10).toNat)
  case atStart => exact ⟨0, 0, 1, 1, [], _, _, _, _, _, _, Nat.zero_le _, rfl, rfl, rfl, Nat.le_refl _, Nat.le_refl _, .inl rfl, Nat.zero_le _, Nat.le_refl _, rfl, HS2.out⟩
  clear HS2 hg
  case round =>
    obtain ⟨k, p, e, h, ps, lo1, hi1, lo2, hi2, lo3, hi3, hk, rfl, rfl, rfl, he1, he2, hh, hp, hlen, hrun, hst⟩ := hrel
    have HR := Lib.hid hrun
    have HS := Lib.hid hst
    clear hrun hst
    obtain ⟨c_0, c_1, c_f, c_l⟩ := cells2 (St.get0 HS.out)
    by_cases hk40 : k < 40
    · by_cases hpn : p < n
      · go_wp2_with fail
        refine (more_any g a n c p _ (St.reg1 HS.out)).mono ?_
        rintro en w2 ⟨rfl, q, rfl⟩
        rw [show decide (p < n) = true from decide_eq_true hpn]
        first | have HSm := (HS.out.drewN q)
        try simp only [World.size_alloc, World.size_setCell, World.size_drew, size_drewN, List.setIfInBounds_toArray, List.set_cons_zero, List.set_cons_succ] at HSm
        have HSn := Lib.hid HSm
        clear HSm
        clear c_0 c_1 c_f c_l
        clear HS
        have HS := HSn
        clear HSn
        obtain ⟨c_0, c_1, c_f, c_l⟩ := cells2 (St.get0 HS.out)
        have hg : w.heap.size ≤ g := (HS.out.each (Reg.box g (inObj a n c p)) (by simp)).1
        have HNE : Hid (∀ x, a = some x → x.block ≠ g) := Lib.hid (by
          obtain ⟨b, off, rfl, hlt⟩ := Rd.lt HL.out (by simp [byteC]) (by omega : 0 < n)
          intro x hx
          cases hx
          simp only
          omega)
        clear hg hpn
        go_wp2_with fail
        refine (next_any g a n c p l 4 _ (St.reg1 HS.out) (HL.out.st HS.out) HB.out HNE.out (by decide) (by decide) hp).mono ?_
        rintro en w_x ⟨rfl, hu⟩
        first | have HSm := (HS.out.upd1 hu)
        try simp only [World.size_alloc, World.size_setCell, World.size_drew, size_drewN, List.setIfInBounds_toArray, List.set_cons_zero, List.set_cons_succ] at HSm
        have HSn := Lib.hid HSm
        clear HSm
        clear c_0 c_1 c_f c_l
        clear HS
        have HS := HSn
        clear HSn
        obtain ⟨c_0, c_1, c_f, c_l⟩ := cells2 (St.get0 HS.out)
        clear hu
        have hp2 : nextP l p ≤ n := by have := nextP_le l p (by rw [HL.out.1]; exact hp); rwa [HL.out.1] at this
        obtain ⟨x0, x1⟩ := nextV_bd l p 4 HB.out (by decide)
        generalize nextP l p = xp at HS hp2 ⊢
        generalize nextV l p 4 = x at x0 x1 ⊢
        clear hp
        have hp := hp2
        clear hp2
        go_wp2_with fail
        refine (next_any g a n c xp l 4 _ (St.reg1 HS.out) (HL.out.st HS.out) HB.out HNE.out (by decide) (by decide) hp).mono ?_
        rintro en w_y ⟨rfl, hu⟩
        first | have HSm := (HS.out.upd1 hu)
        try simp only [World.size_alloc, World.size_setCell, World.size_drew, size_drewN, List.setIfInBounds_toArray, List.set_cons_zero, List.set_cons_succ] at HSm
        have HSn := Lib.hid HSm
        clear HSm
        clear c_0 c_1 c_f c_l
        clear HS
        have HS := HSn
        clear HSn
        obtain ⟨c_0, c_1, c_f, c_l⟩ := cells2 (St.get0 HS.out)
        clear hu
        have hp2 : nextP l xp ≤ n := by have := nextP_le l xp (by rw [HL.out.1]; exact hp); rwa [HL.out.1] at this
        obtain ⟨y0, y1⟩ := nextV_bd l xp 4 HB.out (by decide)
        generalize nextP l xp = yp at HS hp2 ⊢
        generalize nextV l xp 4 = y at y0 y1 ⊢
        clear hp
        have hp := hp2
        clear hp2
        have Hcl : Hid (cellErr (e : Int) h = 0) := Lib.hid (by unfold cellErr; rw [if_pos]; simp [epochB, nodeB]; omega)
        by_cases hA : (e : Int) + y ≤ 2
        · go_wp2_with fail
          refine (next_any g a n c yp l 3 _ (St.reg1 HS.out) (HL.out.st HS.out) HB.out HNE.out (by decide) (by decide) hp).mono ?_
          rintro en w_z ⟨rfl, hu⟩
          first | have HSm := (HS.out.upd1 hu)
          try simp only [World.size_alloc, World.size_setCell, World.size_drew, size_drewN, List.setIfInBounds_toArray, List.set_cons_zero, List.set_cons_succ] at HSm
          have HSn := Lib.hid HSm
          clear HSm
          clear c_0 c_1 c_f c_l
          clear HS
          have HS := HSn
          clear HSn
          obtain ⟨c_0, c_1, c_f, c_l⟩ := cells2 (St.get0 HS.out)
          clear hu
          have hp2 : nextP l yp ≤ n := by have := nextP_le l yp (by rw [HL.out.1]; exact hp); rwa [HL.out.1] at this
          obtain ⟨z0, z1⟩ := nextV_bd l yp 3 HB.out (by decide)
          generalize nextP l yp = zp at HS hp2 ⊢
          generalize nextV l yp 3 = z at z0 z1 ⊢
          clear hp
          have hp := hp2
          clear hp2
          go_upto_region 13 with (fail)
          first | have HSm := (HS.out.alloc (.cells #[.int .i64 x, .int .u64 0, .int .u64 z] 36))
          try simp only [World.size_alloc, World.size_setCell, World.size_drew, size_drewN, List.setIfInBounds_toArray, List.set_cons_zero, List.set_cons_succ] at HSm
          have HSn := Lib.hid HSm
          clear HSm
          clear c_0 c_1 c_f c_l
          clear HS
          have HS := HSn
          clear HSn
          generalize w_z.alloc (.cells #[.int .i64 x, .int .u64 0, .int .u64 z] 36) = w5 at HS ⊢
          generalize w_z.heap.size = bp at HS ⊢
          obtain ⟨p_0, p_1, p_2, p_f, p_l⟩ := cells3 (St.get0 HS.out)
          obtain ⟨c_0, c_1, c_f, c_l⟩ := cells2 (St.get1 HS.out)
          go_wp2_with (at_builtin; refine wpList_append1 rfl _ _ _ rfl _ 24 Try.underlying30 Try.info36 rfl (by decide) HS.out.up3 _ rfl rfl rfl (by simp [Value.oneCell']) (by unfold maxLen; omega) (by omega) ?_; intro g_pl cap_pl w_pl lo_pl hi_pl hst hcap_pl; replace HS := Lib.hid hst.down3; clear hst p_0 p_1 p_2 p_f p_l c_0 c_1 c_f c_l; obtain ⟨p_0, p_1, p_2, p_f, p_l⟩ := cells3 (St.get0 HS.out); obtain ⟨c_0, c_1, c_f, c_l⟩ := cells2 (St.get1 HS.out))
          have Hpl : Hid (pleaErr x 0 z = 2) := Lib.hid (by unfold pleaErr; rw [if_neg]; simp [nodeB, epochB] <;> omega)
          refine (ask_bad e h x 0 z _ Hcl.out Hpl.out).mono ?_
          rintro en w7 ⟨rfl, hb⟩
          first | have HSm := HS.out.ext hb | have HSm := HS.out.drew.ext hb | have HSm := (HS.out.drewN _).ext hb | have HSm := HS.out.drew.drew.ext hb
          try simp only [World.size_alloc, World.size_setCell, World.size_drew, size_drewN, List.setIfInBounds_toArray, List.set_cons_zero, List.set_cons_succ] at HSm
          have HSn := Lib.hid HSm
          clear HSm
          clear p_0 p_1 p_2 p_f p_l c_0 c_1 c_f c_l
          clear HS
          have HS := HSn
          clear HSn
          obtain ⟨p_0, p_1, p_2, p_f, p_l⟩ := cells3 (St.get0 HS.out)
          obtain ⟨c_0, c_1, c_f, c_l⟩ := cells2 (St.get1 HS.out)
          clear hb
          go_wp2_with fail
          all_goals
            refine (checkPlea_any x 0 z _).mono ?_
            rintro en w8 ⟨rfl, hb⟩
            rw [Hpl.out]
            first | have HSm := ((HS.out.alloc _).alloc _).ext hb | have HSm := ((HS.out.alloc _).alloc _).drew.ext hb | have HSm := (((HS.out.alloc _).alloc _).drewN _).ext hb | have HSm := ((HS.out.alloc _).alloc _).drew.drew.ext hb
            try simp only [World.size_alloc, World.size_setCell, World.size_drew, size_drewN, List.setIfInBounds_toArray, List.set_cons_zero, List.set_cons_succ] at HSm
            have HSn := Lib.hid HSm
            clear HSm
            clear p_0 p_1 p_2 p_f p_l c_0 c_1 c_f c_l
            clear HS
            have HS := HSn
            clear HSn
            clear hb
            go_wp2_with fail
            go_roundw
            case rel =>
              have hb := asked_bad (c := ⟨1, 1⟩) (ps := ps) (p := ⟨x, 0, z⟩) (by intro h0; have := Hpl.out; unfold plOk at h0; simp only at h0; omega)
              refine ⟨k + 1, zp, e, h, ps ++ [⟨x, 0, z⟩], lo_pl, hi_pl, lo2, hi2, lo3, hi3, by omega, by go_num, rfl, rfl, he1, by omega, hh, hp, by simp; omega, by rw [hb]; exact HR.out, ?_⟩
              rw [hb, List.length_append, List.flatMap_append, List.flatMap_singleton]
              exact HS.out.drop.drop.drop
            case measure => simp [intOf]; omega
        · obtain ⟨t, ht⟩ : ∃ t : Int, (e : Int) + y - 2 = t := ⟨_, rfl⟩
          have t1 : 1 ≤ t := by omega
          have t2 : t ≤ 100 := by omega
          go_wp2_with fail
          clear ht hA
          by_cases hx : 1 ≤ x ∧ x ≤ 2
          · obtain ⟨hx1, hx2⟩ := hx
            refine (next_any g a n c yp l 3 _ (St.reg1 HS.out) (HL.out.st HS.out) HB.out HNE.out (by decide) (by decide) hp).mono ?_
            rintro en w_z ⟨rfl, hu⟩
            first | have HSm := (HS.out.upd1 hu)
            try simp only [World.size_alloc, World.size_setCell, World.size_drew, size_drewN, List.setIfInBounds_toArray, List.set_cons_zero, List.set_cons_succ] at HSm
            have HSn := Lib.hid HSm
            clear HSm
            clear c_0 c_1 c_f c_l
            clear HS
            have HS := HSn
            clear HSn
            obtain ⟨c_0, c_1, c_f, c_l⟩ := cells2 (St.get0 HS.out)
            clear hu
            have hp2 : nextP l yp ≤ n := by have := nextP_le l yp (by rw [HL.out.1]; exact hp); rwa [HL.out.1] at this
            obtain ⟨z0, z1⟩ := nextV_bd l yp 3 HB.out (by decide)
            generalize nextP l yp = zp at HS hp2 ⊢
            generalize nextV l yp 3 = z at z0 z1 ⊢
            clear hp
            have hp := hp2
            clear hp2
            go_upto_region 13 with (fail)
            first | have HSm := (HS.out.alloc (.cells #[.int .i64 x, .int .u64 t, .int .u64 z] 36))
            try simp only [World.size_alloc, World.size_setCell, World.size_drew, size_drewN, List.setIfInBounds_toArray, List.set_cons_zero, List.set_cons_succ] at HSm
            have HSn := Lib.hid HSm
            clear HSm
            clear c_0 c_1 c_f c_l
            clear HS
            have HS := HSn
            clear HSn
            generalize w_z.alloc (.cells #[.int .i64 x, .int .u64 t, .int .u64 z] 36) = w5 at HS ⊢
            generalize w_z.heap.size = bp at HS ⊢
            obtain ⟨p_0, p_1, p_2, p_f, p_l⟩ := cells3 (St.get0 HS.out)
            obtain ⟨c_0, c_1, c_f, c_l⟩ := cells2 (St.get1 HS.out)
            go_wp2_with (at_builtin; refine wpList_append1 rfl _ _ _ rfl _ 24 Try.underlying30 Try.info36 rfl (by decide) HS.out.up3 _ rfl rfl rfl (by simp [Value.oneCell']) (by unfold maxLen; omega) (by omega) ?_; intro g_pl cap_pl w_pl lo_pl hi_pl hst hcap_pl; replace HS := Lib.hid hst.down3; clear hst p_0 p_1 p_2 p_f p_l c_0 c_1 c_f c_l; obtain ⟨p_0, p_1, p_2, p_f, p_l⟩ := cells3 (St.get0 HS.out); obtain ⟨c_0, c_1, c_f, c_l⟩ := cells2 (St.get1 HS.out))
            have Hpl : Hid (pleaErr x t z = 0) := Lib.hid (by unfold pleaErr; rw [if_pos]; simp [nodeB, epochB] <;> omega)
            by_cases hC : t = (e : Int)
            · subst hC
              have hN : askN ⟨e, h⟩ ⟨x, (e : Int), z⟩ = ⟨(e : Int) + 1, x⟩ := by simp only [askN]; rw [if_pos]; simp [epochB] <;> omega
              have hG : askG ⟨e, h⟩ ⟨x, (e : Int), z⟩ = true := by simp [askG, epochB]; omega
              have HA := Lib.hid (show askA ⟨e, h⟩ ⟨x, (e : Int), z⟩ = ⟨⟨x, (e : Int), z⟩, true, ⟨(e : Int) + 1, x⟩⟩ by simp only [askA, hN, hG])
              refine (ask_good ⟨e, h⟩ ⟨x, (e : Int), z⟩ _ Hcl.out Hpl.out).mono ?_
              rintro en w7 ⟨rfl, hb⟩
              rw [hN, HA.out]
              clear hN hG
              dsimp only
              first | have HSm := HS.out.ext hb | have HSm := HS.out.drew.ext hb | have HSm := (HS.out.drewN _).ext hb | have HSm := HS.out.drew.drew.ext hb
              try simp only [World.size_alloc, World.size_setCell, World.size_drew, size_drewN, List.setIfInBounds_toArray, List.set_cons_zero, List.set_cons_succ] at HSm
              have HSn := Lib.hid HSm
              clear HSm
              clear p_0 p_1 p_2 p_f p_l c_0 c_1 c_f c_l
              clear HS
              have HS := HSn
              clear HSn
              obtain ⟨p_0, p_1, p_2, p_f, p_l⟩ := cells3 (St.get0 HS.out)
              obtain ⟨c_0, c_1, c_f, c_l⟩ := cells2 (St.get1 HS.out)
              clear hb
              go_upto_region 21 with (fail)
              first | have HSm := ((HS.out.alloc (.cells #[.int .u64 ((e : Int) + 1), .int .i64 x] 25)).alloc (.cells #[.int .i64 x, .int .u64 ((e : Int)), .int .u64 z, .bool true, .int .u64 ((e : Int) + 1), .int .i64 x] 38))
              try simp only [World.size_alloc, World.size_setCell, World.size_drew, size_drewN, List.setIfInBounds_toArray, List.set_cons_zero, List.set_cons_succ] at HSm
              have HSn := Lib.hid HSm
              clear HSm
              clear p_0 p_1 p_2 p_f p_l c_0 c_1 c_f c_l
              clear HS
              have HS := HSn
              clear HSn
              generalize ((w7.alloc (.cells #[.int .u64 ((e : Int) + 1), .int .i64 x] 25)).alloc (.cells #[.int .i64 x, .int .u64 ((e : Int)), .int .u64 z, .bool true, .int .u64 ((e : Int) + 1), .int .i64 x] 38)) = w8 at HS ⊢
              obtain ⟨a_0, a_1, a_2, a_3, a_4, a_5, a_f, a_l⟩ := cells6 (St.get0 HS.out)
              obtain ⟨nx_0, nx_1, nx_f, nx_l⟩ := cells2 (St.get1 HS.out)
              obtain ⟨p_0, p_1, p_2, p_f, p_l⟩ := cells3 (St.get2 HS.out)
              obtain ⟨c_0, c_1, c_f, c_l⟩ := cells2 (St.get3 HS.out)
              have hgl := grantsL_len (askedL ⟨1, 1⟩ ps)
              have hal := askedL_len ⟨1, 1⟩ ps
              go_upto_region 23 with (at_builtin; refine wpList_append1 rfl _ _ _ rfl _ 16 Try.underlying32 Try.info25 rfl (by decide) HS.out.up7 _ rfl rfl rfl (by simp [Value.oneCell']) (by unfold maxLen; omega) (by omega) ?_; intro g_gr cap_gr w_gr lo_gr hi_gr hst hcap_gr; replace HS := Lib.hid hst.down7; clear hst a_0 a_1 a_2 a_3 a_4 a_5 a_f a_l nx_0 nx_1 nx_f nx_l p_0 p_1 p_2 p_f p_l c_0 c_1 c_f c_l; obtain ⟨p_0, p_1, p_2, p_f, p_l⟩ := cells3 (St.get2 HS.out); obtain ⟨c_0, c_1, c_f, c_l⟩ := cells2 (St.get3 HS.out); obtain ⟨nx_0, nx_1, nx_f, nx_l⟩ := cells2 (St.get1 HS.out); obtain ⟨a_0, a_1, a_2, a_3, a_4, a_5, a_f, a_l⟩ := cells6 (St.get0 HS.out))
              first | have HSm := ((HS.out.set3 (o := 0) (.int .u64 ((e : Int) + 1))).set3 (o := 1) (.int .i64 x))
              try simp only [World.size_alloc, World.size_setCell, World.size_drew, size_drewN, List.setIfInBounds_toArray, List.set_cons_zero, List.set_cons_succ] at HSm
              have HSn := Lib.hid HSm
              clear HSm
              clear p_0 p_1 p_2 p_f p_l c_0 c_1 c_f c_l nx_0 nx_1 nx_f nx_l a_0 a_1 a_2 a_3 a_4 a_5 a_f a_l
              clear HS
              have HS := HSn
              clear HSn
              generalize (w_gr.setCell ⟨g + 1, 0, none⟩ (.int .u64 ((e : Int) + 1))).setCell ⟨g + 1, 1, none⟩ (.int .i64 x) = w9 at HS ⊢
              obtain ⟨a_0, a_1, a_2, a_3, a_4, a_5, a_f, a_l⟩ := cells6 (St.get0 HS.out)
              obtain ⟨nx_0, nx_1, nx_f, nx_l⟩ := cells2 (St.get1 HS.out)
              obtain ⟨p_0, p_1, p_2, p_f, p_l⟩ := cells3 (St.get2 HS.out)
              obtain ⟨c_0, c_1, c_f, c_l⟩ := cells2 (St.get3 HS.out)
              go_wp2_with (at_builtin; refine wpList_append1 rfl _ _ _ rfl _ 48 Try.underlying31 Try.info38 rfl (by decide) HS.out.up6 _ rfl rfl rfl (by simp [Value.oneCell']) (by unfold maxLen; omega) (by omega) ?_; intro g_an cap_an w_an lo_an hi_an hst hcap_an; replace HS := Lib.hid hst.down6; clear hst a_0 a_1 a_2 a_3 a_4 a_5 a_f a_l nx_0 nx_1 nx_f nx_l p_0 p_1 p_2 p_f p_l c_0 c_1 c_f c_l; obtain ⟨c_0, c_1, c_f, c_l⟩ := cells2 (St.get3 HS.out); obtain ⟨nx_0, nx_1, nx_f, nx_l⟩ := cells2 (St.get1 HS.out); obtain ⟨a_0, a_1, a_2, a_3, a_4, a_5, a_f, a_l⟩ := cells6 (St.get0 HS.out))
              obtain ⟨m, hm⟩ : ∃ m, (askedL ⟨1, 1⟩ ps).length = m := ⟨_, rfl⟩
              have hal2 := ansC_len (askedL ⟨1, 1⟩ ps)
              rw [hm] at HS hal hal2 ⊢
              obtain ⟨l_0, l_1, l_2, l_3, l_4, l_5⟩ := last_cells (St.reg6 HS.out) hal2
              have knx_0 := cell_regrown nx_0
              have knx_1 := cell_regrown nx_1
              have kc_0 := cell_regrown c_0
              have kc_1 := cell_regrown c_1
              have ka_0 := cell_regrown a_0
              have ka_1 := cell_regrown a_1
              have ka_2 := cell_regrown a_2
              have ka_3 := cell_regrown a_3
              have ka_4 := cell_regrown a_4
              have ka_5 := cell_regrown a_5
              have kl_0 := cell_regrown l_0
              have kl_1 := cell_regrown l_1
              have kl_2 := cell_regrown l_2
              have kl_3 := cell_regrown l_3
              have kl_4 := cell_regrown l_4
              have kl_5 := cell_regrown l_5
              have Hcl2 : cellErr ((e : Int) + 1) x = 0 := by unfold cellErr; rw [if_pos]; simp [epochB, nodeB]; omega
              have cC : ∀ d os, Calls Try.prog 13 #[.agg #[.int .u64 ((e : Int) + 1), .int .i64 x]] (Go.Sort.grow (redrawn w_an d) os) fun en w'' => en = .returned (.int .i64 0) ∧ ∃ p : Regrown, w'' = Go.Sort.grow (redrawn w_an p.d) p.os := fun d os => Calls.regrown_of (by have := check_any ((e : Int) + 1) x (Go.Sort.grow (redrawn w_an d) os); rw [Hcl2] at this; exact this)
              clear Hcl2
              refine wp_region_quiet_below (by kernel_rfl) (by kernel_rfl) ?_
              repeat (go_big_quiet_step (exact cC _ _))
              refine wpQuiet_nil ?_
              intro w10 hw10
              have hb10 : Below w_an.heap.size w_an w10 := by
                obtain ⟨⟨dq, osq⟩, rfl⟩ := hw10
                exact below_regrown w_an dq osq
              clear hw10 cC knx_0 knx_1 kc_0 kc_1 ka_0 ka_1 ka_2 ka_3 ka_4 ka_5 kl_0 kl_1 kl_2 kl_3 kl_4 kl_5 l_0 l_1 l_2 l_3 l_4 l_5
              first | have HSm := (HS.out.ext hb10)
              try simp only [World.size_alloc, World.size_setCell, World.size_drew, size_drewN, List.setIfInBounds_toArray, List.set_cons_zero, List.set_cons_succ] at HSm
              have HSn := Lib.hid HSm
              clear HSm
              clear c_0 c_1 c_f c_l nx_0 nx_1 nx_f nx_l a_0 a_1 a_2 a_3 a_4 a_5 a_f a_l
              clear HS
              have HS := HSn
              clear HSn
              clear hb10
              go_wp2_with fail
              go_roundw
              case rel =>
                have hpl : plOk ⟨x, (e : Int), z⟩ := Hpl.out
                have hb := asked_ok (c := ⟨1, 1⟩) (ps := ps) (p := ⟨x, (e : Int), z⟩) hpl HR.out
                rw [HA.out] at hb
                have hgs := grantsL_snoc (askedL ⟨1, 1⟩ ps) (⟨e, h⟩, ⟨⟨x, (e : Int), z⟩, true, ⟨(e : Int) + 1, x⟩⟩)
                rw [if_neg (by simp; omega)] at hgs
                refine ⟨k + 1, zp, e + 1, x, ps ++ [⟨x, (e : Int), z⟩], lo_pl, hi_pl, lo_an, hi_an, lo_gr, hi_gr, by omega, by go_num, by go_num, rfl, by omega, by omega, by omega, hp, by simp; omega, by rw [hb, runC_snoc]; rfl, ?_⟩
                rw [hb, hgs, List.length_append, List.flatMap_append, List.flatMap_singleton, List.length_append, ansC_snoc, List.length_append, List.flatMap_append, List.flatMap_singleton, hm]
                exact HS.out.drop.drop.drop
              case measure => simp [intOf]; omega
            · by_cases hD : t + 1 = (e : Int)
              · by_cases hxh : x = h
                · subst hxh
                  have hN : askN ⟨e, x⟩ ⟨x, t, z⟩ = ⟨e, x⟩ := by simp only [askN]; rw [if_neg]; simp [epochB] <;> omega
                  have hG : askG ⟨e, x⟩ ⟨x, t, z⟩ = true := by simp only [askG]; exact decide_eq_true (Or.inr ⟨by omega, trivial⟩)
                  have HA := Lib.hid (show askA ⟨e, x⟩ ⟨x, t, z⟩ = ⟨⟨x, t, z⟩, true, ⟨e, x⟩⟩ by simp only [askA, hN, hG])
                  refine (ask_good ⟨e, x⟩ ⟨x, t, z⟩ _ Hcl.out Hpl.out).mono ?_
                  rintro en w7 ⟨rfl, hb⟩
                  rw [hN, HA.out]
                  clear hN hG
                  dsimp only
                  first | have HSm := HS.out.ext hb | have HSm := HS.out.drew.ext hb | have HSm := (HS.out.drewN _).ext hb | have HSm := HS.out.drew.drew.ext hb
                  try simp only [World.size_alloc, World.size_setCell, World.size_drew, size_drewN, List.setIfInBounds_toArray, List.set_cons_zero, List.set_cons_succ] at HSm
                  have HSn := Lib.hid HSm
                  clear HSm
                  clear p_0 p_1 p_2 p_f p_l c_0 c_1 c_f c_l
                  clear HS
                  have HS := HSn
                  clear HSn
                  obtain ⟨p_0, p_1, p_2, p_f, p_l⟩ := cells3 (St.get0 HS.out)
                  obtain ⟨c_0, c_1, c_f, c_l⟩ := cells2 (St.get1 HS.out)
                  clear hb
                  go_upto_region 22 with (fail)
                  have hal := askedL_len ⟨1, 1⟩ ps
                  first | have HSm := ((HS.out.alloc (.cells #[.int .u64 (e), .int .i64 x] 25)).alloc (.cells #[.int .i64 x, .int .u64 (t), .int .u64 z, .bool true, .int .u64 (e), .int .i64 x] 38))
                  try simp only [World.size_alloc, World.size_setCell, World.size_drew, size_drewN, List.setIfInBounds_toArray, List.set_cons_zero, List.set_cons_succ] at HSm
                  have HSn := Lib.hid HSm
                  clear HSm
                  clear p_0 p_1 p_2 p_f p_l c_0 c_1 c_f c_l
                  clear HS
                  have HS := HSn
                  clear HSn
                  generalize ((w7.alloc (.cells #[.int .u64 (e), .int .i64 x] 25)).alloc (.cells #[.int .i64 x, .int .u64 (t), .int .u64 z, .bool true, .int .u64 (e), .int .i64 x] 38)) = w8 at HS ⊢
                  obtain ⟨c_0, c_1, c_f, c_l⟩ := cells2 (St.get3 HS.out)
                  go_upto_region 23 with (fail)
                  first | have HSm := ((HS.out.set3 (o := 0) (.int .u64 (e))).set3 (o := 1) (.int .i64 x))
                  try simp only [World.size_alloc, World.size_setCell, World.size_drew, size_drewN, List.setIfInBounds_toArray, List.set_cons_zero, List.set_cons_succ] at HSm
                  have HSn := Lib.hid HSm
                  clear HSm
                  clear c_0 c_1 c_f c_l
                  clear HS
                  have HS := HSn
                  clear HSn
                  generalize (w8.setCell ⟨g + 1, 0, none⟩ (.int .u64 (e))).setCell ⟨g + 1, 1, none⟩ (.int .i64 x) = w9 at HS ⊢
                  obtain ⟨a_0, a_1, a_2, a_3, a_4, a_5, a_f, a_l⟩ := cells6 (St.get0 HS.out)
                  obtain ⟨nx_0, nx_1, nx_f, nx_l⟩ := cells2 (St.get1 HS.out)
                  obtain ⟨p_0, p_1, p_2, p_f, p_l⟩ := cells3 (St.get2 HS.out)
                  obtain ⟨c_0, c_1, c_f, c_l⟩ := cells2 (St.get3 HS.out)
                  go_wp2_with (at_builtin; refine wpList_append1 rfl _ _ _ rfl _ 48 Try.underlying31 Try.info38 rfl (by decide) HS.out.up6 _ rfl rfl rfl (by simp [Value.oneCell']) (by unfold maxLen; omega) (by omega) ?_; intro g_an cap_an w_an lo_an hi_an hst hcap_an; replace HS := Lib.hid hst.down6; clear hst a_0 a_1 a_2 a_3 a_4 a_5 a_f a_l nx_0 nx_1 nx_f nx_l p_0 p_1 p_2 p_f p_l c_0 c_1 c_f c_l; obtain ⟨c_0, c_1, c_f, c_l⟩ := cells2 (St.get3 HS.out); obtain ⟨nx_0, nx_1, nx_f, nx_l⟩ := cells2 (St.get1 HS.out); obtain ⟨a_0, a_1, a_2, a_3, a_4, a_5, a_f, a_l⟩ := cells6 (St.get0 HS.out))
                  obtain ⟨m, hm⟩ : ∃ m, (askedL ⟨1, 1⟩ ps).length = m := ⟨_, rfl⟩
                  have hal2 := ansC_len (askedL ⟨1, 1⟩ ps)
                  rw [hm] at HS hal hal2 ⊢
                  obtain ⟨l_0, l_1, l_2, l_3, l_4, l_5⟩ := last_cells (St.reg6 HS.out) hal2
                  have knx_0 := cell_regrown nx_0
                  have knx_1 := cell_regrown nx_1
                  have kc_0 := cell_regrown c_0
                  have kc_1 := cell_regrown c_1
                  have ka_0 := cell_regrown a_0
                  have ka_1 := cell_regrown a_1
                  have ka_2 := cell_regrown a_2
                  have ka_3 := cell_regrown a_3
                  have ka_4 := cell_regrown a_4
                  have ka_5 := cell_regrown a_5
                  have kl_0 := cell_regrown l_0
                  have kl_1 := cell_regrown l_1
                  have kl_2 := cell_regrown l_2
                  have kl_3 := cell_regrown l_3
                  have kl_4 := cell_regrown l_4
                  have kl_5 := cell_regrown l_5
                  have Hcl2 : cellErr (e) x = 0 := by unfold cellErr; rw [if_pos]; simp [epochB, nodeB]; omega
                  have cC : ∀ d os, Calls Try.prog 13 #[.agg #[.int .u64 (e), .int .i64 x]] (Go.Sort.grow (redrawn w_an d) os) fun en w'' => en = .returned (.int .i64 0) ∧ ∃ p : Regrown, w'' = Go.Sort.grow (redrawn w_an p.d) p.os := fun d os => Calls.regrown_of (by have := check_any (e) x (Go.Sort.grow (redrawn w_an d) os); rw [Hcl2] at this; exact this)
                  clear Hcl2
                  refine wp_region_quiet_below (by kernel_rfl) (by kernel_rfl) ?_
                  repeat (go_big_quiet_step (exact cC _ _))
                  refine wpQuiet_nil ?_
                  intro w10 hw10
                  have hb10 : Below w_an.heap.size w_an w10 := by
                    obtain ⟨⟨dq, osq⟩, rfl⟩ := hw10
                    exact below_regrown w_an dq osq
                  clear hw10 cC knx_0 knx_1 kc_0 kc_1 ka_0 ka_1 ka_2 ka_3 ka_4 ka_5 kl_0 kl_1 kl_2 kl_3 kl_4 kl_5 l_0 l_1 l_2 l_3 l_4 l_5
                  first | have HSm := (HS.out.ext hb10)
                  try simp only [World.size_alloc, World.size_setCell, World.size_drew, size_drewN, List.setIfInBounds_toArray, List.set_cons_zero, List.set_cons_succ] at HSm
                  have HSn := Lib.hid HSm
                  clear HSm
                  clear c_0 c_1 c_f c_l nx_0 nx_1 nx_f nx_l a_0 a_1 a_2 a_3 a_4 a_5 a_f a_l
                  clear HS
                  have HS := HSn
                  clear HSn
                  clear hb10
                  go_wp2_with fail
                  go_roundw
                  case rel =>
                    have hpl : plOk ⟨x, t, z⟩ := Hpl.out
                    have hb := asked_ok (c := ⟨1, 1⟩) (ps := ps) (p := ⟨x, t, z⟩) hpl HR.out
                    rw [HA.out] at hb
                    have hgs := grantsL_snoc (askedL ⟨1, 1⟩ ps) (⟨e, x⟩, ⟨⟨x, t, z⟩, true, ⟨e, x⟩⟩)
                    rw [if_pos ⟨rfl, rfl⟩] at hgs
                    refine ⟨k + 1, zp, e, x, ps ++ [⟨x, t, z⟩], lo_pl, hi_pl, lo_an, hi_an, lo3, hi3, by omega, by go_num, rfl, rfl, by omega, by omega, hh, hp, by simp; omega, by rw [hb, runC_snoc], ?_⟩
                    rw [hb, hgs, List.length_append, List.flatMap_append, List.flatMap_singleton, List.length_append, ansC_snoc, hm]
                    exact HS.out.drop.drop.drop
                  case measure => simp [intOf]; omega
                · have hN : askN ⟨e, h⟩ ⟨x, t, z⟩ = ⟨e, h⟩ := by simp only [askN]; rw [if_neg]; simp [epochB] <;> omega
                  have hG : askG ⟨e, h⟩ ⟨x, t, z⟩ = false := by
                    simp only [askG, decide_eq_false_iff_not]
                    rintro (⟨h1, -⟩ | ⟨-, h1⟩)
                    · omega
                    · exact hxh h1.symm
                  have HA := Lib.hid (show askA ⟨e, h⟩ ⟨x, t, z⟩ = ⟨⟨x, t, z⟩, false, ⟨e, h⟩⟩ by simp only [askA, hN, hG])
                  refine (ask_good ⟨e, h⟩ ⟨x, t, z⟩ _ Hcl.out Hpl.out).mono ?_
                  rintro en w7 ⟨rfl, hb⟩
                  rw [hN, HA.out]
                  clear hN hG
                  dsimp only
                  first | have HSm := HS.out.ext hb | have HSm := HS.out.drew.ext hb | have HSm := (HS.out.drewN _).ext hb | have HSm := HS.out.drew.drew.ext hb
                  try simp only [World.size_alloc, World.size_setCell, World.size_drew, size_drewN, List.setIfInBounds_toArray, List.set_cons_zero, List.set_cons_succ] at HSm
                  have HSn := Lib.hid HSm
                  clear HSm
                  clear p_0 p_1 p_2 p_f p_l c_0 c_1 c_f c_l
                  clear HS
                  have HS := HSn
                  clear HSn
                  obtain ⟨p_0, p_1, p_2, p_f, p_l⟩ := cells3 (St.get0 HS.out)
                  obtain ⟨c_0, c_1, c_f, c_l⟩ := cells2 (St.get1 HS.out)
                  clear hb
                  go_upto_region 22 with (fail)
                  have hal := askedL_len ⟨1, 1⟩ ps
                  first | have HSm := ((HS.out.alloc (.cells #[.int .u64 (e), .int .i64 h] 25)).alloc (.cells #[.int .i64 x, .int .u64 (t), .int .u64 z, .bool false, .int .u64 (e), .int .i64 h] 38))
                  try simp only [World.size_alloc, World.size_setCell, World.size_drew, size_drewN, List.setIfInBounds_toArray, List.set_cons_zero, List.set_cons_succ] at HSm
                  have HSn := Lib.hid HSm
                  clear HSm
                  clear p_0 p_1 p_2 p_f p_l c_0 c_1 c_f c_l
                  clear HS
                  have HS := HSn
                  clear HSn
                  generalize ((w7.alloc (.cells #[.int .u64 (e), .int .i64 h] 25)).alloc (.cells #[.int .i64 x, .int .u64 (t), .int .u64 z, .bool false, .int .u64 (e), .int .i64 h] 38)) = w8 at HS ⊢
                  obtain ⟨c_0, c_1, c_f, c_l⟩ := cells2 (St.get3 HS.out)
                  go_upto_region 23 with (fail)
                  first | have HSm := ((HS.out.set3 (o := 0) (.int .u64 (e))).set3 (o := 1) (.int .i64 h))
                  try simp only [World.size_alloc, World.size_setCell, World.size_drew, size_drewN, List.setIfInBounds_toArray, List.set_cons_zero, List.set_cons_succ] at HSm
                  have HSn := Lib.hid HSm
                  clear HSm
                  clear c_0 c_1 c_f c_l
                  clear HS
                  have HS := HSn
                  clear HSn
                  generalize (w8.setCell ⟨g + 1, 0, none⟩ (.int .u64 (e))).setCell ⟨g + 1, 1, none⟩ (.int .i64 h) = w9 at HS ⊢
                  obtain ⟨a_0, a_1, a_2, a_3, a_4, a_5, a_f, a_l⟩ := cells6 (St.get0 HS.out)
                  obtain ⟨nx_0, nx_1, nx_f, nx_l⟩ := cells2 (St.get1 HS.out)
                  obtain ⟨p_0, p_1, p_2, p_f, p_l⟩ := cells3 (St.get2 HS.out)
                  obtain ⟨c_0, c_1, c_f, c_l⟩ := cells2 (St.get3 HS.out)
                  go_wp2_with (at_builtin; refine wpList_append1 rfl _ _ _ rfl _ 48 Try.underlying31 Try.info38 rfl (by decide) HS.out.up6 _ rfl rfl rfl (by simp [Value.oneCell']) (by unfold maxLen; omega) (by omega) ?_; intro g_an cap_an w_an lo_an hi_an hst hcap_an; replace HS := Lib.hid hst.down6; clear hst a_0 a_1 a_2 a_3 a_4 a_5 a_f a_l nx_0 nx_1 nx_f nx_l p_0 p_1 p_2 p_f p_l c_0 c_1 c_f c_l; obtain ⟨c_0, c_1, c_f, c_l⟩ := cells2 (St.get3 HS.out); obtain ⟨nx_0, nx_1, nx_f, nx_l⟩ := cells2 (St.get1 HS.out); obtain ⟨a_0, a_1, a_2, a_3, a_4, a_5, a_f, a_l⟩ := cells6 (St.get0 HS.out))
                  obtain ⟨m, hm⟩ : ∃ m, (askedL ⟨1, 1⟩ ps).length = m := ⟨_, rfl⟩
                  have hal2 := ansC_len (askedL ⟨1, 1⟩ ps)
                  rw [hm] at HS hal hal2 ⊢
                  obtain ⟨l_0, l_1, l_2, l_3, l_4, l_5⟩ := last_cells (St.reg6 HS.out) hal2
                  have knx_0 := cell_regrown nx_0
                  have knx_1 := cell_regrown nx_1
                  have kc_0 := cell_regrown c_0
                  have kc_1 := cell_regrown c_1
                  have ka_0 := cell_regrown a_0
                  have ka_1 := cell_regrown a_1
                  have ka_2 := cell_regrown a_2
                  have ka_3 := cell_regrown a_3
                  have ka_4 := cell_regrown a_4
                  have ka_5 := cell_regrown a_5
                  have kl_0 := cell_regrown l_0
                  have kl_1 := cell_regrown l_1
                  have kl_2 := cell_regrown l_2
                  have kl_3 := cell_regrown l_3
                  have kl_4 := cell_regrown l_4
                  have kl_5 := cell_regrown l_5
                  have Hcl2 : cellErr (e) h = 0 := by unfold cellErr; rw [if_pos]; simp [epochB, nodeB]; omega
                  have cC : ∀ d os, Calls Try.prog 13 #[.agg #[.int .u64 (e), .int .i64 h]] (Go.Sort.grow (redrawn w_an d) os) fun en w'' => en = .returned (.int .i64 0) ∧ ∃ p : Regrown, w'' = Go.Sort.grow (redrawn w_an p.d) p.os := fun d os => Calls.regrown_of (by have := check_any (e) h (Go.Sort.grow (redrawn w_an d) os); rw [Hcl2] at this; exact this)
                  clear Hcl2
                  refine wp_region_quiet_below (by kernel_rfl) (by kernel_rfl) ?_
                  repeat (go_big_quiet_step (exact cC _ _))
                  refine wpQuiet_nil ?_
                  intro w10 hw10
                  have hb10 : Below w_an.heap.size w_an w10 := by
                    obtain ⟨⟨dq, osq⟩, rfl⟩ := hw10
                    exact below_regrown w_an dq osq
                  clear hw10 cC knx_0 knx_1 kc_0 kc_1 ka_0 ka_1 ka_2 ka_3 ka_4 ka_5 kl_0 kl_1 kl_2 kl_3 kl_4 kl_5 l_0 l_1 l_2 l_3 l_4 l_5
                  first | have HSm := (HS.out.ext hb10)
                  try simp only [World.size_alloc, World.size_setCell, World.size_drew, size_drewN, List.setIfInBounds_toArray, List.set_cons_zero, List.set_cons_succ] at HSm
                  have HSn := Lib.hid HSm
                  clear HSm
                  clear c_0 c_1 c_f c_l nx_0 nx_1 nx_f nx_l a_0 a_1 a_2 a_3 a_4 a_5 a_f a_l
                  clear HS
                  have HS := HSn
                  clear HSn
                  clear hb10
                  go_wp2_with fail
                  go_roundw
                  case rel =>
                    have hpl : plOk ⟨x, t, z⟩ := Hpl.out
                    have hb := asked_ok (c := ⟨1, 1⟩) (ps := ps) (p := ⟨x, t, z⟩) hpl HR.out
                    rw [HA.out] at hb
                    have hgs := grantsL_snoc (askedL ⟨1, 1⟩ ps) (⟨e, h⟩, ⟨⟨x, t, z⟩, false, ⟨e, h⟩⟩)
                    rw [if_pos ⟨rfl, rfl⟩] at hgs
                    refine ⟨k + 1, zp, e, h, ps ++ [⟨x, t, z⟩], lo_pl, hi_pl, lo_an, hi_an, lo3, hi3, by omega, by go_num, rfl, rfl, by omega, by omega, hh, hp, by simp; omega, by rw [hb, runC_snoc], ?_⟩
                    rw [hb, hgs, List.length_append, List.flatMap_append, List.flatMap_singleton, List.length_append, ansC_snoc, hm]
                    rw [show (x == h) = false by simpa using hxh] at HS
                    exact HS.out.drop.drop.drop
                  case measure => simp [intOf]; omega
              · have hN : askN ⟨e, h⟩ ⟨x, t, z⟩ = ⟨e, h⟩ := by simp only [askN]; rw [if_neg]; simp [epochB] <;> omega
                have hG : askG ⟨e, h⟩ ⟨x, t, z⟩ = false := by
                  simp only [askG, decide_eq_false_iff_not]
                  rintro (⟨h1, -⟩ | ⟨h1, -⟩)
                  · omega
                  · omega
                have HA := Lib.hid (show askA ⟨e, h⟩ ⟨x, t, z⟩ = ⟨⟨x, t, z⟩, false, ⟨e, h⟩⟩ by simp only [askA, hN, hG])
                refine (ask_good ⟨e, h⟩ ⟨x, t, z⟩ _ Hcl.out Hpl.out).mono ?_
                rintro en w7 ⟨rfl, hb⟩
                rw [hN, HA.out]
                clear hN hG
                dsimp only
                first | have HSm := HS.out.ext hb | have HSm := HS.out.drew.ext hb | have HSm := (HS.out.drewN _).ext hb | have HSm := HS.out.drew.drew.ext hb
                try simp only [World.size_alloc, World.size_setCell, World.size_drew, size_drewN, List.setIfInBounds_toArray, List.set_cons_zero, List.set_cons_succ] at HSm
                have HSn := Lib.hid HSm
                clear HSm
                clear p_0 p_1 p_2 p_f p_l c_0 c_1 c_f c_l
                clear HS
                have HS := HSn
                clear HSn
                obtain ⟨p_0, p_1, p_2, p_f, p_l⟩ := cells3 (St.get0 HS.out)
                obtain ⟨c_0, c_1, c_f, c_l⟩ := cells2 (St.get1 HS.out)
                clear hb
                go_upto_region 22 with (fail)
                have hal := askedL_len ⟨1, 1⟩ ps
                first | have HSm := ((HS.out.alloc (.cells #[.int .u64 (e), .int .i64 h] 25)).alloc (.cells #[.int .i64 x, .int .u64 (t), .int .u64 z, .bool false, .int .u64 (e), .int .i64 h] 38))
                try simp only [World.size_alloc, World.size_setCell, World.size_drew, size_drewN, List.setIfInBounds_toArray, List.set_cons_zero, List.set_cons_succ] at HSm
                have HSn := Lib.hid HSm
                clear HSm
                clear p_0 p_1 p_2 p_f p_l c_0 c_1 c_f c_l
                clear HS
                have HS := HSn
                clear HSn
                generalize ((w7.alloc (.cells #[.int .u64 (e), .int .i64 h] 25)).alloc (.cells #[.int .i64 x, .int .u64 (t), .int .u64 z, .bool false, .int .u64 (e), .int .i64 h] 38)) = w8 at HS ⊢
                obtain ⟨c_0, c_1, c_f, c_l⟩ := cells2 (St.get3 HS.out)
                go_upto_region 23 with (fail)
                first | have HSm := ((HS.out.set3 (o := 0) (.int .u64 (e))).set3 (o := 1) (.int .i64 h))
                try simp only [World.size_alloc, World.size_setCell, World.size_drew, size_drewN, List.setIfInBounds_toArray, List.set_cons_zero, List.set_cons_succ] at HSm
                have HSn := Lib.hid HSm
                clear HSm
                clear c_0 c_1 c_f c_l
                clear HS
                have HS := HSn
                clear HSn
                generalize (w8.setCell ⟨g + 1, 0, none⟩ (.int .u64 (e))).setCell ⟨g + 1, 1, none⟩ (.int .i64 h) = w9 at HS ⊢
                obtain ⟨a_0, a_1, a_2, a_3, a_4, a_5, a_f, a_l⟩ := cells6 (St.get0 HS.out)
                obtain ⟨nx_0, nx_1, nx_f, nx_l⟩ := cells2 (St.get1 HS.out)
                obtain ⟨p_0, p_1, p_2, p_f, p_l⟩ := cells3 (St.get2 HS.out)
                obtain ⟨c_0, c_1, c_f, c_l⟩ := cells2 (St.get3 HS.out)
                go_wp2_with (at_builtin; refine wpList_append1 rfl _ _ _ rfl _ 48 Try.underlying31 Try.info38 rfl (by decide) HS.out.up6 _ rfl rfl rfl (by simp [Value.oneCell']) (by unfold maxLen; omega) (by omega) ?_; intro g_an cap_an w_an lo_an hi_an hst hcap_an; replace HS := Lib.hid hst.down6; clear hst a_0 a_1 a_2 a_3 a_4 a_5 a_f a_l nx_0 nx_1 nx_f nx_l p_0 p_1 p_2 p_f p_l c_0 c_1 c_f c_l; obtain ⟨c_0, c_1, c_f, c_l⟩ := cells2 (St.get3 HS.out); obtain ⟨nx_0, nx_1, nx_f, nx_l⟩ := cells2 (St.get1 HS.out); obtain ⟨a_0, a_1, a_2, a_3, a_4, a_5, a_f, a_l⟩ := cells6 (St.get0 HS.out))
                obtain ⟨m, hm⟩ : ∃ m, (askedL ⟨1, 1⟩ ps).length = m := ⟨_, rfl⟩
                have hal2 := ansC_len (askedL ⟨1, 1⟩ ps)
                rw [hm] at HS hal hal2 ⊢
                obtain ⟨l_0, l_1, l_2, l_3, l_4, l_5⟩ := last_cells (St.reg6 HS.out) hal2
                have knx_0 := cell_regrown nx_0
                have knx_1 := cell_regrown nx_1
                have kc_0 := cell_regrown c_0
                have kc_1 := cell_regrown c_1
                have ka_0 := cell_regrown a_0
                have ka_1 := cell_regrown a_1
                have ka_2 := cell_regrown a_2
                have ka_3 := cell_regrown a_3
                have ka_4 := cell_regrown a_4
                have ka_5 := cell_regrown a_5
                have kl_0 := cell_regrown l_0
                have kl_1 := cell_regrown l_1
                have kl_2 := cell_regrown l_2
                have kl_3 := cell_regrown l_3
                have kl_4 := cell_regrown l_4
                have kl_5 := cell_regrown l_5
                have Hcl2 : cellErr (e) h = 0 := by unfold cellErr; rw [if_pos]; simp [epochB, nodeB]; omega
                have cC : ∀ d os, Calls Try.prog 13 #[.agg #[.int .u64 (e), .int .i64 h]] (Go.Sort.grow (redrawn w_an d) os) fun en w'' => en = .returned (.int .i64 0) ∧ ∃ p : Regrown, w'' = Go.Sort.grow (redrawn w_an p.d) p.os := fun d os => Calls.regrown_of (by have := check_any (e) h (Go.Sort.grow (redrawn w_an d) os); rw [Hcl2] at this; exact this)
                clear Hcl2
                refine wp_region_quiet_below (by kernel_rfl) (by kernel_rfl) ?_
                repeat (go_big_quiet_step (exact cC _ _))
                refine wpQuiet_nil ?_
                intro w10 hw10
                have hb10 : Below w_an.heap.size w_an w10 := by
                  obtain ⟨⟨dq, osq⟩, rfl⟩ := hw10
                  exact below_regrown w_an dq osq
                clear hw10 cC knx_0 knx_1 kc_0 kc_1 ka_0 ka_1 ka_2 ka_3 ka_4 ka_5 kl_0 kl_1 kl_2 kl_3 kl_4 kl_5 l_0 l_1 l_2 l_3 l_4 l_5
                first | have HSm := (HS.out.ext hb10)
                try simp only [World.size_alloc, World.size_setCell, World.size_drew, size_drewN, List.setIfInBounds_toArray, List.set_cons_zero, List.set_cons_succ] at HSm
                have HSn := Lib.hid HSm
                clear HSm
                clear c_0 c_1 c_f c_l nx_0 nx_1 nx_f nx_l a_0 a_1 a_2 a_3 a_4 a_5 a_f a_l
                clear HS
                have HS := HSn
                clear HSn
                clear hb10
                go_wp2_with fail
                go_roundw
                case rel =>
                  have hpl : plOk ⟨x, t, z⟩ := Hpl.out
                  have hb := asked_ok (c := ⟨1, 1⟩) (ps := ps) (p := ⟨x, t, z⟩) hpl HR.out
                  rw [HA.out] at hb
                  have hgs := grantsL_snoc (askedL ⟨1, 1⟩ ps) (⟨e, h⟩, ⟨⟨x, t, z⟩, false, ⟨e, h⟩⟩)
                  rw [if_pos ⟨rfl, rfl⟩] at hgs
                  refine ⟨k + 1, zp, e, h, ps ++ [⟨x, t, z⟩], lo_pl, hi_pl, lo_an, hi_an, lo3, hi3, by omega, by go_num, rfl, rfl, by omega, by omega, hh, hp, by simp; omega, by rw [hb, runC_snoc], ?_⟩
                  rw [hb, hgs, List.length_append, List.flatMap_append, List.flatMap_singleton, List.length_append, ansC_snoc, hm]
                  exact HS.out.drop.drop.drop
                case measure => simp [intOf]; omega
          · refine (next_any g a n c yp l 3 _ (St.reg1 HS.out) (HL.out.st HS.out) HB.out HNE.out (by decide) (by decide) hp).mono ?_
            rintro en w_z ⟨rfl, hu⟩
            first | have HSm := (HS.out.upd1 hu)
            try simp only [World.size_alloc, World.size_setCell, World.size_drew, size_drewN, List.setIfInBounds_toArray, List.set_cons_zero, List.set_cons_succ] at HSm
            have HSn := Lib.hid HSm
            clear HSm
            clear c_0 c_1 c_f c_l
            clear HS
            have HS := HSn
            clear HSn
            obtain ⟨c_0, c_1, c_f, c_l⟩ := cells2 (St.get0 HS.out)
            clear hu
            have hp2 : nextP l yp ≤ n := by have := nextP_le l yp (by rw [HL.out.1]; exact hp); rwa [HL.out.1] at this
            obtain ⟨z0, z1⟩ := nextV_bd l yp 3 HB.out (by decide)
            generalize nextP l yp = zp at HS hp2 ⊢
            generalize nextV l yp 3 = z at z0 z1 ⊢
            clear hp
            have hp := hp2
            clear hp2
            go_upto_region 13 with (fail)
            first | have HSm := (HS.out.alloc (.cells #[.int .i64 x, .int .u64 t, .int .u64 z] 36))
            try simp only [World.size_alloc, World.size_setCell, World.size_drew, size_drewN, List.setIfInBounds_toArray, List.set_cons_zero, List.set_cons_succ] at HSm
            have HSn := Lib.hid HSm
            clear HSm
            clear c_0 c_1 c_f c_l
            clear HS
            have HS := HSn
            clear HSn
            generalize w_z.alloc (.cells #[.int .i64 x, .int .u64 t, .int .u64 z] 36) = w5 at HS ⊢
            generalize w_z.heap.size = bp at HS ⊢
            obtain ⟨p_0, p_1, p_2, p_f, p_l⟩ := cells3 (St.get0 HS.out)
            obtain ⟨c_0, c_1, c_f, c_l⟩ := cells2 (St.get1 HS.out)
            go_wp2_with (at_builtin; refine wpList_append1 rfl _ _ _ rfl _ 24 Try.underlying30 Try.info36 rfl (by decide) HS.out.up3 _ rfl rfl rfl (by simp [Value.oneCell']) (by unfold maxLen; omega) (by omega) ?_; intro g_pl cap_pl w_pl lo_pl hi_pl hst hcap_pl; replace HS := Lib.hid hst.down3; clear hst p_0 p_1 p_2 p_f p_l c_0 c_1 c_f c_l; obtain ⟨p_0, p_1, p_2, p_f, p_l⟩ := cells3 (St.get0 HS.out); obtain ⟨c_0, c_1, c_f, c_l⟩ := cells2 (St.get1 HS.out))
            have Hpl : Hid (pleaErr x t z = 2) := Lib.hid (by unfold pleaErr; rw [if_neg]; simp [nodeB, epochB] <;> omega)
            refine (ask_bad e h x t z _ Hcl.out Hpl.out).mono ?_
            rintro en w7 ⟨rfl, hb⟩
            first | have HSm := HS.out.ext hb | have HSm := HS.out.drew.ext hb | have HSm := (HS.out.drewN _).ext hb | have HSm := HS.out.drew.drew.ext hb
            try simp only [World.size_alloc, World.size_setCell, World.size_drew, size_drewN, List.setIfInBounds_toArray, List.set_cons_zero, List.set_cons_succ] at HSm
            have HSn := Lib.hid HSm
            clear HSm
            clear p_0 p_1 p_2 p_f p_l c_0 c_1 c_f c_l
            clear HS
            have HS := HSn
            clear HSn
            obtain ⟨p_0, p_1, p_2, p_f, p_l⟩ := cells3 (St.get0 HS.out)
            obtain ⟨c_0, c_1, c_f, c_l⟩ := cells2 (St.get1 HS.out)
            clear hb
            go_wp2_with fail
            all_goals
              refine (checkPlea_any x t z _).mono ?_
              rintro en w8 ⟨rfl, hb⟩
              rw [Hpl.out]
              first | have HSm := ((HS.out.alloc _).alloc _).ext hb | have HSm := ((HS.out.alloc _).alloc _).drew.ext hb | have HSm := (((HS.out.alloc _).alloc _).drewN _).ext hb | have HSm := ((HS.out.alloc _).alloc _).drew.drew.ext hb
              try simp only [World.size_alloc, World.size_setCell, World.size_drew, size_drewN, List.setIfInBounds_toArray, List.set_cons_zero, List.set_cons_succ] at HSm
              have HSn := Lib.hid HSm
              clear HSm
              clear p_0 p_1 p_2 p_f p_l c_0 c_1 c_f c_l
              clear HS
              have HS := HSn
              clear HSn
              clear hb
              go_wp2_with fail
              go_roundw
              case rel =>
                have hb := asked_bad (c := ⟨1, 1⟩) (ps := ps) (p := ⟨x, t, z⟩) (by intro h0; have := Hpl.out; unfold plOk at h0; simp only at h0; omega)
                refine ⟨k + 1, zp, e, h, ps ++ [⟨x, t, z⟩], lo_pl, hi_pl, lo2, hi2, lo3, hi3, by omega, by go_num, rfl, rfl, he1, by omega, hh, hp, by simp; omega, by rw [hb]; exact HR.out, ?_⟩
                rw [hb, List.length_append, List.flatMap_append, List.flatMap_singleton]
                exact HS.out.drop.drop.drop
              case measure => simp [intOf]; omega
      · go_wp2_with fail
        refine (more_any g a n c p _ (St.reg1 HS.out)).mono ?_
        rintro en w2 ⟨rfl, q, rfl⟩
        rw [show decide (p < n) = false from decide_eq_false hpn]
        first | have HSm := (HS.out.drewN q)
        try simp only [World.size_alloc, World.size_setCell, World.size_drew, size_drewN, List.setIfInBounds_toArray, List.set_cons_zero, List.set_cons_succ] at HSm
        have HSn := Lib.hid HSm
        clear HSm
        clear c_0 c_1 c_f c_l
        clear HS
        have HS := HSn
        clear HSn
        obtain ⟨a7, c7, rfl, -⟩ := row_rd (f := plC) (fun _ => rfl) (St.reg2 HS.out)
        obtain ⟨a8, c8, rfl, -⟩ := an_rd (St.reg3 HS.out)
        obtain ⟨a9, c9, rfl, -⟩ := row_rd (f := clC) (fun _ => rfl) (St.reg4 HS.out)
        go_wp2_with fail
        refine (new_any _).mono ?_
        rintro en w3 ⟨rfl, hb⟩
        first | have HSm := (HS.out.ext hb)
        try simp only [World.size_alloc, World.size_setCell, World.size_drew, size_drewN, List.setIfInBounds_toArray, List.set_cons_zero, List.set_cons_succ] at HSm
        have HSn := Lib.hid HSm
        clear HSm
        clear HS
        have HS := HSn
        clear HSn
        clear hb
        have Hok : Hid (clOk ⟨1, 1⟩) := Lib.hid (by simp [clOk, cellErr, epochB, nodeB])
        go_wp2_with fail
        refine (run_any ⟨1, 1⟩ ps a7 ps.length c7 _ Hok.out (row_rd' (f := plC) (sz := 3) (fun _ => rfl) (St.reg2 HS.out)) (by omega)).mono ?_
        rintro en w4 ⟨v, lo4, hi4, rfl, hst⟩
        rw [HR.out]
        dsimp only [clV]
        first | have HSm := (HS.out.join hst)
        try simp only [World.size_alloc, World.size_setCell, World.size_drew, size_drewN, List.setIfInBounds_toArray, List.set_cons_zero, List.set_cons_succ] at HSm
        have HSn := Lib.hid HSm
        clear HSm
        clear HS
        have HS := HSn
        clear HSn
        clear hst
        simp only [List.cons_append, List.nil_append] at HS
        obtain ⟨a10, c10, rfl, -⟩ := an_rd (St.reg0 HS.out)
        go_upto_region 27 with (fail)
        first | have HSm := (HS.out.alloc (.cells #[.int .u64 e, .int .i64 h] 25))
        try simp only [World.size_alloc, World.size_setCell, World.size_drew, size_drewN, List.setIfInBounds_toArray, List.set_cons_zero, List.set_cons_succ] at HSm
        have HSn := Lib.hid HSm
        clear HSm
        clear HS
        have HS := HSn
        clear HSn
        generalize w4.alloc (.cells #[.int .u64 e, .int .i64 h] 25) = w5 at HS ⊢
        obtain ⟨end_0, end_1, end_f, end_l⟩ := cells2 (St.get0 HS.out)
        obtain ⟨c_0, c_1, c_f, c_l⟩ := cells2 (St.get2 HS.out)
        go_wp2_with fail
        refine (equalA a10 a8 (askedL ⟨1, 1⟩ ps).length c10 c8 ((askedL ⟨1, 1⟩ ps).map Prod.snd) _ (an_rd' (St.reg1 HS.out)) (an_rd' (St.reg5 HS.out))).mono ?_
        rintro en w6 ⟨rfl, q6, rfl⟩
        first | have HSm := (HS.out.drewN q6)
        try simp only [World.size_alloc, World.size_setCell, World.size_drew, size_drewN, List.setIfInBounds_toArray, List.set_cons_zero, List.set_cons_succ] at HSm
        have HSn := Lib.hid HSm
        clear HSm
        clear end_0 end_1 end_f end_l c_0 c_1 c_f c_l
        clear HS
        have HS := HSn
        clear HSn
        go_wp2_with fail
        refine (new_any _).mono ?_
        rintro en w7 ⟨rfl, hb⟩
        first | have HSm := (HS.out.ext hb)
        try simp only [World.size_alloc, World.size_setCell, World.size_drew, size_drewN, List.setIfInBounds_toArray, List.set_cons_zero, List.set_cons_succ] at HSm
        have HSn := Lib.hid HSm
        clear HSm
        clear HS
        have HS := HSn
        clear HSn
        clear hb
        go_wp2_with fail
        refine (grants_any ⟨1, 1⟩ ps a7 ps.length c7 _ Hok.out (row_rd' (f := plC) (sz := 3) (fun _ => rfl) (St.reg4 HS.out)) (by omega)).mono ?_
        rintro en w8 ⟨v, lo8, hi8, rfl, hst⟩
        first | have HSm := (HS.out.join hst)
        try simp only [World.size_alloc, World.size_setCell, World.size_drew, size_drewN, List.setIfInBounds_toArray, List.set_cons_zero, List.set_cons_succ] at HSm
        have HSn := Lib.hid HSm
        clear HSm
        clear HS
        have HS := HSn
        clear HSn
        clear hst
        simp only [List.cons_append, List.nil_append] at HS
        obtain ⟨a11, c11, rfl, -⟩ := row_rd (f := clC) (fun _ => rfl) (St.reg0 HS.out)
        go_wp2_with fail
        refine (equalC a11 a9 (grantsL (askedL ⟨1, 1⟩ ps)).length c11 c9 (grantsL (askedL ⟨1, 1⟩ ps)) _ (row_rd' (f := clC) (sz := 2) (fun _ => rfl) (St.reg0 HS.out)) (row_rd' (f := clC) (sz := 2) (fun _ => rfl) (St.reg7 HS.out))).mono ?_
        rintro en w9 ⟨rfl, q9, rfl⟩
        first | have HSm := (HS.out.drewN q9)
        try simp only [World.size_alloc, World.size_setCell, World.size_drew, size_drewN, List.setIfInBounds_toArray, List.set_cons_zero, List.set_cons_succ] at HSm
        have HSn := Lib.hid HSm
        clear HSm
        clear HS
        have HS := HSn
        clear HSn
        go_wp2_with fail
        go_ret
        exact ⟨rfl, HS.out.below⟩
    · obtain ⟨a7, c7, rfl, -⟩ := row_rd (f := plC) (fun _ => rfl) (St.reg2 HS.out)
      obtain ⟨a8, c8, rfl, -⟩ := an_rd (St.reg3 HS.out)
      obtain ⟨a9, c9, rfl, -⟩ := row_rd (f := clC) (fun _ => rfl) (St.reg4 HS.out)
      go_wp2_with fail
      refine (new_any _).mono ?_
      rintro en w3 ⟨rfl, hb⟩
      first | have HSm := (HS.out.ext hb)
      try simp only [World.size_alloc, World.size_setCell, World.size_drew, size_drewN, List.setIfInBounds_toArray, List.set_cons_zero, List.set_cons_succ] at HSm
      have HSn := Lib.hid HSm
      clear HSm
      clear c_0 c_1 c_f c_l
      clear HS
      have HS := HSn
      clear HSn
      clear hb
      have Hok : Hid (clOk ⟨1, 1⟩) := Lib.hid (by simp [clOk, cellErr, epochB, nodeB])
      go_wp2_with fail
      refine (run_any ⟨1, 1⟩ ps a7 ps.length c7 _ Hok.out (row_rd' (f := plC) (sz := 3) (fun _ => rfl) (St.reg2 HS.out)) (by omega)).mono ?_
      rintro en w4 ⟨v, lo4, hi4, rfl, hst⟩
      rw [HR.out]
      dsimp only [clV]
      first | have HSm := (HS.out.join hst)
      try simp only [World.size_alloc, World.size_setCell, World.size_drew, size_drewN, List.setIfInBounds_toArray, List.set_cons_zero, List.set_cons_succ] at HSm
      have HSn := Lib.hid HSm
      clear HSm
      clear HS
      have HS := HSn
      clear HSn
      clear hst
      simp only [List.cons_append, List.nil_append] at HS
      obtain ⟨a10, c10, rfl, -⟩ := an_rd (St.reg0 HS.out)
      go_upto_region 27 with (fail)
      first | have HSm := (HS.out.alloc (.cells #[.int .u64 e, .int .i64 h] 25))
      try simp only [World.size_alloc, World.size_setCell, World.size_drew, size_drewN, List.setIfInBounds_toArray, List.set_cons_zero, List.set_cons_succ] at HSm
      have HSn := Lib.hid HSm
      clear HSm
      clear HS
      have HS := HSn
      clear HSn
      generalize w4.alloc (.cells #[.int .u64 e, .int .i64 h] 25) = w5 at HS ⊢
      obtain ⟨end_0, end_1, end_f, end_l⟩ := cells2 (St.get0 HS.out)
      obtain ⟨c_0, c_1, c_f, c_l⟩ := cells2 (St.get2 HS.out)
      go_wp2_with fail
      refine (equalA a10 a8 (askedL ⟨1, 1⟩ ps).length c10 c8 ((askedL ⟨1, 1⟩ ps).map Prod.snd) _ (an_rd' (St.reg1 HS.out)) (an_rd' (St.reg5 HS.out))).mono ?_
      rintro en w6 ⟨rfl, q6, rfl⟩
      first | have HSm := (HS.out.drewN q6)
      try simp only [World.size_alloc, World.size_setCell, World.size_drew, size_drewN, List.setIfInBounds_toArray, List.set_cons_zero, List.set_cons_succ] at HSm
      have HSn := Lib.hid HSm
      clear HSm
      clear end_0 end_1 end_f end_l c_0 c_1 c_f c_l
      clear HS
      have HS := HSn
      clear HSn
      go_wp2_with fail
      refine (new_any _).mono ?_
      rintro en w7 ⟨rfl, hb⟩
      first | have HSm := (HS.out.ext hb)
      try simp only [World.size_alloc, World.size_setCell, World.size_drew, size_drewN, List.setIfInBounds_toArray, List.set_cons_zero, List.set_cons_succ] at HSm
      have HSn := Lib.hid HSm
      clear HSm
      clear HS
      have HS := HSn
      clear HSn
      clear hb
      go_wp2_with fail
      refine (grants_any ⟨1, 1⟩ ps a7 ps.length c7 _ Hok.out (row_rd' (f := plC) (sz := 3) (fun _ => rfl) (St.reg4 HS.out)) (by omega)).mono ?_
      rintro en w8 ⟨v, lo8, hi8, rfl, hst⟩
      first | have HSm := (HS.out.join hst)
      try simp only [World.size_alloc, World.size_setCell, World.size_drew, size_drewN, List.setIfInBounds_toArray, List.set_cons_zero, List.set_cons_succ] at HSm
      have HSn := Lib.hid HSm
      clear HSm
      clear HS
      have HS := HSn
      clear HSn
      clear hst
      simp only [List.cons_append, List.nil_append] at HS
      obtain ⟨a11, c11, rfl, -⟩ := row_rd (f := clC) (fun _ => rfl) (St.reg0 HS.out)
      go_wp2_with fail
      refine (equalC a11 a9 (grantsL (askedL ⟨1, 1⟩ ps)).length c11 c9 (grantsL (askedL ⟨1, 1⟩ ps)) _ (row_rd' (f := clC) (sz := 2) (fun _ => rfl) (St.reg0 HS.out)) (row_rd' (f := clC) (sz := 2) (fun _ => rfl) (St.reg7 HS.out))).mono ?_
      rintro en w9 ⟨rfl, q9, rfl⟩
      first | have HSm := (HS.out.drewN q9)
      try simp only [World.size_alloc, World.size_setCell, World.size_drew, size_drewN, List.setIfInBounds_toArray, List.set_cons_zero, List.set_cons_succ] at HSm
      have HSn := Lib.hid HSm
      clear HSm
      clear HS
      have HS := HSn
      clear HSn
      go_wp2_with fail
      go_ret
      exact ⟨rfl, HS.out.below⟩
end Go.Proofs.Ytkhlhnpoieolhaa
