-- Written by a program of this session (myprint.py) over the kit's print; some functions' contracts are given by hand.
import Derived.Test.YtfdnhhjggophcaaPAbx0
namespace Go.Proofs.Ytfdnhhjggophcaa.PAb
open Go.RowKit Go.Proofs.YtfdnhhjggophcaaW.PrintWords Go.Proofs.YtfdnhhjggophcaaW.PrintLast Go.Proofs.YtfdnhhjggophcaaW.PrintMore
attribute [local go_sem] max2_int min2_int max_two min_two max_three min_three max_four min_four   -- for this text's walks alone
set_option linter.unusedVariables false
set_option linter.unusedSimpArgs false

/-! ### bound_Steps: function 22 -/
def bound_Steps.l0 : Nat → Int → List (S54) → Int → Int → Option (Int)
  | 0, _, _, _, _ => none
  | k + 1, x3, x6, x7, x8 => if x8 < x7 then (if 0 ≤ x8 then (if x8 < (x6.length : Int) then (if ((rd_T54 x6 x8).f0) = 1 then (bound_Steps.l0 k (wrap64 (x3 + 40)) x6 x7 (wrap64 (x8 + 1))) else (if ((rd_T54 x6 x8).f0) = 2 then (bound_Steps.l0 k (wrap64 (x3 + 40)) x6 x7 (wrap64 (x8 + 1))) else (bound_Steps.l0 k (wrap64 (x3 + 1)) x6 x7 (wrap64 (x8 + 1))))) else (none)) else (none)) else (some x3)
def bound_Steps.f (k : Nat) (l0 : List (S54)) : Option (Int) := bound_Steps.l0 k 8 l0 (l0.length : Int) 0
theorem bound_Steps.mono_l : ∀ k, (∀ y0 y1 y2 y3, LeO (bound_Steps.l0 k y0 y1 y2 y3) (bound_Steps.l0 (k + 1) y0 y1 y2 y3))
  | 0 => fun _ _ _ _ r h => by simp [bound_Steps.l0] at h
  | k + 1 => by
    have ih0 := bound_Steps.mono_l k
    · intro y0 y1 y2 y3
      unfold bound_Steps.l0
      repeat' first
      | (with_reducible exact ih0 _ _ _ _)
      | (with_reducible exact LeO.refl _)
      | (with_reducible exact LeO.none _)
      | (with_reducible refine LeO.ite ?_ ?_)
      | (with_reducible refine LeO.bind ?_ (fun _ => ?_))
      | exact ih0 _ _ _ _
      | exact LeO.none _
      | refine LeO.ite ?_ ?_
      | refine LeO.bind ?_ (fun _ => ?_)
theorem bound_Steps.mono : ∀ a0 k, LeO (bound_Steps.f k a0) (bound_Steps.f (k + 1) a0) := by
  intro a0 k
  have ih0 := bound_Steps.mono_l k
  unfold bound_Steps.f
  repeat' first
      | (with_reducible exact ih0 _ _ _ _)
      | (with_reducible exact LeO.refl _)
      | (with_reducible exact LeO.none _)
      | (with_reducible refine LeO.ite ?_ ?_)
      | (with_reducible refine LeO.bind ?_ (fun _ => ?_))
      | exact ih0 _ _ _ _
      | exact LeO.none _
      | refine LeO.ite ?_ ?_
      | refine LeO.bind ?_ (fun _ => ?_)
set_option maxHeartbeats 8000000 in
set_option maxRecDepth 100000 in
theorem bound_Steps.calls (k : Nat) (A0 : Option Addr) (c0 : Nat) (l0 : List (S54)) (r : Int) (w : World) (hr0 : Kd.C k54 w A0 l0.length l0) (hc0 : l0.length ≤ c0) (h : bound_Steps.f k l0 = some r) :
    Calls Try.prog 22 #[.slice A0 l0.length c0] w fun e w' => e = .returned (.int .i64 r) ∧ Below w.heap.size w w' := by
  have hu54 := Try.underlying54
  have HR0 := Aside0.mk hr0
  have HC0 := Aside0.mk hc0
  clear hr0 hc0
  have HB := Aside0.mk (Below.refl w.heap.size w)
  have H : (bound_Steps.l0 k 8 l0 (l0.length : Int) 0) = some r := h
  clear h
  have H' := Aside0.mk H
  clear H
  go_enter Try.func22, Try.ntmps22
  go_wp2
  go_loopg [3, 8] k (fun kq v3 v8 w' => ∃ (x3_1 : Int) (x8_1 : Int), v3 = .int .i64 x3_1 ∧ v8 = .int .i64 x8_1 ∧ Aside0 (bound_Steps.l0 kq x3_1 l0 (l0.length : Int) x8_1 = some r) ∧ Aside0 (kq ≤ k) ∧ Aside0 (Below w.heap.size w w'))
  case atStart => exact ⟨(8), (0), (by first | rfl | (simp; done) | (simp [*]; done)), (by first | rfl | (simp; done) | (simp [*]; done)), H', ⟨Nat.le_refl _⟩, ⟨by repeat (first | (with_reducible first | exact HB.out | apply below_alloc | apply pw_below_drewN | apply below_drew1) | exact HB.out)⟩⟩
  case round =>
    clear H'
    obtain ⟨x3_1, x8_1, rfl, rfl, HA, HK1, HB⟩ := hrel
    cases gk with
    | zero => exact absurd HA.out (by simp [bound_Steps.l0])
    | succ k1 =>
      have H := HA.out
      clear HA
      simp only [bound_Steps.l0] at H
      by_cases c2 : x8_1 < (l0.length : Int)
      · rw [if_pos c2] at H
        have c2b0 : decide (x8_1 < (l0.length : Int)) = true := decide_eq_true c2
        clear c2
        by_cases c3 : 0 ≤ x8_1
        · rw [if_pos c3] at H
          have c3b0 : decide (0 ≤ x8_1) = true := decide_eq_true c3
          clear c3
          by_cases c4 : x8_1 < (l0.length : Int)
          · rw [if_pos c4] at H
            have c4b0 : decide (x8_1 < (l0.length : Int)) = true := decide_eq_true c4
            clear c4
            by_cases c5 : ((rd_T54 l0 x8_1).f0) = 1
            · rw [if_pos c5] at H
              have c5b0 : (((rd_T54 l0 x8_1).f0) == 1) = true := beq_iff_eq.mpr c5
              have c5b1 : (((rd_T54 l0 x8_1).f0) != 1) = false := bne_eq_false_iff_eq.mpr c5
              clear c5
              have H' := Aside0.mk H
              clear H
              have p101 : 0 ≤ (x8_1 : Int) := of_decide_eq_true (by first | (with_reducible assumption) | assumption)
              have q101 : x8_1 < (l0.length : Int) := of_decide_eq_true (by first | (with_reducible assumption) | assumption)
              obtain ⟨ad101, A101_4, c101_4, e101, hx101_0, hx101_1, hx101_2, hx101_3, hx101_4, hl101_4, hi101_4⟩ := at_T54 HR0.out x8_1 p101 q101
              cases e101
              replace hx101_0 := (HB.out.cell (World.block_lt_of_cell? w _ hx101_0)).trans hx101_0
              replace hx101_1 := (HB.out.cell (World.block_lt_of_cell? w _ hx101_1)).trans hx101_1
              replace hx101_2 := (HB.out.cell (World.block_lt_of_cell? w _ hx101_2)).trans hx101_2
              replace hx101_3 := (HB.out.cell (World.block_lt_of_cell? w _ hx101_3)).trans hx101_3
              replace hx101_4 := (HB.out.cell (World.block_lt_of_cell? w _ hx101_4)).trans hx101_4
              have HR101_4 := Aside0.mk hi101_4
              have HC101_4 := Aside0.mk hl101_4
              clear hi101_4 hl101_4
              replace p101 := eq_true p101
              replace q101 := eq_true q101
              go_wp2_with (first | ((with_reducible refine gate_dst (N := 5) rfl ?_); refine box_event ?hg (N := 5) ?hd (cs := #[.int .i64 0, .int .i64 0, .int .i64 0, .int .i64 0, .slice none 0 0]) (t := 54) ?hr ?_; (case hd => rfl); (case hg => rfl); (case hr => first | (go_simp; done) | (go_simp; rfl)); intro gb102 hg w6 hbox hb; have n0_ := Aside0.mk (below_step (by repeat (first | (with_reducible first | exact HB.out | apply below_alloc | apply pw_below_drewN | apply below_drew1) | exact HB.out)) hb); have n1_ := Aside0.mk (hbox); have n2_ := Aside0.mk ((by rw [hg]; exact (below_size (by repeat (first | (with_reducible first | exact HB.out | apply below_alloc | apply pw_below_drewN | apply below_drew1) | exact HB.out))) : w.heap.size ≤ gb102)); have n3_ := Aside0.mk ((by rw [hg]; exact (below_size (by repeat (first | (with_reducible first | exact HB.out | apply below_alloc | apply pw_below_drewN | apply below_drew1) | exact HB.out))) : w.heap.size ≤ gb102)); clear HB; have HB := n0_; have BK102 := n1_; have GW102 := n2_; have GE102 := n3_; clear n0_ n1_ n2_ n3_; clear hb hbox hg; have hcz7_0 : w6.cell? ⟨gb102, 0, none⟩ = some (.int .i64 0) := (blk_cell BK102.out 0).trans rfl; have hcz7_1 : w6.cell? ⟨gb102, 1, none⟩ = some (.int .i64 0) := (blk_cell BK102.out 1).trans rfl; have hcz7_2 : w6.cell? ⟨gb102, 2, none⟩ = some (.int .i64 0) := (blk_cell BK102.out 2).trans rfl; have hcz7_3 : w6.cell? ⟨gb102, 3, none⟩ = some (.int .i64 0) := (blk_cell BK102.out 3).trans rfl; have hcz7_4 : w6.cell? ⟨gb102, 4, none⟩ = some (.slice none 0 0) := (blk_cell BK102.out 4).trans rfl; have hfz7_0 := blk_frozen BK102.out 0; have hfz7_1 := blk_frozen BK102.out 1; have hfz7_2 := blk_frozen BK102.out 2; have hfz7_3 := blk_frozen BK102.out 3; have hfz7_4 := blk_frozen BK102.out 4))
              go_roundg k1
              case measure => have := HK1.out; omega
              case rel => exact ⟨(wrap64 (x3_1 + 40)), (wrap64 (x8_1 + 1)), (by first | rfl | (simp; done) | (simp [*]; done)), (by first | rfl | (simp; done) | (simp [*]; done)), H', ⟨by have := HK1.out; omega⟩, ⟨by repeat (first | (with_reducible first | exact HB.out | apply below_alloc | apply pw_below_drewN | apply below_drew1 | refine below_set ?_ GE102.out) | exact HB.out)⟩⟩
            · rw [if_neg c5] at H
              have c5b0 : (((rd_T54 l0 x8_1).f0) == 1) = false := beq_eq_false_iff_ne.mpr c5
              have c5b1 : (((rd_T54 l0 x8_1).f0) != 1) = true := bne_iff_ne.mpr c5
              by_cases c8 : ((rd_T54 l0 x8_1).f0) = 2
              · rw [if_pos c8] at H
                have c8b0 : (((rd_T54 l0 x8_1).f0) == 2) = true := beq_iff_eq.mpr c8
                have c8b1 : (((rd_T54 l0 x8_1).f0) != 2) = false := bne_eq_false_iff_eq.mpr c8
                clear c8
                have H' := Aside0.mk H
                clear H
                have p101 : 0 ≤ (x8_1 : Int) := of_decide_eq_true (by first | (with_reducible assumption) | assumption)
                have q101 : x8_1 < (l0.length : Int) := of_decide_eq_true (by first | (with_reducible assumption) | assumption)
                obtain ⟨ad101, A101_4, c101_4, e101, hx101_0, hx101_1, hx101_2, hx101_3, hx101_4, hl101_4, hi101_4⟩ := at_T54 HR0.out x8_1 p101 q101
                cases e101
                replace hx101_0 := (HB.out.cell (World.block_lt_of_cell? w _ hx101_0)).trans hx101_0
                replace hx101_1 := (HB.out.cell (World.block_lt_of_cell? w _ hx101_1)).trans hx101_1
                replace hx101_2 := (HB.out.cell (World.block_lt_of_cell? w _ hx101_2)).trans hx101_2
                replace hx101_3 := (HB.out.cell (World.block_lt_of_cell? w _ hx101_3)).trans hx101_3
                replace hx101_4 := (HB.out.cell (World.block_lt_of_cell? w _ hx101_4)).trans hx101_4
                have HR101_4 := Aside0.mk hi101_4
                have HC101_4 := Aside0.mk hl101_4
                clear hi101_4 hl101_4
                replace p101 := eq_true p101
                replace q101 := eq_true q101
                go_wp2_with (first | ((with_reducible refine gate_dst (N := 5) rfl ?_); refine box_event ?hg (N := 5) ?hd (cs := #[.int .i64 0, .int .i64 0, .int .i64 0, .int .i64 0, .slice none 0 0]) (t := 54) ?hr ?_; (case hd => rfl); (case hg => rfl); (case hr => first | (go_simp; done) | (go_simp; rfl)); intro gb102 hg w9 hbox hb; have n0_ := Aside0.mk (below_step (by repeat (first | (with_reducible first | exact HB.out | apply below_alloc | apply pw_below_drewN | apply below_drew1) | exact HB.out)) hb); have n1_ := Aside0.mk (hbox); have n2_ := Aside0.mk ((by rw [hg]; exact (below_size (by repeat (first | (with_reducible first | exact HB.out | apply below_alloc | apply pw_below_drewN | apply below_drew1) | exact HB.out))) : w.heap.size ≤ gb102)); have n3_ := Aside0.mk ((by rw [hg]; exact (below_size (by repeat (first | (with_reducible first | exact HB.out | apply below_alloc | apply pw_below_drewN | apply below_drew1) | exact HB.out))) : w.heap.size ≤ gb102)); clear HB; have HB := n0_; have BK102 := n1_; have GW102 := n2_; have GE102 := n3_; clear n0_ n1_ n2_ n3_; clear hb hbox hg; have hcz10_0 : w9.cell? ⟨gb102, 0, none⟩ = some (.int .i64 0) := (blk_cell BK102.out 0).trans rfl; have hcz10_1 : w9.cell? ⟨gb102, 1, none⟩ = some (.int .i64 0) := (blk_cell BK102.out 1).trans rfl; have hcz10_2 : w9.cell? ⟨gb102, 2, none⟩ = some (.int .i64 0) := (blk_cell BK102.out 2).trans rfl; have hcz10_3 : w9.cell? ⟨gb102, 3, none⟩ = some (.int .i64 0) := (blk_cell BK102.out 3).trans rfl; have hcz10_4 : w9.cell? ⟨gb102, 4, none⟩ = some (.slice none 0 0) := (blk_cell BK102.out 4).trans rfl; have hfz10_0 := blk_frozen BK102.out 0; have hfz10_1 := blk_frozen BK102.out 1; have hfz10_2 := blk_frozen BK102.out 2; have hfz10_3 := blk_frozen BK102.out 3; have hfz10_4 := blk_frozen BK102.out 4))
                go_roundg k1
                case measure => have := HK1.out; omega
                case rel => exact ⟨(wrap64 (x3_1 + 40)), (wrap64 (x8_1 + 1)), (by first | rfl | (simp; done) | (simp [*]; done)), (by first | rfl | (simp; done) | (simp [*]; done)), H', ⟨by have := HK1.out; omega⟩, ⟨by repeat (first | (with_reducible first | exact HB.out | apply below_alloc | apply pw_below_drewN | apply below_drew1 | refine below_set ?_ GE102.out) | exact HB.out)⟩⟩
              · rw [if_neg c8] at H
                have c8b0 : (((rd_T54 l0 x8_1).f0) == 2) = false := beq_eq_false_iff_ne.mpr c8
                have c8b1 : (((rd_T54 l0 x8_1).f0) != 2) = true := bne_iff_ne.mpr c8
                have H' := Aside0.mk H
                clear H
                have p101 : 0 ≤ (x8_1 : Int) := of_decide_eq_true (by first | (with_reducible assumption) | assumption)
                have q101 : x8_1 < (l0.length : Int) := of_decide_eq_true (by first | (with_reducible assumption) | assumption)
                obtain ⟨ad101, A101_4, c101_4, e101, hx101_0, hx101_1, hx101_2, hx101_3, hx101_4, hl101_4, hi101_4⟩ := at_T54 HR0.out x8_1 p101 q101
                cases e101
                replace hx101_0 := (HB.out.cell (World.block_lt_of_cell? w _ hx101_0)).trans hx101_0
                replace hx101_1 := (HB.out.cell (World.block_lt_of_cell? w _ hx101_1)).trans hx101_1
                replace hx101_2 := (HB.out.cell (World.block_lt_of_cell? w _ hx101_2)).trans hx101_2
                replace hx101_3 := (HB.out.cell (World.block_lt_of_cell? w _ hx101_3)).trans hx101_3
                replace hx101_4 := (HB.out.cell (World.block_lt_of_cell? w _ hx101_4)).trans hx101_4
                have HR101_4 := Aside0.mk hi101_4
                have HC101_4 := Aside0.mk hl101_4
                clear hi101_4 hl101_4
                replace p101 := eq_true p101
                replace q101 := eq_true q101
                go_wp2_with (first | ((with_reducible refine gate_dst (N := 5) rfl ?_); refine box_event ?hg (N := 5) ?hd (cs := #[.int .i64 0, .int .i64 0, .int .i64 0, .int .i64 0, .slice none 0 0]) (t := 54) ?hr ?_; (case hd => rfl); (case hg => rfl); (case hr => first | (go_simp; done) | (go_simp; rfl)); intro gb102 hg w11 hbox hb; have n0_ := Aside0.mk (below_step (by repeat (first | (with_reducible first | exact HB.out | apply below_alloc | apply pw_below_drewN | apply below_drew1) | exact HB.out)) hb); have n1_ := Aside0.mk (hbox); have n2_ := Aside0.mk ((by rw [hg]; exact (below_size (by repeat (first | (with_reducible first | exact HB.out | apply below_alloc | apply pw_below_drewN | apply below_drew1) | exact HB.out))) : w.heap.size ≤ gb102)); have n3_ := Aside0.mk ((by rw [hg]; exact (below_size (by repeat (first | (with_reducible first | exact HB.out | apply below_alloc | apply pw_below_drewN | apply below_drew1) | exact HB.out))) : w.heap.size ≤ gb102)); clear HB; have HB := n0_; have BK102 := n1_; have GW102 := n2_; have GE102 := n3_; clear n0_ n1_ n2_ n3_; clear hb hbox hg; have hcz12_0 : w11.cell? ⟨gb102, 0, none⟩ = some (.int .i64 0) := (blk_cell BK102.out 0).trans rfl; have hcz12_1 : w11.cell? ⟨gb102, 1, none⟩ = some (.int .i64 0) := (blk_cell BK102.out 1).trans rfl; have hcz12_2 : w11.cell? ⟨gb102, 2, none⟩ = some (.int .i64 0) := (blk_cell BK102.out 2).trans rfl; have hcz12_3 : w11.cell? ⟨gb102, 3, none⟩ = some (.int .i64 0) := (blk_cell BK102.out 3).trans rfl; have hcz12_4 : w11.cell? ⟨gb102, 4, none⟩ = some (.slice none 0 0) := (blk_cell BK102.out 4).trans rfl; have hfz12_0 := blk_frozen BK102.out 0; have hfz12_1 := blk_frozen BK102.out 1; have hfz12_2 := blk_frozen BK102.out 2; have hfz12_3 := blk_frozen BK102.out 3; have hfz12_4 := blk_frozen BK102.out 4))
                go_roundg k1
                case measure => have := HK1.out; omega
                case rel => exact ⟨(wrap64 (x3_1 + 1)), (wrap64 (x8_1 + 1)), (by first | rfl | (simp; done) | (simp [*]; done)), (by first | rfl | (simp; done) | (simp [*]; done)), H', ⟨by have := HK1.out; omega⟩, ⟨by repeat (first | (with_reducible first | exact HB.out | apply below_alloc | apply pw_below_drewN | apply below_drew1 | refine below_set ?_ GE102.out) | exact HB.out)⟩⟩
          · rw [if_neg c4] at H
            exact absurd H (by simp)
        · rw [if_neg c3] at H
          exact absurd H (by simp)
      · rw [if_neg c2] at H
        have c2b0 : decide (x8_1 < (l0.length : Int)) = false := decide_eq_false c2
        clear c2
        obtain rfl := Option.some.inj H
        go_wp2
        go_ret
        exact ⟨by first | rfl | (simp [errW_none, errW_some] <;> rfl) | (simp [*, errW_none, errW_some] <;> rfl), by repeat (first | (with_reducible first | exact HB.out | apply below_alloc | apply pw_below_drewN | apply below_drew1) | exact HB.out)⟩

/-! ### shape_Check: function 25 (by hand) -/
def shape_Check.chkN (a0_0 a0_1 a0_2 a0_3 a0_4 a0_5 a0_6 a0_7 a0_8 a0_9 a0_10 a0_11 : Int) : Nat → Int
  | 0 => a0_0 | 1 => a0_1 | 2 => a0_2 | 3 => a0_3 | 4 => a0_4 | 5 => a0_5 | 6 => a0_6 | 7 => a0_7 | 8 => a0_8 | 9 => a0_9 | 10 => a0_10 | _ => a0_11
def shape_Check.chkLo : Nat → Int
  | 5 => 0 | 9 => 0 | 11 => 0 | _ => 1
def shape_Check.chkHi : Nat → Int
  | 4 => 64 | 5 => 48 | 7 => 4096 | 8 => 1000 | 9 => 64 | 10 => 10000 | 11 => 2 | _ => 8
def shape_Check.chkAll (n : Nat → Int) : Nat → Bool
  | 0 => true
  | k + 1 => shape_Check.chkAll n k && !(decide (n k < shape_Check.chkLo k) || decide (shape_Check.chkHi k < n k))
def shape_Check.g (n : Nat → Int) : Int := if shape_Check.chkAll n 12 = true then 0 else 1
theorem shape_Check.chkAll_le {n : Nat → Int} {m : Nat} (h : shape_Check.chkAll n m = true) : ∀ k, k ≤ m → shape_Check.chkAll n k = true := by
  induction m with
  | zero =>
    intro k hk
    have e : k = 0 := by omega
    rw [e]; exact h
  | succ m ih =>
    intro k hk
    by_cases e : k = m + 1
    · rw [e]; exact h
    · simp only [shape_Check.chkAll, Bool.and_eq_true] at h
      exact ih h.1 k (by omega)
theorem shape_Check.bad_of {n : Nat → Int} {k : Nat} (hk : k < 12) (h : n k < shape_Check.chkLo k ∨ shape_Check.chkHi k < n k) : shape_Check.g n = 1 := by
  unfold shape_Check.g
  rw [if_neg]
  intro h12
  have := shape_Check.chkAll_le h12 (k + 1) (by omega)
  simp only [shape_Check.chkAll, Bool.and_eq_true] at this
  rcases h with h | h <;> simp [h] at this

theorem shape_Check.chkAll_succ {n : Nat → Int} {k : Nat} (h : shape_Check.chkAll n k = true) (h1 : ¬ n k < shape_Check.chkLo k) (h2 : ¬ shape_Check.chkHi k < n k) : shape_Check.chkAll n (k + 1) = true := by
  simp only [shape_Check.chkAll, h, decide_eq_false h1, decide_eq_false h2]; rfl
theorem shape_Check.good_of {n : Nat → Int} (h : shape_Check.chkAll n 12 = true) : shape_Check.g n = 0 := by
  unfold shape_Check.g
  rw [if_pos h]

def shape_Check.f (a0_0 a0_1 a0_2 a0_3 a0_4 a0_5 a0_6 a0_7 a0_8 a0_9 a0_10 a0_11 : Int) : Option Int := some (shape_Check.g (shape_Check.chkN a0_0 a0_1 a0_2 a0_3 a0_4 a0_5 a0_6 a0_7 a0_8 a0_9 a0_10 a0_11))
set_option maxHeartbeats 8000000 in
set_option maxRecDepth 100000 in
theorem shape_Check.calls (a0_0 a0_1 a0_2 a0_3 a0_4 a0_5 a0_6 a0_7 a0_8 a0_9 a0_10 a0_11 : Int) (r : Int) (w : World) (h : shape_Check.f a0_0 a0_1 a0_2 a0_3 a0_4 a0_5 a0_6 a0_7 a0_8 a0_9 a0_10 a0_11 = some r) :
    Calls Try.prog 25 #[.agg #[.int .i64 a0_0, .int .i64 a0_1, .int .i64 a0_2, .int .i64 a0_3, .int .i64 a0_4, .int .i64 a0_5, .int .i64 a0_6, .int .i64 a0_7, .int .i64 a0_8, .int .i64 a0_9, .int .i64 a0_10, .int .i64 a0_11]] w fun e w' => e = .returned (.int .i64 r) ∧ Below w.heap.size w w' := by
  have hu50 := Try.underlying25
  have hu87 := Try.underlying60
  have hu88 := Try.underlying61
  obtain rfl := Option.some.inj h
  clear h
  obtain ⟨n, hn⟩ : ∃ n, n = shape_Check.chkN a0_0 a0_1 a0_2 a0_3 a0_4 a0_5 a0_6 a0_7 a0_8 a0_9 a0_10 a0_11 := ⟨_, rfl⟩
  rw [← hn]
  have hix : ∀ k, k < 12 → ∀ W : World, (Instr.index 61 (.agg #[.int .i64 a0_0, .int .i64 1, .int .i64 8, .int .i64 a0_1, .int .i64 1, .int .i64 8, .int .i64 a0_2, .int .i64 1, .int .i64 8, .int .i64 a0_3, .int .i64 1, .int .i64 8, .int .i64 a0_4, .int .i64 1, .int .i64 64, .int .i64 a0_5, .int .i64 0, .int .i64 48, .int .i64 a0_6, .int .i64 1, .int .i64 8, .int .i64 a0_7, .int .i64 1, .int .i64 4096, .int .i64 a0_8, .int .i64 1, .int .i64 1000, .int .i64 a0_9, .int .i64 0, .int .i64 64, .int .i64 a0_10, .int .i64 1, .int .i64 10000, .int .i64 a0_11, .int .i64 0, .int .i64 2]) (.int .i64 ((k : Nat) : Int))).run Try.prog W = .ok (.agg #[.int .i64 (n k), .int .i64 (shape_Check.chkLo k), .int .i64 (shape_Check.chkHi k)]) W := by
    intro k hk W
    have hk' : k = 0 ∨ k = 1 ∨ k = 2 ∨ k = 3 ∨ k = 4 ∨ k = 5 ∨ k = 6 ∨ k = 7 ∨ k = 8 ∨ k = 9 ∨ k = 10 ∨ k = 11 := by omega
    rw [hn]
    clear hn
    rcases hk' with rfl | rfl | rfl | rfl | rfl | rfl | rfl | rfl | rfl | rfl | rfl | rfl <;> rfl
  clear hn
  have HIX := Aside0.mk hix
  clear hix
  go_enter Try.func25, Try.ntmps25
  go_wp2
  have HB := Aside0.mk (Below.refl w.heap.size w)
  go_loopw [42] (fun v wc => ∃ k : Nat, k ≤ 12 ∧ v = .int .i64 k ∧ Aside0 (shape_Check.chkAll n k = true) ∧ Aside0 (Below w.heap.size w wc)) (fun v _ => 12 - (intOf v).toNat)
  case atStart => exact ⟨0, by omega, rfl, ⟨rfl⟩, ⟨by exact (Below.refl _ _).alloc (Nat.le_refl _) _⟩⟩
  case round =>
    obtain ⟨k, hk, rfl, HA, HBW⟩ := hrel
    by_cases hlt : k < 12
    · have hix := HIX.out k hlt
      by_cases hlo : n k < shape_Check.chkLo k
      · have hbad := Aside0.mk (shape_Check.bad_of hlt (.inl hlo))
        go_wp2
        go_ret
        rw [hbad.out]
        exact ⟨rfl, by first | exact HBW.out.alloc HBW.out.size _⟩
      · by_cases hhi : shape_Check.chkHi k < n k
        · have hbad := Aside0.mk (shape_Check.bad_of hlt (.inr hhi))
          go_wp2
          go_ret
          rw [hbad.out]
          exact ⟨rfl, by first | exact HBW.out.alloc HBW.out.size _⟩
        · have hn1 := Aside0.mk (show shape_Check.chkAll n (k + 1) = true from shape_Check.chkAll_succ HA.out hlo hhi)
          go_wp2
          go_roundw
          case rel => exact ⟨k + 1, by omega, by go_num, hn1, ⟨by exact HBW.out.alloc HBW.out.size _⟩⟩
          case measure => simp [intOf]; omega
    · have hk12 : k = 12 := by omega
      have hgood := Aside0.mk (shape_Check.good_of (hk12 ▸ HA.out))
      clear hk12
      go_wp2
      go_ret
      rw [hgood.out]
      exact ⟨rfl, HBW.out⟩

/-! ### bound_times: function 30 (by hand) -/
/-- Numbers from 0 on times numbers from 1 on, up to the greatest. -/
def bound_times.f (a0 a1 : Int) : Option Int := if 0 ≤ a0 ∧ 1 ≤ a1 then some (if 1099511627776 / a1 < a0 then 1099511627776 else a0 * a1) else none
theorem bound_times.le {a b : Int} (h0 : 0 ≤ a) (h1 : 1 ≤ b) (h : ¬ 1099511627776 / b < a) : 0 ≤ a * b ∧ a * b ≤ 1099511627776 := by
  have h2 : a ≤ 1099511627776 / b := by omega
  have h3 : a * b ≤ (1099511627776 / b) * b := Int.mul_le_mul_of_nonneg_right h2 (by omega)
  have h4 := Int.ediv_mul_le 1099511627776 (b := b) (by omega)
  exact ⟨Int.mul_nonneg h0 (by omega), by omega⟩
set_option maxHeartbeats 8000000 in
set_option maxRecDepth 100000 in
theorem bound_times.calls (a0 : Int) (a1 : Int) (r : Int) (w : World) (h : bound_times.f a0 a1 = some r) :
    Calls Try.prog 30 #[.int .i64 a0, .int .i64 a1] w fun e w' => e = .returned (.int .i64 r) ∧ Below w.heap.size w w' := by
  unfold bound_times.f at h
  by_cases hd : 0 ≤ a0 ∧ 1 ≤ a1
  · rw [if_pos hd] at h
    obtain rfl := Option.some.inj h
    clear h
    obtain ⟨h0, h1⟩ := hd
    have hne : (a1 == 0) = false := beq_eq_false_iff_ne.mpr (by omega)
    have hq1 : 1099511627776 / a1 ≤ 1099511627776 := Int.ediv_le_self _ (by omega)
    have hq0 : 0 ≤ 1099511627776 / a1 := Int.ediv_nonneg (by omega) (by omega)
    by_cases hg : 1099511627776 / a1 < a0
    · rw [if_pos hg]
      have hg' : decide (1099511627776 / a1 < a0) = true := decide_eq_true hg
      go_enter Try.func30, Try.ntmps30
      go_wp2
      go_ret
      exact ⟨rfl, Below.refl _ _⟩
    · rw [if_neg hg]
      obtain ⟨hp0, hp1⟩ := bound_times.le h0 h1 hg
      have hg' : decide (1099511627776 / a1 < a0) = false := decide_eq_false hg
      go_enter Try.func30, Try.ntmps30
      go_wp2
      go_ways
      all_goals
        go_ret
        exact ⟨rfl, Below.refl _ _⟩
  · rw [if_neg hd] at h
    exact absurd h (by simp)

end Go.Proofs.Ytfdnhhjggophcaa.PAb
