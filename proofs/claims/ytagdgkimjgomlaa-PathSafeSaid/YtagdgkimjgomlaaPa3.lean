/- PathUp: its plain law, reckoned. -/
import Derived.Test.YtagdgkimjgomlaaPa2
namespace Go.Proofs.Ytagdgkimjgomlaa.Ln
open Go.RowKit Go.Proofs.YtagdgkimjgomlaaW.PrintWords Go.Proofs.YtagdgkimjgomlaaW.PrintLast Go.Proofs.YtagdgkimjgomlaaW.PrintMore Go.Proofs.Ytagdgkimjgomlaa.PMd
open Go.Maps
open Go.Sort (grow)
set_option linter.unusedVariables false
set_option linter.unusedSimpArgs false
def lvU (j : Int) : Int := if j = 0 then 0 else if j = 1 then 1 else 2
def paU (j : Int) : Int := if j = 0 then -1 else if j = 1 then 0 else 1
def cU (s u : Int) : Cf := ⟨1, 1, s, 1, 1, 0, 1, 100, 1, u, 1, 0⟩
def readsM (a : Int) : Bool := (mode_Reads.f a).getD false
theorem lv_up : ∀ s u : Fin 8, ∀ j : Fin 10, j.val < s.val + 3 → shape_Level.f 20 1 1 (s.val + 1 : Nat) 1 1 0 1 100 1 (u.val + 1 : Nat) 1 0 (j.val : Int) = some (lvU j.val) := by decide +kernel
theorem pa_up : ∀ s u : Fin 8, ∀ j : Fin 10, j.val < s.val + 3 → shape_Parent.f 20 1 1 (s.val + 1 : Nat) 1 1 0 1 100 1 (u.val + 1 : Nat) 1 0 (j.val : Int) = some (paU j.val) := by decide +kernel
theorem path_up : ∀ s u : Fin 8, ∀ a : Fin 8, a.val < s.val + 1 → shape_Path.f 1 1 (s.val + 1 : Nat) 1 1 0 1 100 1 (u.val + 1 : Nat) 1 0 (a.val : Int) = some (0, 1, ((2 + a.val : Nat) : Int), 0) := by decide +kernel
theorem nodes_up : ∀ s u : Fin 8, shape_Nodes.f 1 1 (s.val + 1 : Nat) 1 1 0 1 100 1 (u.val + 1 : Nat) 1 0 = some ((s.val + 3 : Nat) : Int) := by decide +kernel
theorem reads_f : ∀ a : Fin 6, mode_Reads.f (a.val : Int) = some (readsM a.val) := by decide +kernel
def nxU (s u : Nat) (wr : Bool) (a : Nat) (ls : List LS) : L × Bool := nextT 0 1 (2 + a : Nat) (holdsT ls 0 0) (holdsT ls 0 1) (holdsT ls 0 (2 + a : Nat)) (u : Int) (stripesT ls 0 lvU paU 1) wr
/-- The law's two loops, reckoned: from stripe a, request k on, with so many steps at most. -/
def upGo (s u : Nat) (wr : Bool) : Nat → Nat → Nat → List LS → At → Bool
  | 0, _, _, _, _ => false
  | n + 1, a, k, ls, f =>
    if s ≤ a then (stripesT ls 0 lvU paU 1 == min s u) && (readsM (holdsT ls 0 1) == decide (u < s))
    else if k = 4 then upGo s u wr n (a + 1) 0 ls f
    else match nxU s u wr a ls with
      | (_, false) => upGo s u wr n (a + 1) 0 ls f
      | (l, true) => (k != 3) && (!(l.f0 == 1 && ((l.f1 == 3 || l.f1 == 5) != decide (u ≤ a)))) && upGo s u wr n a (k + 1) (askT ls 100 f 0 l.f0 l.f1).2.2.1 (askT ls 100 f 0 l.f0 l.f1).2.2.2
theorem up_all : ∀ s u : Fin 8, ∀ wr : Bool, upGo (s.val + 1) (u.val + 1) wr 40 0 0 (List.replicate (s.val + 3) zL) (fun _ => none) = true := by decide +kernel
theorem lvU_ {s u j : Nat} (h1 : 1 ≤ s) (h2 : s ≤ 8) (h3 : 1 ≤ u) (h4 : u ≤ 8) (hj : j < s + 2) : shape_Level.f 20 1 1 (s : Int) 1 1 0 1 100 1 (u : Int) 1 0 (j : Int) = some (lvU j) := by
  have := lv_up ⟨s - 1, by omega⟩ ⟨u - 1, by omega⟩ ⟨j, by omega⟩ (by show j < s - 1 + 3; omega)
  rwa [show s - 1 + 1 = s by omega, show u - 1 + 1 = u by omega] at this
theorem paU_ {s u j : Nat} (h1 : 1 ≤ s) (h2 : s ≤ 8) (h3 : 1 ≤ u) (h4 : u ≤ 8) (hj : j < s + 2) : shape_Parent.f 20 1 1 (s : Int) 1 1 0 1 100 1 (u : Int) 1 0 (j : Int) = some (paU j) := by
  have := pa_up ⟨s - 1, by omega⟩ ⟨u - 1, by omega⟩ ⟨j, by omega⟩ (by show j < s - 1 + 3; omega)
  rwa [show s - 1 + 1 = s by omega, show u - 1 + 1 = u by omega] at this
theorem pathU_ {s u a : Nat} (h1 : 1 ≤ s) (h2 : s ≤ 8) (h3 : 1 ≤ u) (h4 : u ≤ 8) (ha : a < s) : shape_Path.f 1 1 (s : Int) 1 1 0 1 100 1 (u : Int) 1 0 (a : Int) = some (0, 1, ((2 + a : Nat) : Int), 0) := by
  have := path_up ⟨s - 1, by omega⟩ ⟨u - 1, by omega⟩ ⟨a, by omega⟩ (by show a < s - 1 + 1; omega)
  rwa [show s - 1 + 1 = s by omega, show u - 1 + 1 = u by omega] at this
theorem nodesU_ {s u : Nat} (h1 : 1 ≤ s) (h2 : s ≤ 8) (h3 : 1 ≤ u) (h4 : u ≤ 8) : shape_Nodes.f 1 1 (s : Int) 1 1 0 1 100 1 (u : Int) 1 0 = some ((s + 2 : Nat) : Int) := by
  have := nodes_up ⟨s - 1, by omega⟩ ⟨u - 1, by omega⟩
  rwa [show s - 1 + 1 = s by omega, show u - 1 + 1 = u by omega, show s - 1 + 3 = s + 2 by omega] at this
theorem upAll {s u : Nat} (h1 : 1 ≤ s) (h2 : s ≤ 8) (h3 : 1 ≤ u) (h4 : u ≤ 8) (wr : Bool) : upGo s u wr 40 0 0 (List.replicate (s + 2) zL) (fun _ => none) = true := by
  have := up_all ⟨s - 1, by omega⟩ ⟨u - 1, by omega⟩ wr
  rwa [show s - 1 + 1 = s by omega, show u - 1 + 1 = u by omega, show s - 1 + 3 = s + 2 by omega] at this
/-- One step of the reckoning. -/
theorem up_end {s u n a k : Nat} {wr : Bool} {ls : List LS} {f : At} (h : upGo s u wr n a k ls f = true) (ha : s ≤ a) : stripesT ls 0 lvU paU 1 = min s u ∧ readsM (holdsT ls 0 1) = decide (u < s) := by
  cases n with
  | zero => cases h
  | succ n =>
    unfold upGo at h
    rw [if_pos ha, Bool.and_eq_true, beq_iff_eq, beq_iff_eq] at h
    exact h
theorem up_four {s u n a : Nat} {wr : Bool} {ls : List LS} {f : At} (h : upGo s u wr n a 4 ls f = true) (ha : a < s) : ∃ n', n' < n ∧ upGo s u wr n' (a + 1) 0 ls f = true := by
  cases n with
  | zero => cases h
  | succ n =>
    unfold upGo at h
    rw [if_neg (by omega), if_pos rfl] at h
    exact ⟨n, Nat.lt_succ_self n, h⟩
theorem up_no {s u n a k : Nat} {wr : Bool} {ls : List LS} {f : At} (h : upGo s u wr n a k ls f = true) (ha : a < s) (hk : k < 4) {l : L} (hR : nxU s u wr a ls = (l, false)) : ∃ n', n' < n ∧ upGo s u wr n' (a + 1) 0 ls f = true := by
  cases n with
  | zero => cases h
  | succ n =>
    unfold upGo at h
    rw [if_neg (by omega), if_neg (by omega), hR] at h
    exact ⟨n, Nat.lt_succ_self n, h⟩
theorem up_yes {s u n a k : Nat} {wr : Bool} {ls : List LS} {f : At} (h : upGo s u wr n a k ls f = true) (ha : a < s) (hk : k < 4) {l : L} (hR : nxU s u wr a ls = (l, true)) :
    k ≠ 3 ∧ (l.f0 == 1 && ((l.f1 == 3 || l.f1 == 5) != decide (u ≤ a))) = false ∧ ∃ n', n' < n ∧ upGo s u wr n' a (k + 1) (askT ls 100 f 0 l.f0 l.f1).2.2.1 (askT ls 100 f 0 l.f0 l.f1).2.2.2 = true := by
  cases n with
  | zero => cases h
  | succ n =>
    unfold upGo at h
    rw [if_neg (by omega), if_neg (by omega), hR] at h
    simp only [Bool.and_eq_true, bne_iff_ne, ne_eq, Bool.not_eq_true'] at h
    exact ⟨h.1.1, h.1.2, n, Nat.lt_succ_self n, h.2⟩
theorem Reads_M (a : Int) (w : World) (ha : md a) : Calls Try.prog 34 #[.int .i64 a] w fun e w' => e = .returned (.bool (readsM a)) ∧ Below w.heap.size w w' :=
  (mode_Reads.calls a _ w (by obtain ⟨x, rfl⟩ := fin6 ha; exact reads_f x)).mono fun _ _ ⟨h1, h2⟩ => ⟨h1, by obtain ⟨n, rfl⟩ := h2.out; exact pw_below_drewN (Below.refl _ _) _⟩
/-! ### the chapter's examples -/
def c1P : Cf := ⟨1, 1, 1, 1, 1, 0, 1, 9, 1, 0, 1, 0⟩
theorem c1_lv : ∀ j : Fin 3, shape_Level.f 20 1 1 1 1 1 0 1 9 1 0 1 0 (j.val : Int) = some (lvU j.val) := by decide +kernel
theorem c1_pa : ∀ j : Fin 3, shape_Parent.f 20 1 1 1 1 1 0 1 9 1 0 1 0 (j.val : Int) = some (paU j.val) := by decide +kernel
theorem c1_path : shape_Path.f 1 1 1 1 1 0 1 9 1 0 1 0 0 = some (0, 1, 2, 0) := by kernel_rfl
theorem c1_next : nextT 0 1 2 (holdsT t0 0 0) (holdsT t0 0 1) (holdsT t0 0 2) c1P.f9 (stripesT t0 0 lvU paU 1) false = (⟨0, 1⟩, true) := by kernel_rfl
theorem c1_lv' : ∀ j : Nat, j < t0.length → shape_Level.f 20 c1P.f0 c1P.f1 c1P.f2 c1P.f3 c1P.f4 c1P.f5 c1P.f6 c1P.f7 c1P.f8 c1P.f9 c1P.f10 c1P.f11 (j : Int) = some (lvU j) := fun j hj => c1_lv ⟨j, hj⟩
theorem c1_pa' : ∀ j : Nat, j < t0.length → shape_Parent.f 20 c1P.f0 c1P.f1 c1P.f2 c1P.f3 c1P.f4 c1P.f5 c1P.f6 c1P.f7 c1P.f8 c1P.f9 c1P.f10 c1P.f11 (j : Int) = some (paU j) := fun j hj => c1_pa ⟨j, hj⟩
theorem t0_inv : LInv t0 := fun i hi => by
  have e : t0.getD i zL = zL := by
    match i, hi with
    | 0, _ => rfl
    | 1, _ => rfl
    | 2, _ => rfl
  rw [e]; exact inv_nil
set_option maxHeartbeats 8000000 in
set_option maxRecDepth 100000 in
theorem firstP_ (w : World) : Calls Try.prog 27 #[] w fun e w' => e = .returned (.bool true) ∧ Below w.heap.size w w' := by
  have hu41 := Try.underlying41
  have hu38 := Try.underlying38
  have hx := blk_new w (.cells #[.int .i64 1, .int .i64 1, .int .i64 1, .int .i64 1, .int .i64 1, .int .i64 0, .int .i64 1, .int .i64 9, .int .i64 1, .int .i64 0, .int .i64 1, .int .i64 0] 41)
  have HBc := Aside0.mk (below_alloc (Below.refl w.heap.size w) (.cells #[.int .i64 1, .int .i64 1, .int .i64 1, .int .i64 1, .int .i64 1, .int .i64 0, .int .i64 1, .int .i64 9, .int .i64 1, .int .i64 0, .int .i64 1, .int .i64 0] 41))
  have HN := Aside0.mk (fun W => NewT_ 3 9 W (by decide) (by decide) (by decide) (by decide))
  have HX := Aside0.mk hx
  have e1 := Aside0.mk (show (w.alloc (.cells #[.int .i64 1, .int .i64 1, .int .i64 1, .int .i64 1, .int .i64 1, .int .i64 0, .int .i64 1, .int .i64 9, .int .i64 1, .int .i64 0, .int .i64 1, .int .i64 0] 41)).heap.size = w.heap.size + 1 by simp)
  clear hx
  go_enter Try.func27, Try.ntmps27
  go_wp2_with fail
  refine (HN.out _).mono ?_
  rintro e w1 ⟨rfl, hT, hb⟩
  rw [e1.out] at hT
  have hx1 := (hb.block w.heap.size (by simp)).trans HX.out
  have x0 : w1.cell? ⟨w.heap.size, 0, none⟩ = some (.int .i64 1) := (blk_cell hx1 0).trans rfl
  have x1 : w1.cell? ⟨w.heap.size, 1, none⟩ = some (.int .i64 1) := (blk_cell hx1 1).trans rfl
  have x2 : w1.cell? ⟨w.heap.size, 2, none⟩ = some (.int .i64 1) := (blk_cell hx1 2).trans rfl
  have x3 : w1.cell? ⟨w.heap.size, 3, none⟩ = some (.int .i64 1) := (blk_cell hx1 3).trans rfl
  have x4 : w1.cell? ⟨w.heap.size, 4, none⟩ = some (.int .i64 1) := (blk_cell hx1 4).trans rfl
  have x5 : w1.cell? ⟨w.heap.size, 5, none⟩ = some (.int .i64 0) := (blk_cell hx1 5).trans rfl
  have x6 : w1.cell? ⟨w.heap.size, 6, none⟩ = some (.int .i64 1) := (blk_cell hx1 6).trans rfl
  have x7 : w1.cell? ⟨w.heap.size, 7, none⟩ = some (.int .i64 9) := (blk_cell hx1 7).trans rfl
  have x8 : w1.cell? ⟨w.heap.size, 8, none⟩ = some (.int .i64 1) := (blk_cell hx1 8).trans rfl
  have x9 : w1.cell? ⟨w.heap.size, 9, none⟩ = some (.int .i64 0) := (blk_cell hx1 9).trans rfl
  have x10 : w1.cell? ⟨w.heap.size, 10, none⟩ = some (.int .i64 1) := (blk_cell hx1 10).trans rfl
  have x11 : w1.cell? ⟨w.heap.size, 11, none⟩ = some (.int .i64 0) := (blk_cell hx1 11).trans rfl
  have HB1 := Aside0.mk (below_then HBc.out (by simp) hb)
  have HC : Aside0 (Calls Try.prog 32 #[.agg #[.int .i64 1, .int .i64 1, .int .i64 1, .int .i64 1, .int .i64 1, .int .i64 0, .int .i64 1, .int .i64 9, .int .i64 1, .int .i64 0, .int .i64 1, .int .i64 0], .pointer (some ⟨w.heap.size + 1 + 1, 0, none⟩), .int .i64 0, .int .i64 0, .bool false] w1 (fun e w' =>
      e = .returned (.tuple #[.agg #[.int .i64 0, .int .i64 1], .bool true, .int .i64 0]) ∧ Below w1.heap.size w1 w')) := ⟨NextT_ (show IsTab w1 _ _ t0 9 0 f0 from hT) t0_inv (by decide) c1P 0 0 false lvU paU c1_lv' c1_pa' 0 1 2 c1_path _ c1_next⟩
  clear hT hb hx1 HN
  go_wp2_with fail
  refine HC.out.mono ?_
  rintro e w2 ⟨rfl, hb⟩
  have HB2 := Aside0.mk (below_then HB1.out HB1.out.size hb)
  clear hb HC x0 x1 x2 x3 x4 x5 x6 x7 x8 x9 x10 x11
  go_wp2
  go_ret
  exact ⟨rfl, below_alloc HB2.out _⟩
end Go.Proofs.Ytagdgkimjgomlaa.Ln
