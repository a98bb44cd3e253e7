import Derived.Test.YtkceadieigpolaaGreatRT
import Derived.Test.YtkceadieigpolaaGreatTC
import Derived.Deep.RegionHeld3
import Derived.Deep.DeepCutAuto
/- TablePlays: the program's table beside the document's. -/
namespace Go.Proofs.YtkceadieigpolaaGreat.Ln
open Go.RowKit Go.Proofs.YtkceadieigpolaaGreatW.PrintWords Go.Proofs.YtkceadieigpolaaGreatW.PrintWords.Kd Go.Proofs.YtkceadieigpolaaGreatW.PrintLast Go.Proofs.YtkceadieigpolaaGreatW.PrintMore Go.Proofs.YtkceadieigpolaaGreat.PMd Go.Proofs.YtkceadieigpolaaGreat
open Go.Sort (grow)
set_option linter.unusedVariables false
set_option linter.unusedSimpArgs false
theorem same_e0 (l : List E) (hl : l.length ≤ 1000000) (d : Nat) : ∀ i k : Nat, i + d = l.length → d < k → ltkref8_SameEntries.l0 k l l (i : Int) = some true := by
  induction d with
  | zero =>
    intro i k h hk
    obtain ⟨k, rfl⟩ : ∃ j, k = j + 1 := ⟨k - 1, by omega⟩
    simp only [ltkref8_SameEntries.l0]
    rw [if_neg (by omega)]
  | succ d ih =>
    intro i k h hk
    obtain ⟨k, rfl⟩ : ∃ j, k = j + 1 := ⟨k - 1, by omega⟩
    have hw : wrap64 ((i : Int) + 1) = ((i + 1 : Nat) : Int) := by unfold wrap64; omega
    simp only [ltkref8_SameEntries.l0]
    rw [if_pos (by omega)]
    simp only [hw, ih (i + 1) k (by omega) (by omega)]
    simp
    omega
theorem Same_E (A : Option Addr) (c : Nat) (l : List E) (A1 : Option Addr) (c1 : Nat) (w : World) (hr0 : Kd.C k94 w A l.length l) (hc0 : l.length ≤ c) (hr1 : Kd.C k94 w A1 l.length l) (hc1 : l.length ≤ c1) (hl : l.length ≤ 1000000) :
    Calls Tryz.prog 32 #[.slice A l.length c, .slice A1 l.length c1] w fun e w' => e = .returned (.bool true) ∧ Below w.heap.size w w' :=
  (ltkref8_SameEntries.calls (l.length + 1) A c l A1 c1 l true w hr0 hc0 hr1 hc1 (by unfold ltkref8_SameEntries.f; rw [if_pos rfl]; exact same_e0 l hl l.length 0 _ (by omega) (by omega))).mono fun _ _ ⟨h1, h2⟩ => ⟨h1, by obtain ⟨n, rfl⟩ := h2.out; exact pw_below_drewN (Below.refl _ _) _⟩
theorem Ints_B (A : Option Addr) (c : Nat) (l : List Int) (A1 : Option Addr) (c1 : Nat) (w : World) (hr0 : Row w 3 1 A l.length c (ints l)) (hr1 : Row w 3 1 A1 l.length c1 (ints l)) (hl : l.length ≤ 1000000) :
    Calls Tryz.prog 18 #[.slice A l.length c, .slice A1 l.length c1] w fun e w' => e = .returned (.bool true) ∧ Below w.heap.size w w' :=
  (Ints_same A c l A1 c1 w hr0.readsI hr0.2.1 hr1.readsI hr1.2.1 hl).mono fun _ _ ⟨h1, h2⟩ => ⟨h1, by obtain ⟨n, rfl⟩ := h2.out; exact pw_below_drewN (Below.refl _ _) _⟩
theorem SameLk_ (A : Option Addr) (c : Nat) (l : List L) (A1 : Option Addr) (c1 : Nat) (w : World) (hr0 : Row w 41 2 A l.length c (flatL l)) (hr1 : Row w 41 2 A1 l.length c1 (flatL l)) (hl : l.length ≤ 1000000) :
    Calls Tryz.prog 23 #[.slice A l.length c, .slice A1 l.length c1] w fun e w' => e = .returned (.bool true) ∧ Below w.heap.size w w' :=
  (SameLocks_ A c l A1 c1 w hr0.readsL hr0.2.1 hr1.readsL hr1.2.1 hl).mono fun _ _ ⟨h1, h2⟩ => ⟨h1, by obtain ⟨n, rfl⟩ := h2.out; exact pw_below_drewN (Below.refl _ _) _⟩
/-! ### edges alike -/
abbrev EdS := S91
def toEd (l : List (Int × Int)) : List EdS := l.map fun p => ⟨p.1, p.2⟩
theorem toEd_len (l : List (Int × Int)) : (toEd l).length = l.length := by simp [toEd]
theorem flatP_get' {l : List (Int × Int)} {j : Nat} {p : Int × Int} (h : l[j]? = some p) : (flatP l)[j * 2]? = some (.int .i64 p.1) ∧ (flatP l)[j * 2 + 1]? = some (.int .i64 p.2) := by
  induction l generalizing j with
  | nil => simp at h
  | cons x l ih =>
    have e : flatP (x :: l) = .int .i64 x.1 :: .int .i64 x.2 :: flatP l := rfl
    cases j with
    | zero => obtain rfl : x = p := by simpa using h
              rw [e]; exact ⟨rfl, rfl⟩
    | succ j =>
      obtain ⟨h1, h2⟩ := ih (j := j) (by simpa using h)
      rw [e, show (j + 1) * 2 = j * 2 + 1 + 1 by omega]
      exact ⟨by simpa using h1, by simpa using h2⟩
theorem Row.readsP {w : World} {A : Option Addr} {c : Nat} {l : List (Int × Int)} (h : Row w 91 2 A l.length c (flatP l)) : Kd.C k91 w A (toEd l).length (toEd l) := by
  rw [toEd_len]
  refine ⟨(toEd_len l), by have h1 := h.2.1; have h2 := h.2.2.1; unfold maxLen at h2; omega, fun hn => ?_⟩
  obtain ⟨g, off, cur, rfl, _, _, hc⟩ := h.at_ hn
  refine ⟨_, rfl, fun j p hj => ?_⟩
  unfold toEd at hj
  rw [List.getElem?_map] at hj
  cases hq : l[j]? with
  | none => rw [hq] at hj; cases hj
  | some x =>
    rw [hq] at hj
    injection hj with hj
    subst hj
    refine ⟨[.int .i64 x.1, .int .i64 x.2], rfl, k91_mk w _, fun i u hu => ?_⟩
    obtain ⟨f0, f1⟩ := flatP_get' hq
    rw [Addr.add_lit]
    match i, hu with
    | 0, hu => obtain rfl : Value.int .i64 x.1 = u := by simpa using hu
               exact (hc _ _ f0).1
    | 1, hu => obtain rfl : Value.int .i64 x.2 = u := by simpa using hu
               exact (hc _ _ f1).1
    | i + 2, hu => simp at hu
theorem same_d0 (l : List EdS) (hl : l.length ≤ 1000000000000) (d : Nat) : ∀ i k : Nat, i + d = l.length → d < k → ltkref8_SameEdges.l0 k l l (i : Int) = some true := by
  induction d with
  | zero =>
    intro i k hi hk
    obtain ⟨k, rfl⟩ : ∃ m, k = m + 1 := ⟨k - 1, by omega⟩
    simp only [ltkref8_SameEdges.l0]
    rw [if_neg (by omega)]
  | succ d ih =>
    intro i k hi hk
    obtain ⟨k, rfl⟩ : ∃ m, k = m + 1 := ⟨k - 1, by omega⟩
    simp only [ltkref8_SameEdges.l0]
    rw [if_pos (by omega), if_pos (by omega), if_pos (by omega), if_neg (by simp), show wrap64 ((i : Int) + 1) = ((i + 1 : Nat) : Int) from by unfold wrap64; omega]
    exact ih (i + 1) k (by omega) (by omega)
theorem SameEd_ (A : Option Addr) (c : Nat) (l : List (Int × Int)) (A1 : Option Addr) (c1 : Nat) (w : World) (hr0 : Row w 91 2 A l.length c (flatP l)) (hr1 : Row w 91 2 A1 l.length c1 (flatP l)) (hl : l.length ≤ 1000000000000) :
    Calls Tryz.prog 26 #[.slice A l.length c, .slice A1 l.length c1] w fun e w' => e = .returned (.bool true) ∧ Below w.heap.size w w' := by
  have h := ltkref8_SameEdges.calls ((toEd l).length + 1) A c (toEd l) A1 c1 (toEd l) true w hr0.readsP (by rw [toEd_len]; exact hr0.2.1) hr1.readsP (by rw [toEd_len]; exact hr1.2.1) (by
    unfold ltkref8_SameEdges.f; rw [if_pos rfl]; exact same_d0 _ (by rw [toEd_len]; exact hl) (toEd l).length 0 _ (by omega) (by omega))
  rw [toEd_len] at h
  exact h.mono fun _ _ ⟨h1, h2⟩ => ⟨h1, by obtain ⟨n, rfl⟩ := h2.out; exact pw_below_drewN (Below.refl _ _) _⟩
/-! ### sizes -/
theorem dropO_lenM {ls : List LS} {M : Nat} (hm : ∀ i, mS (ls.getD i zL) ≤ M) (who : Int) : ∀ d k : Nat, k + d = ls.length → (dropO ls who k).length ≤ M * d
  | 0, k, h => by rw [show k = ls.length by omega, dropO_top]; simp
  | d + 1, k, h => by
    rw [dropO_step (by omega : k < ls.length), List.length_append, Nat.mul_succ]
    have h1 := dropO_lenM hm who d (k + 1) (by omega)
    have h2 := dropS_bd who (ls.getD k zL)
    have h3 := hm k
    omega
theorem flatM_len {l : List Int} {g : Int → List (Int × Int)} {M : Nat} (h : ∀ x, (g x).length ≤ M) : (l.flatMap g).length ≤ M * l.length := by
  induction l with
  | nil => simp
  | cons x l ih => rw [List.flatMap_cons, List.length_append, List.length_cons, Nat.mul_succ]; have := h x; omega
theorem OInv.who {n : Nat} {most : Int} {i : Nat} {ls : List LS} {f : At} (h : OInv n most i ls f) (hn : n ≤ 60) (hi : i ≤ 301) : (whoT ls ls.length).length ≤ 18060 := by
  have h1 := whoT_len h.size ls.length (Nat.le_refl _)
  rw [h.len] at h1
  have h2 : n * i ≤ 60 * 301 := Nat.mul_le_mul hn hi
  rw [h.len]
  omega
theorem OInv.edr {n : Nat} {most : Int} {i : Nat} {ls : List LS} {f : At} (h : OInv n most i ls f) (hn : n ≤ 60) (hi : i ≤ 301) : (edR ls).length ≤ 1000000000000 := by
  unfold edR
  have h1 := flatM_len (l := sortR (whoT ls ls.length)) (g := edT ls (fW ls)) (M := 800000) (ed_len (h.small (by omega) (by omega)) (fun y m hm => (fW_some.1 hm).1))
  have h2 := sortR_len (whoT ls ls.length)
  have h3 := h.who hn hi
  have h4 : 800000 * (sortR (whoT ls ls.length)).length ≤ 800000 * 18060 := Nat.mul_le_mul_left _ (by omega)
  omega
/-- The program's edges are the document's. -/
theorem EdgesT_R {w : World} {b : Nat} {F : Nat → Prop} {ls : List LS} {most : Int} {N n i : Nat} {f : At} (h : IsTab w b F ls most N f) (hv : OInv n most i ls f) (hs : Small ls) (hN : N ≤ 1000000) :
    Calls Tryz.prog 27 #[.pointer (some ⟨b, 0, none⟩)] w fun e w' => ∃ A' c', e = .returned (.slice A' (edR ls).length c') ∧
      Row w' 91 2 A' (edR ls).length c' (flatP (edR ls)) ∧ (∀ k, blk A' k → w.heap.size ≤ k) ∧ Below w.heap.size w w' :=
  (EdgesT_ h hs hN (fun x m hm => hv.t.lt x m hm)).mono fun e w' ⟨l, h1, h2, A', c', h3, h4, h5, h6⟩ => by
    rw [edR_is hv h1 h2] at h3 h4
    exact ⟨A', c', h3, h4, h5, h6⟩
theorem waits_lt {n : Nat} {most : Int} {i : Nat} {ls : List LS} {f : At} (h : OInv n most i ls f) (who : Int) : ∀ m, f who = some m → m < ls.length := fun m hm => h.t.lt who m hm
theorem below_of {w w' : World} (h : w' = w) : Below w.heap.size w w' := by rw [h]; exact Below.refl _ _
theorem getD_memP {l : List Op4} {i : Nat} (h : i < l.length) : l.getD i zOp4 ∈ l := by
  rw [List.getD_eq_getElem?_getD, List.getElem?_eq_getElem h]; exact List.getElem_mem h
/-! ### the law's early answers -/
set_option maxHeartbeats 8000000 in
set_option maxRecDepth 100000 in
theorem tplays_bad (nodes most : Int) (A : Option Addr) (c : Nat) (l : List Op4) (w : World) (h : 300 < l.length ∨ (nodes > 60 ∧ nodes ≤ 10000)) :
    Calls Tryz.prog 4 #[.int .i64 nodes, .int .i64 most, .slice A l.length c] w fun e w' => e = .returned (.bool true) ∧ Below w.heap.size w w' := by
  by_cases h1 : 300 < l.length
  · have a1 : decide ((l.length : Int) > 300) = true := decide_eq_true (by omega)
    have a2 : decide (300 < l.length) = true := decide_eq_true h1
    clear h h1
    go_enter Tryz.func4, Tryz.ntmps4
    go_wp2_with fail
    refine (firstT_ w).mono ?_
    rintro e w1 ⟨rfl, hb⟩
    have HB1 := Aside0.mk hb
    clear hb
    go_wp2_with fail
    refine (firstT_ w1).mono ?_
    rintro e w2 ⟨rfl, hb⟩
    have HB2 := Aside0.mk (below_then HB1.out HB1.out.size hb)
    clear hb
    go_wp2
    go_ret
    exact ⟨rfl, HB2.out⟩
  · obtain ⟨h2, h3⟩ := h.resolve_left h1
    have a1 : decide ((l.length : Int) > 300) = false := decide_eq_false (by omega)
    have a2 : decide (300 < l.length) = false := decide_eq_false h1
    have a3 : decide (nodes > 60) = true := decide_eq_true h2
    have a4 : decide (nodes ≤ 10000) = true := decide_eq_true h3
    clear h h1 h2 h3
    go_enter Tryz.func4, Tryz.ntmps4
    go_wp2_with fail
    refine (firstT_ w).mono ?_
    rintro e w1 ⟨rfl, hb⟩
    have HB1 := Aside0.mk hb
    clear hb
    go_wp2_with fail
    refine (firstT_ w1).mono ?_
    rintro e w2 ⟨rfl, hb⟩
    have HB2 := Aside0.mk (below_then HB1.out HB1.out.size hb)
    clear hb
    go_wp2
    go_ret
    exact ⟨rfl, HB2.out⟩
set_option maxHeartbeats 8000000 in
set_option maxRecDepth 100000 in
theorem tplays_none (nodes most : Int) (A : Option Addr) (c : Nat) (l : List Op4) (w : World) (h1 : l.length ≤ 300) (h2 : ¬ (nodes > 60 ∧ nodes ≤ 10000)) (hn : newBad nodes most = true) :
    Calls Tryz.prog 4 #[.int .i64 nodes, .int .i64 most, .slice A l.length c] w fun e w' => e = .returned (.bool true) ∧ Below w.heap.size w w' := by
  have a1 : decide ((l.length : Int) > 300) = false := decide_eq_false (by omega)
  have a2 : decide (300 < l.length) = false := decide_eq_false (by omega)
  have HA := Aside0.mk (fun W => NewT_bad nodes most W hn)
  have HR := Aside0.mk (fun W => NewTR_bad nodes most W hn)
  by_cases h3 : nodes > 60
  · have a3 : decide (nodes > 60) = true := decide_eq_true h3
    have a4 : decide (nodes ≤ 10000) = false := decide_eq_false (fun h => h2 ⟨h3, h⟩)
    clear h1 h2 hn h3
    go_enter Tryz.func4, Tryz.ntmps4
    go_wp2_with fail
    refine (firstT_ w).mono ?_
    rintro e w1 ⟨rfl, hb⟩
    have HB1 := Aside0.mk hb
    clear hb
    go_wp2_with fail
    refine (HA.out w1).mono ?_
    rintro e w2 ⟨rfl, hb⟩
    have HB2 := Aside0.mk (below_then HB1.out HB1.out.size hb)
    clear hb
    go_wp2_with fail
    refine (HR.out w2).mono ?_
    rintro e w3 ⟨rfl, rfl⟩
    go_wp2_with fail
    go_loopg [11] 1 (fun gg v wr => v = .int .i64 0 ∧ Aside0 (wr = w3))
    case atStart => exact ⟨rfl, ⟨rfl⟩⟩
    case round =>
      obtain ⟨rfl, HWr⟩ := hrel
      obtain rfl := HWr.out
      go_wp2_with fail
      refine (firstT_ _).mono ?_
      rintro e w4 ⟨rfl, hb⟩
      have HB4 := Aside0.mk (below_then HB2.out HB2.out.size hb)
      clear hb
      go_wp2
      go_ret
      exact ⟨rfl, HB4.out⟩
  · have a3 : decide (nodes > 60) = false := decide_eq_false h3
    clear h1 h2 hn h3
    go_enter Tryz.func4, Tryz.ntmps4
    go_wp2_with fail
    refine (firstT_ w).mono ?_
    rintro e w1 ⟨rfl, hb⟩
    have HB1 := Aside0.mk hb
    clear hb
    go_wp2_with fail
    refine (HA.out w1).mono ?_
    rintro e w2 ⟨rfl, hb⟩
    have HB2 := Aside0.mk (below_then HB1.out HB1.out.size hb)
    clear hb
    go_wp2_with fail
    refine (HR.out w2).mono ?_
    rintro e w3 ⟨rfl, rfl⟩
    go_wp2_with fail
    go_loopg [11] 1 (fun gg v wr => v = .int .i64 0 ∧ Aside0 (wr = w3))
    case atStart => exact ⟨rfl, ⟨rfl⟩⟩
    case round =>
      obtain ⟨rfl, HWr⟩ := hrel
      obtain rfl := HWr.out
      go_wp2_with fail
      refine (firstT_ _).mono ?_
      rintro e w4 ⟨rfl, hb⟩
      have HB4 := Aside0.mk (below_then HB2.out HB2.out.size hb)
      clear hb
      go_wp2
      go_ret
      exact ⟨rfl, HB4.out⟩
set_option maxHeartbeats 64000000 in
set_option maxRecDepth 100000 in
theorem tplays_in (n : Nat) (most : Int) (A : Option Addr) (c : Nat) (l : List Op4) (w : World) (hr : Kd.C kOp4 w A l.length l) (hc : l.length ≤ c) (hl : ∀ x ∈ l, ok64 x.f0 ∧ ok64 x.f1 ∧ ok64 x.f2 ∧ ok64 x.f3) (n1 : 1 ≤ n) (n2 : n ≤ 60) (h1 : l.length ≤ 300) (m1 : 1 ≤ most) (m2 : most ≤ 4096) :
    Calls Tryz.prog 4 #[.int .i64 (n : Int), .int .i64 most, .slice A l.length c] w fun e w' => e = .returned (.bool true) ∧ Below w.heap.size w w' := by
  have mixed : Tryz.prog.follows Departure.mixedOrders = true := by kernel_rfl
  have hu33 := Tryz.underlying35
  have hu38 := Tryz.underlying41
  have hu69 := Tryz.underlying69
  have hu65 := Tryz.underlying65
  have HR := Aside0.mk hr
  have HN := Aside0.mk (And.intro n1 (And.intro n2 (And.intro h1 hc)))
  have HW := Aside0.mk hl
  have b2 : decide ((n : Int) > 60) = false := decide_eq_false (by omega)
  have b3 : decide ((l.length : Int) > 300) = false := decide_eq_false (by omega)
  have b4 : decide (l.length > 300) = false := decide_eq_false (by omega)
  have HNew := Aside0.mk (fun W => NewT_ n most W n1 (by omega) m1 m2)
  have HNewR := Aside0.mk (fun W => NewTR_ n most W n1 (by omega) m1 m2)
  have HO0 := Aside0.mk (oinv_zero n (show 0 ≤ most by omega))
  clear hr hc hl n1 n2 h1 m1 m2
  go_enter Tryz.func4, Tryz.ntmps4
  go_wp2_with fail
  refine (firstT_ w).mono ?_
  rintro e w1 ⟨rfl, hb1⟩
  have HB1 := Aside0.mk hb1
  clear hb1
  go_wp2_with fail
  refine (HNew.out w1).mono ?_
  rintro e w2 ⟨rfl, hT, hb⟩
  have HT2 := Aside0.mk (And.intro hT hb)
  clear hT hb HNew
  go_wp2_with fail
  refine (HNewR.out w2).mono ?_
  rintro e w3 ⟨rfl, hTR, hb⟩
  have HT := Aside0.mk (show TwT (fun _ => False) w w3 (w1.heap.size + 1) w2.heap.size (List.replicate n zL) f0 0 (List.replicate n zL) most from by
    have s1 := HB1.out.size
    have s2 := HT2.out.2.size
    have s3 := hb.size
    have s0 := HT2.out.1.lt
    refine ⟨fun k => w1.heap.size ≤ k ∧ k < w2.heap.size, fun k => w2.heap.size ≤ k ∧ k < w3.heap.size, (HT2.out.1.mono (fun k hk h => ⟨h, hk⟩)).below hb, hTR.mono (fun k hk h => ⟨h, hk⟩), fun k hk => ⟨by omega, by omega, id⟩, fun k hk => ⟨by omega, by omega, id⟩, fun k hk hk2 => by omega, fun _ h => h.elim, below_then (below_then HB1.out HB1.out.size HT2.out.2) (by omega) hb⟩)
  clear hTR hb HNewR HT2 HB1
  generalize w1.heap.size + 1 = a at HT ⊢
  generalize w2.heap.size = b at HT ⊢
  go_wp2_with fail
  clear b2 b3 b4
  go_loopg [11] l.length (fun gg v wr => ∃ (i : Nat) (ls : List LS) (f : At), i ≤ l.length ∧ l.length - i ≤ gg ∧ v = .int .i64 i ∧ Aside0 (TwT (fun _ => False) w wr a b ls f i ls most) ∧ Aside0 (OInv n most i ls f))
  case atStart => exact ⟨0, _, _, by omega, by omega, rfl, HT, HO0⟩
  case round =>
    clear HT HO0
    obtain ⟨i, ls, f, hi, hgg, rfl, HTi, HV⟩ := hrel
    by_cases hlt : i < l.length
    · have t1 : (i : Int) < l.length := by omega
      have t0 : 0 ≤ (i : Int) := by omega
      have HLT := Aside0.mk (And.intro hlt (And.intro hgg (show i + 1 ≤ 301 by have := HN.out; omega)))
      have W3 := Aside0.mk (show wrap64 ((i : Int) + 1) = ((i + 1 : Nat) : Int) by have := HN.out; unfold wrap64; omega)
      obtain ⟨ad, rfl, q0, q1, q2, q3⟩ := at_Op4 (Kd.C_below HR.out HTi.out.bw) i hlt
      have HWo := Aside0.mk (HW.out _ (getD_memP hlt))
      generalize l.getD i zOp4 = o at q0 q1 q2 q3 HWo
      obtain ⟨g, hg⟩ : ∃ g, g = wr.heap.size := ⟨_, rfl⟩
      have HBX := Aside0.mk (blk_new wr (.cells #[.int .i64 o.f0, .int .i64 o.f1, .int .i64 o.f2, .int .i64 o.f3] 35))
      have HTX := Aside0.mk ((HTi.out.more (below_alloc (Below.refl wr.heap.size wr) (.cells #[.int .i64 o.f0, .int .i64 o.f1, .int .i64 o.f2, .int .i64 o.f3] 35)) (Y := fun k => k = wr.heap.size) (fun k hk => by subst hk; exact ⟨Nat.le_refl _, by simp⟩)).less (Y := fun k => k = wr.heap.size) (fun k hk => .inr hk))
      obtain ⟨wx, hwx⟩ : ∃ W, W = wr.alloc (.cells #[.int .i64 o.f0, .int .i64 o.f1, .int .i64 o.f2, .int .i64 o.f3] 35) := ⟨_, rfl⟩
      clear hi hgg hlt
      go_upto_if 74 with fail
      rw [← hwx, ← hg] at HBX
      rw [← hwx, ← hg] at HTX
      rw [← hwx]
      (try rw [← hg])
      have x0 : wx.cell? ⟨g, 0, none⟩ = some (.int .i64 o.f0) := (blk_cell HBX.out 0).trans rfl
      clear q0 q1 q2 q3 hg hwx HTi
      go_cut [] (fun wy => ∃ (ls2 : List LS) (f2 : At), Aside0 (TwT (fun k => k = g) w wy a b ls2 f2 (i + 1) ls2 most) ∧ Aside0 (OInv n most (i + 1) ls2 f2) ∧ Aside0 (wy.heap[g]? = some (.cells #[.int .i64 o.f0, .int .i64 o.f1, .int .i64 o.f2, .int .i64 o.f3] 35 (0, 0))))
      case first =>
        have HGL := Aside0.mk (Array.getElem?_eq_some_iff.1 HBX.out).1
        by_cases hkd : o.f0 = 0
        · have k0 : (o.f0 == 0) = true := beq_iff_eq.2 hkd
          have x1 : wx.cell? ⟨g, 1, none⟩ = some (.int .i64 o.f1) := (blk_cell HBX.out 1).trans rfl
          have x2 : wx.cell? ⟨g, 2, none⟩ = some (.int .i64 o.f2) := (blk_cell HBX.out 2).trans rfl
          have x3 : wx.cell? ⟨g, 3, none⟩ = some (.int .i64 o.f3) := (blk_cell HBX.out 3).trans rfl
          have hfw := fW_is HV.out.t
          have HAA := Aside0.mk (AskTA HTX.out (HV.out.small (by have := HLT.out; omega) (by have := HN.out; omega)) (by have := HLT.out; omega) o.f1 o.f2 o.f3 HWo.out.2.1)
          have HAB := Aside0.mk (fun W l2 f2 N (t : TwT (fun k => k = g) w W a b l2 f2 N ls most) => AskTB t (HV.out.small (by have := HLT.out; omega) (by have := HN.out; omega)) HV.out.t.inv o.f1 o.f2 o.f3 hfw)
          have HV1 := Aside0.mk (HV.out.ask HWo.out.2.1 o.f2 o.f3)
          generalize askT ls most f o.f1 o.f2 o.f3 = R at HAA HAB HV1
          obtain ⟨r, er, ls2, f2⟩ := R
          dsimp only at HAA HAB HV1
          clear hkd hfw
          go_wp2_with fail
          refine HAA.out.mono ?_
          rintro e w5 ⟨rfl, t5, g5⟩
          have Z5 := Aside0.mk ((g5.block g HGL.out (fun h => h rfl)).trans HBX.out)
          have T5 := Aside0.mk t5
          have y1 : w5.cell? ⟨g, 1, none⟩ = some (.int .i64 o.f1) := (blk_cell Z5.out 1).trans rfl
          have y2 : w5.cell? ⟨g, 2, none⟩ = some (.int .i64 o.f2) := (blk_cell Z5.out 2).trans rfl
          have y3 : w5.cell? ⟨g, 3, none⟩ = some (.int .i64 o.f3) := (blk_cell Z5.out 3).trans rfl
          clear x0 x1 x2 x3 t5 g5 HAA
          go_wp2_with fail
          refine (HAB.out _ _ _ _ T5.out).mono ?_
          rintro e w6 ⟨rfl, t6, g6⟩
          have Z6 := Aside0.mk ((g6.block g (Array.getElem?_eq_some_iff.1 Z5.out).1 (fun h => h rfl)).trans Z5.out)
          have T6 := Aside0.mk t6
          clear y1 y2 y3 t6 g6 HAB
          go_wp2_with fail
          go_meet
          case rel => exact ⟨ls2, f2, T6, HV1, Z6⟩
        · have k0 : (o.f0 == 0) = false := beq_eq_false_iff_ne.2 hkd
          have HZD := Aside0.mk (show wx.drew.heap[g]? = some (.cells #[.int .i64 o.f0, .int .i64 o.f1, .int .i64 o.f2, .int .i64 o.f3] 35 (0, 0)) from HBX.out)
          have HTL := Aside0.mk (show g < wx.drew.heap.size from HGL.out)
          have D0 := Aside0.mk (show wx.drew.cell? ⟨g, 1, none⟩ = some (.int .i64 o.f1) from (blk_cell HZD.out 1).trans rfl)
          have HTd := Aside0.mk (HTX.out.below (below_drew (Below.refl _ _)))
          have HmS := Aside0.mk (show ∀ j, mS (ls.getD j zL) ≤ 602 from fun j => by
            by_cases hj : j < ls.length
            · have h1 := HV.out.size j hj; have h2 := HLT.out; unfold mS; omega
            · rw [List.getD_eq_getElem?_getD, List.getElem?_eq_none (by omega)]; exact Nat.zero_le _)
          have HRL := Aside0.mk (show (dropO ls o.f1 0).length ≤ 1000000 by
            have h1 := dropO_lenM HmS.out o.f1 ls.length 0 (by omega)
            have h2 : 602 * ls.length ≤ 602 * 60 := Nat.mul_le_mul_left _ (by rw [HV.out.len]; exact HN.out.2.1)
            omega)
          have HAA := Aside0.mk (fun W (t : TwT (fun k => k = g) w W a b ls f i ls most) => DropTA t (by rw [HV.out.len]; have := HN.out; omega) (by rw [HV.out.len]; have := HN.out; omega) (HV.out.mS (by have := HLT.out; omega)) o.f1 HWo.out.2.1 (HV.out.outs o.f1))
          have HAB := Aside0.mk (fun W X l2 f2 N (t : TwT X w W a b l2 f2 N ls most) => DropTB t (by rw [HV.out.len]; have := HN.out; omega) (HV.out.mS (by have := HLT.out; omega)) HV.out.t.inv o.f1)
          have HV1 := Aside0.mk ((HV.out.drop o.f1).more)
          generalize dropO ls o.f1 0 = rr at HAA HAB HRL
          generalize dropL ls o.f1 0 = ls2 at HAA HAB HV1
          generalize dropF ls f o.f1 = f2 at HAA HV1
          clear hkd x0
          go_wp2_with fail
          refine wp_region_held_drew (S := (fun W => W.cell? ⟨g, 1, none⟩ = some (.int .i64 o.f1))) (by kernel_rfl) ?_ (fun hH => ?_)
          · exact D0.out
          refine wpAnyH_take (i := 0) (oi := { dst := some 105, op := Op.move (Operand.tmp 7), type := 27, pos := "law.go:49", after := #[], guard := none }) (v := ?vb1) rfl (by kernel_rfl) (by kernel_rfl) (by kernel_rfl) (fun _ _ _ h => h) (Or.inl ⟨by rfl, ?yb1⟩) (by assumption) ?rb1
          case yb1 => (intro w hSw; (try dsimp only at hSw); go_simp; (try with_reducible rfl))
          (try simp only [Act.put, List.setIfInBounds_toArray, List.set_cons_zero, List.set_cons_succ])
          refine wpAnyH_take (i := 1) (oi := { dst := some 106, op := Op.fieldAddr 35 (Operand.tmp 12) 1, type := 0, pos := "law.go:49", after := #[], guard := none }) (v := ?vb2) rfl (by kernel_rfl) (by kernel_rfl) (by kernel_rfl) (fun _ _ _ h => h) (Or.inl ⟨by rfl, ?yb2⟩) (by assumption) ?rb2
          case yb2 => (intro w hSw; (try dsimp only at hSw); go_simp; (try with_reducible rfl))
          (try simp only [Act.put, List.setIfInBounds_toArray, List.set_cons_zero, List.set_cons_succ])
          refine wpAnyH_take (i := 2) (oi := { dst := some 107, op := Op.load 3 (Operand.tmp 106), type := 3, pos := "law.go:49", after := #[{ on := 1, ground := Ground.data }], guard := none }) (v := ?vb3) rfl (by kernel_rfl) (by kernel_rfl) (by kernel_rfl) (fun _ _ _ h => h) (Or.inl ⟨by rfl, ?yb3⟩) (by assumption) ?rb3
          case yb3 => (intro w hSw; (try dsimp only at hSw); go_simp; (try with_reducible rfl))
          (try simp only [Act.put, List.setIfInBounds_toArray, List.set_cons_zero, List.set_cons_succ])
          refine wpAnyH_take (i := 4) (oi := { dst := some 109, op := Op.move (Operand.tmp 9), type := 31, pos := "law.go:49", after := #[], guard := none }) (v := ?vb4) rfl (by kernel_rfl) (by kernel_rfl) (by kernel_rfl) (fun _ _ _ h => h) (Or.inl ⟨by rfl, ?yb4⟩) (by assumption) ?rb4
          case yb4 => (intro w hSw; (try dsimp only at hSw); go_simp; (try with_reducible rfl))
          (try simp only [Act.put, List.setIfInBounds_toArray, List.set_cons_zero, List.set_cons_succ])
          refine wpAnyH_take (i := 5) (oi := { dst := some 110, op := Op.fieldAddr 35 (Operand.tmp 12) 1, type := 0, pos := "law.go:49", after := #[], guard := none }) (v := ?vb5) rfl (by kernel_rfl) (by kernel_rfl) (by kernel_rfl) (fun _ _ _ h => h) (Or.inl ⟨by rfl, ?yb5⟩) (by assumption) ?rb5
          case yb5 => (intro w hSw; (try dsimp only at hSw); go_simp; (try with_reducible rfl))
          (try simp only [Act.put, List.setIfInBounds_toArray, List.set_cons_zero, List.set_cons_succ])
          refine wpAnyH_take (i := 6) (oi := { dst := some 111, op := Op.load 3 (Operand.tmp 110), type := 3, pos := "law.go:49", after := #[{ on := 5, ground := Ground.data }], guard := none }) (v := ?vb6) rfl (by kernel_rfl) (by kernel_rfl) (by kernel_rfl) (fun _ _ _ h => h) (Or.inl ⟨by rfl, ?yb6⟩) (by assumption) ?rb6
          case yb6 => (intro w hSw; (try dsimp only at hSw); go_simp; (try with_reducible rfl))
          (try simp only [Act.put, List.setIfInBounds_toArray, List.set_cons_zero, List.set_cons_succ])
          refine wpAnyH_ready (rs := [3]) (by kernel_rfl) (by simp) ?_
          refine AllReadyH.cons (o := { dst := some 108, op := Op.call { callee := Callee.value (Operand.func 11), args := #[Operand.tmp 105, Operand.tmp 107], argTypes := #[27, 3] }, type := 38, pos := "law.go:49", after := #[{ on := 0, ground := Ground.data }, { on := 2, ground := Ground.data }], guard := none }) rfl (fun K hK => ?_) AllReadyH.nil
          go_simp
          (go_at_call 11; (with_reducible refine (HAA.out _ HTd.out).mono ?_); rintro e w5 ⟨A5, c5, rfl, r5, t5, g5⟩; have R5 := Aside0.mk r5; have T5 := Aside0.mk t5; have D0b := Aside0.mk (g5.cell D0.out (fun h => h rfl)); have Z5 := Aside0.mk ((g5.block g HTL.out (fun h => h rfl)).trans HZD.out); clear r5 t5 g5)
          go_wp2_with fail
          refine hK.out _ _ ?_ (fun hHb6 => ?_)
          · (try dsimp only)
            exact D0b.out
          clear hK K hH
          (try simp only [Act.put, List.setIfInBounds_toArray, List.set_cons_zero, List.set_cons_succ])
          refine wpAnyH_ready (rs := [7]) (by kernel_rfl) (by simp) ?_
          refine AllReadyH.cons (o := { dst := some 112, op := Op.call { callee := Callee.value (Operand.func 12), args := #[Operand.tmp 109, Operand.tmp 111], argTypes := #[31, 3] }, type := 38, pos := "law.go:49", after := #[{ on := 4, ground := Ground.data }, { on := 6, ground := Ground.data }, { on := 3, ground := Ground.chain }], guard := none }) rfl (fun K hK => ?_) AllReadyH.nil
          go_simp
          (go_at_call 12; (with_reducible refine (HAB.out _ _ _ _ _ T5.out).mono ?_); rintro e w7 ⟨A7, c7, rfl, r7, t7, g7⟩; have R7 := Aside0.mk r7; have T7 := Aside0.mk t7; have R57 := Aside0.mk (R5.out.grew g7 (fun k hk h => h (.inr hk))); have D0c := Aside0.mk (g7.cell D0b.out (fun h => h (.inl rfl))); have Z7 := Aside0.mk ((g7.block g (Array.getElem?_eq_some_iff.1 Z5.out).1 (fun h => h (.inl rfl))).trans Z5.out); clear r7 t7 g7)
          go_wp2_with fail
          refine hK.out _ _ ?_ (fun hHb7 => ?_)
          · (try dsimp only)
            exact D0c.out
          clear hK K hHb6
          (try simp only [Act.put, List.setIfInBounds_toArray, List.set_cons_zero, List.set_cons_succ])
          refine wpAnyH_ready (rs := [8]) (by kernel_rfl) (by simp) ?_
          refine AllReadyH.cons (o := { dst := some 113, op := Op.call { callee := Callee.value (Operand.func 18), args := #[Operand.tmp 108, Operand.tmp 112], argTypes := #[38, 38] }, type := 4, pos := "law.go:49", after := #[{ on := 3, ground := Ground.data }, { on := 7, ground := Ground.data }, { on := 7, ground := Ground.chain }], guard := none }) rfl (fun K hK => ?_) AllReadyH.nil
          go_simp
          (go_at_call 18; (with_reducible refine (Ints_B A5 c5 rr A7 c7 _ R57.out R7.out HRL.out).mono ?_); rintro e w9 ⟨rfl, b9⟩; have T9 := Aside0.mk ((T7.out.below b9).less (fun k hk => .inl hk)); have D0d := Aside0.mk (cell_be D0c.out b9); have Z9 := Aside0.mk ((b9.block g (Array.getElem?_eq_some_iff.1 Z7.out).1).trans Z7.out); clear b9)
          go_wp2_with fail
          refine hK.out _ _ ?_ (fun hHb8 => ?_)
          · (try dsimp only)
            exact D0d.out
          clear hK K hHb7
          (try simp only [Act.put, List.setIfInBounds_toArray, List.set_cons_zero, List.set_cons_succ])
          refine wpAnyH_take (i := 9) (oi := { dst := some 114, op := Op.unOp UnOp.not 4 (Operand.tmp 113), type := 4, pos := "law.go:49", after := #[{ on := 8, ground := Ground.data }], guard := none }) (v := ?vb10) rfl (by kernel_rfl) (by kernel_rfl) (by kernel_rfl) (fun _ _ _ h => h) (Or.inl ⟨by rfl, ?yb10⟩) (by assumption) ?rb10
          case yb10 => (intro w hSw; (try dsimp only at hSw); go_simp; (try with_reducible rfl))
          (try simp only [Act.put, List.setIfInBounds_toArray, List.set_cons_zero, List.set_cons_succ])
          refine wpAnyH_done (by kernel_rfl) ?_ _
          go_wp2_with fail
          go_meet
          case rel => exact ⟨ls2, f2, ⟨T9.out.moreN (Nat.le_succ i)⟩, HV1, Z9⟩
      case rest =>
        clear HTX HBX x0 HV
        obtain ⟨ls2, f2, HT, HV, HZ⟩ := hcut
        obtain ⟨FA, hta⟩ := HT.out.ta
        obtain ⟨FB, htb⟩ := HT.out.tb
        have HA := Aside0.mk hta
        have HBt := Aside0.mk htb
        have HFW := Aside0.mk (fW_is HV.out.t)
        have HSm := Aside0.mk (HV.out.small (by have := HLT.out; omega) (by have := HN.out; omega))
        have y1 : wc.cell? ⟨g, 1, none⟩ = some (.int .i64 o.f1) := (blk_cell HZ.out 1).trans rfl
        have HWt := Aside0.mk (WaitsT_ hta o.f1 HWo.out.2.1 (waits_lt HV.out o.f1))
        have HWr := Aside0.mk (fun W (hb : Below wc.heap.size wc W) => WaitsTR_ (htb.below hb) HSm.out.1 o.f1)
        rw [HFW.out] at HWr
        generalize hxa : (waitsT ls2 f2 o.f1).1 = xa at HWt HWr
        generalize hxb : (waitsT ls2 f2 o.f1).2.1 = xb at HWt HWr
        generalize hxz : (waitsT ls2 f2 o.f1).2.2 = xz at HWt HWr
        clear hta htb hxa hxb hxz
        go_wp2_with fail
        refine HWt.out.mono ?_
        rintro e w5 ⟨rfl, hb5⟩
        have HB5 := Aside0.mk (below_alloc hb5 (.cells #[.int .i64 xa, .int .i64 xb] 41))
        have P5 := Aside0.mk (blk_new w5 (.cells #[.int .i64 xa, .int .i64 xb] 41))
        have z1 := cell_be y1 HB5.out
        clear hb5 HWt
        go_wp2_with fail
        refine (HWr.out _ HB5.out).mono ?_
        rintro e w6 ⟨rfl, hb6⟩
        have HB6 := Aside0.mk (below_then HB5.out HB5.out.size (below_alloc hb6 (.cells #[.int .i64 xa, .int .i64 xb] 41)))
        have HB66 := Aside0.mk (below_alloc hb6 (.cells #[.int .i64 xa, .int .i64 xb] 41))
        have P6 := Aside0.mk ((HB66.out.block w5.heap.size (Array.getElem?_eq_some_iff.1 P5.out).1).trans P5.out)
        have Q6 := Aside0.mk (blk_new w6 (.cells #[.int .i64 xa, .int .i64 xb] 41))
        clear hb6 HWr z1 y1 HB66 P5 HB5
        generalize w5.heap.size = p at P6 ⊢
        obtain ⟨wd, hwd⟩ : ∃ W, W = w6.alloc (.cells #[.int .i64 xa, .int .i64 xb] 41) := ⟨_, rfl⟩
        rw [← hwd] at HB6 P6 Q6
        obtain ⟨q, hq⟩ : ∃ q, w6.heap.size = q := ⟨_, rfl⟩
        rw [hq] at Q6
        have ZD := Aside0.mk ((HB6.out.block g (Array.getElem?_eq_some_iff.1 HZ.out).1).trans HZ.out)
        have HB0 := Aside0.mk (fun W (hb : Below wd.heap.size wd W) => (show W.cell? ⟨g, 1, none⟩ = some (.int .i64 o.f1) ∧ W.cell? ⟨g, 2, none⟩ = some (.int .i64 o.f2) ∧ W.cell? ⟨p, 0, none⟩ = some (.int .i64 xa) ∧ W.cell? ⟨p, 1, none⟩ = some (.int .i64 xb) ∧ W.cell? ⟨q, 0, none⟩ = some (.int .i64 xa) ∧ W.cell? ⟨q, 1, none⟩ = some (.int .i64 xb) from
          have z := (hb.block g (Array.getElem?_eq_some_iff.1 ZD.out).1).trans ZD.out
          have zp := (hb.block p (Array.getElem?_eq_some_iff.1 P6.out).1).trans P6.out
          have zq := (hb.block q (Array.getElem?_eq_some_iff.1 Q6.out).1).trans Q6.out
          ⟨(blk_cell z 1).trans rfl, (blk_cell z 2).trans rfl, (blk_cell zp 0).trans rfl, (blk_cell zp 1).trans rfl, (blk_cell zq 0).trans rfl, (blk_cell zq 1).trans rfl⟩))
        have HAd := Aside0.mk (HA.out.below HB6.out)
        have HBd2 := Aside0.mk (HBt.out.below HB6.out)
        have HTd := Aside0.mk (HT.out.below HB6.out)
        have CHo := Aside0.mk (fun W (hb : Below wd.heap.size wd W) => HoldsT_ (HAd.out.below hb) o.f1 o.f2)
        have CHoR := Aside0.mk (fun W (hb : Below wd.heap.size wd W) => (HoldsTR_ (HBd2.out.below hb) o.f1 o.f2).mono fun e w' ⟨x1, x2⟩ => (show e = Ending.returned (.int .i64 (holdsT ls2 o.f1 o.f2)) ∧ Below W.heap.size W w' from ⟨x1, below_of x2⟩))
        have CHe := Aside0.mk (fun W (hb : Below wd.heap.size wd W) => HeldT_ (HAd.out.below hb) HSm.out.1 o.f1)
        have CHeR := Aside0.mk (fun W (hb : Below wd.heap.size wd W) => HeldTR_ (HBd2.out.below hb) HSm.out.1 o.f1)
        have CEd := Aside0.mk (fun W (hb : Below wd.heap.size wd W) => EdgesT_R (HAd.out.below hb) HV.out HSm.out (by have := HLT.out; omega))
        have CEdR := Aside0.mk (fun W (hb : Below wd.heap.size wd W) => EdgesTR_ (HBd2.out.below hb) HSm.out HV.out.t.inv (Nat.le_trans (HV.out.who HN.out.2.1 HLT.out.2.2) (by omega)))
        have CLe := Aside0.mk (fun W (hb : Below wd.heap.size wd W) => LenT_ (HAd.out.below hb) HSm.out)
        have CLeR := Aside0.mk (fun W (hb : Below wd.heap.size wd W) => LenTR_ (HBd2.out.below hb) HSm.out)
        have HHL := Aside0.mk (show (heldT ls2 o.f1).length ≤ 1000000 from Nat.le_trans (held_len ls2 o.f1 ls2.length) (by rw [HV.out.len]; have := HN.out; omega))
        have HEL := Aside0.mk (HV.out.edr HN.out.2.1 HLT.out.2.2)
        have HBd := Aside0.mk (below_drew (Below.refl wd.heap.size wd))
        generalize holdsT ls2 o.f1 o.f2 = th at CHo CHoR
        generalize heldT ls2 o.f1 = hl at CHe CHeR HHL
        generalize edR ls2 = el at CEd CEdR HEL
        generalize lenT ls2 = tl at CLe CLeR
        go_wp2_with fail
        rw [← hwd]
        (try simp only [hq])
        clear hwd hq
        (try simp only [List.append_eq, List.cons_append, List.nil_append])
        refine wp_region_held_drew (S := (fun W => W.cell? ⟨g, 1, none⟩ = some (.int .i64 o.f1) ∧ W.cell? ⟨g, 2, none⟩ = some (.int .i64 o.f2) ∧ W.cell? ⟨p, 0, none⟩ = some (.int .i64 xa) ∧ W.cell? ⟨p, 1, none⟩ = some (.int .i64 xb) ∧ W.cell? ⟨q, 0, none⟩ = some (.int .i64 xa) ∧ W.cell? ⟨q, 1, none⟩ = some (.int .i64 xb))) (by kernel_rfl) ?_ (fun hH => ?_)
        · exact HB0.out _ HBd.out
        refine wpAnyH_take (i := 0) (oi := { dst := some 129, op := Op.load 41 (Operand.tmp 17), type := 41, pos := "law.go:54", after := #[], guard := none }) (v := ?vc1) rfl (by kernel_rfl) (by kernel_rfl) (by kernel_rfl) (fun _ _ _ h => h) (Or.inl ⟨by rfl, ?yc1⟩) (by assumption) ?rc1
        case yc1 => (intro w hSw; (try dsimp only at hSw); go_simp; (try with_reducible rfl))
        (try simp only [Act.put, List.setIfInBounds_toArray, List.set_cons_zero, List.set_cons_succ])
        refine wpAnyH_take (i := 1) (oi := { dst := some 130, op := Op.load 41 (Operand.tmp 19), type := 41, pos := "law.go:54", after := #[], guard := none }) (v := ?vc2) rfl (by kernel_rfl) (by kernel_rfl) (by kernel_rfl) (fun _ _ _ h => h) (Or.inl ⟨by rfl, ?yc2⟩) (by assumption) ?rc2
        case yc2 => (intro w hSw; (try dsimp only at hSw); go_simp; (try with_reducible rfl))
        (try simp only [Act.put, List.setIfInBounds_toArray, List.set_cons_zero, List.set_cons_succ])
        refine wpAnyH_take (i := 2) (oi := { dst := some 131, op := Op.binOp BinOp.neq 41 (Operand.tmp 129) (Operand.tmp 130) 41, type := 4, pos := "law.go:54", after := #[{ on := 0, ground := Ground.data }, { on := 1, ground := Ground.data }], guard := none }) (v := ?vc3) rfl (by kernel_rfl) (by kernel_rfl) (by kernel_rfl) (fun _ _ _ h => h) (Or.inl ⟨by rfl, ?yc3⟩) (by assumption) ?rc3
        case yc3 => (intro w hSw; (try dsimp only at hSw); go_simp; (try with_reducible rfl))
        (try simp only [Act.put, List.setIfInBounds_toArray, List.set_cons_zero, List.set_cons_succ])
        refine wpAnyH_take (i := 3) (oi := { dst := some 132, op := Op.move (Operand.tmp 131), type := 4, pos := "law.go:54", after := #[{ on := 2, ground := Ground.data }], guard := none }) (v := ?vc4) rfl (by kernel_rfl) (by kernel_rfl) (by kernel_rfl) (fun _ _ _ h => h) (Or.inl ⟨by rfl, ?yc4⟩) (by assumption) ?rc4
        case yc4 => (intro w hSw; (try dsimp only at hSw); go_simp; (try with_reducible rfl))
        (try simp only [Act.put, List.setIfInBounds_toArray, List.set_cons_zero, List.set_cons_succ])
        refine wpAnyH_take (i := 4) (oi := { dst := some 133, op := Op.move (Operand.tmp 18), type := 4, pos := "law.go:54", after := #[{ on := 3, ground := Ground.guard }], guard := some (3, false) }) (v := ?vc5) rfl (by kernel_rfl) (by kernel_rfl) (by kernel_rfl) (fun _ _ _ h => h) (Or.inl ⟨by rfl, ?yc5⟩) (by assumption) ?rc5
        case yc5 => (intro w hSw; (try dsimp only at hSw); go_simp; (try with_reducible rfl))
        (try simp only [Act.put, List.setIfInBounds_toArray, List.set_cons_zero, List.set_cons_succ])
        refine wpAnyH_take (i := 5) (oi := { dst := some 134, op := Op.move (Operand.tmp 20), type := 4, pos := "law.go:54", after := #[{ on := 3, ground := Ground.guard }], guard := some (3, false) }) (v := ?vc6) rfl (by kernel_rfl) (by kernel_rfl) (by kernel_rfl) (fun _ _ _ h => h) (Or.inl ⟨by rfl, ?yc6⟩) (by assumption) ?rc6
        case yc6 => (intro w hSw; (try dsimp only at hSw); go_simp; (try with_reducible rfl))
        (try simp only [Act.put, List.setIfInBounds_toArray, List.set_cons_zero, List.set_cons_succ])
        refine wpAnyH_take (i := 6) (oi := { dst := some 135, op := Op.binOp BinOp.neq 4 (Operand.tmp 133) (Operand.tmp 134) 4, type := 4, pos := "law.go:54", after := #[{ on := 4, ground := Ground.data }, { on := 5, ground := Ground.data }, { on := 3, ground := Ground.guard }], guard := some (3, false) }) (v := ?vc7) rfl (by kernel_rfl) (by kernel_rfl) (by kernel_rfl) (fun _ _ _ h => h) (Or.inl ⟨by rfl, ?yc7⟩) (by assumption) ?rc7
        case yc7 => (intro w hSw; (try dsimp only at hSw); go_simp; (try with_reducible rfl))
        (try simp only [Act.put, List.setIfInBounds_toArray, List.set_cons_zero, List.set_cons_succ])
        refine wpAnyH_take (i := 7) (oi := { dst := some 136, op := Op.pick (Operand.tmp 132) (Operand.const (Value.bool true)) (Operand.tmp 135), type := 4, pos := "law.go:54", after := #[{ on := 3, ground := Ground.data }, { on := 6, ground := Ground.data }], guard := none }) (v := ?vc8) rfl (by kernel_rfl) (by kernel_rfl) (by kernel_rfl) (fun _ _ _ h => h) (Or.inl ⟨by rfl, ?yc8⟩) (by assumption) ?rc8
        case yc8 => (intro w hSw; (try dsimp only at hSw); go_simp; (try with_reducible rfl))
        (try simp only [Act.put, List.setIfInBounds_toArray, List.set_cons_zero, List.set_cons_succ])
        refine wpAnyH_take (i := 8) (oi := { dst := some 137, op := Op.move (Operand.tmp 136), type := 4, pos := "law.go:54", after := #[{ on := 7, ground := Ground.data }, { on := 3, ground := Ground.chain }], guard := none }) (v := ?vc9) rfl (by kernel_rfl) (by kernel_rfl) (by kernel_rfl) (fun _ _ _ h => h) (Or.inl ⟨by rfl, ?yc9⟩) (by assumption) ?rc9
        case yc9 => (intro w hSw; (try dsimp only at hSw); go_simp; (try with_reducible rfl))
        (try simp only [Act.put, List.setIfInBounds_toArray, List.set_cons_zero, List.set_cons_succ])
        refine wpAnyH_take (i := 9) (oi := { dst := some 138, op := Op.move (Operand.tmp 7), type := 27, pos := "law.go:54", after := #[{ on := 8, ground := Ground.guard }], guard := some (8, false) }) (v := ?vc10) rfl (by kernel_rfl) (by kernel_rfl) (by kernel_rfl) (fun _ _ _ h => h) (Or.inl ⟨by rfl, ?yc10⟩) (by assumption) ?rc10
        case yc10 => (intro w hSw; (try dsimp only at hSw); go_simp; (try with_reducible rfl))
        (try simp only [Act.put, List.setIfInBounds_toArray, List.set_cons_zero, List.set_cons_succ])
        refine wpAnyH_take (i := 10) (oi := { dst := some 139, op := Op.fieldAddr 35 (Operand.tmp 12) 1, type := 0, pos := "law.go:54", after := #[{ on := 8, ground := Ground.guard }], guard := some (8, false) }) (v := ?vc11) rfl (by kernel_rfl) (by kernel_rfl) (by kernel_rfl) (fun _ _ _ h => h) (Or.inl ⟨by rfl, ?yc11⟩) (by assumption) ?rc11
        case yc11 => (intro w hSw; (try dsimp only at hSw); go_simp; (try with_reducible rfl))
        (try simp only [Act.put, List.setIfInBounds_toArray, List.set_cons_zero, List.set_cons_succ])
        refine wpAnyH_take (i := 11) (oi := { dst := some 140, op := Op.load 3 (Operand.tmp 139), type := 3, pos := "law.go:54", after := #[{ on := 10, ground := Ground.data }, { on := 8, ground := Ground.guard }], guard := some (8, false) }) (v := ?vc12) rfl (by kernel_rfl) (by kernel_rfl) (by kernel_rfl) (fun _ _ _ h => h) (Or.inl ⟨by rfl, ?yc12⟩) (by assumption) ?rc12
        case yc12 => (intro w hSw; (try dsimp only at hSw); go_simp; (try with_reducible rfl))
        (try simp only [Act.put, List.setIfInBounds_toArray, List.set_cons_zero, List.set_cons_succ])
        refine wpAnyH_take (i := 12) (oi := { dst := some 141, op := Op.fieldAddr 35 (Operand.tmp 12) 2, type := 0, pos := "law.go:54", after := #[{ on := 8, ground := Ground.guard }], guard := some (8, false) }) (v := ?vc13) rfl (by kernel_rfl) (by kernel_rfl) (by kernel_rfl) (fun _ _ _ h => h) (Or.inl ⟨by rfl, ?yc13⟩) (by assumption) ?rc13
        case yc13 => (intro w hSw; (try dsimp only at hSw); go_simp; (try with_reducible rfl))
        (try simp only [Act.put, List.setIfInBounds_toArray, List.set_cons_zero, List.set_cons_succ])
        refine wpAnyH_take (i := 13) (oi := { dst := some 142, op := Op.load 3 (Operand.tmp 141), type := 3, pos := "law.go:54", after := #[{ on := 12, ground := Ground.data }, { on := 8, ground := Ground.guard }], guard := some (8, false) }) (v := ?vc14) rfl (by kernel_rfl) (by kernel_rfl) (by kernel_rfl) (fun _ _ _ h => h) (Or.inl ⟨by rfl, ?yc14⟩) (by assumption) ?rc14
        case yc14 => (intro w hSw; (try dsimp only at hSw); go_simp; (try with_reducible rfl))
        (try simp only [Act.put, List.setIfInBounds_toArray, List.set_cons_zero, List.set_cons_succ])
        refine wpAnyH_take (i := 15) (oi := { dst := some 144, op := Op.move (Operand.tmp 9), type := 31, pos := "law.go:54", after := #[{ on := 8, ground := Ground.guard }], guard := some (8, false) }) (v := ?vc15) rfl (by kernel_rfl) (by kernel_rfl) (by kernel_rfl) (fun _ _ _ h => h) (Or.inl ⟨by rfl, ?yc15⟩) (by assumption) ?rc15
        case yc15 => (intro w hSw; (try dsimp only at hSw); go_simp; (try with_reducible rfl))
        (try simp only [Act.put, List.setIfInBounds_toArray, List.set_cons_zero, List.set_cons_succ])
        refine wpAnyH_take (i := 16) (oi := { dst := some 145, op := Op.fieldAddr 35 (Operand.tmp 12) 1, type := 0, pos := "law.go:54", after := #[{ on := 8, ground := Ground.guard }], guard := some (8, false) }) (v := ?vc16) rfl (by kernel_rfl) (by kernel_rfl) (by kernel_rfl) (fun _ _ _ h => h) (Or.inl ⟨by rfl, ?yc16⟩) (by assumption) ?rc16
        case yc16 => (intro w hSw; (try dsimp only at hSw); go_simp; (try with_reducible rfl))
        (try simp only [Act.put, List.setIfInBounds_toArray, List.set_cons_zero, List.set_cons_succ])
        refine wpAnyH_take (i := 17) (oi := { dst := some 146, op := Op.load 3 (Operand.tmp 145), type := 3, pos := "law.go:54", after := #[{ on := 16, ground := Ground.data }, { on := 8, ground := Ground.guard }], guard := some (8, false) }) (v := ?vc17) rfl (by kernel_rfl) (by kernel_rfl) (by kernel_rfl) (fun _ _ _ h => h) (Or.inl ⟨by rfl, ?yc17⟩) (by assumption) ?rc17
        case yc17 => (intro w hSw; (try dsimp only at hSw); go_simp; (try with_reducible rfl))
        (try simp only [Act.put, List.setIfInBounds_toArray, List.set_cons_zero, List.set_cons_succ])
        refine wpAnyH_take (i := 18) (oi := { dst := some 147, op := Op.fieldAddr 35 (Operand.tmp 12) 2, type := 0, pos := "law.go:54", after := #[{ on := 8, ground := Ground.guard }], guard := some (8, false) }) (v := ?vc18) rfl (by kernel_rfl) (by kernel_rfl) (by kernel_rfl) (fun _ _ _ h => h) (Or.inl ⟨by rfl, ?yc18⟩) (by assumption) ?rc18
        case yc18 => (intro w hSw; (try dsimp only at hSw); go_simp; (try with_reducible rfl))
        (try simp only [Act.put, List.setIfInBounds_toArray, List.set_cons_zero, List.set_cons_succ])
        refine wpAnyH_take (i := 19) (oi := { dst := some 148, op := Op.load 3 (Operand.tmp 147), type := 3, pos := "law.go:54", after := #[{ on := 18, ground := Ground.data }, { on := 8, ground := Ground.guard }], guard := some (8, false) }) (v := ?vc19) rfl (by kernel_rfl) (by kernel_rfl) (by kernel_rfl) (fun _ _ _ h => h) (Or.inl ⟨by rfl, ?yc19⟩) (by assumption) ?rc19
        case yc19 => (intro w hSw; (try dsimp only at hSw); go_simp; (try with_reducible rfl))
        (try simp only [Act.put, List.setIfInBounds_toArray, List.set_cons_zero, List.set_cons_succ])
        refine wpAnyH_ready (rs := [14]) (by kernel_rfl) (by simp) ?_
        refine AllReadyH.cons (o := { dst := some 143, op := Op.call { callee := Callee.value (Operand.func 21), args := #[Operand.tmp 138, Operand.tmp 140, Operand.tmp 142], argTypes := #[27, 3, 3] }, type := 3, pos := "law.go:54", after := #[{ on := 9, ground := Ground.data }, { on := 11, ground := Ground.data }, { on := 13, ground := Ground.data }, { on := 8, ground := Ground.chain }, { on := 8, ground := Ground.guard }], guard := some (8, false) }) rfl (fun K hK => ?_) AllReadyH.nil
        go_simp
        (go_at_call 21; (with_reducible refine (CHo.out _ HBd.out).mono ?_); rintro e u0 ⟨rfl, b0⟩; have B0 := Aside0.mk (below_then HBd.out HBd.out.size b0); clear b0)
        go_wp2_with fail
        refine hK.out _ _ ?_ (fun hHc19 => ?_)
        · (try dsimp only)
          exact HB0.out _ B0.out
        clear hK K hH
        (try simp only [Act.put, List.setIfInBounds_toArray, List.set_cons_zero, List.set_cons_succ])
        refine wpAnyH_ready (rs := [20]) (by kernel_rfl) (by simp) ?_
        refine AllReadyH.cons (o := { dst := some 149, op := Op.call { callee := Callee.value (Operand.func 22), args := #[Operand.tmp 144, Operand.tmp 146, Operand.tmp 148], argTypes := #[31, 3, 3] }, type := 3, pos := "law.go:54", after := #[{ on := 15, ground := Ground.data }, { on := 17, ground := Ground.data }, { on := 19, ground := Ground.data }, { on := 14, ground := Ground.chain }, { on := 8, ground := Ground.guard }], guard := some (8, false) }) rfl (fun K hK => ?_) AllReadyH.nil
        go_simp
        (go_at_call 22; (with_reducible refine (CHoR.out _ B0.out).mono ?_); rintro e u1 ⟨rfl, b1⟩; have B1 := Aside0.mk (below_then B0.out B0.out.size b1); clear b1)
        go_wp2_with fail
        refine hK.out _ _ ?_ (fun hHc20 => ?_)
        · (try dsimp only)
          exact HB0.out _ B1.out
        clear hK K hHc19
        (try simp only [Act.put, List.setIfInBounds_toArray, List.set_cons_zero, List.set_cons_succ])
        refine wpAnyH_take (i := 21) (oi := { dst := some 150, op := Op.binOp BinOp.neq 3 (Operand.tmp 143) (Operand.tmp 149) 3, type := 4, pos := "law.go:54", after := #[{ on := 14, ground := Ground.data }, { on := 20, ground := Ground.data }, { on := 8, ground := Ground.guard }], guard := some (8, false) }) (v := ?vc22) rfl (by kernel_rfl) (by kernel_rfl) (by kernel_rfl) (fun _ _ _ h => h) (Or.inl ⟨by rfl, ?yc22⟩) (by assumption) ?rc22
        case yc22 => (intro w hSw; (try dsimp only at hSw); go_simp; (try with_reducible rfl))
        (try simp only [Act.put, List.setIfInBounds_toArray, List.set_cons_zero, List.set_cons_succ])
        refine wpAnyH_take (i := 22) (oi := { dst := some 151, op := Op.pick (Operand.tmp 137) (Operand.const (Value.bool true)) (Operand.tmp 150), type := 4, pos := "law.go:54", after := #[{ on := 8, ground := Ground.data }, { on := 21, ground := Ground.data }], guard := none }) (v := ?vc23) rfl (by kernel_rfl) (by kernel_rfl) (by kernel_rfl) (fun _ _ _ h => h) (Or.inl ⟨by rfl, ?yc23⟩) (by assumption) ?rc23
        case yc23 => (intro w hSw; (try dsimp only at hSw); go_simp; (try with_reducible rfl))
        (try simp only [Act.put, List.setIfInBounds_toArray, List.set_cons_zero, List.set_cons_succ])
        refine wpAnyH_take (i := 23) (oi := { dst := some 152, op := Op.move (Operand.tmp 151), type := 4, pos := "law.go:54", after := #[{ on := 22, ground := Ground.data }, { on := 20, ground := Ground.chain }], guard := none }) (v := ?vc24) rfl (by kernel_rfl) (by kernel_rfl) (by kernel_rfl) (fun _ _ _ h => h) (Or.inl ⟨by rfl, ?yc24⟩) (by assumption) ?rc24
        case yc24 => (intro w hSw; (try dsimp only at hSw); go_simp; (try with_reducible rfl))
        (try simp only [Act.put, List.setIfInBounds_toArray, List.set_cons_zero, List.set_cons_succ])
        refine wpAnyH_take (i := 24) (oi := { dst := some 153, op := Op.move (Operand.tmp 7), type := 27, pos := "law.go:54", after := #[{ on := 23, ground := Ground.guard }], guard := some (23, false) }) (v := ?vc25) rfl (by kernel_rfl) (by kernel_rfl) (by kernel_rfl) (fun _ _ _ h => h) (Or.inl ⟨by rfl, ?yc25⟩) (by assumption) ?rc25
        case yc25 => (intro w hSw; (try dsimp only at hSw); go_simp; (try with_reducible rfl))
        (try simp only [Act.put, List.setIfInBounds_toArray, List.set_cons_zero, List.set_cons_succ])
        refine wpAnyH_take (i := 25) (oi := { dst := some 154, op := Op.fieldAddr 35 (Operand.tmp 12) 1, type := 0, pos := "law.go:54", after := #[{ on := 23, ground := Ground.guard }], guard := some (23, false) }) (v := ?vc26) rfl (by kernel_rfl) (by kernel_rfl) (by kernel_rfl) (fun _ _ _ h => h) (Or.inl ⟨by rfl, ?yc26⟩) (by assumption) ?rc26
        case yc26 => (intro w hSw; (try dsimp only at hSw); go_simp; (try with_reducible rfl))
        (try simp only [Act.put, List.setIfInBounds_toArray, List.set_cons_zero, List.set_cons_succ])
        refine wpAnyH_take (i := 26) (oi := { dst := some 155, op := Op.load 3 (Operand.tmp 154), type := 3, pos := "law.go:54", after := #[{ on := 25, ground := Ground.data }, { on := 23, ground := Ground.guard }], guard := some (23, false) }) (v := ?vc27) rfl (by kernel_rfl) (by kernel_rfl) (by kernel_rfl) (fun _ _ _ h => h) (Or.inl ⟨by rfl, ?yc27⟩) (by assumption) ?rc27
        case yc27 => (intro w hSw; (try dsimp only at hSw); go_simp; (try with_reducible rfl))
        (try simp only [Act.put, List.setIfInBounds_toArray, List.set_cons_zero, List.set_cons_succ])
        refine wpAnyH_take (i := 28) (oi := { dst := some 157, op := Op.move (Operand.tmp 9), type := 31, pos := "law.go:54", after := #[{ on := 23, ground := Ground.guard }], guard := some (23, false) }) (v := ?vc28) rfl (by kernel_rfl) (by kernel_rfl) (by kernel_rfl) (fun _ _ _ h => h) (Or.inl ⟨by rfl, ?yc28⟩) (by assumption) ?rc28
        case yc28 => (intro w hSw; (try dsimp only at hSw); go_simp; (try with_reducible rfl))
        (try simp only [Act.put, List.setIfInBounds_toArray, List.set_cons_zero, List.set_cons_succ])
        refine wpAnyH_take (i := 29) (oi := { dst := some 158, op := Op.fieldAddr 35 (Operand.tmp 12) 1, type := 0, pos := "law.go:54", after := #[{ on := 23, ground := Ground.guard }], guard := some (23, false) }) (v := ?vc29) rfl (by kernel_rfl) (by kernel_rfl) (by kernel_rfl) (fun _ _ _ h => h) (Or.inl ⟨by rfl, ?yc29⟩) (by assumption) ?rc29
        case yc29 => (intro w hSw; (try dsimp only at hSw); go_simp; (try with_reducible rfl))
        (try simp only [Act.put, List.setIfInBounds_toArray, List.set_cons_zero, List.set_cons_succ])
        refine wpAnyH_take (i := 30) (oi := { dst := some 159, op := Op.load 3 (Operand.tmp 158), type := 3, pos := "law.go:54", after := #[{ on := 29, ground := Ground.data }, { on := 23, ground := Ground.guard }], guard := some (23, false) }) (v := ?vc30) rfl (by kernel_rfl) (by kernel_rfl) (by kernel_rfl) (fun _ _ _ h => h) (Or.inl ⟨by rfl, ?yc30⟩) (by assumption) ?rc30
        case yc30 => (intro w hSw; (try dsimp only at hSw); go_simp; (try with_reducible rfl))
        (try simp only [Act.put, List.setIfInBounds_toArray, List.set_cons_zero, List.set_cons_succ])
        refine wpAnyH_ready (rs := [27]) (by kernel_rfl) (by simp) ?_
        refine AllReadyH.cons (o := { dst := some 156, op := Op.call { callee := Callee.value (Operand.func 24), args := #[Operand.tmp 153, Operand.tmp 155], argTypes := #[27, 3] }, type := 53, pos := "law.go:54", after := #[{ on := 24, ground := Ground.data }, { on := 26, ground := Ground.data }, { on := 23, ground := Ground.chain }, { on := 23, ground := Ground.guard }], guard := some (23, false) }) rfl (fun K hK => ?_) AllReadyH.nil
        go_simp
        (go_at_call 24; (with_reducible refine (CHe.out _ B1.out).mono ?_); rintro e u2 ⟨A2, d2, rfl, r2, k2, b2⟩; have R2 := Aside0.mk r2; clear r2 k2; have B2 := Aside0.mk (below_then B1.out B1.out.size b2); clear b2)
        go_wp2_with fail
        refine hK.out _ _ ?_ (fun hHc30 => ?_)
        · (try dsimp only)
          exact HB0.out _ B2.out
        clear hK K hHc20
        (try simp only [Act.put, List.setIfInBounds_toArray, List.set_cons_zero, List.set_cons_succ])
        refine wpAnyH_ready (rs := [31]) (by kernel_rfl) (by simp) ?_
        refine AllReadyH.cons (o := { dst := some 160, op := Op.call { callee := Callee.value (Operand.func 25), args := #[Operand.tmp 157, Operand.tmp 159], argTypes := #[31, 3] }, type := 53, pos := "law.go:54", after := #[{ on := 28, ground := Ground.data }, { on := 30, ground := Ground.data }, { on := 27, ground := Ground.chain }, { on := 23, ground := Ground.guard }], guard := some (23, false) }) rfl (fun K hK => ?_) AllReadyH.nil
        go_simp
        (go_at_call 25; (with_reducible refine (CHeR.out _ B2.out).mono ?_); rintro e u3 ⟨A3, d3, rfl, r3, k3, b3⟩; have R3 := Aside0.mk r3; have R2b := Aside0.mk (R2.out.below b3); clear r3 k3; have B3 := Aside0.mk (below_then B2.out B2.out.size b3); clear b3)
        go_wp2_with fail
        refine hK.out _ _ ?_ (fun hHc31 => ?_)
        · (try dsimp only)
          exact HB0.out _ B3.out
        clear hK K hHc30
        (try simp only [Act.put, List.setIfInBounds_toArray, List.set_cons_zero, List.set_cons_succ])
        refine wpAnyH_ready (rs := [32]) (by kernel_rfl) (by simp) ?_
        refine AllReadyH.cons (o := { dst := some 161, op := Op.call { callee := Callee.value (Operand.func 23), args := #[Operand.tmp 156, Operand.tmp 160], argTypes := #[53, 53] }, type := 4, pos := "law.go:54", after := #[{ on := 27, ground := Ground.data }, { on := 31, ground := Ground.data }, { on := 31, ground := Ground.chain }, { on := 23, ground := Ground.guard }], guard := some (23, false) }) rfl (fun K hK => ?_) AllReadyH.nil
        go_simp
        (go_at_call 23; (with_reducible refine (SameLk_ A2 d2 hl A3 d3 _ R2b.out R3.out HHL.out).mono ?_); rintro e u4 ⟨rfl, b4⟩; have B4 := Aside0.mk (below_then B3.out B3.out.size b4); clear b4)
        go_wp2_with fail
        refine hK.out _ _ ?_ (fun hHc32 => ?_)
        · (try dsimp only)
          exact HB0.out _ B4.out
        clear hK K hHc31
        (try simp only [Act.put, List.setIfInBounds_toArray, List.set_cons_zero, List.set_cons_succ])
        refine wpAnyH_take (i := 33) (oi := { dst := some 162, op := Op.unOp UnOp.not 4 (Operand.tmp 161), type := 4, pos := "law.go:54", after := #[{ on := 32, ground := Ground.data }, { on := 23, ground := Ground.guard }], guard := some (23, false) }) (v := ?vc34) rfl (by kernel_rfl) (by kernel_rfl) (by kernel_rfl) (fun _ _ _ h => h) (Or.inl ⟨by rfl, ?yc34⟩) (by assumption) ?rc34
        case yc34 => (intro w hSw; (try dsimp only at hSw); go_simp; (try with_reducible rfl))
        (try simp only [Act.put, List.setIfInBounds_toArray, List.set_cons_zero, List.set_cons_succ])
        refine wpAnyH_take (i := 34) (oi := { dst := some 163, op := Op.pick (Operand.tmp 152) (Operand.const (Value.bool true)) (Operand.tmp 162), type := 4, pos := "law.go:54", after := #[{ on := 23, ground := Ground.data }, { on := 33, ground := Ground.data }], guard := none }) (v := ?vc35) rfl (by kernel_rfl) (by kernel_rfl) (by kernel_rfl) (fun _ _ _ h => h) (Or.inl ⟨by rfl, ?yc35⟩) (by assumption) ?rc35
        case yc35 => (intro w hSw; (try dsimp only at hSw); go_simp; (try with_reducible rfl))
        (try simp only [Act.put, List.setIfInBounds_toArray, List.set_cons_zero, List.set_cons_succ])
        refine wpAnyH_take (i := 35) (oi := { dst := some 164, op := Op.move (Operand.tmp 163), type := 4, pos := "law.go:54", after := #[{ on := 34, ground := Ground.data }, { on := 32, ground := Ground.chain }], guard := none }) (v := ?vc36) rfl (by kernel_rfl) (by kernel_rfl) (by kernel_rfl) (fun _ _ _ h => h) (Or.inl ⟨by rfl, ?yc36⟩) (by assumption) ?rc36
        case yc36 => (intro w hSw; (try dsimp only at hSw); go_simp; (try with_reducible rfl))
        (try simp only [Act.put, List.setIfInBounds_toArray, List.set_cons_zero, List.set_cons_succ])
        refine wpAnyH_take (i := 36) (oi := { dst := some 165, op := Op.move (Operand.tmp 7), type := 27, pos := "law.go:54", after := #[{ on := 35, ground := Ground.guard }], guard := some (35, false) }) (v := ?vc37) rfl (by kernel_rfl) (by kernel_rfl) (by kernel_rfl) (fun _ _ _ h => h) (Or.inl ⟨by rfl, ?yc37⟩) (by assumption) ?rc37
        case yc37 => (intro w hSw; (try dsimp only at hSw); go_simp; (try with_reducible rfl))
        (try simp only [Act.put, List.setIfInBounds_toArray, List.set_cons_zero, List.set_cons_succ])
        refine wpAnyH_take (i := 38) (oi := { dst := some 167, op := Op.move (Operand.tmp 9), type := 31, pos := "law.go:54", after := #[{ on := 35, ground := Ground.guard }], guard := some (35, false) }) (v := ?vc38) rfl (by kernel_rfl) (by kernel_rfl) (by kernel_rfl) (fun _ _ _ h => h) (Or.inl ⟨by rfl, ?yc38⟩) (by assumption) ?rc38
        case yc38 => (intro w hSw; (try dsimp only at hSw); go_simp; (try with_reducible rfl))
        (try simp only [Act.put, List.setIfInBounds_toArray, List.set_cons_zero, List.set_cons_succ])
        refine wpAnyH_ready (rs := [37]) (by kernel_rfl) (by simp) ?_
        refine AllReadyH.cons (o := { dst := some 166, op := Op.call { callee := Callee.value (Operand.func 27), args := #[Operand.tmp 165], argTypes := #[27] }, type := 56, pos := "law.go:54", after := #[{ on := 36, ground := Ground.data }, { on := 35, ground := Ground.chain }, { on := 35, ground := Ground.guard }], guard := some (35, false) }) rfl (fun K hK => ?_) AllReadyH.nil
        go_simp
        (go_at_call 27; (with_reducible refine (CEd.out _ B4.out).mono ?_); rintro e u5 ⟨A5, d5, rfl, r5, k5, b5⟩; have R5 := Aside0.mk r5; clear r5 k5; have B5 := Aside0.mk (below_then B4.out B4.out.size b5); clear b5)
        go_wp2_with fail
        refine hK.out _ _ ?_ (fun hHc38 => ?_)
        · (try dsimp only)
          exact HB0.out _ B5.out
        clear hK K hHc32
        (try simp only [Act.put, List.setIfInBounds_toArray, List.set_cons_zero, List.set_cons_succ])
        refine wpAnyH_ready (rs := [39]) (by kernel_rfl) (by simp) ?_
        refine AllReadyH.cons (o := { dst := some 168, op := Op.call { callee := Callee.value (Operand.func 28), args := #[Operand.tmp 167], argTypes := #[31] }, type := 56, pos := "law.go:54", after := #[{ on := 38, ground := Ground.data }, { on := 37, ground := Ground.chain }, { on := 35, ground := Ground.guard }], guard := some (35, false) }) rfl (fun K hK => ?_) AllReadyH.nil
        go_simp
        (go_at_call 28; (with_reducible refine (CEdR.out _ B5.out).mono ?_); rintro e u6 ⟨A6, d6, rfl, r6, k6, b6⟩; have R6 := Aside0.mk r6; have R5b := Aside0.mk (R5.out.below b6); clear r6 k6; have B6 := Aside0.mk (below_then B5.out B5.out.size b6); clear b6)
        go_wp2_with fail
        refine hK.out _ _ ?_ (fun hHc39 => ?_)
        · (try dsimp only)
          exact HB0.out _ B6.out
        clear hK K hHc38
        (try simp only [Act.put, List.setIfInBounds_toArray, List.set_cons_zero, List.set_cons_succ])
        refine wpAnyH_ready (rs := [40]) (by kernel_rfl) (by simp) ?_
        refine AllReadyH.cons (o := { dst := some 169, op := Op.call { callee := Callee.value (Operand.func 26), args := #[Operand.tmp 166, Operand.tmp 168], argTypes := #[56, 56] }, type := 4, pos := "law.go:54", after := #[{ on := 37, ground := Ground.data }, { on := 39, ground := Ground.data }, { on := 39, ground := Ground.chain }, { on := 35, ground := Ground.guard }], guard := some (35, false) }) rfl (fun K hK => ?_) AllReadyH.nil
        go_simp
        (go_at_call 26; (with_reducible refine (SameEd_ A5 d5 el A6 d6 _ R5b.out R6.out HEL.out).mono ?_); rintro e u7 ⟨rfl, b7⟩; have B7 := Aside0.mk (below_then B6.out B6.out.size b7); clear b7)
        go_wp2_with fail
        refine hK.out _ _ ?_ (fun hHc40 => ?_)
        · (try dsimp only)
          exact HB0.out _ B7.out
        clear hK K hHc39
        (try simp only [Act.put, List.setIfInBounds_toArray, List.set_cons_zero, List.set_cons_succ])
        refine wpAnyH_take (i := 41) (oi := { dst := some 170, op := Op.unOp UnOp.not 4 (Operand.tmp 169), type := 4, pos := "law.go:54", after := #[{ on := 40, ground := Ground.data }, { on := 35, ground := Ground.guard }], guard := some (35, false) }) (v := ?vc42) rfl (by kernel_rfl) (by kernel_rfl) (by kernel_rfl) (fun _ _ _ h => h) (Or.inl ⟨by rfl, ?yc42⟩) (by assumption) ?rc42
        case yc42 => (intro w hSw; (try dsimp only at hSw); go_simp; (try with_reducible rfl))
        (try simp only [Act.put, List.setIfInBounds_toArray, List.set_cons_zero, List.set_cons_succ])
        refine wpAnyH_take (i := 42) (oi := { dst := some 171, op := Op.pick (Operand.tmp 164) (Operand.const (Value.bool true)) (Operand.tmp 170), type := 4, pos := "law.go:54", after := #[{ on := 35, ground := Ground.data }, { on := 41, ground := Ground.data }], guard := none }) (v := ?vc43) rfl (by kernel_rfl) (by kernel_rfl) (by kernel_rfl) (fun _ _ _ h => h) (Or.inl ⟨by rfl, ?yc43⟩) (by assumption) ?rc43
        case yc43 => (intro w hSw; (try dsimp only at hSw); go_simp; (try with_reducible rfl))
        (try simp only [Act.put, List.setIfInBounds_toArray, List.set_cons_zero, List.set_cons_succ])
        refine wpAnyH_take (i := 43) (oi := { dst := some 172, op := Op.move (Operand.tmp 171), type := 4, pos := "law.go:54", after := #[{ on := 42, ground := Ground.data }, { on := 40, ground := Ground.chain }], guard := none }) (v := ?vc44) rfl (by kernel_rfl) (by kernel_rfl) (by kernel_rfl) (fun _ _ _ h => h) (Or.inl ⟨by rfl, ?yc44⟩) (by assumption) ?rc44
        case yc44 => (intro w hSw; (try dsimp only at hSw); go_simp; (try with_reducible rfl))
        (try simp only [Act.put, List.setIfInBounds_toArray, List.set_cons_zero, List.set_cons_succ])
        refine wpAnyH_take (i := 44) (oi := { dst := some 173, op := Op.move (Operand.tmp 7), type := 27, pos := "law.go:54", after := #[{ on := 43, ground := Ground.guard }], guard := some (43, false) }) (v := ?vc45) rfl (by kernel_rfl) (by kernel_rfl) (by kernel_rfl) (fun _ _ _ h => h) (Or.inl ⟨by rfl, ?yc45⟩) (by assumption) ?rc45
        case yc45 => (intro w hSw; (try dsimp only at hSw); go_simp; (try with_reducible rfl))
        (try simp only [Act.put, List.setIfInBounds_toArray, List.set_cons_zero, List.set_cons_succ])
        refine wpAnyH_take (i := 46) (oi := { dst := some 175, op := Op.move (Operand.tmp 9), type := 31, pos := "law.go:54", after := #[{ on := 43, ground := Ground.guard }], guard := some (43, false) }) (v := ?vc46) rfl (by kernel_rfl) (by kernel_rfl) (by kernel_rfl) (fun _ _ _ h => h) (Or.inl ⟨by rfl, ?yc46⟩) (by assumption) ?rc46
        case yc46 => (intro w hSw; (try dsimp only at hSw); go_simp; (try with_reducible rfl))
        (try simp only [Act.put, List.setIfInBounds_toArray, List.set_cons_zero, List.set_cons_succ])
        refine wpAnyH_ready (rs := [45]) (by kernel_rfl) (by simp) ?_
        refine AllReadyH.cons (o := { dst := some 174, op := Op.call { callee := Callee.value (Operand.func 29), args := #[Operand.tmp 173], argTypes := #[27] }, type := 3, pos := "law.go:54", after := #[{ on := 44, ground := Ground.data }, { on := 43, ground := Ground.chain }, { on := 43, ground := Ground.guard }], guard := some (43, false) }) rfl (fun K hK => ?_) AllReadyH.nil
        go_simp
        (go_at_call 29; (with_reducible refine (CLe.out _ B7.out).mono ?_); rintro e u8 ⟨rfl, b8⟩; have B8 := Aside0.mk (below_then B7.out B7.out.size b8); clear b8)
        go_wp2_with fail
        refine hK.out _ _ ?_ (fun hHc46 => ?_)
        · (try dsimp only)
          exact HB0.out _ B8.out
        clear hK K hHc40
        (try simp only [Act.put, List.setIfInBounds_toArray, List.set_cons_zero, List.set_cons_succ])
        refine wpAnyH_ready (rs := [47]) (by kernel_rfl) (by simp) ?_
        refine AllReadyH.cons (o := { dst := some 176, op := Op.call { callee := Callee.value (Operand.func 30), args := #[Operand.tmp 175], argTypes := #[31] }, type := 3, pos := "law.go:54", after := #[{ on := 46, ground := Ground.data }, { on := 45, ground := Ground.chain }, { on := 43, ground := Ground.guard }], guard := some (43, false) }) rfl (fun K hK => ?_) AllReadyH.nil
        go_simp
        (go_at_call 30; (with_reducible refine (CLeR.out _ B8.out).mono ?_); rintro e u9 ⟨rfl, b9⟩; have B9 := Aside0.mk (below_then B8.out B8.out.size b9); clear b9)
        go_wp2_with fail
        refine hK.out _ _ ?_ (fun hHc47 => ?_)
        · (try dsimp only)
          exact HB0.out _ B9.out
        clear hK K hHc46
        (try simp only [Act.put, List.setIfInBounds_toArray, List.set_cons_zero, List.set_cons_succ])
        refine wpAnyH_take (i := 48) (oi := { dst := some 177, op := Op.binOp BinOp.neq 3 (Operand.tmp 174) (Operand.tmp 176) 3, type := 4, pos := "law.go:54", after := #[{ on := 45, ground := Ground.data }, { on := 47, ground := Ground.data }, { on := 43, ground := Ground.guard }], guard := some (43, false) }) (v := ?vc49) rfl (by kernel_rfl) (by kernel_rfl) (by kernel_rfl) (fun _ _ _ h => h) (Or.inl ⟨by rfl, ?yc49⟩) (by assumption) ?rc49
        case yc49 => (intro w hSw; (try dsimp only at hSw); go_simp; (try with_reducible rfl))
        (try simp only [Act.put, List.setIfInBounds_toArray, List.set_cons_zero, List.set_cons_succ])
        refine wpAnyH_take (i := 49) (oi := { dst := some 178, op := Op.pick (Operand.tmp 172) (Operand.const (Value.bool true)) (Operand.tmp 177), type := 4, pos := "law.go:54", after := #[{ on := 43, ground := Ground.data }, { on := 48, ground := Ground.data }], guard := none }) (v := ?vc50) rfl (by kernel_rfl) (by kernel_rfl) (by kernel_rfl) (fun _ _ _ h => h) (Or.inl ⟨by rfl, ?yc50⟩) (by assumption) ?rc50
        case yc50 => (intro w hSw; (try dsimp only at hSw); go_simp; (try with_reducible rfl))
        (try simp only [Act.put, List.setIfInBounds_toArray, List.set_cons_zero, List.set_cons_succ])
        refine wpAnyH_done (by kernel_rfl) ?_ _
        clear CHo CHoR CHe CHeR CEd CEdR CLe CLeR
        have ZE := Aside0.mk ((B9.out.block g (Array.getElem?_eq_some_iff.1 ZD.out).1).trans ZD.out)
        have HTe := Aside0.mk (HTd.out.below B9.out)
        have z2 : u9.cell? ⟨g, 2, none⟩ = some (.int .i64 o.f2) := (blk_cell ZE.out 2).trans rfl
        by_cases hin : 0 ≤ o.f2 ∧ o.f2 < n
        · obtain ⟨nd, hnd⟩ : ∃ nd : Nat, o.f2 = nd := ⟨o.f2.toNat, by omega⟩
          have hndl : nd < ls2.length := by rw [HV.out.len]; omega
          obtain ⟨FA3, hta3⟩ := HTe.out.ta
          obtain ⟨FB3, htb3⟩ := HTe.out.tb
          obtain ⟨g1, off1, sc1, m1, bi1, Gi1, c0, -, -, -, -, -, cs, hI1, -, -, -⟩ := hta3.at_ nd hndl
          obtain ⟨g2, off2, sc2, bi2, Gi2, -, d1, -, -, ds, hI2, -, -⟩ := htb3.at_ nd hndl
          obtain ⟨hAr, hcr, qA, qc, -, e1, -, lq, -, rq⟩ := hI2.open_
          have HLn := Aside0.mk (Lane_in u9 a g1 off1 ls2.length sc1 nd bi1 c0 cs hndl)
          have CQ := Aside0.mk (fun W (hb : Below u9.heap.size u9 W) => Queue_ W bi1 Gi1 _ _ (hI1.below hb) (by have := (HSm.out.2 nd hndl).2; omega))
          have HQL := Aside0.mk (show (ls2.getD nd zL).2.length ≤ 1000000 by have := (HSm.out.2 nd hndl).2; omega)
          have HRq := Aside0.mk (And.intro rq lq)
          have hlen2 := HV.out.len
          rw [hlen2] at d1
          rw [hnd] at z2
          generalize (ls2.getD nd zL).2 = qs at CQ HQL HRq e1
          have CS := Aside0.mk (fun W (hb : Below u9.heap.size u9 W) A' c' (hr : Row W 94 2 A' qs.length c' (flat qs)) => Same_E A' c' qs qA qc W hr.reads hr.2.1 (C_below HRq.out.1 hb) HRq.out.2 HQL.out)
          have HE := Aside0.mk (And.intro z2 (And.intro d1 (And.intro ds e1)))
          have s1 : (nd : Int) < (n : Int) := by omega
          have s2 : 0 ≤ (nd : Int) := by omega
          have s3 : decide ((nd : Int) < 0) = false := decide_eq_false (by omega)
          have s4 : decide ((nd : Int) ≥ (n : Int)) = false := decide_eq_false (by omega)
          have s5 : decide (n ≤ nd) = false := decide_eq_false (by omega)
          clear hin hI1 hI2 rq lq c0 cs hta3 htb3 hlen2 hndl d1 ds e1
          go_wp2_with fail
          refine HLn.out.mono ?_
          rintro e v9 ⟨rfl, hb9⟩
          have HBe0 := Aside0.mk hb9
          have HBe := Aside0.mk (below_then HBe0.out HBe0.out.size (below_drew (Below.refl v9.heap.size v9)))
          have HE0 := Aside0.mk (fun W (hb : Below u9.heap.size u9 W) => (show W.cell? ⟨g, 2, none⟩ = some (.int .i64 (nd : Int)) ∧ W.cell? ⟨b, 1, none⟩ = some (.slice (some ⟨g2, off2, none⟩) n sc2) ∧ W.cell? ⟨g2, off2 + nd, none⟩ = some (.pointer (some ⟨bi2, 0, none⟩)) ∧ W.cell? ⟨bi2, 1, none⟩ = some (.slice qA qs.length qc) from
            ⟨cell_be HE.out.1 hb, cell_be HE.out.2.1 hb, cell_be HE.out.2.2.1 hb, cell_be HE.out.2.2.2 hb⟩))
          clear hb9 z2 HLn
          go_wp2_with fail
          (try simp only [List.append_eq, List.cons_append, List.nil_append])
          refine wp_region_held_drew (S := (fun W => W.cell? ⟨g, 2, none⟩ = some (.int .i64 (nd : Int)) ∧ W.cell? ⟨b, 1, none⟩ = some (.slice (some ⟨g2, off2, none⟩) n sc2) ∧ W.cell? ⟨g2, off2 + nd, none⟩ = some (.pointer (some ⟨bi2, 0, none⟩)) ∧ W.cell? ⟨bi2, 1, none⟩ = some (.slice qA qs.length qc))) (by kernel_rfl) ?_ (fun hH => ?_)
          · exact HE0.out _ HBe.out
          refine wpAnyH_take (i := 0) (oi := { dst := some 183, op := Op.move (Operand.tmp 21), type := 59, pos := "law.go:58", after := #[], guard := none }) (v := ?vd1) rfl (by kernel_rfl) (by kernel_rfl) (by kernel_rfl) (fun _ _ _ h => h) (Or.inl ⟨by rfl, ?yd1⟩) (by assumption) ?rd1
          case yd1 => (intro w hSw; (try dsimp only at hSw); go_simp; (try with_reducible rfl))
          (try simp only [Act.put, List.setIfInBounds_toArray, List.set_cons_zero, List.set_cons_succ])
          refine wpAnyH_take (i := 1) (oi := { dst := some 184, op := Op.binOp BinOp.eql 59 (Operand.tmp 183) (Operand.const (Value.pointer none)) 59, type := 4, pos := "law.go:58", after := #[{ on := 0, ground := Ground.data }], guard := none }) (v := ?vd2) rfl (by kernel_rfl) (by kernel_rfl) (by kernel_rfl) (fun _ _ _ h => h) (Or.inl ⟨by rfl, ?yd2⟩) (by assumption) ?rd2
          case yd2 => (intro w hSw; (try dsimp only at hSw); go_simp; (try with_reducible rfl))
          (try simp only [Act.put, List.setIfInBounds_toArray, List.set_cons_zero, List.set_cons_succ])
          refine wpAnyH_take (i := 2) (oi := { dst := some 185, op := Op.fieldAddr 35 (Operand.tmp 12) 2, type := 0, pos := "law.go:58", after := #[], guard := none }) (v := ?vd3) rfl (by kernel_rfl) (by kernel_rfl) (by kernel_rfl) (fun _ _ _ h => h) (Or.inl ⟨by rfl, ?yd3⟩) (by assumption) ?rd3
          case yd3 => (intro w hSw; (try dsimp only at hSw); go_simp; (try with_reducible rfl))
          (try simp only [Act.put, List.setIfInBounds_toArray, List.set_cons_zero, List.set_cons_succ])
          refine wpAnyH_take (i := 3) (oi := { dst := some 186, op := Op.load 3 (Operand.tmp 185), type := 3, pos := "law.go:58", after := #[{ on := 2, ground := Ground.data }], guard := none }) (v := ?vd4) rfl (by kernel_rfl) (by kernel_rfl) (by kernel_rfl) (fun _ _ _ h => h) (Or.inl ⟨by rfl, ?yd4⟩) (by assumption) ?rd4
          case yd4 => (intro w hSw; (try dsimp only at hSw); go_simp; (try with_reducible rfl))
          (try simp only [Act.put, List.setIfInBounds_toArray, List.set_cons_zero, List.set_cons_succ])
          refine wpAnyH_take (i := 4) (oi := { dst := some 187, op := Op.binOp BinOp.lss 3 (Operand.tmp 186) (Operand.const (Value.int IntKind.i64 0)) 3, type := 4, pos := "law.go:58", after := #[{ on := 3, ground := Ground.data }], guard := none }) (v := ?vd5) rfl (by kernel_rfl) (by kernel_rfl) (by kernel_rfl) (fun _ _ _ h => h) (Or.inl ⟨by rfl, ?yd5⟩) (by assumption) ?rd5
          case yd5 => (intro w hSw; (try dsimp only at hSw); go_simp; (try with_reducible rfl))
          (try simp only [Act.put, List.setIfInBounds_toArray, List.set_cons_zero, List.set_cons_succ])
          refine wpAnyH_take (i := 5) (oi := { dst := some 188, op := Op.move (Operand.tmp 187), type := 4, pos := "law.go:58", after := #[{ on := 4, ground := Ground.data }], guard := none }) (v := ?vd6) rfl (by kernel_rfl) (by kernel_rfl) (by kernel_rfl) (fun _ _ _ h => h) (Or.inl ⟨by rfl, ?yd6⟩) (by assumption) ?rd6
          case yd6 => (intro w hSw; (try dsimp only at hSw); go_simp; (try with_reducible rfl))
          (try simp only [Act.put, List.setIfInBounds_toArray, List.set_cons_zero, List.set_cons_succ])
          refine wpAnyH_take (i := 6) (oi := { dst := some 189, op := Op.fieldAddr 35 (Operand.tmp 12) 2, type := 0, pos := "law.go:58", after := #[{ on := 5, ground := Ground.guard }], guard := some (5, false) }) (v := ?vd7) rfl (by kernel_rfl) (by kernel_rfl) (by kernel_rfl) (fun _ _ _ h => h) (Or.inl ⟨by rfl, ?yd7⟩) (by assumption) ?rd7
          case yd7 => (intro w hSw; (try dsimp only at hSw); go_simp; (try with_reducible rfl))
          (try simp only [Act.put, List.setIfInBounds_toArray, List.set_cons_zero, List.set_cons_succ])
          refine wpAnyH_take (i := 7) (oi := { dst := some 190, op := Op.load 3 (Operand.tmp 189), type := 3, pos := "law.go:58", after := #[{ on := 6, ground := Ground.data }, { on := 5, ground := Ground.guard }], guard := some (5, false) }) (v := ?vd8) rfl (by kernel_rfl) (by kernel_rfl) (by kernel_rfl) (fun _ _ _ h => h) (Or.inl ⟨by rfl, ?yd8⟩) (by assumption) ?rd8
          case yd8 => (intro w hSw; (try dsimp only at hSw); go_simp; (try with_reducible rfl))
          (try simp only [Act.put, List.setIfInBounds_toArray, List.set_cons_zero, List.set_cons_succ])
          refine wpAnyH_take (i := 8) (oi := { dst := some 191, op := Op.move (Operand.tmp 0), type := 3, pos := "law.go:58", after := #[{ on := 5, ground := Ground.guard }], guard := some (5, false) }) (v := ?vd9) rfl (by kernel_rfl) (by kernel_rfl) (by kernel_rfl) (fun _ _ _ h => h) (Or.inl ⟨by rfl, ?yd9⟩) (by assumption) ?rd9
          case yd9 => (intro w hSw; (try dsimp only at hSw); go_simp; (try with_reducible rfl))
          (try simp only [Act.put, List.setIfInBounds_toArray, List.set_cons_zero, List.set_cons_succ])
          refine wpAnyH_take (i := 9) (oi := { dst := some 192, op := Op.binOp BinOp.geq 3 (Operand.tmp 190) (Operand.tmp 191) 3, type := 4, pos := "law.go:58", after := #[{ on := 7, ground := Ground.data }, { on := 8, ground := Ground.data }, { on := 5, ground := Ground.guard }], guard := some (5, false) }) (v := ?vd10) rfl (by kernel_rfl) (by kernel_rfl) (by kernel_rfl) (fun _ _ _ h => h) (Or.inl ⟨by rfl, ?yd10⟩) (by assumption) ?rd10
          case yd10 => (intro w hSw; (try dsimp only at hSw); go_simp; (try with_reducible rfl))
          (try simp only [Act.put, List.setIfInBounds_toArray, List.set_cons_zero, List.set_cons_succ])
          refine wpAnyH_take (i := 10) (oi := { dst := some 193, op := Op.pick (Operand.tmp 188) (Operand.const (Value.bool true)) (Operand.tmp 192), type := 4, pos := "law.go:58", after := #[{ on := 5, ground := Ground.data }, { on := 9, ground := Ground.data }], guard := none }) (v := ?vd11) rfl (by kernel_rfl) (by kernel_rfl) (by kernel_rfl) (fun _ _ _ h => h) (Or.inl ⟨by rfl, ?yd11⟩) (by assumption) ?rd11
          case yd11 => (intro w hSw; (try dsimp only at hSw); go_simp; (try with_reducible rfl))
          (try simp only [Act.put, List.setIfInBounds_toArray, List.set_cons_zero, List.set_cons_succ])
          refine wpAnyH_take (i := 11) (oi := { dst := some 194, op := Op.binOp BinOp.neq 4 (Operand.tmp 184) (Operand.tmp 193) 4, type := 4, pos := "law.go:58", after := #[{ on := 1, ground := Ground.data }, { on := 10, ground := Ground.data }], guard := none }) (v := ?vd12) rfl (by kernel_rfl) (by kernel_rfl) (by kernel_rfl) (fun _ _ _ h => h) (Or.inl ⟨by rfl, ?yd12⟩) (by assumption) ?rd12
          case yd12 => (intro w hSw; (try dsimp only at hSw); go_simp; (try with_reducible rfl))
          (try simp only [Act.put, List.setIfInBounds_toArray, List.set_cons_zero, List.set_cons_succ])
          refine wpAnyH_take (i := 12) (oi := { dst := some 195, op := Op.move (Operand.tmp 194), type := 4, pos := "law.go:58", after := #[{ on := 11, ground := Ground.data }, { on := 5, ground := Ground.chain }], guard := none }) (v := ?vd13) rfl (by kernel_rfl) (by kernel_rfl) (by kernel_rfl) (fun _ _ _ h => h) (Or.inl ⟨by rfl, ?yd13⟩) (by assumption) ?rd13
          case yd13 => (intro w hSw; (try dsimp only at hSw); go_simp; (try with_reducible rfl))
          (try simp only [Act.put, List.setIfInBounds_toArray, List.set_cons_zero, List.set_cons_succ])
          refine wpAnyH_take (i := 13) (oi := { dst := some 196, op := Op.move (Operand.tmp 21), type := 59, pos := "law.go:58", after := #[{ on := 12, ground := Ground.guard }], guard := some (12, false) }) (v := ?vd14) rfl (by kernel_rfl) (by kernel_rfl) (by kernel_rfl) (fun _ _ _ h => h) (Or.inl ⟨by rfl, ?yd14⟩) (by assumption) ?rd14
          case yd14 => (intro w hSw; (try dsimp only at hSw); go_simp; (try with_reducible rfl))
          (try simp only [Act.put, List.setIfInBounds_toArray, List.set_cons_zero, List.set_cons_succ])
          refine wpAnyH_take (i := 14) (oi := { dst := some 197, op := Op.binOp BinOp.neq 59 (Operand.tmp 196) (Operand.const (Value.pointer none)) 59, type := 4, pos := "law.go:58", after := #[{ on := 13, ground := Ground.data }, { on := 12, ground := Ground.guard }], guard := some (12, false) }) (v := ?vd15) rfl (by kernel_rfl) (by kernel_rfl) (by kernel_rfl) (fun _ _ _ h => h) (Or.inl ⟨by rfl, ?yd15⟩) (by assumption) ?rd15
          case yd15 => (intro w hSw; (try dsimp only at hSw); go_simp; (try with_reducible rfl))
          (try simp only [Act.put, List.setIfInBounds_toArray, List.set_cons_zero, List.set_cons_succ])
          refine wpAnyH_take (i := 15) (oi := { dst := some 198, op := Op.move (Operand.tmp 197), type := 4, pos := "law.go:58", after := #[{ on := 14, ground := Ground.data }, { on := 12, ground := Ground.chain }, { on := 12, ground := Ground.guard }], guard := some (12, false) }) (v := ?vd16) rfl (by kernel_rfl) (by kernel_rfl) (by kernel_rfl) (fun _ _ _ h => h) (Or.inl ⟨by rfl, ?yd16⟩) (by assumption) ?rd16
          case yd16 => (intro w hSw; (try dsimp only at hSw); go_simp; (try with_reducible rfl))
          (try simp only [Act.put, List.setIfInBounds_toArray, List.set_cons_zero, List.set_cons_succ])
          refine wpAnyH_take (i := 16) (oi := { dst := some 199, op := Op.move (Operand.tmp 21), type := 59, pos := "law.go:58", after := #[{ on := 15, ground := Ground.guard }], guard := some (15, true) }) (v := ?vd17) rfl (by kernel_rfl) (by kernel_rfl) (by kernel_rfl) (fun _ _ _ h => h) (Or.inl ⟨by rfl, ?yd17⟩) (by assumption) ?rd17
          case yd17 => (intro w hSw; (try dsimp only at hSw); go_simp; (try with_reducible rfl))
          (try simp only [Act.put, List.setIfInBounds_toArray, List.set_cons_zero, List.set_cons_succ])
          refine wpAnyH_take (i := 18) (oi := { dst := some 201, op := Op.move (Operand.tmp 9), type := 31, pos := "law.go:58", after := #[{ on := 15, ground := Ground.guard }], guard := some (15, true) }) (v := ?vd18) rfl (by kernel_rfl) (by kernel_rfl) (by kernel_rfl) (fun _ _ _ h => h) (Or.inl ⟨by rfl, ?yd18⟩) (by assumption) ?rd18
          case yd18 => (intro w hSw; (try dsimp only at hSw); go_simp; (try with_reducible rfl))
          (try simp only [Act.put, List.setIfInBounds_toArray, List.set_cons_zero, List.set_cons_succ])
          refine wpAnyH_take (i := 19) (oi := { dst := some 202, op := Op.nilCheck (Operand.tmp 201), type := 0, pos := "law.go:58", after := #[{ on := 18, ground := Ground.data }, { on := 15, ground := Ground.guard }], guard := some (15, true) }) (v := ?vd19) rfl (by kernel_rfl) (by kernel_rfl) (by kernel_rfl) (fun _ _ _ h => h) (Or.inl ⟨by rfl, ?yd19⟩) (by assumption) ?rd19
          case yd19 => (intro w hSw; (try dsimp only at hSw); go_simp; (try with_reducible rfl))
          (try simp only [Act.put, List.setIfInBounds_toArray, List.set_cons_zero, List.set_cons_succ])
          refine wpAnyH_take (i := 20) (oi := { dst := some 203, op := Op.fieldAddr 69 (Operand.tmp 202) 1, type := 0, pos := "law.go:58", after := #[{ on := 19, ground := Ground.data }, { on := 15, ground := Ground.guard }], guard := some (15, true) }) (v := ?vd20) rfl (by kernel_rfl) (by kernel_rfl) (by kernel_rfl) (fun _ _ _ h => h) (Or.inl ⟨by rfl, ?yd20⟩) (by assumption) ?rd20
          case yd20 => (intro w hSw; (try dsimp only at hSw); go_simp; (try with_reducible rfl))
          (try simp only [Act.put, List.setIfInBounds_toArray, List.set_cons_zero, List.set_cons_succ])
          refine wpAnyH_take (i := 21) (oi := { dst := some 204, op := Op.load 67 (Operand.tmp 203), type := 67, pos := "law.go:58", after := #[{ on := 20, ground := Ground.data }, { on := 15, ground := Ground.guard }], guard := some (15, true) }) (v := ?vd21) rfl (by kernel_rfl) (by kernel_rfl) (by kernel_rfl) (fun _ _ _ h => h) (Or.inl ⟨by rfl, ?yd21⟩) (by assumption) ?rd21
          case yd21 => (intro w hSw; (try dsimp only at hSw); go_simp; (try with_reducible rfl))
          (try simp only [Act.put, List.setIfInBounds_toArray, List.set_cons_zero, List.set_cons_succ])
          refine wpAnyH_take (i := 22) (oi := { dst := some 205, op := Op.fieldAddr 35 (Operand.tmp 12) 2, type := 0, pos := "law.go:58", after := #[{ on := 15, ground := Ground.guard }], guard := some (15, true) }) (v := ?vd22) rfl (by kernel_rfl) (by kernel_rfl) (by kernel_rfl) (fun _ _ _ h => h) (Or.inl ⟨by rfl, ?yd22⟩) (by assumption) ?rd22
          case yd22 => (intro w hSw; (try dsimp only at hSw); go_simp; (try with_reducible rfl))
          (try simp only [Act.put, List.setIfInBounds_toArray, List.set_cons_zero, List.set_cons_succ])
          refine wpAnyH_take (i := 23) (oi := { dst := some 206, op := Op.load 3 (Operand.tmp 205), type := 3, pos := "law.go:58", after := #[{ on := 22, ground := Ground.data }, { on := 15, ground := Ground.guard }], guard := some (15, true) }) (v := ?vd23) rfl (by kernel_rfl) (by kernel_rfl) (by kernel_rfl) (fun _ _ _ h => h) (Or.inl ⟨by rfl, ?yd23⟩) (by assumption) ?rd23
          case yd23 => (intro w hSw; (try dsimp only at hSw); go_simp; (try with_reducible rfl))
          (try simp only [Act.put, List.setIfInBounds_toArray, List.set_cons_zero, List.set_cons_succ])
          refine wpAnyH_take (i := 24) (oi := { dst := some 207, op := Op.indexAddr 67 (Operand.tmp 204) (Operand.tmp 206), type := 0, pos := "law.go:58", after := #[{ on := 21, ground := Ground.data }, { on := 23, ground := Ground.data }, { on := 15, ground := Ground.guard }], guard := some (15, true) }) (v := ?vd24) rfl (by kernel_rfl) (by kernel_rfl) (by kernel_rfl) (fun _ _ _ h => h) (Or.inl ⟨by rfl, ?yd24⟩) (by assumption) ?rd24
          case yd24 => (intro w hSw; (try dsimp only at hSw); go_simp; (try with_reducible rfl))
          (try simp only [Act.put, List.setIfInBounds_toArray, List.set_cons_zero, List.set_cons_succ])
          refine wpAnyH_take (i := 25) (oi := { dst := some 208, op := Op.load 66 (Operand.tmp 207), type := 66, pos := "law.go:58", after := #[{ on := 24, ground := Ground.data }, { on := 15, ground := Ground.guard }], guard := some (15, true) }) (v := ?vd25) rfl (by kernel_rfl) (by kernel_rfl) (by kernel_rfl) (fun _ _ _ h => h) (Or.inl ⟨by rfl, ?yd25⟩) (by assumption) ?rd25
          case yd25 => (intro w hSw; (try dsimp only at hSw); go_simp; (try with_reducible rfl))
          (try simp only [Act.put, List.setIfInBounds_toArray, List.set_cons_zero, List.set_cons_succ])
          refine wpAnyH_take (i := 26) (oi := { dst := some 209, op := Op.nilCheck (Operand.tmp 208), type := 0, pos := "law.go:58", after := #[{ on := 25, ground := Ground.data }, { on := 15, ground := Ground.guard }], guard := some (15, true) }) (v := ?vd26) rfl (by kernel_rfl) (by kernel_rfl) (by kernel_rfl) (fun _ _ _ h => h) (Or.inl ⟨by rfl, ?yd26⟩) (by assumption) ?rd26
          case yd26 => (intro w hSw; (try dsimp only at hSw); go_simp; (try with_reducible rfl))
          (try simp only [Act.put, List.setIfInBounds_toArray, List.set_cons_zero, List.set_cons_succ])
          refine wpAnyH_take (i := 27) (oi := { dst := some 210, op := Op.fieldAddr 65 (Operand.tmp 209) 1, type := 0, pos := "law.go:58", after := #[{ on := 26, ground := Ground.data }, { on := 15, ground := Ground.guard }], guard := some (15, true) }) (v := ?vd27) rfl (by kernel_rfl) (by kernel_rfl) (by kernel_rfl) (fun _ _ _ h => h) (Or.inl ⟨by rfl, ?yd27⟩) (by assumption) ?rd27
          case yd27 => (intro w hSw; (try dsimp only at hSw); go_simp; (try with_reducible rfl))
          (try simp only [Act.put, List.setIfInBounds_toArray, List.set_cons_zero, List.set_cons_succ])
          refine wpAnyH_take (i := 28) (oi := { dst := some 211, op := Op.load 62 (Operand.tmp 210), type := 62, pos := "law.go:58", after := #[{ on := 27, ground := Ground.data }, { on := 15, ground := Ground.guard }], guard := some (15, true) }) (v := ?vd28) rfl (by kernel_rfl) (by kernel_rfl) (by kernel_rfl) (fun _ _ _ h => h) (Or.inl ⟨by rfl, ?yd28⟩) (by assumption) ?rd28
          case yd28 => (intro w hSw; (try dsimp only at hSw); go_simp; (try with_reducible rfl))
          (try simp only [Act.put, List.setIfInBounds_toArray, List.set_cons_zero, List.set_cons_succ])
          refine wpAnyH_ready (rs := [17]) (by kernel_rfl) (by simp) ?_
          refine AllReadyH.cons (o := { dst := some 200, op := Op.call { callee := Callee.value (Operand.func 33), args := #[Operand.tmp 199], argTypes := #[59] }, type := 62, pos := "law.go:58", after := #[{ on := 16, ground := Ground.data }, { on := 15, ground := Ground.chain }, { on := 15, ground := Ground.guard }], guard := some (15, true) }) rfl (fun K hK => ?_) AllReadyH.nil
          go_simp
          (go_at_call 33; (with_reducible refine (CQ.out _ HBe.out).mono ?_); rintro e v0 ⟨A0, d0, rfl, r0, k0, b0⟩; have R0 := Aside0.mk r0; clear r0 k0; have E0 := Aside0.mk (below_then HBe.out HBe.out.size b0); clear b0)
          go_wp2_with fail
          refine hK.out _ _ ?_ (fun hHd28 => ?_)
          · (try dsimp only)
            exact HE0.out _ E0.out
          clear hK K hH
          (try simp only [Act.put, List.setIfInBounds_toArray, List.set_cons_zero, List.set_cons_succ])
          refine wpAnyH_ready (rs := [29]) (by kernel_rfl) (by simp) ?_
          refine AllReadyH.cons (o := { dst := some 212, op := Op.call { callee := Callee.value (Operand.func 32), args := #[Operand.tmp 200, Operand.tmp 211], argTypes := #[62, 62] }, type := 4, pos := "law.go:58", after := #[{ on := 17, ground := Ground.data }, { on := 28, ground := Ground.data }, { on := 17, ground := Ground.chain }, { on := 15, ground := Ground.guard }], guard := some (15, true) }) rfl (fun K hK => ?_) AllReadyH.nil
          go_simp
          (go_at_call 32; (with_reducible refine (CS.out _ E0.out A0 d0 R0.out).mono ?_); rintro e v1 ⟨rfl, b1⟩; have E1 := Aside0.mk (below_then E0.out E0.out.size b1); clear b1)
          go_wp2_with fail
          refine hK.out _ _ ?_ (fun hHd29 => ?_)
          · (try dsimp only)
            exact HE0.out _ E1.out
          clear hK K hHd28
          (try simp only [Act.put, List.setIfInBounds_toArray, List.set_cons_zero, List.set_cons_succ])
          refine wpAnyH_take (i := 30) (oi := { dst := some 213, op := Op.unOp UnOp.not 4 (Operand.tmp 212), type := 4, pos := "law.go:58", after := #[{ on := 29, ground := Ground.data }, { on := 15, ground := Ground.guard }], guard := some (15, true) }) (v := ?vd31) rfl (by kernel_rfl) (by kernel_rfl) (by kernel_rfl) (fun _ _ _ h => h) (Or.inl ⟨by rfl, ?yd31⟩) (by assumption) ?rd31
          case yd31 => (intro w hSw; (try dsimp only at hSw); go_simp; (try with_reducible rfl))
          (try simp only [Act.put, List.setIfInBounds_toArray, List.set_cons_zero, List.set_cons_succ])
          refine wpAnyH_take (i := 31) (oi := { dst := some 214, op := Op.pick (Operand.tmp 198) (Operand.tmp 213) (Operand.const (Value.bool false)), type := 4, pos := "law.go:58", after := #[{ on := 15, ground := Ground.data }, { on := 30, ground := Ground.data }, { on := 12, ground := Ground.guard }], guard := some (12, false) }) (v := ?vd32) rfl (by kernel_rfl) (by kernel_rfl) (by kernel_rfl) (fun _ _ _ h => h) (Or.inl ⟨by rfl, ?yd32⟩) (by assumption) ?rd32
          case yd32 => (intro w hSw; (try dsimp only at hSw); go_simp; (try with_reducible rfl))
          (try simp only [Act.put, List.setIfInBounds_toArray, List.set_cons_zero, List.set_cons_succ])
          refine wpAnyH_take (i := 32) (oi := { dst := some 215, op := Op.pick (Operand.tmp 195) (Operand.const (Value.bool true)) (Operand.tmp 214), type := 4, pos := "law.go:58", after := #[{ on := 12, ground := Ground.data }, { on := 31, ground := Ground.data }], guard := none }) (v := ?vd33) rfl (by kernel_rfl) (by kernel_rfl) (by kernel_rfl) (fun _ _ _ h => h) (Or.inl ⟨by rfl, ?yd33⟩) (by assumption) ?rd33
          case yd33 => (intro w hSw; (try dsimp only at hSw); go_simp; (try with_reducible rfl))
          (try simp only [Act.put, List.setIfInBounds_toArray, List.set_cons_zero, List.set_cons_succ])
          refine wpAnyH_done (by kernel_rfl) ?_ _
          go_wp2_with fail
          go_roundg (l.length - (i + 1))
          case measure => have := HLT.out; omega
          case rel => exact ⟨i + 1, ls2, f2, by have := HLT.out; omega, by have := HLT.out; omega, by first | rw [W3.out] | simp, ⟨(HTe.out.less (fun _ h => h.elim)).below E1.out⟩, HV⟩
        · obtain ⟨FA3, hta3⟩ := HTe.out.ta
          obtain ⟨sA3, sc3, m3, c0, -⟩ := hta3.open_
          have HLn := Aside0.mk (Lane_out u9 a sA3 ls2.length sc3 o.f2 c0 (by rw [HV.out.len]; omega))
          have HZ2 := Aside0.mk z2
          by_cases hneg : o.f2 < 0
          · have s3 : decide (o.f2 < 0) = true := decide_eq_true hneg
            clear hin hta3 c0 hneg
            go_wp2_with fail
            refine HLn.out.mono ?_
            rintro e v9 ⟨rfl, hb9⟩
            have HBe := Aside0.mk hb9
            have G2 := Aside0.mk (fun d os => cell_gr (cell_be HZ2.out hb9) d os)
            clear hb9 z2 HLn
            go_wp2_with fail
            have k2 := G2.out
            refine wp_region_gr mixed (by kernel_rfl) ?_
            repeat (first | go_big_quiet_step (fail) | simp only [Bool.not_true, Bool.not_false])
            refine wpQuiet_nil ?_
            intro _ hw'
            obtain ⟨⟨d, os⟩, rfl⟩ := hw'
            have HBf := Aside0.mk (below_then HBe.out HBe.out.size (below_gr v9 d os))
            clear k2 G2
            generalize grow (wat v9 d) os = x9 at HBf ⊢
            go_wp2_with fail
            go_roundg (l.length - (i + 1))
            case measure => have := HLT.out; omega
            case rel => exact ⟨i + 1, ls2, f2, by have := HLT.out; omega, by have := HLT.out; omega, by first | rw [W3.out] | simp, ⟨(HTe.out.less (fun _ h => h.elim)).below HBf.out⟩, HV⟩
          · have s3 : decide (o.f2 < 0) = false := decide_eq_false hneg
            have s4 : decide (o.f2 ≥ (n : Int)) = true := decide_eq_true (by omega)
            have s5 : (n : Int) ≤ o.f2 := by omega
            clear hin hta3 c0 hneg
            go_wp2_with fail
            refine HLn.out.mono ?_
            rintro e v9 ⟨rfl, hb9⟩
            have HBe := Aside0.mk hb9
            have G2 := Aside0.mk (fun d os => cell_gr (cell_be HZ2.out hb9) d os)
            clear hb9 z2 HLn
            go_wp2_with fail
            have k2 := G2.out
            refine wp_region_gr mixed (by kernel_rfl) ?_
            repeat (first | go_big_quiet_step (fail) | simp only [Bool.not_true, Bool.not_false])
            refine wpQuiet_nil ?_
            intro _ hw'
            obtain ⟨⟨d, os⟩, rfl⟩ := hw'
            have HBf := Aside0.mk (below_then HBe.out HBe.out.size (below_gr v9 d os))
            clear k2 G2
            generalize grow (wat v9 d) os = x9 at HBf ⊢
            go_wp2_with fail
            go_roundg (l.length - (i + 1))
            case measure => have := HLT.out; omega
            case rel => exact ⟨i + 1, ls2, f2, by have := HLT.out; omega, by have := HLT.out; omega, by first | rw [W3.out] | simp, ⟨(HTe.out.less (fun _ h => h.elim)).below HBf.out⟩, HV⟩
    · obtain rfl : i = l.length := by omega
      have t1 : ¬ ((l.length : Int) < (l.length : Int)) := by omega
      have HB := Aside0.mk HTi.out.bw
      clear hlt hgg hi
      go_wp2_with fail
      refine (firstT_ wr).mono ?_
      rintro e w3 ⟨rfl, hb3⟩
      have HB3 := Aside0.mk (below_then HB.out HB.out.size hb3)
      clear hb3
      go_wp2
      go_ret
      exact ⟨rfl, HB3.out⟩
theorem plays_walk (nodes most : Int) (A : Option Addr) (c : Nat) (l : List Op4) (w : World) (hwn : ok64 nodes) (hwm : ok64 most) (hr : Kd.C kOp4 w A l.length l) (hc : l.length ≤ c) (hw : l.length ≤ maxLen) (hl : ∀ x ∈ l, ok64 x.f0 ∧ ok64 x.f1 ∧ ok64 x.f2 ∧ ok64 x.f3) :
    Calls Tryz.prog 4 #[.int .i64 nodes, .int .i64 most, .slice A l.length c] w fun e w' => e = .returned (.bool true) ∧ Below w.heap.size w w' := by
  by_cases h : 300 < l.length ∨ (nodes > 60 ∧ nodes ≤ 10000)
  · exact tplays_bad nodes most A c l w h
  · have h1 : l.length ≤ 300 := Nat.not_lt.1 (fun e => h (.inl e))
    have h2 : ¬ (nodes > 60 ∧ nodes ≤ 10000) := fun e => h (.inr e)
    by_cases hn : newBad nodes most = true
    · exact tplays_none nodes most A c l w h1 h2 hn
    · unfold newBad at hn
      simp only [Bool.or_eq_true, decide_eq_true_eq, not_or] at hn
      obtain ⟨n, rfl⟩ : ∃ k : Nat, nodes = k := ⟨nodes.toNat, by omega⟩
      exact tplays_in n most A c l w hr hc hl (by omega) (by omega) h1 (by omega) (by omega)
end Go.Proofs.YtkceadieigpolaaGreat.Ln
