import Derived.Test.YtkfhnicojokafaaGreatSb2
import Derived.Deep.QuietTactic
import Derived.BigQuiet
/- Machines of hands without programs: every, Over, Quiet. -/
namespace Go.Proofs.YtkfhnicojokafaaGreat.Co
open Go.RowKit Go.Proofs.YtkfhnicojokafaaGreatW.PrintWords Go.Proofs.YtkfhnicojokafaaGreatW.PrintWords.Kd Go.Proofs.YtkfhnicojokafaaGreatW.PrintLast Go.Proofs.YtkfhnicojokafaaGreatW.PrintMore Go.Proofs.YtkfhnicojokafaaGreat.PMd Go.Proofs.YtkfhnicojokafaaGreat.Ln
set_option linter.unusedVariables false
set_option linter.unusedSimpArgs false
theorem rd_at0 (l : List Int) (i : Nat) (h : i < l.length) : rd l (i : Int) = l[i] := by simp [rd, List.getElem?_eq_getElem h]
/-- A place that is 0 or more just if p. -/
def Found (p : Prop) (w w' : World) (e : Ending) : Prop := ∃ r : Int, e = .returned (.int .i64 r) ∧ (0 ≤ r ↔ p) ∧ w' = w
def FoundD (p : Prop) (w w' : World) (e : Ending) : Prop := ∃ r : Int, e = .returned (.int .i64 r) ∧ (0 ≤ r ↔ p) ∧ ∃ n, w' = w.drewN n
def YesD (p : Prop) (w w' : World) (e : Ending) : Prop := ∃ r : Bool, e = .returned (.bool r) ∧ (r = true ↔ p) ∧ ∃ n, w' = w.drewN n
set_option maxHeartbeats 8000000 in
set_option maxRecDepth 100000 in
theorem indexI_ (A : Option Addr) (c : Nat) (l : List Int) (v : Int) (w : World) (hC : (Kd.int .i64).C w A l.length l) :
    Calls Tryz.prog 52 #[.slice A l.length c, .int .i64 v] w fun e w' => Found (v ∈ l) w w' e := by
  have HC := Aside0.mk hC
  have hm := hC.2.1
  clear hC
  go_enter Tryz.func52, Tryz.ntmps52
  go_wp2_with fail
  go_loop [8] (fun u => ∃ k : Nat, k ≤ l.length ∧ u = .int .i64 k ∧ Aside0 (∀ i (h : i < l.length), i < k → l[i] ≠ v)) (fun u => l.length - (intOf u).toNat)
  case atStart => exact ⟨0, by omega, rfl, ⟨fun i _ hi => by omega⟩⟩
  case round =>
    obtain ⟨k, hk, rfl, HT⟩ := hrel
    by_cases hlt : k < l.length
    · obtain ⟨ad, e4, q0⟩ := Kd.at_int HC.out (k : Int) (by omega) (by omega)
      cases e4
      have p1 : 0 ≤ (k : Int) := by omega
      have p2 : (k : Int) < l.length := by omega
      simp only [Int.toNat_natCast] at q0
      rw [rd_at0 l k hlt] at q0
      by_cases hq : v = l[k]
      · have hb : (v == l[k]) = true := beq_iff_eq.2 hq
        have HF := Aside0.mk (show v ∈ l from hq ▸ List.getElem_mem hlt)
        generalize l[k] = x at q0 hb
        clear hq
        go_wp2
        go_ret
        exact ⟨(k : Int), rfl, ⟨fun _ => HF.out, fun _ => by omega⟩, rfl⟩
      · have hb : (v == l[k]) = false := beq_eq_false_iff_ne.2 hq
        have HT1 := Aside0.mk (show ∀ i (h : i < l.length), i < k + 1 → l[i] ≠ v from fun i h hi => by
          by_cases e : i = k
          · subst e; exact fun e2 => hq e2.symm
          · exact HT.out i h (by omega))
        generalize l[k] = x at q0 hb
        clear hq HT
        go_wp2
        go_round
        case rel => exact ⟨k + 1, by omega, by go_num, HT1⟩
        case measure => simp [intOf]; omega
    · have HF := Aside0.mk (show ¬ v ∈ l from fun h => by
        obtain ⟨i, hi, e⟩ := List.getElem_of_mem h
        exact HT.out i hi (by omega) e)
      go_wp2
      go_ret
      exact ⟨-1, rfl, ⟨fun h => by omega, fun h => absurd h HF.out⟩, rfl⟩
set_option maxHeartbeats 8000000 in
theorem containsI_ (A : Option Addr) (c : Nat) (l : List Int) (v : Int) (w : World) (hC : (Kd.int .i64).C w A l.length l) :
    Calls Tryz.prog 40 #[.slice A l.length c, .int .i64 v] w fun e w' => e = .returned (.bool (decide (v ∈ l))) ∧ w' = w := by
  have HI := Aside0.mk (indexI_ A c l v w hC)
  clear hC
  go_enter Tryz.func40, Tryz.ntmps40
  go_wp2_with fail
  refine HI.out.mono ?_
  rintro e w1 ⟨r, rfl, hr, rfl⟩
  have HR := Aside0.mk hr
  clear hr HI
  go_wp2
  go_ret
  refine ⟨?_, rfl⟩
  show Ending.returned (.bool (decide (0 ≤ r))) = _
  rw [decide_eq_decide.2 HR.out]
set_option maxHeartbeats 8000000 in
set_option maxRecDepth 100000 in
theorem every1_ (w : World) (g b x : Nat) (t ph : Int) (A : Option Addr) (c : Nat) (l : List Int) (h : IsHand w g b t ph) (hx : w.cell? ⟨x, 0, none⟩ = some (.slice A l.length c)) (hC : (Kd.int .i64).C w A l.length l) :
    Calls Tryz.prog 39 #[.pointer (some ⟨g, 0, none⟩), .pointer (some ⟨x, 0, none⟩)] w fun e w' => e = .returned (.bool (!decide (ph ∈ l))) ∧ ∃ n, w' = w.drewN n := by
  have HH := Aside0.mk h
  have HC := Aside0.mk hC
  clear h hC
  go_enter Tryz.func39, Tryz.ntmps39
  go_wp2
  go_quiet (first
    | (go_at_call 41; exact Calls.quiet_of_same (handPhase_ _ g b t ph HH.out))
    | (go_at_call 40; exact Calls.quiet_of_same (containsI_ A c l ph _ HC.out)))
  go_wp2
  go_ret
  exact ⟨rfl, _, rfl⟩
theorem Row.ads {w : World} {e n cap : Nat} {A : Option Addr} {xs : List Value} (h : Row w e 1 A n cap xs) (hn : 0 < n) : ∃ ad : Addr, A = some ad ∧ ∀ (j : Nat) v, xs[j]? = some v → w.cell? (ad.add j) = some v := by
  obtain ⟨g, off, cur, rfl, _, _, hc⟩ := h.at_ hn
  exact ⟨_, rfl, fun j v hv => by rw [Addr.add_lit]; exact (hc j v hv).1⟩
set_option maxHeartbeats 8000000 in
set_option maxRecDepth 100000 in
theorem indexH_ (w : World) (b x : Nat) (hA : Option Addr) (hc : Nat) (gs : List Nat) (phs : List Int) (A : Option Addr) (c : Nat) (l : List Int) (hg : gs.length = phs.length) (hR : Row w 40 1 hA phs.length hc (gs.map ptr))
    (h4 : ∀ (j : Nat) (g : Nat) (ph : Int), gs[j]? = some g → phs[j]? = some ph → IsHand w g b j ph) (hx : w.cell? ⟨x, 0, none⟩ = some (.slice A l.length c)) (hC : (Kd.int .i64).C w A l.length l) :
    Calls Tryz.prog 51 #[.slice hA phs.length hc, .func (.func 39) #[] #[.pointer (some ⟨x, 0, none⟩)]] w fun e w' => FoundD (∃ ph ∈ phs, ph ∉ l) w w' e := by
  have HE := Aside0.mk (fun g t ph n (h : IsHand w g b t ph) => every1_ (w.drewN n) g b x t ph A c l h hx hC)
  have HR := Aside0.mk hR
  have HH := Aside0.mk (And.intro hg h4)
  have HL := Aside0.mk (show phs.length ≤ 9223372036854775807 by have h1 := hR.2.1; have h2 := hR.2.2.1; unfold maxLen at h2; omega)
  clear hg hR h4 hx hC
  go_enter Tryz.func51, Tryz.ntmps51
  go_wp2_with fail
  go_loopg [8] phs.length (fun gg u wr => ∃ (k n : Nat), k ≤ phs.length ∧ phs.length - k ≤ gg ∧ u = .int .i64 k ∧ wr = w.drewN n ∧ Aside0 (∀ i (h : i < phs.length), i < k → phs[i] ∈ l))
  case atStart => exact ⟨0, 0, by omega, by omega, rfl, rfl, ⟨fun i _ hi => by omega⟩⟩
  case round =>
    obtain ⟨k, n, hk, hgg, rfl, rfl, HT⟩ := hrel
    by_cases hlt : k < phs.length
    · obtain ⟨ad, e4, hcell⟩ := Row.ads HR.out (by omega)
      cases e4
      have hkg : k < gs.length := by have := HH.out.1; omega
      have q0 : (w.drewN n).cell? (ad.add k) = some (.pointer (some ⟨gs[k], 0, none⟩)) := hcell k _ (by rw [List.getElem?_map, List.getElem?_eq_getElem hkg]; rfl)
      have hH := HE.out gs[k] k phs[k] n (HH.out.2 k gs[k] phs[k] (List.getElem?_eq_getElem hkg) (List.getElem?_eq_getElem hlt))
      have p1 : 0 ≤ (k : Int) := by omega
      have p2 : (k : Int) < phs.length := by omega
      have hin : phs[k] ∈ l → ∀ i (h : i < phs.length), i < k + 1 → phs[i] ∈ l := fun hm i h hi => by
        by_cases e : i = k
        · subst e; exact hm
        · exact HT.out i h (by omega)
      have hout : ¬ phs[k] ∈ l → ∃ ph ∈ phs, ph ∉ l := fun hm => ⟨_, List.getElem_mem hlt, hm⟩
      have HIN := Aside0.mk (And.intro hin hout)
      have HCL := Aside0.mk hH
      have HJ := Aside0.mk (And.intro hlt hgg)
      have W3 := Aside0.mk (show wrap64 ((k : Int) + 1) = ((k + 1 : Nat) : Int) by have := HL.out; unfold wrap64; omega)
      clear hcell hH hin hout hgg hk
      generalize phs[k] = ph at HIN HCL
      generalize gs[k] = g at q0 HCL
      clear hkg hlt
      go_wp2_with fail
      refine HCL.out.mono ?_
      rintro e w3 ⟨rfl, n2, rfl⟩
      by_cases hm : ph ∈ l
      · have hm2 : decide (ph ∈ l) = true := decide_eq_true hm
        have HT1 := Aside0.mk (HIN.out.1 hm)
        clear hm
        go_wp2
        go_roundg (phs.length - (k + 1))
        case measure => have := HJ.out; omega
        case rel => exact ⟨k + 1, _, by have := HJ.out; omega, by have := HJ.out; omega, by rw [W3.out], by first | rfl | rw [World.drewN_drewN], HT1⟩
      · have hm2 : decide (ph ∈ l) = false := decide_eq_false hm
        have HF := Aside0.mk (HIN.out.2 hm)
        clear hm
        go_wp2
        go_ret
        exact ⟨(k : Int), rfl, ⟨fun _ => HF.out, fun _ => by omega⟩, _, by first | rfl | rw [World.drewN_drewN]⟩
    · have t1 : ¬ (k : Int) < (phs.length : Int) := by omega
      have HF := Aside0.mk (show ¬ ∃ ph ∈ phs, ph ∉ l from fun ⟨ph, h, h2⟩ => by
        obtain ⟨i, hi, e⟩ := List.getElem_of_mem h
        exact h2 (e ▸ HT.out i hi (by omega)))
      clear hk hgg hlt
      go_wp2
      go_ret
      exact ⟨-1, rfl, ⟨fun h => by omega, fun h => absurd h HF.out⟩, _, rfl⟩
def YesB (p : Prop) (w w' : World) (e : Ending) : Prop := ∃ r : Bool, e = .returned (.bool r) ∧ (r = true ↔ p) ∧ Below w.heap.size w w'
set_option maxHeartbeats 8000000 in
set_option maxRecDepth 100000 in
theorem every_ {w0 W : World} {lim m b : Nat} {P : Pl} {F : Nat → Prop} {s : CoreS} {phs : List Int} (A : Option Addr) (c : Nat) (l : List Int) (h : Mach w0 W lim m b P F s phs) (hC : (Kd.int .i64).C W A l.length l) :
    Calls Tryz.prog 21 #[.pointer (some ⟨m, 0, none⟩), .slice A l.length c] W fun e w' => YesB (∀ ph ∈ phs, ph ∈ l) W w' e := by
  have hu := Tryz.underlying48
  have hb := below_alloc (Below.refl W.heap.size W) (.cells #[.slice A l.length c] 24)
  obtain ⟨hA, hc, gs, c0, c1, hl, hR, hH⟩ := (h.below hb).open_
  have HI := Aside0.mk (indexH_ _ b W.heap.size hA hc gs phs A c l hl hR hH ((blk_cell (blk_new W (.cells #[.slice A l.length c] 24)) 0).trans rfl) (Kd.C_below hC hb))
  have HB := Aside0.mk hb
  clear h hC hb hl hR hH
  go_enter Tryz.func21, Tryz.ntmps21
  go_wp2_with fail
  go_enter Tryz.func38, Tryz.ntmps38
  go_wp2_with fail
  refine HI.out.mono ?_
  rintro e w3 ⟨r, rfl, hr, n, rfl⟩
  have HR := Aside0.mk hr
  clear hr HI c0 c1
  go_wp2
  go_ret
  refine ⟨!decide (0 ≤ r), rfl, ?_, pw_below_drewN HB.out n⟩
  rw [Bool.not_eq_true', decide_eq_false_iff_not, HR.out]
  constructor
  · intro h ph hp
    by_cases h2 : ph ∈ l
    · exact h2
    · exact absurd ⟨ph, hp, h2⟩ h
  · rintro h ⟨ph, hp, h2⟩
    exact h2 (h ph hp)
theorem ints_lit (w : World) (l : List Int) (hl : l.length ≤ 1000) : (Kd.int .i64).C (w.alloc (.cells (vi l).toArray 3)) (some ⟨w.heap.size, 0, none⟩) l.length l :=
  Row.reads_vi (c := l.length) ⟨by simp [vi], Nat.le_refl _, by unfold maxLen; omega, .inr ⟨w.heap.size, 0, _, rfl, heap_alloc_new w _, by show 0 + l.length * 1 ≤ (vi l).toArray.size; rw [List.size_toArray, vi_len]; omega, by show ((vi l).drop 0).take _ = vi l; rw [List.drop_zero, List.take_of_length_le (by rw [vi_len]; omega)]⟩⟩
set_option maxHeartbeats 8000000 in
theorem over_ {w0 W : World} {lim m b : Nat} {P : Pl} {F : Nat → Prop} {s : CoreS} {phs : List Int} (h : Mach w0 W lim m b P F s phs) :
    Calls Tryz.prog 9 #[.pointer (some ⟨m, 0, none⟩)] W fun e w' => YesB (∀ ph ∈ phs, ph ∈ ([6] : List Int)) W w' e := by
  have hb := below_alloc (Below.refl W.heap.size W) (.cells #[.int .i64 6] 3)
  have HE := Aside0.mk (every_ (some ⟨W.heap.size, 0, none⟩) 1 [6] (h.below hb) (ints_lit W [6] (by simp)))
  have HB := Aside0.mk hb
  clear h hb
  go_enter Tryz.func9, Tryz.ntmps9
  go_wp2_with fail
  refine HE.out.mono ?_
  rintro e w1 ⟨r, rfl, hr, hb⟩
  have HR := Aside0.mk (And.intro hr hb)
  clear hr hb HE
  go_wp2
  go_ret
  exact ⟨r, rfl, HR.out.1, below_then HB.out HB.out.size HR.out.2⟩
set_option maxHeartbeats 8000000 in
theorem quiet_ {w0 W : World} {lim m b : Nat} {P : Pl} {F : Nat → Prop} {s : CoreS} {phs : List Int} (h : Mach w0 W lim m b P F s phs) :
    Calls Tryz.prog 10 #[.pointer (some ⟨m, 0, none⟩)] W fun e w' => YesB (∀ ph ∈ phs, ph ∈ ([0, 5, 6] : List Int)) W w' e := by
  have hb := below_alloc (Below.refl W.heap.size W) (.cells #[.int .i64 0, .int .i64 5, .int .i64 6] 3)
  have HE := Aside0.mk (every_ (some ⟨W.heap.size, 0, none⟩) 3 [0, 5, 6] (h.below hb) (ints_lit W [0, 5, 6] (by simp)))
  have HB := Aside0.mk hb
  clear h hb
  go_enter Tryz.func10, Tryz.ntmps10
  go_wp2_with fail
  refine HE.out.mono ?_
  rintro e w1 ⟨r, rfl, hr, hb⟩
  have HR := Aside0.mk (And.intro hr hb)
  clear hr hb HE
  go_wp2
  go_ret
  exact ⟨r, rfl, HR.out.1, below_then HB.out HB.out.size HR.out.2⟩
/-- Rows of numbers stand. -/
def KeepI (W w' : World) : Prop := ∀ (k : Nat) (cs : Array Value), W.heap[k]? = some (.cells cs 3 (0, 0)) → w'.heap[k]? = some (.cells cs 3 (0, 0))
/-- What a pick hands back. -/
def Picked (w0 W w' : World) (lim m b : Nat) (P : Pl) (F : Nat → Prop) (s : CoreS) (phs : List Int) (r : Bool) (e : Ending) : Prop := e = .returned (.bool r) ∧ Mach w0 w' lim m b P F s phs ∧ KeepI W w'
set_option maxHeartbeats 8000000 in
set_option maxRecDepth 100000 in
theorem picksOut_ {w0 W : World} {lim m b : Nat} {P : Pl} {F : Nat → Prop} {s : CoreS} {phs : List Int} (n : Int) (h : Mach w0 W lim m b P F s phs) (hn : n < 0 ∨ (phs.length : Int) < n) :
    Calls Tryz.prog 42 #[.pointer (some ⟨m, 0, none⟩), .int .i64 n] W fun e w' => e = .returned (.bool false) ∧ w' = W := by
  have hu := Tryz.underlying48
  obtain ⟨hA, hc, gs, c0, c1, _, _, _⟩ := h.open_
  clear h
  by_cases h0 : n < 0
  · clear hn
    go_enter Tryz.func42, Tryz.ntmps42
    go_wp2
    go_ret
    exact ⟨rfl, rfl⟩
  · have h1 : (phs.length : Int) < n := by omega
    clear hn
    go_enter Tryz.func42, Tryz.ntmps42
    go_wp2
    go_ret
    exact ⟨rfl, rfl⟩
set_option maxHeartbeats 8000000 in
set_option maxRecDepth 100000 in
theorem picksAt_ {w0 W : World} {lim m b : Nat} {P : Pl} {F : Nat → Prop} {s : CoreS} {phs : List Int} (j : Nat) (h : Mach w0 W lim m b P F s phs) (hj : j < phs.length) (hp : phs[j] = 0 ∨ phs[j] = 6) :
    Calls Tryz.prog 42 #[.pointer (some ⟨m, 0, none⟩), .int .i64 (j : Int)] W fun e w' => Picked w0 W w' lim m b P F s (phs.set j 6) (decide (phs[j] = 0)) e := by
  have hu := Tryz.underlying48
  obtain ⟨hA, hc, gs, h1, h2, h3, h4, h5, h6, h7, h8, h9, h10, h11⟩ := h
  have HM := Aside0.mk (show Mach w0 W lim m b P F s phs from ⟨hA, hc, gs, h1, h2, h3, h4, h5, h6, h7, h8, h9, h10, h11⟩)
  have hjg : j < gs.length := by omega
  have hH := h4 j gs[j] phs[j] (List.getElem?_eq_getElem hjg) (List.getElem?_eq_getElem hj)
  have HT := Aside0.mk (fun n => Mach.to_ (W := W.drewN n) 6 h1 h2 h3 h4 h5 h6 h7 h8 h9 h10 (pw_below_drewN h11 n) (List.getElem?_eq_getElem hjg) hj)
  have c0 : W.cell? ⟨m, 0, none⟩ = some (.pointer (some ⟨b, 0, none⟩)) := (blk_cell h1 0).trans rfl
  have c1 : W.cell? ⟨m, 1, none⟩ = some (.slice hA gs.length hc) := (blk_cell h1 1).trans rfl
  rw [h2] at c1
  obtain ⟨ad, rfl, hcell⟩ := Row.ads h3 (by omega)
  have q0 : W.cell? (ad.add j) = some (.pointer (some ⟨gs[j], 0, none⟩)) := hcell j _ (by rw [List.getElem?_map, List.getElem?_eq_getElem hjg]; rfl)
  have t0 : ¬ ((j : Int) < 0) := by omega
  have t1 : decide ((phs.length : Int) < (j : Int)) = false := decide_eq_false (by omega)
  have t1b : decide (phs.length < j) = false := decide_eq_false (by omega)
  have t2 : ((j : Int) == (phs.length : Int)) = false := beq_eq_false_iff_ne.2 (by omega)
  have t2b : (j == phs.length) = false := beq_eq_false_iff_ne.2 (by omega)
  have t3 : (j : Int) < (phs.length : Int) := by omega
  have t4 : (0 : Int) ≤ (j : Int) := by omega
  have HJ := Aside0.mk hj
  clear h1 h2 h3 h4 h5 h6 h7 h8 h9 h10 h11 hcell
  rcases hp with hp | hp
  · have HKI := Aside0.mk (show ∀ n, KeepI W ((W.drewN n).setCell ⟨gs[j], 10, none⟩ (.int .i64 6)) from fun n k cs hk => by
      obtain ⟨lv, mp, hh⟩ := hH
      exact (Below.heap_setCell (W.drewN n) ⟨gs[j], 10, none⟩ _ k (typed_ne hk hh (by decide))).trans hk)
    rw [hp] at hH
    have HS := Aside0.mk (handStep_ W gs[j] b j hH)
    have HP := Aside0.mk hp
    clear hH hp
    generalize gs[j] = g at q0 HS HT HKI
    clear hjg
    go_enter Tryz.func42, Tryz.ntmps42
    go_wp2_with fail
    refine HS.out.mono ?_
    rintro e w3 ⟨rfl, n, rfl⟩
    go_wp2
    go_ret
    refine ⟨by rw [decide_eq_true HP.out]; rfl, HT.out n, HKI.out n⟩
  · rw [hp] at hH
    have HS := Aside0.mk (handDone_ W gs[j] b j hH)
    have HP := Aside0.mk hp
    have HSAME := Aside0.mk (show phs.set j 6 = phs by rw [← hp]; exact List.set_getElem_self hj)
    clear hH hp HT
    generalize gs[j] = g at q0 HS
    clear hjg
    go_enter Tryz.func42, Tryz.ntmps42
    go_wp2_with fail
    refine HS.out.mono ?_
    rintro e w3 ⟨rfl, rfl⟩
    go_wp2
    go_ret
    refine ⟨by rw [decide_eq_false (by rw [HP.out]; omega)]; rfl, by rw [HSAME.out]; exact HM.out, fun _ _ h => h⟩
end Go.Proofs.YtkfhnicojokafaaGreat.Co
