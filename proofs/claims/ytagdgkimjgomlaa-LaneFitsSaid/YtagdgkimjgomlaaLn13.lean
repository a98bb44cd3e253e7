/- A lane over a base world: each method's contract, as the laws use it; the chapter's examples. -/
import Derived.Test.YtagdgkimjgomlaaLn12
import Derived.Test.YtagdgkimjgomlaaLn8
namespace Go.Proofs.Ytagdgkimjgomlaa.Ln
open Go.RowKit Go.Proofs.YtagdgkimjgomlaaW.PrintWords Go.Proofs.YtagdgkimjgomlaaW.PrintLast Go.Proofs.YtagdgkimjgomlaaW.PrintMore Go.Proofs.Ytagdgkimjgomlaa.PMd
set_option linter.unusedVariables false
set_option linter.unusedSimpArgs false
/-- The lane at b, made behind the world w0. -/
def Live (w0 w : World) (b : Nat) (hs qs : List E) : Prop := IsLane w b (fun k => w0.heap.size ≤ k) hs qs ∧ Asc hs ∧ Below w0.heap.size w0 w
section
variable {w0 w w' : World} {b : Nat} {hs qs : List E}
theorem Live.below (h : Live w0 w b hs qs) (hb : Below w.heap.size w w') : Live w0 w' b hs qs := ⟨h.1.below hb, h.2.1, below_then h.2.2 h.2.2.size hb⟩
theorem Live.alloc (h : Live w0 w b hs qs) (o : Obj) : Live w0 (w.alloc o) b hs qs := h.below (below_alloc (Below.refl _ _) o)
end
theorem asc_ask {hs qs : List E} {who m : Int} (h : Asc hs) : Asc (askIn hs qs who m).2.1 := by
  unfold askIn
  split
  · exact h
  · split
    · exact asc_grants h
    · exact h
theorem asc_serve (hs qs : List E) (h : Asc hs) : Asc (serveQ hs qs).2.1 := by
  induction qs generalizing hs with
  | nil => exact h
  | cons x qs ih =>
    unfold serveQ
    split
    · exact ih _ (asc_grants h)
    · exact h
theorem asc_leave {hs qs : List E} {who : Int} (h : Asc hs) : Asc (leaveIn hs qs who).2.1 := asc_serve _ _ (List.Pairwise.filter _ h)
theorem New_L (w0 w : World) (hb : Below w0.heap.size w0 w) : Calls Try.prog 43 #[] w fun e w' => e = .returned (.pointer (some ⟨w.heap.size, 0, none⟩)) ∧ Live w0 w' w.heap.size [] [] ∧ Below w.heap.size w w' :=
  (New_ w (fun k => w0.heap.size ≤ k) hb.size).mono fun _ _ ⟨h1, h2, h3⟩ => ⟨h1, ⟨h2, List.Pairwise.nil, below_then hb hb.size h3⟩, h3⟩
theorem Ask_L {w0 w : World} {b : Nat} {hs qs : List E} (who m : Int) (h : Live w0 w b hs qs) (hl : hs.length ≤ 1000000) (hl2 : qs.length ≤ 1000000) :
    Calls Try.prog 44 #[.pointer (some ⟨b, 0, none⟩), .int .i64 who, .int .i64 m] w fun e w' => e = .returned (.int .i64 (askIn hs qs who m).1) ∧ Live w0 w' b (askIn hs qs who m).2.1 (askIn hs qs who m).2.2 :=
  (Ask_ w b _ hs qs who m h.1 h.2.1 hl hl2).mono fun _ w' ⟨h1, h2, h3⟩ => ⟨h1, h2.mono (fun k _ hk => hk.elim id (fun h4 => Nat.le_trans h.2.2.size h4)), asc_ask h.2.1, h3.to_below h.2.2 h.2.2.size (fun _ hk => hk)⟩
theorem Row.readsI {w : World} {A : Option Addr} {c : Nat} {l : List Int} (h : Row w 3 1 A l.length c (ints l)) : Kd.C (Kd.int .i64) w A l.length l := by
  refine ⟨rfl, by have h1 := h.2.1; have h2 := h.2.2.1; unfold maxLen at h2; omega, fun hn => ?_⟩
  obtain ⟨g, off, cur, rfl, _, _, hc⟩ := h.at_ hn
  refine ⟨_, rfl, fun j p hj => ⟨[.int .i64 p], rfl, rfl, fun i u hu => ?_⟩⟩
  rw [Addr.add_lit]
  match i, hu with
  | 0, hu => obtain rfl : Value.int .i64 p = u := by simpa using hu
             rw [Nat.add_zero]
             show w.cell? ⟨g, off + j * 1, none⟩ = _
             rw [Nat.mul_one]
             exact (hc j _ (by simp [ints, hj])).1
  | i + 1, hu => simp at hu
theorem Leave_L {w0 w : World} {b : Nat} {hs qs : List E} (who : Int) (h : Live w0 w b hs qs) (hl : hs.length + 2 * qs.length ≤ 900000) :
    Calls Try.prog 50 #[.pointer (some ⟨b, 0, none⟩), .int .i64 who] w fun e w' => ∃ A' c', e = .returned (.slice A' (leaveIn hs qs who).1.length c') ∧ Kd.C (Kd.int .i64) w' A' (leaveIn hs qs who).1.length (leaveIn hs qs who).1 ∧ (leaveIn hs qs who).1.length ≤ c' ∧
      Live w0 w' b (leaveIn hs qs who).2.1 (leaveIn hs qs who).2.2 := by
  obtain ⟨F0, hI, hF⟩ := h.1.exact_
  refine (Leave_ w b F0 hs qs who hI h.2.1 hl (fun k hk => (hF k hk).2)).mono ?_
  rintro e w' ⟨A', c', h1, h2, h3, h4, h5⟩
  exact ⟨A', c', h1, h2.readsI, h2.2.1, h4.mono (fun k _ hk => hk.1.elim (fun h6 => (hF k h6).1) (fun h6 => Nat.le_trans h.2.2.size h6)), asc_leave h.2.1, h5.to_below h.2.2 h.2.2.size (fun k hk => (hF k hk).1)⟩
theorem Holds_L {w0 w : World} {b : Nat} {hs qs : List E} (who : Int) (h : Live w0 w b hs qs) :
    Calls Try.prog 48 #[.pointer (some ⟨b, 0, none⟩), .int .i64 who] w fun e w' => e = .returned (.int .i64 (toldIn hs who)) ∧ Live w0 w' b hs qs ∧ Below w.heap.size w w' :=
  (Holds_ w b _ hs qs who h.1).mono fun _ _ ⟨h1, h2⟩ => ⟨h1, h.below h2, h2⟩
theorem Waits_L {w0 w : World} {b : Nat} {hs qs : List E} (who : Int) (h : Live w0 w b hs qs) :
    Calls Try.prog 54 #[.pointer (some ⟨b, 0, none⟩), .int .i64 who] w fun e w' => e = .returned (.int .i64 (toldIn qs who)) ∧ Live w0 w' b hs qs ∧ Below w.heap.size w w' :=
  (Waits_ w b _ hs qs who h.1).mono fun _ _ ⟨h1, h2⟩ => ⟨h1, h.below h2, h2⟩
theorem Empty_L {w0 w : World} {b : Nat} {hs qs : List E} (h : Live w0 w b hs qs) :
    Calls Try.prog 61 #[.pointer (some ⟨b, 0, none⟩)] w fun e w' => e = .returned (.bool (hs.isEmpty && qs.isEmpty)) ∧ Live w0 w' b hs qs ∧ Below w.heap.size w w' :=
  (Empty_ w b _ hs qs h.1).mono fun _ _ ⟨h1, h2⟩ => ⟨h1, h.below h2, h2⟩
theorem Blocks_L {w0 w : World} {b : Nat} {hs qs : List E} (who : Int) (h : Live w0 w b hs qs) (hl : hs.length ≤ 400000) (hl2 : qs.length ≤ 400000) :
    Calls Try.prog 53 #[.pointer (some ⟨b, 0, none⟩), .int .i64 who] w fun e w' => ∃ A' c', e = .returned (.slice A' (blocksIn hs qs who).length c') ∧ Kd.C (Kd.int .i64) w' A' (blocksIn hs qs who).length (blocksIn hs qs who) ∧ (blocksIn hs qs who).length ≤ c' ∧ Live w0 w' b hs qs ∧ Below w.heap.size w w' :=
  (Blocks_ w b _ hs qs who h.1 hl hl2).mono fun _ _ ⟨A', c', h1, h2, _, h4⟩ => ⟨A', c', h1, h2.readsI, h2.2.1, h.below h4, h4⟩
theorem Holders_L {w0 w : World} {b : Nat} {hs qs : List E} (h : Live w0 w b hs qs) (hl : hs.length ≤ 1000000) :
    Calls Try.prog 51 #[.pointer (some ⟨b, 0, none⟩)] w fun e w' => ∃ A' c', e = .returned (.slice A' hs.length c') ∧ Kd.C k67 w' A' hs.length hs ∧ hs.length ≤ c' ∧ Live w0 w' b hs qs ∧ Below w.heap.size w w' :=
  (Holders_ w b _ hs qs h.1 hl).mono fun _ _ ⟨A', c', h1, h2, _, h4⟩ => ⟨A', c', h1, h2.reads, h2.2.1, h.below h4, h4⟩
theorem Queue_L {w0 w : World} {b : Nat} {hs qs : List E} (h : Live w0 w b hs qs) (hl : qs.length ≤ 1000000) :
    Calls Try.prog 47 #[.pointer (some ⟨b, 0, none⟩)] w fun e w' => ∃ A' c', e = .returned (.slice A' qs.length c') ∧ Kd.C k67 w' A' qs.length qs ∧ qs.length ≤ c' ∧ Live w0 w' b hs qs ∧ Below w.heap.size w w' :=
  (Queue_ w b _ hs qs h.1 hl).mono fun _ _ ⟨A', c', h1, h2, _, h4⟩ => ⟨A', c', h1, h2.reads, h2.2.1, h.below h4, h4⟩
/-! ### lists of numbers -/
theorem ints_l0 (l : List Int) (hl : l.length ≤ 1000000) (d : Nat) : ∀ i k : Nat, i + d = l.length → d < k → ltkref_Ints.l0 k l l (i : Int) = some true := by
  induction d with
  | zero =>
    intro i k hi hk
    obtain ⟨k, rfl⟩ : ∃ m, k = m + 1 := ⟨k - 1, by omega⟩
    simp only [ltkref_Ints.l0]
    rw [if_neg (by omega)]
  | succ d ih =>
    intro i k hi hk
    obtain ⟨k, rfl⟩ : ∃ m, k = m + 1 := ⟨k - 1, by omega⟩
    simp only [ltkref_Ints.l0]
    rw [if_pos (by omega), if_pos (by omega), if_pos (by omega), if_true, show wrap64 ((i : Int) + 1) = ((i + 1 : Nat) : Int) from by unfold wrap64; omega]
    exact ih (i + 1) k (by omega) (by omega)
theorem Ints_same (A : Option Addr) (c : Nat) (l : List Int) (A1 : Option Addr) (c1 : Nat) (w : World) (hr0 : Kd.C (Kd.int .i64) w A l.length l) (hc0 : l.length ≤ c) (hr1 : Kd.C (Kd.int .i64) w A1 l.length l) (hc1 : l.length ≤ c1) (hl : l.length ≤ 1000000) :
    Calls Try.prog 49 #[.slice A l.length c, .slice A1 l.length c1] w fun e w' => e = .returned (.bool true) ∧ Drawn0 w w' :=
  ltkref_Ints.calls (l.length + 1) A c l A1 c1 l true w hr0 hc0 hr1 hc1 (by unfold ltkref_Ints.f; rw [if_pos rfl]; exact ints_l0 l hl l.length 0 _ (by omega) (by omega))
theorem slice_one {w : World} (x : Int) : Kd.C (Kd.int .i64) (w.alloc (.cells #[.int .i64 x] 3)) (some ⟨w.heap.size, 0, none⟩) 1 [x] := by
  refine ⟨rfl, by omega, fun _ => ⟨_, rfl, fun j p hj => ?_⟩⟩
  match j, hj with
  | 0, hj => obtain rfl : x = p := by simpa using hj
             exact ⟨[.int .i64 x], rfl, rfl, fun i u hu => by
               match i, hu with
               | 0, hu => obtain rfl : Value.int .i64 x = u := by simpa using hu
                          exact (blk_cell (blk_new w _) 0).trans rfl
               | i + 1, hu => simp at hu⟩
  | j + 1, hj => simp at hj
theorem sortedI_one (x : Int) : sortedI [x] = [x] := by simp [sortedI]
end Go.Proofs.Ytagdgkimjgomlaa.Ln
