/- TableFull: its plain law, its walk. -/
import Derived.Test.YtagdgkimjgomlaaTb13
namespace Go.Proofs.Ytagdgkimjgomlaa.Ln
open Go.RowKit Go.Proofs.YtagdgkimjgomlaaW.PrintWords Go.Proofs.YtagdgkimjgomlaaW.PrintLast Go.Proofs.YtagdgkimjgomlaaW.PrintMore Go.Proofs.Ytagdgkimjgomlaa.PMd
open Go.Maps
open Go.Sort (grow)
set_option linter.unusedVariables false
set_option linter.unusedSimpArgs false
theorem ok64_of {x : Int} (h : wrap64 x = x) : ok64 x := by
  have h1 := wrap64_wf x
  rw [h] at h1
  exact h1
def one14 (k : Nat) : LS := ([⟨((k % 3 : Nat) : Int), 1⟩], [])
def F14 (n m i : Nat) : List LS := TM n (fun k => if k < min i m then one14 k else zL)
theorem f14_len {n m i : Nat} (hi : i ≤ n) : lenT (F14 n m i) = min i m := by
  induction i with
  | zero =>
    have e : F14 n m 0 = List.replicate n zL := by
      rw [TM_zero]
      exact TM_congr (fun k _ => if_neg (by omega))
    rw [e]
    unfold lenT
    rw [List.map_replicate, show lenL zL = 0 from rfl]
    simp
  | succ i ih =>
    have ih := ih (by omega)
    by_cases h : i < m
    · have e : F14 n m (i + 1) = (F14 n m i).set i (one14 i) := by
        unfold F14
        rw [TM_set (by omega)]
        refine TM_congr (fun k hk => ?_)
        by_cases e : k = i
        · rw [if_pos e, if_pos (by omega), e]
        · rw [if_neg e]
          by_cases h2 : k < min i m
          · rw [if_pos h2, if_pos (by omega)]
          · rw [if_neg h2, if_neg (by omega)]
      have h2 := lenT_set (ls := F14 n m i) (i := i) (by unfold F14; rw [TM_len]; omega) (one14 i)
      rw [← e, show (F14 n m i).getD i zL = zL by unfold F14; rw [TM_at (by omega), if_neg (by omega)], show lenL zL = 0 from rfl, show lenL (one14 i) = 1 from rfl] at h2
      omega
    · have e : F14 n m (i + 1) = F14 n m i := TM_congr (fun k _ => by
        by_cases h2 : k < min i m
        · rw [if_pos h2, if_pos (by omega)]
        · rw [if_neg h2, if_neg (by omega)])
      rw [e]; omega
theorem ask_new (w m : Int) (h : m = 1 ∨ m = 3) : askIn [] [] w m = (1, [⟨w, m⟩], []) := by
  rcases h with rfl | rfl <;> kernel_rfl
theorem f14_yes {n m i : Nat} (hi : i < n) (hm : i < m) : askT (F14 n m i) (m : Int) f0 ((i % 3 : Nat) : Int) (i : Int) 1 = (1, 0, F14 n m (i + 1), f0) := by
  have hl := f14_len (n := n) (m := m) (i := i) (by omega)
  rw [ask_at (by unfold F14; rw [TM_len]; exact hi) rfl (by omega) (by decide) (by decide) (show (F14 n m i).getD i zL = ([], []) by unfold F14; rw [TM_at hi, if_neg (by omega)]) (.inr (by rw [hl]; omega)) (ask_new _ 1 (.inl rfl))]
  rw [show ([⟨((i % 3 : Nat) : Int), 1⟩], []) = one14 i from rfl, if_neg (by decide)]
  congr 3
  unfold F14
  rw [TM_set hi]
  refine TM_congr (fun k hk => ?_)
  by_cases e : k = i
  · rw [if_pos e, if_pos (by omega), e]
  · rw [if_neg e]
    by_cases h2 : k < min i m
    · rw [if_pos h2, if_pos (by omega)]
    · rw [if_neg h2, if_neg (by omega)]
theorem f14_no {n m i : Nat} (hi : i < n) (hm : ¬ i < m) : askT (F14 n m i) (m : Int) f0 ((i % 3 : Nat) : Int) (i : Int) 1 = (0, 3, F14 n m (i + 1), f0) := by
  have hl := f14_len (n := n) (m := m) (i := i) (by omega)
  rw [ask_full (by unfold F14; rw [TM_len]; exact hi) rfl (by omega) (by decide) (by decide) (show (F14 n m i).getD i zL = ([], []) by unfold F14; rw [TM_at hi, if_neg (by omega)]) rfl (by rw [hl]; omega)]
  congr 3
  exact TM_congr (fun k _ => by
    by_cases h2 : k < min i m
    · rw [if_pos h2, if_pos (by omega)]
    · rw [if_neg h2, if_neg (by omega)])
theorem f14_lane {n m i k : Nat} : (if k < min i m then one14 k else zL).1.length + (if k < min i m then one14 k else zL).2.length ≤ 1 := by
  split
  · exact Nat.le_refl 1
  · exact Nat.zero_le _
theorem f14_small {n m i : Nat} (hn : n ≤ 60) : Small (F14 n m i) := TM_small (m := 1) (by omega) (fun k _ => f14_lane (n := n)) (by decide)
/-- Behind the loop, X asked at the first node. -/
def G14 (n m k : Nat) : LS := if k = 0 then ([⟨0, 5⟩], []) else if k < min n m then one14 k else zL
theorem g14_ask {n m : Nat} (hn : 1 ≤ n) (hm : 1 ≤ m) : askT (F14 n m n) (m : Int) f0 0 0 5 = (1, 0, TM n (G14 n m), f0) := by
  have h0 : (F14 n m n).getD 0 zL = ([⟨0, 1⟩], []) := by unfold F14; rw [TM_at (by omega), if_pos (by omega)]; rfl
  have := ask_at (ls := F14 n m n) (f := f0) (i := 0) (most := m) (who := 0) (m := 5) (by unfold F14; rw [TM_len]; omega) rfl (by omega) (by decide) (by decide) h0 (.inl (by decide)) (show askIn [⟨0, 1⟩] [] 0 5 = (1, [⟨0, 5⟩], []) by kernel_rfl)
  rw [show ((0 : Nat) : Int) = 0 from rfl] at this
  rw [this, if_neg (by decide)]
  congr 3
  unfold F14
  rw [TM_set (by omega)]
  rfl
theorem g14_cases {n m : Nat} (k : Nat) : (G14 n m k = zL) ∨ (∃ w m' : Int, (w = 0 ∨ w = 1 ∨ w = 2) ∧ (m' = 1 ∨ m' = 5) ∧ G14 n m k = ([⟨w, m'⟩], [])) := by
  unfold G14
  split
  · exact .inr ⟨0, 5, .inl rfl, .inr rfl, rfl⟩
  · split
    · have h := Nat.mod_lt k (show 3 > 0 by decide)
      exact .inr ⟨((k % 3 : Nat) : Int), 1, by omega, .inl rfl, rfl⟩
    · exact .inl rfl
theorem g14_len1 {n m : Nat} (k : Nat) : (G14 n m k).1.length + (G14 n m k).2.length ≤ 1 := by
  rcases g14_cases (n := n) (m := m) k with h | ⟨w, m', _, _, h⟩ <;> rw [h]
  · exact Nat.zero_le _
  · exact Nat.le_refl 1
/-- What a Drop of 0 leaves of a lane; how many it takes. -/
theorem g14_drop {n m : Nat} (k : Nat) : (dropS 0 (G14 n m k)).1 = [] ∧ lenL (G14 n m k) = lenL (dropS 0 (G14 n m k)).2 + (if toldIn (G14 n m k).1 0 = 0 then 0 else 1) ∧ (dropS 0 (G14 n m k)).2.1.length + (dropS 0 (G14 n m k)).2.2.length ≤ 1 := by
  rcases g14_cases (n := n) (m := m) k with h | ⟨w, m', h1, h2, h⟩ <;> rw [h]
  · decide +kernel
  · rcases h1 with rfl | rfl | rfl <;> rcases h2 with rfl | rfl <;> decide +kernel
theorem g14_out {n m : Nat} : dropO (TM n (G14 n m)) 0 0 = [] := List.eq_nil_iff_forall_not_mem.2 (fun x hx => by
  obtain ⟨j, _, hj, h⟩ := dropO_mem.1 hx
  rw [TM_len] at hj
  rw [TM_at hj, (g14_drop j).1] at h
  cases h)
def H14 (n m k : Nat) : LS := (dropS 0 (G14 n m k)).2
theorem h14_zero {n m : Nat} : H14 n m 0 = ([], []) := by unfold H14 G14; rw [if_pos rfl]; kernel_rfl
theorem h14_map {n m : Nat} : dropF (TM n (G14 n m)) f0 0 = f0 := funext fun x => by rw [dropF_at]; split <;> rfl
theorem g14_count {n m : Nat} : ∀ i, i ≤ n → lenT ((TM n (G14 n m)).take i) = lenT ((TM n (H14 n m)).take i) + (heldUp (TM n (G14 n m)) 0 i).length := by
  intro i
  induction i with
  | zero => intro _; simp [heldUp, lenT]
  | succ i ih =>
    intro hi
    have h1 := ih (by omega)
    have h2 := (g14_drop (n := n) (m := m) i).2.1
    rw [len_step (by rw [TM_len]; omega), len_step (by rw [TM_len]; omega), TM_at (by omega), TM_at (by omega)]
    unfold heldUp
    rw [List.length_append, TM_at (by omega)]
    unfold H14
    unfold H14 at h1
    by_cases h3 : toldIn (G14 n m i).1 0 = 0
    · rw [if_pos h3] at h2 ⊢
      simp; omega
    · rw [if_neg h3] at h2 ⊢
      simp; omega
theorem g14_sum {n m : Nat} (hn : 1 ≤ n) (hm : 1 ≤ m) : lenT (TM n (H14 n m)) + (heldT (TM n (G14 n m)) 0).length = min n m ∧ 1 ≤ (heldT (TM n (G14 n m)) 0).length := by
  have h1 := g14_count (n := n) (m := m) n (Nat.le_refl _)
  have e1 : (TM n (G14 n m)).take n = TM n (G14 n m) := List.take_of_length_le (by rw [TM_len]; exact Nat.le_refl _)
  have e2 : (TM n (H14 n m)).take n = TM n (H14 n m) := List.take_of_length_le (by rw [TM_len]; exact Nat.le_refl _)
  rw [e1, e2] at h1
  have e3 : TM n (G14 n m) = (F14 n m n).set 0 ([⟨0, 5⟩], []) := by unfold F14; rw [TM_set (by omega)]; rfl
  have h2 := lenT_set (ls := F14 n m n) (i := 0) (by unfold F14; rw [TM_len]; omega) ([⟨0, 5⟩], [])
  rw [← e3, f14_len (Nat.le_refl n), show (F14 n m n).getD 0 zL = one14 0 by unfold F14; rw [TM_at (by omega), if_pos (by omega)], show lenL (one14 0) = 1 from rfl, show lenL ([⟨0, 5⟩], []) = 1 from rfl] at h2
  have h3 : (⟨0, 5⟩ : L) ∈ heldUp (TM n (G14 n m)) 0 n := (held_mem n).2 ⟨0, by omega, by rw [TM_at (by omega)]; rfl, by rw [TM_at (by omega)]; show toldIn ([⟨0, 5⟩] : List E) 0 ≠ 0; decide +kernel⟩
  have h4 := List.length_pos_of_mem h3
  unfold heldT
  rw [TM_len]
  omega
def K14 (n m k : Nat) : LS := if k = 0 then ([⟨7, 3⟩], []) else H14 n m k
theorem k14_ask {n m : Nat} (hn : 1 ≤ n) (hm : 1 ≤ m) : askT (TM n (H14 n m)) (m : Int) f0 7 0 3 = (1, 0, TM n (K14 n m), f0) := by
  have h0 : (TM n (H14 n m)).getD 0 zL = ([], []) := by rw [TM_at (by omega), h14_zero]
  have hs := g14_sum hn hm
  have := ask_at (ls := TM n (H14 n m)) (f := f0) (i := 0) (most := m) (who := 7) (m := 3) (by rw [TM_len]; omega) rfl (by omega) (by decide) (by decide) h0 (.inr (by omega)) (ask_new 7 3 (.inr rfl))
  rw [show ((0 : Nat) : Int) = 0 from rfl] at this
  rw [this, if_neg (by decide)]
  congr 3
  rw [TM_set (by omega)]
  rfl
theorem k14_len {n m : Nat} (hn : 1 ≤ n) (hm : 1 ≤ m) : lenT (TM n (K14 n m)) + (heldT (TM n (G14 n m)) 0).length = min n m + 1 := by
  have hs := g14_sum hn hm
  have e : TM n (K14 n m) = (TM n (H14 n m)).set 0 ([⟨7, 3⟩], []) := by rw [TM_set (by omega)]; rfl
  have h2 := lenT_set (ls := TM n (H14 n m)) (i := 0) (by rw [TM_len]; omega) ([⟨7, 3⟩], [])
  rw [← e, TM_at (by omega), h14_zero, show lenL ([], []) = 0 from rfl, show lenL ([⟨7, 3⟩], []) = 1 from rfl] at h2
  omega
theorem k14_len1 {n m : Nat} (k : Nat) : (K14 n m k).1.length + (K14 n m k).2.length ≤ 1 := by
  unfold K14
  split
  · decide
  · exact (g14_drop k).2.2
theorem k14_holds {n m : Nat} (hn : 1 ≤ n) : holdsT (TM n (K14 n m)) 0 0 = 0 := by
  unfold holdsT
  rw [if_pos ⟨by omega, by rw [TM_len]; omega⟩]
  rw [show (0 : Int).toNat = 0 from rfl, TM_at (by omega)]
  rfl
theorem edges_none {ls : List LS} {l : List Int} (h : ∀ x, x ∈ l ↔ ok64 x ∧ (f0 x).isSome = true) : (edUp ls f0 (sortedI l) l.length).length = 0 := by
  obtain rfl : l = [] := List.eq_nil_iff_forall_not_mem.2 (fun x hx => by have := ((h x).1 hx).2; cases this)
  rfl
set_option maxHeartbeats 8000000 in
set_option maxRecDepth 100000 in
theorem full_bad (nodes most : Int) (w : World) (h : (decide (nodes < 1) || decide (nodes > 60) || decide (most < 1) || decide (most > 60)) = true) :
    Calls Try.prog 17 #[.int .i64 nodes, .int .i64 most] w fun e w' => e = .returned (.bool true) ∧ Below w.heap.size w w' := by
  have key : ∀ a b c d : Bool, decide (nodes < 1) = a → decide (nodes > 60) = b → decide (most < 1) = c → decide (most > 60) = d → (a || b || c || d) = true →
      Calls Try.prog 17 #[.int .i64 nodes, .int .i64 most] w fun e w' => e = .returned (.bool true) ∧ Below w.heap.size w w' := by
    intro a b c d ha hb hc hd h
    cases a with
    | true =>
      go_enter Try.func17, Try.ntmps17
      go_wp2_with fail
      refine (firstT_ w).mono ?_
      rintro e w1 ⟨rfl, hb⟩
      have HB1 := Aside0.mk hb
      clear hb
      go_wp2_with fail
      refine (firstT_ w1).mono ?_
      rintro e w2 ⟨rfl, hb⟩
      have HB2 := Aside0.mk (below_then HB1.out HB1.out.size hb)
      clear hb
      go_wp2
      go_ret
      exact ⟨rfl, HB2.out⟩
    | false =>
    cases b with
    | true =>
      go_enter Try.func17, Try.ntmps17
      go_wp2_with fail
      refine (firstT_ w).mono ?_
      rintro e w1 ⟨rfl, hb⟩
      have HB1 := Aside0.mk hb
      clear hb
      go_wp2_with fail
      refine (firstT_ w1).mono ?_
      rintro e w2 ⟨rfl, hb⟩
      have HB2 := Aside0.mk (below_then HB1.out HB1.out.size hb)
      clear hb
      go_wp2
      go_ret
      exact ⟨rfl, HB2.out⟩
    | false =>
    cases c with
    | true =>
      go_enter Try.func17, Try.ntmps17
      go_wp2_with fail
      refine (firstT_ w).mono ?_
      rintro e w1 ⟨rfl, hb⟩
      have HB1 := Aside0.mk hb
      clear hb
      go_wp2_with fail
      refine (firstT_ w1).mono ?_
      rintro e w2 ⟨rfl, hb⟩
      have HB2 := Aside0.mk (below_then HB1.out HB1.out.size hb)
      clear hb
      go_wp2
      go_ret
      exact ⟨rfl, HB2.out⟩
    | false =>
    cases d with
    | true =>
      go_enter Try.func17, Try.ntmps17
      go_wp2_with fail
      refine (firstT_ w).mono ?_
      rintro e w1 ⟨rfl, hb⟩
      have HB1 := Aside0.mk hb
      clear hb
      go_wp2_with fail
      refine (firstT_ w1).mono ?_
      rintro e w2 ⟨rfl, hb⟩
      have HB2 := Aside0.mk (below_then HB1.out HB1.out.size hb)
      clear hb
      go_wp2
      go_ret
      exact ⟨rfl, HB2.out⟩
    | false => cases h
  exact key _ _ _ _ rfl rfl rfl rfl h
set_option maxHeartbeats 8000000 in
set_option maxRecDepth 100000 in
theorem full_in (n m : Nat) (w : World) (n1 : 1 ≤ n) (n2 : n ≤ 60) (m1 : 1 ≤ m) (m2 : m ≤ 60) :
    Calls Try.prog 17 #[.int .i64 (n : Int), .int .i64 (m : Int)] w fun e w' => e = .returned (.bool true) ∧ Below w.heap.size w w' := by
  have a1 : decide ((n : Int) < 1) = false := decide_eq_false (by omega)
  have a2 : decide ((n : Int) > 60) = false := decide_eq_false (by omega)
  have a3 : decide ((m : Int) < 1) = false := decide_eq_false (by omega)
  have a4 : decide ((m : Int) > 60) = false := decide_eq_false (by omega)
  have HN := Aside0.mk (And.intro n1 (And.intro n2 (And.intro m1 m2)))
  have HNew := Aside0.mk (fun W => NewT_ n (m : Int) W n1 (by omega) (by omega) (by omega))
  have hu38 := Try.underlying38
  clear n1 n2 m1 m2
  go_enter Try.func17, Try.ntmps17
  go_wp2_with fail
  refine (firstT_ w).mono ?_
  rintro e w1 ⟨rfl, hb⟩
  have HB1 := Aside0.mk hb
  clear hb
  go_wp2_with fail
  refine (HNew.out w1).mono ?_
  rintro e w2 ⟨rfl, hT, hb⟩
  have T2 := Aside0.mk (show IsTab w2 (w1.heap.size + 1) (fun k => w1.heap.size ≤ k) (F14 n m 0) (m : Int) 0 f0 by
    rw [show F14 n m 0 = List.replicate n zL by rw [TM_zero]; exact TM_congr (fun k _ => if_neg (by omega))]
    exact hT)
  have C2 := Aside0.mk hb
  clear hT hb HNew
  generalize w1.heap.size + 1 = B at T2 ⊢
  go_wp2_with fail
  go_loopg [7] n (fun gg v wr => ∃ i : Nat, i ≤ n ∧ n - i ≤ gg ∧ v = .int .i64 i ∧ Aside0 (IsTab wr B (fun k => w1.heap.size ≤ k) (F14 n m i) (m : Int) i f0) ∧ Aside0 (Below w1.heap.size w1 wr))
  case atStart => exact ⟨0, by omega, by omega, rfl, T2, C2⟩
  case round =>
    clear T2 C2
    obtain ⟨i, hi, hgg, rfl, HT, HC⟩ := hrel
    by_cases hlt : i < n
    · have t1 : (i : Int) < (n : Int) := by omega
      have W3 := Aside0.mk (show wrap64 ((i : Int) + 1) = ((i + 1 : Nat) : Int) by have := HN.out; unfold wrap64; omega)
      have tm : Int.tmod (i : Int) 3 = ((i % 3 : Nat) : Int) := by rw [Int.tmod_eq_emod_of_nonneg (by omega)]; omega
      have HA := Aside0.mk (AskT_0 HT.out HC.out (f14_small HN.out.2.1) (by have := HN.out; omega) ((i % 3 : Nat) : Int) (i : Int) 1 (ok64_of (by have := Nat.mod_lt i (show 3 > 0 by decide); unfold wrap64; omega)))
      by_cases hm : i < m
      · have c1 : decide (i < m) = true := decide_eq_true hm
        have c2 : decide (m ≤ i) = false := decide_eq_false (by omega)
        rw [f14_yes hlt hm] at HA
        generalize ((i % 3 : Nat) : Int) = u at tm HA
        clear hlt hm HT
        go_wp2_with fail
        refine HA.out.mono ?_
        rintro e w5 ⟨rfl, hT, hb⟩
        have HT5 := Aside0.mk hT
        have HC5 := Aside0.mk hb
        clear hT hb HA
        go_wp2
        go_roundg (n - (i + 1))
        case measure => omega
        case rel => exact ⟨i + 1, by omega, by omega, by rw [W3.out], HT5, HC5⟩
      · have c1 : decide (i < m) = false := decide_eq_false hm
        have c2 : decide (m ≤ i) = true := decide_eq_true (by omega)
        rw [f14_no hlt hm] at HA
        generalize ((i % 3 : Nat) : Int) = u at tm HA
        clear hlt hm HT
        go_wp2_with fail
        refine HA.out.mono ?_
        rintro e w5 ⟨rfl, hT, hb⟩
        have HT5 := Aside0.mk hT
        have HC5 := Aside0.mk hb
        clear hT hb HA
        go_wp2
        go_roundg (n - (i + 1))
        case measure => omega
        case rel => exact ⟨i + 1, by omega, by omega, by rw [W3.out], HT5, HC5⟩
    · obtain rfl : i = n := by omega
      have t1 : ¬ (i : Int) < (i : Int) := by omega
      have HA := Aside0.mk (AskT_0 HT.out HC.out (f14_small HN.out.2.1) (by have := HN.out; omega) 0 0 5 (by decide))
      rw [g14_ask HN.out.1 HN.out.2.2.1] at HA
      have hmin : min (i : Int) (m : Int) = ((min i m : Nat) : Int) := by omega
      clear hlt HT
      go_wp2_with fail
      refine HA.out.mono ?_
      rintro e w5 ⟨rfl, hT0, hb⟩
      have hT : IsTab w5 B (fun k => w1.heap.size ≤ k) (TM i (G14 i m)) (m : Int) (i + 1) f0 := hT0
      clear hT0
      have HT5 := Aside0.mk hT
      have HC5 := Aside0.mk hb
      have HH := Aside0.mk (HeldT_ hT (by rw [TM_len]; have := HN.out; omega) 0)
      clear hT hb HA HC
      go_wp2_with fail
      refine HH.out.mono ?_
      rintro e w6 ⟨A6, c6, rfl, -, -, hb⟩
      have HC6 := Aside0.mk (below_then HC5.out HC5.out.size hb)
      have HD := Aside0.mk (DropT_0 (HT5.out.below hb) HC6.out (by rw [TM_len]; have := HN.out; omega) (by rw [TM_len]; have := HN.out; omega) (TM_mS (m := 1) (fun k _ => g14_len1 k) (by decide)) 0 (by decide) (by rw [g14_out]; intro x hx; cases hx))
      clear hb HH HT5 HC5
      go_wp2_with fail
      refine HD.out.mono ?_
      rintro e w7 ⟨A7, c7, rfl, -, -, hT, hb⟩
      rw [TM_drop, h14_map] at hT
      have HC7 := Aside0.mk hb
      have HA := Aside0.mk (AskT_0 (hT.mono (F' := fun k => w1.heap.size ≤ k) (fun k _ hk => hk.1)) hb (TM_small (m := 1) (by have := HN.out; omega) (fun k _ => (g14_drop k).2.2) (by decide)) (by have := HN.out; omega) 7 0 3 (by decide))
      rw [show (TM i fun k => (dropS 0 (G14 i m k)).2) = TM i (H14 i m) from rfl, k14_ask HN.out.1 HN.out.2.2.1] at HA
      clear hT hb HD HC6
      go_wp2_with fail
      refine HA.out.mono ?_
      rintro e w8 ⟨rfl, hT, hb⟩
      have HT8 := Aside0.mk hT
      have HC8 := Aside0.mk hb
      clear hT hb HA HC7
      go_wp2_with fail
      refine (firstT_ w8).mono ?_
      rintro e w9 ⟨rfl, hb⟩
      have HT9 := Aside0.mk (HT8.out.below hb)
      have HC9 := Aside0.mk (below_then HC8.out HC8.out.size hb)
      have HSm := Aside0.mk (TM_small (n := i) (g := K14 i m) (m := 1) (by have := HN.out; omega) (fun k _ => k14_len1 k) (by decide))
      have HL := Aside0.mk (LenT_ HT9.out HSm.out)
      have HSum := Aside0.mk (k14_len HN.out.1 HN.out.2.2.1)
      clear hb HT8 HC8
      generalize lenT (TM i (K14 i m)) = len at HL HSum
      generalize (heldT (TM i (G14 i m)) 0).length = mine at HSum ⊢
      have e1 : wrap64 (((min i m : Nat) : Int) - (mine : Int)) = ((min i m : Nat) : Int) - (mine : Int) := by have h1 := HSum.out; have h2 := HN.out; unfold wrap64; omega
      have e2 : wrap64 (((min i m : Nat) : Int) - (mine : Int) + 1) = (len : Int) := by have h1 := HSum.out; have h2 := HN.out; unfold wrap64; omega
      have e3 : ((len : Int) == (len : Int)) = true := beq_self_eq_true _
      go_wp2_with fail
      refine HL.out.mono ?_
      rintro e w10 ⟨rfl, hb⟩
      have HT10 := Aside0.mk (HT9.out.below hb)
      have HC10 := Aside0.mk (below_then HC9.out HC9.out.size hb)
      have HE := Aside0.mk (EdgesT_ HT10.out HSm.out (by have := HN.out; omega) (fun x n h => by cases h))
      clear hb HL HT9 HC9
      go_wp2_with fail
      refine HE.out.mono ?_
      rintro e w11 ⟨l, hn, hl, A11, c11, rfl, -, -, hb⟩
      have h0 := edges_none (ls := TM i (K14 i m)) hl
      have HT11 := Aside0.mk (HT10.out.below hb)
      have HC11 := Aside0.mk (below_then HC10.out HC10.out.size hb)
      have HH := Aside0.mk (HoldsT_ HT11.out 0 0)
      rw [k14_holds HN.out.1] at HH
      rw [h0]
      clear hb HE hn hl h0 HT10 HC10
      go_wp2_with fail
      refine HH.out.mono ?_
      rintro e w12 ⟨rfl, hb⟩
      have HC12 := Aside0.mk (below_then HB1.out HB1.out.size (below_then HC11.out HC11.out.size hb))
      clear hb HH
      go_wp2
      go_ret
      exact ⟨rfl, HC12.out⟩
theorem full_walk (nodes most : Int) (w : World) :
    Calls Try.prog 17 #[.int .i64 nodes, .int .i64 most] w fun e w' => e = .returned (.bool true) ∧ Below w.heap.size w w' := by
  by_cases h : (decide (nodes < 1) || decide (nodes > 60) || decide (most < 1) || decide (most > 60)) = true
  · exact full_bad nodes most w h
  · simp only [Bool.or_eq_true, decide_eq_true_eq] at h
    have := full_in nodes.toNat most.toNat w (by omega) (by omega) (by omega) (by omega)
    rwa [show ((nodes.toNat : Nat) : Int) = nodes by omega, show ((most.toNat : Nat) : Int) = most by omega] at this
end Go.Proofs.Ytagdgkimjgomlaa.Ln
