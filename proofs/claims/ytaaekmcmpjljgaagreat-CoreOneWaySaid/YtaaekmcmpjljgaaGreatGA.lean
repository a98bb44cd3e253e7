import Derived.Test.YtaaekmcmpjljgaaGreatLC
import Derived.Test.YtaaekmcmpjljgaaGreatTb8
import Derived.Test.YtaaekmcmpjljgaaGreatLA
import Derived.Deep.RegionLaw
import Derived.BigQuiet
import Derived.Maps.OwnSet
namespace Go.Proofs.YtaaekmcmpjljgaaGreat.Ln
open Go.RowKit Go.Proofs.YtaaekmcmpjljgaaGreatW.PrintWords Go.Proofs.YtaaekmcmpjljgaaGreatW.PrintLast Go.Proofs.YtaaekmcmpjljgaaGreatW.PrintMore Go.Proofs.YtaaekmcmpjljgaaGreat.PMd
set_option linter.unusedVariables false
set_option linter.unusedSimpArgs false
def insI (l : List Int) (x : Int) : List Int := if x ∈ l then l else (l.filter fun y => decide (y < x)) ++ x :: l.filter fun y => decide (x < y)
def sortR (l : List Int) : List Int := l.foldl insI []
def Ris (l : List Int) : Prop := l.Pairwise (· < ·)
theorem insI_mem (l : List Int) (x y : Int) : y ∈ insI l x ↔ y ∈ l ∨ y = x := by
  unfold insI
  split
  · rename_i h
    exact ⟨.inl, fun h2 => h2.elim id (fun e => e ▸ h)⟩
  · simp only [List.mem_append, List.mem_filter, List.mem_cons, decide_eq_true_eq]
    constructor
    · rintro (⟨h, _⟩ | rfl | ⟨h, _⟩)
      · exact .inl h
      · exact .inr rfl
      · exact .inl h
    · rintro (h | rfl)
      · rename_i hx
        rcases Int.lt_trichotomy y x with h3 | h3 | h3
        · exact .inl ⟨h, h3⟩
        · exact absurd (h3 ▸ h) hx
        · exact .inr (.inr ⟨h, h3⟩)
      · exact .inr (.inl rfl)
theorem insI_ris {l : List Int} (h : Ris l) (x : Int) : Ris (insI l x) := by
  unfold insI
  split
  · exact h
  · refine List.pairwise_append.2 ⟨List.Pairwise.filter _ h, List.pairwise_cons.2 ⟨fun y hy => ?_, List.Pairwise.filter _ h⟩, fun a ha b hb => ?_⟩
    · have := (List.mem_filter.1 hy).2; simpa using this
    · have h1 : a < x := by have := (List.mem_filter.1 ha).2; simpa using this
      rcases List.mem_cons.1 hb with rfl | hb
      · exact h1
      · have h2 : x < b := by have := (List.mem_filter.1 hb).2; simpa using this
        omega
theorem sortR_go : ∀ (l a : List Int), Ris a → Ris (l.foldl insI a) ∧ ∀ y, y ∈ l.foldl insI a ↔ y ∈ a ∨ y ∈ l
  | [], a, h => ⟨h, fun y => by simp⟩
  | x :: l, a, h => by
    obtain ⟨h1, h2⟩ := sortR_go l (insI a x) (insI_ris h x)
    refine ⟨h1, fun y => ?_⟩
    rw [List.foldl_cons, h2 y, insI_mem]
    simp only [List.mem_cons, or_assoc]
theorem ris_unique {l k : List Int} (h1 : Ris l) (h2 : Ris k) (h : ∀ y, y ∈ l ↔ y ∈ k) : l = k := by
  have n1 : l.Nodup := h1.imp (fun h => by omega)
  have n2 : k.Nodup := h2.imp (fun h => by omega)
  have hp : l.Perm k := (List.perm_ext_iff_of_nodup n1 n2).2 h
  exact List.Perm.eq_of_pairwise (le := fun a b : Int => a < b) (fun a b _ _ h1 h2 => by omega) h1 h2 hp
theorem sortR_is {l k : List Int} (hk : Ris k) (h : ∀ y, y ∈ k ↔ y ∈ l) : sortR l = k := by
  obtain ⟨h1, h2⟩ := sortR_go l [] List.Pairwise.nil
  exact ris_unique h1 hk (fun y => by rw [show sortR l = l.foldl insI [] from rfl, h2 y, h y]; simp)
theorem insI_len (l : List Int) (x : Int) : (insI l x).length ≤ l.length + 1 := by
  unfold insI
  split
  · omega
  · simp only [List.length_append, List.length_cons]
    have h : ∀ m : List Int, (m.filter fun y => decide (y < x)).length + (m.filter fun y => decide (x < y)).length ≤ m.length := by
      intro m
      induction m with
      | nil => simp
      | cons y m ih =>
        rw [List.filter_cons, List.filter_cons, List.length_cons]
        by_cases h1 : y < x
        · rw [if_pos (by simpa using h1), if_neg (by simp; omega), List.length_cons]; omega
        · rw [if_neg (by simpa using h1)]
          split <;> (try simp) <;> omega
    have := h l
    omega
theorem foldl_insI_len : ∀ (l a : List Int), (l.foldl insI a).length ≤ a.length + l.length
  | [], a => by simp
  | x :: l, a => by have h1 := foldl_insI_len l (insI a x); have h2 := insI_len a x; simp only [List.foldl_cons, List.length_cons]; omega
theorem sortR_len (l : List Int) : (sortR l).length ≤ l.length := by have := foldl_insI_len l []; simpa [sortR] using this
theorem sortR_ris (l : List Int) : Ris (sortR l) := (sortR_go l [] List.Pairwise.nil).1
theorem compact_ris {zs : List Int} (h : zs.Pairwise (· ≤ ·)) : Ris (Lib.compact zs) := by
  unfold Lib.compact Lib.compactUpTo Ris
  rw [List.pairwise_map]
  refine List.Pairwise.imp_of_mem (R := fun a b => a < b) (fun {a b} ha hb hab => ?_) (List.Pairwise.filter _ List.pairwise_lt_range)
  have hb1 := List.mem_filter.1 hb
  have hbl : b < zs.length := by simpa using List.mem_range.1 hb1.1
  have hkeep := hb1.2
  have hne : zs.toArray[b]! ≠ zs.toArray[b - 1]! := by
    unfold Lib.keeps at hkeep
    rcases of_decide_eq_true hkeep with h0 | h0
    · omega
    · exact h0
  have hab2 := List.pairwise_iff_getElem.1 h
  simp only [List.getElem!_toArray, getElem!_pos zs b hbl, getElem!_pos zs (b - 1) (by omega), getElem!_pos zs a (by omega)] at hne ⊢
  have h1 : zs[b - 1] ≤ zs[b] := hab2 (b - 1) b (by omega) hbl (by omega)
  have h2 : zs[a] ≤ zs[b - 1] := by
    by_cases e : a = b - 1
    · subst e; exact Int.le_refl _
    · exact hab2 a (b - 1) (by omega) (by omega) (by omega)
  omega
theorem sortR_compact (l : List Int) : sortR l = Lib.compact (sortedI l) := by
  refine sortR_is (compact_ris ?_) (fun y => ?_)
  · have := List.pairwise_mergeSort (le := fun x y : Int => decide (x ≤ y)) (fun a b c h1 h2 => by simp at h1 h2 ⊢; omega) (fun a b => by simp; omega) l
    exact this.imp (fun h => by simpa using h)
  · rw [compact_mem]; unfold sortedI; rw [List.mem_mergeSort]
end Go.Proofs.YtaaekmcmpjljgaaGreat.Ln
namespace Go.Proofs.YtaaekmcmpjljgaaGreat.Gr
open Go.RowKit Go.Proofs.YtaaekmcmpjljgaaGreatW.PrintWords Go.Proofs.YtaaekmcmpjljgaaGreatW.PrintLast Go.Proofs.YtaaekmcmpjljgaaGreatW.PrintMore Go.Proofs.YtaaekmcmpjljgaaGreat.PMd Go.Proofs.YtaaekmcmpjljgaaGreat.Ln
set_option linter.unusedVariables false
set_option linter.unusedSimpArgs false
abbrev Ed := Int × Int
theorem flatP_cons (x : Ed) (l : List Ed) : flatP (x :: l) = .int .i64 x.1 :: .int .i64 x.2 :: flatP l := rfl
theorem flatP_get {l : List Ed} {i : Nat} (h : i < l.length) : (flatP l)[i * 2]? = some (.int .i64 (l.getD i (0, 0)).1) ∧ (flatP l)[i * 2 + 1]? = some (.int .i64 (l.getD i (0, 0)).2) := by
  induction l generalizing i with
  | nil => simp at h
  | cons x l ih =>
    rw [flatP_cons]
    cases i with
    | zero => exact ⟨rfl, rfl⟩
    | succ i =>
      obtain ⟨h1, h2⟩ := ih (i := i) (by simpa using h)
      rw [show (i + 1) * 2 = i * 2 + 1 + 1 by omega]
      simpa using ⟨h1, h2⟩
theorem flatP_one (l : List Ed) : ∀ u ∈ flatP l, u.oneCell' = true := by
  induction l with
  | nil => intro u hu; simp [flatP] at hu
  | cons x l ih =>
    rw [flatP_cons]
    intro u hu
    rcases List.mem_cons.1 hu with rfl | hu
    · rfl
    · rcases List.mem_cons.1 hu with rfl | hu
      · rfl
      · exact ih u hu
abbrev RowE (w : World) (A : Option Addr) (c : Nat) (l : List Ed) : Prop := Row w 87 2 A l.length c (flatP l)
theorem RowE.at_ {w : World} {A : Option Addr} {c : Nat} {l : List Ed} (h : RowE w A c l) {i : Nat} (hi : i < l.length) : ∃ g off, A = some ⟨g, off, none⟩ ∧ w.cell? ⟨g, off + i * 2, none⟩ = some (.int .i64 (l.getD i (0, 0)).1) ∧ w.cell? ⟨g, off + i * 2 + 1, none⟩ = some (.int .i64 (l.getD i (0, 0)).2) := by
  obtain ⟨g, off, cur, rfl, _, _, hc⟩ := Row.at_ h (by omega)
  obtain ⟨h1, h2⟩ := flatP_get hi
  exact ⟨g, off, rfl, (hc _ _ h1).1, (hc _ _ h2).1⟩
theorem RowE.len {w : World} {A : Option Addr} {c : Nat} {l : List Ed} (h : RowE w A c l) : l.length ≤ 9223372036854775807 := by have h1 := h.2.1; have h2 := h.2.2.1; unfold maxLen at h2; omega
def allE (l : List Ed) : List Int := l.flatMap fun x => [x.1, x.2]
def nodesE (l : List Ed) : List Int := sortR (allE l)
def goE (n : Int) (l : List Ed) : List Int := (l.filter fun x => x.1 == n).map (·.2)
def nextE (n : Int) (l : List Ed) : List Int := sortR (goE n l)
theorem allE_len (l : List Ed) : (allE l).length = l.length * 2 := by
  induction l with
  | nil => rfl
  | cons x l ih => show (allE l).length + 2 = _; rw [ih, List.length_cons]; omega
theorem allE_succ {l : List Ed} {i : Nat} (h : i < l.length) : allE (l.take (i + 1)) = allE (l.take i) ++ [(l.getD i (0, 0)).1, (l.getD i (0, 0)).2] := by
  have e : l[i]? = some (l.getD i (0, 0)) := by rw [List.getD_eq_getElem?_getD, List.getElem?_eq_getElem h]; rfl
  rw [List.take_add_one, e]
  unfold allE
  rw [List.flatMap_append]; rfl
theorem goE_succ {l : List Ed} {i : Nat} (n : Int) (h : i < l.length) : goE n (l.take (i + 1)) = goE n (l.take i) ++ (if ((l.getD i (0, 0)).1 == n) = true then [(l.getD i (0, 0)).2] else []) := by
  have e : l[i]? = some (l.getD i (0, 0)) := by rw [List.getD_eq_getElem?_getD, List.getElem?_eq_getElem h]; rfl
  rw [List.take_add_one, e]
  generalize l.getD i (0, 0) = p
  unfold goE
  rw [List.filter_append, List.map_append]
  congr 1
  cases hb : (p.1 == n) <;> simp_all
theorem goE_len (n : Int) (l : List Ed) : (goE n l).length ≤ l.length := by unfold goE; rw [List.length_map]; exact List.length_filter_le _ _
theorem ints_two (l : List Int) (x y : Int) : ints l ++ [.int .i64 x, .int .i64 y] = ints (l ++ [x, y]) := by simp [ints]
theorem ints_snoc (l : List Int) (x : Int) : ints l ++ [.int .i64 x] = ints (l ++ [x]) := by simp [ints]
theorem set_ (A : Option Addr) (c : Nat) (l : List Int) (w : World) (hR : Row w 3 1 A l.length c (ints l)) (hl : l.length ≤ 1000000) :
    Calls Tryz.prog 115 #[.slice A l.length c] w fun e w' => e = .returned (.slice A (sortR l).length c) ∧ Row w' 3 1 A (sortR l).length c (ints (sortR l)) ∧ Grew (blk A) w w' := by
  have hso : (sortedI l).length = l.length := by unfold sortedI; exact List.length_mergeSort ..
  have HS := Aside0.mk (Sort_ A c l w hR hl)
  have HC := Aside0.mk (fun w2 (hR2 : Row w2 3 1 A (sortedI l).length c (ints (sortedI l))) => Compact_ A c (sortedI l) w2 hR2 (by rw [hso]; exact hl))
  rw [← sortR_compact, hso] at HC
  clear hR hl hso
  go_enter Tryz.func115, Tryz.ntmps115
  go_wp2_with fail
  refine HS.out.mono ?_
  rintro e w2 ⟨rfl, h2, g2⟩
  have H2 := Aside0.mk h2
  have G2 := Aside0.mk g2
  clear h2 g2
  go_wp2_with fail
  refine (HC.out w2 H2.out).mono ?_
  rintro e w3 ⟨rfl, h3, g3⟩
  have H3 := Aside0.mk h3
  have G3 := Aside0.mk g3
  clear h3 g3
  go_wp2
  go_ret
  exact ⟨rfl, H3.out, G2.out.trans G3.out (fun k h => .inl h)⟩
set_option maxHeartbeats 8000000 in
set_option maxRecDepth 100000 in
theorem Nodes_ (A : Option Addr) (c : Nat) (l : List Ed) (w : World) (hR : RowE w A c l) (hl : l.length ≤ 400000) :
    Calls Tryz.prog 96 #[.slice A l.length c] w (BlPost w (nodesE l)) := by
  have hu := Tryz.underlying87
  have HR := Aside0.mk hR
  have HL := Aside0.mk hl
  have hm := hR.len
  clear hR hl
  go_enter Tryz.func96, Tryz.ntmps96
  go_wp2_with fail
  go_loopg [3, 8] l.length (fun gg v3 v8 wr => ∃ i : Nat, i ≤ l.length ∧ l.length - i ≤ gg ∧ v8 = .int .i64 i ∧ Aside0 (Out1 w (allE (l.take i)) v3 wr))
  case atStart => exact ⟨0, by omega, by omega, rfl, ⟨none, 0, rfl, Row.zero _ _ _, fun k h => (blk_none h).elim, Below.refl _ _⟩⟩
  case round =>
    obtain ⟨i, hi, hgg, rfl, HO⟩ := hrel
    obtain ⟨A3, c3, rfl, hR3, hk3, hb3⟩ := HO.out
    by_cases hlt : i < l.length
    · obtain ⟨g, off, hA, q0, q1⟩ := RowE.at_ (HR.out.below hb3) hlt
      subst hA
      have p1 : 0 ≤ (i : Int) := by omega
      have p2 : (i : Int) < l.length := by omega
      have HS := Aside0.mk (allE_succ hlt)
      have HJ := Aside0.mk (And.intro hlt hgg)
      have W3 := Aside0.mk (show wrap64 ((i : Int) + 1) = ((i + 1 : Nat) : Int) by have := HL.out; unfold wrap64; omega)
      have HOL := Aside0.mk (show (allE (l.take i)).length ≤ 800000 by rw [allE_len, List.length_take]; have := HL.out; omega)
      generalize allE (l.take i) = O at hR3 HO HS HOL ⊢
      generalize (l.getD i (0, 0)).1 = x at q0 HS
      generalize (l.getD i (0, 0)).2 = y at q1 HS
      have HK3 := Aside0.mk hk3
      have HB3 := Aside0.mk hb3
      obtain ⟨w1, hw1⟩ : ∃ W, W = wr.alloc (.cells #[.int .i64 x, .int .i64 y] 87) := ⟨_, rfl⟩
      have HB4 := Aside0.mk (show Below w.heap.size w (w1.alloc (.cells #[.int .i64 x, .int .i64 y] 3)) from by rw [hw1]; exact below_alloc (below_alloc hb3 _) _)
      have HR4 := Aside0.mk (show Row (w1.alloc (.cells #[.int .i64 x, .int .i64 y] 3)) 3 1 A3 O.length c3 (ints O) from by rw [hw1]; exact (hR3.alloc _).alloc _)
      have HBS := Aside0.mk (blk_new w1 (.cells #[.int .i64 x, .int .i64 y] 3))
      rw [show w1.heap.size = wr.heap.size + 1 from by rw [hw1]; simp] at HBS
      rw [hw1] at HB4 HR4 HBS
      have HSZ := Aside0.mk (show wr.heap.size + 1 + 1 = ((wr.alloc (.cells #[.int .i64 x, .int .i64 y] 87)).alloc (.cells #[.int .i64 x, .int .i64 y] 3)).heap.size by simp)
      clear hR3 hk3 hb3 hlt hgg hi hw1 w1
      go_wp2_with (at_builtin; refine wpList_append_info rfl _ _ 29 rfl 3 _ 1 8 Tryz.underlying29 info3 rfl A3 O.length c3 (ints O) (by simp [Act.eval, Act.put]) HR4.out ⟨wr.heap.size + 1, 0, none⟩ 2 2 [.int .i64 x, .int .i64 y] (by simp [Act.eval, Act.put]) rfl (two_at HBS.out) (two_one x y) (by have := HOL.out; unfold maxLen; omega) (by have := HOL.out; omega) ?_)
      intro A6 c6 w6 hR6 hG6 hk6
      have HO6 := Aside0.mk (show Out1 w (O ++ [x, y]) (.slice A6 (O.length + 2) c6) w6 from ⟨A6, c6, by simp, by rw [← ints_two]; simpa using hR6, fun k h => (hk6 k h).elim (HK3.out k) (fun h2 => Nat.le_trans HB4.out.size (by rw [← HSZ.out]; simpa using h2)), hG6.to_below HB4.out HB4.out.size HK3.out⟩)
      clear hR6 hG6 hk6
      go_wp2
      go_roundg (l.length - (i + 1))
      case measure => have := HJ.out; omega
      case rel => exact ⟨i + 1, by have := HJ.out; omega, by have := HJ.out; omega, by first | rw [W3.out] | simp, ⟨by rw [HS.out]; exact HO6.out⟩⟩
    · obtain rfl : i = l.length := by omega
      rw [List.take_length] at hR3
      rw [List.take_length]
      have HS := Aside0.mk (set_ A3 c3 (allE l) wr hR3 (by rw [allE_len]; have := HL.out; omega))
      have HK3 := Aside0.mk hk3
      have HB3 := Aside0.mk hb3
      have t1 : ¬ ((l.length : Int) < (l.length : Int)) := by omega
      have HD := Aside0.mk (show nodesE l = sortR (allE l) from rfl)
      generalize allE l = O at HS HD hR3
      clear hR3 hk3 hb3 hgg hi HO hlt
      go_wp2_with fail
      refine HS.out.mono ?_
      rintro e w5 ⟨rfl, h5, g5⟩
      have H5 := Aside0.mk h5
      have B5 := Aside0.mk (g5.to_below HB3.out HB3.out.size HK3.out)
      clear h5 g5
      go_wp2
      go_ret
      rw [HD.out]
      exact ⟨A3, c3, rfl, H5.out, HK3.out, B5.out⟩
set_option maxHeartbeats 8000000 in
set_option maxRecDepth 100000 in
theorem Next_ (n : Int) (A : Option Addr) (c : Nat) (l : List Ed) (w : World) (hR : RowE w A c l) (hl : l.length ≤ 400000) :
    Calls Tryz.prog 117 #[.int .i64 n, .slice A l.length c] w (BlPost w (nextE n l)) := by
  have hu := Tryz.underlying87
  have HR := Aside0.mk hR
  have HL := Aside0.mk hl
  have hm := hR.len
  clear hR hl
  go_enter Tryz.func117, Tryz.ntmps117
  go_wp2_with fail
  go_loopg [5, 10] l.length (fun gg v3 v8 wr => ∃ i : Nat, i ≤ l.length ∧ l.length - i ≤ gg ∧ v8 = .int .i64 i ∧ Aside0 (Out1 w (goE n (l.take i)) v3 wr))
  case atStart => exact ⟨0, by omega, by omega, rfl, ⟨none, 0, rfl, Row.zero _ _ _, fun k h => (blk_none h).elim, Below.refl _ _⟩⟩
  case round =>
    obtain ⟨i, hi, hgg, rfl, HO⟩ := hrel
    obtain ⟨A3, c3, rfl, hR3, hk3, hb3⟩ := HO.out
    by_cases hlt : i < l.length
    · obtain ⟨g, off, hA, q0, q1⟩ := RowE.at_ (HR.out.below hb3) hlt
      subst hA
      have p1 : 0 ≤ (i : Int) := by omega
      have p2 : (i : Int) < l.length := by omega
      have HS := Aside0.mk (goE_succ n hlt)
      have HJ := Aside0.mk (And.intro hlt hgg)
      have W3 := Aside0.mk (show wrap64 ((i : Int) + 1) = ((i + 1 : Nat) : Int) by have := HL.out; unfold wrap64; omega)
      have HOL := Aside0.mk (show (goE n (l.take i)).length ≤ 400000 by have := goE_len n (l.take i); rw [List.length_take] at this; have := HL.out; omega)
      generalize goE n (l.take i) = O at hR3 HO HS HOL ⊢
      generalize (l.getD i (0, 0)).1 = x at q0 HS
      generalize (l.getD i (0, 0)).2 = y at q1 HS
      have HK3 := Aside0.mk hk3
      have HB3 := Aside0.mk hb3
      have HBa := Aside0.mk (below_alloc hb3 (.cells #[.int .i64 x, .int .i64 y] 87))
      have HRa := Aside0.mk (hR3.alloc (.cells #[.int .i64 x, .int .i64 y] 87))
      by_cases hx : x = n
      · have hb : (x == n) = true := by simpa using hx
        have HS2 := Aside0.mk (show goE n (l.take (i + 1)) = O ++ [y] by rw [HS.out, if_pos hb])
        obtain ⟨w1, hw1⟩ : ∃ W, W = wr.alloc (.cells #[.int .i64 x, .int .i64 y] 87) := ⟨_, rfl⟩
        have HB4 := Aside0.mk (show Below w.heap.size w (w1.alloc (.cells #[.int .i64 y] 3)) from by rw [hw1]; exact below_alloc (below_alloc hb3 _) _)
        have HR4 := Aside0.mk (show Row (w1.alloc (.cells #[.int .i64 y] 3)) 3 1 A3 O.length c3 (ints O) from by rw [hw1]; exact (hR3.alloc _).alloc _)
        have HBS := Aside0.mk (blk_new w1 (.cells #[.int .i64 y] 3))
        rw [show w1.heap.size = wr.heap.size + 1 from by rw [hw1]; simp] at HBS
        rw [hw1] at HB4 HR4 HBS
        have HSZ := Aside0.mk (show wr.heap.size + 1 + 1 = ((wr.alloc (.cells #[.int .i64 x, .int .i64 y] 87)).alloc (.cells #[.int .i64 y] 3)).heap.size by simp)
        clear hR3 hk3 hb3 hlt hgg hi hw1 w1 hx
        go_wp2_with (at_builtin; refine wpList_append_info rfl _ _ 29 rfl 3 _ 1 8 Tryz.underlying29 info3 rfl A3 O.length c3 (ints O) (by simp [Act.eval, Act.put]) HR4.out ⟨wr.heap.size + 1, 0, none⟩ 1 1 [.int .i64 y] (by simp [Act.eval, Act.put]) rfl (Ln.one_at HBS.out) (Ln.one_one y) (by have := HOL.out; unfold maxLen; omega) (by have := HOL.out; omega) ?_)
        intro A6 c6 w6 hR6 hG6 hk6
        have HO6 := Aside0.mk (show Out1 w (O ++ [y]) (.slice A6 (O.length + 1) c6) w6 from ⟨A6, c6, by simp, by rw [← ints_snoc]; simpa using hR6, fun k h => (hk6 k h).elim (HK3.out k) (fun h2 => Nat.le_trans HB4.out.size (by rw [← HSZ.out]; simpa using h2)), hG6.to_below HB4.out HB4.out.size HK3.out⟩)
        clear hR6 hG6 hk6
        go_wp2
        go_roundg (l.length - (i + 1))
        case measure => have := HJ.out; omega
        case rel => exact ⟨i + 1, by have := HJ.out; omega, by have := HJ.out; omega, by first | rw [W3.out] | simp, ⟨by rw [HS2.out]; exact HO6.out⟩⟩
      · have hb : (x == n) = false := by simpa using hx
        have HS2 := Aside0.mk (show goE n (l.take (i + 1)) = O by rw [HS.out, hb]; simp)
        clear hR3 hk3 hb3 hlt hgg hi hx
        go_wp2_with fail
        go_roundg (l.length - (i + 1))
        case measure => have := HJ.out; omega
        case rel => exact ⟨i + 1, by have := HJ.out; omega, by have := HJ.out; omega, by first | rw [W3.out] | simp, ⟨by rw [HS2.out]; exact ⟨A3, c3, rfl, HRa.out, HK3.out, HBa.out⟩⟩⟩
    · obtain rfl : i = l.length := by omega
      rw [List.take_length] at hR3
      rw [List.take_length]
      have HS := Aside0.mk (set_ A3 c3 (goE n l) wr hR3 (by have := goE_len n l; have := HL.out; omega))
      have HK3 := Aside0.mk hk3
      have HB3 := Aside0.mk hb3
      have t1 : ¬ ((l.length : Int) < (l.length : Int)) := by omega
      have HD := Aside0.mk (show nextE n l = sortR (goE n l) from rfl)
      generalize goE n l = O at HS HD hR3
      clear hR3 hk3 hb3 hgg hi HO hlt
      go_wp2_with fail
      refine HS.out.mono ?_
      rintro e w5 ⟨rfl, h5, g5⟩
      have H5 := Aside0.mk h5
      have B5 := Aside0.mk (g5.to_below HB3.out HB3.out.size HK3.out)
      clear h5 g5
      go_wp2
      go_ret
      rw [HD.out]
      exact ⟨A3, c3, rfl, H5.out, HK3.out, B5.out⟩
end Go.Proofs.YtaaekmcmpjljgaaGreat.Gr
namespace Go.Proofs.YtaaekmcmpjljgaaGreat.Ln
open Go.RowKit Go.Proofs.YtaaekmcmpjljgaaGreatW.PrintWords Go.Proofs.YtaaekmcmpjljgaaGreatW.PrintWords.Kd Go.Proofs.YtaaekmcmpjljgaaGreatW.PrintLast Go.Proofs.YtaaekmcmpjljgaaGreatW.PrintMore Go.Proofs.YtaaekmcmpjljgaaGreat.PMd
set_option linter.unusedVariables false
set_option linter.unusedSimpArgs false
theorem run_append_none {P : Program} (w : World) (t ty e : TypeId) (i : TypeInfo) (z : Value) (ht : P.underlying t = some (.slice e)) (hi : P.info? e = some i) (hz : i.zero = some z)
    (A : Option Addr) (n cap c : Nat) (xs : List Value) (hR : Row w e i.size A n cap xs) :
    (Builtin.append_ #[t, t] ty #[.slice A n cap, .slice none 0 c]).run P w = .ok (.slice A n cap) w := by
  have hn : n ≤ cap := hR.2.1
  rcases hR.2.2.2 with ⟨rfl, rfl⟩ | ⟨g, off, cur, rfl, hg, hcs, htake⟩
  · obtain rfl : n = 0 := by omega
    simp [Builtin.append_, run_underlying ht, sizeOf, typeInfo, hi, Builtin.lenOf, Builtin.firstCells]
  · simp [Builtin.append_, run_underlying ht, sizeOf, typeInfo, hi, Builtin.lenOf, Builtin.firstCells, hn, storeCells]
theorem run_append_rows {P : Program} (w : World) (t ty e : TypeId) (z : Value) (size bytes : Nat) (ht : P.underlying t = some (.slice e)) (hinfo : (P.info? e).map (fun i => (i.zero, i.size, i.bytes)) = some (some z, size, bytes))
    (hzs : z.cells.size = size) (A : Option Addr) (n cap : Nat) (xs : List Value) (hR : Row w e size A n cap xs)
    (B : Option Addr) (m c : Nat) (news : List Value) (hN : Row w e size B m c news) (h1 : ∀ u ∈ news, u.oneCell' = true) (h63 : n + m ≤ maxLen) (hbytes : (n + m) * bytes ≤ 140737488355328) :
    ∃ A' cap' w', (Builtin.append_ #[t, t] ty #[.slice A n cap, .slice B m c]).run P w = .ok (.slice A' (n + m) cap') w' ∧ Row w' e size A' (n + m) cap' (xs ++ news) ∧ Grew (blk A) w w' ∧ (∀ k, blk A' k → blk A k ∨ w.heap.size ≤ k) := by
  cases hi : P.info? e with
  | none => rw [hi] at hinfo; cases hinfo
  | some i =>
    rw [hi] at hinfo
    obtain ⟨hz, hs1, hb1⟩ : i.zero = some z ∧ i.size = size ∧ i.bytes = bytes := by simpa using hinfo
    rcases hN.2.2.2 with ⟨rfl, rfl⟩ | ⟨g, off, cur, rfl, hg, hcs, htake⟩
    · obtain rfl : m = 0 := by have := hN.2.1; omega
      obtain rfl : news = [] := List.eq_nil_of_length_eq_zero (by simpa using hN.1)
      refine ⟨A, cap, w, ?_, by simpa using hR, Grew.refl _ _, fun k hk => .inl hk⟩
      subst hs1
      exact run_append_none w t ty e i z ht hi hz A n cap 0 xs hR
    · refine run_append_row (P := P) w t ty e i z size bytes ht hi hz hs1 hb1 hzs A n cap xs hR ⟨g, off, none⟩ m c news hN.1 (fun j u hu => ?_) h1 h63 hbytes
      by_cases hm : 0 < m
      · obtain ⟨g', off', cur', h2, _, _, h3⟩ := hN.at_ hm
        cases h2
        rw [Addr.add_lit]
        exact (h3 j u hu).1
      · have h0 : news = [] := List.eq_nil_of_length_eq_zero (by rw [hN.1, show m = 0 by omega, Nat.zero_mul])
        subst h0
        simp at hu
theorem wpList_append_rows {P : Program} {w : World} {ops : Array Oper} {rest : List Oper} {o : Oper} {a : Act} {Q : Exit → Act → World → Prop} (hgd : o.guard = none) (s x : Operand) (t : TypeId)
    (ho : o.op = .call { callee := .builtin .append, args := #[s, x], argTypes := #[t, t] })
    (e : TypeId) (z : Value) (size bytes : Nat) (ht : P.underlying t = some (.slice e)) (hinfo : (P.info? e).map (fun i => (i.zero, i.size, i.bytes)) = some (some z, size, bytes))
    (hzs : z.cells.size = size) (A : Option Addr) (n cap : Nat) (xs : List Value) (hs : a.eval s = .slice A n cap) (hR : Row w e size A n cap xs)
    (B : Option Addr) (m c : Nat) (news : List Value) (hx : a.eval x = .slice B m c) (hN : Row w e size B m c news) (h1 : ∀ u ∈ news, u.oneCell' = true)
    (h63 : n + m ≤ maxLen) (hbytes : (n + m) * bytes ≤ 140737488355328)
    (h : ∀ A' cap' w', Row w' e size A' (n + m) cap' (xs ++ news) → Grew (blk A) w w' → (∀ k, blk A' k → blk A k ∨ w.heap.size ≤ k) → wpList P ops Q rest (a.put o.dst (.slice A' (n + m) cap')) w') : wpList P ops Q (o :: rest) a w := by
  refine wpList_plain hgd fun K hK => ?_
  obtain ⟨A', cap', w', hr, h2, h3, h4⟩ := run_append_rows (P := P) w t o.type e z size bytes ht hinfo hzs A n cap xs hR B m c news hN h1 h63 hbytes
  unfold Oper.wp execOp
  simp only [ho, resolve, invoke, builtin, Sem.run_bind, Sem.run_pure, Result.andThen_ok, List.map_toArray, List.map_cons, List.map_nil, hs, hx, hr]
  exact hK _ _ (h A' cap' w' h2 h3 h4)
end Go.Proofs.YtaaekmcmpjljgaaGreat.Ln
namespace Go.Proofs.YtaaekmcmpjljgaaGreat.Gr
open Go.RowKit Go.Proofs.YtaaekmcmpjljgaaGreatW.PrintWords Go.Proofs.YtaaekmcmpjljgaaGreatW.PrintWords.Kd Go.Proofs.YtaaekmcmpjljgaaGreatW.PrintLast Go.Proofs.YtaaekmcmpjljgaaGreatW.PrintMore Go.Proofs.YtaaekmcmpjljgaaGreat.PMd Go.Proofs.YtaaekmcmpjljgaaGreat.Ln
open Go.Sort (grow)
set_option linter.unusedVariables false
set_option linter.unusedSimpArgs false
theorem rd_at0 (l : List Int) (i : Nat) (h : i < l.length) : rd l (i : Int) = l[i] := by simp [rd, List.getElem?_eq_getElem h]
def Found (p : Prop) (w w' : World) (e : Ending) : Prop := ∃ r : Int, e = .returned (.int .i64 r) ∧ (0 ≤ r ↔ p) ∧ w' = w
set_option maxHeartbeats 8000000 in
set_option maxRecDepth 100000 in
theorem indexI_ (A : Option Addr) (c : Nat) (l : List Int) (v : Int) (w : World) (hC : (Kd.int .i64).C w A l.length l) :
    Calls Tryz.prog 118 #[.slice A l.length c, .int .i64 v] w fun e w' => Found (v ∈ l) w w' e := by
  have HC := Aside0.mk hC
  have hm := hC.2.1
  clear hC
  go_enter Tryz.func118, Tryz.ntmps118
  go_wp2_with fail
  go_loop [8] (fun u => ∃ k : Nat, k ≤ l.length ∧ u = .int .i64 k ∧ Aside0 (∀ i (h : i < l.length), i < k → l[i] ≠ v)) (fun u => l.length - (intOf u).toNat)
  case atStart => exact ⟨0, by omega, rfl, ⟨fun i _ hi => by omega⟩⟩
  case round =>
    obtain ⟨k, hk, rfl, HT⟩ := hrel
    by_cases hlt : k < l.length
    · obtain ⟨ad, e4, q0⟩ := Kd.at_int HC.out (k : Int) (by omega) (by omega)
      cases e4
      have p1 : 0 ≤ (k : Int) := by omega
      have p2 : (k : Int) < l.length := by omega
      simp only [Int.toNat_natCast] at q0
      rw [rd_at0 l k hlt] at q0
      by_cases hq : v = l[k]
      · have hb : (v == l[k]) = true := beq_iff_eq.2 hq
        have HF := Aside0.mk (show v ∈ l from hq ▸ List.getElem_mem hlt)
        generalize l[k] = x at q0 hb
        clear hq
        go_wp2
        go_ret
        exact ⟨(k : Int), rfl, ⟨fun _ => HF.out, fun _ => by omega⟩, rfl⟩
      · have hb : (v == l[k]) = false := beq_eq_false_iff_ne.2 hq
        have HT1 := Aside0.mk (show ∀ i (h : i < l.length), i < k + 1 → l[i] ≠ v from fun i h hi => by
          by_cases e : i = k
          · subst e; exact fun e2 => hq e2.symm
          · exact HT.out i h (by omega))
        generalize l[k] = x at q0 hb
        clear hq HT
        go_wp2
        go_round
        case rel => exact ⟨k + 1, by omega, by go_num, HT1⟩
        case measure => simp [intOf]; omega
    · have HF := Aside0.mk (show ¬ v ∈ l from fun h => by
        obtain ⟨i, hi, e⟩ := List.getElem_of_mem h
        exact HT.out i hi (by omega) e)
      go_wp2
      go_ret
      exact ⟨-1, rfl, ⟨fun h => by omega, fun h => absurd h HF.out⟩, rfl⟩
set_option maxHeartbeats 8000000 in
theorem containsI_ (A : Option Addr) (c : Nat) (l : List Int) (v : Int) (w : World) (hC : (Kd.int .i64).C w A l.length l) :
    Calls Tryz.prog 104 #[.slice A l.length c, .int .i64 v] w fun e w' => e = .returned (.bool (decide (v ∈ l))) ∧ w' = w := by
  have HI := Aside0.mk (indexI_ A c l v w hC)
  clear hC
  go_enter Tryz.func104, Tryz.ntmps104
  go_wp2_with fail
  refine HI.out.mono ?_
  rintro e w1 ⟨r, rfl, hr, rfl⟩
  have HR := Aside0.mk hr
  clear hr HI
  go_wp2
  go_ret
  refine ⟨?_, rfl⟩
  show Ending.returned (.bool (decide (0 ≤ r))) = _
  rw [decide_eq_decide.2 HR.out]
theorem Row.readsEd {w : World} {A : Option Addr} {c : Nat} {l : List E} (h : Row w 87 2 A l.length c (flat l)) : Kd.C k113 w A l.length l := by
  refine ⟨rfl, by have h1 := h.2.1; have h2 := h.2.2.1; unfold maxLen at h2; omega, fun hn => ?_⟩
  obtain ⟨g, off, cur, rfl, _, _, hc⟩ := h.at_ hn
  refine ⟨_, rfl, fun j p hj => ⟨[.int .i64 p.f0, .int .i64 p.f1], rfl, k113_mk w p, fun i u hu => ?_⟩⟩
  obtain ⟨f0, f1⟩ := flat_get hj
  rw [Addr.add_lit]
  match i, hu with
  | 0, hu => obtain rfl : Value.int .i64 p.f0 = u := by simpa using hu
             exact (hc _ _ f0).1
  | 1, hu => obtain rfl : Value.int .i64 p.f1 = u := by simpa using hu
             exact (hc _ _ f1).1
  | i + 2, hu => simp at hu
set_option maxHeartbeats 8000000 in
set_option maxRecDepth 100000 in
theorem indexFunc (g : Nat) (lb : Array Value) (p : E → Bool) (eg : ∀ args w, (callFunc g args).run Tryz.prog w = .ok (.enter g args) w) (A : Option Addr) (c : Nat) (l : List E) (w : World)
    (hr : Kd.C k113 w A l.length l) (hc : l.length ≤ c) (hp : Pred g lb p w) :
    Calls Tryz.prog 76 #[.slice A l.length c, .func (.func g) #[] lb] w fun e w' => e = .returned (.int .i64 (ix p l)) ∧ Below w.heap.size w w' := by
  have hu67 := Tryz.underlying87
  have HR := Aside0.mk hr
  have HP := Aside0.mk hp
  have hl63 := hr.2.1
  clear hr hc hp
  go_enter Tryz.func76, Tryz.ntmps76
  go_wp2_with fail
  go_loopg [5, 8] l.length (fun gg _ v wr => ∃ k : Nat, k ≤ l.length ∧ l.length - k ≤ gg ∧ v = .int .i64 k ∧ Aside0 (∀ i : Nat, i < k → p (l.getD i z113) = false) ∧ Aside0 (Below w.heap.size w wr))
  case atStart => exact ⟨0, by omega, by omega, rfl, ⟨fun i hi => by omega⟩, ⟨Below.refl _ _⟩⟩
  case round =>
    obtain ⟨k, hk, hgg, rfl, HA, HB⟩ := hrel
    by_cases hlt : k < l.length
    · obtain ⟨ad, rfl, q0, q1⟩ := at_T113 (Kd.C_below HR.out HB.out) (k : Int) (by omega) (by omega)
      have p1 : 0 ≤ (k : Int) := by omega
      have p2 : (k : Int) < l.length := by omega
      have hrd : rd_T113 l k = l.getD k z113 := by simp [rd_T113]
      simp only [Int.toNat_natCast, hrd] at q0 q1
      clear hrd
      have hcall := HP.out wr (l.getD k z113) HB.out
      generalize hy : l.getD k z113 = y at q0 q1 hcall
      have HY := Aside0.mk hy
      clear hy
      cases hq : p y with
      | true =>
        rw [hq] at hcall
        have HF := Aside0.mk (show ix p l = (k : Int) from ix_hit hlt (by rw [HY.out]; exact hq) HA.out)
        have HX := Aside0.mk hcall
        clear hcall hq
        go_wp2_with fail
        refine HX.out.mono ?_
        rintro e w3 ⟨rfl, hb⟩
        have HB3 := Aside0.mk (below_then HB.out HB.out.size hb)
        clear hb
        go_wp2
        go_ret
        exact ⟨congrArg (fun q : Int => Ending.returned (.int .i64 q)) HF.out.symm, HB3.out⟩
      | false =>
        rw [hq] at hcall
        have HA1 := Aside0.mk (show ∀ i : Nat, i < k + 1 → p (l.getD i z113) = false from fun i hi => by
          by_cases e : i = k
          · rw [e, HY.out]; exact hq
          · exact HA.out i (by omega))
        have HX := Aside0.mk hcall
        clear hcall hq HA
        go_wp2_with fail
        refine HX.out.mono ?_
        rintro e w3 ⟨rfl, hb⟩
        have HB3 := Aside0.mk (below_then HB.out HB.out.size hb)
        clear hb
        go_wp2
        go_roundg (l.length - (k + 1))
        case measure => omega
        case rel => exact ⟨k + 1, by omega, by omega, by go_num, HA1, HB3⟩
    · have HF := Aside0.mk (show ix p l = -1 from ix_miss (fun i hi => HA.out i (by omega)))
      go_wp2
      go_ret
      exact ⟨congrArg (fun q : Int => Ending.returned (.int .i64 q)) HF.out.symm, HB.out⟩
def DelPost (A : Option Addr) (c : Nat) (p : E → Bool) (l : List E) (w : World) (e : Ending) (w' : World) : Prop :=
  e = .returned (.slice A (l.filter fun x => !p x).length c) ∧ Row w' 87 2 A (l.filter fun x => !p x).length c (flat (l.filter fun x => !p x)) ∧ Grew (blk A) w w'
set_option maxHeartbeats 8000000 in
set_option maxRecDepth 100000 in
theorem DeleteFunc_ (g : Nat) (lb : Array Value) (p : E → Bool) (eg : ∀ args w, (callFunc g args).run Tryz.prog w = .ok (.enter g args) w) (A : Option Addr) (c : Nat) (l : List E) (w : World)
    (hR : Row w 87 2 A l.length c (flat l)) (hp : PredG g lb p A w) (hl : l.length ≤ 1000000) :
    Calls Tryz.prog 46 #[.slice A l.length c, .func (.func g) #[] lb] w (DelPost A c p l w) := by
  have hu67 := Tryz.underlying87
  have HI := Aside0.mk (indexFunc g lb p eg A c l w (Gr.Row.readsEd hR) hR.2.1 hp.pred)
  have HR := Aside0.mk hR
  have HP := Aside0.mk hp
  have HL := Aside0.mk hl
  by_cases hx : ix p l < 0
  · have hx1 : ix p l = -1 := by
      unfold ix at hx ⊢
      cases h : l.findIdx? p with
      | none => rfl
      | some i => rw [h] at hx; simp at hx; omega
    have HF := Aside0.mk (show (l.filter fun x => !p x) = l from List.filter_eq_self.2 (fun x hx2 => by rw [ix_none hx x hx2]; rfl))
    rw [hx1] at HI
    clear hR hp hl hx hx1
    go_enter Tryz.func46, Tryz.ntmps46
    go_wp2_with fail
    refine HI.out.mono ?_
    rintro e w3 ⟨rfl, hb⟩
    have HB := Aside0.mk hb
    clear hb
    go_wp2_with fail
    go_ret
    unfold DelPost
    rw [HF.out]
    exact ⟨rfl, HR.out.below HB.out, Grew.of_below HB.out⟩
  · obtain ⟨i, hi⟩ : ∃ i : Nat, ix p l = (i : Int) := ⟨_, (Int.toNat_of_nonneg (by omega)).symm⟩
    obtain ⟨hil, hpi, hai⟩ := ix_hit' hi
    rw [hi] at HI
    obtain ⟨ga, off, cur, rfl, hg, hsz, hcell⟩ := hR.at_ (by omega)
    have D0 := Aside0.mk (Del.start hil hpi hai)
    have HIL := Aside0.mk hil
    have n1 : ((i : Int) == -1) = false := beq_eq_false_iff_ne.2 (by omega)
    have WI := Aside0.mk (show wrap64 ((i : Int) + 1) = ((i + 1 : Nat) : Int) from by unfold wrap64; omega)
    clear hR hp hl hx hi hil hpi hai hg hsz hcell
    go_enter Tryz.func46, Tryz.ntmps46
    go_wp2_with fail
    refine HI.out.mono ?_
    rintro e w3 ⟨rfl, hb⟩
    have HB := Aside0.mk hb
    clear hb
    go_wp2_with fail
    go_loopg [5, 6] l.length (fun gg v5 v6 wr => ∃ (k j : Nat) (L : List E), j ≤ l.length ∧ l.length - j ≤ gg ∧ v5 = .int .i64 k ∧ v6 = .int .i64 j ∧ Aside0 (Del p l L k j) ∧ Aside0 (Row wr 87 2 (some ⟨ga, off, none⟩) l.length c (flat L)) ∧ Aside0 (Grew (blk (some ⟨ga, off, none⟩)) w wr))
    case atStart => exact ⟨i, i + 1, l, HIL.out, by omega, rfl, congrArg (Value.int .i64) WI.out, D0, ⟨HR.out.below HB.out⟩, ⟨Grew.of_below HB.out⟩⟩
    case round =>
      obtain ⟨k, j, L, hj, hgg, rfl, rfl, HD, HRr, HGr⟩ := hrel
      clear n1 WI HI D0 HR HB HIL
      have hl63 : l.length ≤ 1000000 := HL.out
      by_cases hlt : j < l.length
      · have p1 : 0 ≤ (j : Int) := by omega
        have p2 : (j : Int) < l.length := by omega
        have hLl : j < L.length := by rw [HD.out.len]; exact hlt
        obtain ⟨g', off', cur', hA, hg', hsz', hcell'⟩ := HRr.out.at_ (by omega)
        cases hA
        obtain ⟨f0, f1⟩ := flat_get (get_getD hLl)
        have q0 := (hcell' _ _ f0).1
        have q1 := (hcell' _ _ f1).1
        rw [← Nat.add_assoc] at q1
        rw [HD.out.at_ hlt] at q0 q1
        have HX := Aside0.mk (HP.out)
        generalize hy : l.getD j z113 = y at q0 q1
        have HY := Aside0.mk hy
        clear hy f0 f1 hLl
        cases hq : p y with
        | true =>
          have HQ := Aside0.mk hq
          clear hq
          have hcall := HP.out _ y (HGr.out.alloc (.cells #[.int .i64 y.f0, .int .i64 y.f1] 87))
          rw [HQ.out] at hcall
          have HX := Aside0.mk hcall
          have HD2 := Aside0.mk (HD.out.skip hlt (by rw [HY.out]; exact HQ.out))
          have HRA := Aside0.mk (HRr.out.alloc (.cells #[.int .i64 y.f0, .int .i64 y.f1] 87))
          have HGA := Aside0.mk (HGr.out.alloc (.cells #[.int .i64 y.f0, .int .i64 y.f1] 87))
          clear hcall
          go_wp2_with fail
          refine HX.out.mono ?_
          rintro e w4 ⟨rfl, hb⟩
          have HR4 := Aside0.mk (HRA.out.below hb)
          have HG4 := Aside0.mk (HGA.out.below hb)
          clear hb
          go_wp2
          go_roundg (l.length - (j + 1))
          case measure => omega
          case rel => exact ⟨k, j + 1, L, by omega, by omega, rfl, by go_num, HD2, HR4, HG4⟩
        | false =>
          have HQ := Aside0.mk hq
          clear hq
          have hcall := HP.out _ y (HGr.out.alloc (.cells #[.int .i64 y.f0, .int .i64 y.f1] 87))
          rw [HQ.out] at hcall
          have HX := Aside0.mk hcall
          have HD2 := Aside0.mk (HD.out.keep hlt (by rw [HY.out]; exact HQ.out))
          rw [HY.out] at HD2
          have hkj := HD.out.le
          have hLl : k < L.length := by rw [HD.out.len]; omega
          obtain ⟨f0, f1⟩ := flat_get (get_getD hLl)
          have s0 := hcell' _ _ f0
          have s1 := hcell' _ _ f1
          rw [← Nat.add_assoc] at s1
          have S0 := Aside0.mk s0
          have S1 := Aside0.mk s1
          have k1 : 0 ≤ (k : Int) := by omega
          have k2 : (k : Int) < l.length := by omega
          have HKJ := Aside0.mk hkj
          have bb := blk_new wr (.cells #[.int .i64 y.f0, .int .i64 y.f1] 87)
          have BB := Aside0.mk bb
          have HRA := Aside0.mk (HRr.out.alloc (.cells #[.int .i64 y.f0, .int .i64 y.f1] 87))
          have HGA := Aside0.mk (HGr.out.alloc (.cells #[.int .i64 y.f0, .int .i64 y.f1] 87))
          have HZ := Aside0.mk (show k * 2 + 1 < (flat L).length from by have h9 := hLl; rw [flat_len]; omega)
          clear hcall f0 f1 s0 s1 bb hcell' hLl hkj
          go_wp2_with fail
          refine HX.out.mono ?_
          rintro e w4 ⟨rfl, hb⟩
          have HR4 := Aside0.mk (HRA.out.below hb)
          have HG4 := Aside0.mk (HGA.out.below hb)
          have b0 : w4.cell? ⟨wr.heap.size, 0, none⟩ = some (.int .i64 y.f0) := cell_be ((blk_cell BB.out 0).trans rfl) hb
          have b1 : w4.cell? ⟨wr.heap.size, 1, none⟩ = some (.int .i64 y.f1) := cell_be ((blk_cell BB.out 1).trans rfl) hb
          obtain ⟨g', off', cur2, hA, hg2, hsz2, hcell2⟩ := HR4.out.at_ (by omega)
          cases hA
          obtain ⟨f0, f1⟩ := flat_get (l := L) (j := k) (get_getD (by have := HZ.out; rw [flat_len] at this; omega))
          have c0 := hcell2 _ _ f0
          have c1 := hcell2 _ _ f1
          rw [← Nat.add_assoc] at c1
          obtain ⟨c0, d0⟩ := c0
          obtain ⟨c1, d1⟩ := c1
          have d1' : (w4.setCell ⟨ga, off + k * 2, none⟩ (.int .i64 y.f0)).frozen? ⟨ga, off + k * 2 + 1, none⟩ = false := by
            have hg3 := heap_setCell_same w4 ga (off + k * 2) cur2 87 (.int .i64 y.f0) hg2
            exact frozen_of_row _ ga _ _ _ hg3
          clear hb f0 f1 hcell2 hsz2 hg2
          go_wp2_with fail
          have h1 := HR4.out.put (k * 2) (by have := HZ.out; omega) (.int .i64 y.f0)
          have h2 := h1.put (k * 2 + 1) (by rw [List.length_set]; exact HZ.out) (.int .i64 y.f1)
          rw [flat_set2, ← Nat.add_assoc] at h2
          have HR5 := Aside0.mk h2
          have HG5 := Aside0.mk ((HG4.out.setCell (p := ⟨ga, off + k * 2, none⟩) (.inl ⟨_, rfl, rfl⟩) (.int .i64 y.f0)).setCell (p := ⟨ga, off + k * 2 + 1, none⟩) (.inl ⟨_, rfl, rfl⟩) (.int .i64 y.f1))
          clear h1 h2 c0 c1 d0 d1 d1'
          go_roundg (l.length - (j + 1))
          case measure => omega
          case rel => exact ⟨k + 1, j + 1, L.set k y, by omega, by omega, by have := HKJ.out; go_num, by go_num, HD2, HR5, HG5⟩
      · have ej : j = l.length := by omega
        subst ej
        have hk := HD.out.le
        have k1 : 0 ≤ (k : Int) := by omega
        have k2 : (k : Int) ≤ l.length := by omega
        have hcl := HRr.out.2.1
        have k3 : ¬ c = k := by omega
        have k4 : (k : Int) ≤ c := by omega
        have HM := Aside0.mk (show 0 < l.length - k from by omega)
        have HM2 := Aside0.mk (show k * 2 + (l.length - k) * 2 ≤ l.length * 2 from by omega)
        have HK2 := Aside0.mk hk
        have hLE := HD.out.len
        have HFR := Aside0.mk (show L.take k = l.filter (fun x => !p x) from by have h := HD.out.front; rwa [List.take_length] at h)
        have HLE := Aside0.mk hLE
        clear hk hcl hLE
        go_wp2_with (with_reducible refine gate_clear ?_; refine wpList_clear_row rfl _ 45 rfl 87 _ 2 16 Tryz.underlying45 infoEd rfl zeros_one ga off l.length c (flat L) HRr.out (k * 2) (l.length - k) (c - k) HM.out HM2.out (by simp [Act.eval, Act.put]) ?_)
        intro w5 hR5 hG5
        have HR5 := Aside0.mk hR5
        have HG5 := Aside0.mk (HGr.out.trans hG5 (fun q hq => .inl ⟨_, rfl, hq.symm⟩))
        clear hR5 hG5
        go_wp2
        go_ret
        have hkl : (l.filter fun x => !p x).length = k := by rw [← HFR.out, List.length_take, HLE.out]; have := HK2.out; omega
        have hU := HR5.out.upto k (by have := HK2.out; omega)
        have e1 : (Go.splice (flat L) (k * 2) (Builtin.zeroCells (Value.agg #[.int .i64 0, .int .i64 0]).cells (l.length - k)).toList).take (k * 2) = flat (l.filter fun x => !p x) := by
          unfold Go.splice
          rw [List.take_append_of_le_length (by rw [List.length_take, flat_len, HLE.out]; have := HK2.out; omega), List.take_take, Nat.min_self, ← flat_take, HFR.out]
        unfold DelPost
        rw [hkl, ← e1]
        exact ⟨rfl, hU, HG5.out⟩
end Go.Proofs.YtaaekmcmpjljgaaGreat.Gr
namespace Go.Proofs.YtaaekmcmpjljgaaGreat.Gr
open Go.RowKit Go.Proofs.YtaaekmcmpjljgaaGreatW.PrintWords Go.Proofs.YtaaekmcmpjljgaaGreatW.PrintWords.Kd Go.Proofs.YtaaekmcmpjljgaaGreatW.PrintLast Go.Proofs.YtaaekmcmpjljgaaGreatW.PrintMore Go.Proofs.YtaaekmcmpjljgaaGreat.PMd Go.Proofs.YtaaekmcmpjljgaaGreat.Ln
open Go.Sort (grow)
set_option linter.unusedVariables false
set_option linter.unusedSimpArgs false
def toE (l : List Ed) : List E := l.map fun x => ⟨x.1, x.2⟩
theorem toE_len (l : List Ed) : (toE l).length = l.length := by simp [toE]
theorem toE_flat (l : List Ed) : flat (toE l) = flatP l := by
  induction l with
  | nil => rfl
  | cons x l ih =>
    have e : ∀ (y : E) (l : List E), flat (y :: l) = .int .i64 y.f0 :: .int .i64 y.f1 :: flat l := fun _ _ => rfl
    show flat (⟨x.1, x.2⟩ :: toE l) = _
    rw [e, ih, flatP_cons]
theorem toE_filter (l : List Ed) (p : Ed → Bool) : (toE l).filter (fun x => !p (x.f0, x.f1)) = toE (l.filter fun x => !p x) := by
  unfold toE
  rw [List.filter_map]
  congr 1
def PredE (g : Nat) (lb : Array Value) (p : Ed → Bool) (A : Option Addr) (w : World) : Prop :=
  ∀ (W : World) (x y : Int), Grew (blk A) w W → Calls Tryz.prog g (#[.agg #[.int .i64 x, .int .i64 y]] ++ lb) W fun e w' => e = .returned (.bool (p (x, y))) ∧ Below W.heap.size W w'
def DelE (A : Option Addr) (c : Nat) (p : Ed → Bool) (l : List Ed) (w : World) (e : Ending) (w' : World) : Prop :=
  e = .returned (.slice A (l.filter fun x => !p x).length c) ∧ RowE w' A c (l.filter fun x => !p x) ∧ Grew (blk A) w w'
theorem deleteE_ (g : Nat) (lb : Array Value) (p : Ed → Bool) (eg : ∀ args w, (callFunc g args).run Tryz.prog w = .ok (.enter g args) w) (A : Option Addr) (c : Nat) (l : List Ed) (w : World) (hR : RowE w A c l) (hp : PredE g lb p A w) (hl : l.length ≤ 1000000) :
    Calls Tryz.prog 46 #[.slice A l.length c, .func (.func g) #[] lb] w (DelE A c p l w) := by
  have hR2 : Row w 87 2 A (toE l).length c (flat (toE l)) := by rw [toE_len, toE_flat]; exact hR
  have h := DeleteFunc_ g lb (fun x => p (x.f0, x.f1)) eg A c (toE l) w hR2 (fun W x hG => hp W x.f0 x.f1 hG) (by rw [toE_len]; exact hl)
  rw [toE_len] at h
  refine h.mono ?_
  rintro e w' ⟨h1, h2, h3⟩
  rw [toE_filter, toE_len] at h1 h2
  rw [toE_flat] at h2
  exact ⟨h1, h2, h3⟩
def OutE (w : World) (l : List Ed) (e : Ending) (w' : World) : Prop := ∃ A' c', e = .returned (.slice A' l.length c') ∧ RowE w' A' c' l ∧ (∀ k, blk A' k → w.heap.size ≤ k) ∧ Below w.heap.size w w'
set_option maxHeartbeats 8000000 in
set_option maxRecDepth 100000 in
theorem cloneE_ (A : Option Addr) (c : Nat) (l : List Ed) (w : World) (hR : RowE w A c l) (hl : l.length ≤ 1000000) :
    Calls Tryz.prog 106 #[.slice A l.length c] w (OutE w l) := by
  have hu := Tryz.underlying87
  have HR := Aside0.mk hR
  have HL := Aside0.mk hl
  have q64 : ∀ (w : World) (a : Option Addr) (n c n' c' : Nat), (binOp .eql 45 (.slice a n c) (.slice none n' c')).run Tryz.prog w = .ok (.bool a.isNone) w := fun w a n c n' c' => Lib.run_eql_slice_nil w _ _ a n c n' c' Tryz.underlying45
  cases A with
  | none =>
    obtain ⟨rfl, rfl⟩ : l = [] ∧ c = 0 := by
      rcases hR.2.2.2 with ⟨_, h⟩ | ⟨g, off, cur, h, _⟩
      · have := hR.2.1; exact ⟨List.eq_nil_of_length_eq_zero (by omega), h⟩
      · cases h
    clear hR hl
    go_enter Tryz.func106, Tryz.ntmps106
    go_wp2
    go_ret
    exact ⟨none, 0, rfl, Row.zero _ _ _, fun k hk => (blk_none hk).elim, Below.refl _ _⟩
  | some ad =>
    clear hR hl
    have HE0 := Aside0.mk (show Row (w.alloc (.cells #[] 87)) 87 2 (some ⟨w.heap.size, 0, none⟩) 0 0 [] from ⟨by simp, Nat.le_refl _, Nat.zero_le _, .inr ⟨_, 0, _, rfl, blk_new w _, by simp, by simp⟩⟩)
    have HR1 := Aside0.mk (Row.alloc HR.out (.cells #[] 87))
    have HB0 := Aside0.mk (below_alloc (Below.refl w.heap.size w) (.cells #[] 87))
    have HO := Aside0.mk (flatP_one l)
    go_enter Tryz.func106, Tryz.ntmps106
    go_wp2_with (at_builtin; refine wpList_append_rows rfl _ _ 45 rfl 87 _ 2 16 Tryz.underlying45 infoEd rfl _ 0 0 [] (by simp [Act.eval, Act.put]) HE0.out (some ad) l.length c (flatP l) (by simp [Act.eval, Act.put]) HR1.out HO.out (by have := HL.out; unfold maxLen; omega) (by have := HL.out; omega) ?_)
    intro A6 c6 w6 hR6 hG6 hk6
    have HR6 := Aside0.mk hR6
    have HB6 := Aside0.mk (hG6.to_below HB0.out HB0.out.size (fun k ⟨a, h, e⟩ => by cases h; exact Nat.le_of_eq e))
    have HK6 := Aside0.mk (show ∀ k, blk A6 k → w.heap.size ≤ k from fun k hk => (hk6 k hk).elim (fun ⟨a, h, e⟩ => by cases h; exact Nat.le_of_eq e) (fun h => by have h2 : w.heap.size + 1 ≤ k := (by simpa using h); omega))
    clear hR6 hG6 hk6
    go_wp2
    go_ret
    exact ⟨A6, c6, by simp, by simpa using HR6.out, HK6.out, HB6.out⟩
def namesE (gone : List Int) (x : Ed) : Bool := decide (x.1 ∈ gone) || decide (x.2 ∈ gone)
def withoutE (gone : List Int) (l : List Ed) : List Ed := l.filter fun x => !namesE gone x
set_option maxHeartbeats 8000000 in
theorem without1_ (x y : Int) (g : Nat) (A : Option Addr) (c : Nat) (gone : List Int) (w : World) (hc : w.cell? ⟨g, 0, none⟩ = some (.slice A gone.length c)) (hR : Row w 3 1 A gone.length c (ints gone)) :
    Calls Tryz.prog 107 #[.agg #[.int .i64 x, .int .i64 y], .pointer (some ⟨g, 0, none⟩)] w fun e w' => e = .returned (.bool (namesE gone (x, y))) ∧ Below w.heap.size w w' := by
  have hu := Tryz.underlying87
  have c1 := cell_al hc (.cells #[.int .i64 x, .int .i64 y] 87)
  have H1 := Aside0.mk (containsI_ A c gone x (w.alloc (.cells #[.int .i64 x, .int .i64 y] 87)) (hR.alloc _).readsI)
  have H2 := Aside0.mk (containsI_ A c gone y (w.alloc (.cells #[.int .i64 x, .int .i64 y] 87)) (hR.alloc _).readsI)
  have HB := Aside0.mk (below_alloc (Below.refl w.heap.size w) (.cells #[.int .i64 x, .int .i64 y] 87))
  have HN := Aside0.mk (show namesE gone (x, y) = (decide (x ∈ gone) || decide (y ∈ gone)) from rfl)
  generalize decide (x ∈ gone) = p at H1 HN
  generalize decide (y ∈ gone) = q at H2 HN
  clear hc hR
  cases p with
  | true =>
    go_enter Tryz.func107, Tryz.ntmps107
    go_wp2_with fail
    refine H1.out.mono ?_
    rintro e w1 ⟨rfl, rfl⟩
    go_wp2_with fail
    go_ret
    exact ⟨by rw [HN.out]; rfl, HB.out⟩
  | false =>
    go_enter Tryz.func107, Tryz.ntmps107
    go_wp2_with fail
    refine H1.out.mono ?_
    rintro e w1 ⟨rfl, rfl⟩
    go_wp2_with fail
    refine H2.out.mono ?_
    rintro e w2 ⟨rfl, rfl⟩
    go_wp2_with fail
    go_ret
    exact ⟨by rw [HN.out]; rfl, HB.out⟩
theorem enters_without1 : ∀ args w, (callFunc 107 args).run Tryz.prog w = .ok (.enter 107 args) w := ent_of Tryz.func107 (by kernel_rfl) rfl
set_option maxHeartbeats 8000000 in
theorem Without_ (Ag : Option Addr) (cg : Nat) (gone : List Int) (A : Option Addr) (c : Nat) (l : List Ed) (w : World) (hg : Row w 3 1 Ag gone.length cg (ints gone)) (hR : RowE w A c l) (hl : l.length ≤ 1000000) :
    Calls Tryz.prog 74 #[.slice Ag gone.length cg, .slice A l.length c] w (OutE w (withoutE gone l)) := by
  have HB0 := Aside0.mk (below_alloc (Below.refl w.heap.size w) (.cells #[.slice Ag gone.length cg] 29))
  have HC := Aside0.mk (cloneE_ A c l (w.alloc (.cells #[.slice Ag gone.length cg] 29)) (Row.alloc hR _) hl)
  have HX := Aside0.mk (show (w.alloc (.cells #[.slice Ag gone.length cg] 29)).cell? ⟨w.heap.size, 0, none⟩ = some (.slice Ag gone.length cg) from (blk_cell (blk_new w _) 0).trans rfl)
  have HG := Aside0.mk (hg.alloc (.cells #[.slice Ag gone.length cg] 29))
  have HL := Aside0.mk hl
  have HS := Aside0.mk (show (w.alloc (.cells #[.slice Ag gone.length cg] 29)).heap.size = w.heap.size + 1 by simp)
  clear hg hR hl
  go_enter Tryz.func74, Tryz.ntmps74
  go_wp2_with fail
  refine HC.out.mono ?_
  rintro e w2 ⟨A2, c2, rfl, h2, k2, b2⟩
  have hx2 := cell_be HX.out b2
  have hg2 := HG.out.below b2
  have hg3 : ∀ k, blk Ag k → ¬ blk A2 k := fun k h h2 => by have := k2 k h2; have := HG.out.lt h; omega
  have HD := Aside0.mk (deleteE_ 107 #[.pointer (some ⟨w.heap.size, 0, none⟩)] (namesE gone) enters_without1 A2 c2 l w2 h2 (fun W x y hG => without1_ x y w.heap.size Ag cg gone W (hG.cell hx2 (fun h => by have h9 := k2 _ h; rw [HS.out] at h9; have h8 : w.heap.size + 1 ≤ w.heap.size := h9; omega)) (hg2.grew hG hg3)) HL.out)
  have HB2 := Aside0.mk (below_then HB0.out HB0.out.size b2)
  have HK2 := Aside0.mk (show ∀ k, blk A2 k → w.heap.size ≤ k from fun k h => by have := k2 k h; rw [HS.out] at this; omega)
  clear h2 k2 b2 hx2 hg2 hg3
  go_wp2_with fail
  refine HD.out.mono ?_
  rintro e w3 ⟨rfl, h3, g3⟩
  have H3 := Aside0.mk h3
  have B3 := Aside0.mk (g3.to_below HB2.out HB2.out.size HK2.out)
  clear h3 g3
  go_wp2
  go_ret
  exact ⟨A2, c2, rfl, H3.out, HK2.out, B3.out⟩
end Go.Proofs.YtaaekmcmpjljgaaGreat.Gr
namespace Go.Proofs.YtaaekmcmpjljgaaGreat.Gr
open Go.RowKit Go.Proofs.YtaaekmcmpjljgaaGreatW.PrintWords Go.Proofs.YtaaekmcmpjljgaaGreatW.PrintWords.Kd Go.Proofs.YtaaekmcmpjljgaaGreatW.PrintLast Go.Proofs.YtaaekmcmpjljgaaGreatW.PrintMore Go.Proofs.YtaaekmcmpjljgaaGreat.PMd Go.Proofs.YtaaekmcmpjljgaaGreat.Ln
open Go.Maps
open Go.Sort (grow)
set_option linter.unusedVariables false
set_option linter.unusedSimpArgs false
def hdr : Value → Option (DataW Unit × List MemPlace)
  | .slice none n c => some (.agg [.lit (.int .i64 n), .lit (.int .i64 c)], [])
  | .slice (some ⟨g, off, none⟩) n c => some (.agg [.lit (.int .i64 g), .lit (.int .i64 off), .lit (.int .i64 n), .lit (.int .i64 c)], [])
  | _ => none
def HdrOk (v : Value) : Prop := ∃ A n c, v = .slice A n c ∧ (A = none ∨ ∃ g off, A = some ⟨g, off, none⟩)
def hdD (v : Value) : DataW Unit := match hdr v with | some z => z.1 | none => .nil
theorem hdr_ok {v : Value} (h : HdrOk v) : hdr v = some (hdD v, []) := by
  obtain ⟨A, n, c, rfl, rfl | ⟨g, off, rfl⟩⟩ := h <;> rfl
theorem hdr_inj {v v' : Value} {z z' : DataW Unit × List MemPlace} (h : hdr v = some z) (h' : hdr v' = some z') (e : z.1 = z'.1) : v = v' := by
  have key : ∀ v z, hdr v = some z → HdrOk v := by
    intro v z h
    unfold hdr at h
    split at h
    · exact ⟨_, _, _, rfl, .inl rfl⟩
    · exact ⟨_, _, _, rfl, .inr ⟨_, _, rfl⟩⟩
    · cases h
  obtain ⟨A, n, c, rfl, hA⟩ := key _ _ h
  obtain ⟨A', n', c', rfl, hA'⟩ := key _ _ h'
  rcases hA with rfl | ⟨g, off, rfl⟩ <;> rcases hA' with rfl | ⟨g', off', rfl⟩
  · simp only [hdr, Option.some.injEq] at h h'
    subst h; subst h'
    simp at e
    obtain ⟨e1, e2⟩ := e
    obtain rfl : n = n' := by omega
    obtain rfl : c = c' := by omega
    rfl
  · simp only [hdr, Option.some.injEq] at h h'
    subst h; subst h'
    simp at e
  · simp only [hdr, Option.some.injEq] at h h'
    subst h; subst h'
    simp at e
  · simp only [hdr, Option.some.injEq] at h h'
    subst h; subst h'
    simp at e
    obtain ⟨e1, e2, e3, e4⟩ := e
    obtain rfl : g = g' := by omega
    obtain rfl : off = off' := by omega
    obtain rfl : n = n' := by omega
    obtain rfl : c = c' := by omega
    rfl
abbrev nilV : Value := .slice none 0 0
theorem row_hdr {w : World} {e sz n c : Nat} {A : Option Addr} {xs : List Value} (h : Row w e sz A n c xs) : HdrOk (.slice A n c) := by
  refine ⟨A, n, c, rfl, ?_⟩
  rcases h.2.2.2 with ⟨h, _⟩ | ⟨g, off, cur, h, _⟩
  · exact .inl h
  · exact .inr ⟨g, off, h⟩
def WebAt (w : World) (m N : Nat) (f : Int → Value) : Prop :=
  ∃ D : DataW Unit, w.ownsMap Tryz.prog 3 hdr m N D ∧ ∀ x, ok64 x → HdrOk (f x) ∧ D.atKey (.int .i64 x) (hdD nilV) = hdD (f x)
theorem WebAt.move {w w' : World} {m N : Nat} {f : Int → Value} (h : WebAt w m N f) (hm : w'.heap[m]? = w.heap[m]?) : WebAt w' m N f := by
  obtain ⟨D, ⟨es, clock, hb, h1⟩, h2⟩ := h
  exact ⟨D, ⟨es, clock, hm.trans hb, h1⟩, h2⟩
theorem WebAt.lt {w : World} {m N : Nat} {f : Int → Value} (h : WebAt w m N f) : m < w.heap.size := by
  obtain ⟨D, h1, _⟩ := h
  exact h1.lt
theorem WebAt.cells {w : World} {m N : Nat} {f : Int → Value} (h : WebAt w m N f) {cs : Array Value} {t : TypeId} {z : Nat × Nat} (hc : w.heap[m]? = some (.cells cs t z)) : False := by
  obtain ⟨D, ⟨es, clock, hb, _⟩, _⟩ := h
  rw [hb] at hc
  cases hc
theorem WebAt.off {w : World} {m N : Nat} {f : Int → Value} (h : WebAt w m N f) {e sz n c : Nat} {A : Option Addr} {xs : List Value} (hr : Row w e sz A n c xs) : ¬ blk A m := fun hk => by
  obtain ⟨cur, hc⟩ := hr.typed hk
  exact h.cells hc
theorem WebAt.empty (w : World) : WebAt (w.alloc (.map #[] 0)) w.heap.size 0 (fun _ => nilV) :=
  ⟨_, World.ownsMap_made _ _ _ _, fun x _ => ⟨⟨none, 0, 0, rfl, .inl rfl⟩, rfl⟩⟩
theorem WebAt.look {w : World} {m N : Nat} {f : Int → Value} (h : WebAt w m N f) {x : Int} (hx : ok64 x) : (Instr.lookup 142 (.map (some m)) (.int .i64 x) false).run Tryz.prog w = .ok (f x) w := by
  obtain ⟨D, h1, h2⟩ := h
  obtain ⟨v, ps, hrun, hv⟩ := h1.lookup keyed Tryz.underlying142 (Tryz.zeroValue29 w) (hdr_ok ⟨none, 0, 0, rfl, .inl rfl⟩) (Maps.keyOf_int_mk Tryz.underlying3 hx)
  have h3 := h2 x hx
  rw [hrun, hdr_inj hv (hdr_ok h3.1) h3.2]
def upV (f : Int → Value) (x : Int) (v : Value) : Int → Value := fun y => if y = x then v else f y
theorem WebAt.put {w w' : World} {m N N' : Nat} {f : Int → Value} {D : DataW Unit} (h : ∀ x, ok64 x → HdrOk (f x) ∧ D.atKey (.int .i64 x) (hdD nilV) = hdD (f x)) (hD : IsMap D) {x : Int} (hx : ok64 x) {v : Value} (hv : HdrOk v)
    (hown : w'.ownsMap Tryz.prog 3 hdr m N' (D.put (.int .i64 x) (hdD v))) : WebAt w' m N' (upV f x v) := by
  refine ⟨_, hown, fun y hy => ?_⟩
  unfold upV
  by_cases e : y = x
  · subst e
    rw [if_pos rfl]
    exact ⟨hv, atKey_put_same hD (by trivial) _ _⟩
  · rw [if_neg e, atKey_put_other (lit_ne e)]
    exact h y hy
def IsWeb (w : World) (m : Nat) (l : List Ed) : Prop :=
  ∃ (N : Nat) (f : Int → Value), WebAt w m N f ∧ ∀ x, ok64 x → ∃ A c, f x = .slice A (nextE x l).length c ∧ Row w 3 1 A (nextE x l).length c (ints (nextE x l))
theorem IsWeb.below {w w' : World} {m : Nat} {l : List Ed} (h : IsWeb w m l) (hb : Below w.heap.size w w') : IsWeb w' m l := by
  obtain ⟨N, f, h1, h2⟩ := h
  refine ⟨N, f, h1.move (hb.block m h1.lt), fun x hx => ?_⟩
  obtain ⟨A, c, h3, h4⟩ := h2 x hx
  exact ⟨A, c, h3, h4.below hb⟩
theorem IsWeb.look {w : World} {m : Nat} {l : List Ed} (h : IsWeb w m l) {x : Int} (hx : ok64 x) : ∃ A c, (Instr.lookup 142 (.map (some m)) (.int .i64 x) false).run Tryz.prog w = .ok (.slice A (nextE x l).length c) w ∧ Row w 3 1 A (nextE x l).length c (ints (nextE x l)) := by
  obtain ⟨N, f, h1, h2⟩ := h
  obtain ⟨A, c, h3, h4⟩ := h2 x hx
  exact ⟨A, c, by rw [h1.look hx, h3], h4⟩
def OkE (l : List Ed) : Prop := ∀ x ∈ l, ok64 x.1 ∧ ok64 x.2
theorem mem_sortR {l : List Int} {x : Int} : x ∈ sortR l ↔ x ∈ l := by
  have := (sortR_go l [] List.Pairwise.nil).2 x
  simpa [sortR] using this
theorem mem_nodes {l : List Ed} {x : Int} : x ∈ nodesE l ↔ ∃ e ∈ l, e.1 = x ∨ e.2 = x := by
  unfold nodesE allE
  rw [mem_sortR, List.mem_flatMap]
  constructor
  · rintro ⟨e, he, hx⟩
    simp at hx
    exact ⟨e, he, hx.elim (fun h => .inl h.symm) (fun h => .inr h.symm)⟩
  · rintro ⟨e, he, hx⟩
    exact ⟨e, he, by simp; exact hx.elim (fun h => .inl h.symm) (fun h => .inr h.symm)⟩
theorem mem_next {l : List Ed} {n x : Int} : x ∈ nextE n l ↔ (n, x) ∈ l := by
  unfold nextE goE
  rw [mem_sortR, List.mem_map]
  constructor
  · rintro ⟨⟨a, b⟩, he, rfl⟩
    rw [List.mem_filter] at he
    have : a = n := by simpa using he.2
    subst this
    exact he.1
  · intro h
    exact ⟨(n, x), List.mem_filter.2 ⟨h, by simp⟩, rfl⟩
theorem next_sub {l : List Ed} {n x : Int} (h : x ∈ nextE n l) : x ∈ nodesE l := mem_nodes.2 ⟨_, mem_next.1 h, .inr rfl⟩
theorem next_nil {l : List Ed} {n : Int} (h : n ∉ nodesE l) : nextE n l = [] := by
  apply List.eq_nil_iff_forall_not_mem.2
  intro x hx
  exact h (mem_nodes.2 ⟨_, mem_next.1 hx, .inl rfl⟩)
theorem nodes_ok {l : List Ed} (h : OkE l) {x : Int} (hx : x ∈ nodesE l) : ok64 x := by
  obtain ⟨e, he, h1 | h1⟩ := mem_nodes.1 hx
  · exact h1 ▸ (h e he).1
  · exact h1 ▸ (h e he).2
theorem nodes_len (l : List Ed) : (nodesE l).length ≤ l.length * 2 := by have := sortR_len (allE l); rw [allE_len] at this; exact this
theorem next_len (n : Int) (l : List Ed) : (nextE n l).length ≤ l.length := Nat.le_trans (sortR_len _) (goE_len n l)
theorem nodes_nodup (l : List Ed) : (nodesE l).Nodup := (sortR_ris (allE l)).imp (fun h => by omega)
def WebUp (w0 w : World) (m : Nat) (l : List Ed) (done : List Int) : Prop :=
  ∃ (N : Nat) (f : Int → Value) (D : DataW Unit), w.ownsMap Tryz.prog 3 hdr m N D ∧ (∀ x, ok64 x → HdrOk (f x) ∧ D.atKey (.int .i64 x) (hdD nilV) = hdD (f x)) ∧ N ≤ done.length ∧ w0.heap.size ≤ m ∧ Below w0.heap.size w0 w ∧
    ∀ x, (x ∈ done → ∃ A c, f x = .slice A (nextE x l).length c ∧ Row w 3 1 A (nextE x l).length c (ints (nextE x l))) ∧ (x ∉ done → f x = nilV)
theorem grown_row {w w' : World} {m : Nat} (hg : w.grownBy w' (some m)) {e sz n c : Nat} {A : Option Addr} {xs : List Value} (h : Row w e sz A n c xs) (hm : ¬ blk A m) : Row w' e sz A n c xs :=
  h.move (fun k hk hl => hg.block k hl (fun e => hm (by injection e with e; exact e ▸ hk)))
set_option maxHeartbeats 8000000 in
set_option maxRecDepth 100000 in
theorem spun_ (A : Option Addr) (c : Nat) (l : List Ed) (w : World) (hR : RowE w A c l) (hl : l.length ≤ 400000) (hok : OkE l) :
    Calls Tryz.prog 100 #[.slice A l.length c] w fun e w' => ∃ m, e = .returned (.map (some m)) ∧ IsWeb w' m l ∧ Below w.heap.size w w' := by
  have HR := Aside0.mk hR
  have HL := Aside0.mk hl
  have HOK := Aside0.mk hok
  have HN := Aside0.mk (Nodes_ A c l (w.alloc (.map #[] 0)) (Row.alloc hR _) hl)
  have HW0 := Aside0.mk (show WebUp w (w.alloc (.map #[] 0)) w.heap.size l [] from ⟨0, fun _ => nilV, _, World.ownsMap_made _ _ _ _, fun x _ => ⟨⟨none, 0, 0, rfl, .inl rfl⟩, rfl⟩, Nat.le_refl _, Nat.le_refl _, below_alloc (Below.refl _ _) _, fun x => ⟨fun h => absurd h (by simp), fun _ => rfl⟩⟩)
  clear hR hl hok
  have hmm := @run_makeMap Tryz.prog
  go_enter Tryz.func100, Tryz.ntmps100
  go_wp2_with fail
  refine HN.out.mono ?_
  rintro e w2 ⟨A2, c2, rfl, h2, k2, b2⟩
  clear hmm
  have HR2 := Aside0.mk h2
  have HW2 := Aside0.mk (show WebUp w w2 w.heap.size l ((nodesE l).take 0) from by
    obtain ⟨N, f, D, o1, o2, o3, o4, o5, o6⟩ := HW0.out
    exact ⟨N, f, D, owns_be o1 b2, o2, o3, o4, below_then o5 o5.size b2, fun x => ⟨fun h => absurd h (by simp), fun _ => (o6 x).2 (by simp)⟩⟩)
  have HNL := Aside0.mk (show (nodesE l).length ≤ 800000 by have := nodes_len l; have := HL.out; omega)
  have HK2 := Aside0.mk (show ∀ k, blk A2 k → w.heap.size < k from fun k h => by have := k2 k h; have h3 : (w.alloc (.map #[] 0)).heap.size = w.heap.size + 1 := (by simp); omega)
  obtain ⟨ns, hns⟩ : ∃ ns, ns = nodesE l := ⟨_, rfl⟩
  have HNS := Aside0.mk hns
  rw [← hns] at HR2 HW2 HNL
  rw [← hns]
  clear h2 k2 b2 HN HW0 hns
  go_wp2_with fail
  go_loopg [10] ns.length (fun gg v wr => ∃ i : Nat, i ≤ ns.length ∧ ns.length - i ≤ gg ∧ v = .int .i64 i ∧ Aside0 (WebUp w wr w.heap.size l (ns.take i)) ∧ Aside0 (Row wr 3 1 A2 ns.length c2 (ints ns)))
  case atStart => exact ⟨0, by omega, by omega, rfl, HW2, HR2⟩
  case round =>
    clear HW2 HR2
    obtain ⟨i, hi, hgg, rfl, HW, HR2⟩ := hrel
    by_cases hlt : i < ns.length
    · obtain ⟨ad, hA, q0⟩ := Kd.at_int HR2.out.readsI (i : Int) (by omega) (by omega)
      subst hA
      rw [Int.toNat_natCast, show rd ns (i : Int) = ns[i] from by simp [rd, List.getElem?_eq_getElem hlt]] at q0
      have p1 : 0 ≤ (i : Int) := by omega
      have p2 : (i : Int) < ns.length := by omega
      have hm : ns.length ≤ 9223372036854775807 := by have := HNL.out; omega
      have hxk := nodes_ok HOK.out (x := ns[i]) (by rw [← HNS.out]; exact List.getElem_mem hlt)
      have HXK := Aside0.mk hxk
      have HTK := Aside0.mk (show ns.take (i + 1) = ns.take i ++ [ns[i]] from List.take_succ_eq_append_getElem hlt)
      have HNI := Aside0.mk (show ns[i] ∉ ns.take i from fun h => by
        have hnd : Ris ns := HNS.out ▸ sortR_ris (allE l)
        obtain ⟨j, hj, e⟩ := List.getElem_of_mem h
        rw [List.length_take] at hj
        rw [List.getElem_take] at e
        have := List.pairwise_iff_getElem.1 hnd j i (by omega) hlt (by omega)
        omega)
      have HJ := Aside0.mk (And.intro hlt hgg)
      have W3 := Aside0.mk (show wrap64 ((i : Int) + 1) = ((i + 1 : Nat) : Int) by have := HNL.out; unfold wrap64; omega)
      generalize ns[i] = x at q0 HXK HTK HNI
      have HNX := Aside0.mk (Next_ x A c l wr (by obtain ⟨_, _, _, _, _, _, _, o5, _⟩ := HW.out; exact Row.below HR.out o5) HL.out)
      obtain ⟨N, f, D, o1, o2, o3, o4, o5, o6⟩ := HW.out
      have O1 := Aside0.mk o1
      have O2 := Aside0.mk o2
      have O3 := Aside0.mk o3
      have O4 := Aside0.mk o4
      have O5 := Aside0.mk o5
      have O6 := Aside0.mk o6
      clear o1 o2 o3 o4 o5 o6 hlt hgg hi hxk
      go_wp2_with fail
      refine HNX.out.mono ?_
      rintro e w4 ⟨A4, c4, rfl, h4, k4, b4⟩
      have H4 := Aside0.mk h4
      have K4 := Aside0.mk k4
      have HO4 := Aside0.mk (owns_be O1.out b4)
      have HR4 := Aside0.mk (HR2.out.below b4)
      have HM4 := Aside0.mk (show ∀ y ∈ ns.take i, ∃ A c, f y = .slice A (nextE y l).length c ∧ Row w4 3 1 A (nextE y l).length c (ints (nextE y l)) from fun y hy => by
        obtain ⟨A5, c5, e5, h5⟩ := (O6.out y).1 hy
        exact ⟨A5, c5, e5, h5.below b4⟩)
      have B4 := Aside0.mk (below_then O5.out O5.out.size b4)
      have HWA := Aside0.mk (show WebAt w4 w.heap.size N f from ⟨D, HO4.out, O2.out⟩)
      have HV := Aside0.mk (row_hdr h4)
      clear h4 k4 b4 q0
      go_wp2_with (first | (at_mapUpdate; refine wpList_mapUpdate_own _ rfl _ _ _ 142 rfl 3 29 keyed Tryz.underlying142 hdr w.heap.size N D rfl HO4.out (by have h1 := O3.out; have h2 := HNL.out; rw [List.length_take] at h1; unfold maxLen; omega) _ _ _ rfl rfl (Maps.keyOf_int_mk Tryz.underlying3 HXK.out) _ [] (hdr_ok HV.out) ?_; intro w7 hown7 hgrow7) | fail)
      have H7 := Aside0.mk hown7
      have G7 := Aside0.mk hgrow7
      clear hown7 hgrow7
      go_wp2_with fail
      go_roundg (ns.length - (i + 1))
      case measure => have := HJ.out; omega
      case rel =>
        refine ⟨i + 1, by have := HJ.out; omega, by have := HJ.out; omega, by first | rw [W3.out] | simp, ⟨?_⟩, ⟨grown_row G7.out HR4.out (HWA.out.off HR4.out)⟩⟩
        refine ⟨N + 1, upV f x (.slice A4 (nextE x l).length c4), _, H7.out, fun y hy => ?_, by rw [HTK.out]; simp; have := O3.out; simp at this; omega, O4.out, ?_, fun y => ⟨fun hy => ?_, fun hy => ?_⟩⟩
        · unfold upV
          by_cases e : y = x
          · subst e
            rw [if_pos rfl]
            exact ⟨HV.out, atKey_put_same HO4.out.isMap (by trivial) _ _⟩
          · rw [if_neg e, atKey_put_other (lit_ne e)]
            exact O2.out y hy
        · exact B4.out.trans ⟨G7.out.os, G7.out.tape, G7.out.output, G7.out.size, fun k hk => G7.out.block k (Nat.lt_of_lt_of_le hk B4.out.size) (fun e => by injection e with e; have := O4.out; omega)⟩
        · rw [HTK.out, List.mem_append] at hy
          unfold upV
          by_cases e : y = x
          · subst e
            rw [if_pos rfl]
            exact ⟨A4, c4, rfl, grown_row G7.out H4.out (HWA.out.off H4.out)⟩
          · rw [if_neg e]
            rcases hy with hy | hy
            · obtain ⟨A5, c5, e5, h5⟩ := HM4.out y hy
              exact ⟨A5, c5, e5, grown_row G7.out h5 (HWA.out.off h5)⟩
            · exact absurd (by simpa using hy) e
        · rw [HTK.out, List.mem_append] at hy
          unfold upV
          rw [if_neg (fun e => hy (.inr (by simp [e])))]
          exact (O6.out y).2 (fun h => hy (.inl h))
    · obtain rfl : i = ns.length := by omega
      have t1 : ¬ ((ns.length : Int) < (ns.length : Int)) := by omega
      have HWF := Aside0.mk (show IsWeb wr w.heap.size l ∧ Below w.heap.size w wr from by
        obtain ⟨N, f, D, o1, o2, o3, o4, o5, o6⟩ := HW.out
        rw [List.take_length, HNS.out] at o6
        refine ⟨⟨N, f, ⟨D, o1, o2⟩, fun x hx => ?_⟩, o5⟩
        by_cases hn : x ∈ nodesE l
        · exact (o6 x).1 hn
        · refine ⟨none, 0, ?_, ?_⟩
          · rw [(o6 x).2 hn, next_nil hn]; rfl
          · rw [next_nil hn]; exact Row.zero _ _ _)
      clear hlt hgg hi
      go_wp2
      go_ret
      exact ⟨_, rfl, HWF.out.1, HWF.out.2⟩
end Go.Proofs.YtaaekmcmpjljgaaGreat.Gr
namespace Go.Proofs.YtaaekmcmpjljgaaGreat.Gr
open Go.RowKit Go.Proofs.YtaaekmcmpjljgaaGreatW.PrintWords Go.Proofs.YtaaekmcmpjljgaaGreatW.PrintLast Go.Proofs.YtaaekmcmpjljgaaGreatW.PrintMore Go.Proofs.YtaaekmcmpjljgaaGreat.PMd Go.Proofs.YtaaekmcmpjljgaaGreat.Ln
set_option linter.unusedVariables false
set_option linter.unusedSimpArgs false
def dfsIn (tgt : Int) (nots : List Int) : List Int → List Int → List Int → Option (List Int × List Int)
  | [], met, st => some (met, st)
  | y :: ys, met, st => if y = tgt then none else if y ∉ met ∧ y ∉ nots then dfsIn tgt nots ys (y :: met) (st ++ [y]) else dfsIn tgt nots ys met st
def dfs (l : List Ed) (tgt : Int) (nots : List Int) : Nat → List Int → List Int → Option Bool
  | 0, _, _ => none
  | k + 1, met, st => match st.getLast? with
    | none => some false
    | some n => match dfsIn tgt nots (nextE n l) met st.dropLast with
      | none => some true
      | some (met', st') => dfs l tgt nots k met' st'
def reachB (l : List Ed) (fr tgt : Int) (nots : List Int) : Bool := (dfs l tgt nots ((nodesE l).length + 2) [] [fr]).getD false
def unm (ns met : List Int) : Nat := (ns.filter fun x => !decide (x ∈ met)).length
theorem unm_nil (ns : List Int) : unm ns [] = ns.length := by unfold unm; rw [List.filter_eq_self.2 (by simp)]
theorem unm_push {ns met : List Int} (hn : ns.Nodup) {y : Int} (hy : y ∈ ns) (hm : y ∉ met) : unm ns (y :: met) + 1 = unm ns met := by
  unfold unm
  induction ns with
  | nil => cases hy
  | cons x ns ih =>
    have hn2 := List.nodup_cons.1 hn
    rw [List.filter_cons, List.filter_cons]
    by_cases e : x = y
    · subst e
      rw [if_neg (by simp), if_pos (by simpa using hm), List.length_cons]
      congr 2
      refine List.filter_congr (fun z hz => ?_)
      have : z ≠ x := fun e => hn2.1 (e ▸ hz)
      simp [this]
    · have h1 := ih hn2.2 (by simpa [Ne.symm e] using hy)
      by_cases hx : x ∈ met
      · rw [if_neg (by simp [hx]), if_neg (by simp [hx])]; exact h1
      · rw [if_pos (by simp [hx, e]), if_pos (by simp [hx]), List.length_cons, List.length_cons]; omega
theorem dfsIn_pot {l : List Ed} {tgt : Int} {nots : List Int} : ∀ (ys met st : List Int), (∀ y ∈ ys, y ∈ nodesE l) → ∀ met' st', dfsIn tgt nots ys met st = some (met', st') → unm (nodesE l) met' + st'.length = unm (nodesE l) met + st.length
  | [], met, st, _, met', st', h => by simp only [dfsIn, Option.some.injEq, Prod.mk.injEq] at h; rw [h.1, h.2]
  | y :: ys, met, st, hy, met', st', h => by
    unfold dfsIn at h
    by_cases e : y = tgt
    · rw [if_pos e] at h; cases h
    · rw [if_neg e] at h
      by_cases h2 : y ∉ met ∧ y ∉ nots
      · rw [if_pos h2] at h
        have := dfsIn_pot ys _ _ (fun z hz => hy z (by simp [hz])) met' st' h
        rw [this, List.length_append, ← unm_push (nodes_nodup l) (hy y (by simp)) h2.1]
        simp; omega
      · rw [if_neg h2] at h
        exact dfsIn_pot ys _ _ (fun z hz => hy z (by simp [hz])) met' st' h
theorem dfs_total (l : List Ed) (tgt : Int) (nots : List Int) : ∀ (k : Nat) (met st : List Int), unm (nodesE l) met + st.length < k → ∃ r, dfs l tgt nots k met st = some r
  | 0, _, _, h => by omega
  | k + 1, met, st, h => by
    unfold dfs
    cases hs : st.getLast? with
    | none => exact ⟨false, rfl⟩
    | some n =>
      cases hd : dfsIn tgt nots (nextE n l) met st.dropLast with
      | none => exact ⟨true, by simp only [hd]⟩
      | some z =>
        obtain ⟨met', st'⟩ := z
        have hp := dfsIn_pot (l := l) (nextE n l) met st.dropLast (fun y hy => next_sub hy) met' st' hd
        have hne : 0 < st.length := by
          cases st with
          | nil => simp at hs
          | cons => simp
        rw [List.length_dropLast] at hp
        obtain ⟨r, hr⟩ := dfs_total l tgt nots k met' st' (by omega)
        exact ⟨r, by simp only [hd]; exact hr⟩
theorem reach_dfs (l : List Ed) (fr tgt : Int) (nots : List Int) : dfs l tgt nots ((nodesE l).length + 2) [] [fr] = some (reachB l fr tgt nots) := by
  obtain ⟨r, hr⟩ := dfs_total l tgt nots ((nodesE l).length + 2) [] [fr] (by rw [unm_nil]; simp)
  unfold reachB
  rw [hr]; rfl
end Go.Proofs.YtaaekmcmpjljgaaGreat.Gr
