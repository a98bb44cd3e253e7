import Derived.Test.YtefcjnnngaaihaaDoorPrQ
import Derived.Test.YtefcjnnngaaihaaDoorPrT
/- Few, Texts; rows of strings read. -/
namespace Go.Proofs.YtefcjnnngaaihaaDoor.Pg
open Go.RowKit Go.Proofs.Pg Go.Proofs.YtefcjnnngaaihaaDoor.Ln Go.Proofs.YtefcjnnngaaihaaDoorW.PrintWords Go.Proofs.YtefcjnnngaaihaaDoorW.PrintWords.Kd Go.Proofs.YtefcjnnngaaihaaDoor.PPg
set_option linter.unusedVariables false
set_option linter.unusedSimpArgs false
def ofS (s : S26) : In := ⟨s.f0, s.f1, s.f2, s.f3, s.f4⟩
theorem toS_ofS (l : List S26) : (l.map ofS).map toS = l := by
  rw [List.map_map]
  conv => rhs; rw [← List.map_id l]
  congr 1
theorem OutS.C {w wr : World} {xs : List ByteArray} {v : Value} (h : OutS w xs v wr) : ∃ A c, v = .slice A xs.length c ∧ xs.length ≤ c ∧ Kd.string.C wr A xs.length xs := by
  obtain ⟨A, c, rfl, h1, h2, h3⟩ := h
  refine ⟨A, c, rfl, h1.2.1, rfl, by have h5 := h1.2.1; have h6 := h1.2.2.1; unfold maxLen at h6; omega, fun hn => ?_⟩
  obtain ⟨g, off, cur, rfl, _, _, hc⟩ := h1.at_ hn
  refine ⟨_, rfl, fun j p hj => ⟨[.string p], rfl, rfl, fun i u hu => ?_⟩⟩
  rw [Addr.add_lit]
  match i, hu with
  | 0, hu => obtain rfl : Value.string p = u := by simpa using hu
             rw [Nat.add_zero]
             show wr.cell? ⟨g, off + j * 1, none⟩ = _
             rw [Nat.mul_one]
             exact (hc j _ (by rw [List.getElem?_map, hj]; rfl)).1
  | i + 1, hu => simp at hu
theorem lnB_data (xs : List In) : (xs.map lnB).map (·.data.toList) = xs.map lineB := by
  rw [List.map_map]; exact List.map_congr_left (fun x _ => rfl)
theorem lnB_size {x : In} (h : OkI x) (hl : x.l.length ≤ 1000) : (lnB x).size ≤ 100000 := by
  have h1 := line_len (word x.k).1 (Pg.nums x) (word_l x.k) (nums_i64 x h.1 h.2.1 h.2.2.1 h.2.2.2)
  have h2 := nums_few x
  show (lineB x).toArray.size ≤ 100000
  rw [List.size_toArray]
  have h3 : lineB x = Lib.join ((word x.k).1 :: (Pg.nums x).map Lib.itoa) [32] := rfl
  rw [h3]
  omega
theorem lines_parse : ∀ (xs : List In), (∀ x ∈ xs, (1 ≤ x.k ∧ x.k ≤ 7) ∧ OkI x) → parseB (xs.map lineB) = some (xs.map canon)
  | [], _ => rfl
  | x :: r, h => by
    have hx := h x (List.mem_cons_self ..)
    have hr := lines_parse r (fun y hy => h y (List.mem_cons_of_mem _ hy))
    simp only [List.map_cons, parseB, read_line x hx.1 hx.2.1 hx.2.2.1 hx.2.2.2.1 hx.2.2.2.2, if_true, hr, Option.map_some]
set_option maxHeartbeats 8000000 in
set_option maxRecDepth 100000 in
theorem Few_ (A : Option Addr) (c : Nat) (xs : List In) (w : World) (hC : Kd.C k26 w A xs.length (xs.map toS)) :
    Calls Tryd.prog 14 #[.slice A xs.length c] w fun e w' => Yes (xs.length ≤ 200 ∧ ∀ x ∈ xs, x.l.length ≤ 100) w w' e := by
  have hu := Tryd.underlying26
  have HC := Aside0.mk hC
  have HS := Aside0.mk hC.2.1
  clear hC
  go_enter Tryd.func14, Tryd.ntmps14
  go_wp2_with fail
  go_loopg [3] (min xs.length 200) (fun gg v3 wr => ∃ (i : Nat) (z : Int), z = i ∧ i ≤ min xs.length 200 ∧ min xs.length 200 - i ≤ gg ∧ v3 = .int .i64 z ∧ Aside0 (∀ x ∈ xs.take i, x.l.length ≤ 100) ∧ Aside0 (wr = w))
  case atStart => exact ⟨0, 0, rfl, by omega, by omega, rfl, ⟨fun x hx => by simp at hx⟩, ⟨rfl⟩⟩
  case round =>
    obtain ⟨i, z, hz, hi, hgg, rfl, HT, HW⟩ := hrel
    obtain rfl := HW.out
    by_cases hlt : i < min xs.length 200
    · have t1 : z < (xs.length : Int) := by omega
      have t2 : z < 200 := by omega
      have t0 : 0 ≤ z := by omega
      have hix : i < xs.length := by omega
      obtain ⟨ad, A4, c4, hA, x0, x1, x2, x3, x4, hl4, hC4⟩ := at_T26 HC.out z t0 t1
      cases hA
      have hrd : rd_T26 (xs.map toS) z = toS xs[i] := by rw [hz]; exact rd_toS xs i hix
      rw [hrd] at x4
      have hN : xs[i].l.length ≤ 100 → ∀ x ∈ xs.take (i + 1), x.l.length ≤ 100 := fun h x hx => by
        rw [List.take_succ_eq_append_getElem hix] at hx
        rcases List.mem_append.1 hx with hx | hx
        · exact HT.out x hx
        · rw [List.mem_singleton.1 hx]; exact h
      have hN2 : ¬ xs[i].l.length ≤ 100 → ¬ (xs.length ≤ 200 ∧ ∀ x ∈ xs, x.l.length ≤ 100) := fun h h2 => h (h2.2 _ (List.getElem_mem hix))
      have HN := Aside0.mk (And.intro hN hN2)
      clear hN hN2 x0 x1 x2 x3 hl4 hC4 hrd
      simp only [toS] at x4
      generalize xs[i].l.length = ln at x4 HN
      have HJ := Aside0.mk (And.intro hz (And.intro hlt hgg))
      clear hlt hgg hi hz hix
      by_cases hq : ln ≤ 100
      · have q1 : decide (100 < (ln : Int)) = false := decide_eq_false (by omega)
        have HN1 := Aside0.mk (HN.out.1 hq)
        clear hq
        go_wp2
        go_roundg (min xs.length 200 - (i + 1))
        case measure => have := HJ.out; omega
        case rel => exact ⟨i + 1, z + 1, by have := HJ.out; omega, by have := HJ.out; omega, by have := HJ.out; omega, rfl, HN1, ⟨rfl⟩⟩
      · have q1 : decide (100 < (ln : Int)) = true := decide_eq_true (by omega)
        have HN1 := Aside0.mk (HN.out.2 hq)
        clear hq
        go_wp2
        go_ret
        exact ⟨false, rfl, ⟨(fun h => by cases h), fun h => absurd h HN1.out⟩, Below.refl _ _⟩
    · by_cases hle : xs.length ≤ 200
      · have t1 : ¬ z < (xs.length : Int) := by omega
        have t2 : decide ((xs.length : Int) ≤ 200) = true := decide_eq_true (by omega)
        have HN := Aside0.mk (show xs.length ≤ 200 ∧ ∀ x ∈ xs, x.l.length ≤ 100 from ⟨hle, fun x hx => HT.out x (by rw [List.take_of_length_le (by omega)]; exact hx)⟩)
        clear hi hgg hlt hz hle
        go_wp2
        go_ret
        exact ⟨true, rfl, ⟨(fun _ => HN.out), fun _ => rfl⟩, Below.refl _ _⟩
      · have t1 : z < (xs.length : Int) := by omega
        have t3 : ¬ z < 200 := by omega
        have t2 : decide ((xs.length : Int) ≤ 200) = false := decide_eq_false (by omega)
        have HN := Aside0.mk (show ¬ (xs.length ≤ 200 ∧ ∀ x ∈ xs, x.l.length ≤ 100) from fun h => hle h.1)
        clear hi hgg hlt hz hle
        go_wp2
        go_ret
        exact ⟨false, rfl, ⟨(fun h => by cases h), fun h => absurd h HN.out⟩, Below.refl _ _⟩
set_option maxHeartbeats 8000000 in
set_option maxRecDepth 100000 in
theorem Texts_ (A B : Option Addr) (c d : Nat) (l m : List ByteArray) (w : World) (hl : Kd.string.C w A l.length l) (hm : Kd.string.C w B m.length m) (hq : l = m) :
    Calls Tryd.prog 19 #[.slice A l.length c, .slice B m.length d] w fun e w' => e = .returned (.bool true) ∧ Below w.heap.size w w' := by
  subst hq
  have HL := Aside0.mk hl
  have HM := Aside0.mk hm
  have HS := Aside0.mk hl.2.1
  clear hl hm
  go_enter Tryd.func19, Tryd.ntmps19
  go_wp2
  go_loopg [5] l.length (fun gg v5 wr => ∃ (i : Nat), i ≤ l.length ∧ l.length - i ≤ gg ∧ v5 = .int .i64 i ∧ Aside0 (Below w.heap.size w wr))
  case atStart => exact ⟨0, by omega, by omega, rfl, ⟨Below.refl _ _⟩⟩
  case round =>
    obtain ⟨i, hi, hgg, rfl, HB⟩ := hrel
    by_cases hlt : i < l.length
    · have t1 : (i : Int) < (l.length : Int) := by omega
      have t0 : (0 : Int) ≤ (i : Int) := by omega
      obtain ⟨ad, hA, c9⟩ := at_string (C_below HL.out HB.out) (i : Int) t0 t1
      obtain ⟨bd, hB, d9⟩ := at_string (C_below HM.out HB.out) (i : Int) t0 t1
      rw [Int.toNat_natCast] at c9 d9
      cases hA
      cases hB
      have W3 := Aside0.mk (show wrap64 ((i : Int) + 1) = ((i + 1 : Nat) : Int) by have := HS.out; unfold wrap64; omega)
      have HJ := Aside0.mk (And.intro hlt hgg)
      generalize rdOf ByteArray.empty l (i : Int) = x at c9 d9
      clear hlt hgg hi
      go_wp2
      go_quiet (fail)
      go_wp2
      go_roundg (l.length - (i + 1))
      case measure => have := HJ.out; omega
      case rel => exact ⟨i + 1, by have := HJ.out; omega, by have := HJ.out; omega, by rw [W3.out], ⟨by repeat (first | exact HB.out | apply below_drew | apply pw_below_drewN)⟩⟩
    · obtain rfl : i = l.length := by omega
      have t1 : ¬ ((l.length : Int) < (l.length : Int)) := by omega
      clear hi hgg hlt
      go_wp2
      go_ret
      exact ⟨rfl, HB.out⟩
end Go.Proofs.YtefcjnnngaaihaaDoor.Pg
