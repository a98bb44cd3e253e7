import Derived.Test.YtefcjnnngaaihaaDoorPr3
import Derived.Test.YtefcjnnngaaihaaDoorRow
import Derived.Test.YtefcjnnngaaihaaDoorWNEv
/- line: an instruction in words. -/
namespace Go.Proofs.YtefcjnnngaaihaaDoor.Pg
open Go.RowKit Go.Proofs.Pg Go.Proofs.YtefcjnnngaaihaaDoor.Ln Go.Proofs.YtefcjnnngaaihaaDoorW.PrintWords Go.Proofs.YtefcjnnngaaihaaDoorW.PrintWords.Kd
set_option linter.unusedVariables false
set_option linter.unusedSimpArgs false

theorem infoI : (Tryd.prog.info? 3).map (fun i => (i.zero, i.size, i.bytes)) = some (some (.int .i64 0), 1, 8) := by kernel_rfl
theorem infoS : (Tryd.prog.info? 9).map (fun i => (i.zero, i.size, i.bytes)) = some (some (.string ByteArray.empty), 1, 16) := by kernel_rfl
theorem infoI2 : ∃ i, Tryd.prog.info? 3 = some i := by
  cases h : Tryd.prog.info? 3 with
  | none => have := infoI; rw [h] at this; cases this
  | some i => exact ⟨i, rfl⟩
/-- The strings' row that a call makes. -/
def OutS (w : World) (xs : List ByteArray) (v : Value) (wr : World) : Prop :=
  ∃ A c, v = .slice A xs.length c ∧ Row wr 9 1 A xs.length c (xs.map Value.string) ∧ (∀ k, blk A k → w.heap.size ≤ k) ∧ Below w.heap.size w wr
theorem one_at {w : World} {g : Nat} {v : Value} {t : TypeId} (hv : w.heap[g]? = some (.cells #[v] t (0, 0))) : ∀ j x, [v][j]? = some x → w.cell? ((⟨g, 0, none⟩ : Addr).add j) = some x := by
  intro j x hj
  cases j with
  | zero => simp at hj; subst hj; simp [Addr.add, World.cell?, hv]
  | succ j => simp at hj

def outs (ws : List UInt8) (l : List Int) : List ByteArray := ⟨ws.toArray⟩ :: l.map (fun n => ⟨(Lib.itoa n).toArray⟩)
theorem outs_len (ws : List UInt8) (l : List Int) : (outs ws l).length = l.length + 1 := by simp [outs]
theorem outs_data (ws : List UInt8) (l : List Int) : (outs ws l).map (·.data.toList) = ws :: l.map Lib.itoa := by simp [outs]
theorem outs_next (ws : List UInt8) (l : List Int) (i : Nat) (h : i < l.length) : outs ws (l.take (i + 1)) = outs ws (l.take i) ++ [⟨(Lib.itoa (rd l i)).toArray⟩] := by
  have : rd l (i : Int) = l[i] := by simp [rd, List.getElem?_eq_getElem h]
  unfold outs
  rw [this, List.take_succ_eq_append_getElem h, List.map_append]; rfl
theorem rd_mem (l : List Int) (i : Nat) (h : i < l.length) : rd l (i : Int) ∈ l := by
  have : rd l (i : Int) = l[i] := by simp [rd, List.getElem?_eq_getElem h]
  rw [this]; exact List.getElem_mem h
theorem lens_itoa : ∀ l : List Int, (∀ v ∈ l, I64 v) → Lib.lens (l.map Lib.itoa) ≤ 21 * l.length
  | [], _ => by simp [Lib.lens]
  | v :: r, h => by
    have h1 := Lib.itoa_length_le v (h v (List.mem_cons_self ..)).1 (h v (List.mem_cons_self ..)).2
    have h2 := lens_itoa r (fun u hu => h u (List.mem_cons_of_mem _ hu))
    simp only [Lib.lens, List.map_cons, List.sum_cons, List.length_cons] at h2 ⊢
    omega
theorem line_len (ws : List UInt8) (l : List Int) (hw : ws.length ≤ 5) (h : ∀ v ∈ l, I64 v) : (Lib.join (ws :: l.map Lib.itoa) [32]).length ≤ 5 + 22 * l.length := by
  have := lens_itoa l h
  rw [Lib.join_length]
  simp only [Lib.lens, List.map_cons, List.sum_cons, List.length_map, List.length_cons, List.length_nil] at this ⊢
  omega
theorem OutS.lit (w : World) (b : ByteArray) : OutS w [b] (.slice (some ⟨w.heap.size, 0, none⟩) 1 1) (w.alloc (.cells #[.string b] 9)) :=
  ⟨some ⟨w.heap.size, 0, none⟩, 1, rfl, ⟨rfl, Nat.le_refl _, by simp [maxLen], .inr ⟨w.heap.size, 0, _, rfl, heap_alloc_new w _, by simp, by simp⟩⟩,
    fun k ⟨a, h, h2⟩ => by cases h; exact h2 ▸ Nat.le_refl _, below_alloc (Below.refl _ _) _⟩
theorem Below.low {B B' : Nat} {w w' : World} (h : Below B w w') (hB : B' ≤ B) : Below B' w w' := ⟨h.os, h.tape, h.output, h.size, fun k hk => h.block k (Nat.lt_of_lt_of_le hk hB)⟩
theorem word_l (k : Int) : (word k).1.length ≤ 5 := by
  unfold word
  repeat' split
  all_goals simp
theorem nums_i64 (x : In) (ha : I64 x.a) (hb : I64 x.b) (hc : I64 x.c) (hl : ∀ v ∈ x.l, I64 v) : ∀ v ∈ Pg.nums x, I64 v := by
  intro v hv
  unfold Pg.nums at hv
  rcases List.mem_append.1 hv with h | h
  · have := List.mem_of_mem_take h
    simp only [List.mem_cons, List.not_mem_nil, or_false] at this
    rcases this with rfl | rfl | rfl
    · exact ha
    · exact hb
    · exact hc
  · split at h
    · exact hl v h
    · cases h
theorem nums_few (x : In) : (Pg.nums x).length ≤ 3 + x.l.length := by
  unfold Pg.nums
  rw [List.length_append, List.length_take]
  simp only [List.length_cons, List.length_nil]
  split
  · omega
  · simp; omega

theorem word_n (k : Int) : (word k).2.1 ≤ 3 := by
  unfold word
  repeat' split
  all_goals simp

set_option maxHeartbeats 4000000 in
set_option maxRecDepth 100000 in
theorem line_ (x : In) (A : Option Addr) (c : Nat) (w : World) (hE : Env w) (ha : I64 x.a) (hb : I64 x.b) (hc : I64 x.c) (hl : ∀ v ∈ x.l, I64 v)
    (hL : (Kd.int .i64).C w A x.l.length x.l) (hlen : x.l.length ≤ 1000000) (hcap : x.l.length ≤ c) :
    Calls Tryd.prog 23 #[.agg #[.int .i64 x.k, .int .i64 x.a, .int .i64 x.b, .int .i64 x.c, .slice A x.l.length c]] w fun e w' =>
      e = .returned (.string ⟨(lineB x).toArray⟩) ∧ Below w.heap.size w w' := by
  have hu := Tryd.underlying26
  have HW := Aside0.mk (fun W => word_ x.k W)
  have HN := Aside0.mk (word_n x.k)
  have HX := Aside0.mk (And.intro ha (And.intro hb (And.intro hc hl)))
  have HL := Aside0.mk hL
  have HLEN := Aside0.mk (And.intro hlen hcap)
  have HE := Aside0.mk hE
  clear hE ha hb hc hl hL hlen hcap
  have HI64 := Aside0.mk (nums_i64 x HX.out.1 HX.out.2.1 HX.out.2.2.1 HX.out.2.2.2)
  have HNL := Aside0.mk (nums_few x)
  have HWL := Aside0.mk (word_l x.k)
  have HNUM := Aside0.mk (show Pg.nums x = ([x.a, x.b, x.c].take (word x.k).2.1) ++ (if (word x.k).2.2 then x.l else []) from rfl)
  have HLINE := Aside0.mk (show lineB x = Lib.join ((word x.k).1 :: (Pg.nums x).map Lib.itoa) [32] from rfl)
  obtain ⟨i3, hi3⟩ := infoI2
  go_enter Tryd.func23, Tryd.ntmps23
  go_wp2_with fail
  refine (HW.out _).mono ?_
  rintro e w1 ⟨rfl, rfl⟩
  generalize (word x.k).1 = ws at HLINE HWL ⊢
  generalize (word x.k).2.1 = n at HN HNUM ⊢
  generalize (word x.k).2.2 = m at HNUM ⊢
  have CUT := cut_to (P := Tryd.prog) 24 3 .i64 Tryd.underlying24 hi3 (some ⟨w.heap.size + 1, 0, none⟩) 3 3 (n : Int) (by omega) (by have := HN.out; omega) (by omega)
  rw [Int.toNat_natCast] at CUT
  have R3 := R_of_own (enc := Value.int .i64) (h1 := fun _ => rfl) (ok := fun _ => True) (xs := [x.a, x.b, x.c])
    (World.ownsRow_lit (base := w.heap.size) (e := 3) (size := 1) (w.alloc (.cells #[.int .i64 x.k, .int .i64 x.a, .int .i64 x.b, .int .i64 x.c, .slice A x.l.length c] 26)) #[.int .i64 x.a, .int .i64 x.b, .int .i64 x.c] 3 (by simp) (by simp [maxLen]) rfl) (fun _ _ => trivial)
  have R4 : (Kd.int .i64).R 3 _ w.heap.size (fun _ => True) (.slice (some ⟨w.heap.size + 1, 0, none⟩) n 3) ([x.a, x.b, x.c].take n) :=
    R_take (d := Kd.int .i64) (n := 3) (by
      have hsz : (w.alloc (.cells #[.int .i64 x.k, .int .i64 x.a, .int .i64 x.b, .int .i64 x.c, .slice A x.l.length c] 26)).heap.size = w.heap.size + 1 := by simp
      rw [hsz] at R3
      exact R3) (by have := HN.out; simpa using this)
  clear R3
  generalize Pg.nums x = NU at HI64 HNL HNUM HLINE
  have HR4 := Aside0.mk R4
  have HB4 := Aside0.mk (below_alloc (below_alloc (Below.refl w.heap.size w) (.cells #[.int .i64 x.k, .int .i64 x.a, .int .i64 x.b, .int .i64 x.c, .slice A x.l.length c] 26)) (.cells #[.int .i64 x.a, .int .i64 x.b, .int .i64 x.c] 3))
  clear R4
  obtain ⟨W4, hW4⟩ : ∃ W4, W4 = (w.alloc (.cells #[.int .i64 x.k, .int .i64 x.a, .int .i64 x.b, .int .i64 x.c, .slice A x.l.length c] 26)).alloc (.cells #[.int .i64 x.a, .int .i64 x.b, .int .i64 x.c] 3) := ⟨_, rfl⟩
  have HW4 := Aside0.mk hW4
  rw [← hW4] at HR4 HB4
  clear hW4
  cases m with
  | false =>
    simp only [Bool.false_eq_true, if_false, List.append_nil] at HNUM
    have h4 := R_reads' HR4.out
    rw [← HNUM.out] at h4
    obtain ⟨hn, -, hC⟩ := h4
    subst hn
    have HC5 := Aside0.mk hC
    have HB5 := HB4
    clear hC
    go_wp2_with fail
    rw [← HW4.out]
    have HSZ := Aside0.mk (show W4.heap.size = w.heap.size + 1 + 1 by rw [HW4.out]; simp)
    clear HW4 HB4 HR4 CUT
    generalize (some ⟨w.heap.size + 1, 0, none⟩ : Option Addr) = A2 at HC5 ⊢
    generalize W4 = W5 at HC5 HB5 HSZ ⊢
    go_loopg [7, 35] NU.length (fun gg v7 v35 wr => ∃ i : Nat, i ≤ NU.length ∧ NU.length - i ≤ gg ∧ v35 = .int .i64 i ∧ Aside0 (OutS W5 (outs ws (NU.take i)) v7 wr))
    case atStart => exact ⟨0, by omega, by omega, rfl, ⟨by first | exact OutS.lit W5 _ | (rw [← HSZ.out]; exact OutS.lit W5 _)⟩⟩
    case round =>
      obtain ⟨i, hi, hgg, rfl, HO⟩ := hrel
      obtain ⟨A', c', rfl, hR1, hk1, hb1⟩ := HO.out
      by_cases hlt : i < NU.length
      · have t1 : (i : Int) < NU.length := by omega
        have t0 : 0 ≤ (i : Int) := by omega
        obtain ⟨ad, hA2, c9⟩ := at_int (C_below HC5.out hb1) (i : Int) t0 (by omega)
        rw [Int.toNat_natCast] at c9
        cases hA2
        have c9b := c9
        try simp only [Addr.add, Nat.zero_add] at c9b
        have HI := Aside0.mk (HI64.out _ (rd_mem NU i hlt))
        have HT := Aside0.mk (itoa_ _ HI.out wr ((HE.out.below HB5.out).below hb1))
        have HR1 := Aside0.mk (hR1.alloc (.cells #[.string ⟨(Lib.itoa (rd NU i)).toArray⟩] 9))
        have HB1 := Aside0.mk hb1
        have HK1 := Aside0.mk hk1
        have HLT := Aside0.mk (And.intro hlt hgg)
        have W3 := Aside0.mk (show wrap64 ((i : Int) + 1) = ((i + 1 : Nat) : Int) by have := HLEN.out; have := HNL.out; unfold wrap64; omega)
        have HOU := Aside0.mk (outs_next ws NU i hlt)
        have HOL := Aside0.mk (outs_len ws (NU.take i))
        have HNT := Aside0.mk (show (NU.take i).length = i by rw [List.length_take]; omega)
        have HR0 := Aside0.mk hR1
        clear hR1 hk1 hb1 HO hlt hgg
        go_wp2_with fail
        refine HT.out.mono ?_
        rintro e w3 ⟨rfl, hb3⟩
        have HR3 := Aside0.mk ((HR0.out.below hb3).alloc (.cells #[.string ⟨(Lib.itoa (rd NU i)).toArray⟩] 9))
        have HB3 := Aside0.mk (below_alloc (below_then HB1.out HB1.out.size hb3) (.cells #[.string ⟨(Lib.itoa (rd NU i)).toArray⟩] 9))
        have HS3 := Aside0.mk (Nat.le_trans HB1.out.size hb3.size)
        have BS := Aside0.mk (heap_alloc_new w3 (.cells #[.string ⟨(Lib.itoa (rd NU i)).toArray⟩] 9))
        clear hb3 c9 c9b
        go_wp2_with (at_builtin; refine wpList_append_info rfl _ _ 38 rfl 9 _ 1 16 Tryd.underlying38 infoS rfl A' _ c' _ (by simp [Act.eval, Act.put]) HR3.out ⟨w3.heap.size, 0, none⟩ 1 1 [.string ⟨(Lib.itoa (rd NU i)).toArray⟩] (by simp [Act.eval, Act.put]) rfl (one_at BS.out) (by simp [Value.oneCell']) (by rw [HOL.out, HNT.out]; have := HLEN.out; have := HNL.out; have := HLT.out; unfold maxLen; omega) (by rw [HOL.out, HNT.out]; have := HLEN.out; have := HNL.out; have := HLT.out; omega) ?_; refine Hid.out ?_)
        refine Lib.hid ?_
        intro A2' c2' w6 hR6 hG6 hk6
        have HR6 := Aside0.mk hR6
        have HB6 := Aside0.mk (hG6.to_below HB3.out HB3.out.size (fun k hk => HK1.out k hk))
        have HK6 := Aside0.mk (show ∀ k, blk A2' k → W5.heap.size ≤ k from fun k hk => (hk6 k hk).elim (HK1.out k) (fun h => by have := HS3.out; have h2 : w3.heap.size + 1 ≤ k := (by simpa using h); omega))
        clear hR6 hG6 hk6
        go_wp2
        go_roundg (NU.length - (i + 1))
        case measure => have := HLT.out; omega
        case rel =>
          refine ⟨i + 1, by have := HLT.out; omega, by have := HLT.out; omega, by rw [W3.out], ⟨A2', c2', ?_, ?_, HK6.out, HB6.out⟩⟩
          · rw [HOU.out, List.length_append]; rfl
          · rw [HOU.out, List.length_append, List.map_append]
            exact HR6.out
      · obtain rfl : i = NU.length := by omega
        have t1 : ¬ ((NU.length : Int)) < (NU.length : Int) := by omega
        have HOL := Aside0.mk (outs_len ws (NU.take NU.length))
        rw [List.take_length] at hR1 HOL ⊢
        obtain ⟨g, off, cur, rfl, hg, -, hcl⟩ := hR1.at_ (by rw [HOL.out]; omega)
        have HJ := Aside0.mk (join_ g off c' (outs ws NU) wr (fun j y hy => (hcl j (.string y) (by rw [List.getElem?_map, hy]; rfl)).1) (Array.getElem?_eq_some_iff.1 hg).1
          (by rw [HOL.out]; have := HLEN.out; have := HNL.out; omega) hR1.2.1 (by have := line_len ws NU HWL.out HI64.out; rw [outs_data]; have := HLEN.out; have := HNL.out; omega))
        have HB1 := Aside0.mk (HB5.out.trans (Below.low hb1 HB5.out.size))
        have HLI := Aside0.mk (show lineB x = Lib.join ((outs ws NU).map (·.data.toList)) [32] by rw [outs_data, HLINE.out])
        clear hR1 hk1 hb1 HO hcl
        go_wp2_with fail
        refine HJ.out.mono ?_
        rintro e w4 ⟨rfl, hb4⟩
        go_wp2
        go_ret
        exact ⟨by have h := HLI.out; rw [h]; first | done | rfl, below_then HB1.out HB1.out.size hb4⟩
  | true =>
    simp only [if_true] at HNUM
    have HT3 := Aside0.mk (show ([x.a, x.b, x.c].take n).length ≤ 3 by rw [List.length_take]; simp only [List.length_cons, List.length_nil]; omega)
    go_wp2_with (at_builtin; rw [← HW4.out]; refine R_append_rows (Kd.int .i64) (w0 := w) (Rr := (Kd.int .i64).K W4) w.heap.size rfl _ _ 24 3 (.int .i64 0) 8 rfl Tryd.underlying24 infoI rfl (by decide) (by decide) (.slice (some ⟨w.heap.size + 1, 0, none⟩) n 3) ([x.a, x.b, x.c].take n) x.l A x.l.length c (fun _ => True) (fun _ => False) (by simp [Act.eval, Act.put]) (by simp [Act.eval, Act.put]) HR4.out (C_below HL.out HB4.out) (fun _ _ hk => hk) (fun _ hk => hk.elim) (fun _ _ => trivial) HB4.out HB4.out.size (by have := HT3.out; have := HLEN.out; omega) ?_; refine Hid.out ?_)
    refine Lib.hid ?_
    intro v5 W5 hR5 hb5 _ _
    obtain ⟨A2, c2, rfl⟩ := R_slice hR5
    rw [← HNUM.out] at hR5 ⊢
    have HC5 := Aside0.mk (R_reads' hR5).2.2
    have HB5 := Aside0.mk hb5
    clear hR5 hb5 HW4 HB4 HR4 CUT
    go_wp2_with fail
    go_loopg [7, 35] NU.length (fun gg v7 v35 wr => ∃ i : Nat, i ≤ NU.length ∧ NU.length - i ≤ gg ∧ v35 = .int .i64 i ∧ Aside0 (OutS W5 (outs ws (NU.take i)) v7 wr))
    case atStart => exact ⟨0, by omega, by omega, rfl, ⟨by first | exact OutS.lit W5 _ | (rw [← HSZ.out]; exact OutS.lit W5 _)⟩⟩
    case round =>
      obtain ⟨i, hi, hgg, rfl, HO⟩ := hrel
      obtain ⟨A', c', rfl, hR1, hk1, hb1⟩ := HO.out
      by_cases hlt : i < NU.length
      · have t1 : (i : Int) < NU.length := by omega
        have t0 : 0 ≤ (i : Int) := by omega
        obtain ⟨ad, hA2, c9⟩ := at_int (C_below HC5.out hb1) (i : Int) t0 (by omega)
        rw [Int.toNat_natCast] at c9
        cases hA2
        have c9b := c9
        try simp only [Addr.add, Nat.zero_add] at c9b
        have HI := Aside0.mk (HI64.out _ (rd_mem NU i hlt))
        have HT := Aside0.mk (itoa_ _ HI.out wr ((HE.out.below HB5.out).below hb1))
        have HR1 := Aside0.mk (hR1.alloc (.cells #[.string ⟨(Lib.itoa (rd NU i)).toArray⟩] 9))
        have HB1 := Aside0.mk hb1
        have HK1 := Aside0.mk hk1
        have HLT := Aside0.mk (And.intro hlt hgg)
        have W3 := Aside0.mk (show wrap64 ((i : Int) + 1) = ((i + 1 : Nat) : Int) by have := HLEN.out; have := HNL.out; unfold wrap64; omega)
        have HOU := Aside0.mk (outs_next ws NU i hlt)
        have HOL := Aside0.mk (outs_len ws (NU.take i))
        have HNT := Aside0.mk (show (NU.take i).length = i by rw [List.length_take]; omega)
        have HR0 := Aside0.mk hR1
        clear hR1 hk1 hb1 HO hlt hgg
        go_wp2_with fail
        refine HT.out.mono ?_
        rintro e w3 ⟨rfl, hb3⟩
        have HR3 := Aside0.mk ((HR0.out.below hb3).alloc (.cells #[.string ⟨(Lib.itoa (rd NU i)).toArray⟩] 9))
        have HB3 := Aside0.mk (below_alloc (below_then HB1.out HB1.out.size hb3) (.cells #[.string ⟨(Lib.itoa (rd NU i)).toArray⟩] 9))
        have HS3 := Aside0.mk (Nat.le_trans HB1.out.size hb3.size)
        have BS := Aside0.mk (heap_alloc_new w3 (.cells #[.string ⟨(Lib.itoa (rd NU i)).toArray⟩] 9))
        clear hb3 c9 c9b
        go_wp2_with (at_builtin; refine wpList_append_info rfl _ _ 38 rfl 9 _ 1 16 Tryd.underlying38 infoS rfl A' _ c' _ (by simp [Act.eval, Act.put]) HR3.out ⟨w3.heap.size, 0, none⟩ 1 1 [.string ⟨(Lib.itoa (rd NU i)).toArray⟩] (by simp [Act.eval, Act.put]) rfl (one_at BS.out) (by simp [Value.oneCell']) (by rw [HOL.out, HNT.out]; have := HLEN.out; have := HNL.out; have := HLT.out; unfold maxLen; omega) (by rw [HOL.out, HNT.out]; have := HLEN.out; have := HNL.out; have := HLT.out; omega) ?_; refine Hid.out ?_)
        refine Lib.hid ?_
        intro A2' c2' w6 hR6 hG6 hk6
        have HR6 := Aside0.mk hR6
        have HB6 := Aside0.mk (hG6.to_below HB3.out HB3.out.size (fun k hk => HK1.out k hk))
        have HK6 := Aside0.mk (show ∀ k, blk A2' k → W5.heap.size ≤ k from fun k hk => (hk6 k hk).elim (HK1.out k) (fun h => by have := HS3.out; have h2 : w3.heap.size + 1 ≤ k := (by simpa using h); omega))
        clear hR6 hG6 hk6
        go_wp2
        go_roundg (NU.length - (i + 1))
        case measure => have := HLT.out; omega
        case rel =>
          refine ⟨i + 1, by have := HLT.out; omega, by have := HLT.out; omega, by rw [W3.out], ⟨A2', c2', ?_, ?_, HK6.out, HB6.out⟩⟩
          · rw [HOU.out, List.length_append]; rfl
          · rw [HOU.out, List.length_append, List.map_append]
            exact HR6.out
      · obtain rfl : i = NU.length := by omega
        have t1 : ¬ ((NU.length : Int)) < (NU.length : Int) := by omega
        have HOL := Aside0.mk (outs_len ws (NU.take NU.length))
        rw [List.take_length] at hR1 HOL ⊢
        obtain ⟨g, off, cur, rfl, hg, -, hcl⟩ := hR1.at_ (by rw [HOL.out]; omega)
        have HJ := Aside0.mk (join_ g off c' (outs ws NU) wr (fun j y hy => (hcl j (.string y) (by rw [List.getElem?_map, hy]; rfl)).1) (Array.getElem?_eq_some_iff.1 hg).1
          (by rw [HOL.out]; have := HLEN.out; have := HNL.out; omega) hR1.2.1 (by have := line_len ws NU HWL.out HI64.out; rw [outs_data]; have := HLEN.out; have := HNL.out; omega))
        have HB1 := Aside0.mk (HB5.out.trans (Below.low hb1 HB5.out.size))
        have HLI := Aside0.mk (show lineB x = Lib.join ((outs ws NU).map (·.data.toList)) [32] by rw [outs_data, HLINE.out])
        clear hR1 hk1 hb1 HO hcl
        go_wp2_with fail
        refine HJ.out.mono ?_
        rintro e w4 ⟨rfl, hb4⟩
        go_wp2
        go_ret
        exact ⟨by have h := HLI.out; rw [h]; first | done | rfl, below_then HB1.out HB1.out.size hb4⟩
end Go.Proofs.YtefcjnnngaaihaaDoor.Pg
