import Derived.Test.YtefcjnnngaaihaaDoorPr4
/- read: a line read. -/
namespace Go.Proofs.YtefcjnnngaaihaaDoor.Pg
open Go.RowKit Go.Proofs.Pg Go.Proofs.YtefcjnnngaaihaaDoor.Ln Go.Proofs.YtefcjnnngaaihaaDoorW.PrintWords Go.Proofs.YtefcjnnngaaihaaDoorW.PrintWords.Kd
set_option linter.unusedVariables false
set_option linter.unusedSimpArgs false

/-- The kinds that are still to be tried. -/
def kl : Nat → List Int
  | 0 => []
  | j + 1 => ((7 : Int) - j) :: kl j
theorem blk_cell {w : World} {k : Nat} {cells : Array Value} {t : TypeId} (h : w.heap[k]? = some (.cells cells t (0, 0))) (i : Nat) : w.cell? ⟨k, i, none⟩ = cells[i]? := by
  simp [World.cell?, h]
theorem five_set {w : World} {g : Nat} {t : TypeId} {a b c d e : Value} (h : w.heap[g]? = some (.cells #[a, b, c, d, e] t (0, 0))) (v0 v1 v2 v3 v4 : Value) :
    (((((w.setCell ⟨g, 0, none⟩ v0).setCell ⟨g, 1, none⟩ v1).setCell ⟨g, 2, none⟩ v2).setCell ⟨g, 3, none⟩ v3).setCell ⟨g, 4, none⟩ v4).heap[g]? = some (.cells #[v0, v1, v2, v3, v4] t (0, 0)) := by
  have h0 := heap_setCell_same w g 0 _ _ v0 h
  have h1 := heap_setCell_same _ g 1 _ _ v1 h0
  have h2 := heap_setCell_same _ g 2 _ _ v2 h1
  have h3 := heap_setCell_same _ g 3 _ _ v3 h2
  exact heap_setCell_same _ g 4 _ _ v4 h3
theorem five_other {w : World} {g k : Nat} (hne : k ≠ g) (v0 v1 v2 v3 v4 : Value) :
    (((((w.setCell ⟨g, 0, none⟩ v0).setCell ⟨g, 1, none⟩ v1).setCell ⟨g, 2, none⟩ v2).setCell ⟨g, 3, none⟩ v3).setCell ⟨g, 4, none⟩ v4).heap[k]? = w.heap[k]? := by
  rw [Below.heap_setCell _ _ _ k hne, Below.heap_setCell _ _ _ k hne, Below.heap_setCell _ _ _ k hne, Below.heap_setCell _ _ _ k hne, Below.heap_setCell _ _ _ k hne]
theorem five_cells {W : World} {g : Nat} {t : TypeId} {a b c d e : Value} (h : W.heap[g]? = some (.cells #[a, b, c, d, e] t (0, 0))) :
    W.cell? ⟨g, 0, none⟩ = some a ∧ W.cell? ⟨g, 1, none⟩ = some b ∧ W.cell? ⟨g, 2, none⟩ = some c ∧ W.cell? ⟨g, 3, none⟩ = some d ∧ W.cell? ⟨g, 4, none⟩ = some e :=
  ⟨blk_cell h 0, blk_cell h 1, blk_cell h 2, blk_cell h 3, blk_cell h 4⟩
def vi (l : List Int) : List Value := l.map (Value.int .i64)
def agg (x : In) (A : Option Addr) (c : Nat) : Value := .agg #[.int .i64 x.k, .int .i64 x.a, .int .i64 x.b, .int .i64 x.c, .slice A x.l.length c]
/-- What read hands back. -/
def Told (w w' : World) (e : Ending) (r : In × Bool) : Prop :=
  ∃ A c, e = .returned (.tuple #[agg r.1 A c, .bool r.2]) ∧ Row w' 3 1 A r.1.l.length c (vi r.1.l) ∧ (∀ k, blk A k → w.heap.size ≤ k) ∧ Below w.heap.size w w'

theorem Row.reads_vi {w : World} {A : Option Addr} {c : Nat} {l : List Int} {e : Nat} (h : Row w e 1 A l.length c (vi l)) : Kd.C (Kd.int .i64) w A l.length l := by
  refine ⟨rfl, by have h1 := h.2.1; have h2 := h.2.2.1; unfold maxLen at h2; omega, fun hn => ?_⟩
  obtain ⟨g, off, cur, rfl, _, _, hc⟩ := h.at_ hn
  refine ⟨_, rfl, fun j p hj => ⟨[.int .i64 p], rfl, rfl, fun i u hu => ?_⟩⟩
  rw [Addr.add_lit]
  match i, hu with
  | 0, hu => obtain rfl : Value.int .i64 p = u := by simpa using hu
             rw [Nat.add_zero]
             show w.cell? ⟨g, off + j * 1, none⟩ = _
             rw [Nat.mul_one]
             exact (hc j _ (by simp [vi, hj])).1
  | i + 1, hu => simp at hu
def OkI (x : In) : Prop := I64 x.a ∧ I64 x.b ∧ I64 x.c ∧ ∀ v ∈ x.l, I64 v
/-- An instruction being filled, in block b. -/
structure XA (W1 wr : World) (b : Nat) (x : In) (i : Nat) (A : Option Addr) (c : Nat) : Prop where
  mem : wr.heap[b]? = some (.cells #[.int .i64 x.k, .int .i64 x.a, .int .i64 x.b, .int .i64 x.c, .slice A x.l.length c] 26 (0, 0))
  row : Row wr 3 1 A x.l.length c (vi x.l)
  own : ∀ k, blk A k → b < k
  few : x.l.length ≤ i
  low : W1.heap.size ≤ b
  below : Below W1.heap.size W1 wr
  ok : OkI x
def XAt (W1 wr : World) (b : Nat) (x : In) (i : Nat) : Prop := ∃ A c, XA W1 wr b x i A c
theorem XA.after {W1 w w' : World} {b : Nat} {x : In} {i : Nat} {A : Option Addr} {c : Nat} (h : XA W1 w b x i A c) (hb : Below w.heap.size w w') : XA W1 w' b x i A c :=
  ⟨(hb.block b (Array.getElem?_eq_some_iff.1 h.mem).1).trans h.mem, h.row.below hb, h.own, h.few, h.low, h.below.trans (Below.low hb h.below.size), h.ok⟩
theorem XA.start {W1 w : World} (kk : Int) (h : Below W1.heap.size W1 w) : XA W1 (w.alloc (.cells #[.int .i64 kk, .int .i64 0, .int .i64 0, .int .i64 0, .slice none 0 0] 26)) w.heap.size { k := kk } 0 none 0 :=
  ⟨heap_alloc_new _ _, Row.zero _ _ _, fun k hk => (by obtain ⟨a, h, _⟩ := hk; cases h), Nat.le_refl _, h.size, below_alloc h _, by unfold OkI I64; simp⟩
theorem XA.put {W1 w : World} {b : Nat} {x : In} {i : Nat} {A : Option Addr} {c : Nat} (h : XA W1 w b x i A c) (f : Nat) (u : Value) (y : In) (hl : y.l = x.l) (ho : OkI y)
    (hs : (#[Value.int .i64 x.k, .int .i64 x.a, .int .i64 x.b, .int .i64 x.c, .slice A x.l.length c] : Array Value).setIfInBounds f u = #[.int .i64 y.k, .int .i64 y.a, .int .i64 y.b, .int .i64 y.c, .slice A y.l.length c]) :
    XA W1 (w.setCell ⟨b, f, none⟩ u) b y (i + 1) A c := by
  have h1 := heap_setCell_same w b f _ _ u h.mem
  rw [hs] at h1
  have hn : ¬ Ln.blk A b := fun hk => Nat.lt_irrefl _ (h.own b hk)
  exact ⟨h1, by rw [hl]; exact h.row.set hn u, h.own, by rw [hl]; exact Nat.le_succ_of_le h.few, h.low, h.below.setCell h.low _, ho⟩
theorem XA.grown {W1 w w6 : World} {b : Nat} {x : In} {i : Nat} {A A2 : Option Addr} {c c2 : Nat} {v : Int} (h : XA W1 w b x i A c) (hv : I64 v)
    (hR : Row w6 3 1 A2 (x.l.length + 1) c2 (vi x.l ++ [.int .i64 v])) (hG : Grew (Ln.blk A) (w.alloc (.cells #[.int .i64 v] 3)) w6) (hk : ∀ k, Ln.blk A2 k → Ln.blk A k ∨ (w.alloc (.cells #[.int .i64 v] 3)).heap.size ≤ k) :
    XA W1 (w6.setCell ⟨b, 4, none⟩ (.slice A2 (x.l.length + 1) c2)) b { x with l := x.l ++ [v] } (i + 1) A2 c2 ∧ w6.cell? ⟨b, 4, none⟩ = some (.slice A x.l.length c) ∧ w6.frozen? ⟨b, 4, none⟩ = false := by
  have hlt : b < w.heap.size := (Array.getElem?_eq_some_iff.1 h.mem).1
  have hm : w6.heap[b]? = some (.cells #[.int .i64 x.k, .int .i64 x.a, .int .i64 x.b, .int .i64 x.c, .slice A x.l.length c] 26 (0, 0)) := by
    rw [hG.block b (by simp; omega) (fun hk => Nat.lt_irrefl _ (h.own b hk)), (below_alloc (Below.refl _ _) _).block b hlt]; exact h.mem
  have hown : ∀ k, Ln.blk A2 k → b < k := fun k hk2 => (hk k hk2).elim (h.own k) (fun h2 => by have h3 : w.heap.size + 1 ≤ k := (by simpa using h2); omega)
  have h1 := heap_setCell_same w6 b 4 _ _ (.slice A2 (x.l.length + 1) c2) hm
  refine ⟨⟨?_, ?_, hown, ?_, h.low, ?_, ?_⟩, (blk_cell hm 4).trans rfl, frozen_of_row w6 b 4 _ _ hm⟩
  · rw [h1]; simp
  · have : (x.l ++ [v]).length = x.l.length + 1 := by simp
    show Row _ _ _ _ (x.l ++ [v]).length _ (vi (x.l ++ [v]))
    rw [this, show vi (x.l ++ [v]) = vi x.l ++ [.int .i64 v] by simp [vi]]
    exact hR.set (fun hk => Nat.lt_irrefl _ (hown b hk)) _
  · have := h.few; simp; omega
  · exact (hG.to_below (below_alloc h.below _) (below_alloc h.below _).size (fun k hk => Nat.le_trans h.low (Nat.le_of_lt (h.own k hk)))).setCell h.low _
  · refine ⟨h.ok.1, h.ok.2.1, h.ok.2.2.1, fun u hu => ?_⟩
    rcases List.mem_append.1 hu with hu | hu
    · exact h.ok.2.2.2 u hu
    · obtain rfl := List.mem_singleton.1 hu; exact hv
theorem XA.cell {W1 w : World} {b : Nat} {x : In} {i : Nat} {A : Option Addr} {c : Nat} (h : XA W1 w b x i A c) (f : Nat) :
    w.cell? ⟨b, f, none⟩ = (#[Value.int .i64 x.k, .int .i64 x.a, .int .i64 x.b, .int .i64 x.c, .slice A x.l.length c] : Array Value)[f]? := blk_cell h.mem f
theorem XA.froz {W1 w : World} {b : Nat} {x : In} {i : Nat} {A : Option Addr} {c : Nat} (h : XA W1 w b x i A c) (f : Nat) : w.frozen? ⟨b, f, none⟩ = false := frozen_of_row w b f _ _ h.mem

theorem splitK_le (c : UInt8) : ∀ (k : Nat) (s y : List UInt8), y ∈ Lib.splitK [c] 0 k s → y.length ≤ s.length
  | 0, s, y, h => by
    simp only [Lib.splitK, List.mem_singleton] at h
    subst h; exact Nat.le_refl _
  | k + 1, s, y, h => by
    unfold Lib.splitK at h
    split at h
    · simp only [List.mem_singleton] at h
      subst h; exact Nat.le_refl _
    · rcases List.mem_cons.1 h with h | h
      · subst h; rw [List.length_take]; exact Nat.min_le_right _ _
      · exact Nat.le_trans (splitK_le c k _ y h) (by rw [List.length_drop]; omega)
theorem piece_le {PS : List ByteArray} {s : ByteArray} (h : PS.map (·.data.toList) = Lib.split s.data.toList [32]) (i : Nat) (hi : i < PS.length) : (PS.getD i ByteArray.empty).size ≤ s.size := by
  have h1 : (PS.getD i ByteArray.empty).data.toList ∈ Lib.splitK [32] 0 (Lib.count s.data.toList [32]) s.data.toList := by
    have h2 : (PS.getD i ByteArray.empty).data.toList ∈ PS.map (·.data.toList) := by
      rw [List.getD_eq_getElem?_getD, List.getElem?_eq_getElem hi]
      exact List.mem_map.2 ⟨PS[i], List.getElem_mem hi, rfl⟩
    rw [h] at h2; exact h2
  have := splitK_le 32 _ _ _ h1
  rw [Lib.size_eq, Lib.size_eq]; exact this
theorem zero_told {w W : World} (hb : Below w.heap.size w W) {b : List UInt8} (h : readB b = ({}, false)) (v0 v1 v2 v3 v4 : Value) :
    Told w (((((W.setCell ⟨w.heap.size, 0, none⟩ v0).setCell ⟨w.heap.size, 1, none⟩ v1).setCell ⟨w.heap.size, 2, none⟩ v2).setCell ⟨w.heap.size, 3, none⟩ v3).setCell ⟨w.heap.size, 4, none⟩ v4)
      (.returned (.tuple #[.agg #[.int .i64 0, .int .i64 0, .int .i64 0, .int .i64 0, .slice none 0 0], .bool false])) (readB b) := by
  rw [h]
  exact ⟨none, 0, rfl, Row.zero _ _ _, fun k hk => (by obtain ⟨a, h, _⟩ := hk; cases h),
    ((((hb.setCell (p := ⟨w.heap.size, 0, none⟩) (Nat.le_refl _) _).setCell (p := ⟨w.heap.size, 1, none⟩) (Nat.le_refl _) _).setCell (p := ⟨w.heap.size, 2, none⟩) (Nat.le_refl _) _).setCell (p := ⟨w.heap.size, 3, none⟩) (Nat.le_refl _) _).setCell (p := ⟨w.heap.size, 4, none⟩) (Nat.le_refl _) _⟩

theorem pc_at {PS : List ByteArray} {w : World} {g : Nat} (h : w.heap[g]? = some (.cells (PS.map Value.string).toArray 9 (0, 0))) (i : Nat) (hi : i < PS.length) :
    w.cell? ⟨g, i, none⟩ = some (.string (PS.getD i ByteArray.empty)) := by
  rw [blk_cell h i]
  simp [List.getElem?_eq_getElem hi, List.getD_eq_getElem?_getD]

set_option maxHeartbeats 8000000 in
set_option maxRecDepth 100000 in
theorem read_ (s : ByteArray) (w : World) (hE : Env w) (hs : s.size ≤ 100000) :
    Calls Tryd.prog 24 #[.string s] w fun e w' => Told w w' e (readB s.data.toList) := by
  have hu := Tryd.underlying26
  have HE := Aside0.mk hE
  have HS := Aside0.mk hs
  have HSP := Aside0.mk (fun W hW => split_ s W (by omega) hW)
  have HPD := Aside0.mk (pieces_data s)
  have HPL := Aside0.mk (show 0 < (pieces s).length by rw [pieces_len]; omega)
  have HPM := Aside0.mk (show (pieces s).length ≤ 200000 by rw [pieces_len]; have := Lib.countB_le ⟨#[32]⟩ (by decide) s.size s (Nat.le_refl _); omega)
  clear hE hs
  go_enter Tryd.func24, Tryd.ntmps24
  go_wp2_with fail
  refine (HSP.out _ (HE.out.below (below_alloc (Below.refl _ _) _))).mono ?_
  rintro e w1 ⟨rfl, rfl⟩
  clear HSP
  generalize pieces s = PS at HPD HPL HPM ⊢
  have HZ := Aside0.mk (show ((w.alloc (.cells #[.int .i64 0, .int .i64 0, .int .i64 0, .int .i64 0, .slice none 0 0] 26)).alloc (.cells (PS.map Value.string).toArray 9)).heap[w.heap.size]? = some (.cells #[.int .i64 0, .int .i64 0, .int .i64 0, .int .i64 0, .slice none 0 0] 26 (0, 0)) by rw [(below_alloc (Below.refl _ _) _).block _ (by simp)]; exact heap_alloc_new _ _)
  have HF := Aside0.mk (show ((w.alloc (.cells #[.int .i64 0, .int .i64 0, .int .i64 0, .int .i64 0, .slice none 0 0] 26)).alloc (.cells (PS.map Value.string).toArray 9)).heap[w.heap.size + 1]? = some (.cells (PS.map Value.string).toArray 9 (0, 0)) by
    have h := heap_alloc_new (w.alloc (.cells #[.int .i64 0, .int .i64 0, .int .i64 0, .int .i64 0, .slice none 0 0] 26)) (.cells (PS.map Value.string).toArray 9)
    have e : (w.alloc (.cells #[.int .i64 0, .int .i64 0, .int .i64 0, .int .i64 0, .slice none 0 0] 26)).heap.size = w.heap.size + 1 := by simp
    rw [e] at h; exact h)
  have HB1 := Aside0.mk (below_alloc (below_alloc (Below.refl w.heap.size w) (.cells #[.int .i64 0, .int .i64 0, .int .i64 0, .int .i64 0, .slice none 0 0] 26)) (.cells (PS.map Value.string).toArray 9))
  have HS1 := Aside0.mk (show ((w.alloc (.cells #[.int .i64 0, .int .i64 0, .int .i64 0, .int .i64 0, .slice none 0 0] 26)).alloc (.cells (PS.map Value.string).toArray 9)).heap.size = w.heap.size + 1 + 1 by simp)
  go_wp2_with fail
  generalize ((w.alloc (.cells #[.int .i64 0, .int .i64 0, .int .i64 0, .int .i64 0, .slice none 0 0] 26)).alloc (.cells (PS.map Value.string).toArray 9)) = W1 at HZ HF HB1 HS1 ⊢
  go_loopg [5] 7 (fun gg v5 wr => ∃ (j : Nat) (kk : Int), kk = 8 - j ∧ j ≤ 7 ∧ j ≤ gg ∧ v5 = .int .i64 kk ∧ Aside0 (tryK s.data.toList (PS.map (·.data.toList)) (kl j) = readB s.data.toList) ∧ Aside0 (Below W1.heap.size W1 wr))
  case atStart => exact ⟨7, 1, by omega, by omega, by omega, rfl, ⟨by rw [HPD.out]; rfl⟩, ⟨Below.refl _ _⟩⟩
  case round =>
    obtain ⟨j, kk, hk, hj, hgg, rfl, HT, HB⟩ := hrel
    have hz := (HB.out.block w.heap.size (by rw [HS1.out]; omega)).trans HZ.out
    cases j with
    | zero =>
      obtain rfl : kk = 8 := by omega
      clear hk hgg hj
      have k0 : wr.cell? ⟨w.heap.size, 0, none⟩ = some (.int .i64 0) := (blk_cell hz 0).trans rfl
      have k1 : wr.cell? ⟨w.heap.size, 1, none⟩ = some (.int .i64 0) := (blk_cell hz 1).trans rfl
      have k2 : wr.cell? ⟨w.heap.size, 2, none⟩ = some (.int .i64 0) := (blk_cell hz 2).trans rfl
      have k3 : wr.cell? ⟨w.heap.size, 3, none⟩ = some (.int .i64 0) := (blk_cell hz 3).trans rfl
      have k4 : wr.cell? ⟨w.heap.size, 4, none⟩ = some (.slice none 0 0) := (blk_cell hz 4).trans rfl
      have j0 := frozen_of_row wr w.heap.size 0 _ _ hz
      have j1 := frozen_of_row wr w.heap.size 1 _ _ hz
      have j2 := frozen_of_row wr w.heap.size 2 _ _ hz
      have j3 := frozen_of_row wr w.heap.size 3 _ _ hz
      have j4 := frozen_of_row wr w.heap.size 4 _ _ hz
      have HZ2 := Aside0.mk hz
      clear hz
      go_wp2
      (try simp only [Exit.inBlock, Exit.then])
      refine bodyPost_ret (results_ct rfl _ _ w.heap.size 26 #[.int .i64 0, .int .i64 0, .int .i64 0, .int .i64 0, .slice none 0 0] (0, 0) _ rfl ?_ hu rfl (by kernel_rfl)) rfl ?_
      · exact five_set HZ2.out _ _ _ _ _
      · rw [← HT.out]
        refine ⟨none, 0, rfl, Row.zero _ _ _, fun k hk => (by obtain ⟨a, h, _⟩ := hk; cases h), ?_⟩
        exact (((((HB1.out.trans (Below.low HB.out HB1.out.size)).setCell (p := ⟨w.heap.size, 0, none⟩) (Nat.le_refl _) _).setCell (p := ⟨w.heap.size, 1, none⟩) (Nat.le_refl _) _).setCell (p := ⟨w.heap.size, 2, none⟩) (Nat.le_refl _) _).setCell (p := ⟨w.heap.size, 3, none⟩) (Nat.le_refl _) _).setCell (p := ⟨w.heap.size, 4, none⟩) (Nat.le_refl _) _
    | succ j =>
      have hk7 : kk = 7 - j := by omega
      have L1 : kk ≤ 7 := by omega
      have HW := Aside0.mk (word_ kk wr)
      have hp := (HB.out.block (w.heap.size + 1) (by rw [HS1.out]; omega)).trans HF.out
      have p0 := pc_at hp 0 HPL.out
      have HJ := Aside0.mk (And.intro hk7 (And.intro hj hgg))
      have HP := Aside0.mk hp
      have HZ2 := Aside0.mk hz
      have HWn := Aside0.mk (word_n kk)
      have HT2 := Aside0.mk (show tryK s.data.toList (PS.map (·.data.toList)) (kk :: kl j) = readB s.data.toList by rw [hk7]; exact HT.out)
      unfold tryK at HT2
      clear hk hj hgg hk7 hp hz HT
      go_wp2_with fail
      refine HW.out.mono ?_
      rintro e w3 ⟨rfl, rfl⟩
      generalize (word kk).1 = ws at HT2 ⊢
      generalize (word kk).2.1 = n at HT2 HWn ⊢
      generalize (word kk).2.2 = m at HT2 ⊢
      have L0 : 0 < PS.length := HPL.out
      generalize hP0 : PS.getD 0 ByteArray.empty = P0 at p0
      have hhd : (PS.map (·.data.toList)).head? = some P0.data.toList := by
        have := HPL.out
        cases PS with
        | nil => simp at this
        | cons a r => simp at hP0; simp [hP0]
      have HHD := Aside0.mk hhd
      clear hP0 hhd
      by_cases hq : P0.toList = ws
      · by_cases hn : n ≤ PS.length - 1
        · rw [if_neg (by rw [HHD.out, ← Lib.toList_data, hq]; simp only [ne_eq, not_true_eq_false, false_or, List.length_map]; omega)] at HT2
          have n1 : (n : Int) ≤ wrap64 ((PS.length : Int) - 1) := by have := HPL.out; have := HPM.out; unfold wrap64; omega
          have HN1 := Aside0.mk hn
          obtain ⟨i9, hi9⟩ : ∃ i, Tryd.prog.info? 9 = some i := by
            cases h : Tryd.prog.info? 9 with
            | none => have := infoS; rw [h] at this; cases this
            | some i => exact ⟨i, rfl⟩
          have hi9s : i9.size = 1 := by have := infoS; rw [hi9] at this; simpa using (congrArg (Option.map (·.2.1)) this)
          have CUT := cut_from (P := Tryd.prog) 38 9 .i64 Tryd.underlying38 hi9 1 hi9s (some ⟨w.heap.size + 1, 0, none⟩) PS.length PS.length 1 (by omega) (by have := HPL.out; omega)
          have HAF := Aside0.mk (fun (h : 1 < PS.length) => show (if PS.length = (1 : Int).toNat then (some ⟨w.heap.size + 1, 0, none⟩ : Option Addr) else (some ⟨w.heap.size + 1, 0, none⟩ : Option Addr).map (·.add ((1 : Int).toNat * 1))) = some ⟨w.heap.size + 1, 1, none⟩ by
            rw [if_neg (by simp; omega)]; simp [Addr.add])
          generalize (if PS.length = (1 : Int).toNat then (some ⟨w.heap.size + 1, 0, none⟩ : Option Addr) else (some ⟨w.heap.size + 1, 0, none⟩ : Option Addr).map (·.add ((1 : Int).toNat * 1))) = AF at CUT HAF
          rw [show (1 : Int).toNat = 1 from rfl] at CUT
          clear hn hi9s
          go_wp2_with fail
          have HLE := Aside0.mk (show (PS.map (·.data.toList)).tail.length = PS.length - 1 by simp)
          generalize hTL : (PS.map (·.data.toList)).tail = TL at HT2 HLE
          have HTL := Aside0.mk hTL
          clear hTL
          have HX0 := Aside0.mk (XA.start kk HB.out)
          go_loopg [43] (PS.length - 1) (fun gg v43 wr2 => ∃ (i : Nat) (x : In), i ≤ PS.length - 1 ∧ PS.length - 1 - i ≤ gg ∧ v43 = .int .i64 i ∧ Aside0 (XAt W1 wr2 w3.heap.size x i) ∧ Aside0 (fill n m x i (TL.drop i) = fill n m { k := kk } 0 TL))
          case atStart => exact ⟨0, { k := kk }, by omega, by omega, rfl, ⟨none, 0, HX0.out⟩, ⟨rfl⟩⟩
          case round =>
            obtain ⟨i, x, hi, hg2, rfl, HXA, HFI⟩ := hrel
            obtain ⟨A, c, hX⟩ := HXA.out
            clear HXA HX0
            by_cases hlt : i < PS.length - 1
            · have t1 : (i : Int) < ((PS.length - 1 : Nat) : Int) := by omega
              have hpw := (hX.below.block (w.heap.size + 1) (by rw [HS1.out]; omega)).trans HF.out
              have c9 := pc_at hpw (i + 1) (by omega)
              have hAF := HAF.out (by omega)
              subst hAF
              have c9b : wr.cell? ⟨w.heap.size + 1, 1 + i, none⟩ = some (.string (PS.getD (i + 1) ByteArray.empty)) := by rw [Nat.add_comm 1 i]; exact c9
              have HDR := Aside0.mk (show TL.drop i = (PS.getD (i + 1) ByteArray.empty).data.toList :: TL.drop (i + 1) by
                have hl : i < TL.length := by rw [HLE.out]; exact hlt
                rw [List.drop_eq_getElem_cons hl]
                congr 1
                have hi1 : i + 1 < PS.length := by omega
                simp only [← HTL.out, List.getElem_tail, List.getElem_map]
                rw [List.getD_eq_getElem?_getD, List.getElem?_eq_getElem hi1]; rfl)
              have HTS := Aside0.mk (show (PS.getD (i + 1) ByteArray.empty).size ≤ 281474976710656 from Nat.le_trans (piece_le HPD.out (i + 1) (by omega)) (by have := HS.out; omega))
              generalize PS.getD (i + 1) ByteArray.empty = T at c9 c9b HDR HTS
              have HX := Aside0.mk hX
              have HLT := Aside0.mk (And.intro hlt hg2)
              have HEN := Aside0.mk ((HE.out.below HB1.out).below (Below.low (HX.out.below) (Nat.le_refl _)))
              have W3 := Aside0.mk (show wrap64 ((i : Int) + 1) = ((i + 1 : Nat) : Int) by have := HPM.out; unfold wrap64; omega)
              clear hX hlt hg2 hpw hi
              cases hat : Lib.atoiAll T.data.toList with
              | «syntax» =>
                have HBA := Aside0.mk (atoi_bad T HTS.out (fun v hv => by rw [hat] at hv; cases hv) wr HEN.out)
                have hfn : fill n m { k := kk } 0 TL = none := by rw [← HFI.out, HDR.out]; simp only [fill, hat]
                rw [hfn] at HT2
                have HRB := Aside0.mk HT2.out.symm
                clear hat hfn HT2
                go_wp2_with fail
                refine HBA.out.mono ?_
                rintro e w4 ⟨⟨xx, tt, N, rfl⟩, hb4⟩
                have HW4 := Aside0.mk (HX.out.below.trans (Below.low hb4 HX.out.below.size))
                clear hb4 c9 c9b
                have hz := (HW4.out.block w.heap.size (by simp [HS1.out]; omega)).trans HZ.out
                have k0 : w4.cell? ⟨w.heap.size, 0, none⟩ = some (.int .i64 0) := (blk_cell hz 0).trans rfl
                have j0 := frozen_of_row w4 w.heap.size 0 _ _ hz
                have k1 : w4.cell? ⟨w.heap.size, 1, none⟩ = some (.int .i64 0) := (blk_cell hz 1).trans rfl
                have j1 := frozen_of_row w4 w.heap.size 1 _ _ hz
                have k2 : w4.cell? ⟨w.heap.size, 2, none⟩ = some (.int .i64 0) := (blk_cell hz 2).trans rfl
                have j2 := frozen_of_row w4 w.heap.size 2 _ _ hz
                have k3 : w4.cell? ⟨w.heap.size, 3, none⟩ = some (.int .i64 0) := (blk_cell hz 3).trans rfl
                have j3 := frozen_of_row w4 w.heap.size 3 _ _ hz
                have k4 : w4.cell? ⟨w.heap.size, 4, none⟩ = some (.slice none 0 0) := (blk_cell hz 4).trans rfl
                have j4 := frozen_of_row w4 w.heap.size 4 _ _ hz
                have HZ3 := Aside0.mk hz
                clear hz
                go_wp2
                (try simp only [Exit.inBlock, Exit.then])
                refine bodyPost_ret (results_ct rfl _ _ w.heap.size 26 #[.int .i64 0, .int .i64 0, .int .i64 0, .int .i64 0, .slice none 0 0] (0, 0) _ rfl ?_ hu rfl (by kernel_rfl)) rfl ?_
                · exact five_set HZ3.out _ _ _ _ _
                · exact zero_told (HB1.out.trans (Below.low HW4.out HB1.out.size)) HRB.out _ _ _ _ _
              | «range» =>
                have HBA := Aside0.mk (atoi_bad T HTS.out (fun v hv => by rw [hat] at hv; cases hv) wr HEN.out)
                have hfn : fill n m { k := kk } 0 TL = none := by rw [← HFI.out, HDR.out]; simp only [fill, hat]
                rw [hfn] at HT2
                have HRB := Aside0.mk HT2.out.symm
                clear hat hfn HT2
                go_wp2_with fail
                refine HBA.out.mono ?_
                rintro e w4 ⟨⟨xx, tt, N, rfl⟩, hb4⟩
                have HW4 := Aside0.mk (HX.out.below.trans (Below.low hb4 HX.out.below.size))
                clear hb4 c9 c9b
                have hz := (HW4.out.block w.heap.size (by simp [HS1.out]; omega)).trans HZ.out
                have k0 : w4.cell? ⟨w.heap.size, 0, none⟩ = some (.int .i64 0) := (blk_cell hz 0).trans rfl
                have j0 := frozen_of_row w4 w.heap.size 0 _ _ hz
                have k1 : w4.cell? ⟨w.heap.size, 1, none⟩ = some (.int .i64 0) := (blk_cell hz 1).trans rfl
                have j1 := frozen_of_row w4 w.heap.size 1 _ _ hz
                have k2 : w4.cell? ⟨w.heap.size, 2, none⟩ = some (.int .i64 0) := (blk_cell hz 2).trans rfl
                have j2 := frozen_of_row w4 w.heap.size 2 _ _ hz
                have k3 : w4.cell? ⟨w.heap.size, 3, none⟩ = some (.int .i64 0) := (blk_cell hz 3).trans rfl
                have j3 := frozen_of_row w4 w.heap.size 3 _ _ hz
                have k4 : w4.cell? ⟨w.heap.size, 4, none⟩ = some (.slice none 0 0) := (blk_cell hz 4).trans rfl
                have j4 := frozen_of_row w4 w.heap.size 4 _ _ hz
                have HZ3 := Aside0.mk hz
                clear hz
                go_wp2
                (try simp only [Exit.inBlock, Exit.then])
                refine bodyPost_ret (results_ct rfl _ _ w.heap.size 26 #[.int .i64 0, .int .i64 0, .int .i64 0, .int .i64 0, .slice none 0 0] (0, 0) _ rfl ?_ hu rfl (by kernel_rfl)) rfl ?_
                · exact five_set HZ3.out _ _ _ _ _
                · exact zero_told (HB1.out.trans (Below.low HW4.out HB1.out.size)) HRB.out _ _ _ _ _
              | ok v =>
                have HV := Aside0.mk (Lib.atoiAll_bounds hat)
                have HCA := Aside0.mk (atoi_ok T v HTS.out hat wr)
                have HFS := Aside0.mk (show fill n m (setN n m x i v) (i + 1) (TL.drop (i + 1)) = fill n m { k := kk } 0 TL by rw [← HFI.out, HDR.out]; simp only [fill, hat])
                clear hat
                go_wp2_with fail
                refine HCA.out.mono ?_
                rintro e w4 ⟨rfl, hb4⟩
                have HX4 := Aside0.mk (HX.out.after hb4)
                clear hb4 c9 c9b
                by_cases hA : i = 0 ∧ 0 < n
                · skip
                  have HSN := Aside0.mk (show setN n m x i v = { x with a := v } by unfold setN;  rw [if_pos (by omega)])
                  have HP := Aside0.mk (HX4.out.put 1 (.int .i64 v) { x with a := v } rfl ⟨HV.out, HX4.out.ok.2.1, HX4.out.ok.2.2.1, HX4.out.ok.2.2.2⟩ rfl)
                  have kf : w4.cell? ⟨w3.heap.size, 1, none⟩ = some (.int .i64 x.a) := (HX4.out.cell 1).trans rfl
                  have jf := HX4.out.froz 1
                  have e0 : ((i : Int) == 0) = true := beq_iff_eq.2 (by omega)
                  have f0 : (i == 0) = true := beq_iff_eq.2 (by omega)
                  have e1 : ((i : Int) == 1) = false := beq_eq_false_iff_ne.2 (by omega)
                  have f1 : (i == 1) = false := beq_eq_false_iff_ne.2 (by omega)
                  have e2 : ((i : Int) == 2) = false := beq_eq_false_iff_ne.2 (by omega)
                  have f2 : (i == 2) = false := beq_eq_false_iff_ne.2 (by omega)
                  have d0 : (0 : Int) < (n : Int) := by omega
                  have g0 : 0 < n := by omega
                  clear hA
                  go_wp2
                  go_roundg (PS.length - 1 - (i + 1))
                  case measure => have := HLT.out; omega
                  case rel => exact ⟨i + 1, { x with a := v }, by have := HLT.out; omega, by have := HLT.out; omega, by rw [W3.out], ⟨A, c, HP.out⟩, ⟨by rw [← HSN.out]; exact HFS.out⟩⟩
                by_cases hB : i = 1 ∧ 1 < n
                · skip
                  have HSN := Aside0.mk (show setN n m x i v = { x with b := v } by unfold setN; rw [if_neg (by omega)];  rw [if_pos (by omega)])
                  have HP := Aside0.mk (HX4.out.put 2 (.int .i64 v) { x with b := v } rfl ⟨HX4.out.ok.1, HV.out, HX4.out.ok.2.2.1, HX4.out.ok.2.2.2⟩ rfl)
                  have kf : w4.cell? ⟨w3.heap.size, 2, none⟩ = some (.int .i64 x.b) := (HX4.out.cell 2).trans rfl
                  have jf := HX4.out.froz 2
                  have e0 : ((i : Int) == 0) = false := beq_eq_false_iff_ne.2 (by omega)
                  have f0 : (i == 0) = false := beq_eq_false_iff_ne.2 (by omega)
                  have e1 : ((i : Int) == 1) = true := beq_iff_eq.2 (by omega)
                  have f1 : (i == 1) = true := beq_iff_eq.2 (by omega)
                  have e2 : ((i : Int) == 2) = false := beq_eq_false_iff_ne.2 (by omega)
                  have f2 : (i == 2) = false := beq_eq_false_iff_ne.2 (by omega)
                  have d1 : (1 : Int) < (n : Int) := by omega
                  have g1 : 1 < n := by omega
                  clear hA hB
                  go_wp2
                  go_roundg (PS.length - 1 - (i + 1))
                  case measure => have := HLT.out; omega
                  case rel => exact ⟨i + 1, { x with b := v }, by have := HLT.out; omega, by have := HLT.out; omega, by rw [W3.out], ⟨A, c, HP.out⟩, ⟨by rw [← HSN.out]; exact HFS.out⟩⟩
                by_cases hC : i = 2 ∧ 2 < n
                · skip
                  have HSN := Aside0.mk (show setN n m x i v = { x with c := v } by unfold setN; rw [if_neg (by omega)]; rw [if_neg (by omega)];  rw [if_pos (by omega)])
                  have HP := Aside0.mk (HX4.out.put 3 (.int .i64 v) { x with c := v } rfl ⟨HX4.out.ok.1, HX4.out.ok.2.1, HV.out, HX4.out.ok.2.2.2⟩ rfl)
                  have kf : w4.cell? ⟨w3.heap.size, 3, none⟩ = some (.int .i64 x.c) := (HX4.out.cell 3).trans rfl
                  have jf := HX4.out.froz 3
                  have e0 : ((i : Int) == 0) = false := beq_eq_false_iff_ne.2 (by omega)
                  have f0 : (i == 0) = false := beq_eq_false_iff_ne.2 (by omega)
                  have e1 : ((i : Int) == 1) = false := beq_eq_false_iff_ne.2 (by omega)
                  have f1 : (i == 1) = false := beq_eq_false_iff_ne.2 (by omega)
                  have e2 : ((i : Int) == 2) = true := beq_iff_eq.2 (by omega)
                  have f2 : (i == 2) = true := beq_iff_eq.2 (by omega)
                  have d2 : (2 : Int) < (n : Int) := by omega
                  have g2 : 2 < n := by omega
                  clear hA hB hC
                  go_wp2
                  go_roundg (PS.length - 1 - (i + 1))
                  case measure => have := HLT.out; omega
                  case rel => exact ⟨i + 1, { x with c := v }, by have := HLT.out; omega, by have := HLT.out; omega, by rw [W3.out], ⟨A, c, HP.out⟩, ⟨by rw [← HSN.out]; exact HFS.out⟩⟩
                have HSN := Aside0.mk (show setN n m x i v = if m then { x with l := x.l ++ [v] } else x by unfold setN; rw [if_neg hA, if_neg hB, if_neg hC])
                rcases (show i = 0 ∨ i = 1 ∨ i = 2 ∨ 3 ≤ i by omega) with h3 | h3 | h3 | h3
                · skip
                  have e0 : ((i : Int) == 0) = true := beq_iff_eq.2 (by omega)
                  have f0 : (i == 0) = true := beq_iff_eq.2 (by omega)
                  have e1 : ((i : Int) == 1) = false := beq_eq_false_iff_ne.2 (by omega)
                  have f1 : (i == 1) = false := beq_eq_false_iff_ne.2 (by omega)
                  have e2 : ((i : Int) == 2) = false := beq_eq_false_iff_ne.2 (by omega)
                  have f2 : (i == 2) = false := beq_eq_false_iff_ne.2 (by omega)
                  have d0 : (n : Int) ≤ 0 := by omega
                  have g0 : n ≤ 0 := by omega
                  clear hA hB hC h3
                  cases m with
                  | false =>
                    have HFS2 := Aside0.mk (show fill n false x (i + 1) (TL.drop (i + 1)) = fill n false { k := kk } 0 TL by have h := HFS.out; rw [HSN.out] at h; simpa using h)
                    go_wp2
                    go_roundg (PS.length - 1 - (i + 1))
                    case measure => have := HLT.out; omega
                    case rel => exact ⟨i + 1, x, by have := HLT.out; omega, by have := HLT.out; omega, by rw [W3.out], ⟨A, c, { HX4.out with few := Nat.le_succ_of_le HX4.out.few }⟩, ⟨HFS2.out⟩⟩
                  | true =>
                    have kf : w4.cell? ⟨w3.heap.size, 4, none⟩ = some (.slice A x.l.length c) := (HX4.out.cell 4).trans rfl
                    have HFS2 := Aside0.mk (show fill n true { x with l := x.l ++ [v] } (i + 1) (TL.drop (i + 1)) = fill n true { k := kk } 0 TL by have h := HFS.out; rw [HSN.out] at h; simpa using h)
                    have HR4 := Aside0.mk (HX4.out.row.alloc (.cells #[.int .i64 v] 3))
                    have BS := Aside0.mk (heap_alloc_new w4 (.cells #[.int .i64 v] 3))
                    go_wp2_with (at_builtin; refine wpList_append_info rfl _ _ 24 rfl 3 _ 1 8 Tryd.underlying24 infoI rfl A x.l.length c _ (by simp [Act.eval, Act.put]) HR4.out ⟨w4.heap.size, 0, none⟩ 1 1 [.int .i64 v] (by simp [Act.eval, Act.put]) rfl (one_at BS.out) (by simp [Value.oneCell']) (by have := HX4.out.few; have := HLT.out; have := HPM.out; unfold maxLen; omega) (by have := HX4.out.few; have := HLT.out; have := HPM.out; omega) ?_; refine Hid.out ?_)
                    refine Lib.hid ?_
                    intro A2 c2 w6 hR6 hG6 hk6
                    have HX6 := Aside0.mk (HX4.out.grown (v := v) HV.out hR6 hG6 (fun k hk => by simpa using hk6 k hk))
                    clear hR6 hG6 hk6 kf
                    have k6 := HX6.out.2.1
                    have j6 := HX6.out.2.2
                    go_wp2
                    go_roundg (PS.length - 1 - (i + 1))
                    case measure => have := HLT.out; omega
                    case rel => exact ⟨i + 1, { x with l := x.l ++ [v] }, by have := HLT.out; omega, by have := HLT.out; omega, by rw [W3.out], ⟨A2, c2, HX6.out.1⟩, ⟨HFS2.out⟩⟩
                · skip
                  have e0 : ((i : Int) == 0) = false := beq_eq_false_iff_ne.2 (by omega)
                  have f0 : (i == 0) = false := beq_eq_false_iff_ne.2 (by omega)
                  have e1 : ((i : Int) == 1) = true := beq_iff_eq.2 (by omega)
                  have f1 : (i == 1) = true := beq_iff_eq.2 (by omega)
                  have e2 : ((i : Int) == 2) = false := beq_eq_false_iff_ne.2 (by omega)
                  have f2 : (i == 2) = false := beq_eq_false_iff_ne.2 (by omega)
                  have d1 : (n : Int) ≤ 1 := by omega
                  have g1 : n ≤ 1 := by omega
                  clear hA hB hC h3
                  cases m with
                  | false =>
                    have HFS2 := Aside0.mk (show fill n false x (i + 1) (TL.drop (i + 1)) = fill n false { k := kk } 0 TL by have h := HFS.out; rw [HSN.out] at h; simpa using h)
                    go_wp2
                    go_roundg (PS.length - 1 - (i + 1))
                    case measure => have := HLT.out; omega
                    case rel => exact ⟨i + 1, x, by have := HLT.out; omega, by have := HLT.out; omega, by rw [W3.out], ⟨A, c, { HX4.out with few := Nat.le_succ_of_le HX4.out.few }⟩, ⟨HFS2.out⟩⟩
                  | true =>
                    have kf : w4.cell? ⟨w3.heap.size, 4, none⟩ = some (.slice A x.l.length c) := (HX4.out.cell 4).trans rfl
                    have HFS2 := Aside0.mk (show fill n true { x with l := x.l ++ [v] } (i + 1) (TL.drop (i + 1)) = fill n true { k := kk } 0 TL by have h := HFS.out; rw [HSN.out] at h; simpa using h)
                    have HR4 := Aside0.mk (HX4.out.row.alloc (.cells #[.int .i64 v] 3))
                    have BS := Aside0.mk (heap_alloc_new w4 (.cells #[.int .i64 v] 3))
                    go_wp2_with (at_builtin; refine wpList_append_info rfl _ _ 24 rfl 3 _ 1 8 Tryd.underlying24 infoI rfl A x.l.length c _ (by simp [Act.eval, Act.put]) HR4.out ⟨w4.heap.size, 0, none⟩ 1 1 [.int .i64 v] (by simp [Act.eval, Act.put]) rfl (one_at BS.out) (by simp [Value.oneCell']) (by have := HX4.out.few; have := HLT.out; have := HPM.out; unfold maxLen; omega) (by have := HX4.out.few; have := HLT.out; have := HPM.out; omega) ?_; refine Hid.out ?_)
                    refine Lib.hid ?_
                    intro A2 c2 w6 hR6 hG6 hk6
                    have HX6 := Aside0.mk (HX4.out.grown (v := v) HV.out hR6 hG6 (fun k hk => by simpa using hk6 k hk))
                    clear hR6 hG6 hk6 kf
                    have k6 := HX6.out.2.1
                    have j6 := HX6.out.2.2
                    go_wp2
                    go_roundg (PS.length - 1 - (i + 1))
                    case measure => have := HLT.out; omega
                    case rel => exact ⟨i + 1, { x with l := x.l ++ [v] }, by have := HLT.out; omega, by have := HLT.out; omega, by rw [W3.out], ⟨A2, c2, HX6.out.1⟩, ⟨HFS2.out⟩⟩
                · skip
                  have e0 : ((i : Int) == 0) = false := beq_eq_false_iff_ne.2 (by omega)
                  have f0 : (i == 0) = false := beq_eq_false_iff_ne.2 (by omega)
                  have e1 : ((i : Int) == 1) = false := beq_eq_false_iff_ne.2 (by omega)
                  have f1 : (i == 1) = false := beq_eq_false_iff_ne.2 (by omega)
                  have e2 : ((i : Int) == 2) = true := beq_iff_eq.2 (by omega)
                  have f2 : (i == 2) = true := beq_iff_eq.2 (by omega)
                  have d2 : (n : Int) ≤ 2 := by omega
                  have g2 : n ≤ 2 := by omega
                  clear hA hB hC h3
                  cases m with
                  | false =>
                    have HFS2 := Aside0.mk (show fill n false x (i + 1) (TL.drop (i + 1)) = fill n false { k := kk } 0 TL by have h := HFS.out; rw [HSN.out] at h; simpa using h)
                    go_wp2
                    go_roundg (PS.length - 1 - (i + 1))
                    case measure => have := HLT.out; omega
                    case rel => exact ⟨i + 1, x, by have := HLT.out; omega, by have := HLT.out; omega, by rw [W3.out], ⟨A, c, { HX4.out with few := Nat.le_succ_of_le HX4.out.few }⟩, ⟨HFS2.out⟩⟩
                  | true =>
                    have kf : w4.cell? ⟨w3.heap.size, 4, none⟩ = some (.slice A x.l.length c) := (HX4.out.cell 4).trans rfl
                    have HFS2 := Aside0.mk (show fill n true { x with l := x.l ++ [v] } (i + 1) (TL.drop (i + 1)) = fill n true { k := kk } 0 TL by have h := HFS.out; rw [HSN.out] at h; simpa using h)
                    have HR4 := Aside0.mk (HX4.out.row.alloc (.cells #[.int .i64 v] 3))
                    have BS := Aside0.mk (heap_alloc_new w4 (.cells #[.int .i64 v] 3))
                    go_wp2_with (at_builtin; refine wpList_append_info rfl _ _ 24 rfl 3 _ 1 8 Tryd.underlying24 infoI rfl A x.l.length c _ (by simp [Act.eval, Act.put]) HR4.out ⟨w4.heap.size, 0, none⟩ 1 1 [.int .i64 v] (by simp [Act.eval, Act.put]) rfl (one_at BS.out) (by simp [Value.oneCell']) (by have := HX4.out.few; have := HLT.out; have := HPM.out; unfold maxLen; omega) (by have := HX4.out.few; have := HLT.out; have := HPM.out; omega) ?_; refine Hid.out ?_)
                    refine Lib.hid ?_
                    intro A2 c2 w6 hR6 hG6 hk6
                    have HX6 := Aside0.mk (HX4.out.grown (v := v) HV.out hR6 hG6 (fun k hk => by simpa using hk6 k hk))
                    clear hR6 hG6 hk6 kf
                    have k6 := HX6.out.2.1
                    have j6 := HX6.out.2.2
                    go_wp2
                    go_roundg (PS.length - 1 - (i + 1))
                    case measure => have := HLT.out; omega
                    case rel => exact ⟨i + 1, { x with l := x.l ++ [v] }, by have := HLT.out; omega, by have := HLT.out; omega, by rw [W3.out], ⟨A2, c2, HX6.out.1⟩, ⟨HFS2.out⟩⟩
                · skip
                  have e0 : ((i : Int) == 0) = false := beq_eq_false_iff_ne.2 (by omega)
                  have f0 : (i == 0) = false := beq_eq_false_iff_ne.2 (by omega)
                  have e1 : ((i : Int) == 1) = false := beq_eq_false_iff_ne.2 (by omega)
                  have f1 : (i == 1) = false := beq_eq_false_iff_ne.2 (by omega)
                  have e2 : ((i : Int) == 2) = false := beq_eq_false_iff_ne.2 (by omega)
                  have f2 : (i == 2) = false := beq_eq_false_iff_ne.2 (by omega)
                  clear hA hB hC h3
                  cases m with
                  | false =>
                    have HFS2 := Aside0.mk (show fill n false x (i + 1) (TL.drop (i + 1)) = fill n false { k := kk } 0 TL by have h := HFS.out; rw [HSN.out] at h; simpa using h)
                    go_wp2
                    go_roundg (PS.length - 1 - (i + 1))
                    case measure => have := HLT.out; omega
                    case rel => exact ⟨i + 1, x, by have := HLT.out; omega, by have := HLT.out; omega, by rw [W3.out], ⟨A, c, { HX4.out with few := Nat.le_succ_of_le HX4.out.few }⟩, ⟨HFS2.out⟩⟩
                  | true =>
                    have kf : w4.cell? ⟨w3.heap.size, 4, none⟩ = some (.slice A x.l.length c) := (HX4.out.cell 4).trans rfl
                    have HFS2 := Aside0.mk (show fill n true { x with l := x.l ++ [v] } (i + 1) (TL.drop (i + 1)) = fill n true { k := kk } 0 TL by have h := HFS.out; rw [HSN.out] at h; simpa using h)
                    have HR4 := Aside0.mk (HX4.out.row.alloc (.cells #[.int .i64 v] 3))
                    have BS := Aside0.mk (heap_alloc_new w4 (.cells #[.int .i64 v] 3))
                    go_wp2_with (at_builtin; refine wpList_append_info rfl _ _ 24 rfl 3 _ 1 8 Tryd.underlying24 infoI rfl A x.l.length c _ (by simp [Act.eval, Act.put]) HR4.out ⟨w4.heap.size, 0, none⟩ 1 1 [.int .i64 v] (by simp [Act.eval, Act.put]) rfl (one_at BS.out) (by simp [Value.oneCell']) (by have := HX4.out.few; have := HLT.out; have := HPM.out; unfold maxLen; omega) (by have := HX4.out.few; have := HLT.out; have := HPM.out; omega) ?_; refine Hid.out ?_)
                    refine Lib.hid ?_
                    intro A2 c2 w6 hR6 hG6 hk6
                    have HX6 := Aside0.mk (HX4.out.grown (v := v) HV.out hR6 hG6 (fun k hk => by simpa using hk6 k hk))
                    clear hR6 hG6 hk6 kf
                    have k6 := HX6.out.2.1
                    have j6 := HX6.out.2.2
                    go_wp2
                    go_roundg (PS.length - 1 - (i + 1))
                    case measure => have := HLT.out; omega
                    case rel => exact ⟨i + 1, { x with l := x.l ++ [v] }, by have := HLT.out; omega, by have := HLT.out; omega, by rw [W3.out], ⟨A2, c2, HX6.out.1⟩, ⟨HFS2.out⟩⟩
            · skip
              obtain rfl : i = PS.length - 1 := by omega
              have t1 : ¬ ((PS.length - 1 : Nat) : Int) < ((PS.length - 1 : Nat) : Int) := by omega
              have hdn : TL.drop (PS.length - 1) = [] := by rw [← HLE.out]; exact List.drop_length
              have hfs : fill n m { k := kk } 0 TL = some x := by rw [← HFI.out, hdn]; rfl
              rw [hfs] at HT2
              have HRB := Aside0.mk (show readB s.data.toList = (x, decide (lineB x = s.data.toList)) from HT2.out.symm)
              have HX := Aside0.mk hX
              have HLN := Aside0.mk (fun W (hb : Below wr.heap.size wr W) => line_ x A c W (((HE.out.below HB1.out).below HX.out.below).below hb) HX.out.ok.1 HX.out.ok.2.1 HX.out.ok.2.2.1 HX.out.ok.2.2.2 (Row.reads_vi ((HX.out.after hb).row)) (by have := HX.out.few; have := HPM.out; omega) HX.out.row.2.1)
              have HSS := Aside0.mk (fun W (hb : Below wr.heap.size wr W) => (show W.cell? ⟨w3.heap.size, 0, none⟩ = some (.int .i64 x.k) ∧ W.cell? ⟨w3.heap.size, 1, none⟩ = some (.int .i64 x.a) ∧ W.cell? ⟨w3.heap.size, 2, none⟩ = some (.int .i64 x.b) ∧ W.cell? ⟨w3.heap.size, 3, none⟩ = some (.int .i64 x.c) ∧ W.cell? ⟨w3.heap.size, 4, none⟩ = some (.slice A x.l.length c) from ⟨(HX.out.after hb).cell 0, (HX.out.after hb).cell 1, (HX.out.after hb).cell 2, (HX.out.after hb).cell 3, (HX.out.after hb).cell 4⟩))
              have HKd := Aside0.mk (below_drew (Below.refl wr.heap.size wr))
              clear hX hfs hdn HT2 hg2 hi hlt
              go_wp2_with fail
              refine wp_region_held_drew (S := (fun W => W.cell? ⟨w3.heap.size, 0, none⟩ = some (.int .i64 x.k) ∧ W.cell? ⟨w3.heap.size, 1, none⟩ = some (.int .i64 x.a) ∧ W.cell? ⟨w3.heap.size, 2, none⟩ = some (.int .i64 x.b) ∧ W.cell? ⟨w3.heap.size, 3, none⟩ = some (.int .i64 x.c) ∧ W.cell? ⟨w3.heap.size, 4, none⟩ = some (.slice A x.l.length c))) (by kernel_rfl) ?_ (fun hH => ?_)
              · exact HSS.out _ HKd.out
              refine wpAnyH_take (i := 0) (oi := { dst := some 92, op := Op.load 26 (Operand.tmp 9), type := 26, pos := "prog.go:141", after := #[], guard := none }) (v := ?vq1) rfl (by kernel_rfl) (by kernel_rfl) (by kernel_rfl) (fun _ _ _ h => h) (Or.inl ⟨by rfl, ?yq1⟩) (by assumption) ?rq1
              case yq1 => (intro w hSw; (try dsimp only at hSw); go_simp; (try with_reducible rfl))
              (try simp only [Act.put, List.setIfInBounds_toArray, List.set_cons_zero, List.set_cons_succ])
              refine wpAnyH_take (i := 1) (oi := { dst := some 93, op := Op.load 26 (Operand.tmp 9), type := 26, pos := "prog.go:141", after := #[], guard := none }) (v := ?vq2) rfl (by kernel_rfl) (by kernel_rfl) (by kernel_rfl) (fun _ _ _ h => h) (Or.inl ⟨by rfl, ?yq2⟩) (by assumption) ?rq2
              case yq2 => (intro w hSw; (try dsimp only at hSw); go_simp; (try with_reducible rfl))
              (try simp only [Act.put, List.setIfInBounds_toArray, List.set_cons_zero, List.set_cons_succ])
              refine wpAnyH_take (i := 3) (oi := { dst := some 95, op := Op.move (Operand.tmp 0), type := 9, pos := "prog.go:141", after := #[{ on := 5, ground := Ground.gcOnly Departure.lateStores }], guard := none }) (v := ?vq3) rfl (by kernel_rfl) (by kernel_rfl) (by kernel_rfl) (fun _ _ _ h => h) (Or.inl ⟨by rfl, ?yq3⟩) (by assumption) ?rq3
              case yq3 => (intro w hSw; (try dsimp only at hSw); go_simp; (try with_reducible rfl))
              (try simp only [Act.put, List.setIfInBounds_toArray, List.set_cons_zero, List.set_cons_succ])
              refine wpAnyH_ready (rs := [2]) (by kernel_rfl) (by simp) ?_
              refine AllReadyH.cons (o := { dst := some 94, op := Op.call { callee := Callee.value (Operand.func 23), args := #[Operand.tmp 93], argTypes := #[26] }, type := 9, pos := "prog.go:141", after := #[{ on := 1, ground := Ground.data }], guard := none }) rfl (fun K hK => ?_) AllReadyH.nil
              go_simp
              (go_at_call 23; (with_reducible refine (HLN.out _ HKd.out).mono ?_); rintro e w5 ⟨rfl, hb5⟩; have K5 := Aside0.mk (below_then HKd.out HKd.out.size hb5))
              go_wp2_with fail
              refine hK.out _ _ ?_ (fun hHq3 => ?_)
              · (try dsimp only)
                exact HSS.out _ K5.out
              clear hK K hH
              (try simp only [Act.put, List.setIfInBounds_toArray, List.set_cons_zero, List.set_cons_succ])
              refine wpAnyH_take (i := 4) (oi := { dst := some 96, op := Op.binOp BinOp.eql 9 (Operand.tmp 94) (Operand.tmp 95) 9, type := 4, pos := "prog.go:141", after := #[{ on := 2, ground := Ground.data }, { on := 3, ground := Ground.data }, { on := 5, ground := Ground.gcOnly Departure.lateStores }], guard := none }) (v := ?vq5) rfl (by kernel_rfl) (by kernel_rfl) (by kernel_rfl) (fun _ _ _ h => h) (Or.inl ⟨by rfl, ?yq5⟩) (by assumption) ?rq5
              case yq5 => (intro w hSw; (try dsimp only at hSw); go_simp; (try with_reducible rfl))
              (try simp only [Act.put, List.setIfInBounds_toArray, List.set_cons_zero, List.set_cons_succ])
              refine wpAnyH_ready (rs := [5]) (by kernel_rfl) (by simp) ?_
              refine AllReadyH.cons (o := { dst := none, op := Op.store 26 (Operand.tmp 2) (Operand.tmp 92), type := 0, pos := "prog.go:141", after := #[{ on := 0, ground := Ground.data }, { on := 2, ground := Ground.chain }, { on := 0, ground := Ground.phase }, { on := 1, ground := Ground.textOnly Departure.lateStores }, { on := 2, ground := Ground.textOnly Departure.lateStoresUnsure }, { on := 3, ground := Ground.textOnly Departure.lateStores }, { on := 4, ground := Ground.textOnly Departure.lateStores }], guard := none }) rfl (fun K hK => ?_) AllReadyH.nil
              have HW4 := Aside0.mk (HX.out.below.trans (Below.low K5.out HX.out.below.size))
              have hz := (HW4.out.block w.heap.size (by simp [HS1.out]; omega)).trans HZ.out
              have k0 : w5.cell? ⟨w.heap.size, 0, none⟩ = some (.int .i64 0) := (blk_cell hz 0).trans rfl
              have j0 := frozen_of_row w5 w.heap.size 0 _ _ hz
              have k1 : w5.cell? ⟨w.heap.size, 1, none⟩ = some (.int .i64 0) := (blk_cell hz 1).trans rfl
              have j1 := frozen_of_row w5 w.heap.size 1 _ _ hz
              have k2 : w5.cell? ⟨w.heap.size, 2, none⟩ = some (.int .i64 0) := (blk_cell hz 2).trans rfl
              have j2 := frozen_of_row w5 w.heap.size 2 _ _ hz
              have k3 : w5.cell? ⟨w.heap.size, 3, none⟩ = some (.int .i64 0) := (blk_cell hz 3).trans rfl
              have j3 := frozen_of_row w5 w.heap.size 3 _ _ hz
              have k4 : w5.cell? ⟨w.heap.size, 4, none⟩ = some (.slice none 0 0) := (blk_cell hz 4).trans rfl
              have j4 := frozen_of_row w5 w.heap.size 4 _ _ hz
              have HZ3 := Aside0.mk hz
              clear hz
              go_simp
              refine hK.out _ _ ?_ (fun hHq5 => ?_)
              · (try dsimp only)
                exact five_cells ((five_other (by have := HX.out.low; have := HS1.out; omega) _ _ _ _ _).trans (HX.out.after K5.out).mem)
              clear hK K hHq3
              (try simp only [Act.put, List.setIfInBounds_toArray, List.set_cons_zero, List.set_cons_succ])
              refine wpAnyH_take (i := 6) (oi := { dst := some 3, op := Op.assign (Operand.tmp 96), type := 4, pos := "prog.go:141", after := #[{ on := 4, ground := Ground.data }, { on := 5, ground := Ground.chain }, { on := 0, ground := Ground.phase }, { on := 1, ground := Ground.phase }, { on := 2, ground := Ground.phase }, { on := 3, ground := Ground.phase }, { on := 4, ground := Ground.phase }, { on := 5, ground := Ground.phase }], guard := none }) (v := ?vq7) rfl (by kernel_rfl) (by kernel_rfl) (by kernel_rfl) (fun _ _ _ h => h) (Or.inl ⟨by rfl, ?yq7⟩) (by assumption) ?rq7
              case yq7 => (intro w hSw; (try dsimp only at hSw); go_simp; (try with_reducible rfl))
              (try simp only [Act.put, List.setIfInBounds_toArray, List.set_cons_zero, List.set_cons_succ])
              refine wpAnyH_done (by kernel_rfl) ?_ _
              clear k0 k1 k2 k3 k4 j0 j1 j2 j3 j4
              go_wp2
              (try simp only [Exit.inBlock, Exit.then])
              refine bodyPost_ret (results_ct rfl _ _ w.heap.size 26 #[.int .i64 x.k, .int .i64 x.a, .int .i64 x.b, .int .i64 x.c, .slice A x.l.length c] (0, 0) _ rfl ?_ hu rfl (by kernel_rfl)) rfl ?_
              · exact five_set HZ3.out _ _ _ _ _
              · rw [HRB.out]
                refine ⟨A, c, ?_, (HX.out.after K5.out).row.move (fun k hk _ => five_other (by have := HX.out.own k hk; have := HX.out.low; have := HS1.out; omega) _ _ _ _ _), fun k hk => by have := HX.out.own k hk; have := HX.out.low; have := HS1.out; omega, ?_⟩
                · have hd : (lineB x == s.toList) = decide (lineB x = s.data.toList) := by
                    rw [Lib.toList_data, Bool.eq_iff_iff]; simp
                  show Ending.returned (.tuple #[agg x A c, .bool (lineB x == s.toList)]) = .returned (.tuple #[agg x A c, .bool (decide (lineB x = s.data.toList))])
                  rw [hd]
                · exact ((((((HB1.out.trans (Below.low HW4.out HB1.out.size)).setCell (p := ⟨w.heap.size, 0, none⟩) (Nat.le_refl _) _).setCell (p := ⟨w.heap.size, 1, none⟩) (Nat.le_refl _) _).setCell (p := ⟨w.heap.size, 2, none⟩) (Nat.le_refl _) _).setCell (p := ⟨w.heap.size, 3, none⟩) (Nat.le_refl _) _).setCell (p := ⟨w.heap.size, 4, none⟩) (Nat.le_refl _) _)
        · skip
          rw [if_pos (Or.inr (by simp only [List.length_map]; omega))] at HT2
          have n1 : wrap64 ((PS.length : Int) - 1) < (n : Int) := by have := HPL.out; have := HPM.out; unfold wrap64; omega
          clear hn
          have W3 := Aside0.mk (show wrap64 (kk + 1) = kk + 1 by have := HJ.out; unfold wrap64; omega)
          go_wp2
          go_roundg j
          case measure => have := HJ.out; omega
          case rel => exact ⟨j, kk + 1, by have := HJ.out.1; omega, by have := HJ.out.2.1; omega, Nat.le_refl _, by rw [W3.out], HT2, HB⟩
      · skip
        rw [if_pos (Or.inl (by rw [HHD.out, ← Lib.toList_data]; simpa using hq))] at HT2
        have W3 := Aside0.mk (show wrap64 (kk + 1) = kk + 1 by have := HJ.out; unfold wrap64; omega)
        go_wp2
        go_roundg j
        case measure => have := HJ.out; omega
        case rel => exact ⟨j, kk + 1, by have := HJ.out.1; omega, by have := HJ.out.2.1; omega, Nat.le_refl _, by rw [W3.out], HT2, HB⟩
end Go.Proofs.YtefcjnnngaaihaaDoor.Pg
