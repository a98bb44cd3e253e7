/- TableOrder: the walk. -/
import Derived.Test.YtagdgkimjgomlaaTb7
import Derived.Deep.RegionHeld3
namespace Go.Proofs.Ytagdgkimjgomlaa.Ln
open Go.RowKit Go.Proofs.YtagdgkimjgomlaaW.PrintWords Go.Proofs.YtagdgkimjgomlaaW.PrintLast Go.Proofs.YtagdgkimjgomlaaW.PrintMore Go.Proofs.Ytagdgkimjgomlaa.PMd
open Go.Maps
open Go.Sort (grow)
set_option linter.unusedVariables false
set_option linter.unusedSimpArgs false
theorem rdL_getD (l : List L) (i : Nat) : rd_T38 l (i : Int) = l.getD i z38 := by simp [rd_T38]
theorem getD_mem4 {l : List Op4} {i : Nat} (h : i < l.length) : l.getD i zOp4 ∈ l := by
  rw [List.getD_eq_getElem?_getD, List.getElem?_eq_getElem h]; exact List.getElem_mem h
theorem getD_rep (n i : Nat) : (List.replicate n zL).getD i zL = zL := by
  rw [List.getD_eq_getElem?_getD, List.getElem?_replicate]
  split <;> rfl
theorem linv_rep (n : Nat) : LInv (List.replicate n zL) := fun i _ => by rw [getD_rep]; exact inv_nil
set_option maxHeartbeats 8000000 in
set_option maxRecDepth 100000 in
theorem order_bad (nodes : Int) (A : Option Addr) (c : Nat) (l : List Op4) (who : Int) (w : World) (h : nodes < 1 ∨ nodes > 60 ∨ 300 < l.length ∨ who < 0) :
    Calls Try.prog 3 #[.int .i64 nodes, .slice A l.length c, .int .i64 who] w fun e w' => e = .returned (.bool true) ∧ Below w.heap.size w w' := by
  have key : ∀ a b c1 d : Bool, decide (nodes < 1) = a → decide (nodes > 60) = b → decide (l.length > 300) = c1 → decide (who < 0) = d → (a || b || c1 || d) = true →
      Calls Try.prog 3 #[.int .i64 nodes, .slice A l.length c, .int .i64 who] w fun e w' => e = .returned (.bool true) ∧ Below w.heap.size w w' := by
    intro a b c1 d ha hb hc hd h
    have hc' : decide ((l.length : Int) > 300) = c1 := by rw [← hc]; exact decide_eq_decide.2 (by omega)
    clear hc
    cases a with
    | true =>
      go_enter Try.func3, Try.ntmps3
      go_wp2_with fail
      refine (firstT_ w).mono ?_
      rintro e w1 ⟨rfl, hb1⟩
      have HB := Aside0.mk hb1
      clear hb1
      go_wp2_with fail
      refine (firstT_ w1).mono ?_
      rintro e w2 ⟨rfl, hb2⟩
      have HB2 := Aside0.mk (below_then HB.out HB.out.size hb2)
      clear hb2
      go_wp2
      go_ret
      exact ⟨rfl, HB2.out⟩
    | false =>
    cases b with
    | true =>
      go_enter Try.func3, Try.ntmps3
      go_wp2_with fail
      refine (firstT_ w).mono ?_
      rintro e w1 ⟨rfl, hb1⟩
      have HB := Aside0.mk hb1
      clear hb1
      go_wp2_with fail
      refine (firstT_ w1).mono ?_
      rintro e w2 ⟨rfl, hb2⟩
      have HB2 := Aside0.mk (below_then HB.out HB.out.size hb2)
      clear hb2
      go_wp2
      go_ret
      exact ⟨rfl, HB2.out⟩
    | false =>
    cases c1 with
    | true =>
      go_enter Try.func3, Try.ntmps3
      go_wp2_with fail
      refine (firstT_ w).mono ?_
      rintro e w1 ⟨rfl, hb1⟩
      have HB := Aside0.mk hb1
      clear hb1
      go_wp2_with fail
      refine (firstT_ w1).mono ?_
      rintro e w2 ⟨rfl, hb2⟩
      have HB2 := Aside0.mk (below_then HB.out HB.out.size hb2)
      clear hb2
      go_wp2
      go_ret
      exact ⟨rfl, HB2.out⟩
    | false =>
    cases d with
    | true =>
      go_enter Try.func3, Try.ntmps3
      go_wp2_with fail
      refine (firstT_ w).mono ?_
      rintro e w1 ⟨rfl, hb1⟩
      have HB := Aside0.mk hb1
      clear hb1
      go_wp2_with fail
      refine (firstT_ w1).mono ?_
      rintro e w2 ⟨rfl, hb2⟩
      have HB2 := Aside0.mk (below_then HB.out HB.out.size hb2)
      clear hb2
      go_wp2
      go_ret
      exact ⟨rfl, HB2.out⟩
    | false => cases h
  refine key _ _ _ _ rfl rfl rfl rfl ?_
  simp only [Bool.or_eq_true, decide_eq_true_eq]
  omega
set_option maxHeartbeats 8000000 in
set_option maxRecDepth 100000 in
theorem order_in (n : Nat) (A : Option Addr) (c : Nat) (l : List Op4) (who : Int) (w : World) (hr : Kd.C kOp4 w A l.length l) (hc : l.length ≤ c) (hl : ∀ x ∈ l, ok64 x.f0 ∧ ok64 x.f1 ∧ ok64 x.f2 ∧ ok64 x.f3) (hw : ok64 who) (n1 : 1 ≤ n) (n2 : n ≤ 60) (h1 : l.length ≤ 300) (h2 : 0 ≤ who) :
    Calls Try.prog 3 #[.int .i64 (n : Int), .slice A l.length c, .int .i64 who] w fun e w' => e = .returned (.bool true) ∧ Below w.heap.size w w' := by
  have mixed : Try.prog.follows Departure.mixedOrders = true := by kernel_rfl
  have hu33 := Try.underlying33
  have hu38 := Try.underlying38
  have HR := Aside0.mk hr
  have HN := Aside0.mk (And.intro n2 (And.intro h1 hc))
  have HW := Aside0.mk hl
  have b1 : decide ((n : Int) < 1) = false := decide_eq_false (by omega)
  have b2 : decide ((n : Int) > 60) = false := decide_eq_false (by omega)
  have b3 : decide ((l.length : Int) > 300) = false := decide_eq_false (by omega)
  have b4 : decide (who < 0) = false := decide_eq_false (by omega)
  have HNew := Aside0.mk (fun W => NewT_ n 4096 W n1 (by omega) (by decide) (by decide))
  clear hr hc hl n1 n2 h1 h2
  go_enter Try.func3, Try.ntmps3
  go_wp2_with fail
  refine (firstT_ w).mono ?_
  rintro e w1 ⟨rfl, hb1⟩
  have HB1 := Aside0.mk hb1
  clear hb1
  go_wp2_with fail
  refine (HNew.out w1).mono ?_
  rintro e w2 ⟨rfl, hT, hb⟩
  have HT := Aside0.mk (hT.mono (F' := fun k => w.heap.size ≤ k) (fun k _ hk => Nat.le_trans HB1.out.size hk))
  have HB := Aside0.mk (below_then HB1.out HB1.out.size hb)
  clear hT hb HNew b1 b2 b3 b4
  generalize w1.heap.size + 1 = B at HT ⊢
  go_wp2_with fail
  go_loopg [9] l.length (fun gg v wr => ∃ (i : Nat) (ls : List LS) (f : At), i ≤ l.length ∧ l.length - i ≤ gg ∧ v = .int .i64 i ∧ Aside0 (IsTab wr B (fun k => w.heap.size ≤ k) ls 4096 i f) ∧ Aside0 (Below w.heap.size w wr) ∧
    Aside0 (ls.length = n ∧ LInv ls ∧ ∀ j, j < ls.length → (ls.getD j zL).1.length + (ls.getD j zL).2.length ≤ i))
  case atStart => exact ⟨0, _, _, by omega, by omega, rfl, HT, HB, ⟨List.length_replicate, linv_rep n, fun j _ => by rw [getD_rep]; exact Nat.le_refl _⟩⟩
  case round =>
    clear HT HB HB1
    obtain ⟨i, ls, f, hi, hgg, rfl, HT, HB, HV⟩ := hrel
    by_cases hlt : i < l.length
    · have t1 : (i : Int) < l.length := by omega
      have t0 : 0 ≤ (i : Int) := by omega
      obtain ⟨ad, rfl, q0, q1, q2, q3⟩ := at_Op4 HR.out i hlt
      have HWo := Aside0.mk (HW.out _ (getD_mem4 hlt))
      have HTx := Aside0.mk (HT.out.mono (F' := fun k => w.heap.size ≤ k ∧ k < wr.heap.size) (fun k hk h => ⟨h, hk⟩))
      have hn60 := HN.out.1
      have hn300 := HN.out.2.1
      have HH := Aside0.mk (HeldT_ HTx.out (by rw [HV.out.1]; omega) who)
      have HS := Aside0.mk (small_of (n := 300) (by rw [HV.out.1]; omega) (fun j hj => Nat.le_trans (HV.out.2.2 j hj) (by omega)) (by decide))
      have HLT := Aside0.mk (And.intro hlt (And.intro hn60 hn300))
      have HHL := Aside0.mk (show (heldT ls who).length ≤ 60 from Nat.le_trans (held_len ls who _) (by rw [HV.out.1]; exact hn60))
      generalize l.getD i zOp4 = o at q0 q1 q2 q3 HWo
      have HQ := Aside0.mk (And.intro q0 (And.intro q1 (And.intro q2 q3)))
      have W3 := Aside0.mk (show wrap64 ((i : Int) + 1) = ((i + 1 : Nat) : Int) by unfold wrap64; omega)
      -- what the Ask makes, in plain words
      have HP := Aside0.mk (show (askT ls 4096 f o.f1 o.f2 o.f3).2.2.1.length = n ∧ LInv (askT ls 4096 f o.f1 o.f2 o.f3).2.2.1 ∧ (∀ j, j < (askT ls 4096 f o.f1 o.f2 o.f3).2.2.1.length → ((askT ls 4096 f o.f1 o.f2 o.f3).2.2.1.getD j zL).1.length + ((askT ls 4096 f o.f1 o.f2 o.f3).2.2.1.getD j zL).2.length ≤ i + 1) ∧
          (o.f1 ≠ who → heldT (askT ls 4096 f o.f1 o.f2 o.f3).2.2.1 who = heldT ls who) ∧
          (o.f1 = who → (askT ls 4096 f o.f1 o.f2 o.f3).2.1 = 0 → (askT ls 4096 f o.f1 o.f2 o.f3).1 = 1 → md o.f3 ∧ supM (holdsT (askT ls 4096 f o.f1 o.f2 o.f3).2.2.1 who o.f2) o.f3 = holdsT (askT ls 4096 f o.f1 o.f2 o.f3).2.2.1 who o.f2) from
        ⟨(askT_len _ _ _ _ _ _).trans HV.out.1, askT_inv HV.out.2.1 _ _ _ _ _, askT_size HV.out.2.2 _ _ _ _ _, fun h => held_other HV.out.2.1 _ _ (fun e => h e.symm), fun e h1 h2 => by subst e; exact ask_covers HV.out.2.1 _ _ _ _ _ h1 h2⟩)
      clear q0 q1 q2 q3 hn60 hn300
      go_wp2_with fail
      refine HH.out.mono ?_
      rintro e w2 ⟨A1, c1, rfl, hR, hk, hb⟩
      have hbd := below_then hb hb.size (below_drew (Below.refl w2.heap.size w2))
      have HA := Aside0.mk (AskT_ (HTx.out.below hbd) HS.out (by have := HLT.out; omega) o.f1 o.f2 o.f3 HWo.out.2.1)
      have HR2 := Aside0.mk (show Row w2.drew 38 2 A1 (heldT ls who).length c1 (flatL (heldT ls who)) from hR.drewN 1)
      have HK2 := Aside0.mk hk
      have HB2 := Aside0.mk (below_then HB.out HB.out.size hbd)
      have HZ2 := Aside0.mk hbd.size
      have q1 := cell_be HQ.out.2.1 (below_then HB.out HB.out.size hb)
      have q2 := cell_be HQ.out.2.2.1 (below_then HB.out HB.out.size hb)
      have q3 := cell_be HQ.out.2.2.2 (below_then HB.out HB.out.size hb)
      clear hR hk hb hbd HH HT HB HTx HV HS
      generalize heldT ls who = H1 at HP HR2 HHL ⊢
      generalize (askT ls 4096 f o.f1 o.f2 o.f3) = R at HP HA
      go_wp2_with fail
      go_region_held3 (fun W => W.cell? ⟨(ad.add (i * 4)).block, (ad.add (i * 4)).off + 1, none⟩ = some (.int .i64 o.f1) ∧ W.cell? ⟨(ad.add (i * 4)).block, (ad.add (i * 4)).off + 2, none⟩ = some (.int .i64 o.f2) ∧ W.cell? ⟨(ad.add (i * 4)).block, (ad.add (i * 4)).off + 3, none⟩ = some (.int .i64 o.f3))
        (first | exact ⟨q1, q2, q3⟩ | exact ⟨n1, n2, n3⟩)
        (first | (go_at_call 23; refine HA.out.mono ?_; rintro e w5 ⟨rfl, hT5, hG5⟩; have HB5 := Aside0.mk (hG5.to_below HB2.out HB2.out.size (fun k hk => hk.1)); have n1 := cell_be HQ.out.2.1 HB5.out; have n2 := cell_be HQ.out.2.2.1 HB5.out; have n3 := cell_be HQ.out.2.2.2 HB5.out))
      clear q1 q2 q3 n1 n2 n3
      obtain ⟨r, er, ls2, f2⟩ := R
      have HT5 := Aside0.mk (hT5.mono (F' := fun k => w.heap.size ≤ k) (fun k _ hk => hk.elim (fun h => h.1) (fun h => Nat.le_trans HB2.out.size h)))
      have HR5 := Aside0.mk (HR2.out.grew hG5 (fun k hk h => by have h1 := HK2.out k hk; have h2 := h.2; omega))
      have HH5 := Aside0.mk (HeldT_ HT5.out (by rw [HP.out.1]; have := HLT.out; omega) who)
      have HHM := Aside0.mk (show (heldT ls2 who).length ≤ 60 from Nat.le_trans (held_len ls2 who _) (by rw [HP.out.1]; exact HLT.out.2.1))
      have HHA := Aside0.mk (And.intro (fun k (hk : k < (heldT ls2 who).length) => held_at hk) (fun k (hk : k + 1 < (heldT ls2 who).length) => held_rise hk))
      have HP5 := Aside0.mk HP.out
      clear hT5 hG5 HA HR2 HK2 HB2 HZ2 HP
      dsimp only at HP5 HT5 ⊢
      generalize heldT ls2 who = H2 at HH5 HHM HHA HP5
      go_wp2_with fail
      refine HH5.out.mono ?_
      rintro e w7 ⟨A2, c2, rfl, hR, -, hb⟩
      have HR7 := Aside0.mk hR
      have HR7a := Aside0.mk (HR5.out.below hb)
      have HT7 := Aside0.mk (HT5.out.below hb)
      have HB7 := Aside0.mk (below_then HB5.out HB5.out.size hb)
      have q1 := cell_be HQ.out.2.1 HB7.out
      clear hR hb HH5 HR5 HT5 HB5
      by_cases hwho : o.f1 = who
      · have e1 : (o.f1 != who) = false := bne_eq_false_iff_eq.2 hwho
        have e2 : (o.f1 == who) = true := beq_iff_eq.2 hwho
        have HPc := Aside0.mk (HP5.out.2.2.2.2 hwho)
        clear hwho
        by_cases her : er = 0
        · have e3 : (er == 0) = true := beq_iff_eq.2 her
          by_cases hr1 : r = 1
          · have e4 : (r == 1) = true := beq_iff_eq.2 hr1
            have HC := Aside0.mk (HPc.out her hr1)
            clear her hr1 HPc
            go_wp2_with fail
            have q1' := fun d os => cell_gr q1 d os
            have q2 := cell_be HQ.out.2.2.1 HB7.out
            have q2' := fun d os => cell_gr q2 d os
            have q3 := cell_be HQ.out.2.2.2 HB7.out
            have q3' := fun d os => cell_gr q3 d os
            have HHo := Aside0.mk (fun d os => HoldsT_ (HT7.out.below (below_gr w7 d os)) who o.f2)
            have HCo := Aside0.mk (fun d os => Covers_ (holdsT ls2 who o.f2) o.f3 (grow (wat w7 d) os) (told_md_T HP5.out.2.1 who o.f2) HC.out.1 HC.out.2)
            generalize holdsT ls2 who o.f2 = hv at HHo HCo
            refine wp_region_gr mixed (by kernel_rfl) ?_
            repeat (go_big_quiet_step (first | exact Calls.gr_of (HHo.out _ _) | exact Calls.gr_of (HCo.out _ _)))
            refine wpQuiet_nil ?_
            intro _ hw'
            obtain ⟨⟨d, os⟩, rfl⟩ := hw'
            clear q1' q2' q3' q2 q3 HHo HCo HC
            have HR9 := Aside0.mk (HR7.out.below (below_gr w7 d os)).readsL
            have HT9 := Aside0.mk (HT7.out.below (below_gr w7 d os))
            have HB9 := Aside0.mk (below_then HB7.out HB7.out.size (below_gr w7 d os))
            have hc9 := HR7.out.2.1
            clear HR7 HT7 HB7 q1
            generalize grow (wat w7 d) os = w9 at HR9 HT9 HB9 ⊢
            go_wp2_with fail
            go_loopg [14] H2.length (fun gg v wr => ∃ k : Nat, k ≤ H2.length ∧ H2.length - k ≤ gg ∧ v = .int .i64 k ∧ Aside0 (Kd.C k38 wr A2 H2.length H2) ∧ Aside0 (IsTab wr B (fun k => w.heap.size ≤ k) ls2 4096 (i + 1) f2) ∧ Aside0 (Below w.heap.size w wr))
            case atStart => exact ⟨0, by omega, by omega, rfl, HR9, HT9, HB9⟩
            case round => as_aux_lemma =>
              clear HR9 HT9 HB9
              obtain ⟨k, hk, hgk, rfl, HRk, HTk, HBk⟩ := hrel
              by_cases hlk : k < H2.length
              · have s1 : (k : Int) < H2.length := by omega
                have s0 : 0 ≤ (k : Int) := by omega
                obtain ⟨ad2, rfl, p0, p1⟩ := at_T38 HRk.out (k : Int) (by omega) (by omega)
                simp only [Int.toNat_natCast, rdL_getD] at p0 p1
                have HAt := Aside0.mk (HHA.out.1 k hlk)
                have WK := Aside0.mk (show wrap64 ((k : Int) + 1) = ((k + 1 : Nat) : Int) by have := HHM.out; unfold wrap64; omega)
                have HHk := Aside0.mk (fun d os => HoldsT_ (HTk.out.below (below_gr wr d os)) who (H2.getD k z38).f0)
                have p0' := fun d os => cell_gr p0 d os
                have p1' := fun d os => cell_gr p1 d os
                by_cases hk0 : k = 0
                · have g1 : decide ((k : Int) > 0) = false := decide_eq_false (by omega)
                  have G1 := Aside0.mk (show ¬ 0 < k by omega)
                  clear hk0
                  generalize H2.getD k z38 = y at p0 p1 p0' p1' HAt HHk
                  generalize holdsT ls2 who y.f0 = hv at HHk HAt
                  have g2 : (y.f1 != hv) = false := bne_eq_false_iff_eq.2 HAt.out
                  go_wp2_with fail
                  refine wp_region_gr mixed (by kernel_rfl) ?_
                  repeat (first | go_big_quiet_step (exact Calls.gr_of (HHk.out _ _)) | rw [@decide_eq_false (0 < k) _ G1.out])
                  refine wpQuiet_nil ?_
                  intro _ hw'
                  obtain ⟨⟨d, os⟩, rfl⟩ := hw'
                  have hg := below_gr wr d os
                  have HRn := Aside0.mk (Kd.C_below HRk.out hg)
                  have HTn := Aside0.mk (HTk.out.below hg)
                  have HBn := Aside0.mk (below_then HBk.out HBk.out.size hg)
                  clear p0 p1 p0' p1' g1 g2 hg HHk HRk HTk HBk
                  generalize grow (wat wr d) os = wn at HRn HTn HBn ⊢
                  go_wp2
                  go_roundg (H2.length - (k + 1))
                  case measure => omega
                  case rel => exact ⟨k + 1, by omega, by omega, by rw [WK.out], HRn, HTn, HBn⟩
                · obtain ⟨p, rfl⟩ : ∃ p, k = p + 1 := ⟨k - 1, by omega⟩
                  have g1 : decide (((p + 1 : Nat) : Int) > 0) = true := decide_eq_true (by omega)
                  have g1' : (0 : Int) < ((p + 1 : Nat) : Int) := by omega
                  have g1n : (0 < p + 1) = True := eq_true (by omega)
                  have m1 : wrap64 (((p + 1 : Nat) : Int) - 1) = (p : Int) := by have := HHM.out; unfold wrap64; omega
                  have m1' : wrap64 ((p : Int) + 1 - 1) = (p : Int) := by have := HHM.out; unfold wrap64; omega
                  have m3 : IntKind.i64.wrap ((p : Int) + 1 - 1) = (p : Int) := by rw [show (p : Int) + 1 - 1 = (p : Int) by omega]; exact IntWalk.i64_in _ (by have := HHM.out; omega)
                  have m4 : IntKind.i64.wrap (p : Int) = (p : Int) := IntWalk.i64_in _ (by have := HHM.out; omega)
                  have m5 : (p : Int) + 1 - 1 = (p : Int) := by omega
                  have s1' : (p : Int) + 1 < H2.length := by omega
                  have s2 : (p : Int) < H2.length := by omega
                  have s3 : 0 ≤ (p : Int) := by omega
                  have s4 : 0 ≤ (p : Int) + 1 := by omega
                  have hrise := HHA.out.2 p hlk
                  obtain ⟨ad3, had, o0, o1⟩ := at_T38 HRk.out (p : Int) (by omega) (by omega)
                  injection had with had
                  subst had
                  simp only [Int.toNat_natCast, rdL_getD] at o0 o1
                  have o0' := fun d os => cell_gr o0 d os
                  generalize H2.getD (p + 1) z38 = y at p0 p1 p0' p1' HAt HHk hrise
                  generalize H2.getD p z38 = x at o0 o1 o0' hrise
                  generalize holdsT ls2 who y.f0 = hv at HHk HAt
                  have g2 : (y.f1 != hv) = false := bne_eq_false_iff_eq.2 HAt.out
                  have g3 : decide (y.f0 ≤ x.f0) = false := decide_eq_false (by omega)
                  clear hrise
                  go_wp2_with fail
                  refine wp_region_gr mixed (by kernel_rfl) ?_
                  repeat (first | go_big_quiet_step (exact Calls.gr_of (HHk.out _ _)) | simp only [g1n, decide_true, decide_false])
                  refine wpQuiet_nil ?_
                  intro _ hw'
                  obtain ⟨⟨d, os⟩, rfl⟩ := hw'
                  have hg := below_gr wr d os
                  have HRn := Aside0.mk (Kd.C_below HRk.out hg)
                  have HTn := Aside0.mk (HTk.out.below hg)
                  have HBn := Aside0.mk (below_then HBk.out HBk.out.size hg)
                  clear p0 p1 p0' p1' o0 o1 o0' g1 g1' g1n g2 g3 hg HHk HRk HTk HBk m1 m1' m3 m4 m5
                  generalize grow (wat wr d) os = wn at HRn HTn HBn ⊢
                  go_wp2
                  go_roundg (H2.length - (p + 1 + 1))
                  case measure => omega
                  case rel => exact ⟨p + 1 + 1, by omega, by omega, by congr 1; have := HHM.out; unfold wrap64; omega, HRn, HTn, HBn⟩
              · have ek : k = H2.length := by omega
                have s1 : ¬ (k : Int) < H2.length := by omega
                clear ek
                go_wp2
                go_roundg (l.length - (i + 1))
                case measure => have := HLT.out; omega
                case rel => exact ⟨i + 1, ls2, f2, by have := HLT.out; omega, by omega, by rw [W3.out], HTk, HBk, ⟨HP5.out.1, HP5.out.2.1, HP5.out.2.2.1⟩⟩
          · have e4 : (r == 1) = false := beq_eq_false_iff_ne.2 hr1
            clear her hr1 HPc
            go_wp2_with fail
            have q1' := fun d os => cell_gr q1 d os
            refine wp_region_gr mixed (by kernel_rfl) ?_
            repeat (go_big_quiet_step (fail))
            refine wpQuiet_nil ?_
            intro _ hw'
            obtain ⟨⟨d, os⟩, rfl⟩ := hw'
            clear q1'
            have HR9 := Aside0.mk (HR7.out.below (below_gr w7 d os)).readsL
            have HT9 := Aside0.mk (HT7.out.below (below_gr w7 d os))
            have HB9 := Aside0.mk (below_then HB7.out HB7.out.size (below_gr w7 d os))
            have hc9 := HR7.out.2.1
            clear HR7 HT7 HB7 q1
            generalize grow (wat w7 d) os = w9 at HR9 HT9 HB9 ⊢
            go_wp2_with fail
            go_loopg [14] H2.length (fun gg v wr => ∃ k : Nat, k ≤ H2.length ∧ H2.length - k ≤ gg ∧ v = .int .i64 k ∧ Aside0 (Kd.C k38 wr A2 H2.length H2) ∧ Aside0 (IsTab wr B (fun k => w.heap.size ≤ k) ls2 4096 (i + 1) f2) ∧ Aside0 (Below w.heap.size w wr))
            case atStart => exact ⟨0, by omega, by omega, rfl, HR9, HT9, HB9⟩
            case round => as_aux_lemma =>
              clear HR9 HT9 HB9
              obtain ⟨k, hk, hgk, rfl, HRk, HTk, HBk⟩ := hrel
              by_cases hlk : k < H2.length
              · have s1 : (k : Int) < H2.length := by omega
                have s0 : 0 ≤ (k : Int) := by omega
                obtain ⟨ad2, rfl, p0, p1⟩ := at_T38 HRk.out (k : Int) (by omega) (by omega)
                simp only [Int.toNat_natCast, rdL_getD] at p0 p1
                have HAt := Aside0.mk (HHA.out.1 k hlk)
                have WK := Aside0.mk (show wrap64 ((k : Int) + 1) = ((k + 1 : Nat) : Int) by have := HHM.out; unfold wrap64; omega)
                have HHk := Aside0.mk (fun d os => HoldsT_ (HTk.out.below (below_gr wr d os)) who (H2.getD k z38).f0)
                have p0' := fun d os => cell_gr p0 d os
                have p1' := fun d os => cell_gr p1 d os
                by_cases hk0 : k = 0
                · have g1 : decide ((k : Int) > 0) = false := decide_eq_false (by omega)
                  have G1 := Aside0.mk (show ¬ 0 < k by omega)
                  clear hk0
                  generalize H2.getD k z38 = y at p0 p1 p0' p1' HAt HHk
                  generalize holdsT ls2 who y.f0 = hv at HHk HAt
                  have g2 : (y.f1 != hv) = false := bne_eq_false_iff_eq.2 HAt.out
                  go_wp2_with fail
                  refine wp_region_gr mixed (by kernel_rfl) ?_
                  repeat (first | go_big_quiet_step (exact Calls.gr_of (HHk.out _ _)) | rw [@decide_eq_false (0 < k) _ G1.out])
                  refine wpQuiet_nil ?_
                  intro _ hw'
                  obtain ⟨⟨d, os⟩, rfl⟩ := hw'
                  have hg := below_gr wr d os
                  have HRn := Aside0.mk (Kd.C_below HRk.out hg)
                  have HTn := Aside0.mk (HTk.out.below hg)
                  have HBn := Aside0.mk (below_then HBk.out HBk.out.size hg)
                  clear p0 p1 p0' p1' g1 g2 hg HHk HRk HTk HBk
                  generalize grow (wat wr d) os = wn at HRn HTn HBn ⊢
                  go_wp2
                  go_roundg (H2.length - (k + 1))
                  case measure => omega
                  case rel => exact ⟨k + 1, by omega, by omega, by rw [WK.out], HRn, HTn, HBn⟩
                · obtain ⟨p, rfl⟩ : ∃ p, k = p + 1 := ⟨k - 1, by omega⟩
                  have g1 : decide (((p + 1 : Nat) : Int) > 0) = true := decide_eq_true (by omega)
                  have g1' : (0 : Int) < ((p + 1 : Nat) : Int) := by omega
                  have g1n : (0 < p + 1) = True := eq_true (by omega)
                  have m1 : wrap64 (((p + 1 : Nat) : Int) - 1) = (p : Int) := by have := HHM.out; unfold wrap64; omega
                  have m1' : wrap64 ((p : Int) + 1 - 1) = (p : Int) := by have := HHM.out; unfold wrap64; omega
                  have m3 : IntKind.i64.wrap ((p : Int) + 1 - 1) = (p : Int) := by rw [show (p : Int) + 1 - 1 = (p : Int) by omega]; exact IntWalk.i64_in _ (by have := HHM.out; omega)
                  have m4 : IntKind.i64.wrap (p : Int) = (p : Int) := IntWalk.i64_in _ (by have := HHM.out; omega)
                  have m5 : (p : Int) + 1 - 1 = (p : Int) := by omega
                  have s1' : (p : Int) + 1 < H2.length := by omega
                  have s2 : (p : Int) < H2.length := by omega
                  have s3 : 0 ≤ (p : Int) := by omega
                  have s4 : 0 ≤ (p : Int) + 1 := by omega
                  have hrise := HHA.out.2 p hlk
                  obtain ⟨ad3, had, o0, o1⟩ := at_T38 HRk.out (p : Int) (by omega) (by omega)
                  injection had with had
                  subst had
                  simp only [Int.toNat_natCast, rdL_getD] at o0 o1
                  have o0' := fun d os => cell_gr o0 d os
                  generalize H2.getD (p + 1) z38 = y at p0 p1 p0' p1' HAt HHk hrise
                  generalize H2.getD p z38 = x at o0 o1 o0' hrise
                  generalize holdsT ls2 who y.f0 = hv at HHk HAt
                  have g2 : (y.f1 != hv) = false := bne_eq_false_iff_eq.2 HAt.out
                  have g3 : decide (y.f0 ≤ x.f0) = false := decide_eq_false (by omega)
                  clear hrise
                  go_wp2_with fail
                  refine wp_region_gr mixed (by kernel_rfl) ?_
                  repeat (first | go_big_quiet_step (exact Calls.gr_of (HHk.out _ _)) | simp only [g1n, decide_true, decide_false])
                  refine wpQuiet_nil ?_
                  intro _ hw'
                  obtain ⟨⟨d, os⟩, rfl⟩ := hw'
                  have hg := below_gr wr d os
                  have HRn := Aside0.mk (Kd.C_below HRk.out hg)
                  have HTn := Aside0.mk (HTk.out.below hg)
                  have HBn := Aside0.mk (below_then HBk.out HBk.out.size hg)
                  clear p0 p1 p0' p1' o0 o1 o0' g1 g1' g1n g2 g3 hg HHk HRk HTk HBk m1 m1' m3 m4 m5
                  generalize grow (wat wr d) os = wn at HRn HTn HBn ⊢
                  go_wp2
                  go_roundg (H2.length - (p + 1 + 1))
                  case measure => omega
                  case rel => exact ⟨p + 1 + 1, by omega, by omega, by congr 1; have := HHM.out; unfold wrap64; omega, HRn, HTn, HBn⟩
              · have ek : k = H2.length := by omega
                have s1 : ¬ (k : Int) < H2.length := by omega
                clear ek
                go_wp2
                go_roundg (l.length - (i + 1))
                case measure => have := HLT.out; omega
                case rel => exact ⟨i + 1, ls2, f2, by have := HLT.out; omega, by omega, by rw [W3.out], HTk, HBk, ⟨HP5.out.1, HP5.out.2.1, HP5.out.2.2.1⟩⟩
        · have e3 : (er == 0) = false := beq_eq_false_iff_ne.2 her
          clear her HPc
          go_wp2_with fail
          have q1' := fun d os => cell_gr q1 d os
          refine wp_region_gr mixed (by kernel_rfl) ?_
          repeat (go_big_quiet_step (fail))
          refine wpQuiet_nil ?_
          intro _ hw'
          obtain ⟨⟨d, os⟩, rfl⟩ := hw'
          clear q1'
          have HR9 := Aside0.mk (HR7.out.below (below_gr w7 d os)).readsL
          have HT9 := Aside0.mk (HT7.out.below (below_gr w7 d os))
          have HB9 := Aside0.mk (below_then HB7.out HB7.out.size (below_gr w7 d os))
          have hc9 := HR7.out.2.1
          clear HR7 HT7 HB7 q1
          generalize grow (wat w7 d) os = w9 at HR9 HT9 HB9 ⊢
          go_wp2_with fail
          go_loopg [14] H2.length (fun gg v wr => ∃ k : Nat, k ≤ H2.length ∧ H2.length - k ≤ gg ∧ v = .int .i64 k ∧ Aside0 (Kd.C k38 wr A2 H2.length H2) ∧ Aside0 (IsTab wr B (fun k => w.heap.size ≤ k) ls2 4096 (i + 1) f2) ∧ Aside0 (Below w.heap.size w wr))
          case atStart => exact ⟨0, by omega, by omega, rfl, HR9, HT9, HB9⟩
          case round => as_aux_lemma =>
            clear HR9 HT9 HB9
            obtain ⟨k, hk, hgk, rfl, HRk, HTk, HBk⟩ := hrel
            by_cases hlk : k < H2.length
            · have s1 : (k : Int) < H2.length := by omega
              have s0 : 0 ≤ (k : Int) := by omega
              obtain ⟨ad2, rfl, p0, p1⟩ := at_T38 HRk.out (k : Int) (by omega) (by omega)
              simp only [Int.toNat_natCast, rdL_getD] at p0 p1
              have HAt := Aside0.mk (HHA.out.1 k hlk)
              have WK := Aside0.mk (show wrap64 ((k : Int) + 1) = ((k + 1 : Nat) : Int) by have := HHM.out; unfold wrap64; omega)
              have HHk := Aside0.mk (fun d os => HoldsT_ (HTk.out.below (below_gr wr d os)) who (H2.getD k z38).f0)
              have p0' := fun d os => cell_gr p0 d os
              have p1' := fun d os => cell_gr p1 d os
              by_cases hk0 : k = 0
              · have g1 : decide ((k : Int) > 0) = false := decide_eq_false (by omega)
                have G1 := Aside0.mk (show ¬ 0 < k by omega)
                clear hk0
                generalize H2.getD k z38 = y at p0 p1 p0' p1' HAt HHk
                generalize holdsT ls2 who y.f0 = hv at HHk HAt
                have g2 : (y.f1 != hv) = false := bne_eq_false_iff_eq.2 HAt.out
                go_wp2_with fail
                refine wp_region_gr mixed (by kernel_rfl) ?_
                repeat (first | go_big_quiet_step (exact Calls.gr_of (HHk.out _ _)) | rw [@decide_eq_false (0 < k) _ G1.out])
                refine wpQuiet_nil ?_
                intro _ hw'
                obtain ⟨⟨d, os⟩, rfl⟩ := hw'
                have hg := below_gr wr d os
                have HRn := Aside0.mk (Kd.C_below HRk.out hg)
                have HTn := Aside0.mk (HTk.out.below hg)
                have HBn := Aside0.mk (below_then HBk.out HBk.out.size hg)
                clear p0 p1 p0' p1' g1 g2 hg HHk HRk HTk HBk
                generalize grow (wat wr d) os = wn at HRn HTn HBn ⊢
                go_wp2
                go_roundg (H2.length - (k + 1))
                case measure => omega
                case rel => exact ⟨k + 1, by omega, by omega, by rw [WK.out], HRn, HTn, HBn⟩
              · obtain ⟨p, rfl⟩ : ∃ p, k = p + 1 := ⟨k - 1, by omega⟩
                have g1 : decide (((p + 1 : Nat) : Int) > 0) = true := decide_eq_true (by omega)
                have g1' : (0 : Int) < ((p + 1 : Nat) : Int) := by omega
                have g1n : (0 < p + 1) = True := eq_true (by omega)
                have m1 : wrap64 (((p + 1 : Nat) : Int) - 1) = (p : Int) := by have := HHM.out; unfold wrap64; omega
                have m1' : wrap64 ((p : Int) + 1 - 1) = (p : Int) := by have := HHM.out; unfold wrap64; omega
                have m3 : IntKind.i64.wrap ((p : Int) + 1 - 1) = (p : Int) := by rw [show (p : Int) + 1 - 1 = (p : Int) by omega]; exact IntWalk.i64_in _ (by have := HHM.out; omega)
                have m4 : IntKind.i64.wrap (p : Int) = (p : Int) := IntWalk.i64_in _ (by have := HHM.out; omega)
                have m5 : (p : Int) + 1 - 1 = (p : Int) := by omega
                have s1' : (p : Int) + 1 < H2.length := by omega
                have s2 : (p : Int) < H2.length := by omega
                have s3 : 0 ≤ (p : Int) := by omega
                have s4 : 0 ≤ (p : Int) + 1 := by omega
                have hrise := HHA.out.2 p hlk
                obtain ⟨ad3, had, o0, o1⟩ := at_T38 HRk.out (p : Int) (by omega) (by omega)
                injection had with had
                subst had
                simp only [Int.toNat_natCast, rdL_getD] at o0 o1
                have o0' := fun d os => cell_gr o0 d os
                generalize H2.getD (p + 1) z38 = y at p0 p1 p0' p1' HAt HHk hrise
                generalize H2.getD p z38 = x at o0 o1 o0' hrise
                generalize holdsT ls2 who y.f0 = hv at HHk HAt
                have g2 : (y.f1 != hv) = false := bne_eq_false_iff_eq.2 HAt.out
                have g3 : decide (y.f0 ≤ x.f0) = false := decide_eq_false (by omega)
                clear hrise
                go_wp2_with fail
                refine wp_region_gr mixed (by kernel_rfl) ?_
                repeat (first | go_big_quiet_step (exact Calls.gr_of (HHk.out _ _)) | simp only [g1n, decide_true, decide_false])
                refine wpQuiet_nil ?_
                intro _ hw'
                obtain ⟨⟨d, os⟩, rfl⟩ := hw'
                have hg := below_gr wr d os
                have HRn := Aside0.mk (Kd.C_below HRk.out hg)
                have HTn := Aside0.mk (HTk.out.below hg)
                have HBn := Aside0.mk (below_then HBk.out HBk.out.size hg)
                clear p0 p1 p0' p1' o0 o1 o0' g1 g1' g1n g2 g3 hg HHk HRk HTk HBk m1 m1' m3 m4 m5
                generalize grow (wat wr d) os = wn at HRn HTn HBn ⊢
                go_wp2
                go_roundg (H2.length - (p + 1 + 1))
                case measure => omega
                case rel => exact ⟨p + 1 + 1, by omega, by omega, by congr 1; have := HHM.out; unfold wrap64; omega, HRn, HTn, HBn⟩
            · have ek : k = H2.length := by omega
              have s1 : ¬ (k : Int) < H2.length := by omega
              clear ek
              go_wp2
              go_roundg (l.length - (i + 1))
              case measure => have := HLT.out; omega
              case rel => exact ⟨i + 1, ls2, f2, by have := HLT.out; omega, by omega, by rw [W3.out], HTk, HBk, ⟨HP5.out.1, HP5.out.2.1, HP5.out.2.2.1⟩⟩
      · have e1 : (o.f1 != who) = true := bne_iff_ne.2 hwho
        have e2 : (o.f1 == who) = false := beq_eq_false_iff_ne.2 hwho
        obtain rfl := HP5.out.2.2.2.1 hwho
        clear hwho
        have HSL := Aside0.mk (SameLocks_ A1 c1 H2 A2 c2 w7 HR7a.out.readsL HR7a.out.2.1 HR7.out.readsL HR7.out.2.1 (by have := HHM.out; omega))
        go_wp2_with fail
        refine HSL.out.mono ?_
        rintro e w8 ⟨rfl, hd⟩
        obtain ⟨nd, rfl⟩ := hd.out
        have q1'' : (w7.drewN nd).cell? ⟨(ad.add (i * 4)).block, (ad.add (i * 4)).off + 1, none⟩ = some (.int .i64 o.f1) := q1
        have HR8 := Aside0.mk (HR7.out.drewN nd)
        have HT8 := Aside0.mk (HT7.out.below (pw_below_drewN (Below.refl _ _) nd))
        have HB8 := Aside0.mk (pw_below_drewN HB7.out nd)
        clear hd q1 HSL HR7a HR7 HT7 HB7
        generalize w7.drewN nd = w7 at q1'' HR8 HT8 HB8 ⊢
        have HR7 := Aside0.mk HR8.out
        have HT7 := Aside0.mk HT8.out
        have HB7 := Aside0.mk HB8.out
        clear HR8 HT8 HB8
        go_wp2_with fail
        have q1' := fun d os => cell_gr q1'' d os
        refine wp_region_gr mixed (by kernel_rfl) ?_
        repeat (go_big_quiet_step (fail))
        refine wpQuiet_nil ?_
        intro _ hw'
        obtain ⟨⟨d, os⟩, rfl⟩ := hw'
        clear q1'
        have q1 := q1''
        have HR9 := Aside0.mk (HR7.out.below (below_gr w7 d os)).readsL
        have HT9 := Aside0.mk (HT7.out.below (below_gr w7 d os))
        have HB9 := Aside0.mk (below_then HB7.out HB7.out.size (below_gr w7 d os))
        have hc9 := HR7.out.2.1
        clear HR7 HT7 HB7 q1
        generalize grow (wat w7 d) os = w9 at HR9 HT9 HB9 ⊢
        go_wp2_with fail
        go_loopg [14] H2.length (fun gg v wr => ∃ k : Nat, k ≤ H2.length ∧ H2.length - k ≤ gg ∧ v = .int .i64 k ∧ Aside0 (Kd.C k38 wr A2 H2.length H2) ∧ Aside0 (IsTab wr B (fun k => w.heap.size ≤ k) ls2 4096 (i + 1) f2) ∧ Aside0 (Below w.heap.size w wr))
        case atStart => exact ⟨0, by omega, by omega, rfl, HR9, HT9, HB9⟩
        case round => as_aux_lemma =>
          clear HR9 HT9 HB9
          obtain ⟨k, hk, hgk, rfl, HRk, HTk, HBk⟩ := hrel
          by_cases hlk : k < H2.length
          · have s1 : (k : Int) < H2.length := by omega
            have s0 : 0 ≤ (k : Int) := by omega
            obtain ⟨ad2, rfl, p0, p1⟩ := at_T38 HRk.out (k : Int) (by omega) (by omega)
            simp only [Int.toNat_natCast, rdL_getD] at p0 p1
            have HAt := Aside0.mk (HHA.out.1 k hlk)
            have WK := Aside0.mk (show wrap64 ((k : Int) + 1) = ((k + 1 : Nat) : Int) by have := HHM.out; unfold wrap64; omega)
            have HHk := Aside0.mk (fun d os => HoldsT_ (HTk.out.below (below_gr wr d os)) who (H2.getD k z38).f0)
            have p0' := fun d os => cell_gr p0 d os
            have p1' := fun d os => cell_gr p1 d os
            by_cases hk0 : k = 0
            · have g1 : decide ((k : Int) > 0) = false := decide_eq_false (by omega)
              have G1 := Aside0.mk (show ¬ 0 < k by omega)
              clear hk0
              generalize H2.getD k z38 = y at p0 p1 p0' p1' HAt HHk
              generalize holdsT ls2 who y.f0 = hv at HHk HAt
              have g2 : (y.f1 != hv) = false := bne_eq_false_iff_eq.2 HAt.out
              go_wp2_with fail
              refine wp_region_gr mixed (by kernel_rfl) ?_
              repeat (first | go_big_quiet_step (exact Calls.gr_of (HHk.out _ _)) | rw [@decide_eq_false (0 < k) _ G1.out])
              refine wpQuiet_nil ?_
              intro _ hw'
              obtain ⟨⟨d, os⟩, rfl⟩ := hw'
              have hg := below_gr wr d os
              have HRn := Aside0.mk (Kd.C_below HRk.out hg)
              have HTn := Aside0.mk (HTk.out.below hg)
              have HBn := Aside0.mk (below_then HBk.out HBk.out.size hg)
              clear p0 p1 p0' p1' g1 g2 hg HHk HRk HTk HBk
              generalize grow (wat wr d) os = wn at HRn HTn HBn ⊢
              go_wp2
              go_roundg (H2.length - (k + 1))
              case measure => omega
              case rel => exact ⟨k + 1, by omega, by omega, by rw [WK.out], HRn, HTn, HBn⟩
            · obtain ⟨p, rfl⟩ : ∃ p, k = p + 1 := ⟨k - 1, by omega⟩
              have g1 : decide (((p + 1 : Nat) : Int) > 0) = true := decide_eq_true (by omega)
              have g1' : (0 : Int) < ((p + 1 : Nat) : Int) := by omega
              have g1n : (0 < p + 1) = True := eq_true (by omega)
              have m1 : wrap64 (((p + 1 : Nat) : Int) - 1) = (p : Int) := by have := HHM.out; unfold wrap64; omega
              have m1' : wrap64 ((p : Int) + 1 - 1) = (p : Int) := by have := HHM.out; unfold wrap64; omega
              have m3 : IntKind.i64.wrap ((p : Int) + 1 - 1) = (p : Int) := by rw [show (p : Int) + 1 - 1 = (p : Int) by omega]; exact IntWalk.i64_in _ (by have := HHM.out; omega)
              have m4 : IntKind.i64.wrap (p : Int) = (p : Int) := IntWalk.i64_in _ (by have := HHM.out; omega)
              have m5 : (p : Int) + 1 - 1 = (p : Int) := by omega
              have s1' : (p : Int) + 1 < H2.length := by omega
              have s2 : (p : Int) < H2.length := by omega
              have s3 : 0 ≤ (p : Int) := by omega
              have s4 : 0 ≤ (p : Int) + 1 := by omega
              have hrise := HHA.out.2 p hlk
              obtain ⟨ad3, had, o0, o1⟩ := at_T38 HRk.out (p : Int) (by omega) (by omega)
              injection had with had
              subst had
              simp only [Int.toNat_natCast, rdL_getD] at o0 o1
              have o0' := fun d os => cell_gr o0 d os
              generalize H2.getD (p + 1) z38 = y at p0 p1 p0' p1' HAt HHk hrise
              generalize H2.getD p z38 = x at o0 o1 o0' hrise
              generalize holdsT ls2 who y.f0 = hv at HHk HAt
              have g2 : (y.f1 != hv) = false := bne_eq_false_iff_eq.2 HAt.out
              have g3 : decide (y.f0 ≤ x.f0) = false := decide_eq_false (by omega)
              clear hrise
              go_wp2_with fail
              refine wp_region_gr mixed (by kernel_rfl) ?_
              repeat (first | go_big_quiet_step (exact Calls.gr_of (HHk.out _ _)) | simp only [g1n, decide_true, decide_false])
              refine wpQuiet_nil ?_
              intro _ hw'
              obtain ⟨⟨d, os⟩, rfl⟩ := hw'
              have hg := below_gr wr d os
              have HRn := Aside0.mk (Kd.C_below HRk.out hg)
              have HTn := Aside0.mk (HTk.out.below hg)
              have HBn := Aside0.mk (below_then HBk.out HBk.out.size hg)
              clear p0 p1 p0' p1' o0 o1 o0' g1 g1' g1n g2 g3 hg HHk HRk HTk HBk m1 m1' m3 m4 m5
              generalize grow (wat wr d) os = wn at HRn HTn HBn ⊢
              go_wp2
              go_roundg (H2.length - (p + 1 + 1))
              case measure => omega
              case rel => exact ⟨p + 1 + 1, by omega, by omega, by congr 1; have := HHM.out; unfold wrap64; omega, HRn, HTn, HBn⟩
          · have ek : k = H2.length := by omega
            have s1 : ¬ (k : Int) < H2.length := by omega
            clear ek
            go_wp2
            go_roundg (l.length - (i + 1))
            case measure => have := HLT.out; omega
            case rel => exact ⟨i + 1, ls2, f2, by have := HLT.out; omega, by omega, by rw [W3.out], HTk, HBk, ⟨HP5.out.1, HP5.out.2.1, HP5.out.2.2.1⟩⟩
    · have ei : i = l.length := by omega
      subst ei
      have t1 : ¬ (l.length : Int) < l.length := by omega
      go_wp2_with fail
      refine (firstT_ wr).mono ?_
      rintro e w9 ⟨rfl, hb9⟩
      have HB9 := Aside0.mk (below_then HB.out HB.out.size hb9)
      clear hb9
      go_wp2
      go_ret
      exact ⟨rfl, HB9.out⟩
theorem order_walk (nodes : Int) (A : Option Addr) (c : Nat) (l : List Op4) (who : Int) (w : World) (hwn : ok64 nodes) (hr : Kd.C kOp4 w A l.length l) (hc : l.length ≤ c) (hw : l.length ≤ maxLen) (hl : ∀ x ∈ l, ok64 x.f0 ∧ ok64 x.f1 ∧ ok64 x.f2 ∧ ok64 x.f3) (hww : ok64 who) :
    Calls Try.prog 3 #[.int .i64 nodes, .slice A l.length c, .int .i64 who] w fun e w' => e = .returned (.bool true) ∧ Below w.heap.size w w' := by
  by_cases h : nodes < 1 ∨ nodes > 60 ∨ 300 < l.length ∨ who < 0
  · exact order_bad nodes A c l who w h
  · obtain ⟨n, rfl⟩ : ∃ n : Nat, nodes = n := ⟨nodes.toNat, by omega⟩
    exact order_in n A c l who w hr hc hl hww (by omega) (by omega) (by omega) (by omega)
end Go.Proofs.Ytagdgkimjgomlaa.Ln
