import Derived.Test.YtefcjnnngaaihaaDoorPwW
import Derived.Test.YtefcjnnngaaihaaDoorBmA
/- ProgLines: line by line. -/
namespace Go.Proofs.YtefcjnnngaaihaaDoor.Pg
open Go.RowKit Go.Proofs.Pg Go.Proofs.YtefcjnnngaaihaaDoor.Ln Go.Proofs.YtefcjnnngaaihaaDoorW.PrintWords Go.Proofs.YtefcjnnngaaihaaDoorW.PrintWords.Kd Go.Proofs.YtefcjnnngaaihaaDoor.PPg
set_option linter.unusedVariables false
set_option linter.unusedSimpArgs false
theorem ok_of {l : List S26} (h : ∀ x ∈ l, (Lit.int .i64 x.f0).wf = true ∧ (Lit.int .i64 x.f1).wf = true ∧ (Lit.int .i64 x.f2).wf = true ∧ (Lit.int .i64 x.f3).wf = true ∧ x.f4.length ≤ maxLen ∧ ∀ z ∈ x.f4, (Lit.int .i64 z).wf = true) : ∀ x ∈ l.map ofS, OkI x := by
  intro x hx
  obtain ⟨s, hs, rfl⟩ := List.mem_map.1 hx
  obtain ⟨_, h1, h2, h3, _, h4⟩ := h s hs
  exact ⟨i64_wf h1, i64_wf h2, i64_wf h3, fun v hv => i64_wf (h4 v hv)⟩
theorem Parse_any (A : Option Addr) (c : Nat) (xs : List In) (w : World) (hE : Env w) (hC : Kd.string.C w A (xs.map lnB).length (xs.map lnB)) (hcap : (xs.map lnB).length ≤ c) (hl : xs.length ≤ 1000) (hx : ∀ x ∈ xs, OkI x ∧ x.l.length ≤ 1000) :
    Calls Tryd.prog 16 #[.slice A xs.length c] w fun e w' => Parsed w w' e (parseB (xs.map lineB)) ∧ Below w.heap.size w w' := by
  have h := Parse_ A c (xs.map lnB) w hE hC hcap (by rw [List.length_map]; omega) (fun s hs => by
    obtain ⟨x, hx1, rfl⟩ := List.mem_map.1 hs
    exact lnB_size (hx x hx1).1 (hx x hx1).2)
  rw [lnB_data, List.length_map] at h
  exact h
theorem parse_len : ∀ (l : List (List UInt8)) (xs : List In), parseB l = some xs → xs.length = l.length
  | [], xs, h => by
    simp only [parseB, Option.some.injEq] at h
    subst h; rfl
  | s :: r, xs, h => by
    simp only [parseB] at h
    split at h
    · obtain ⟨ys, h1, rfl⟩ := Option.map_eq_some_iff.1 h
      simp [parse_len r ys h1]
    · cases h
theorem Same_n (A B : Option Addr) (c d n : Nat) (xs ys : List In) (w : World) (hn : xs.length = n) (hl : Kd.C k26 w A xs.length (xs.map toS)) (hm : Kd.C k26 w B ys.length (ys.map toS)) :
    Calls Tryd.prog 17 #[.slice A n c, .slice B ys.length d] w fun e w' => Yes (xs = ys) w w' e := by
  subst hn
  exact Same_ A B c d xs ys w hl hm
theorem infoStr : (Tryd.prog.info? 9).map (fun i => (i.zero, i.size, i.bytes)) = some (some (.string ByteArray.empty), Kd.string.sz, 16) := by kernel_rfl
theorem infoIns : (Tryd.prog.info? 26).map (fun i => (i.zero, i.size, i.bytes)) = some (some (.agg #[.int .i64 0, .int .i64 0, .int .i64 0, .int .i64 0, .slice none 0 0]), k26.sz, 56) := by kernel_rfl
set_option maxHeartbeats 16000000 in
set_option maxRecDepth 100000 in
theorem lines_walk (A B : Option Addr) (cA cB : Nat) (ps qs : List In) (w : World) (hE : Env w) (hA : Kd.C k26 w A ps.length (ps.map toS)) (hB : Kd.C k26 w B qs.length (qs.map toS)) (okp : ∀ x ∈ ps, OkI x) (okq : ∀ x ∈ qs, OkI x) :
    Calls Tryd.prog 5 #[.slice A ps.length cA, .slice B qs.length cB] w fun e w' => e = .returned (.bool true) ∧ Below w.heap.size w w' := by
  have HE := Aside0.mk (fun W (hb : Below w.heap.size w W) => hE.below hb)
  have HF := Aside0.mk (fun W (hb : Below w.heap.size w W) => first_ W (hE.below hb))
  have HA := Aside0.mk hA
  have HB := Aside0.mk hB
  have HOK := Aside0.mk (And.intro okp okq)
  clear hE hA hB okp okq
  go_enter Tryd.func5, Tryd.ntmps5
  go_wp2_with fail
  refine (HF.out _ (Below.refl _ _)).mono ?_
  rintro e w1 ⟨rfl, hb⟩
  have HB1 := Aside0.mk hb
  have HF1 := Aside0.mk (Few_ A cA ps w1 (C_below HA.out hb))
  clear hb
  go_wp2_with fail
  refine HF1.out.mono ?_
  rintro e w2 ⟨r, rfl, hr, hb⟩
  have HB2 := Aside0.mk (below_then HB1.out HB1.out.size hb)
  have HR := Aside0.mk hr
  clear hb hr HF1
  cases r with
  | false =>
    clear HR
    go_wp2_with fail
    refine (HF.out _ HB2.out).mono ?_
    rintro e w3 ⟨rfl, hb⟩
    have HB3 := Aside0.mk (below_then HB2.out HB2.out.size hb)
    clear hb
    go_wp2
    go_ret
    exact ⟨rfl, HB3.out⟩
  | true =>
    have HP := Aside0.mk (HR.out.1 rfl)
    have HF2 := Aside0.mk (Few_ B cB qs w2 (C_below HB.out HB2.out))
    clear HR
    go_wp2_with fail
    refine HF2.out.mono ?_
    rintro e w3 ⟨r, rfl, hr, hb⟩
    have HB3 := Aside0.mk (below_then HB2.out HB2.out.size hb)
    have HR := Aside0.mk hr
    clear hb hr HF2
    cases r with
    | false =>
      clear HR
      go_wp2_with fail
      refine (HF.out _ HB3.out).mono ?_
      rintro e w4 ⟨rfl, hb⟩
      have HB4 := Aside0.mk (below_then HB3.out HB3.out.size hb)
      clear hb
      go_wp2
      go_ret
      exact ⟨rfl, HB4.out⟩
    | true =>
      have HQ := Aside0.mk (HR.out.1 rfl)
      have HXp := Aside0.mk (show ∀ x ∈ ps, OkI x ∧ x.l.length ≤ 1000 from fun x hx => ⟨HOK.out.1 x hx, by have := HP.out.2 x hx; omega⟩)
      have HXq := Aside0.mk (show ∀ x ∈ qs, OkI x ∧ x.l.length ≤ 1000 from fun x hx => ⟨HOK.out.2 x hx, by have := HQ.out.2 x hx; omega⟩)
      have HPp := Aside0.mk (Print_ A cA ps w3 (HE.out _ HB3.out) (C_below HA.out HB3.out) (by have := HP.out.1; omega) HXp.out)
      clear HR
      go_wp2_with fail
      refine HPp.out.mono ?_
      rintro e w4 ⟨v, rfl, hO⟩
      obtain ⟨Aa, ca, rfl, hcap, hC⟩ := hO.C
      have HB4 := Aside0.mk (HB3.out.trans (Below.low hO.choose_spec.choose_spec.2.2.2 HB3.out.size))
      have HCa := Aside0.mk (And.intro hcap hC)
      have HPq := Aside0.mk (Print_ B cB qs w4 (HE.out _ HB4.out) (C_below HB.out HB4.out) (by have := HQ.out.1; omega) HXq.out)
      clear hO hcap hC HPp
      go_wp2_with fail
      refine HPq.out.mono ?_
      rintro e w5 ⟨v, rfl, hO⟩
      obtain ⟨Ab, cb, rfl, hcap, hC⟩ := hO.C
      have hb5 := hO.choose_spec.choose_spec.2.2.2
      have HB5 := Aside0.mk (HB4.out.trans (Below.low hb5 HB4.out.size))
      have HCb := Aside0.mk (And.intro hcap hC)
      have HCa5 := Aside0.mk (C_below HCa.out.2 hb5)
      have HPa := Aside0.mk (Parse_any Aa ca ps w5 (HE.out _ HB5.out) HCa5.out HCa.out.1 (by have := HP.out.1; omega) HXp.out)
      clear hO hcap hC HPq hb5
      go_wp2_with fail
      refine HPa.out.mono ?_
      rintro e w6 ⟨hpa, hb⟩
      have HB6 := Aside0.mk (HB5.out.trans (Below.low hb HB5.out.size))
      have H56 := Aside0.mk hb
      have HPb := Aside0.mk (Parse_any Ab cb qs w6 (HE.out _ HB6.out) (C_below HCb.out.2 hb) HCb.out.1 (by have := HQ.out.1; omega) HXq.out)
      have HPS := Aside0.mk (show parseB ((List.map lnB ps ++ List.map lnB qs).map (·.data.toList)) = (parseB (ps.map lineB)).bind fun x => (parseB (qs.map lineB)).map (x ++ ·) by
        rw [List.map_append, lnB_data, lnB_data]; exact parse_append _ _)
      have HSZ := Aside0.mk (show ∀ s ∈ List.map lnB ps ++ List.map lnB qs, s.size ≤ 100000 from fun s hs => by
        rcases List.mem_append.1 hs with hs | hs
        · obtain ⟨x, hx1, rfl⟩ := List.mem_map.1 hs; exact lnB_size (HXp.out x hx1).1 (HXp.out x hx1).2
        · obtain ⟨x, hx1, rfl⟩ := List.mem_map.1 hs; exact lnB_size (HXq.out x hx1).1 (HXq.out x hx1).2)
      have HLL := Aside0.mk (show (List.map lnB ps).length ≤ 200 ∧ (List.map lnB qs).length ≤ 200 ∧ (List.map lnB ps ++ List.map lnB qs).length ≤ 100000 by have := HP.out.1; have := HQ.out.1; rw [List.length_append, List.length_map, List.length_map]; omega)
      have hCa5 := HCa5.out
      have hCb5 := HCb.out.2
      rw [List.length_map] at hCa5 hCb5
      have HCb5 := Aside0.mk hCb5
      clear HCa5
      have HCa5 := Aside0.mk hCa5
      clear hCa5 hCb5 HCa HCb
      have HXL0 := Aside0.mk (fun xs (h : parseB (ps.map lineB) = some xs) => show xs.length ≤ 200 by rw [parse_len _ _ h, List.length_map]; exact HP.out.1)
      have HYL0 := Aside0.mk (fun ys (h : parseB (qs.map lineB) = some ys) => show ys.length ≤ 200 by rw [parse_len _ _ h, List.length_map]; exact HQ.out.1)
      generalize parseB (ps.map lineB) = ra at hpa HPS HPa HXL0
      clear HPa hb
      generalize parseB (qs.map lineB) = rb at HPS HPb HYL0
      obtain ⟨lc, hlc⟩ : ∃ lc, List.map lnB ps ++ List.map lnB qs = lc := ⟨_, rfl⟩
      have HLC := Aside0.mk hlc
      rw [hlc] at HPS HSZ HLL
      clear hlc
      generalize List.map lnB ps = la at HCa5 HLL HLC
      generalize List.map lnB qs = lb at HCb5 HLL HLC
      cases ra with
      | none =>
        obtain rfl : e = _ := hpa
        go_wp2_with fail
        refine HPb.out.mono ?_
        rintro e w7 ⟨hpb, hb⟩
        have H67 := Aside0.mk hb
        have H57 := Aside0.mk (H56.out.trans (Below.low hb H56.out.size))
        have HB7 := Aside0.mk (HB5.out.trans (Below.low H57.out HB5.out.size))
        clear hb HPb
        cases rb with
        | none =>
          obtain rfl : e = _ := hpb
          have HCa7 := Aside0.mk (C_below HCa5.out H57.out)
          have HCb7 := Aside0.mk (C_below HCb5.out H57.out)
          have HN0 := Aside0.mk (Bo.AppV.none_ Kd.string 9 (Below.refl w7.heap.size w7))
          go_wp2_with (at_builtin; refine Bo.wpList_app Kd.string rfl _ _ 38 9 (.string ByteArray.empty) 16 rfl Tryd.underlying38 infoStr rfl (by decide) (by decide) (.slice (some ⟨w7.heap.size, 0, none⟩) 0 0) [] la Aa ps.length ca (by simp [Act.eval, Act.put]) (by simp [Act.eval, Act.put]) HN0.out HCa7.out (by have := HP.out.1; simp; omega) ?_; refine Hid.out ?_)
          refine Lib.hid ?_
          intro v1 w8 ho1
          (try rw [List.nil_append] at ho1)
          have HO1 := Aside0.mk ho1
          clear ho1
          go_wp2_with (at_builtin; refine Bo.wpList_app Kd.string rfl _ _ 38 9 (.string ByteArray.empty) 16 rfl Tryd.underlying38 infoStr rfl (by decide) (by decide) v1 la lb Ab qs.length cb (by simp [Act.eval, Act.put]) (by simp [Act.eval, Act.put]) HO1.out HCb7.out (by have := HQ.out.1; have := HLL.out; omega) ?_; refine Hid.out ?_)
          refine Lib.hid ?_
          intro v2 w9 ho2
          rw [HLC.out] at ho2
          obtain ⟨A3, c3, rfl, hcap, hC⟩ := ho2.C
          have HB9 := Aside0.mk (HB7.out.trans (Below.low ho2.1 HB7.out.size))
          have H79 := Aside0.mk ho2.1
          have HPc := Aside0.mk (Parse_ A3 c3 lc w9 (HE.out _ HB9.out) hC hcap HLL.out.2.2 HSZ.out)
          rw [HPS.out] at HPc
          clear hcap hC ho2
          go_wp2_with fail
          refine HPc.out.mono ?_
          rintro e wa ⟨hpc, hb9⟩
          have HBa := Aside0.mk (HB9.out.trans (Below.low hb9 HB9.out.size))
          have H7a := Aside0.mk (H79.out.trans (Below.low hb9 H79.out.size))
          clear hb9 HPc
          obtain rfl : e = _ := hpc
          go_wp2_with fail
          refine (HF.out _ HBa.out).mono ?_
          rintro e wb ⟨rfl, hb⟩
          have HBb := Aside0.mk (below_then HBa.out HBa.out.size hb)
          clear hb
          go_wp2
          go_ret
          exact ⟨rfl, HBb.out⟩
        | some ys =>
          obtain ⟨Ay, cy, rfl, hcy, hCy⟩ := hpb
          clear hcy hCy
          have HCa7 := Aside0.mk (C_below HCa5.out H57.out)
          have HCb7 := Aside0.mk (C_below HCb5.out H57.out)
          have HN0 := Aside0.mk (Bo.AppV.none_ Kd.string 9 (Below.refl w7.heap.size w7))
          go_wp2_with (at_builtin; refine Bo.wpList_app Kd.string rfl _ _ 38 9 (.string ByteArray.empty) 16 rfl Tryd.underlying38 infoStr rfl (by decide) (by decide) (.slice (some ⟨w7.heap.size, 0, none⟩) 0 0) [] la Aa ps.length ca (by simp [Act.eval, Act.put]) (by simp [Act.eval, Act.put]) HN0.out HCa7.out (by have := HP.out.1; simp; omega) ?_; refine Hid.out ?_)
          refine Lib.hid ?_
          intro v1 w8 ho1
          (try rw [List.nil_append] at ho1)
          have HO1 := Aside0.mk ho1
          clear ho1
          go_wp2_with (at_builtin; refine Bo.wpList_app Kd.string rfl _ _ 38 9 (.string ByteArray.empty) 16 rfl Tryd.underlying38 infoStr rfl (by decide) (by decide) v1 la lb Ab qs.length cb (by simp [Act.eval, Act.put]) (by simp [Act.eval, Act.put]) HO1.out HCb7.out (by have := HQ.out.1; have := HLL.out; omega) ?_; refine Hid.out ?_)
          refine Lib.hid ?_
          intro v2 w9 ho2
          rw [HLC.out] at ho2
          obtain ⟨A3, c3, rfl, hcap, hC⟩ := ho2.C
          have HB9 := Aside0.mk (HB7.out.trans (Below.low ho2.1 HB7.out.size))
          have H79 := Aside0.mk ho2.1
          have HPc := Aside0.mk (Parse_ A3 c3 lc w9 (HE.out _ HB9.out) hC hcap HLL.out.2.2 HSZ.out)
          rw [HPS.out] at HPc
          clear hcap hC ho2
          go_wp2_with fail
          refine HPc.out.mono ?_
          rintro e wa ⟨hpc, hb9⟩
          have HBa := Aside0.mk (HB9.out.trans (Below.low hb9 HB9.out.size))
          have H7a := Aside0.mk (H79.out.trans (Below.low hb9 H79.out.size))
          clear hb9 HPc
          obtain rfl : e = _ := hpc
          go_wp2_with fail
          refine (HF.out _ HBa.out).mono ?_
          rintro e wb ⟨rfl, hb⟩
          have HBb := Aside0.mk (below_then HBa.out HBa.out.size hb)
          clear hb
          go_wp2
          go_ret
          exact ⟨rfl, HBb.out⟩
      | some xs =>
        obtain ⟨Ax, cx, rfl, hcx, hCx⟩ := hpa
        have HXs := Aside0.mk hCx
        have HXL := Aside0.mk (HXL0.out xs rfl)
        clear hcx hCx
        go_wp2_with fail
        refine HPb.out.mono ?_
        rintro e w7 ⟨hpb, hb⟩
        have H67 := Aside0.mk hb
        have H57 := Aside0.mk (H56.out.trans (Below.low hb H56.out.size))
        have HB7 := Aside0.mk (HB5.out.trans (Below.low H57.out HB5.out.size))
        clear hb HPb
        cases rb with
        | none =>
          obtain rfl : e = _ := hpb
          have HCa7 := Aside0.mk (C_below HCa5.out H57.out)
          have HCb7 := Aside0.mk (C_below HCb5.out H57.out)
          have HN0 := Aside0.mk (Bo.AppV.none_ Kd.string 9 (Below.refl w7.heap.size w7))
          go_wp2_with (at_builtin; refine Bo.wpList_app Kd.string rfl _ _ 38 9 (.string ByteArray.empty) 16 rfl Tryd.underlying38 infoStr rfl (by decide) (by decide) (.slice (some ⟨w7.heap.size, 0, none⟩) 0 0) [] la Aa ps.length ca (by simp [Act.eval, Act.put]) (by simp [Act.eval, Act.put]) HN0.out HCa7.out (by have := HP.out.1; simp; omega) ?_; refine Hid.out ?_)
          refine Lib.hid ?_
          intro v1 w8 ho1
          (try rw [List.nil_append] at ho1)
          have HO1 := Aside0.mk ho1
          clear ho1
          go_wp2_with (at_builtin; refine Bo.wpList_app Kd.string rfl _ _ 38 9 (.string ByteArray.empty) 16 rfl Tryd.underlying38 infoStr rfl (by decide) (by decide) v1 la lb Ab qs.length cb (by simp [Act.eval, Act.put]) (by simp [Act.eval, Act.put]) HO1.out HCb7.out (by have := HQ.out.1; have := HLL.out; omega) ?_; refine Hid.out ?_)
          refine Lib.hid ?_
          intro v2 w9 ho2
          rw [HLC.out] at ho2
          obtain ⟨A3, c3, rfl, hcap, hC⟩ := ho2.C
          have HB9 := Aside0.mk (HB7.out.trans (Below.low ho2.1 HB7.out.size))
          have H79 := Aside0.mk ho2.1
          have HPc := Aside0.mk (Parse_ A3 c3 lc w9 (HE.out _ HB9.out) hC hcap HLL.out.2.2 HSZ.out)
          rw [HPS.out] at HPc
          clear hcap hC ho2
          go_wp2_with fail
          refine HPc.out.mono ?_
          rintro e wa ⟨hpc, hb9⟩
          have HBa := Aside0.mk (HB9.out.trans (Below.low hb9 HB9.out.size))
          have H7a := Aside0.mk (H79.out.trans (Below.low hb9 H79.out.size))
          clear hb9 HPc
          obtain rfl : e = _ := hpc
          go_wp2_with fail
          refine (HF.out _ HBa.out).mono ?_
          rintro e wb ⟨rfl, hb⟩
          have HBb := Aside0.mk (below_then HBa.out HBa.out.size hb)
          clear hb
          go_wp2
          go_ret
          exact ⟨rfl, HBb.out⟩
        | some ys =>
          obtain ⟨Ay, cy, rfl, hcy, hCy⟩ := hpb
          have HYs := Aside0.mk hCy
          have HYL := Aside0.mk (HYL0.out ys rfl)
          clear hcy hCy
          have HCa7 := Aside0.mk (C_below HCa5.out H57.out)
          have HCb7 := Aside0.mk (C_below HCb5.out H57.out)
          have HN0 := Aside0.mk (Bo.AppV.none_ Kd.string 9 (Below.refl w7.heap.size w7))
          go_wp2_with (at_builtin; refine Bo.wpList_app Kd.string rfl _ _ 38 9 (.string ByteArray.empty) 16 rfl Tryd.underlying38 infoStr rfl (by decide) (by decide) (.slice (some ⟨w7.heap.size, 0, none⟩) 0 0) [] la Aa ps.length ca (by simp [Act.eval, Act.put]) (by simp [Act.eval, Act.put]) HN0.out HCa7.out (by have := HP.out.1; simp; omega) ?_; refine Hid.out ?_)
          refine Lib.hid ?_
          intro v1 w8 ho1
          (try rw [List.nil_append] at ho1)
          have HO1 := Aside0.mk ho1
          clear ho1
          go_wp2_with (at_builtin; refine Bo.wpList_app Kd.string rfl _ _ 38 9 (.string ByteArray.empty) 16 rfl Tryd.underlying38 infoStr rfl (by decide) (by decide) v1 la lb Ab qs.length cb (by simp [Act.eval, Act.put]) (by simp [Act.eval, Act.put]) HO1.out HCb7.out (by have := HQ.out.1; have := HLL.out; omega) ?_; refine Hid.out ?_)
          refine Lib.hid ?_
          intro v2 w9 ho2
          rw [HLC.out] at ho2
          obtain ⟨A3, c3, rfl, hcap, hC⟩ := ho2.C
          have HB9 := Aside0.mk (HB7.out.trans (Below.low ho2.1 HB7.out.size))
          have H79 := Aside0.mk ho2.1
          have HPc := Aside0.mk (Parse_ A3 c3 lc w9 (HE.out _ HB9.out) hC hcap HLL.out.2.2 HSZ.out)
          rw [HPS.out] at HPc
          clear hcap hC ho2
          go_wp2_with fail
          refine HPc.out.mono ?_
          rintro e wa ⟨hpc, hb9⟩
          have HBa := Aside0.mk (HB9.out.trans (Below.low hb9 HB9.out.size))
          have H7a := Aside0.mk (H79.out.trans (Below.low hb9 H79.out.size))
          clear hb9 HPc
          obtain ⟨Az, cz, rfl, hcz, hCz⟩ := hpc
          have HZ := Aside0.mk hCz
          clear hcz hCz
          go_wp2_with fail
          refine (HF.out _ HBa.out).mono ?_
          rintro e wb ⟨rfl, hb⟩
          have HBb := Aside0.mk (below_then HBa.out HBa.out.size hb)
          have H7b := Aside0.mk (H7a.out.trans (Below.low hb H7a.out.size))
          have HXb := Aside0.mk (C_below HXs.out ((H67.out.trans (Below.low H7b.out H67.out.size))))
          have HYb := Aside0.mk (C_below HYs.out H7b.out)
          have HZb := Aside0.mk (C_below HZ.out hb)
          clear hb
          have HZL := Aside0.mk (show (xs ++ ys).length = xs.length + ys.length from List.length_append)
          have HMS := Aside0.mk (show xs.map toS ++ ys.map toS = (xs ++ ys).map toS by rw [List.map_append])
          have HNb := Aside0.mk (Bo.AppV.none_ k26 26 (Below.refl wb.heap.size wb))
          generalize xs ++ ys = zs at HZb HMS HZL ⊢
          go_wp2_with (at_builtin; (try (refine gate_guard (by rfl) ?_; dsimp only)); refine Bo.wpList_app k26 rfl _ _ 23 26 (.agg #[.int .i64 0, .int .i64 0, .int .i64 0, .int .i64 0, .slice none 0 0]) 56 rfl Tryd.underlying23 infoIns rfl (by decide) (by decide) (.slice (some ⟨wb.heap.size, 0, none⟩) 0 0) [] (xs.map toS) Ax xs.length cx (by simp [Act.eval, Act.put]) (by simp [Act.eval, Act.put]) HNb.out HXb.out (by have := HXL.out; simp; omega) ?_; refine Hid.out ?_)
          refine Lib.hid ?_
          intro v3 wc ho3
          (try rw [List.nil_append] at ho3)
          have HO3 := Aside0.mk ho3
          clear ho3
          go_wp2_with (at_builtin; (try (refine gate_guard (by rfl) ?_; dsimp only)); refine Bo.wpList_app k26 rfl _ _ 23 26 (.agg #[.int .i64 0, .int .i64 0, .int .i64 0, .int .i64 0, .slice none 0 0]) 56 rfl Tryd.underlying23 infoIns rfl (by decide) (by decide) v3 (xs.map toS) (ys.map toS) Ay ys.length cy (by simp [Act.eval, Act.put]) (by simp [Act.eval, Act.put]) HO3.out HYb.out (by have := HXL.out; have := HYL.out; rw [List.length_map]; omega) ?_; refine Hid.out ?_)
          refine Lib.hid ?_
          intro v4 wd ho4
          rw [HMS.out] at ho4
          obtain ⟨A4, c4, hv, hcap, hC⟩ := ho4.C
          rw [List.length_map] at hv hcap hC
          subst hv
          have HBd := Aside0.mk (HBb.out.trans (Below.low ho4.1 HBb.out.size))
          have HS := Aside0.mk (Same_n Az A4 cz c4 (xs.length + ys.length) zs zs wd HZL.out (C_below HZb.out ho4.1) hC)
          clear hcap hC ho4
          go_wp2_with fail
          refine HS.out.mono ?_
          rintro e we ⟨r, rfl, hr, hb⟩
          obtain rfl : r = true := hr.2 (by first | trivial | rfl)
          have HBe := Aside0.mk (below_then HBd.out HBd.out.size hb)
          clear hb hr HS
          go_wp2
          go_ret
          exact ⟨rfl, HBe.out⟩
theorem lines_row (A : Option Addr) (cA : Nat) (l : List S26) (B : Option Addr) (cB : Nat) (m : List S26) (w : World) (hE : Env w) (hA : Kd.C k26 w A l.length l) (_ha : l.length ≤ cA) (_hA : l.length ≤ maxLen) (wA : ∀ x ∈ l, (Lit.int .i64 x.f0).wf = true ∧ (Lit.int .i64 x.f1).wf = true ∧ (Lit.int .i64 x.f2).wf = true ∧ (Lit.int .i64 x.f3).wf = true ∧ x.f4.length ≤ maxLen ∧ ∀ z ∈ x.f4, (Lit.int .i64 z).wf = true)
    (hB : Kd.C k26 w B m.length m) (_hb : m.length ≤ cB) (_hB : m.length ≤ maxLen) (wB : ∀ x ∈ m, (Lit.int .i64 x.f0).wf = true ∧ (Lit.int .i64 x.f1).wf = true ∧ (Lit.int .i64 x.f2).wf = true ∧ (Lit.int .i64 x.f3).wf = true ∧ x.f4.length ≤ maxLen ∧ ∀ z ∈ x.f4, (Lit.int .i64 z).wf = true) :
    Calls Tryd.prog 5 #[.slice A l.length cA, .slice B m.length cB] w fun e w' => e = .returned (.bool true) ∧ Below w.heap.size w w' := by
  have h := lines_walk A B cA cB (l.map ofS) (m.map ofS) w hE (by rw [toS_ofS, List.length_map]; exact hA) (by rw [toS_ofS, List.length_map]; exact hB) (ok_of wA) (ok_of wB)
  rwa [List.length_map, List.length_map] at h
end Go.Proofs.YtefcjnnngaaihaaDoor.Pg
