/- The row of CoreOneWay: the statement holds at every argument. -/
import Derived.Test.YtaaekmcmpjljgaaGreatRows
import Derived.Test.YtaaekmcmpjljgaaGreatOw6
import Derived.Test.YtaaekmcmpjljgaaGreatOpen
import Derived.WalkKit
import Derived.ProofKit
import Derived.OpenShut
import Derived.ShutString
import Derived.ChangeOld
import Derived.Below
import Derived.SizedLaws
namespace Go.Proofs.YtaaekmcmpjljgaaGreat.coreOneWay
open Go.ChangeShapes Go.WideShapes Go.ChangeAt Go.RowKit Go.Proofs.YtaaekmcmpjljgaaGreatW.PrintWords Go.Proofs.YtaaekmcmpjljgaaGreatW.Open Go.Proofs.YtaaekmcmpjljgaaGreat Go.Proofs.YtaaekmcmpjljgaaGreat.PMd Go.Proofs.YtaaekmcmpjljgaaGreat.Ln Go.Proofs.YtaaekmcmpjljgaaGreat.Co
set_option linter.unusedVariables false
theorem own : ownKnob Tryz.prog.godebug = none := by kernel_rfl
theorem laidOut : laidOutB Tryz.prog = true := by kernel_rfl
theorem opens53 {H : Type} {enc : TypeId × Value → H} {w : World} {base : Nat} {spare : Nat → Bool} {held : Bool} : Opens enc Tryz.prog w base spare held 53 kOp4 (fun x_ => (Lit.int .i64 x_.f0).wf = true ∧ (Lit.int .i64 x_.f1).wf = true ∧ (Lit.int .i64 x_.f2).wf = true ∧ (Lit.int .i64 x_.f3).wf = true) :=
  opens_iso (fun x_ : Op4 => (x_.f0, x_.f1, x_.f2, x_.f3)) (fun p_ => (⟨p_.1, p_.2.1, p_.2.2.1, p_.2.2.2⟩ : Op4)) (fun _ => rfl) (opens_struct Tryz.underlying53 (by kernel_rfl) (opensF_cons rfl (by kernel_rfl) (opens_int Tryz.underlying3) (opensF_cons rfl (by kernel_rfl) (opens_int Tryz.underlying3) (opensF_cons rfl (by kernel_rfl) (opens_int Tryz.underlying3) (opensF_one rfl (by kernel_rfl) (opens_int Tryz.underlying3))))))
theorem consT {H : Type} {enc : TypeId × Value → H} {P : Program} {w : World} {base : Nat} {spare : Nat → Bool} {held : Bool} {α β : Type} {a : Kd α} {b : Kd β} {Wa : α → Prop} {o : Nat} {f : Field} {fs : List Field} (ho : f.offset = o) (hs : P.cellsOf f.type = a.sz) (h : Opens enc P w base spare held f.type a Wa) (hf : OpensF enc P w base spare held (o + a.sz) fs b (fun _ => True)) :
    OpensF enc P w base spare held o (f :: fs) (Kd.pair a b) (fun _ => True) := fun n cs hl hx => by
  obtain ⟨v, hv, _⟩ := opensF_cons ho hs h hf n cs hl hx
  exact ⟨v, hv, trivial⟩
theorem oneT {H : Type} {enc : TypeId × Value → H} {P : Program} {w : World} {base : Nat} {spare : Nat → Bool} {held : Bool} {α : Type} {k : Kd α} {W : α → Prop} {o : Nat} {f : Field} (ho : f.offset = o) (hs : P.cellsOf f.type = k.sz) (h : Opens enc P w base spare held f.type k W) : OpensF enc P w base spare held o [f] k (fun _ => True) := fun n cs hl hx => by
  obtain ⟨v, hv, _⟩ := opensF_one ho hs h n cs hl hx
  exact ⟨v, hv, trivial⟩
set_option maxRecDepth 100000 in
theorem opensA0 {H : Type} {enc : TypeId × Value → H} {w : World} {base : Nat} {spare : Nat → Bool} {held : Bool} : Opens enc Tryz.prog w base spare held 24 (Kd.pair (Kd.int .i64) (Kd.pair (Kd.int .i64) (Kd.pair (Kd.int .i64) (Kd.pair (Kd.int .i64) (Kd.pair (Kd.int .i64) (Kd.pair (Kd.int .i64) (Kd.pair (Kd.int .i64) (Kd.pair (Kd.int .i64) (Kd.pair (Kd.int .i64) (Kd.pair (Kd.int .i64) (Kd.pair (Kd.int .i64) (Kd.int .i64)))))))))))) (fun _ => True) := by
  refine opens_struct Tryz.underlying24 (by kernel_rfl) ?_
  refine consT rfl (by kernel_rfl) (opens_int Tryz.underlying3) ?_
  refine consT rfl (by kernel_rfl) (opens_int Tryz.underlying3) ?_
  refine consT rfl (by kernel_rfl) (opens_int Tryz.underlying3) ?_
  refine consT rfl (by kernel_rfl) (opens_int Tryz.underlying3) ?_
  refine consT rfl (by kernel_rfl) (opens_int Tryz.underlying3) ?_
  refine consT rfl (by kernel_rfl) (opens_int Tryz.underlying3) ?_
  refine consT rfl (by kernel_rfl) (opens_int Tryz.underlying3) ?_
  refine consT rfl (by kernel_rfl) (opens_int Tryz.underlying3) ?_
  refine consT rfl (by kernel_rfl) (opens_int Tryz.underlying3) ?_
  refine consT rfl (by kernel_rfl) (opens_int Tryz.underlying3) ?_
  refine consT rfl (by kernel_rfl) (opens_int Tryz.underlying3) ?_
  exact oneT rfl (by kernel_rfl) (opens_int Tryz.underlying3)
set_option maxRecDepth 100000 in
theorem lifted (os : Os) (started : os.Started) (H : Type) (enc : TypeId × Value → H) :
    ReturnsInHanded {} Tryz.checked os 6 .any (Rows.coreOneWaySpec.pre6 enc Tryz.prog Tryz.f6 Rows.coreOneWayRow.domain false) (Rows.coreOneWaySpec.post enc Tryz.prog Tryz.f6 false true false false) := by
  refine returnsInHanded_of_change_sized (C := Tryz.checked) own started (by kernel_rfl) Tryz.func6
    (ChangeSpec.witness6 (enc := enc) (C := Tryz.checked) false ⟨#[], #[.agg #[.int .i64 0, .int .i64 0, .int .i64 0, .int .i64 0, .int .i64 0, .int .i64 0, .int .i64 0, .int .i64 0, .int .i64 0, .int .i64 0, .int .i64 0, .int .i64 0], .slice none 0 0], []⟩ 8 (by kernel_rfl) (by kernel_rfl) (by kernel_rfl) (by kernel_rfl)) ?_
  intro W base args ds gs before hval0 hW hcnd hsz0 _
  have hval : ∀ (j : Nat) t v, Tryz.f6.params[j]? = some t → args[j]? = some v → Value.okWide Tryz.prog W .any base t v := hval0
  have hW' := hW
  obtain ⟨p, q, hA0, hV, rfl, hfz, hnd⟩ := hW
  have hA : DataW.TrodAll enc Tryz.prog W 0 (fun _ => true) true Tryz.f6.params.toList args.toList ds p := hA0
  rw [Tryz.params6] at hA hval
  obtain ⟨v0, vs0, d0, ds0, p0, q0, hargs, rfl, rfl, h0, r0⟩ := trodAll_cons hA
  obtain ⟨v1, vs1, d1, ds1, p1, q1, rfl, rfl, rfl, h1, r1⟩ := trodAll_cons r0
  obtain ⟨rfl, rfl, rfl⟩ := trodAll_nil r1
  obtain rfl : args = #[v0, v1] := by cases args; simp_all
  obtain ⟨rfl, rfl⟩ := trodVars_none hV
  have k0 := h0
  have lt0 : ∀ x ∈ p0, x.block < W.heap.size := by obtain ⟨m, hm⟩ := k0; exact DataW.trod_lt m _ _ _ hm
  obtain ⟨cs0, rfl, hz0⟩ := okWide_struct Tryz.underlying24 (hval 0 24 v0 rfl rfl)
  obtain ⟨⟨a0_0, a0_1, a0_2, a0_3, a0_4, a0_5, a0_6, a0_7, a0_8, a0_9, a0_10, a0_11⟩, hK0, hw0⟩ := arg_struct opensA0 h0
  obtain ⟨_, _, e0, rfl, _, _, rfl, rfl, _, _, rfl, rfl, _, _, rfl, rfl, _, _, rfl, rfl, _, _, rfl, rfl, _, _, rfl, rfl, _, _, rfl, rfl, _, _, rfl, rfl, _, _, rfl, rfl, _, _, rfl, rfl, rfl⟩ := hK0
  obtain rfl : cs0 = #[.int .i64 a0_0, .int .i64 a0_1, .int .i64 a0_2, .int .i64 a0_3, .int .i64 a0_4, .int .i64 a0_5, .int .i64 a0_6, .int .i64 a0_7, .int .i64 a0_8, .int .i64 a0_9, .int .i64 a0_10, .int .i64 a0_11] := by cases cs0; simp_all
  have k1 := h1
  have lt1 : ∀ x ∈ p1, x.block < W.heap.size := by obtain ⟨m, hm⟩ := k1; exact DataW.trod_lt m _ _ _ hm
  obtain ⟨A1, len1, c1, rfl⟩ := okWide_slice Tryz.underlying49 (hval 1 49 v1 rfl rfl)
  obtain ⟨l1, rfl, hc1, hr1, w1⟩ := arg_slice (opens_slice Tryz.underlying49 (by kernel_rfl) opens53) h1
  clear hA0 hval0 hsz0
  refine (Co.one_walk ⟨a0_0, a0_1, a0_2, a0_3, a0_4, a0_5, a0_6, a0_7, a0_8, a0_9, a0_10, a0_11⟩ A1 c1 l1 W hr1 hc1 w1.1 w1.2).mono fun e W' ⟨he, bel⟩ => ?_
  subst he
  exact ⟨_, rfl, _, _, _, [], _, [], hW', trodAll_mk1 (shut_bool Tryz.underlying4 _), (trodAll_cons_mk (Below.trod laidOut (by kernel_rfl) (of_decide_eq_true (by kernel_rfl)) k0 bel lt0) (trodAll_cons_mk (Below.trod laidOut (by kernel_rfl) (of_decide_eq_true (by kernel_rfl)) k1 bel lt1) trodAll_mk0)), rfl, bel.frame _, fun h => by cases h⟩
theorem over : Rows.coreOneWayRow.holds Tryz.pinned (OpenSpec.ofChange Rows.coreOneWaySpec) :=
  OpenClaim.holds_of_wide 6 Tryz.f6 rfl rfl rfl rfl rfl rfl rfl ⟨rfl, rfl, rfl, rfl, rfl⟩ rfl rfl rfl rfl rfl (by kernel_rfl) Tryz.func6 (by kernel_rfl)
    (of_decide_eq_true (by kernel_rfl)) (by unfold Func.isWrapper; first | (rw [if_pos (by decide +kernel)]; kernel_rfl) | (rw [if_neg (by decide +kernel)]; exact ⟨rfl, rfl⟩))
    (fun os started H enc _ => lifted os started H enc)
theorem proved : Rows.CoreOneWaySaid := over
#print axioms proved
end Go.Proofs.YtaaekmcmpjljgaaGreat.coreOneWay
namespace Go.Proofs.YtaaekmcmpjljgaaGreat
/-- The row, under a short name, for the claim. -/
theorem coreOneWay_holds : Rows.CoreOneWaySaid := coreOneWay.proved
end Go.Proofs.YtaaekmcmpjljgaaGreat
