/- Who stands in a list of entries: the walks of lane.of and of the closures that are handed to the library. -/
import Derived.Test.YtagdgkimjgomlaaPMdx0
import Derived.Test.YtagdgkimjgomlaaRow
namespace Go.Proofs.Ytagdgkimjgomlaa.Ln
open Go.RowKit Go.Proofs.YtagdgkimjgomlaaW.PrintWords Go.Proofs.YtagdgkimjgomlaaW.PrintLast Go.Proofs.YtagdgkimjgomlaaW.PrintMore Go.Proofs.Ytagdgkimjgomlaa.PMd
set_option linter.unusedVariables false
set_option linter.unusedSimpArgs false
abbrev E := S67
def encE (x : E) : List Value := [.int .i64 x.f0, .int .i64 x.f1]
def flat (l : List E) : List Value := l.flatMap encE

theorem cell_al {w : World} {a : Addr} {v : Value} (hc : w.cell? a = some v) (o : Obj) : (w.alloc o).cell? a = some v :=
  ((below_alloc (Below.refl w.heap.size w) o).cell (World.block_lt_of_cell? w a hc)).trans hc
theorem cell_be {w w' : World} {a : Addr} {v : Value} (hc : w.cell? a = some v) (h : Below w.heap.size w w') : w'.cell? a = some v :=
  (h.cell (World.block_lt_of_cell? w a hc)).trans hc
set_option maxHeartbeats 8000000 in
set_option maxRecDepth 100000 in
theorem of1 (x : E) (who : Int) (g : Nat) (w : World) (hc : w.cell? ⟨g, 0, none⟩ = some (.int .i64 who)) :
    Calls Try.prog 98 #[.agg #[.int .i64 x.f0, .int .i64 x.f1], .pointer (some ⟨g, 0, none⟩)] w fun e w' => e = .returned (.bool (x.f0 == who)) ∧ Below w.heap.size w w' := by
  have hu67 := Try.underlying67
  have hc2 : (w.alloc (.cells #[.int .i64 x.f0, .int .i64 x.f1] 67)).cell? ⟨g, 0, none⟩ = some (.int .i64 who) := cell_al hc _
  go_enter Try.func98, Try.ntmps98
  go_wp2
  go_ret
  exact ⟨rfl, below_alloc (Below.refl _ _) _⟩
/-- What is asked of a closure that answers yes or no of an entry. -/
def Pred (g : Nat) (lb : Array Value) (p : E → Bool) (w : World) : Prop :=
  ∀ (W : World) (x : E), Below w.heap.size w W → Calls Try.prog g (#[.agg #[.int .i64 x.f0, .int .i64 x.f1]] ++ lb) W fun e w' => e = .returned (.bool (p x)) ∧ Below W.heap.size W w'
theorem of1.pred (who : Int) (g : Nat) (w : World) (hc : w.cell? ⟨g, 0, none⟩ = some (.int .i64 who)) : Pred 98 #[.pointer (some ⟨g, 0, none⟩)] (fun x => x.f0 == who) w :=
  fun W x hb => of1 x who g W (cell_be hc hb)
/-- The first place. -/
def ix (p : E → Bool) (l : List E) : Int := match l.findIdx? p with | some i => i | none => -1
theorem ix_hit {p : E → Bool} {l : List E} {k : Nat} (hk : k < l.length) (h : p (l.getD k z67) = true) (ha : ∀ i, i < k → p (l.getD i z67) = false) : ix p l = k := by
  have : l.findIdx? p = some k := by
    rw [List.findIdx?_eq_some_iff_getElem]
    refine ⟨hk, by simpa [List.getD_eq_getElem?_getD, List.getElem?_eq_getElem hk] using h, fun j hj => ?_⟩
    have := ha j hj
    have hl : j < l.length := by omega
    simpa [List.getD_eq_getElem?_getD, List.getElem?_eq_getElem hl] using this
  unfold ix
  rw [this]
theorem ix_miss {p : E → Bool} {l : List E} (ha : ∀ i, i < l.length → p (l.getD i z67) = false) : ix p l = -1 := by
  have : l.findIdx? p = none := by
    rw [List.findIdx?_eq_none_iff]
    intro x hx
    obtain ⟨i, hi, rfl⟩ := List.mem_iff_getElem.1 hx
    simpa [List.getD_eq_getElem?_getD, List.getElem?_eq_getElem hi] using ha i hi
  unfold ix
  rw [this]
set_option maxHeartbeats 8000000 in
set_option maxRecDepth 100000 in
theorem indexFunc (g : Nat) (lb : Array Value) (p : E → Bool) (eg : ∀ args w, (callFunc g args).run Try.prog w = .ok (.enter g args) w) (A : Option Addr) (c : Nat) (l : List E) (w : World)
    (hr : Kd.C k67 w A l.length l) (hc : l.length ≤ c) (hp : Pred g lb p w) :
    Calls Try.prog 97 #[.slice A l.length c, .func (.func g) #[] lb] w fun e w' => e = .returned (.int .i64 (ix p l)) ∧ Below w.heap.size w w' := by
  have hu67 := Try.underlying67
  have HR := Aside0.mk hr
  have HP := Aside0.mk hp
  have hl63 := hr.2.1
  clear hr hc hp
  go_enter Try.func97, Try.ntmps97
  go_wp2_with fail
  go_loopg [5, 8] l.length (fun gg _ v wr => ∃ k : Nat, k ≤ l.length ∧ l.length - k ≤ gg ∧ v = .int .i64 k ∧ Aside0 (∀ i : Nat, i < k → p (l.getD i z67) = false) ∧ Aside0 (Below w.heap.size w wr))
  case atStart => exact ⟨0, by omega, by omega, rfl, ⟨fun i hi => by omega⟩, ⟨Below.refl _ _⟩⟩
  case round =>
    obtain ⟨k, hk, hgg, rfl, HA, HB⟩ := hrel
    by_cases hlt : k < l.length
    · obtain ⟨ad, rfl, q0, q1⟩ := at_T67 (Kd.C_below HR.out HB.out) (k : Int) (by omega) (by omega)
      have p1 : 0 ≤ (k : Int) := by omega
      have p2 : (k : Int) < l.length := by omega
      have hrd : rd_T67 l k = l.getD k z67 := by simp [rd_T67]
      simp only [Int.toNat_natCast, hrd] at q0 q1
      clear hrd
      have hcall := HP.out wr (l.getD k z67) HB.out
      generalize hy : l.getD k z67 = y at q0 q1 hcall
      have HY := Aside0.mk hy
      clear hy
      cases hq : p y with
      | true =>
        rw [hq] at hcall
        have HF := Aside0.mk (show ix p l = (k : Int) from ix_hit hlt (by rw [HY.out]; exact hq) HA.out)
        have HX := Aside0.mk hcall
        clear hcall hq
        go_wp2_with fail
        refine HX.out.mono ?_
        rintro e w3 ⟨rfl, hb⟩
        have HB3 := Aside0.mk (below_then HB.out HB.out.size hb)
        clear hb
        go_wp2
        go_ret
        exact ⟨congrArg (fun q : Int => Ending.returned (.int .i64 q)) HF.out.symm, HB3.out⟩
      | false =>
        rw [hq] at hcall
        have HA1 := Aside0.mk (show ∀ i : Nat, i < k + 1 → p (l.getD i z67) = false from fun i hi => by
          by_cases e : i = k
          · rw [e, HY.out]; exact hq
          · exact HA.out i (by omega))
        have HX := Aside0.mk hcall
        clear hcall hq HA
        go_wp2_with fail
        refine HX.out.mono ?_
        rintro e w3 ⟨rfl, hb⟩
        have HB3 := Aside0.mk (below_then HB.out HB.out.size hb)
        clear hb
        go_wp2
        go_roundg (l.length - (k + 1))
        case measure => omega
        case rel => exact ⟨k + 1, by omega, by omega, by go_num, HA1, HB3⟩
    · have HF := Aside0.mk (show ix p l = -1 from ix_miss (fun i hi => HA.out i (by omega)))
      go_wp2
      go_ret
      exact ⟨congrArg (fun q : Int => Ending.returned (.int .i64 q)) HF.out.symm, HB.out⟩
theorem ix_any (p : E → Bool) (l : List E) : decide (ix p l ≥ 0) = l.any p := by
  unfold ix
  cases h : l.findIdx? p with
  | none =>
    rw [List.findIdx?_eq_none_iff] at h
    simp only [ge_iff_le, Int.reduceNeg, Int.reduceLE, decide_false]
    symm
    rw [List.any_eq_false]
    intro x hx
    simp [h x hx]
  | some i =>
    rw [List.findIdx?_eq_some_iff_getElem] at h
    obtain ⟨hi, hp, _⟩ := h
    have : l.any p = true := List.any_eq_true.2 ⟨l[i], List.getElem_mem _, hp⟩
    rw [this]
    exact decide_eq_true (Int.natCast_nonneg i)
set_option maxHeartbeats 8000000 in
set_option maxRecDepth 100000 in
theorem containsFunc (g : Nat) (lb : Array Value) (p : E → Bool) (eg : ∀ args w, (callFunc g args).run Try.prog w = .ok (.enter g args) w) (A : Option Addr) (c : Nat) (l : List E) (w : World)
    (hr : Kd.C k67 w A l.length l) (hc : l.length ≤ c) (hp : Pred g lb p w) :
    Calls Try.prog 99 #[.slice A l.length c, .func (.func g) #[] lb] w fun e w' => e = .returned (.bool (l.any p)) ∧ Below w.heap.size w w' := by
  have HI := Aside0.mk (indexFunc g lb p eg A c l w hr hc hp)
  have HE := Aside0.mk (ix_any p l)
  clear hr hc hp eg
  go_enter Try.func99, Try.ntmps99
  go_wp2_with fail
  refine HI.out.mono ?_
  rintro e w3 ⟨rfl, hb⟩
  have HB := Aside0.mk hb
  clear hb
  go_wp2
  go_ret
  exact ⟨congrArg (fun q : Bool => Ending.returned (.bool q)) HE.out, HB.out⟩
theorem ent_of {P : Program} {f : FuncId} {fn : Func} {c : Code} (hf : P.funcs[f]? = some fn) (hname : (fn.name == "runtime.NumGoroutine") = false) (hb : fn.body = some c) : ∀ args w, (callFunc f args).run P w = .ok (.enter f args) w := by
  intro args w
  have h1 : fn.name ≠ "runtime.NumGoroutine" := by simpa using hname
  simp [callFunc, hf, h1, hb, mark]
theorem enters_of1 : ∀ args w, (callFunc 98 args).run Try.prog w = .ok (.enter 98 args) w := ent_of Try.func98 (by kernel_rfl) rfl
set_option maxHeartbeats 8000000 in
set_option maxRecDepth 100000 in
theorem of_ (A : Option Addr) (c : Nat) (l : List E) (who : Int) (w : World) (hr : Kd.C k67 w A l.length l) (hc : l.length ≤ c) :
    Calls Try.prog 73 #[.slice A l.length c, .int .i64 who] w fun e w' => e = .returned (.int .i64 (ix (fun x => x.f0 == who) l)) ∧ Below w.heap.size w w' := by
  have HR := Aside0.mk hr
  have HC := Aside0.mk hc
  clear hr hc
  go_enter Try.func73, Try.ntmps73
  go_wp2_with fail
  refine (indexFunc _ _ _ enters_of1 A c l _ (Kd.C_alloc HR.out _) HC.out (of1.pred who _ _ ((blk_cell (blk_new w _) 0).trans rfl))).mono ?_
  rintro e w3 ⟨rfl, hb⟩
  have HB := Aside0.mk (below_then (below_alloc (Below.refl w.heap.size w) (.cells #[.int .i64 who] 3)) (below_alloc (Below.refl w.heap.size w) _).size hb)
  clear hb
  go_wp2
  go_ret
  exact ⟨rfl, HB.out⟩
/-- Somebody's mode in a list. -/
def toldIn (l : List E) (who : Int) : Int := if ix (fun x => x.f0 == who) l ≥ 0 then (rd_T67 l (ix (fun x => x.f0 == who) l)).f1 else 0
theorem ix_lt (p : E → Bool) (l : List E) : ix p l < l.length := by
  unfold ix
  cases h : l.findIdx? p with
  | none => show (-1 : Int) < _; omega
  | some i =>
    rw [List.findIdx?_eq_some_iff_getElem] at h
    obtain ⟨hi, _⟩ := h
    show (i : Int) < _
    omega
set_option maxHeartbeats 8000000 in
set_option maxRecDepth 100000 in
theorem told_ (A : Option Addr) (c : Nat) (l : List E) (who : Int) (w : World) (hr : Kd.C k67 w A l.length l) (hc : l.length ≤ c) :
    Calls Try.prog 80 #[.slice A l.length c, .int .i64 who] w fun e w' => e = .returned (.int .i64 (toldIn l who)) ∧ Below w.heap.size w w' := by
  have HR := Aside0.mk hr
  have HC := Aside0.mk hc
  have HO := Aside0.mk (of_ A c l who w hr hc)
  have HL := Aside0.mk (ix_lt (fun x => x.f0 == who) l)
  have HD := Aside0.mk (show toldIn l who = if ix (fun x => x.f0 == who) l ≥ 0 then (rd_T67 l (ix (fun x => x.f0 == who) l)).f1 else 0 from rfl)
  generalize hi : ix (fun x => x.f0 == who) l = i at HO HL HD
  clear hr hc hi
  by_cases h0 : i ≥ 0
  · have h0b : decide (i ≥ 0) = true := decide_eq_true h0
    have HD2 := Aside0.mk (show toldIn l who = (rd_T67 l i).f1 from by rw [HD.out, if_pos h0])
    clear HD
    have h0c : 0 ≤ i := h0
    have hlt : i < l.length := HL.out
    go_enter Try.func80, Try.ntmps80
    go_wp2_with fail
    refine HO.out.mono ?_
    rintro e w3 ⟨rfl, hb⟩
    have HB := Aside0.mk hb
    obtain ⟨ad, rfl, q0, q1⟩ := at_T67 (Kd.C_below HR.out hb) i (by omega) (by omega)
    clear hb
    go_wp2
    go_ret
    exact ⟨congrArg (fun q : Int => Ending.returned (.int .i64 q)) HD2.out.symm, HB.out⟩
  · have h0b : decide (i ≥ 0) = false := decide_eq_false h0
    have HD2 := Aside0.mk (show toldIn l who = 0 from by rw [HD.out, if_neg h0])
    clear HD h0
    go_enter Try.func80, Try.ntmps80
    go_wp2_with fail
    refine HO.out.mono ?_
    rintro e w3 ⟨rfl, hb⟩
    have HB := Aside0.mk hb
    clear hb
    go_wp2
    go_ret
    exact ⟨congrArg (fun q : Int => Ending.returned (.int .i64 q)) HD2.out.symm, HB.out⟩
/-- Entries that a row holds can be read. -/
theorem flat_get {l : List E} {j : Nat} {p : E} (h : l[j]? = some p) : (flat l)[j * 2]? = some (.int .i64 p.f0) ∧ (flat l)[j * 2 + 1]? = some (.int .i64 p.f1) := by
  induction l generalizing j with
  | nil => simp at h
  | cons x l ih =>
    cases j with
    | zero => obtain rfl : x = p := by simpa using h
              exact ⟨rfl, rfl⟩
    | succ j =>
      have := ih (j := j) (by simpa using h)
      have e : flat (x :: l) = .int .i64 x.f0 :: .int .i64 x.f1 :: flat l := rfl
      rw [e, show (j + 1) * 2 = j * 2 + 1 + 1 by omega]
      exact this
theorem flat_len (l : List E) : (flat l).length = l.length * 2 := by
  induction l with
  | nil => rfl
  | cons x l ih => show (flat l).length + 2 = _; rw [ih, List.length_cons]; omega
theorem Row.reads {w : World} {A : Option Addr} {c : Nat} {l : List E} (h : Row w 67 2 A l.length c (flat l)) : Kd.C k67 w A l.length l := by
  refine ⟨rfl, by have h1 := h.2.1; have h2 := h.2.2.1; unfold maxLen at h2; omega, fun hn => ?_⟩
  obtain ⟨g, off, cur, rfl, _, _, hc⟩ := h.at_ hn
  refine ⟨_, rfl, fun j p hj => ⟨[.int .i64 p.f0, .int .i64 p.f1], rfl, k67_mk w p, fun i u hu => ?_⟩⟩
  obtain ⟨f0, f1⟩ := flat_get hj
  rw [Addr.add_lit]
  match i, hu with
  | 0, hu => obtain rfl : Value.int .i64 p.f0 = u := by simpa using hu
             exact (hc _ _ f0).1
  | 1, hu => obtain rfl : Value.int .i64 p.f1 = u := by simpa using hu
             exact (hc _ _ f1).1
  | i + 2, hu => simp at hu
end Go.Proofs.Ytagdgkimjgomlaa.Ln
