/- How arguments of a law are opened: what can be read as data reads as a list of structs, a list of lists, and so on. No program in sight: over any program. -/
import Derived.Test.YtaaekmcmpjljgaaGreatWMore
import Derived.ChangeArms
import Derived.DataReads
import Derived.Deep.Slices
namespace Go.Proofs.YtaaekmcmpjljgaaGreatW.Open
open Go.RowKit Go.Proofs.YtaaekmcmpjljgaaGreatW.PrintWords

section
variable {H : Type} (enc : TypeId × Value → H) (P : Program) (w : World) (base : Nat) (spare : Nat → Bool) (held : Bool)
/-- Cells of type T that can be read as data are a value of kind k that meets W. -/
def Opens {α : Type} (T : TypeId) (k : Kd α) (W : α → Prop) : Prop :=
  ∀ (fuel : Nat) (cs : List Value) (x : DataW H × List MemPlace), DataW.trod enc P w base spare held fuel T cs = some x → ∃ v, k.K w v cs ∧ W v
/-- The same of a struct's fields, from offset o on. -/
def OpensF {α : Type} (o : Nat) (fs : List Field) (k : Kd α) (W : α → Prop) : Prop :=
  ∀ (n : Nat) (cs : List Value), cs.length = o + k.sz → (∀ (i : Nat) (f : Field), fs[i]? = some f → ∃ y, DataW.trod enc P w base spare held n f.type ((cs.drop f.offset).take (P.cellsOf f.type)) = some y) → ∃ v, k.K w v (cs.drop o) ∧ W v
end

section
variable {H : Type} {enc : TypeId × Value → H} {P : Program} {w : World} {base : Nat} {spare : Nat → Bool} {held : Bool}
theorem opens_int {k : IntKind} {T : TypeId} (ht : P.underlying T = some (.int k)) : Opens enc P w base spare held T (Kd.int k) (fun n => (Lit.int k n).wf = true) := by
  intro fuel cs x h
  obtain ⟨n, rfl, _, hw⟩ := DataW.trod_int ht h
  exact ⟨n, rfl, hw⟩
theorem list_of {α : Type} {Q : Nat → α → Prop} (n : Nat) (h : ∀ i, i < n → ∃ v, Q i v) : ∃ l : List α, l.length = n ∧ ∀ i v, l[i]? = some v → Q i v := by
  induction n with
  | zero => exact ⟨[], rfl, fun i v hv => by simp at hv⟩
  | succ n ih =>
    obtain ⟨l, hl, hq⟩ := ih (fun i hi => h i (by omega))
    obtain ⟨v, hv⟩ := h n (by omega)
    refine ⟨l ++ [v], by simp [hl], fun i u hu => ?_⟩
    by_cases e : i < l.length
    · rw [List.getElem?_append_left e] at hu
      exact hq i u hu
    · rw [List.getElem?_append_right (by omega)] at hu
      have e2 : i - l.length = 0 := by
        cases hz : i - l.length with
        | zero => rfl
        | succ z => rw [hz] at hu; simp at hu
      rw [e2] at hu
      have e3 : v = u := by simpa using hu
      have e4 : i = n := by omega
      rw [e4, ← e3]
      exact hv
theorem add_plus (a : Addr) (m i : Nat) : (a.add m).add i = a.add (m + i) := by
  unfold Addr.add
  repeat' split
  all_goals simp_all [Nat.add_assoc]
theorem opens_slice {α : Type} {d : Kd α} {W : α → Prop} {T e : TypeId} (ht : P.underlying T = some (.slice e)) (hs : P.cellsOf e = d.sz) (h : Opens enc P w base spare held e d W) :
    Opens enc P w base spare held T (Kd.slice e d) (fun l => l.length ≤ maxLen ∧ ∀ x ∈ l, W x) := by
  intro fuel cs x hx
  rcases DataW.trod_slice ht hx with ⟨rfl, _⟩ | ⟨a, len, cap, elems, rest, n, _, rfl, _, hb, hl, hm, hlen, hel, _, _⟩
  · refine ⟨[], ⟨none, 0, rfl, Nat.le_refl _, rfl, by simp, fun h0 => absurd h0 (by simp)⟩, by simp, fun x hx => by simp at hx⟩
  · obtain ⟨l, hll, hq⟩ := list_of (Q := fun i v => ∃ cs', w.cells? base (a.add (i * P.cellsOf e)) (P.cellsOf e) = some cs' ∧ d.K w v cs' ∧ W v) len (fun i hi => by
      have h1 := hel i hi
      rw [List.getElem?_eq_getElem (by omega)] at h1
      obtain ⟨cs', h2, h3⟩ := Option.bind_eq_some_iff.1 h1
      obtain ⟨v, h4, h5⟩ := h n cs' _ h3
      exact ⟨v, cs', h2, h4, h5⟩)
    refine ⟨l, ⟨some a, cap, by rw [hll], by omega, rfl, by unfold maxLen at hm; omega, fun _ => ⟨a, rfl, fun j p hp => ?_⟩⟩, by omega, fun x hx => ?_⟩
    · obtain ⟨cs', h1, h2, _⟩ := hq j p hp
      obtain ⟨_, h3, h4⟩ := World.cells?_some h1
      refine ⟨cs', d.K_len h2, h2, fun i u hu => ?_⟩
      have hi : i < cs'.length := (List.getElem?_eq_some_iff.1 hu).1
      have := h4 i (by omega)
      rw [hu, add_plus, hs] at this
      exact this
    · obtain ⟨i, hi, rfl⟩ := List.getElem_of_mem hx
      obtain ⟨_, _, _, h5⟩ := hq i _ (List.getElem?_eq_getElem hi)
      exact h5
theorem opensF_one {α : Type} {k : Kd α} {W : α → Prop} {o : Nat} {f : Field} (ho : f.offset = o) (hs : P.cellsOf f.type = k.sz) (h : Opens enc P w base spare held f.type k W) : OpensF enc P w base spare held o [f] k W := by
  intro n cs hl hx
  obtain ⟨y, hy⟩ := hx 0 f rfl
  rw [ho, List.take_of_length_le (by rw [List.length_drop]; omega)] at hy
  exact h n _ y hy
theorem opensF_cons {α β : Type} {a : Kd α} {b : Kd β} {Wa : α → Prop} {Wb : β → Prop} {o : Nat} {f : Field} {fs : List Field} (ho : f.offset = o) (hs : P.cellsOf f.type = a.sz) (h : Opens enc P w base spare held f.type a Wa) (hf : OpensF enc P w base spare held (o + a.sz) fs b Wb) :
    OpensF enc P w base spare held o (f :: fs) (Kd.pair a b) (fun p => Wa p.1 ∧ Wb p.2) := by
  intro n cs hl hx
  have hl' : cs.length = o + (a.sz + b.sz) := hl
  obtain ⟨y, hy⟩ := hx 0 f rfl
  rw [ho, hs] at hy
  obtain ⟨v, hv, hw⟩ := h n _ y hy
  obtain ⟨u, hu, hw2⟩ := hf n cs (by omega) (fun i g hg => hx (i + 1) g hg)
  refine ⟨(v, u), ⟨_, _, ?_, hv, hu⟩, hw, hw2⟩
  rw [← List.drop_drop, List.take_append_drop]
theorem opens_struct {α : Type} {k : Kd α} {W : α → Prop} {T : TypeId} {fs : Array Field} (ht : P.underlying T = some (.struct fs)) (hs : P.cellsOf T = k.sz) (h : OpensF enc P w base spare held 0 fs.toList k W) : Opens enc P w base spare held T k W := by
  intro fuel cs x hx
  obtain ⟨xs, n, _, _, hl, hxl, hf⟩ := DataW.trod_struct ht hx
  obtain ⟨v, hv, hw⟩ := h n cs (by omega) (fun i f hi => by
    have h1 := hf i f (by simpa using hi)
    have hi2 : i < fs.size := by
      have := (List.getElem?_eq_some_iff.1 hi).1
      simpa using this
    rw [List.getElem?_eq_getElem (by omega)] at h1
    exact ⟨_, h1⟩)
  exact ⟨v, by simpa using hv, hw⟩
theorem opens_iso {α β : Type} {d : Kd α} {W : α → Prop} {T : TypeId} (f : β → α) (g : α → β) (hfg : ∀ a, f (g a) = a) (h : Opens enc P w base spare held T d W) : Opens enc P w base spare held T (Kd.iso d f) (fun b => W (f b)) := by
  intro fuel cs x hx
  obtain ⟨v, hv, hw⟩ := h fuel cs x hx
  exact ⟨g v, by show d.K w (f (g v)) cs; rw [hfg]; exact hv, by show W (f (g v)); rw [hfg]; exact hw⟩
/-- A slice that is an argument. -/
theorem arg_slice {α : Type} {k : Kd α} {W : List α → Prop} {T e : TypeId} {a : Option Addr} {len cap : Nat} {d : DataW H} {ps : List MemPlace} (h : Opens enc P w base spare held T (Kd.slice e k) W) (ht : DataW.Trod enc P w base spare held T (.slice a len cap) d ps) :
    ∃ l, len = l.length ∧ l.length ≤ cap ∧ k.C w a l.length l ∧ W l := by
  obtain ⟨fuel, hf⟩ := ht
  obtain ⟨l, ⟨A, c, e1, h1, h2⟩, hw⟩ := h fuel _ _ hf
  simp only [Value.cells, List.cons.injEq, Value.slice.injEq, and_true] at e1
  obtain ⟨rfl, rfl, rfl⟩ := e1
  exact ⟨l, rfl, h1, h2, hw⟩
/-- A struct that is an argument. -/
theorem arg_struct {α : Type} {k : Kd α} {W : α → Prop} {T : TypeId} {cs : Array Value} {d : DataW H} {ps : List MemPlace} (h : Opens enc P w base spare held T k W) (ht : DataW.Trod enc P w base spare held T (.agg cs) d ps) :
    ∃ v, k.K w v cs.toList ∧ W v := by
  obtain ⟨fuel, hf⟩ := ht
  exact h fuel _ _ hf
end
end Go.Proofs.YtaaekmcmpjljgaaGreatW.Open
