import Derived.Test.YtefcjnnngaaihaaDoorProg
import Derived.Test.YtefcjnnngaaihaaDoorPr2
import Derived.Ground.NamesProg
import Derived.Shelf.Lay
import Derived.Shelf.Strconv.ErrVarAll
import Derived.Shelf.Strconv.Itoa4
import Derived.Shelf.Strings.OnBuilder
import Derived.Shelf.Strings.Split
import Derived.Lib.AppendIntMem
import Derived.Test.YtefcjnnngaaihaaDoorWWords
import Derived.WalkKit
import Derived.BigCall
/- The library's functions at this program, over what the variables hold. -/
namespace Go.Proofs
open Go.Shelf Go.RowKit
shelf_lay LaysC.n172 Nm 172 at Tryd as Tryd.pgAtoi
shelf_lay LaysM.n171 Nm 171 at Tryd as Tryd.pgItoa
shelf_lay Lays.n146 Nm 146 at Tryd as Tryd.pgSplit
shelf_lay Lays.n156 Nm 156 at Tryd as Tryd.pgJoin
theorem Tryd.pgExtra : Builder.Extra Tryd.prog Tryd.pgJoin_ren where
  sizeBuilder := by kernel_rfl
  liesBuilder := by kernel_rfl
  t5 := by kernel_rfl
  a5 := Tryd.pgAtoi.a5
  z5 := Tryd.pgAtoi.z5
  v5 := Tryd.pgAtoi.v5
  infoByte := by kernel_rfl
  cellsByte := by kernel_rfl
  sizeByte := by kernel_rfl
  neB5 := by decide
set_option linter.unusedVariables false
namespace YtefcjnnngaaihaaDoor.Pg
open Go.Proofs.Pg

theorem var_below {P : Program} {w w' : World} {n : String} {cs : Array Value} (h : w.var? P n = some cs) (hb : Below w.heap.size w w') : w'.var? P n = some cs := by
  unfold World.var? at h ⊢
  cases hg : P.globalNamed n with
  | none => rw [hg] at h; cases h
  | some g =>
    rw [hg] at h
    simp only [Option.bind_some] at h ⊢
    have hlt : g < w.heap.size := by
      rcases Nat.lt_or_ge g w.heap.size with h' | h'
      · exact h'
      · rw [Array.getElem?_eq_none h'] at h; cases h
    rw [hb.block g hlt]; exact h

/-- What the library's variables hold. -/
structure Env (w : World) : Prop where
  tab : Lib.TabIs Tryd.prog w "internal/strconv.uint64pow10" .u64 Lib.pow10Tab
  syn : ∃ tp p, w.var? Tryd.prog "strconv.ErrSyntax" = some #[.iface tp p]
  rng : ∃ tp p, w.var? Tryd.prog "strconv.ErrRange" = some #[.iface tp p]
  max : ∃ m, w.cell? ⟨Tryd.pgSplit_ren.g 1, 0, none⟩ = some (.int .i64 m)
theorem Env.below {w w' : World} (h : Env w) (hb : Below w.heap.size w w') : Env w' := by
  obtain ⟨h1, ⟨a, b, h2⟩, ⟨c, d, h3⟩, m, h4⟩ := h
  exact ⟨var_below h1 hb, ⟨a, b, var_below h2 hb⟩, ⟨c, d, var_below h3 hb⟩, m, (World.cell?_of_block (hb.block _ (World.block_lt_of_cell? w _ h4))).trans h4⟩

theorem itoa_ (n : Int) (hn : I64 n) (w : World) (hE : Env w) :
    Calls Tryd.prog 31 #[.int .i64 n] w fun e w' => e = .returned (.string ⟨(Lib.itoa n).toArray⟩) ∧ Below w.heap.size w w' :=
  (Any.strconv_Itoa Tryd.pgItoa n hn.1 hn.2 w hE.tab).mono fun e w' ⟨h1, k, os, h2⟩ => ⟨h1, h2 ▸ Lib.below_grow _ w (Nat.le_refl _) k os⟩

theorem atoi_ok (s : ByteArray) (v : Int) (hs : s.size ≤ 281474976710656) (h : Lib.atoiAll s.data.toList = .ok v) (w : World) :
    Calls Tryd.prog 34 #[.string s] w fun e w' => e = .returned (.tuple #[.int .i64 v, .nilIface]) ∧ Below w.heap.size w w' :=
  (Any.strconv_Atoi_ok Tryd.pgAtoi s (by omega) v h w).mono fun e w' ⟨h1, h2⟩ => ⟨h1, by
    rcases h2 with rfl | ⟨t, rfl⟩
    · exact Below.refl _ _
    · exact Lib.bytesWorld_below _ _ _⟩
theorem atoi_bad (s : ByteArray) (hs : s.size ≤ 281474976710656) (h : ∀ v, Lib.atoiAll s.data.toList ≠ .ok v) (w : World) (hE : Env w) :
    Calls Tryd.prog 34 #[.string s] w fun e w' => (∃ x t N, e = .returned (.tuple #[.int .i64 x, .iface t (.pointer (some ⟨N, 0, none⟩))])) ∧ Below w.heap.size w w' := by
  obtain ⟨_, ⟨a, b, h2⟩, ⟨c, d, h3⟩, _⟩ := hE
  cases hr : Lib.atoiAll s.data.toList with
  | ok v => exact absurd hr (h v)
  | «syntax» => exact (Any.strconv_Atoi_syntax_var Tryd.pgAtoi s hs hr a b w h2).mono fun e w' ⟨N, h1, _, _, h4⟩ => ⟨⟨_, _, N, h1⟩, h4⟩
  | range => exact (Any.strconv_Atoi_range_var Tryd.pgAtoi s hs hr c d w h3).mono fun e w' ⟨N, h1, _, _, h4⟩ => ⟨⟨_, _, N, h1⟩, h4⟩

theorem join_ (bk o c : Nat) (xs : List ByteArray) (w : World)
    (hcells : ∀ (j : Nat) x, xs[j]? = some x → w.cell? ⟨bk, o + j, none⟩ = some (.string x))
    (hbk : bk < w.heap.size) (hN : xs.length ≤ 140737488355328) (hcap : xs.length ≤ c)
    (hlen : (Lib.join (xs.map (·.data.toList)) [32]).length ≤ 140737488355328) :
    Calls Tryd.prog 32 #[.slice (some ⟨bk, o, none⟩) xs.length c, .string ⟨#[32]⟩] w fun e w' => e = .returned (.string ⟨(Lib.join (xs.map (·.data.toList)) [32]).toArray⟩) ∧ Below w.heap.size w w' :=
  Any.strings_Join Tryd.pgJoin Tryd.pgExtra bk o c xs ⟨#[32]⟩ w hcells hbk hN hcap hlen

/-- The pieces between spaces. -/
def pieces (s : ByteArray) : List ByteArray := Lib.splitB ⟨#[32]⟩ 0 (Lib.countB s ⟨#[32]⟩) s
theorem pieces_len (s : ByteArray) : (pieces s).length = Lib.countB s ⟨#[32]⟩ + 1 := Lib.splitB_all ⟨#[32]⟩ (by decide) 0 _ s rfl
theorem pieces_data (s : ByteArray) : (pieces s).map (·.data.toList) = Lib.split s.data.toList [32] := Lib.splitB_data ⟨#[32]⟩ 0 _ s
theorem split_ (s : ByteArray) (w : World) (hs : s.size < 4294967281) (hE : Env w) :
    Calls Tryd.prog 33 #[.string s, .string ⟨#[32]⟩] w fun e w' => e = .returned (.slice (some ⟨w.heap.size, 0, none⟩) (pieces s).length (pieces s).length) ∧
      w' = w.alloc (.cells ((pieces s).map Value.string).toArray 9) := by
  obtain ⟨_, _, _, m, hm⟩ := hE
  rw [pieces_len]
  exact Any.strings_Split Tryd.pgSplit (by kernel_rfl) s ⟨#[32]⟩ m w hs hm (by decide)

/-- word. -/
theorem word_ (k : Int) (w : World) :
    Calls Tryd.prog 29 #[.int .i64 k] w fun e w' => e = .returned (.tuple #[.string ⟨(word k).1.toArray⟩, .int .i64 (word k).2.1, .bool (word k).2.2]) ∧ w' = w := by
  by_cases h1 : k = 1
  · subst h1; go_enter Tryd.func29, Tryd.ntmps29; go_wp2; go_ret3; exact ⟨rfl, rfl⟩
  by_cases h2 : k = 2
  · subst h2; go_enter Tryd.func29, Tryd.ntmps29; go_wp2; go_ret3; exact ⟨rfl, rfl⟩
  by_cases h3 : k = 3
  · subst h3; go_enter Tryd.func29, Tryd.ntmps29; go_wp2; go_ret3; exact ⟨rfl, rfl⟩
  by_cases h4 : k = 4
  · subst h4; go_enter Tryd.func29, Tryd.ntmps29; go_wp2; go_ret3; exact ⟨rfl, rfl⟩
  by_cases h5 : k = 5
  · subst h5; go_enter Tryd.func29, Tryd.ntmps29; go_wp2; go_ret3; exact ⟨rfl, rfl⟩
  by_cases h6 : k = 6
  · subst h6; go_enter Tryd.func29, Tryd.ntmps29; go_wp2; go_ret3; exact ⟨rfl, rfl⟩
  by_cases h7 : k = 7
  · subst h7; go_enter Tryd.func29, Tryd.ntmps29; go_wp2; go_ret3; exact ⟨rfl, rfl⟩
  have e1 : (k == 1) = false := by simpa using h1
  have e2 : (k == 2) = false := by simpa using h2
  have e3 : (k == 3) = false := by simpa using h3
  have e4 : (k == 4) = false := by simpa using h4
  have e5 : (k == 5) = false := by simpa using h5
  have e6 : (k == 6) = false := by simpa using h6
  have e7 : (k == 7) = false := by simpa using h7
  have hw : word k = ([], 0, false) := by simp [word, h1, h2, h3, h4, h5, h6, h7]
  rw [hw]
  clear hw
  go_enter Tryd.func29, Tryd.ntmps29
  go_wp2
  go_ret3
  exact ⟨rfl, rfl⟩

end YtefcjnnngaaihaaDoor.Pg
end Go.Proofs
