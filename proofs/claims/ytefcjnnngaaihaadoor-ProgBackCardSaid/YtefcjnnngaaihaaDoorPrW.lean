import Derived.Test.YtefcjnnngaaihaaDoorCards
import Derived.Test.YtefcjnnngaaihaaDoorTie
import Derived.Test.YtefcjnnngaaihaaDoorPr7
import Derived.ProofKit
import Derived.OpenShut
import Derived.Lay
import Derived.LaidSub
import Derived.Deep.DeepHandedRow
import Derived.Deep.DeepWitnessRowRef
import Derived.Lib.LaidTab
import Derived.Stop.LaidErr
import Derived.Shelf.Strings.SplitShaped
namespace Go.Proofs
open Go.Shelf Go.RowKit
shelf_lay LaysM.n146 Nm 146 at Tryd as Tryd.pgSplitM
end Go.Proofs
/- What the rows' list of variables gives: the library's variables; a world for the witness. -/
namespace Go.Proofs.YtefcjnnngaaihaaDoor.Pg
open Go Go.RowKit Go.Proofs.Pg Go.Shelf
set_option linter.unusedVariables false
set_option maxRecDepth 100000
theorem own : ownKnob Tryd.prog.godebug = none := by kernel_rfl
noncomputable abbrev theLaid : List (String × DataW Unit) := Rows.progOddRow.laid
noncomputable def W0 (os : Os) : World := World.laidAll Tryd.prog os theLaid
theorem met (os : Os) (args : Array Value) : laidMet Tryd.prog theLaid ((W0 os).forCall (fun _ _ => 0) ⟨#[], args, []⟩).memory :=
  laidMet_laidAll args (by kernel_rfl) (by kernel_rfl)
theorem plain_laid {W : World} (h : laidMetH Tryd.prog theLaid W) : laidMet Tryd.prog theLaid W := by
  rw [MakeChecks.laidMetH_plain _ _ _ (by kernel_rfl)] at h; exact h
theorem only {W : World} (n : String) (d : DataW Unit) (h : laidMet Tryd.prog theLaid W) (hf : theLaid.filter (fun x => x.1 == n) = [(n, d)]) : laidMet Tryd.prog [(n, d)] W := by
  have h1 := laidMet.filter (fun x => x.1 == n) h
  rw [hf] at h1; exact h1
theorem onlyH {W : World} (n : String) (d : DataW Unit) (h : laidMetH Tryd.prog theLaid W) (hf : theLaid.filter (fun x => x.1 == n) = [(n, d)]) : laidMetH Tryd.prog [(n, d)] W := by
  have h1 := laidMetH.filter (fun x => x.1 == n) h
  rw [hf] at h1; exact h1
theorem gES : Tryd.prog.globalNamed "strconv.ErrSyntax" = some 0 := by kernel_rfl
theorem gER : Tryd.prog.globalNamed "strconv.ErrRange" = some 1 := by kernel_rfl
theorem gPT : Tryd.prog.globalNamed "internal/strconv.uint64pow10" = some 2 := by kernel_rfl
theorem star : "*" ++ "errors.errorString" = "*errors.errorString" := by decide
theorem rowE (u : TypeId) (h : Tryd.prog.typeName? 3 u = some "*errors.errorString") : u = 116 :=
  typeName_ptr_named (nm := "errors.errorString") (by rw [star]; kernel_rfl) (by kernel_rfl) (by decide) u (by rw [star]; exact h)
theorem env_of {W : World} (hL : laidMetH Tryd.prog theLaid W) (hS : W.ShapedOpen Tryd.prog) : Env W := by
  have hP := plain_laid hL
  refine ⟨?_, ?_, ?_, ?_⟩
  · exact Lib.tabIs_of_head (rest := []) gPT (by kernel_rfl) Tryd.underlying110 Tryd.underlying89 (by kernel_rfl) (by kernel_rfl) (onlyH "internal/strconv.uint64pow10" Rows.laid_internal_strconv_uint64pow10 hL (by kernel_rfl))
  · obtain ⟨a, s, hv, _⟩ := laid_sentinel (only "strconv.ErrSyntax" Rows.laid_strconv_ErrSyntax hP (by kernel_rfl)) gES (by kernel_rfl) Tryd.underlying66 rowE Tryd.underlying116 Tryd.underlying118 rfl rfl Tryd.underlying9 (by kernel_rfl) (by kernel_rfl)
    exact ⟨_, _, hv⟩
  · obtain ⟨a, s, hv, _⟩ := laid_sentinel (only "strconv.ErrRange" Rows.laid_strconv_ErrRange hP (by kernel_rfl)) gER (by kernel_rfl) Tryd.underlying66 rowE Tryd.underlying116 Tryd.underlying118 rfl rfl Tryd.underlying9 (by kernel_rfl) (by kernel_rfl)
    exact ⟨_, _, hv⟩
  · exact Tryd.pgSplitM.s1_3 W hS
end Go.Proofs.YtefcjnnngaaihaaDoor.Pg
