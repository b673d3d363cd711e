/- The package-level variables of the library that the calls read: two sentinels, one table; they read so in every later world. -/
import Derived.Test.YtpeleommbipeaaaDoorK
import Derived.Test.YtpeleommbipeaaaDoorShelf
import Derived.Stop.LaidErr
import Derived.Lib.LaidTab
import Derived.MakeChecks
import Derived.Test.YtpeleommbipeaaaDoorRows
import Derived.LaidLaws
namespace Go.Proofs.YtpeleommbipeaaaDoor.P
open Go.RowKit Go.Proofs.YtpeleommbipeaaaDoorW.PrintWords Go.Proofs.YtpeleommbipeaaaDoorW.PrintLast
set_option linter.unusedVariables false

theorem var_low {P : Program} {w W : World} {n : String} {cs : Array Value} (h : w.var? P n = some cs) (hb : Below w.heap.size w W) : W.var? P n = some cs := by
  simp only [World.var?] at h ⊢
  cases hg : P.globalNamed n with
  | none => rw [hg] at h; simp at h
  | some g =>
    rw [hg] at h
    simp only [Option.bind_some] at h ⊢
    have hlt : g < w.heap.size := by
      rcases Nat.lt_or_ge g w.heap.size with z | z
      · exact z
      · rw [Array.getElem?_eq_none z] at h; simp at h
    rw [hb.block g hlt]
    exact h
def Gl (w : World) : Prop :=
  (∃ tp p, w.var? Tryd.prog "strconv.ErrSyntax" = some #[.iface tp p]) ∧ (∃ tp p, w.var? Tryd.prog "strconv.ErrRange" = some #[.iface tp p]) ∧
  Lib.TabIs Tryd.prog w "internal/strconv.uint64pow10" .u64 Lib.pow10Tab
theorem Gl.below {w W : World} (h : Gl w) (hb : Below w.heap.size w W) : Gl W := by
  obtain ⟨⟨a, b, h1⟩, ⟨c, d, h2⟩, h3⟩ := h
  exact ⟨⟨a, b, var_low h1 hb⟩, ⟨c, d, var_low h2 hb⟩, var_low h3 hb⟩
theorem Gl.errS {w : World} (h : Gl w) : ∃ tp p, w.cell? ⟨1, 0, none⟩ = some (.iface tp p) := by
  obtain ⟨⟨a, b, h1⟩, _⟩ := h
  exact ⟨a, b, by simpa using World.var?_cell (show Tryd.prog.globalNamed "strconv.ErrSyntax" = some 1 by kernel_rfl) h1 0⟩
theorem Gl.errR {w : World} (h : Gl w) : ∃ tp p, w.cell? ⟨2, 0, none⟩ = some (.iface tp p) := by
  obtain ⟨_, ⟨a, b, h1⟩, _⟩ := h
  exact ⟨a, b, by simpa using World.var?_cell (show Tryd.prog.globalNamed "strconv.ErrRange" = some 2 by kernel_rfl) h1 0⟩
theorem gl_star : "*" ++ "errors.errorString" = "*errors.errorString" := by decide
theorem gl_row (u : TypeId) (h : Tryd.prog.typeName? 3 u = some "*errors.errorString") : u = 100 :=
  typeName_ptr_named (nm := "errors.errorString") (by rw [gl_star]; kernel_rfl) (by kernel_rfl) (by decide) u (by rw [gl_star]; exact h)
theorem gl_tab : (Rows.laid_internal_strconv_uint64pow10 : DataW Unit) = Lib.tabData .u64 Lib.pow10Tab := by kernel_rfl
theorem Gl.of_laid {W : World} {r1 r2 r3 : List (String × DataW Unit)} (h1 : laidMet Tryd.prog (("strconv.ErrSyntax", Rows.laid_strconv_ErrSyntax) :: r1) W) (h2 : laidMet Tryd.prog (("strconv.ErrRange", Rows.laid_strconv_ErrRange) :: r2) W)
    (h3 : laidMet Tryd.prog (("internal/strconv.uint64pow10", Rows.laid_internal_strconv_uint64pow10) :: r3) W) : Gl W := by
  obtain ⟨a, s, hv, _⟩ := laid_sentinel h1 (g := 1) (by kernel_rfl) (ti := 46) (by kernel_rfl) Tryd.underlying46 (tp := 100) gl_row Tryd.underlying100 Tryd.underlying102 rfl rfl Tryd.underlying9 (by kernel_rfl) (by kernel_rfl)
  obtain ⟨a2, s2, hv2, _⟩ := laid_sentinel h2 (g := 2) (by kernel_rfl) (ti := 46) (by kernel_rfl) Tryd.underlying46 (tp := 100) gl_row Tryd.underlying100 Tryd.underlying102 rfl rfl Tryd.underlying9 (by kernel_rfl) (by kernel_rfl)
  rw [gl_tab] at h3
  exact ⟨⟨_, _, hv⟩, ⟨_, _, hv2⟩, Lib.tabIs_of_head (g := 3) (by kernel_rfl) (t := 104) (by kernel_rfl) Tryd.underlying104 Tryd.underlying84 (by kernel_rfl) (by kernel_rfl) h3⟩

end Go.Proofs.YtpeleommbipeaaaDoor.P
