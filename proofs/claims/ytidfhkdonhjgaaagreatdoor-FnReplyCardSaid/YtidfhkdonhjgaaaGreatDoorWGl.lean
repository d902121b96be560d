/-
  What the package variables hold that reading a reply looks at.
-/
import Derived.Test.YtidfhkdonhjgaaaGreatDoorWDig
import Derived.Test.YtidfhkdonhjgaaaGreatDoorStrs
namespace Go.Proofs.YtidfhkdonhjgaaaGreatDoor
open Go.RowKit
set_option linter.unusedVariables false
set_option linter.unusedSimpArgs false

/-- a variable that holds an error -/
def ErrV (name : String) (w : World) : Prop := ∃ tp p, w.var? Tryz.prog name = some #[.iface tp p]
theorem ErrV.ext {name : String} {g : Nat} (hg : Tryz.prog.globalNamed name = some g) {w w' : World} (h : ErrV name w) (hb : Ext w w') : ErrV name w' := by
  obtain ⟨tp, p, hv⟩ := h
  have hc := World.var?_cell hg hv 0
  exact ⟨tp, p, var?_below hb hg (cell_lt (by rw [hc]; rfl)) hv⟩
theorem tab_ext {name : String} {g : Nat} {k : IntKind} {zs : List Int} (hg : Tryz.prog.globalNamed name = some g) (hz : 0 < zs.length) {w w' : World} (h : Lib.TabIs Tryz.prog w name k zs) (hb : Ext w w') : Lib.TabIs Tryz.prog w' name k zs :=
  var?_below hb hg (cell_lt (Lib.TabIs.cell h hg 0 hz)) h
theorem white_ext {g : Nat} {w w' : World} (h : Lib.WhiteTab g w) (hb : Ext w w') : Lib.WhiteTab g w' := by
  obtain ⟨T, oT, R, oR, h1, h2, h3, h4, h5⟩ := h
  exact ⟨T, oT, R, oR, (hb.cell (p := ⟨g, 0, none⟩) (cell_lt h1)).trans h1, (hb.cell (p := ⟨T, oT, none⟩) (cell_lt h2)).trans h2, (hb.cell (p := ⟨T, oT + 1, none⟩) (cell_lt h3)).trans h3, (hb.cell (p := ⟨T, oT + 2, none⟩) (cell_lt h4)).trans h4,
    fun i hi => (hb.cell (p := ⟨R, oR + i, none⟩) (cell_lt (h5 i hi))).trans (h5 i hi)⟩
structure Gl (w : World) : Prop where
  pw : Pw w
  mx : MaxLen w
  es : ErrV "strconv.ErrSyntax" w
  er : ErrV "strconv.ErrRange" w
  el : ErrV "encoding/hex.ErrLength" w
  sp : Lib.TabIs Tryz.prog w "strings.asciiSpace" .u8 Lib.asciiSpaceTab
  ws : Lib.WhiteTab 1 w
theorem Gl.ext {w w' : World} (h : Gl w) (hb : Ext w w') : Gl w' :=
  ⟨h.pw.ext hb, h.mx.ext hb, h.es.ext (g := 4) (by kernel_rfl) hb, h.er.ext (g := 5) (by kernel_rfl) hb, h.el.ext (g := 3) (by kernel_rfl) hb,
    tab_ext (g := 0) (by kernel_rfl) (by simp [Lib.asciiSpaceTab]) h.sp hb, white_ext h.ws hb⟩
end Go.Proofs.YtidfhkdonhjgaaaGreatDoor
