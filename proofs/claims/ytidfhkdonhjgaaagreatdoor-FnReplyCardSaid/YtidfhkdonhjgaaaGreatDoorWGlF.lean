/-
  The package variables' readings, out of what the row lists.
-/
import Derived.Test.YtidfhkdonhjgaaaGreatDoorWGl
import Derived.Lib.LaidU8
namespace Go.Proofs.YtidfhkdonhjgaaaGreatDoor
open Go.RowKit Go.Lib
set_option linter.unusedVariables false
set_option linter.unusedSimpArgs false

theorem iface_of_trod {H : Type} {enc : TypeId × Value → H} {P : Program} {w : World} {base : Nat} {sp : Nat → Bool} {fuel : Nat} {t : TypeId} {ms : Array (String × TypeId)} {cs : List Value} {nm : String} {d : DataW H} {p : List MemPlace}
    (ht : P.underlying t = some (.interface ms)) (h : DataW.trod enc P w base sp false fuel t cs = some (.iface nm d, p)) : ∃ u v, cs = [.iface u v] := by
  cases fuel with
  | zero => simp [DataW.trod] at h
  | succ fuel =>
    unfold DataW.trod at h
    rw [ht] at h
    split at h <;> first | (exact ⟨_, _, rfl⟩) | (simp_all; done) | (cases h; done) | skip
theorem errV_of {name : String} {g : Nat} {t : TypeId} {ms : Array (String × TypeId)} {w : World} {nm : String} {d : DataW Unit} (hg : Tryz.prog.globalNamed name = some g) (hty : (Tryz.prog.globals[g]?).map (·.type) = some t) (ht : Tryz.prog.underlying t = some (.interface ms))
    (h : VarReads Tryz.prog w name (.iface nm d)) : ErrV name w := by
  obtain ⟨g', t', cs, fuel, p, hg', hty', hvar, hd⟩ := h
  obtain rfl := Option.some.inj (hg.symm.trans hg')
  obtain rfl := Option.some.inj (hty.symm.trans hty')
  obtain ⟨u, v, hc⟩ := iface_of_trod ht hd
  have e : cs = #[.iface u v] := Array.ext' hc
  exact ⟨u, v, by rw [← e]; exact hvar⟩
theorem tab_of {name : String} {g : Nat} {t e : TypeId} {n : Nat} {k : IntKind} {zs : List Int} {w : World} (hg : Tryz.prog.globalNamed name = some g) (hty : (Tryz.prog.globals[g]?).map (·.type) = some t) (ht : Tryz.prog.underlying t = some (.array n e)) (he : Tryz.prog.underlying e = some (.int k)) (hce : Tryz.prog.cellsOf e = 1) (hct : Tryz.prog.cellsOf t = n)
    (h : VarReads Tryz.prog w name (tabData k zs)) : TabIs Tryz.prog w name k zs := by
  obtain ⟨g', t', cs, fuel, p, hg', hty', hvar, hd⟩ := h
  obtain rfl := Option.some.inj (hg.symm.trans hg')
  obtain rfl := Option.some.inj (hty.symm.trans hty')
  have hc := cells_of_tab ht he hce hct hd
  have e : cs = (zs.map fun z => Value.int k z).toArray := Array.ext' (hc.trans rfl)
  unfold TabIs
  rw [← e]
  exact hvar
theorem white_eq : Rows.laid_unicode_White_Space = whiteData := by kernel_rfl
theorem pow_eq : (Rows.laid_internal_strconv_uint64pow10 : DataW Unit) = tabData .u64 pow10Tab := by kernel_rfl
theorem sp_eq : (Rows.laid_strings_asciiSpace : DataW Unit) = tabData .u8 asciiSpaceTab := by kernel_rfl
theorem whiteX : WhiteExtra Tryz.prog Tryz.lays199_ren where
  n6 := by kernel_rfl
  y6 := by kernel_rfl
  c3 := by kernel_rfl
  c49 := by kernel_rfl
  c193 := by kernel_rfl
  c194 := by kernel_rfl
  c196 := by kernel_rfl
  c198 := by kernel_rfl
theorem gl_of_reads {w : World} (hm : MaxLen w) (h1 : VarReads Tryz.prog w "internal/strconv.uint64pow10" Rows.laid_internal_strconv_uint64pow10) (h2 : VarReads Tryz.prog w "strconv.ErrRange" Rows.laid_strconv_ErrRange) (h3 : VarReads Tryz.prog w "strconv.ErrSyntax" Rows.laid_strconv_ErrSyntax) (h4 : VarReads Tryz.prog w "unicode.White_Space" Rows.laid_unicode_White_Space) (h5 : VarReads Tryz.prog w "strings.asciiSpace" Rows.laid_strings_asciiSpace) (h6 : VarReads Tryz.prog w "encoding/hex.ErrLength" Rows.laid_encoding_hex_ErrLength) : Gl w := by
  rw [pow_eq] at h1
  rw [white_eq] at h4
  rw [sp_eq] at h5
  exact ⟨tab_of (g := 6) (t := 164) (e := 145) (n := 20) (by kernel_rfl) (by kernel_rfl) (by kernel_rfl) (by kernel_rfl) (by kernel_rfl) (by kernel_rfl) h1, hm,
    errV_of (g := 4) (t := 93) (by kernel_rfl) (by kernel_rfl) Tryz.underlying93 h3,
    errV_of (g := 5) (t := 93) (by kernel_rfl) (by kernel_rfl) Tryz.underlying93 h2,
    errV_of (g := 3) (t := 93) (by kernel_rfl) (by kernel_rfl) Tryz.underlying93 h6,
    tab_of (g := 0) (t := 96) (e := 5) (n := 256) (by kernel_rfl) (by kernel_rfl) (by kernel_rfl) (by kernel_rfl) (by kernel_rfl) (by kernel_rfl) h5,
    whiteTab_of_reads Tryz.lays199 whiteX h4⟩
end Go.Proofs.YtidfhkdonhjgaaaGreatDoor
