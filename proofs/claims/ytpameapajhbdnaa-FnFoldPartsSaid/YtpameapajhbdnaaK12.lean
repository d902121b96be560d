/-
  The draws of views.
-/
import Derived.Test.YtpameapajhbdnaaK07
import Derived.Test.YtpameapajhbdnaaK00
import Derived.Test.YtpameapajhbdnaaK11
namespace Go.Proofs.Ytpameapajhbdnaa
open Go.RowKit
set_option linter.unusedVariables false
set_option linter.unusedSimpArgs false

def DrView (M : Nat) (cb : Nat) (w : World) (e : Ending) (w' : World) : Prop := ∃ (g : Option Addr) (q : Nat) (l : List DSeen), l.length ≤ M ∧ e = .returned (.agg #[.slice g l.length q]) ∧ Own w' w.heap.size 129 2 (.slice g l.length q) l.length (l.flatMap DSeen.cells) ∧ Dr cb w w'
set_option maxRecDepth 100000 in
set_option maxHeartbeats 4000000 in
theorem l13View_any (cb : Nat) (w : World) (hc : Cur w cb) :
    Calls Try.prog 158 #[.pointer (some ⟨cb, 0, none⟩)] w (DrView 5 cb w) := by
  obtain ⟨i0, hi, hy0, hy1, hy2⟩ := info_parts info_Seen
  have hcl := hc.lt
  have HC := Lib.hid hc
  clear hc
  go_enter Try.func158, Try.ntmps158
  go_wp2_with fail
  refine (l9Box_any cb _ _ _ (HC.out.ext bxt)).mono ?_
  rintro e w1 ⟨nx, g, q, ms, hml, htx, rfl, ho, hd1⟩
  have hz1 := hd1.size; (try simp at hz1)
  have s1_0 : w.heap.size < w1.heap.size := (by omega)
  have c1_0_0 : w1.cell? ⟨w.heap.size, 0, none⟩ = some (.slice none 0 0) := (hd1.cell (x := w.heap.size) (o := 0) smx (by omega)).trans kpx
  have f1_0_0 : w1.frozen? ⟨w.heap.size, 0, none⟩ = false := (hd1.frozen (x := w.heap.size) (o := 0) smx (by omega)).trans kfx
  have HO := Lib.hid ho; clear ho
  go_wp2_with fail
  refine (specViewOf_any _ _ _ ms g q _ (Rd.of_Own (HO.out.ext bxt)) (by omega) _ (Lib.hid rfl)).mono ?_
  rintro e w2 ⟨g2, q2, rfl, ho2, hb2⟩
  have HO2 := Lib.hid (Own.of_row ho2); clear ho2
  have hz2 := hb2.size; (try simp at hz2)
  obtain ⟨hc2, hf2⟩ := bcell hb2
  have s2 : w.heap.size < w2.heap.size := by omega
  go_wp2_with fail
  refine bodyPost_ret (v := .agg #[.slice g2 (ms.map DMsg.seen).length q2]) (by simp [results, Try.results158, go_sem, *]) rfl ⟨g2, q2, ms.map DMsg.seen, by simpa using hml, rfl, ?_, dtx⟩
  refine Own.le (B := w1.heap.size) ?_ (by omega); exact (by repeat' (first | with_reducible exact HO2.out | with_reducible refine Own.set_below ?_ smx _ | with_reducible refine Own.alloc1 ?_ _ | with_reducible refine Own.drew1 ?_ | with_reducible refine Own.drewN1 ?_ | with_reducible refine Own.ext ?_ (by assumption)))
end Go.Proofs.Ytpameapajhbdnaa
