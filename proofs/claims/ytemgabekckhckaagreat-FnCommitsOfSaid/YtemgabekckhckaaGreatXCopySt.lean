/-
  The reference's copy of a store.
  The program's copy of a store.
-/
import Derived.Test.YtemgabekckhckaaGreatXLaw
import Derived.Test.YtemgabekckhckaaGreatXFam
import Derived.Test.YtemgabekckhckaaGreatListCommit
import Derived.Test.YtemgabekckhckaaGreatWCopies
import Derived.Test.YtemgabekckhckaaGreatXMarkS
import Derived.Test.YtemgabekckhckaaGreatXOwn
namespace Go.Proofs.YtemgabekckhckaaGreat
open Go.RowKit
set_option linter.unusedVariables false
set_option linter.unusedSimpArgs false

theorem sMkN {n : Nat} {W w' : World} (h : Below n W w') : Below n W w' ∧ (∀ b o, b < n → w'.cell? ⟨b, o, none⟩ = W.cell? ⟨b, o, none⟩) := ⟨h, fun b o hb => h.cell (p := ⟨b, o, none⟩) hb⟩
theorem OwnBs.setb {w : World} {B E EM c : Nat} {a : Option Addr} {l : List PBox} (h : OwnBs w B E EM a c l) {p : Addr} (hp : p.block < B) (u : Value) : OwnBs (w.setCell p u) B E EM a c l := ⟨h.row.set_below hp u, fun z hz => (h.msg z hz).set_below hp u, h.off, h.apart⟩
theorem OwnSt.setb {w : World} {B E EM EC : Nat} {ba la : Option Addr} {bc lc : Nat} {zs : List PBox} {l : List DCommit} (h : OwnSt w B E EM EC ba bc zs la lc l) {p : Addr} (hp : p.block < B) (u : Value) : OwnSt (w.setCell p u) B E EM EC ba bc zs la lc l := ⟨h.box.setb hp u, h.log.set_below hp u, h.offr, h.offm⟩
/-- the store of a copied list of mailboxes and a log that was made after them -/
theorem OwnSt.of {w4 w6 : World} {B E EM EC : Nat} {ba la : Option Addr} {bc lc : Nat} {zs : List PBox} {l : List DCommit} (h : OwnBs w4 B E EM ba bc zs) (hl : Own w6 w4.heap.size EC 6 (.slice la l.length lc) l.length (l.flatMap DCommit.cells)) (hB : B ≤ w4.heap.size) (hb : Ext w4 w6) : OwnSt w6 B E EM EC ba bc zs la lc l :=
  ⟨h.ext hb, hl.le hB, Off2.of h.row hl (Nat.le_refl _), fun z hz => Off2.of (h.msg z hz) hl (Nat.le_refl _)⟩
set_option maxRecDepth 100000 in
set_option maxHeartbeats 8000000 in
theorem specCopySt_any (b : List PBox) (ba : Option Addr) (bc : Nat) (l : List DCommit) (la : Option Addr) (lc : Nat) (gv : Int) (w : World) (R : Rd w ba bc 4 b.length (b.flatMap PBox.cells)) (M : RdM w b) (RL : Rd w la lc 6 l.length (l.flatMap DCommit.cells)) (hl : b.length ≤ 1048576) (hlm : ∀ y ∈ b, y.msgs.length ≤ 1048576) (hll : l.length ≤ 1048576) :
    Calls Tryz.prog 83 #[.agg #[.slice ba b.length bc, .slice la l.length lc, .int .i64 gv]] w fun e w' => ∃ g q zs g2 q2, e = .returned (.agg #[.slice g zs.length q, .slice g2 l.length q2, .int .i64 gv]) ∧ OwnSt w' w.heap.size 32 60 45 g q zs g2 q2 l ∧ zs.map PBox.box = b.map PBox.box ∧ Ext w w' := by
  obtain ⟨i0, hi0, hz0, hz1, hz2⟩ := info_parts info_Commit
  have HR := Lib.hid R
  have HM := Lib.hid M
  have HRL := Lib.hid RL
  have HLM := Lib.hid hlm
  clear R M RL hlm
  go_enter Tryz.func83, Tryz.ntmps83
  go_wp2_with fail
  refine wp_world (fun W hW => ?_)
  have hwW : Below w.heap.size w W := by (rw [hW]; exact bxt)
  have bx0 : W.cell? ⟨w.heap.size, 0, none⟩ = some (.slice ba b.length bc) := by (rw [hW]; simp [go_sem])
  have bx1 : W.cell? ⟨w.heap.size, 1, none⟩ = some (.slice la l.length lc) := by (rw [hW]; simp [go_sem])
  have bx2 : W.cell? ⟨w.heap.size, 2, none⟩ = some (.int .i64 gv) := by (rw [hW]; simp [go_sem])
  have by0 : W.cell? ⟨w.heap.size + 1, 0, none⟩ = some (.slice none 0 0) := by (rw [hW]; simp [go_sem])
  have bf0 : W.frozen? ⟨w.heap.size + 1, 0, none⟩ = false := by (rw [hW]; simp [go_sem])
  have by1 : W.cell? ⟨w.heap.size + 1, 1, none⟩ = some (.slice none 0 0) := by (rw [hW]; simp [go_sem])
  have bf1 : W.frozen? ⟨w.heap.size + 1, 1, none⟩ = false := by (rw [hW]; simp [go_sem])
  have by2 : W.cell? ⟨w.heap.size + 1, 2, none⟩ = some (.int .i64 0) := by (rw [hW]; simp [go_sem])
  have bf2 : W.frozen? ⟨w.heap.size + 1, 2, none⟩ = false := by (rw [hW]; simp [go_sem])
  have sW : W.heap.size = w.heap.size + 2 := by (rw [hW]; simp)
  clear hW
  go_region_held3 (fun w' => Below (w.heap.size + 1) W w' ∧ (∀ b o, b < w.heap.size + 1 → w'.cell? ⟨b, o, none⟩ = W.cell? ⟨b, o, none⟩)) ((refine sMkN ?_; exact (by repeat' (first | with_reducible exact Below.refl _ _ | with_reducible assumption | with_reducible refine Below.alloc ?_ ?_ _ | with_reducible refine Below.setCell ?_ ?_ _ | with_reducible refine Below.drew ?_ | with_reducible refine Below.extB ?_ (by assumption) ?_ | (simp <;> omega) | omega)))) ((first | (go_at_call 38; refine (specCopies_any b ba bc _ (HR.out.ext bxt) (RdM.ext HM.out (show Below w.heap.size w _ from bxt)) (by omega) (fun y hy => by have := HLM.out y hy; omega)).mono ?_; rintro e w4 ⟨gb, q, zs, rfl, hown, hzb, hb4⟩; have HO : Hid (OwnBs w4 (w.heap.size + 2) 32 60 (some ⟨gb, 0, none⟩) q zs) := OwnBs.le hown (by first | omega | (simp; omega)); have HZB := Lib.hid hzb; clear hown hzb; have hs4 : W.heap.size ≤ w4.heap.size := (show Below W.heap.size W w4 from bxt).size; have cp0_0 : w4.cell? ⟨(w.heap.size + 1), 0, none⟩ = some (.slice none 0 0) := (hb4.cell (p := ⟨(w.heap.size + 1), 0, none⟩) smx).trans kpx; have fp0_0 : w4.frozen? ⟨(w.heap.size + 1), 0, none⟩ = false := (hb4.frozen (p := ⟨(w.heap.size + 1), 0, none⟩) smx).trans kfx; have cp0_1 : w4.cell? ⟨(w.heap.size + 1), 1, none⟩ = some (.slice none 0 0) := (hb4.cell (p := ⟨(w.heap.size + 1), 1, none⟩) smx).trans kpx; have fp0_1 : w4.frozen? ⟨(w.heap.size + 1), 1, none⟩ = false := (hb4.frozen (p := ⟨(w.heap.size + 1), 1, none⟩) smx).trans kfx; have cp0_2 : w4.cell? ⟨(w.heap.size + 1), 2, none⟩ = some (.int .i64 0) := (hb4.cell (p := ⟨(w.heap.size + 1), 2, none⟩) smx).trans kpx; have fp0_2 : w4.frozen? ⟨(w.heap.size + 1), 2, none⟩ = false := (hb4.frozen (p := ⟨(w.heap.size + 1), 2, none⟩) smx).trans kfx; have sp0 : (w.heap.size + 1) < w4.heap.size := (by have hss := hb4.size; first | omega | (simp at hss; omega))) | (refine step_app (B := w4.heap.size) (n := 0) (xs := []) (v := _) rfl (.tmp 6) (.tmp 8) 25 rfl 45 i0 _ _ Tryz.underlying25 hi0 hz0 hz1 hz2 rfl (by decide) rfl (Own.none0 _) la l.length lc _ (by simp [Act.eval, Act.put]) (HRL.out.ext bxt) (one_flat DCommit.one _) (by omega) (by omega) (by first | exact Nat.le_refl _ | (simp; done) | (simp; omega)) ?_; intro g6 q6 w6 hown6 hg6; simp only [Nat.zero_add, List.nil_append] at hown6; have hb6 := grown_below (show World.grownBy _ w6 none from hg6); have HOW6 := Lib.hid hown6; clear hown6 hg6; have cq0_0 : w6.cell? ⟨(w.heap.size + 1), 0, none⟩ = some (.slice none 0 0) := (hb6.cell (p := ⟨(w.heap.size + 1), 0, none⟩) smx).trans kpx; have fq0_0 : w6.frozen? ⟨(w.heap.size + 1), 0, none⟩ = false := (hb6.frozen (p := ⟨(w.heap.size + 1), 0, none⟩) smx).trans kfx; have cq0_1 : w6.cell? ⟨(w.heap.size + 1), 1, none⟩ = some (.slice none 0 0) := (hb6.cell (p := ⟨(w.heap.size + 1), 1, none⟩) smx).trans kpx; have fq0_1 : w6.frozen? ⟨(w.heap.size + 1), 1, none⟩ = false := (hb6.frozen (p := ⟨(w.heap.size + 1), 1, none⟩) smx).trans kfx; have cq0_2 : w6.cell? ⟨(w.heap.size + 1), 2, none⟩ = some (.int .i64 0) := (hb6.cell (p := ⟨(w.heap.size + 1), 2, none⟩) smx).trans kpx; have fq0_2 : w6.frozen? ⟨(w.heap.size + 1), 2, none⟩ = false := (hb6.frozen (p := ⟨(w.heap.size + 1), 2, none⟩) smx).trans kfx; have sq0 : (w.heap.size + 1) < w6.heap.size := (by have hss := hb6.size; first | omega | (simp at hss; omega)))))
  all_goals go_wp2_with fail
  all_goals have hb46 : Below w4.heap.size w4 w6 := bxt
  all_goals have HS : Hid (OwnSt w6 (w.heap.size + 2) 32 60 45 (some ⟨gb, 0, none⟩) q zs g6 q6 l) := OwnSt.of HO.out HOW6.out (by omega) hb46
  all_goals refine bodyPost_ret (v := .agg #[.slice (some ⟨gb, 0, none⟩) zs.length q, .slice g6 l.length q6, .int .i64 gv]) (by simp [results, Tryz.results83, go_sem, *]) rfl ⟨(some ⟨gb, 0, none⟩), q, zs, g6, q6, rfl, ?_, HZB.out, ?_⟩
  all_goals first | exact (((HS.out.setb (by simp) _).setb (by simp) _).setb (by simp) _).le (by omega) | exact bxt
end Go.Proofs.YtemgabekckhckaaGreat

namespace Go.Proofs.YtemgabekckhckaaGreat
open Go.RowKit
set_option linter.unusedVariables false
set_option linter.unusedSimpArgs false

theorem iMkN {n : Nat} {W w' : World} (h : Below n W w') : Below n W w' ∧ (∀ b o, b < n → w'.cell? ⟨b, o, none⟩ = W.cell? ⟨b, o, none⟩) := ⟨h, fun b o hb => h.cell (p := ⟨b, o, none⟩) hb⟩
theorem OwnBs.setB {w : World} {B E EM c : Nat} {a : Option Addr} {l : List PBox} (h : OwnBs w B E EM a c l) {p : Addr} (hp : p.block < B) (u : Value) : OwnBs (w.setCell p u) B E EM a c l := ⟨h.row.set_below hp u, fun z hz => (h.msg z hz).set_below hp u, h.off, h.apart⟩
theorem OwnSt.setB {w : World} {B E EM EC : Nat} {ba la : Option Addr} {bc lc : Nat} {zs : List PBox} {l : List DCommit} (h : OwnSt w B E EM EC ba bc zs la lc l) {p : Addr} (hp : p.block < B) (u : Value) : OwnSt (w.setCell p u) B E EM EC ba bc zs la lc l := ⟨h.box.setB hp u, h.log.set_below hp u, h.offr, h.offm⟩
theorem OwnSt.ofI {w4 w6 : World} {B E EM EC : Nat} {ba la : Option Addr} {bc lc : Nat} {zs : List PBox} {l : List DCommit} (h : OwnBs w4 B E EM ba bc zs) (hl : Own w6 w4.heap.size EC 6 (.slice la l.length lc) l.length (l.flatMap DCommit.cells)) (hB : B ≤ w4.heap.size) (hb : Ext w4 w6) : OwnSt w6 B E EM EC ba bc zs la lc l :=
  ⟨h.ext hb, hl.le hB, Off2.of h.row hl (Nat.le_refl _), fun z hz => Off2.of (h.msg z hz) hl (Nat.le_refl _)⟩
end Go.Proofs.YtemgabekckhckaaGreat
