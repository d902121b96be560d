/-
  StoreNew: the program's function and the reference's.
-/
import Derived.Test.YtpameapajhbdnaaWComS
import Derived.Test.YtpameapajhbdnaaXCom
import Derived.Test.YtpameapajhbdnaaWCutS
import Derived.Test.YtpameapajhbdnaaXKeep
namespace Go.Proofs.Ytpameapajhbdnaa
open Go.RowKit
set_option linter.unusedVariables false
set_option linter.unusedSimpArgs false

def inboxF : ByteArray := ⟨#[105, 110, 98, 111, 120]⟩
def freshF : DStore := ⟨[⟨inboxF, 1, 1, []⟩], [(⟨1, 1, 0, 0, inboxF, ⟨#[]⟩⟩ : DCommit)], 1⟩
theorem inboxF_ok : NameP inboxF := by
  refine ⟨fun i hi => ?_, by decide, by decide⟩
  have hi5 : i < 5 := hi
  obtain rfl | rfl | rfl | rfl | rfl : i = 0 ∨ i = 1 ∨ i = 2 ∨ i = 3 ∨ i = 4 := by omega
  all_goals (unfold LetterP; decide)
theorem freshF_ok : CmtRel ⟨[], [], 0⟩ (⟨1, 1, 0, 0, inboxF, ⟨#[]⟩⟩ : DCommit) freshF true := by
  refine ⟨⟨fun _ => ⟨⟨boxesP_nil, ?_, ⟨fun _ => ⟨by decide, by decide, by decide⟩, fun h => absurd rfl h⟩⟩, by decide, fun h => absurd h.2 (by decide)⟩, fun _ => rfl⟩, ?_⟩
  · exact (commitK1 _ _ _ _ _).2 ⟨⟨by decide, by decide⟩, inboxF_ok, rfl, rfl, rfl⟩
  · rfl
theorem own_litB {w : World} {cs : Array Value} {E n s g B : Nat} {xs : List Value} (hB : B ≤ w.heap.size) (hg : w.heap.size = g) (hl : cs.toList = xs) (hs : cs.size = n * s) (hn : n ≤ 4194304) : Own (w.alloc (.cells cs E)) B E s (.slice (some ⟨g, 0, none⟩) n n) n xs := (own_lit hg hl hs hn).le hB
theorem OwnSt.setF {w : World} {B E EM EC : Nat} {ba la : Option Addr} {bc lc : Nat} {zs : List PBox} {l : List DCommit} (h : OwnSt w B E EM EC ba bc zs la lc l) {p : Addr} (hp : p.block < B) (u : Value) : OwnSt (w.setCell p u) B E EM EC ba bc zs la lc l :=
  h.set_ne (fun k hk e => by have := (h.rows_lt k hk).1; omega) u
theorem rdF_nil {α : Type} (enc : α → List Value) (w : World) (s : Nat) : Rd w none 0 s ([] : List α).length (([] : List α).flatMap enc) := ⟨by simp, Nat.le_refl _, by omega, fun h => absurd h (Nat.lt_irrefl 0)⟩
set_option maxRecDepth 100000 in
set_option maxHeartbeats 4000000 in
theorem specStoreNew_law (w : World) (rs : DStore) (H : Hid (freshF = rs)) : Calls Try.prog 15 #[] w fun e w' => ∃ g q zs g2 q2, e = .returned (.agg #[.slice g zs.length q, .slice g2 rs.log.length q2, .int .i64 rs.given]) ∧ OwnSt w' w.heap.size 52 111 38 g q zs g2 q2 rs.log ∧ zs.map PBox.box = rs.boxes ∧ Ext w w' := by
  have HC : Hid (CmtRel ⟨[], [], 0⟩ (⟨1, 1, 0, 0, inboxF, ⟨#[]⟩⟩ : DCommit) rs true) := by rw [← H.out]; exact freshF_ok
  go_enter Try.func15, Try.ntmps15
  go_wp2_with fail
  refine (specCommitted_law [] none 0 [] none 0 0 (⟨1, 1, 0, 0, inboxF, ⟨#[]⟩⟩ : DCommit) _ (rdF_nil _ _ _) (fun y hy => by cases hy) (rdF_nil _ _ _) (by simp) (fun y hy => by cases hy) (by simp) (fun y hy => by cases hy) (fun y hy => by cases hy) (by decide) (by decide) rs true HC).mono ?_
  rintro e w1 ⟨g, q, zs, g2, q2, rfl, ho, hz, hb1⟩
  have HO := Lib.hid (ho.le (B' := w.heap.size + 1) (by simp))
  have HZ := Lib.hid hz
  have hz1 := hb1.size
  (try simp at hz1)
  clear ho hz
  obtain ⟨hc1, hf1⟩ := bcell hb1
  have s1 : w.heap.size < w1.heap.size := by omega
  go_wp2_with fail
  refine bodyPost_ret (v := .agg #[.slice g zs.length q, .slice g2 rs.log.length q2, .int .i64 rs.given]) (by simp [results, Try.results15, go_sem, *]) rfl ⟨g, q, zs, g2, q2, rfl, ?_, HZ.out, bxt⟩
  refine OwnSt.le (B := w.heap.size + 1) ?_ (by omega)
  exact (by repeat' (first | with_reducible exact HO.out | with_reducible refine OwnSt.setF ?_ smx _ | with_reducible refine OwnSt.alloc1 ?_ _))
set_option maxRecDepth 100000 in
set_option maxHeartbeats 4000000 in
theorem implStoreNew_law (w : World) (rs : DStore) (H : Hid (freshF = rs)) : Calls Try.prog 16 #[] w fun e w' => ∃ g q zs g2 q2, e = .returned (.agg #[.slice g zs.length q, .slice g2 rs.log.length q2, .int .i64 rs.given]) ∧ OwnSt w' w.heap.size 52 111 38 g q zs g2 q2 rs.log ∧ zs.map PBox.box = rs.boxes ∧ Ext w w' := by
  obtain rfl := H.out
  clear H
  go_enter Try.func16, Try.ntmps16
  go_wp2_with fail
  refine bodyPost_ret (v := .agg #[.slice (some ⟨w.heap.size + 1, 0, none⟩) 1 1, .slice (some ⟨w.heap.size + 1 + 1, 0, none⟩) 1 1, .int .i64 1]) (by simp [results, Try.results16, go_sem, *]) rfl ⟨some ⟨w.heap.size + 1, 0, none⟩, 1, [⟨inboxF, 1, 1, [], none, 0⟩], some ⟨w.heap.size + 1 + 1, 0, none⟩, 1, rfl, ⟨⟨?_, fun z hz => ?_, fun v hv => ?_, List.pairwise_singleton _ _⟩, ?_, ?_, fun z hz => ?_⟩, rfl, bxt⟩
  · refine Own.alloc1 ?_ _
    refine own_litB ?_ ?_ ?_ ?_ ?_
    · simp
    · simp
    · rfl
    · rfl
    · decide
  · obtain rfl := List.mem_singleton.1 hz
    exact Own.none0 _
  · obtain rfl := List.mem_singleton.1 hv
    exact Or.inl rfl
  · refine own_litB ?_ ?_ ?_ ?_ ?_
    · simp <;> omega
    · simp
    · rfl
    · rfl
    · decide
  · exact Or.inr (by simp [foot])
  · obtain rfl := List.mem_singleton.1 hz
    exact Or.inl rfl
end Go.Proofs.Ytpameapajhbdnaa
