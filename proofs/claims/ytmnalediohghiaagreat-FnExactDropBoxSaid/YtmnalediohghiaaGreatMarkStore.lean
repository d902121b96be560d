/-
  Marks laid into a store of the call's own.
-/
import Derived.Test.YtmnalediohghiaaGreatMarkBoxS
import Derived.Test.YtmnalediohghiaaGreatFamStore
import Derived.Test.YtmnalediohghiaaGreatXMark
namespace Go.Proofs.YtmnalediohghiaaGreat
open Go.RowKit
set_option linter.unusedVariables false
set_option linter.unusedSimpArgs false

theorem cntB_sz (l : List PBox) : cntB l ≤ 3 * PBox.szS l := by
  unfold cntB PBox.szS
  induction l with
  | nil => simp
  | cons p l ih =>
    have h := DMsg.len_le p.msgs
    simp only [List.map_cons, List.sum_cons, List.length_cons, PBox.sz] at ih ⊢
    omega
theorem cntB_box {l m : List PBox} (h : l.map PBox.box = m.map PBox.box) : cntB l = cntB m := by
  have e : ∀ l : List PBox, cntB l = ((l.map PBox.box).map fun b => 3 + 3 * b.msgs.length).sum := fun l => by
    unfold cntB
    rw [List.map_map]; rfl
  rw [e, e, h]
/-- a block is none of S -/
def ROff (S : Nat → Prop) (b : Nat) : Prop := ¬ S b
theorem Chg.roff {S : Nat → Prop} {w w' : World} (h : Chg S w w') : (∀ b o, b < w.heap.size → ROff S b → w'.cell? ⟨b, o, none⟩ = w.cell? ⟨b, o, none⟩) ∧ (∀ b o, b < w.heap.size → ROff S b → w'.frozen? ⟨b, o, none⟩ = w.frozen? ⟨b, o, none⟩) :=
  ⟨fun b o hb hn => h.cell hb hn, fun b o hb hn => h.frozen hb hn⟩
def rowsS (ba : Option Addr) (bc : Nat) (zs : List PBox) (la : Option Addr) (lc n : Nat) (k : Nat) : Prop := rowsB ba bc zs k ∨ foot (.slice la n lc) = some k
theorem OwnSt.rows_lt {w : World} {B E EM EC bc lc : Nat} {ba la : Option Addr} {zs : List PBox} {l : List DCommit} (h : OwnSt w B E EM EC ba bc zs la lc l) : ∀ k, rowsS ba bc zs la lc l.length k → B ≤ k ∧ k < w.heap.size := fun k hk => by
  rcases hk with hk | hk
  · exact h.box.rows_lt k hk
  · exact h.log.lt k hk
theorem OwnSt.le {w : World} {B B' E EM EC bc lc : Nat} {ba la : Option Addr} {zs : List PBox} {l : List DCommit} (h : OwnSt w B E EM EC ba bc zs la lc l) (hb : B' ≤ B) : OwnSt w B' E EM EC ba bc zs la lc l := ⟨h.box.le hb, h.log.le hb, h.offr, h.offm⟩
theorem OwnSt.chg {S : Nat → Prop} {a b : World} {B E EM EC bc lc : Nat} {ba la : Option Addr} {zs : List PBox} {l : List DCommit} (h : OwnSt a B E EM EC ba bc zs la lc l) (hb : Chg S a b) (hf : ∀ k, rowsS ba bc zs la lc l.length k → ¬ S k) : OwnSt b B E EM EC ba bc zs la lc l :=
  ⟨h.box.chg hb (fun k hk => hf k (Or.inl hk)), h.log.chg hb (fun k hk => hf k (Or.inr hk)), h.offr, h.offm⟩
theorem OwnSt.apart {w : World} {B E EM EC bc lc : Nat} {ba la : Option Addr} {zs : List PBox} {l : List DCommit} (h : OwnSt w B E EM EC ba bc zs la lc l) {k : Nat} (h1 : rowsB ba bc zs k) : foot (.slice la l.length lc) ≠ some k := fun e => by
  rcases h1 with h1 | ⟨v, hv, h1⟩
  · rcases h.offr with h2 | h2
    · rw [h2] at h1; cases h1
    · exact h2 (h1.trans e.symm)
  · obtain ⟨z, hz, rfl⟩ := List.mem_map.1 hv
    rcases h.offm z hz with h2 | h2
    · rw [show foot z.key = none from h2] at h1; cases h1
    · exact h2 (h1.trans e.symm)
theorem key_markTo (l : List PBox) (k : Int) : (markTo l k l.length).map PBox.key = l.map PBox.key := by
  apply List.ext_getElem?
  intro i
  by_cases hi : i < l.length
  · simp [markTo, hi, markB, PBox.key, markN_len]
  · simp [markTo, hi]

set_option maxRecDepth 100000 in
set_option maxHeartbeats 4000000 in
theorem markStore_any (xb : List PBox) (xbA : Option Addr) (xbC : Nat) (xl : List DCommit) (xlA : Option Addr) (xlC : Nat) (xg : Int) (B : Nat) (k : Int) (w : World) (h : OwnSt w B 73 78 59 xbA xbC xb xlA xlC xl) (h0 : 1 ≤ k) (h1 : k ≤ 20000000) (hS : cntB xb ≤ 6291456) (hl : xl.length ≤ 2097152) :
    Calls Tryz.prog 15 #[.agg #[.slice xbA xb.length xbC, .slice xlA xl.length xlC, .int .i64 xg], .int .i64 k] w fun e w' => e = .returned (.int .i64 (k + cntB xb + 6 * xl.length)) ∧ OwnSt w' B 73 78 59 xbA xbC (markTo xb k xb.length) xlA xlC (markN DCommit.mark 6 xl.length (k + cntB xb)) ∧ Chg (rowsS xbA xbC xb xlA xlC xl.length) w w' := by
  have H := Lib.hid h
  clear h
  go_enter Tryz.func15, Tryz.ntmps15
  go_wp2_with fail
  refine (markBoxS_any xb _ _ B k _ (H.out.box.ext bxt) h0 (by omega) hS).mono ?_
  rintro e w1 ⟨rfl, hown, hc⟩
  have HO := Lib.hid hown
  have HC := Lib.hid hc
  clear hown hc
  have hnb : ¬ rowsB xbA xbC xb w.heap.size := fun hr => by (have := (H.out.box.rows_lt _ hr).2; omega)
  have c0 : w1.cell? ⟨w.heap.size, 0, none⟩ = some (.slice xbA xb.length xbC) := (HC.out.cell (x := w.heap.size) (by simp) hnb).trans (by simp [go_sem])
  have c1 : w1.cell? ⟨w.heap.size, 1, none⟩ = some (.slice xlA xl.length xlC) := (HC.out.cell (x := w.heap.size) (by simp) hnb).trans (by simp [go_sem])
  have c2 : w1.cell? ⟨w.heap.size, 2, none⟩ = some (.int .i64 xg) := (HC.out.cell (x := w.heap.size) (by simp) hnb).trans (by simp [go_sem])
  have hs1 : w.heap.size < w1.heap.size := by (have := HC.out.size; simp at this; omega)
  have HL : Hid (Own w1 B 59 6 (.slice xlA xl.length xlC) xl.length (xl.flatMap DCommit.cells)) := (H.out.log.ext bxt).chg HC.out (fun x hx hr => H.out.apart hr hx)
  have HNB := Lib.hid hnb
  clear hnb
  go_wp2_with fail
  refine (markCommitS_any xl _ _ B (k + cntB xb) _ HL.out (by omega) (by omega) hl).mono ?_
  rintro e w2 ⟨rfl, hown, hg⟩
  have HN := Lib.hid hown
  have HG := Lib.hid hg
  clear hown hg
  go_wp2_with fail
  go_ret
  have hlen : (markTo xb k xb.length).length = xb.length := markTo_len ..
  have hb2 : OwnBs w2 B 73 78 xbA xbC (markTo xb k xb.length) := HO.out.chg (S := fun x => foot (.slice xlA xl.length xlC) = some x) (Chg.grown HG.out (fun x hx => hx)) (fun x hx hl => by
    refine H.out.apart (k := x) ?_ hl
    rcases hx with hx | ⟨v, hv, hx⟩
    · rw [hlen] at hx; exact Or.inl hx
    · rw [key_markTo] at hv; exact Or.inr ⟨v, hv, hx⟩)
  refine ⟨rfl, ⟨hb2, by rw [markN_len]; exact HN.out, by rw [markN_len, hlen]; exact H.out.offr, fun z hz => ?_⟩, ?_⟩
  · rw [markN_len]
    have hz2 : z.key ∈ xb.map PBox.key := by (rw [← key_markTo xb k]; exact List.mem_map_of_mem hz)
    obtain ⟨y, hy, e⟩ := List.mem_map.1 hz2
    have := H.out.offm y hy
    rw [show (Value.slice z.ma z.msgs.length z.mc) = y.key from e.symm]
    exact this
  · exact (Chg.ext bxt).trans ((HC.out.mono (fun x hx => Or.inl hx)).trans (Chg.grown HG.out (fun x hx => Or.inr hx)))
end Go.Proofs.YtmnalediohghiaaGreat
