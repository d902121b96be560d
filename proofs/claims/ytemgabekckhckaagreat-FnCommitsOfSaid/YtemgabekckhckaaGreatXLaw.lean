/-
  Applied and AppliedAll: what they leave, bounded; the contracts in the law's words.
  AppliedAll: the program's function and the reference's.
-/
import Derived.Test.YtemgabekckhckaaGreatXAppB
import Derived.Test.YtemgabekckhckaaGreatXMarkS
namespace Go.Proofs.YtemgabekckhckaaGreat
open Go.RowKit
set_option linter.unusedVariables false
set_option linter.unusedSimpArgs false

def cntD (l : List DBox) : Nat := (l.map fun p => 3 + 3 * p.msgs.length).sum
theorem cntB_D (l : List PBox) : cntB l = cntD (l.map PBox.box) := by
  unfold cntB cntD
  rw [List.map_map]
  rfl
theorem cntD_le {l : List DBox} {n k : Nat} (hl : l.length ≤ n) (hm : ∀ y ∈ l, y.msgs.length ≤ k) : cntD l ≤ n * (3 + 3 * k) := by
  induction l generalizing n with
  | nil => simp [cntD]
  | cons y l ih =>
    cases n with
    | zero => simp at hl
    | succ n =>
      have h1 := ih (n := n) (by simpa using hl) (fun z hz => hm z (List.mem_cons_of_mem _ hz))
      have h2 := hm y (by simp)
      have h3 : cntD (y :: l) = (3 + 3 * y.msgs.length) + cntD l := by simp [cntD]
      have h4 : (n + 1) * (3 + 3 * k) = n * (3 + 3 * k) + (3 + 3 * k) := Nat.succ_mul ..
      rw [h3, h4]
      generalize n * (3 + 3 * k) = q at h1 ⊢
      omega
theorem appD_mem {l : List DBox} {m : DCommit} (h : BoxesP l) (hf : FitsP l m) : ∀ y ∈ appD l m, y ∈ l ∨ y = ⟨m.name, m.validity, 1, []⟩ ∨ ∃ b ∈ l, y = newD b m := by
  intro y hy
  have hy2 := (appD_perm h hf).1.symm.subset hy
  unfold perfD at hy2
  by_cases h1 : m.kind = 1
  · rw [if_pos h1] at hy2
    rcases List.mem_append.1 hy2 with h3 | h3
    · exact Or.inl h3
    · exact Or.inr (Or.inl (List.mem_singleton.1 h3))
  rw [if_neg h1] at hy2
  obtain ⟨i, hi, hz, -⟩ := hf.2 h1
  have ha : atD l m = i := by unfold atD; omega
  by_cases h2 : m.kind = 2
  · rw [if_pos h2] at hy2
    exact Or.inl ((List.eraseIdx_sublist ..).subset hy2)
  rw [if_neg h2, ha] at hy2
  rcases List.mem_or_eq_of_mem_set hy2 with h3 | h3
  · exact Or.inl h3
  · exact Or.inr (Or.inr ⟨l[i], List.getElem_mem hi, by rw [h3, theD_of hi]⟩)
theorem newD_len (b : DBox) (m : DCommit) (hb : b.msgs.length ≤ 6) : (newD b m).msgs.length ≤ 7 := by
  unfold newD
  split
  · show b.msgs.length ≤ 7
    omega
  · split
    · simp; omega
    · split
      · simp; omega
      · have := List.length_eraseIdx_le b.msgs (pl m.uid b.msgs)
        show (b.msgs.eraseIdx _).length ≤ 7
        omega
theorem newD_name (b : DBox) (m : DCommit) {n : Nat} (hb : b.name.size ≤ n) (hm : m.name.size ≤ n) : (newD b m).name.size ≤ n := by
  unfold newD
  split
  · exact hm
  · split
    · exact hb
    · split <;> exact hb
theorem newD_text (b : DBox) (m : DCommit) {n : Nat} (hb : ∀ t ∈ b.msgs, t.text.size ≤ n) (hm : m.text.size ≤ n) : ∀ t ∈ (newD b m).msgs, t.text.size ≤ n := by
  unfold newD
  split
  · exact hb
  · split
    · intro t ht
      rcases List.mem_append.1 ht with h | h
      · exact hb t h
      · rw [List.mem_singleton.1 h]; exact hm
    · split
      · intro t ht
        rcases List.mem_or_eq_of_mem_set ht with h | h
        · exact hb t h
        · rw [h]
          show (theM b.msgs (pl m.uid b.msgs)).text.size ≤ n
          by_cases hp : pl m.uid b.msgs < b.msgs.length
          · rw [theM_of hp]; exact hb _ (List.getElem_mem hp)
          · have : theM b.msgs (pl m.uid b.msgs) = ⟨0, 0, ByteArray.empty⟩ := by
              unfold theM
              rw [List.getElem?_eq_none (by omega)]; rfl
            rw [this]
            exact Nat.zero_le _
      · intro t ht
        exact hb t ((List.eraseIdx_sublist ..).subset ht)
theorem appD_small {l : List DBox} {m : DCommit} (h : BoxesP l) (hf : FitsP l m) : (appD l m).length ≤ 5 ∧ ∀ y ∈ appD l m, y.msgs.length ≤ 7 := by
  have hm : ∀ y ∈ l, y.msgs.length ≤ 6 := fun y hy => by
    obtain ⟨k, hk, rfl⟩ := List.mem_iff_getElem.1 hy
    obtain ⟨h0, h6, -⟩ := h.1 k hk
    exact h6.2.2.2.1
  refine ⟨?_, fun y hy => ?_⟩
  · have h4 := h.2
    rw [← (appD_perm h hf).1.length_eq]
    unfold perfD
    split
    · simp; omega
    · split
      · have := List.length_eraseIdx_le l (atD l m)
        omega
      · rw [List.length_set]; omega
  · rcases appD_mem h hf y hy with h1 | rfl | ⟨b, hb, rfl⟩
    · have := hm y h1; omega
    · exact Nat.zero_le _
    · exact newD_len b m (hm b hb)
def GoodD (l : List DBox) : Prop := l.length ≤ 1048576 ∧ (∀ y ∈ l, y.msgs.length ≤ 1048576) ∧ (∀ y ∈ l, y.name.size ≤ 9223372036854775807) ∧ ∀ y ∈ l, ∀ t ∈ y.msgs, t.text.size ≤ 9223372036854775807
theorem good_app {l : List DBox} {m : DCommit} (hg : GoodD l) (hap : AppliesP l m) (h1 : m.name.size ≤ 9223372036854775807) (h2 : m.text.size ≤ 9223372036854775807) : GoodD (appD l m) := by
  obtain ⟨h, -, hf⟩ := hap
  obtain ⟨h5, h7⟩ := appD_small h hf
  obtain ⟨-, -, g3, g4⟩ := hg
  refine ⟨by omega, fun y hy => by have := h7 y hy; omega, fun y hy => ?_, fun y hy => ?_⟩
  · rcases appD_mem h hf y hy with h8 | rfl | ⟨b, hb, rfl⟩
    · exact g3 y h8
    · exact h1
    · exact newD_name b m (g3 b hb) h1
  · rcases appD_mem h hf y hy with h8 | rfl | ⟨b, hb, rfl⟩
    · exact g4 y h8
    · intro t ht; cases ht
    · exact newD_text b m (g4 b hb) h2
theorem good_of {l : List PBox} (hl : l.length ≤ 1048576) (hlm : ∀ y ∈ l, y.msgs.length ≤ 1048576) (gn : ∀ y ∈ l, y.name.size ≤ 9223372036854775807) (gt : ∀ y ∈ l, ∀ m ∈ y.msgs, m.text.size ≤ 9223372036854775807) : GoodD (l.map PBox.box) := by
  refine ⟨by simpa using hl, fun y hy => ?_, fun y hy => ?_, fun y hy => ?_⟩ <;> obtain ⟨z, hz, rfl⟩ := List.mem_map.1 hy
  · exact hlm z hz
  · exact gn z hz
  · exact gt z hz
theorem good_to {l : List PBox} (h : GoodD (l.map PBox.box)) : l.length ≤ 1048576 ∧ (∀ y ∈ l, y.msgs.length ≤ 1048576) ∧ (∀ y ∈ l, y.name.size ≤ 9223372036854775807) ∧ ∀ y ∈ l, ∀ t ∈ y.msgs, t.text.size ≤ 9223372036854775807 :=
  ⟨by simpa using h.1, fun y hy => h.2.1 y.box (List.mem_map_of_mem hy), fun y hy => h.2.2.1 y.box (List.mem_map_of_mem hy), fun y hy => h.2.2.2 y.box (List.mem_map_of_mem hy)⟩
theorem box_mlen {l m : List PBox} {n : Nat} (h : l.map PBox.box = m.map PBox.box) (hm : ∀ y ∈ m, y.msgs.length ≤ n) : ∀ y ∈ l, y.msgs.length ≤ n := fun y hy => by
  obtain ⟨u, hu, he⟩ := box_mem h y hy
  have h2 : u.msgs = y.msgs := congrArg DBox.msgs he
  rw [← h2]; exact hm u hu

/-- one commit: what is left, and whether it applied -/
def AppRel (l : List DBox) (m : DCommit) (rr : List DBox) (rok : Bool) : Prop := Tells rok (AppliesP l m) ∧ (if rok then appD l m else l) = rr
theorem appRel_ex (l : List DBox) (m : DCommit) : ∃ rr rok, AppRel l m rr rok := by
  obtain ⟨b, hb⟩ := boolOf (AppliesP l m)
  exact ⟨_, b, hb, rfl⟩
theorem appRel_cnt {l : List DBox} {m : DCommit} {rr : List DBox} {rok : Bool} (h : AppRel l m rr rok) (hl : cntD l ≤ 3145728) : cntD rr ≤ 3145728 := by
  obtain ⟨h1, rfl⟩ := h
  cases rok with
  | false => simpa using hl
  | true =>
    obtain ⟨hb, -, hf⟩ := h1.1 rfl
    obtain ⟨h5, h7⟩ := appD_small hb hf
    have := cntD_le h5 h7
    simp only [if_true]
    omega
open Classical in
/-- several commits, up to the first that does not apply -/
noncomputable def allD : List DBox → List DCommit → List DBox × Bool
  | l, [] => (l, true)
  | l, m :: ms => if AppliesP l m then allD (appD l m) ms else (l, false)
theorem allD_cons (l : List DBox) (m : DCommit) (ms : List DCommit) {r : Bool} (h : Tells r (AppliesP l m)) : allD l (m :: ms) = if r then allD (appD l m) ms else (l, false) := by
  rw [allD]
  cases r with
  | false => rw [if_neg (fun h2 => absurd (h.2 h2) (by simp))]; rfl
  | true => rw [if_pos (h.1 rfl)]; rfl
def AllRel (l : List DBox) (log : List DCommit) (rr : List DBox) (rok : Bool) : Prop := allD l log = (rr, rok)
theorem allRel_ex (l : List DBox) (log : List DCommit) : ∃ rr rok, AllRel l log rr rok := ⟨_, _, rfl⟩
theorem allRel_cnt {l : List DBox} {log : List DCommit} {rr : List DBox} {rok : Bool} (h : AllRel l log rr rok) (hl : cntD l ≤ 3145728) : cntD rr ≤ 3145728 := by
  induction log generalizing l with
  | nil =>
    unfold AllRel at h
    rw [allD] at h
    cases h
    exact hl
  | cons m ms ih =>
    obtain ⟨b, hb⟩ := boolOf (AppliesP l m)
    unfold AllRel at h
    rw [allD_cons l m ms hb] at h
    cases b with
    | false =>
      simp only [Bool.false_eq_true, if_false] at h
      cases h
      exact hl
    | true =>
      simp only [if_true] at h
      exact ih h (appRel_cnt (rok := true) ⟨hb, rfl⟩ hl)
theorem specApplied_law (l : List PBox) (a : Option Addr) (c : Nat) (m : DCommit) (w : World) (R : Rd w a c 4 l.length (l.flatMap PBox.cells)) (M : RdM w l) (hl : l.length ≤ 1048576) (hlm : ∀ y ∈ l, y.msgs.length ≤ 1048576) (gn : ∀ y ∈ l, y.name.size ≤ 9223372036854775807) (gt : ∀ y ∈ l, ∀ m ∈ y.msgs, m.text.size ≤ 9223372036854775807) (g1 : m.name.size ≤ 9223372036854775807) (g2 : m.text.size ≤ 9223372036854775807) (rr : List DBox) (rok : Bool) (H : Hid (AppRel (l.map PBox.box) m rr rok)) :
    Calls Tryz.prog 39 #[.slice a l.length c, .agg #[.int .i64 m.kind, .int .i64 m.validity, .int .i64 m.uid, .int .i64 m.flags, .string m.name, .string m.text]] w fun e w' => ∃ g q l', e = .returned (.tuple #[.slice g l'.length q, .bool rok]) ∧ OwnBs w' w.heap.size 32 60 g q l' ∧ l'.map PBox.box = rr ∧ Ext w w' := by
  obtain ⟨h1, rfl⟩ := H.out
  exact specApplied_any l a c m w R M hl hlm gn gt g1 g2 rok h1
end Go.Proofs.YtemgabekckhckaaGreat

namespace Go.Proofs.YtemgabekckhckaaGreat
open Go.RowKit
set_option linter.unusedVariables false
set_option linter.unusedSimpArgs false

def AllLoop (E EM : Nat) (log : List DCommit) (rr : List DBox) (rok : Bool) (w : World) (v i : Value) (wr : World) : Prop :=
  ∃ (k : Nat) (zs : List PBox) (g : Option Addr) (q : Nat), k ≤ log.length ∧ i = .int .i64 k ∧ v = .slice g zs.length q ∧ Hid (GoodD (zs.map PBox.box)) ∧ Hid (AllRel (zs.map PBox.box) (log.drop k) rr rok) ∧ Hid (OwnBs wr w.heap.size E EM g q zs) ∧ Below w.heap.size w wr
theorem allRel_step {l : List DBox} {log : List DCommit} {k : Nat} {rr : List DBox} {rok r : Bool} (hk : k < log.length) (h : AllRel l (log.drop k) rr rok) (hr : Tells r (AppliesP l log[k])) : if r then AllRel (appD l log[k]) (log.drop (k + 1)) rr rok else (l = rr ∧ false = rok) := by
  unfold AllRel at h
  rw [List.drop_eq_getElem_cons hk, allD_cons _ _ _ hr] at h
  cases r with
  | false =>
    simp only [Bool.false_eq_true, if_false, Prod.mk.injEq] at h ⊢
    exact h
  | true =>
    simp only [if_true] at h ⊢
    exact h
theorem allRel_end {l : List DBox} {log : List DCommit} {k : Nat} {rr : List DBox} {rok : Bool} (hk : k = log.length) (h : AllRel l (log.drop k) rr rok) : l = rr ∧ true = rok := by
  unfold AllRel at h
  rw [hk, List.drop_length, allD] at h
  simpa using h

set_option maxRecDepth 100000 in
set_option maxHeartbeats 8000000 in
theorem specAppliedAll_law (l : List PBox) (a : Option Addr) (c : Nat) (log : List DCommit) (la : Option Addr) (lc : Nat) (w : World) (R : Rd w a c 4 l.length (l.flatMap PBox.cells)) (M : RdM w l) (hl : l.length ≤ 1048576) (hlm : ∀ y ∈ l, y.msgs.length ≤ 1048576) (gn : ∀ y ∈ l, y.name.size ≤ 9223372036854775807) (gt : ∀ y ∈ l, ∀ m ∈ y.msgs, m.text.size ≤ 9223372036854775807) (RL : Rd w la lc 6 log.length (log.flatMap DCommit.cells)) (hll : log.length ≤ 1048576) (gl : ∀ y ∈ log, y.name.size ≤ 9223372036854775807 ∧ y.text.size ≤ 9223372036854775807) (rr : List DBox) (rok : Bool) (H : Hid (AllRel (l.map PBox.box) log rr rok)) :
    Calls Tryz.prog 19 #[.slice a l.length c, .slice la log.length lc] w fun e w' => ∃ g q l', e = .returned (.tuple #[.slice g l'.length q, .bool rok]) ∧ OwnBs w' w.heap.size 32 60 g q l' ∧ l'.map PBox.box = rr ∧ Ext w w' := by
  have HR := Lib.hid R
  have HM := Lib.hid M
  have HLM := Lib.hid hlm
  have HRL := Lib.hid RL
  have HGL := Lib.hid gl
  have HG0 := Lib.hid (good_of hl hlm gn gt)
  clear R M hlm RL gl gn gt
  go_enter Tryz.func19, Tryz.ntmps19
  go_wp2_with (go_at_call 38; refine (specCopies_any l a c _ (HR.out.ext bxt) (RdM.ext HM.out (show Below w.heap.size w _ from bxt)) (by omega) (fun y hy => by have := HLM.out y hy; omega)).mono ?_; rintro e w1 ⟨gb, q, zs, rfl, hown, hzb, hb1⟩; have HO := Lib.hid hown; have HZB := Lib.hid hzb; clear hown hzb)
  go_loopw [6, 7] (AllLoop 32 60 log rr rok w) (fun _ i _ => log.length - (intOf i).toNat)
  case atStart => exact ⟨0, zs, (some ⟨gb, 0, none⟩), q, Nat.zero_le _, rfl, rfl, Lib.hid (by rw [HZB.out]; exact HG0.out), Lib.hid (by rw [HZB.out]; exact H.out), Lib.hid (OwnBs.ext HO.out bxt), bxt⟩
  case round =>
    obtain ⟨k, zs, g, q, hk, rfl, rfl, HG, HA, HO, hbe⟩ := hrel
    by_cases hlt : k < log.length
    · obtain ⟨b, ofs, rfl, hbb, hat⟩ := HRL.out.ptr (by omega)
      have hbw : b < wr.heap.size := by (have := hbe.size; omega)
      obtain ⟨x0, x1, x2, x3, x4, x5⟩ := DCommit.at (hat.ext hbb hbe) k hlt
      have HAT := Lib.hid hat
      clear hat
      have hws : w.heap.size ≤ wr.heap.size := hbe.size
      obtain ⟨r, hr⟩ := boolOf (AppliesP (zs.map PBox.box) log[k])
      have HT : Hid (Tells r (AppliesP (zs.map PBox.box) log[k])) := Lib.hid hr
      have HST := Lib.hid (allRel_step hlt HA.out hr)
      clear hr
      cases r with
      | false =>
        obtain ⟨hz1, hz2⟩ : zs.map PBox.box = rr ∧ false = rok := by simpa using HST.out
        subst hz2
        have HZ1 := Lib.hid hz1
        clear hz1
        go_wp2_with (go_at_call 39; refine (specApplied_any zs _ _ log[k] _ (OwnBs.ext HO.out (show Below wr.heap.size wr _ from bxt)).rd (OwnBs.ext HO.out (show Below wr.heap.size wr _ from bxt)).rdm (good_to HG.out).1 (good_to HG.out).2.1 (good_to HG.out).2.2.1 (good_to HG.out).2.2.2 (HGL.out _ (List.getElem_mem hlt)).1 (HGL.out _ (List.getElem_mem hlt)).2 false HT).mono ?_; rintro e w5 ⟨g5, q5, l5, rfl, ho5, hl5, hb5⟩; have HO5 := Lib.hid ho5; have HL5 := Lib.hid hl5; have hbr5 : Below wr.heap.size wr w5 := bxt; clear ho5 hl5)
        refine bodyPost_ret (v := .tuple #[.slice g (zs).length q, .bool false]) (by simp [results, Tryz.results19, go_sem, *]) rfl ⟨g, q, zs, rfl, OwnBs.ext HO.out (show Below wr.heap.size wr _ from bxt), HZ1.out, Below.ext hbe (show Below wr.heap.size wr _ from bxt)⟩
      | true =>
        have HAP : Hid (AppliesP (zs.map PBox.box) log[k]) := Lib.hid (HT.out.1 rfl)
        have HST2 : Hid (AllRel (appD (zs.map PBox.box) log[k]) (log.drop (k + 1)) rr rok) := Lib.hid (by simpa using HST.out)
        go_wp2_with (go_at_call 39; refine (specApplied_any zs _ _ log[k] _ (OwnBs.ext HO.out (show Below wr.heap.size wr _ from bxt)).rd (OwnBs.ext HO.out (show Below wr.heap.size wr _ from bxt)).rdm (good_to HG.out).1 (good_to HG.out).2.1 (good_to HG.out).2.2.1 (good_to HG.out).2.2.2 (HGL.out _ (List.getElem_mem hlt)).1 (HGL.out _ (List.getElem_mem hlt)).2 true HT).mono ?_; rintro e w5 ⟨g5, q5, l5, rfl, ho5, hl5, hb5⟩; have HO5 := Lib.hid ho5; have HL5 := Lib.hid hl5; have hbr5 : Below wr.heap.size wr w5 := bxt; clear ho5 hl5)
        go_roundw
        case rel => exact ⟨k + 1, l5, g5, q5, by omega, by go_num, rfl, Lib.hid (by rw [HL5.out]; exact good_app HG.out HAP.out (HGL.out _ (List.getElem_mem hlt)).1 (HGL.out _ (List.getElem_mem hlt)).2), Lib.hid (by rw [HL5.out]; exact HST2.out), Lib.hid (OwnBs.le HO5.out (by first | exact hws | (simp; omega))), Below.ext hbe hbr5⟩
        case measure => simp [intOf]; omega
    · obtain ⟨hz1, hz2⟩ := allRel_end (by omega) HA.out
      subst hz2
      have HZ1 := Lib.hid hz1
      have hkk : k = log.length := by omega
      have HKK := Lib.hid hkk
      clear hkk hz1
      go_wp2_with fail
      refine bodyPost_ret (v := .tuple #[.slice g (zs).length q, .bool true]) (by simp [results, Tryz.results19, go_sem, *]) rfl ⟨g, q, zs, rfl, OwnBs.ext HO.out (show Below wr.heap.size wr _ from bxt), HZ1.out, Below.ext hbe (show Below wr.heap.size wr _ from bxt)⟩
end Go.Proofs.YtemgabekckhckaaGreat
