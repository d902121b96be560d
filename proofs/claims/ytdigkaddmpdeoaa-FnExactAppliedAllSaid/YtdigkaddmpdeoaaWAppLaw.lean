/-
  Applied and AppliedAll: what they leave, bounded; the contracts in the law's words.
-/
import Derived.Test.YtdigkaddmpdeoaaWApplied
import Derived.Test.YtdigkaddmpdeoaaMarkStore
namespace Go.Proofs.Ytdigkaddmpdeoaa
open Go.RowKit
set_option linter.unusedVariables false
set_option linter.unusedSimpArgs false

def cntD (l : List DBox) : Nat := (l.map fun p => 3 + 3 * p.msgs.length).sum
theorem cntB_D (l : List PBox) : cntB l = cntD (l.map PBox.box) := by
  unfold cntB cntD
  rw [List.map_map]
  rfl
theorem cntD_le {l : List DBox} {n k : Nat} (hl : l.length ≤ n) (hm : ∀ y ∈ l, y.msgs.length ≤ k) : cntD l ≤ n * (3 + 3 * k) := by
  induction l generalizing n with
  | nil => simp [cntD]
  | cons y l ih =>
    cases n with
    | zero => simp at hl
    | succ n =>
      have h1 := ih (n := n) (by simpa using hl) (fun z hz => hm z (List.mem_cons_of_mem _ hz))
      have h2 := hm y (by simp)
      have h3 : cntD (y :: l) = (3 + 3 * y.msgs.length) + cntD l := by simp [cntD]
      have h4 : (n + 1) * (3 + 3 * k) = n * (3 + 3 * k) + (3 + 3 * k) := Nat.succ_mul ..
      rw [h3, h4]
      generalize n * (3 + 3 * k) = q at h1 ⊢
      omega
theorem appD_mem {l : List DBox} {m : DCommit} (h : BoxesP l) (hf : FitsP l m) : ∀ y ∈ appD l m, y ∈ l ∨ y = ⟨m.name, m.validity, 1, []⟩ ∨ ∃ b ∈ l, y = newD b m := by
  intro y hy
  have hy2 := (appD_perm h hf).1.symm.subset hy
  unfold perfD at hy2
  by_cases h1 : m.kind = 1
  · rw [if_pos h1] at hy2
    rcases List.mem_append.1 hy2 with h3 | h3
    · exact Or.inl h3
    · exact Or.inr (Or.inl (List.mem_singleton.1 h3))
  rw [if_neg h1] at hy2
  obtain ⟨i, hi, hz, -⟩ := hf.2 h1
  have ha : atD l m = i := by unfold atD; omega
  by_cases h2 : m.kind = 2
  · rw [if_pos h2] at hy2
    exact Or.inl ((List.eraseIdx_sublist ..).subset hy2)
  rw [if_neg h2, ha] at hy2
  rcases List.mem_or_eq_of_mem_set hy2 with h3 | h3
  · exact Or.inl h3
  · exact Or.inr (Or.inr ⟨l[i], List.getElem_mem hi, by rw [h3, theD_of hi]⟩)
theorem newD_len (b : DBox) (m : DCommit) (hb : b.msgs.length ≤ 6) : (newD b m).msgs.length ≤ 7 := by
  unfold newD
  split
  · show b.msgs.length ≤ 7
    omega
  · split
    · simp; omega
    · split
      · simp; omega
      · have := List.length_eraseIdx_le b.msgs (pl m.uid b.msgs)
        show (b.msgs.eraseIdx _).length ≤ 7
        omega
theorem newD_name (b : DBox) (m : DCommit) {n : Nat} (hb : b.name.size ≤ n) (hm : m.name.size ≤ n) : (newD b m).name.size ≤ n := by
  unfold newD
  split
  · exact hm
  · split
    · exact hb
    · split <;> exact hb
theorem newD_text (b : DBox) (m : DCommit) {n : Nat} (hb : ∀ t ∈ b.msgs, t.text.size ≤ n) (hm : m.text.size ≤ n) : ∀ t ∈ (newD b m).msgs, t.text.size ≤ n := by
  unfold newD
  split
  · exact hb
  · split
    · intro t ht
      rcases List.mem_append.1 ht with h | h
      · exact hb t h
      · rw [List.mem_singleton.1 h]; exact hm
    · split
      · intro t ht
        rcases List.mem_or_eq_of_mem_set ht with h | h
        · exact hb t h
        · rw [h]
          show (theM b.msgs (pl m.uid b.msgs)).text.size ≤ n
          by_cases hp : pl m.uid b.msgs < b.msgs.length
          · rw [theM_of hp]; exact hb _ (List.getElem_mem hp)
          · have : theM b.msgs (pl m.uid b.msgs) = ⟨0, 0, ByteArray.empty⟩ := by
              unfold theM
              rw [List.getElem?_eq_none (by omega)]; rfl
            rw [this]
            exact Nat.zero_le _
      · intro t ht
        exact hb t ((List.eraseIdx_sublist ..).subset ht)
theorem appD_small {l : List DBox} {m : DCommit} (h : BoxesP l) (hf : FitsP l m) : (appD l m).length ≤ 5 ∧ ∀ y ∈ appD l m, y.msgs.length ≤ 7 := by
  have hm : ∀ y ∈ l, y.msgs.length ≤ 6 := fun y hy => by
    obtain ⟨k, hk, rfl⟩ := List.mem_iff_getElem.1 hy
    obtain ⟨h0, h6, -⟩ := h.1 k hk
    exact h6.2.2.2.1
  refine ⟨?_, fun y hy => ?_⟩
  · have h4 := h.2
    rw [← (appD_perm h hf).1.length_eq]
    unfold perfD
    split
    · simp; omega
    · split
      · have := List.length_eraseIdx_le l (atD l m)
        omega
      · rw [List.length_set]; omega
  · rcases appD_mem h hf y hy with h1 | rfl | ⟨b, hb, rfl⟩
    · have := hm y h1; omega
    · exact Nat.zero_le _
    · exact newD_len b m (hm b hb)
def GoodD (l : List DBox) : Prop := l.length ≤ 1048576 ∧ (∀ y ∈ l, y.msgs.length ≤ 1048576) ∧ (∀ y ∈ l, y.name.size ≤ 9223372036854775807) ∧ ∀ y ∈ l, ∀ t ∈ y.msgs, t.text.size ≤ 9223372036854775807
theorem good_app {l : List DBox} {m : DCommit} (hg : GoodD l) (hap : AppliesP l m) (h1 : m.name.size ≤ 9223372036854775807) (h2 : m.text.size ≤ 9223372036854775807) : GoodD (appD l m) := by
  obtain ⟨h, -, hf⟩ := hap
  obtain ⟨h5, h7⟩ := appD_small h hf
  obtain ⟨-, -, g3, g4⟩ := hg
  refine ⟨by omega, fun y hy => by have := h7 y hy; omega, fun y hy => ?_, fun y hy => ?_⟩
  · rcases appD_mem h hf y hy with h8 | rfl | ⟨b, hb, rfl⟩
    · exact g3 y h8
    · exact h1
    · exact newD_name b m (g3 b hb) h1
  · rcases appD_mem h hf y hy with h8 | rfl | ⟨b, hb, rfl⟩
    · exact g4 y h8
    · intro t ht; cases ht
    · exact newD_text b m (g4 b hb) h2
theorem good_of {l : List PBox} (hl : l.length ≤ 1048576) (hlm : ∀ y ∈ l, y.msgs.length ≤ 1048576) (gn : ∀ y ∈ l, y.name.size ≤ 9223372036854775807) (gt : ∀ y ∈ l, ∀ m ∈ y.msgs, m.text.size ≤ 9223372036854775807) : GoodD (l.map PBox.box) := by
  refine ⟨by simpa using hl, fun y hy => ?_, fun y hy => ?_, fun y hy => ?_⟩ <;> obtain ⟨z, hz, rfl⟩ := List.mem_map.1 hy
  · exact hlm z hz
  · exact gn z hz
  · exact gt z hz
theorem good_to {l : List PBox} (h : GoodD (l.map PBox.box)) : l.length ≤ 1048576 ∧ (∀ y ∈ l, y.msgs.length ≤ 1048576) ∧ (∀ y ∈ l, y.name.size ≤ 9223372036854775807) ∧ ∀ y ∈ l, ∀ t ∈ y.msgs, t.text.size ≤ 9223372036854775807 :=
  ⟨by simpa using h.1, fun y hy => h.2.1 y.box (List.mem_map_of_mem hy), fun y hy => h.2.2.1 y.box (List.mem_map_of_mem hy), fun y hy => h.2.2.2 y.box (List.mem_map_of_mem hy)⟩
theorem box_mlen {l m : List PBox} {n : Nat} (h : l.map PBox.box = m.map PBox.box) (hm : ∀ y ∈ m, y.msgs.length ≤ n) : ∀ y ∈ l, y.msgs.length ≤ n := fun y hy => by
  obtain ⟨u, hu, he⟩ := box_mem h y hy
  have h2 : u.msgs = y.msgs := congrArg DBox.msgs he
  rw [← h2]; exact hm u hu

/-- one commit: what is left, and whether it applied -/
def AppRel (l : List DBox) (m : DCommit) (rr : List DBox) (rok : Bool) : Prop := Tells rok (AppliesP l m) ∧ (if rok then appD l m else l) = rr
theorem appRel_ex (l : List DBox) (m : DCommit) : ∃ rr rok, AppRel l m rr rok := by
  obtain ⟨b, hb⟩ := boolOf (AppliesP l m)
  exact ⟨_, b, hb, rfl⟩
theorem appRel_cnt {l : List DBox} {m : DCommit} {rr : List DBox} {rok : Bool} (h : AppRel l m rr rok) (hl : cntD l ≤ 3145728) : cntD rr ≤ 3145728 := by
  obtain ⟨h1, rfl⟩ := h
  cases rok with
  | false => simpa using hl
  | true =>
    obtain ⟨hb, -, hf⟩ := h1.1 rfl
    obtain ⟨h5, h7⟩ := appD_small hb hf
    have := cntD_le h5 h7
    simp only [if_true]
    omega
open Classical in
/-- several commits, up to the first that does not apply -/
noncomputable def allD : List DBox → List DCommit → List DBox × Bool
  | l, [] => (l, true)
  | l, m :: ms => if AppliesP l m then allD (appD l m) ms else (l, false)
theorem allD_cons (l : List DBox) (m : DCommit) (ms : List DCommit) {r : Bool} (h : Tells r (AppliesP l m)) : allD l (m :: ms) = if r then allD (appD l m) ms else (l, false) := by
  rw [allD]
  cases r with
  | false => rw [if_neg (fun h2 => absurd (h.2 h2) (by simp))]; rfl
  | true => rw [if_pos (h.1 rfl)]; rfl
def AllRel (l : List DBox) (log : List DCommit) (rr : List DBox) (rok : Bool) : Prop := allD l log = (rr, rok)
theorem allRel_ex (l : List DBox) (log : List DCommit) : ∃ rr rok, AllRel l log rr rok := ⟨_, _, rfl⟩
theorem allRel_cnt {l : List DBox} {log : List DCommit} {rr : List DBox} {rok : Bool} (h : AllRel l log rr rok) (hl : cntD l ≤ 3145728) : cntD rr ≤ 3145728 := by
  induction log generalizing l with
  | nil =>
    unfold AllRel at h
    rw [allD] at h
    cases h
    exact hl
  | cons m ms ih =>
    obtain ⟨b, hb⟩ := boolOf (AppliesP l m)
    unfold AllRel at h
    rw [allD_cons l m ms hb] at h
    cases b with
    | false =>
      simp only [Bool.false_eq_true, if_false] at h
      cases h
      exact hl
    | true =>
      simp only [if_true] at h
      exact ih h (appRel_cnt (rok := true) ⟨hb, rfl⟩ hl)
theorem specApplied_law (l : List PBox) (a : Option Addr) (c : Nat) (m : DCommit) (w : World) (R : Rd w a c 4 l.length (l.flatMap PBox.cells)) (M : RdM w l) (hl : l.length ≤ 1048576) (hlm : ∀ y ∈ l, y.msgs.length ≤ 1048576) (gn : ∀ y ∈ l, y.name.size ≤ 9223372036854775807) (gt : ∀ y ∈ l, ∀ m ∈ y.msgs, m.text.size ≤ 9223372036854775807) (g1 : m.name.size ≤ 9223372036854775807) (g2 : m.text.size ≤ 9223372036854775807) (rr : List DBox) (rok : Bool) (H : Hid (AppRel (l.map PBox.box) m rr rok)) :
    Calls Try.prog 37 #[.slice a l.length c, .agg #[.int .i64 m.kind, .int .i64 m.validity, .int .i64 m.uid, .int .i64 m.flags, .string m.name, .string m.text]] w fun e w' => ∃ g q l', e = .returned (.tuple #[.slice g l'.length q, .bool rok]) ∧ OwnBs w' w.heap.size 73 95 g q l' ∧ l'.map PBox.box = rr ∧ Ext w w' := by
  obtain ⟨h1, rfl⟩ := H.out
  exact specApplied_any l a c m w R M hl hlm gn gt g1 g2 rok h1
theorem implApplied_law (l : List PBox) (a : Option Addr) (c : Nat) (m : DCommit) (w : World) (R : Rd w a c 4 l.length (l.flatMap PBox.cells)) (M : RdM w l) (hl : l.length ≤ 1048576) (hlm : ∀ y ∈ l, y.msgs.length ≤ 1048576) (gn : ∀ y ∈ l, y.name.size ≤ 9223372036854775807) (gt : ∀ y ∈ l, ∀ m ∈ y.msgs, m.text.size ≤ 9223372036854775807) (g1 : m.name.size ≤ 9223372036854775807) (g2 : m.text.size ≤ 9223372036854775807) (hm : MaxLen w) (rr : List DBox) (rok : Bool) (H : Hid (AppRel (l.map PBox.box) m rr rok)) :
    Calls Try.prog 38 #[.slice a l.length c, .agg #[.int .i64 m.kind, .int .i64 m.validity, .int .i64 m.uid, .int .i64 m.flags, .string m.name, .string m.text]] w fun e w' => ∃ g q l', e = .returned (.tuple #[.slice g l'.length q, .bool rok]) ∧ OwnBs w' w.heap.size 73 95 g q l' ∧ l'.map PBox.box = rr ∧ Ext w w' := by
  obtain ⟨h1, rfl⟩ := H.out
  exact implApplied_any l a c m w R M hm hl hlm gn gt g1 g2 rok h1
end Go.Proofs.Ytdigkaddmpdeoaa
