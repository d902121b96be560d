/-
  The program's perform at any commit that applies.
-/
import Derived.Test.YtmnalediohghiaaGreatWPerf1
import Derived.Test.YtmnalediohghiaaGreatWPerf2
import Derived.Test.YtmnalediohghiaaGreatWPerf3
import Derived.Test.YtmnalediohghiaaGreatWPerf5
import Derived.Test.YtmnalediohghiaaGreatWPlain
namespace Go.Proofs.YtmnalediohghiaaGreat
open Go.RowKit
set_option linter.unusedVariables false
set_option linter.unusedSimpArgs false

theorem kind_of {m : DCommit} (h : CommitP m) : m.kind = 1 ∨ m.kind = 2 ∨ m.kind = 3 ∨ m.kind = 4 ∨ m.kind = 5 ∨ m.kind = 6 := by
  unfold CommitP CommitK at h
  omega
theorem place_of {u : Int} {l : List DMsg} (h : 0 ≤ placeOf u l) : pl u l < l.length ∧ placeOf u l = (pl u l : Nat) := by
  have := firstI_range (fun m : DMsg => decide (m.uid = u)) l
  have h2 : placeOf u l < l.length := this.2
  unfold pl
  omega
theorem perform_chg (l : List PBox) (a : Option Addr) (c B : Nat) (m : DCommit) (w : World) (h : OwnBs w B 73 78 a c l) (hB : B ≤ w.heap.size) (hap : AppliesP (l.map PBox.box) m) :
    Calls Tryz.prog 91 #[.slice a l.length c, .agg #[.int .i64 m.kind, .int .i64 m.validity, .int .i64 m.uid, .int .i64 m.flags, .string m.name, .string m.text]] w fun e w' => ∃ g q l', e = .returned (.slice g l'.length q) ∧ OwnBs w' B 73 78 g q l' ∧ l'.map PBox.box = appD (l.map PBox.box) m ∧ Chg (rowsB a c l) w w' ∧ NewR (rowsB a c l) w g q l' := by
  obtain ⟨hb, hc, hf⟩ := hap
  have hl : l.length ≤ 4 := by simpa using hb.2
  have hp := appD_perm hb hf
  have hpost : Calls Tryz.prog 91 #[.slice a l.length c, .agg #[.int .i64 m.kind, .int .i64 m.validity, .int .i64 m.uid, .int .i64 m.flags, .string m.name, .string m.text]] w (PerfPost B 73 78 (rowsB a c l) w (perfD (l.map PBox.box) m)) := by
    by_cases h1 : m.kind = 1
    · have := perform1_any l a c B m w h hl hB h1
      unfold perfD
      rwa [if_pos h1]
    obtain ⟨i, hi, hz, h3, h4, h5⟩ := hf.2 h1
    have hi' : i < l.length := by simpa using hi
    have ha : atD (l.map PBox.box) m = i := by unfold atD; omega
    have ht : theD (l.map PBox.box) i = ⟨l[i].name, l[i].validity, l[i].next, l[i].msgs⟩ := by rw [theD_of hi]; simp [PBox.box]
    have hmsg : l[i].msgs.length ≤ 6 := by
      obtain ⟨h0, h6, -⟩ := hb.1 i hi
      simpa [PBox.box] using h6.2.2.2.1
    have hnx : 1 ≤ l[i].next ∧ l[i].next ≤ 999999999 := by
      obtain ⟨h0, h6, -⟩ := hb.1 i hi
      simpa [PBox.box] using h6.2.2.1
    unfold perfD
    rw [if_neg h1, ha, ht]
    by_cases h2 : m.kind = 2
    · rw [if_pos h2]
      exact perform2_any l a c B i m w h hl hB h2 hi' hz
    rw [if_neg h2]
    unfold newD
    by_cases h3k : m.kind = 3
    · rw [if_pos h3k]
      exact perform3_any l a c B i m w h hl hB h3k hi' hz
    rw [if_neg h3k]
    by_cases h4k : m.kind = 4
    · rw [if_pos h4k]
      exact perform4_any l a c B i m w h hl hB h4k hi' hz (by omega) (by omega)
    rw [if_neg h4k]
    by_cases h5k : m.kind = 5
    · rw [if_pos h5k]
      have h7 : 0 ≤ placeOf m.uid l[i].msgs := by simpa [PBox.box] using h5 (Or.inl h5k)
      obtain ⟨h8, h9⟩ := place_of h7
      have := perform5_any l a c B i m w h hl hB h5k hi' hz (pl m.uid l[i].msgs) h8 h9 (by omega)
      rwa [theM_of h8]
    rw [if_neg h5k]
    have h6k : m.kind = 6 := by have := kind_of hc; omega
    have h7 : 0 ≤ placeOf m.uid l[i].msgs := by simpa [PBox.box] using h5 (Or.inr h6k)
    obtain ⟨h8, h9⟩ := place_of h7
    exact perform6_any l a c B i m w h hl hB h6k hi' hz (pl m.uid l[i].msgs) h8 h9 (by omega)
  refine hpost.mono ?_
  rintro e w' ⟨g, q, l', rfl, ho, hpm, hs, hbl⟩
  exact ⟨g, q, l', rfl, ho, rise_unique hpm hp.1 hp.2 (sort_pair hs), hbl⟩
theorem perform_any (l : List PBox) (a : Option Addr) (c B : Nat) (m : DCommit) (w : World) (h : OwnBs w B 73 78 a c l) (hB : B ≤ w.heap.size) (hap : AppliesP (l.map PBox.box) m) :
    Calls Tryz.prog 91 #[.slice a l.length c, .agg #[.int .i64 m.kind, .int .i64 m.validity, .int .i64 m.uid, .int .i64 m.flags, .string m.name, .string m.text]] w fun e w' => ∃ g q l', e = .returned (.slice g l'.length q) ∧ OwnBs w' B 73 78 g q l' ∧ l'.map PBox.box = appD (l.map PBox.box) m ∧ Below B w w' :=
  (perform_chg l a c B m w h hB hap).mono fun e w' ⟨g, q, l', he, ho, hd, hc, hn⟩ => ⟨g, q, l', he, ho, hd, hc.below (fun k hk => (h.rows_lt k hk).1) hB⟩
end Go.Proofs.YtmnalediohghiaaGreat
