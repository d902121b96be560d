/-
  The draws that pick out of a row: texts, numbers; bytes; names.
-/
import Derived.Test.YtgobkfnmagcgcaaDraw1
import Derived.Laws.BytesArg
namespace Go.Proofs.Ytgobkfnmagcgcaa
open Go.RowKit
set_option linter.unusedVariables false
set_option linter.unusedSimpArgs false

/-- all are texts of at most m bytes -/
def strMax (m : Nat) (l : List Value) : Bool := l.all fun u => match u with | .string s => decide (s.size ≤ m) | _ => false
theorem strMax_at {m : Nat} {l : List Value} (h : strMax m l = true) (k : Nat) (hk : k < l.length) : ∃ s : ByteArray, l[k] = .string s ∧ s.size ≤ m := by
  have h1 := (List.all_eq_true.1 h) _ (List.getElem_mem hk)
  revert h1
  cases l[k] <;> simp
/-- all are numbers of 64 bits -/
def intAll (l : List Value) : Bool := l.all fun u => match u with | .int .i64 n => decide (-9223372036854775808 ≤ n ∧ n ≤ 9223372036854775807) | _ => false
theorem intAll_at {l : List Value} (h : intAll l = true) (k : Nat) (hk : k < l.length) : ∃ n : Int, l[k] = .int .i64 n ∧ (-9223372036854775808 ≤ n ∧ n ≤ 9223372036854775807) := by
  have h1 := (List.all_eq_true.1 h) _ (List.getElem_mem hk)
  revert h1
  cases l[k] with
  | int k n => cases k <;> simp
  | _ => simp
theorem Rd.at1 {w : World} {a : Option Addr} {c n : Nat} {xs : List Value} (h : Rd w a c 1 n xs) (k : Nat) (hk : k < n) : ∃ b o, a = some ⟨b, o, none⟩ ∧ b < w.heap.size ∧ ∃ hx : k < xs.length, w.cell? ⟨b, o + k, none⟩ = some xs[k] := by
  obtain ⟨b, o, ha, hb, hat⟩ := h.ptr (by omega)
  have hl := h.len
  have hx : k < xs.length := by omega
  exact ⟨b, o, ha, hb, hx, hat k _ (List.getElem?_eq_getElem hx)⟩

set_option maxHeartbeats 1000000 in
theorem l1Pick_any (cb n m : Nat) (cs : List Value) (a : Option Addr) (c : Nat) (w : World) (hc : Cur w cb) (R : Rd w a c 1 n cs) (h0 : 0 < n) (hn : n ≤ 1000) (hs : strMax m cs = true) (hcb : ∀ b o, a = some ⟨b, o, none⟩ → b ≠ cb) :
    Calls Try.prog 113 #[.pointer (some ⟨cb, 0, none⟩), .slice a n c] w (DrT m cb w) := by
  have HC := Lib.hid hc
  have HR := Lib.hid R
  have HS := Lib.hid hs
  have HCB := Lib.hid hcb
  clear hc R hs hcb
  go_enter Try.func113, Try.ntmps113
  go_wp2_with fail
  refine (l1Below_any cb n _ HC.out (by omega)).mono ?_
  rintro e w1 ⟨v, ⟨hv0, hv1, _⟩, rfl, hd⟩
  have hv1 := hv1 (by omega)
  obtain ⟨k, rfl⟩ : ∃ k : Nat, v = k := ⟨v.toNat, by omega⟩
  obtain ⟨b, o, rfl, hb, hx, hcell⟩ := (HR.out.dr hd (fun _ => HCB.out)).at1 k (by omega)
  obtain ⟨s, hsk, hsm⟩ := strMax_at HS.out k hx
  rw [hsk] at hcell
  have hkl : k < n := by omega
  clear hv1 hsk
  go_wp2_with fail
  go_ret
  exact ⟨s, hsm, rfl, hd⟩
set_option maxHeartbeats 1000000 in
theorem l1PickInt_any (cb n : Nat) (cs : List Value) (a : Option Addr) (c : Nat) (w : World) (hc : Cur w cb) (R : Rd w a c 1 n cs) (h0 : 0 < n) (hn : n ≤ 1000) (hs : intAll cs = true) (hcb : ∀ b o, a = some ⟨b, o, none⟩ → b ≠ cb) :
    Calls Try.prog 95 #[.pointer (some ⟨cb, 0, none⟩), .slice a n c] w (DrI (fun n => -9223372036854775808 ≤ n ∧ n ≤ 9223372036854775807) cb w) := by
  have HC := Lib.hid hc
  have HR := Lib.hid R
  have HS := Lib.hid hs
  have HCB := Lib.hid hcb
  clear hc R hs hcb
  go_enter Try.func95, Try.ntmps95
  go_wp2_with fail
  refine (l1Below_any cb n _ HC.out (by omega)).mono ?_
  rintro e w1 ⟨v, ⟨hv0, hv1, _⟩, rfl, hd⟩
  have hv1 := hv1 (by omega)
  obtain ⟨k, rfl⟩ : ∃ k : Nat, v = k := ⟨v.toNat, by omega⟩
  obtain ⟨b, o, rfl, hb, hx, hcell⟩ := (HR.out.dr hd (fun _ => HCB.out)).at1 k (by omega)
  obtain ⟨s, hsk, hsm⟩ := intAll_at HS.out k hx
  rw [hsk] at hcell
  have hkl : k < n := by omega
  clear hv1 hsk
  go_wp2_with fail
  go_ret
  exact ⟨s, hsm, rfl, hd⟩
set_option maxHeartbeats 1000000 in
theorem l2Name_any (cb : Nat) (w : World) (hc : Cur w cb) :
    Calls Try.prog 101 #[.pointer (some ⟨cb, 0, none⟩)] w (DrT 7 cb w) := by
  have HC := Lib.hid hc
  clear hc
  go_enter Try.func101, Try.ntmps101
  go_wp2_with fail
  refine (l1Pick_any cb _ 7 _ _ _ _ (HC.out.ext ((Below.refl _ _).alloc (Nat.le_refl _) _)) (Rd.lit _ _ _ _ 1 _ rfl rfl (by omega)) (by omega) (by omega) (by rfl) (fun b o e => by have := HC.out.lt; simp at e; omega)).mono ?_
  rintro e w1 ⟨v, hv, rfl, hd⟩
  go_wp2_with fail
  go_ret
  exact ⟨v, hv, rfl, (((Dr.refl HC.out).alloc _).trans hd)⟩
set_option maxHeartbeats 1000000 in
theorem l7Body_any (cb : Nat) (w : World) (hc : Cur w cb) :
    Calls Try.prog 112 #[.pointer (some ⟨cb, 0, none⟩)] w (DrT 40 cb w) := by
  have HC := Lib.hid hc
  clear hc
  go_enter Try.func112, Try.ntmps112
  go_wp2_with fail
  refine (l1Pick_any cb _ 40 _ _ _ _ (HC.out.ext ((Below.refl _ _).alloc (Nat.le_refl _) _)) (Rd.lit _ _ _ _ 1 _ rfl rfl (by omega)) (by omega) (by omega) (by rfl) (fun b o e => by have := HC.out.lt; simp at e; omega)).mono ?_
  rintro e w1 ⟨v, hv, rfl, hd⟩
  go_wp2_with fail
  go_ret
  exact ⟨v, hv, rfl, (((Dr.refl HC.out).alloc _).trans hd)⟩
theorem conv_u8 (x : Int) (h : 0 ≤ x ∧ x ≤ 255) : IntKind.u8.wrap x = x := IntWalk.u8_in _ (by omega)
def BytesRel (cb E : Nat) (n : Int) (w : World) (v i : Value) (wr : World) : Prop :=
  ∃ (k : Nat) (g q : Nat) (l : List Int), (k : Int) ≤ max n 0 ∧ i = .int .i64 k ∧ v = .slice (some ⟨g, 0, none⟩) k q ∧ l.length = k ∧ Hid (wr.ownsRow w.heap.size E 1 (.slice (some ⟨g, 0, none⟩) k q) k (l.flatMap byteCells)) ∧ Dr cb w wr
def DrL (n : Nat) (E : Nat) (cb : Nat) (w : World) (e : Ending) (w' : World) : Prop :=
  ∃ (g q : Nat) (l : List Int), l.length ≤ n ∧ e = .returned (.slice (some ⟨g, 0, none⟩) l.length q) ∧ w'.ownsRow w.heap.size E 1 (.slice (some ⟨g, 0, none⟩) l.length q) l.length (l.flatMap byteCells) ∧ Dr cb w w'
theorem info_u8 : (Try.prog.info? 5).map (fun i => (i.zero, i.size, i.bytes)) = some (some (.int .u8 0), 1, 1) := by kernel_rfl
set_option maxRecDepth 100000 in
set_option maxHeartbeats 1000000 in
theorem l1Bytes_any (cb : Nat) (n : Int) (w : World) (hc : Cur w cb) (h1 : n ≤ 1000) :
    Calls Try.prog 116 #[.pointer (some ⟨cb, 0, none⟩), .int .i64 n] w (DrL n.toNat 5 cb w) := by
  obtain ⟨i0, hi, hz0, hz1, hz2⟩ := info_parts info_u8
  have HC := Lib.hid hc
  clear hc
  go_enter Try.func116, Try.ntmps116
  go_wp2_with fail
  go_loopw [5, 6] (BytesRel cb 5 n w) (fun _ i _ => (n - intOf i).toNat)
  case atStart => exact ⟨0, w.heap.size, 0, [], by omega, rfl, rfl, rfl, World.ownsRow_lit w #[] 0 (Nat.le_refl _) (Nat.zero_le _) (by simp), (Dr.refl HC.out).alloc _⟩
  case round =>
    obtain ⟨k, g, q, l, hk, rfl, rfl, hl, HO, hd⟩ := hrel
    by_cases hlt : (k : Int) < n
    · have hsz := hd.size
      go_wp2_with fail
      refine (l1Byte_any cb _ hd.cur).mono ?_
      rintro e w1 ⟨v, ⟨hv0, hv1⟩, rfl, hd1⟩
      have hcv := conv_u8 v ⟨hv0, hv1⟩
      have HO1 := Lib.hid (own_dr HO.out hd1 hd.lt)
      have hd2 := hd.trans hd1
      have HCV := Lib.hid hcv
      clear hcv
      go_wp2_with ((at_builtin; refine wpList_app1L rfl _ _ _ rfl 5 i0 (.int .u8 0) 1 1 Try.underlying22 hi hz0 hz1 hz2 rfl (by decide) _ _ _ rfl _ (own_ext HO1.out ((Below.refl _ _).alloc (Nat.le_refl _) _)) w1.heap.size (byteCells v) rfl rfl (at_alloc (by simp) rfl) (by simp [byteCells, Value.oneCell']) (by omega) (by omega) (by have := hd2.size; simp; omega) ?_))
      intro g2 q2 w2 hown hg
      have HN : Hid (BytesRel cb 5 n w (.slice (some ⟨g2, 0, none⟩) (k + 1) q2) (.int .i64 ((k : Int) + 1)) w2) :=
        ⟨k + 1, g2, q2, l ++ [v], by omega, by simp, rfl, by simp [hl], by unfold Hid; rw [List.flatMap_append]; simpa using hown, (hd2.alloc _).grown hg (fun x hx => (HO1.out.lt x hx).1)⟩
      clear hown hg
      go_wp2_with fail
      go_roundw
      case rel => exact HN.out
      case measure => simp [intOf]; omega
    · go_wp2_with fail
      go_ret
      subst hl
      exact ⟨g, q, l, by omega, rfl, HO.out, hd⟩
set_option maxRecDepth 100000 in
set_option maxHeartbeats 1000000 in
theorem l2Any_any (cb : Nat) (w : World) (hc : Cur w cb) :
    Calls Try.prog 94 #[.pointer (some ⟨cb, 0, none⟩)] w (DrT 41 cb w) := by
  have HC := Lib.hid hc
  clear hc
  go_enter Try.func94, Try.ntmps94
  go_wp2_with fail
  refine (l1Below_any cb 4 _ HC.out (by omega)).mono ?_
  rintro e w1 ⟨v, ⟨hv0, hv1, _⟩, rfl, hd⟩
  have hv1 := hv1 (by omega)
  by_cases h0 : v = 0
  · subst h0
    go_wp2_with fail
    refine (l1Pick_any cb _ 41 _ _ _ _ (hd.cur.ext ((Below.refl _ _).alloc (Nat.le_refl _) _)) (Rd.lit _ _ _ _ 1 _ rfl rfl (by omega)) (by omega) (by omega) (by rfl) (fun b o e => by have := hd.cur.lt; simp at e; omega)).mono ?_
    rintro e w2 ⟨v, hv, rfl, hd2⟩
    go_wp2_with fail
    go_ret
    exact ⟨v, hv, rfl, (hd.alloc _).trans hd2⟩
  · have e0 : (v == 0) = false := by simpa using h0
    by_cases h1 : v = 1
    · subst h1
      go_wp2_with fail
      refine (l1Below_any cb 4 _ hd.cur (by omega)).mono ?_
      rintro e w2 ⟨n, ⟨hn0, hn1, _⟩, rfl, hd2⟩
      have hn1 := hn1 (by omega)
      go_wp2_with fail
      refine (l1Bytes_any cb n _ hd2.cur (by omega)).mono ?_
      rintro e w3 ⟨g, q, l, hl, rfl, hown, hd3⟩
      have hconv := run_convert_bytes_arg (P := Try.prog) w3 22 5 Try.underlying22 Try.underlying5 g 0 l.length q l rfl (fun i hi => by
        have h4 := World.ownsRow.cellAt hown i (by omega)
        rw [Nat.zero_add, h4]
        have h5 := flat_get byteCells_len l i 0 hi (by omega)
        rw [Nat.mul_one, Nat.add_zero] at h5
        rw [h5]; simp [byteCells, hi]) 9 Try.underlying9
      clear hown
      go_wp2_with fail
      go_ret
      exact ⟨_, by rw [strOfNums_size]; omega, rfl, (hd.trans hd2).trans hd3⟩
    · have e1 : (v == 1) = false := by simpa using h1
      go_wp2_with fail
      refine (l2Name_any cb _ hd.cur).mono ?_
      rintro e w2 ⟨s, hs, rfl, hd2⟩
      go_wp2_with fail
      go_ret
      exact ⟨s, by omega, rfl, hd.trans hd2⟩
set_option maxRecDepth 100000 in
set_option maxHeartbeats 1000000 in
theorem l1Whole_any (cb : Nat) (w : World) (hc : Cur w cb) :
    Calls Try.prog 90 #[.pointer (some ⟨cb, 0, none⟩)] w (DrI (fun n => -9223372036854775808 ≤ n ∧ n ≤ 9223372036854775807) cb w) := by
  have HC := Lib.hid hc
  clear hc
  go_enter Try.func90, Try.ntmps90
  go_wp2_with fail
  refine (l1Below_any cb 3 _ HC.out (by omega)).mono ?_
  rintro e w1 ⟨v, ⟨hv0, hv1, _⟩, rfl, hd⟩
  have hv1 := hv1 (by omega)
  by_cases h0 : v = 0
  · subst h0
    go_wp2_with fail
    refine (l1PickInt_any cb _ _ _ _ _ (hd.cur.ext ((Below.refl _ _).alloc (Nat.le_refl _) _)) (Rd.lit _ _ _ _ 1 _ rfl rfl (by omega)) (by omega) (by omega) (by rfl) (fun b o e => by have := hd.cur.lt; simp at e; omega)).mono ?_
    rintro e w2 ⟨v, hv, rfl, hd2⟩
    go_wp2_with fail
    go_ret
    exact ⟨v, hv, rfl, (hd.alloc _).trans hd2⟩
  · have e0 : (v == 0) = false := by simpa using h0
    by_cases h1 : v = 1
    · subst h1
      go_wp2_with fail
      refine (l1Below_any cb 1000000 _ hd.cur (by omega)).mono ?_
      rintro e w2 ⟨n, ⟨hn0, hn1, _⟩, rfl, hd2⟩
      have hn1 := hn1 (by omega)
      go_wp2_with fail
      go_ret
      exact ⟨_, by omega, rfl, hd.trans hd2⟩
    · have e1 : (v == 1) = false := by simpa using h1
      go_wp2_with fail
      refine (l1Below_any cb 20 _ hd.cur (by omega)).mono ?_
      rintro e w2 ⟨n, ⟨hn0, hn1, _⟩, rfl, hd2⟩
      have hn1 := hn1 (by omega)
      go_wp2_with fail
      go_ret
      exact ⟨_, by omega, rfl, hd.trans hd2⟩
set_option maxRecDepth 100000 in
set_option maxHeartbeats 1000000 in
theorem l5Bits_any (cb : Nat) (w : World) (hc : Cur w cb) :
    Calls Try.prog 91 #[.pointer (some ⟨cb, 0, none⟩)] w (DrI (fun n => -9223372036854775808 ≤ n ∧ n ≤ 9223372036854775807) cb w) := by
  have HC := Lib.hid hc
  clear hc
  go_enter Try.func91, Try.ntmps91
  go_wp2_with fail
  refine (l1Once_any cb 12 _ HC.out (by omega)).mono ?_
  rintro e w1 ⟨v, rfl, hd⟩
  cases v
  · go_wp2_with fail
    refine (l1Below_any cb 32 _ hd.cur (by omega)).mono ?_
    rintro e w2 ⟨n, ⟨hn0, hn1, _⟩, rfl, hd2⟩
    have hn1 := hn1 (by omega)
    go_wp2_with fail
    go_ret
    exact ⟨_, by omega, rfl, hd.trans hd2⟩
  · go_wp2_with fail
    refine (l1PickInt_any cb _ _ _ _ _ (hd.cur.ext ((Below.refl _ _).alloc (Nat.le_refl _) _)) (Rd.lit _ _ _ _ 1 _ rfl rfl (by omega)) (by omega) (by omega) (by rfl) (fun b o e => by have := hd.cur.lt; simp at e; omega)).mono ?_
    rintro e w2 ⟨v, hv, rfl, hd2⟩
    go_wp2_with fail
    go_ret
    exact ⟨v, hv, rfl, (hd.alloc _).trans hd2⟩
end Go.Proofs.Ytgobkfnmagcgcaa
