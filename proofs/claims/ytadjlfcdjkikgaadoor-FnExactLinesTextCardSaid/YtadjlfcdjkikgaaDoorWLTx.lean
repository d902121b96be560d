/-
  The text of replies, line by line: the program's LinesText (a builder) and the reference's.
-/
import Derived.Test.YtadjlfcdjkikgaaDoorWRTs
import Derived.Test.YtadjlfcdjkikgaaDoorWRTi
import Derived.Test.YtadjlfcdjkikgaaDoorWBld
import Derived.Test.YtadjlfcdjkikgaaDoorFamReply
namespace Go.Proofs.YtadjlfcdjkikgaaDoor
open Go.RowKit
set_option linter.unusedVariables false
set_option linter.unusedSimpArgs false

open Classical in
/-- the text of a reply, whatever it is -/
noncomputable def tx1 (a : DReply) : List UInt8 := if ReplyP a then txA a else []
noncomputable def ltL (rs : List DReply) : List UInt8 := rs.flatMap fun a => tx1 a ++ [13, 10]
theorem tx1_of {a : DReply} {r : Bool} (h : Tells r (ReplyP a)) : txtOf r a = bs (tx1 a) := by
  unfold tx1
  cases r with
  | true => rw [if_pos (h.1 rfl)]; rfl
  | false => rw [if_neg (fun hp => by have := h.2 hp; cases this)]; rfl
theorem tx1_len (a : DReply) : (tx1 a).length ≤ 200 := by
  unfold tx1
  split
  · rename_i h; exact txt_len h
  · simp
theorem ltL_len (rs : List DReply) : (ltL rs).length ≤ 202 * rs.length := by
  induction rs with
  | nil => simp [ltL]
  | cons a t ih =>
    have := tx1_len a
    simp only [ltL, List.flatMap_cons, List.length_append, List.length_cons, List.length_nil] at ih ⊢
    omega
theorem ltL_take {rs : List DReply} {k : Nat} (hk : k < rs.length) : ltL (rs.take (k + 1)) = ltL (rs.take k) ++ tx1 rs[k] ++ [13, 10] := by
  unfold ltL
  rw [List.take_add_one, List.getElem?_eq_getElem hk, List.flatMap_append]
  simp [Option.toList]
theorem boolR (a : DReply) : ∃ r : Bool, Tells r (ReplyP a) := boolOf (ReplyP a)
theorem info_u8l : (Tryd.prog.info? 5).map (fun i => (i.zero, i.size, i.bytes)) = some (some (.int .u8 0), 1, 1) := by kernel_rfl
theorem row_shape2 {w : World} {B E s n : Nat} {v : Value} {xs : List Value} (h : w.ownsRow B E s v n xs) : ∃ g q, v = .slice g n q := by
  rcases h.2 with ⟨rfl, h0⟩ | ⟨g, c, cur, rfl, _⟩
  · exact ⟨none, 0, by rw [h0]⟩
  · exact ⟨_, _, rfl⟩
def LtRel (rs : List DReply) (W : World) (B : Nat) (v3 v4 : Value) (wr : World) : Prop :=
  ∃ (k n : Nat) (g : Option Addr) (q : Nat), k ≤ rs.length ∧ v4 = .int .i64 k ∧ v3 = .slice g n q ∧ Hid ((ltL (rs.take k)).length = n) ∧ Hid (wr.ownsRow B 5 1 (.slice g n q) n (bv (ltL (rs.take k)))) ∧ Below B W wr
set_option maxRecDepth 100000 in
set_option maxHeartbeats 4000000 in
theorem specLinesText_any (rs : List DReply) (a : Option Addr) (c : Nat) (w : World) (R : Rd w a c 6 rs.length (rs.flatMap DReply.cells)) (hl : rs.length ≤ 1048576) (g1 : ∀ x ∈ rs, x.name.size ≤ 9223372036854775807) (g2 : ∀ x ∈ rs, x.text.size ≤ 9223372036854775807) :
    Calls Tryd.prog 17 #[.slice a rs.length c] w fun e w' => e = .returned (.string (bs (ltL rs))) ∧ Ext w w' := by
  obtain ⟨i0, hi, hz0, hz1, hz2⟩ := info_parts info_u8l
  have G1 := Lib.hid g1
  have G2 := Lib.hid g2
  clear g1 g2
  go_enter Tryd.func17, Tryd.ntmps17
  go_wp2_with fail
  go_loopw [3, 4] (LtRel rs w w.heap.size) (fun _ i _ => rs.length - (intOf i).toNat)
  case atStart => exact ⟨0, 0, some ⟨w.heap.size, 0, none⟩, 0, Nat.zero_le _, rfl, rfl, rfl, World.ownsRow_lit w #[] 0 (Nat.le_refl _) (Nat.zero_le _) (by simp [bv, ltL]), bxt⟩
  case round =>
    obtain ⟨k, n, g, q, hk, rfl, rfl, HL, HO, hb⟩ := hrel
    have hbs := hb.size
    by_cases hlt : k < rs.length
    · have k1 : (k : Int) < (rs.length : Int) := by omega
      have k3 : (0 : Int) ≤ (k : Int) := by omega
      have k5 : decide ((k : Int) < (rs.length : Int)) = true := decide_eq_true k1
      obtain ⟨b, o, rfl, hb0, hat⟩ := R.ptr (by omega)
      have hat2 := hat.ext hb0 hb
      obtain ⟨c0, c1, c2, c3, c4, c5⟩ := DReply.at hat2 k hlt
      have hnl : n ≤ 202 * k := by
        have h := ltL_len (rs.take k)
        rw [HL.out] at h
        simp at h
        have : min k rs.length = k := by omega
        rw [this] at h
        exact h
      have hnx := ltL_take hlt
      have q1 := G1.out rs[k] (List.getElem_mem hlt)
      have q2 := G2.out rs[k] (List.getElem_mem hlt)
      obtain ⟨x, hx⟩ : ∃ x, rs[k] = x := ⟨_, rfl⟩
      rw [hx] at c0 c1 c2 c3 c4 c5 hnx q1 q2
      have HNX := Lib.hid hnx
      have hxl := tx1_len x
      obtain ⟨r, hr⟩ := boolR x
      have Hr := Lib.hid hr
      have HT := Lib.hid (tx1_of hr)
      clear hat hat2 hnx hx hr
      go_wp2_with fail
      refine (specReplyText_any x _ q1 q2 r Hr).mono ?_
      rintro e w1 ⟨rfl, hb1⟩
      have hbs1 := hb1.size
      have HO1 : Hid (w1.ownsRow w.heap.size 5 1 (.slice g n q) n (bv (ltL (rs.take k)))) := own_ext HO.out hb1
      rw [HT.out]
      have hsz : (bs (tx1 x)).size = (tx1 x).length := bs_size _
      go_wp2_with ((at_builtin; refine Lib.wpList_append_own_string _ rfl _ _ 41 9 rfl w.heap.size 5 i0 Tryd.underlying41 Tryd.underlying9 hi hz0 hz1 hz2 (.slice g n q) n _ rfl HO1.out (bs (tx1 x)) rfl (by unfold maxLen; omega) (by omega) (by omega) ?_))
      intro v2 w2 hown hg hnil
      obtain ⟨g2, q2', rfl⟩ := row_shape2 hown
      have hb2 : Below w.heap.size w w2 := below_app (hb.trans (hb1.mono hbs)) HO1.out (Nat.le_refl _) (by omega) hg
      have hbs2 := hb2.size
      have HO2 := Lib.hid hown
      clear hown hg hnil
      go_wp2_with ((at_builtin; refine wpList_append_own _ rfl _ _ 41 rfl w.heap.size 5 i0 (.int .u8 0) 1 1 Tryd.underlying41 hi hz0 hz1 hz2 rfl (by decide) _ _ _ rfl (own_ext HO2.out bxt) ⟨w2.heap.size, 0, none⟩ 2 2 [.int .u8 13, .int .u8 10] rfl rfl ?c1 ?c2 ?c3 ?c4 ?c5 ?_))
      case c1 =>
        intro j u hj
        match j, hj with
        | 0, hj => simp at hj; subst hj; simp [Addr.add]
        | 1, hj => simp at hj; subst hj; simp [Addr.add]
      case c2 => intro u hu; simp at hu; rcases hu with rfl | rfl <;> rfl
      case c3 => unfold maxLen; omega
      case c4 => omega
      case c5 => simp; omega
      intro v3 w3 hown hg hnil
      obtain ⟨g3, q3, rfl⟩ := row_shape2 hown
      have hb3 : Below w.heap.size w w3 := below_app (Below.ext hb2 (show Ext w2 _ from bxt)) (own_ext HO2.out (show Ext w2 _ from bxt)) (Nat.le_refl _) (by simp; omega) hg
      have HN : Hid (LtRel rs w w.heap.size (.slice g3 (n + (tx1 x).length + 2) q3) (.int .i64 ((k : Int) + 1)) w3) := by
        refine ⟨k + 1, n + (tx1 x).length + 2, g3, q3, by omega, by simp, rfl, ?_, ?_, hb3⟩
        · unfold Hid; rw [HNX.out, List.length_append, List.length_append, HL.out]; rfl
        · unfold Hid; rw [HNX.out, bv_app, bv_app]
          rw [str_bv, bs_data] at hown
          have e : bv [13, 10] = [Value.int .u8 13, Value.int .u8 10] := rfl
          rw [e]
          simpa only [List.append_assoc] using hown
      clear hown hg hnil
      go_wp2_with fail
      go_roundw
      case rel => exact HN.out
      case measure => simp [intOf]; omega
    · have k5 : decide ((k : Int) < (rs.length : Int)) = false := decide_eq_false (by omega)
      obtain rfl : k = rs.length := by omega
      have hO := HO.out
      rw [List.take_length] at hO
      have hcv := conv_own 41 9 5 Tryd.underlying41 Tryd.underlying5 Tryd.underlying9 (Own.of_row hO)
      clear hO
      go_wp2_with fail
      go_ret
      exact ⟨rfl, hb⟩
theorem ownF_ext {w w' : World} {B E s n : Nat} {v : Value} {xs : List Value} (h : w.ownsRowF B E s v n xs) (hb : Ext w w') : w'.ownsRowF B E s v n xs :=
  h.kept (row := none) ⟨hb.os, hb.tape, hb.output, hb.size, fun k hk _ => hb.block k hk⟩ (by
    cases hv : v.ownBlock with
    | none => exact Or.inl rfl
    | some k => exact Or.inr (by simp))
theorem bldAt_ext {T e B b : Nat} {p : Value} {xs : List Value} {w w' : World} (h : Lib.BuilderAtF T e B b p xs w) (hb : Ext w w') : Lib.BuilderAtF T e B b p xs w' := by
  obtain ⟨hB, v, hbk, hown, hne⟩ := h
  have hlt : b < w.heap.size := (Array.getElem?_eq_some_iff.1 hbk).1
  exact ⟨hB, v, (hb.block b hlt).trans hbk, ownF_ext hown hb, hne⟩
theorem bld_ext {T e B b : Nat} {xs : List Value} {w w' : World} (h : Lib.IsBuilderF T e B b xs w) (hb : Ext w w') : Lib.IsBuilderF T e B b xs w' :=
  h.elim (fun h => Or.inl (bldAt_ext h hb)) (fun h => Or.inr (bldAt_ext h hb))
theorem bld_fresh {T e : Nat} {w : World} {g : Nat} (hg : w.heap.size = g) : Lib.IsBuilderF T e g g [] (w.alloc (.cells #[.pointer none, .slice none 0 0] T)) := by
  subst hg
  exact Or.inl ⟨Nat.le_refl _, .slice none 0 0, heap_alloc_new w _, World.ownsRowF_nil _ _ _ _, by simp [Value.ownBlock]⟩
def LtRelI (rs : List DReply) (W : World) (b : Nat) (v9 : Value) (wr : World) : Prop :=
  ∃ k : Nat, k ≤ rs.length ∧ v9 = .int .i64 k ∧ Hid (Lib.IsBuilderF 51 5 b b (bv (ltL (rs.take k))) wr) ∧ Below b W wr
set_option maxRecDepth 100000 in
set_option maxHeartbeats 4000000 in
theorem implLinesText_any (rs : List DReply) (a : Option Addr) (c : Nat) (w : World) (ht : Pw w) (hm : MaxLen w) (R : Rd w a c 6 rs.length (rs.flatMap DReply.cells)) (hl : rs.length ≤ 1048576) (g1 : ∀ x ∈ rs, x.name.size ≤ 9223372036854775807) (g2 : ∀ x ∈ rs, x.text.size ≤ 9223372036854775807) :
    Calls Tryd.prog 19 #[.slice a rs.length c] w fun e w' => e = .returned (.string (bs (ltL rs))) ∧ Ext w w' := by
  have G1 := Lib.hid g1
  have G2 := Lib.hid g2
  have HTW := Lib.hid ht
  have HMW := Lib.hid hm
  clear g1 g2 ht hm
  go_enter Tryd.func19, Tryd.ntmps19
  go_wp2_with fail
  go_loopw [5, 9] (fun _ i wr => LtRelI rs w w.heap.size i wr) (fun _ i _ => rs.length - (intOf i).toNat)
  case atStart => exact ⟨0, Nat.zero_le _, rfl, Lib.hid (bld_fresh rfl), bxt⟩
  case round =>
    obtain ⟨k, hk, rfl, HB, hb⟩ := hrel
    have hbs := hb.size
    by_cases hlt : k < rs.length
    · have k1 : (k : Int) < (rs.length : Int) := by omega
      have k3 : (0 : Int) ≤ (k : Int) := by omega
      have k5 : decide ((k : Int) < (rs.length : Int)) = true := decide_eq_true k1
      obtain ⟨b, o, rfl, hb0, hat⟩ := R.ptr (by omega)
      have hat2 := hat.ext hb0 hb
      obtain ⟨c0, c1, c2, c3, c4, c5⟩ := DReply.at hat2 k hlt
      have hnl := ltL_len (rs.take k)
      have hnx := ltL_take hlt
      have q1 := G1.out rs[k] (List.getElem_mem hlt)
      have q2 := G2.out rs[k] (List.getElem_mem hlt)
      obtain ⟨x, hx⟩ : ∃ x, rs[k] = x := ⟨_, rfl⟩
      rw [hx] at c0 c1 c2 c3 c4 c5 hnx q1 q2
      have HNX := Lib.hid hnx
      have hxl := tx1_len x
      obtain ⟨r, hr⟩ := boolR x
      have Hr := Lib.hid hr
      have HT := Lib.hid (tx1_of hr)
      have hsz : (bs (tx1 x)).size = (tx1 x).length := bs_size _
      have hcat : ¬ 9223372036854775807 < (tx1 x).length + 2 := by omega
      have hlk : (rs.take k).length = k := by simp; omega
      rw [hlk] at hnl
      clear hat hat2 hnx hx hr hlk
      go_wp2_with fail
      refine (implReplyText_any x _ (Pw.ext HTW.out (show Ext w _ from bxt)) (HMW.out.ext (show Ext w _ from bxt)) q1 q2 r Hr).mono ?_
      rintro e w1 ⟨rfl, hb1⟩
      have HB1 : Hid (Lib.IsBuilderF 51 5 w.heap.size w.heap.size (bv (ltL (rs.take k))) w1) := bld_ext HB.out (show Ext wr w1 from bxt)
      have hb2 : Below w.heap.size w w1 := Below.ext hb (show Ext wr w1 from bxt)
      have hbs1 := hb2.size
      rw [HT.out]
      have hs2 : (bs (tx1 x) ++ (⟨#[13, 10]⟩ : ByteArray)).size = (tx1 x).length + 2 := by rw [ByteArray.size_append, bs_size]; rfl
      have hlen : (bv (ltL (rs.take k))).length + (bs (tx1 x) ++ (⟨#[13, 10]⟩ : ByteArray)).size ≤ 140737488355328 := by rw [bv_len, hs2]; omega
      have HLEN := Lib.hid hlen
      have HW := fun h1 h2 h3 => writeString_any w.heap.size w.heap.size (bv (ltL (rs.take k))) (bs (tx1 x) ++ ⟨#[13, 10]⟩) w1 h1 h2 h3
      clear hlen hs2
      go_wp2_with fail
      refine (HW HB1.out HLEN.out hbs1).mono ?_
      rintro e w2 ⟨rfl, hB2, hb3⟩
      have HN : Hid (LtRelI rs w w.heap.size (.int .i64 ((k : Int) + 1)) w2) := by
        refine ⟨k + 1, by omega, by simp, ?_, hb2.trans hb3⟩
        unfold Hid
        rw [HNX.out, bv_app, bv_app]
        refine Or.inr ?_
        rw [str_bv] at hB2
        have e : (bs (tx1 x) ++ (⟨#[13, 10]⟩ : ByteArray)).data.toList = tx1 x ++ [13, 10] := by simp [bs]
        rw [e, bv_app] at hB2
        simpa only [List.append_assoc] using hB2
      clear hB2 hb3
      go_wp2_with fail
      go_roundw
      case rel => exact HN.out
      case measure => simp [intOf]; omega
    · have k5 : decide ((k : Int) < (rs.length : Int)) = false := decide_eq_false (by omega)
      obtain rfl : k = rs.length := by omega
      have hB := HB.out
      rw [List.take_length] at hB
      go_wp2_with fail
      refine (Tryd.Builder_String_any_k w.heap.size w.heap.size (ltL rs) _ hB hbs).mono ?_
      rintro e w2 ⟨rfl, _, hb2, _⟩
      go_wp2_with fail
      go_ret
      exact ⟨rfl, hb.trans hb2⟩
end Go.Proofs.YtadjlfcdjkikgaaDoor
