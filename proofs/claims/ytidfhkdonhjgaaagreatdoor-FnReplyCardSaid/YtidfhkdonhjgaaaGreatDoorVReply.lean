/-
  The law FnReply: its walk.
-/
import Derived.Test.YtidfhkdonhjgaaaGreatDoorWDrR
import Derived.Test.YtidfhkdonhjgaaaGreatDoorXDr
import Derived.Test.YtidfhkdonhjgaaaGreatDoorWRdS
import Derived.Test.YtidfhkdonhjgaaaGreatDoorWRdI
import Derived.Test.YtidfhkdonhjgaaaGreatDoorWRTi
import Derived.Test.YtidfhkdonhjgaaaGreatDoorXOwn
import Derived.Deep.DeepCutAuto
import Derived.BigQuiet
namespace Go.Proofs.YtidfhkdonhjgaaaGreatDoor
open Go.RowKit
set_option linter.unusedVariables false
set_option linter.unusedSimpArgs false

theorem specReplyText_t (x : DReply) (w : World) (g1 : x.name.size ≤ 9223372036854775807) (g2 : x.text.size ≤ 9223372036854775807) (r : Bool) (Hr : Hid (Tells r (ReplyP x))) (t : ByteArray) (ht : Hid (txtOf r x = t)) :
    Calls Tryz.prog 13 #[.agg #[.int .i64 x.kind, .int .i64 x.n, .int .i64 x.uid, .int .i64 x.flags, .string x.name, .string x.text]] w fun e w' => e = .returned (.string t) ∧ Ext w w' := by
  rw [← ht.out]
  exact specReplyText_any x w g1 g2 r Hr
theorem implReplyText_t (x : DReply) (w : World) (hp : Pw w) (hm : MaxLen w) (g1 : x.name.size ≤ 9223372036854775807) (g2 : x.text.size ≤ 9223372036854775807) (r : Bool) (Hr : Hid (Tells r (ReplyP x))) (t : ByteArray) (ht : Hid (txtOf r x = t)) :
    Calls Tryz.prog 12 #[.agg #[.int .i64 x.kind, .int .i64 x.n, .int .i64 x.uid, .int .i64 x.flags, .string x.name, .string x.text]] w fun e w' => e = .returned (.string t) ∧ Ext w w' := by
  rw [← ht.out]
  exact implReplyText_any x w hp hm g1 g2 r Hr
theorem txt_not {x : DReply} (h : Hid (Tells true (ReplyP x))) : txtOf true x ≠ ⟨#[]⟩ := fun e => by
  have h2 : bs (txA x) = bs [] := e
  exact txt_ne (yes_of h.out) (bs_inj h2)
theorem read_in {r r2 : DReply} {ok : Bool} {t : ByteArray} (hv : Hid (Tells true (ReplyP r))) (ht : txtOf true r = t) (h : ReadU t.data.toList r2 ok) : r = r2 ∧ ok = true := by
  refine h.2 r (yes_of hv.out) ?_
  rw [← ht]
  exact (bs_data _).symm
theorem read_out {r2 : DReply} {ok : Bool} {t : ByteArray} (ht : t = ⟨#[]⟩) (h : ReadU t.data.toList r2 ok) : ok = false := by
  rcases h.1 with ⟨-, h1, h2⟩ | ⟨h1, -⟩
  · rw [ht] at h2
    exact absurd h2 (txt_ne h1)
  · exact h1
theorem read_txt {r : DReply} {s : ByteArray} (h : ReadU s.data.toList r true) : txtOf true r = s ∧ ReplyP r := by
  rcases h.1 with ⟨-, h1, h2⟩ | ⟨h1, -⟩
  · refine ⟨?_, h1⟩
    show bs (txA r) = s
    rw [h2, bs_of]
  · cases h1
set_option maxRecDepth 100000 in
set_option maxHeartbeats 16000000 in
theorem fnReply_walk (l : List Int) (a : Option Addr) (c : Nat) (w : World) : Gl w → Rd w a c 1 l.length (l.flatMap byteCells) → (∀ y ∈ l, 0 ≤ y ∧ y ≤ 255) →
    Calls Tryz.prog 4 #[.slice a l.length c] w fun e w' => e = .returned (.bool true) ∧ Below w.heap.size w w' := by
  intro hmx R hb
  have hln : l.length ≤ 9223372036854775807 := Nat.le_trans R.nc R.cm
  have HMX := Lib.hid hmx
  have HR := Lib.hid R
  have HB := Lib.hid hb
  clear R hb hmx
  obtain ⟨d, hd⟩ := boolOf (1048576 < l.length)
  have HDB := Lib.hid hd
  clear hd
  go_enter Tryz.func4, Tryz.ntmps4
  go_wp2_with fail
  refine (big_any l.length a c _ hln d HDB).mono ?_
  rintro e w1 ⟨rfl, rfl⟩
  cases d
  rotate_left
  · go_wp2_with fail
    go_ret
    exact ⟨rfl, bxt⟩
  have hl : l.length ≤ 1048576 := by have := no_of HDB.out; omega
  go_wp2_with fail
  refine (drawReplyText_any l a c _ (HR.out.ext bxt) HB.out hl).mono ?_
  rintro e w1 ⟨r, hrn, hrt, rfl, hb1⟩
  have HG := HMX
  have hU : (undef : Value) = .tuple #[] := rfl
  have hz1 := hb1.size; (try simp at hz1)
  obtain ⟨v, hv⟩ := boolOf (ReplyP r); have HV := Lib.hid hv; clear hv
  obtain ⟨t, ht⟩ : ∃ t, txtOf v r = t := ⟨_, rfl⟩
  have hts : t.size ≤ 200 := by (rw [← ht]; exact txtOf_size HV.out)
  have HT := Lib.hid ht; clear ht
  go_wp2_with fail
  refine (implReplyText_t r _ (HG.out.pw.ext bxt) (HG.out.mx.ext bxt) (by omega) (by omega) v HV t HT).mono ?_
  rintro e w2 ⟨rfl, hb2⟩
  have hz2 := hb2.size; (try simp at hz2)
  have s2_0 : w1.heap.size < w2.heap.size := (by omega)
  have c2_0_0 : w2.cell? ⟨w1.heap.size, 0, none⟩ = some (.int .i64 r.kind) := (hb2.cell (p := ⟨w1.heap.size, 0, none⟩) smx).trans kpx
  have f2_0_0 : w2.frozen? ⟨w1.heap.size, 0, none⟩ = false := (hb2.frozen (p := ⟨w1.heap.size, 0, none⟩) smx).trans kfx
  have c2_0_1 : w2.cell? ⟨w1.heap.size, 1, none⟩ = some (.int .i64 r.n) := (hb2.cell (p := ⟨w1.heap.size, 1, none⟩) smx).trans kpx
  have f2_0_1 : w2.frozen? ⟨w1.heap.size, 1, none⟩ = false := (hb2.frozen (p := ⟨w1.heap.size, 1, none⟩) smx).trans kfx
  have c2_0_2 : w2.cell? ⟨w1.heap.size, 2, none⟩ = some (.int .i64 r.uid) := (hb2.cell (p := ⟨w1.heap.size, 2, none⟩) smx).trans kpx
  have f2_0_2 : w2.frozen? ⟨w1.heap.size, 2, none⟩ = false := (hb2.frozen (p := ⟨w1.heap.size, 2, none⟩) smx).trans kfx
  have c2_0_3 : w2.cell? ⟨w1.heap.size, 3, none⟩ = some (.int .i64 r.flags) := (hb2.cell (p := ⟨w1.heap.size, 3, none⟩) smx).trans kpx
  have f2_0_3 : w2.frozen? ⟨w1.heap.size, 3, none⟩ = false := (hb2.frozen (p := ⟨w1.heap.size, 3, none⟩) smx).trans kfx
  have c2_0_4 : w2.cell? ⟨w1.heap.size, 4, none⟩ = some (.string r.name) := (hb2.cell (p := ⟨w1.heap.size, 4, none⟩) smx).trans kpx
  have f2_0_4 : w2.frozen? ⟨w1.heap.size, 4, none⟩ = false := (hb2.frozen (p := ⟨w1.heap.size, 4, none⟩) smx).trans kfx
  have c2_0_5 : w2.cell? ⟨w1.heap.size, 5, none⟩ = some (.string r.text) := (hb2.cell (p := ⟨w1.heap.size, 5, none⟩) smx).trans kpx
  have f2_0_5 : w2.frozen? ⟨w1.heap.size, 5, none⟩ = false := (hb2.frozen (p := ⟨w1.heap.size, 5, none⟩) smx).trans kfx
  have HG2 : Hid (Gl w2) := Lib.hid (HG.out.ext bxt)
  cases v
  · skip
    have e1 : t.toList.isEmpty = true := by (rw [str_empty]; exact decide_eq_true HT.out.symm)
    go_wp2_with fail
    refine (specReplyText_t r _ (by omega) (by omega) false HV t HT).mono ?_
    rintro e w3 ⟨rfl, hb3⟩
    have hz3 := hb3.size; (try simp at hz3)
    have s3_0 : w1.heap.size < w3.heap.size := (by omega)
    have c3_0_0 : w3.cell? ⟨w1.heap.size, 0, none⟩ = some (.int .i64 r.kind) := (hb3.cell (p := ⟨w1.heap.size, 0, none⟩) smx).trans kpx
    have f3_0_0 : w3.frozen? ⟨w1.heap.size, 0, none⟩ = false := (hb3.frozen (p := ⟨w1.heap.size, 0, none⟩) smx).trans kfx
    have c3_0_1 : w3.cell? ⟨w1.heap.size, 1, none⟩ = some (.int .i64 r.n) := (hb3.cell (p := ⟨w1.heap.size, 1, none⟩) smx).trans kpx
    have f3_0_1 : w3.frozen? ⟨w1.heap.size, 1, none⟩ = false := (hb3.frozen (p := ⟨w1.heap.size, 1, none⟩) smx).trans kfx
    have c3_0_2 : w3.cell? ⟨w1.heap.size, 2, none⟩ = some (.int .i64 r.uid) := (hb3.cell (p := ⟨w1.heap.size, 2, none⟩) smx).trans kpx
    have f3_0_2 : w3.frozen? ⟨w1.heap.size, 2, none⟩ = false := (hb3.frozen (p := ⟨w1.heap.size, 2, none⟩) smx).trans kfx
    have c3_0_3 : w3.cell? ⟨w1.heap.size, 3, none⟩ = some (.int .i64 r.flags) := (hb3.cell (p := ⟨w1.heap.size, 3, none⟩) smx).trans kpx
    have f3_0_3 : w3.frozen? ⟨w1.heap.size, 3, none⟩ = false := (hb3.frozen (p := ⟨w1.heap.size, 3, none⟩) smx).trans kfx
    have c3_0_4 : w3.cell? ⟨w1.heap.size, 4, none⟩ = some (.string r.name) := (hb3.cell (p := ⟨w1.heap.size, 4, none⟩) smx).trans kpx
    have f3_0_4 : w3.frozen? ⟨w1.heap.size, 4, none⟩ = false := (hb3.frozen (p := ⟨w1.heap.size, 4, none⟩) smx).trans kfx
    have c3_0_5 : w3.cell? ⟨w1.heap.size, 5, none⟩ = some (.string r.text) := (hb3.cell (p := ⟨w1.heap.size, 5, none⟩) smx).trans kpx
    have f3_0_5 : w3.frozen? ⟨w1.heap.size, 5, none⟩ = false := (hb3.frozen (p := ⟨w1.heap.size, 5, none⟩) smx).trans kfx
    go_wp2_with fail
    refine (implReplyOk_any r _ (HG2.out.mx.ext bxt) (by omega) (by omega) false HV).mono ?_
    rintro e w4 ⟨rfl, hb4⟩
    have hz4 := hb4.size; (try simp at hz4)
    have s4_0 : w1.heap.size < w4.heap.size := (by omega)
    have c4_0_0 : w4.cell? ⟨w1.heap.size, 0, none⟩ = some (.int .i64 r.kind) := (hb4.cell (p := ⟨w1.heap.size, 0, none⟩) smx).trans kpx
    have f4_0_0 : w4.frozen? ⟨w1.heap.size, 0, none⟩ = false := (hb4.frozen (p := ⟨w1.heap.size, 0, none⟩) smx).trans kfx
    have c4_0_1 : w4.cell? ⟨w1.heap.size, 1, none⟩ = some (.int .i64 r.n) := (hb4.cell (p := ⟨w1.heap.size, 1, none⟩) smx).trans kpx
    have f4_0_1 : w4.frozen? ⟨w1.heap.size, 1, none⟩ = false := (hb4.frozen (p := ⟨w1.heap.size, 1, none⟩) smx).trans kfx
    have c4_0_2 : w4.cell? ⟨w1.heap.size, 2, none⟩ = some (.int .i64 r.uid) := (hb4.cell (p := ⟨w1.heap.size, 2, none⟩) smx).trans kpx
    have f4_0_2 : w4.frozen? ⟨w1.heap.size, 2, none⟩ = false := (hb4.frozen (p := ⟨w1.heap.size, 2, none⟩) smx).trans kfx
    have c4_0_3 : w4.cell? ⟨w1.heap.size, 3, none⟩ = some (.int .i64 r.flags) := (hb4.cell (p := ⟨w1.heap.size, 3, none⟩) smx).trans kpx
    have f4_0_3 : w4.frozen? ⟨w1.heap.size, 3, none⟩ = false := (hb4.frozen (p := ⟨w1.heap.size, 3, none⟩) smx).trans kfx
    have c4_0_4 : w4.cell? ⟨w1.heap.size, 4, none⟩ = some (.string r.name) := (hb4.cell (p := ⟨w1.heap.size, 4, none⟩) smx).trans kpx
    have f4_0_4 : w4.frozen? ⟨w1.heap.size, 4, none⟩ = false := (hb4.frozen (p := ⟨w1.heap.size, 4, none⟩) smx).trans kfx
    have c4_0_5 : w4.cell? ⟨w1.heap.size, 5, none⟩ = some (.string r.text) := (hb4.cell (p := ⟨w1.heap.size, 5, none⟩) smx).trans kpx
    have f4_0_5 : w4.frozen? ⟨w1.heap.size, 5, none⟩ = false := (hb4.frozen (p := ⟨w1.heap.size, 5, none⟩) smx).trans kfx
    go_wp2_with fail
    refine (implReadReply_any t _ (HG2.out.ext bxt) (by omega)).mono ?_
    rintro e w5 ⟨r2, o2, rfl, hr2, hb5, hn2, ht2⟩
    have hz5 := hb5.size; (try simp at hz5)
    have s5_0 : w1.heap.size < w5.heap.size := (by omega)
    have c5_0_0 : w5.cell? ⟨w1.heap.size, 0, none⟩ = some (.int .i64 r.kind) := (hb5.cell (p := ⟨w1.heap.size, 0, none⟩) smx).trans kpx
    have f5_0_0 : w5.frozen? ⟨w1.heap.size, 0, none⟩ = false := (hb5.frozen (p := ⟨w1.heap.size, 0, none⟩) smx).trans kfx
    have c5_0_1 : w5.cell? ⟨w1.heap.size, 1, none⟩ = some (.int .i64 r.n) := (hb5.cell (p := ⟨w1.heap.size, 1, none⟩) smx).trans kpx
    have f5_0_1 : w5.frozen? ⟨w1.heap.size, 1, none⟩ = false := (hb5.frozen (p := ⟨w1.heap.size, 1, none⟩) smx).trans kfx
    have c5_0_2 : w5.cell? ⟨w1.heap.size, 2, none⟩ = some (.int .i64 r.uid) := (hb5.cell (p := ⟨w1.heap.size, 2, none⟩) smx).trans kpx
    have f5_0_2 : w5.frozen? ⟨w1.heap.size, 2, none⟩ = false := (hb5.frozen (p := ⟨w1.heap.size, 2, none⟩) smx).trans kfx
    have c5_0_3 : w5.cell? ⟨w1.heap.size, 3, none⟩ = some (.int .i64 r.flags) := (hb5.cell (p := ⟨w1.heap.size, 3, none⟩) smx).trans kpx
    have f5_0_3 : w5.frozen? ⟨w1.heap.size, 3, none⟩ = false := (hb5.frozen (p := ⟨w1.heap.size, 3, none⟩) smx).trans kfx
    have c5_0_4 : w5.cell? ⟨w1.heap.size, 4, none⟩ = some (.string r.name) := (hb5.cell (p := ⟨w1.heap.size, 4, none⟩) smx).trans kpx
    have f5_0_4 : w5.frozen? ⟨w1.heap.size, 4, none⟩ = false := (hb5.frozen (p := ⟨w1.heap.size, 4, none⟩) smx).trans kfx
    have c5_0_5 : w5.cell? ⟨w1.heap.size, 5, none⟩ = some (.string r.text) := (hb5.cell (p := ⟨w1.heap.size, 5, none⟩) smx).trans kpx
    have f5_0_5 : w5.frozen? ⟨w1.heap.size, 5, none⟩ = false := (hb5.frozen (p := ⟨w1.heap.size, 5, none⟩) smx).trans kfx
    obtain rfl := read_out HT.out.symm hr2
    clear hr2
    go_wp2_with fail
    refine (drawReadReply_any l a c _ (HR.out.ext bxt) HB.out hl).mono ?_
    rintro e w6 ⟨s, hs, rfl, hb6⟩
    have hz6 := hb6.size; (try simp at hz6)
    have s6_0 : w1.heap.size < w6.heap.size := (by omega)
    have c6_0_0 : w6.cell? ⟨w1.heap.size, 0, none⟩ = some (.int .i64 r.kind) := (hb6.cell (p := ⟨w1.heap.size, 0, none⟩) smx).trans kpx
    have f6_0_0 : w6.frozen? ⟨w1.heap.size, 0, none⟩ = false := (hb6.frozen (p := ⟨w1.heap.size, 0, none⟩) smx).trans kfx
    have c6_0_1 : w6.cell? ⟨w1.heap.size, 1, none⟩ = some (.int .i64 r.n) := (hb6.cell (p := ⟨w1.heap.size, 1, none⟩) smx).trans kpx
    have f6_0_1 : w6.frozen? ⟨w1.heap.size, 1, none⟩ = false := (hb6.frozen (p := ⟨w1.heap.size, 1, none⟩) smx).trans kfx
    have c6_0_2 : w6.cell? ⟨w1.heap.size, 2, none⟩ = some (.int .i64 r.uid) := (hb6.cell (p := ⟨w1.heap.size, 2, none⟩) smx).trans kpx
    have f6_0_2 : w6.frozen? ⟨w1.heap.size, 2, none⟩ = false := (hb6.frozen (p := ⟨w1.heap.size, 2, none⟩) smx).trans kfx
    have c6_0_3 : w6.cell? ⟨w1.heap.size, 3, none⟩ = some (.int .i64 r.flags) := (hb6.cell (p := ⟨w1.heap.size, 3, none⟩) smx).trans kpx
    have f6_0_3 : w6.frozen? ⟨w1.heap.size, 3, none⟩ = false := (hb6.frozen (p := ⟨w1.heap.size, 3, none⟩) smx).trans kfx
    have c6_0_4 : w6.cell? ⟨w1.heap.size, 4, none⟩ = some (.string r.name) := (hb6.cell (p := ⟨w1.heap.size, 4, none⟩) smx).trans kpx
    have f6_0_4 : w6.frozen? ⟨w1.heap.size, 4, none⟩ = false := (hb6.frozen (p := ⟨w1.heap.size, 4, none⟩) smx).trans kfx
    have c6_0_5 : w6.cell? ⟨w1.heap.size, 5, none⟩ = some (.string r.text) := (hb6.cell (p := ⟨w1.heap.size, 5, none⟩) smx).trans kpx
    have f6_0_5 : w6.frozen? ⟨w1.heap.size, 5, none⟩ = false := (hb6.frozen (p := ⟨w1.heap.size, 5, none⟩) smx).trans kfx
    have s6_1 : w5.heap.size < w6.heap.size := (by omega)
    have c6_1_0 : w6.cell? ⟨w5.heap.size, 0, none⟩ = some (.int .i64 r2.kind) := (hb6.cell (p := ⟨w5.heap.size, 0, none⟩) smx).trans kpx
    have f6_1_0 : w6.frozen? ⟨w5.heap.size, 0, none⟩ = false := (hb6.frozen (p := ⟨w5.heap.size, 0, none⟩) smx).trans kfx
    have c6_1_1 : w6.cell? ⟨w5.heap.size, 1, none⟩ = some (.int .i64 r2.n) := (hb6.cell (p := ⟨w5.heap.size, 1, none⟩) smx).trans kpx
    have f6_1_1 : w6.frozen? ⟨w5.heap.size, 1, none⟩ = false := (hb6.frozen (p := ⟨w5.heap.size, 1, none⟩) smx).trans kfx
    have c6_1_2 : w6.cell? ⟨w5.heap.size, 2, none⟩ = some (.int .i64 r2.uid) := (hb6.cell (p := ⟨w5.heap.size, 2, none⟩) smx).trans kpx
    have f6_1_2 : w6.frozen? ⟨w5.heap.size, 2, none⟩ = false := (hb6.frozen (p := ⟨w5.heap.size, 2, none⟩) smx).trans kfx
    have c6_1_3 : w6.cell? ⟨w5.heap.size, 3, none⟩ = some (.int .i64 r2.flags) := (hb6.cell (p := ⟨w5.heap.size, 3, none⟩) smx).trans kpx
    have f6_1_3 : w6.frozen? ⟨w5.heap.size, 3, none⟩ = false := (hb6.frozen (p := ⟨w5.heap.size, 3, none⟩) smx).trans kfx
    have c6_1_4 : w6.cell? ⟨w5.heap.size, 4, none⟩ = some (.string r2.name) := (hb6.cell (p := ⟨w5.heap.size, 4, none⟩) smx).trans kpx
    have f6_1_4 : w6.frozen? ⟨w5.heap.size, 4, none⟩ = false := (hb6.frozen (p := ⟨w5.heap.size, 4, none⟩) smx).trans kfx
    have c6_1_5 : w6.cell? ⟨w5.heap.size, 5, none⟩ = some (.string r2.text) := (hb6.cell (p := ⟨w5.heap.size, 5, none⟩) smx).trans kpx
    have f6_1_5 : w6.frozen? ⟨w5.heap.size, 5, none⟩ = false := (hb6.frozen (p := ⟨w5.heap.size, 5, none⟩) smx).trans kfx
    go_wp2_with fail
    refine (implReadReply_any s _ (HG2.out.ext bxt) (by omega)).mono ?_
    rintro e w7 ⟨y, oy, rfl, hy, hb7, hny, hty⟩
    have hz7 := hb7.size; (try simp at hz7)
    have s7_0 : w1.heap.size < w7.heap.size := (by omega)
    have c7_0_0 : w7.cell? ⟨w1.heap.size, 0, none⟩ = some (.int .i64 r.kind) := (hb7.cell (p := ⟨w1.heap.size, 0, none⟩) smx).trans kpx
    have f7_0_0 : w7.frozen? ⟨w1.heap.size, 0, none⟩ = false := (hb7.frozen (p := ⟨w1.heap.size, 0, none⟩) smx).trans kfx
    have c7_0_1 : w7.cell? ⟨w1.heap.size, 1, none⟩ = some (.int .i64 r.n) := (hb7.cell (p := ⟨w1.heap.size, 1, none⟩) smx).trans kpx
    have f7_0_1 : w7.frozen? ⟨w1.heap.size, 1, none⟩ = false := (hb7.frozen (p := ⟨w1.heap.size, 1, none⟩) smx).trans kfx
    have c7_0_2 : w7.cell? ⟨w1.heap.size, 2, none⟩ = some (.int .i64 r.uid) := (hb7.cell (p := ⟨w1.heap.size, 2, none⟩) smx).trans kpx
    have f7_0_2 : w7.frozen? ⟨w1.heap.size, 2, none⟩ = false := (hb7.frozen (p := ⟨w1.heap.size, 2, none⟩) smx).trans kfx
    have c7_0_3 : w7.cell? ⟨w1.heap.size, 3, none⟩ = some (.int .i64 r.flags) := (hb7.cell (p := ⟨w1.heap.size, 3, none⟩) smx).trans kpx
    have f7_0_3 : w7.frozen? ⟨w1.heap.size, 3, none⟩ = false := (hb7.frozen (p := ⟨w1.heap.size, 3, none⟩) smx).trans kfx
    have c7_0_4 : w7.cell? ⟨w1.heap.size, 4, none⟩ = some (.string r.name) := (hb7.cell (p := ⟨w1.heap.size, 4, none⟩) smx).trans kpx
    have f7_0_4 : w7.frozen? ⟨w1.heap.size, 4, none⟩ = false := (hb7.frozen (p := ⟨w1.heap.size, 4, none⟩) smx).trans kfx
    have c7_0_5 : w7.cell? ⟨w1.heap.size, 5, none⟩ = some (.string r.text) := (hb7.cell (p := ⟨w1.heap.size, 5, none⟩) smx).trans kpx
    have f7_0_5 : w7.frozen? ⟨w1.heap.size, 5, none⟩ = false := (hb7.frozen (p := ⟨w1.heap.size, 5, none⟩) smx).trans kfx
    have s7_1 : w5.heap.size < w7.heap.size := (by omega)
    have c7_1_0 : w7.cell? ⟨w5.heap.size, 0, none⟩ = some (.int .i64 r2.kind) := (hb7.cell (p := ⟨w5.heap.size, 0, none⟩) smx).trans kpx
    have f7_1_0 : w7.frozen? ⟨w5.heap.size, 0, none⟩ = false := (hb7.frozen (p := ⟨w5.heap.size, 0, none⟩) smx).trans kfx
    have c7_1_1 : w7.cell? ⟨w5.heap.size, 1, none⟩ = some (.int .i64 r2.n) := (hb7.cell (p := ⟨w5.heap.size, 1, none⟩) smx).trans kpx
    have f7_1_1 : w7.frozen? ⟨w5.heap.size, 1, none⟩ = false := (hb7.frozen (p := ⟨w5.heap.size, 1, none⟩) smx).trans kfx
    have c7_1_2 : w7.cell? ⟨w5.heap.size, 2, none⟩ = some (.int .i64 r2.uid) := (hb7.cell (p := ⟨w5.heap.size, 2, none⟩) smx).trans kpx
    have f7_1_2 : w7.frozen? ⟨w5.heap.size, 2, none⟩ = false := (hb7.frozen (p := ⟨w5.heap.size, 2, none⟩) smx).trans kfx
    have c7_1_3 : w7.cell? ⟨w5.heap.size, 3, none⟩ = some (.int .i64 r2.flags) := (hb7.cell (p := ⟨w5.heap.size, 3, none⟩) smx).trans kpx
    have f7_1_3 : w7.frozen? ⟨w5.heap.size, 3, none⟩ = false := (hb7.frozen (p := ⟨w5.heap.size, 3, none⟩) smx).trans kfx
    have c7_1_4 : w7.cell? ⟨w5.heap.size, 4, none⟩ = some (.string r2.name) := (hb7.cell (p := ⟨w5.heap.size, 4, none⟩) smx).trans kpx
    have f7_1_4 : w7.frozen? ⟨w5.heap.size, 4, none⟩ = false := (hb7.frozen (p := ⟨w5.heap.size, 4, none⟩) smx).trans kfx
    have c7_1_5 : w7.cell? ⟨w5.heap.size, 5, none⟩ = some (.string r2.text) := (hb7.cell (p := ⟨w5.heap.size, 5, none⟩) smx).trans kpx
    have f7_1_5 : w7.frozen? ⟨w5.heap.size, 5, none⟩ = false := (hb7.frozen (p := ⟨w5.heap.size, 5, none⟩) smx).trans kfx
    go_wp2_with fail
    refine (specReadReply_any s _ (by omega)).mono ?_
    rintro e w8 ⟨z, oz, rfl, hz, hb8, hnz, htz⟩
    have hz8 := hb8.size; (try simp at hz8)
    have s8_0 : w1.heap.size < w8.heap.size := (by omega)
    have c8_0_0 : w8.cell? ⟨w1.heap.size, 0, none⟩ = some (.int .i64 r.kind) := (hb8.cell (p := ⟨w1.heap.size, 0, none⟩) smx).trans kpx
    have f8_0_0 : w8.frozen? ⟨w1.heap.size, 0, none⟩ = false := (hb8.frozen (p := ⟨w1.heap.size, 0, none⟩) smx).trans kfx
    have c8_0_1 : w8.cell? ⟨w1.heap.size, 1, none⟩ = some (.int .i64 r.n) := (hb8.cell (p := ⟨w1.heap.size, 1, none⟩) smx).trans kpx
    have f8_0_1 : w8.frozen? ⟨w1.heap.size, 1, none⟩ = false := (hb8.frozen (p := ⟨w1.heap.size, 1, none⟩) smx).trans kfx
    have c8_0_2 : w8.cell? ⟨w1.heap.size, 2, none⟩ = some (.int .i64 r.uid) := (hb8.cell (p := ⟨w1.heap.size, 2, none⟩) smx).trans kpx
    have f8_0_2 : w8.frozen? ⟨w1.heap.size, 2, none⟩ = false := (hb8.frozen (p := ⟨w1.heap.size, 2, none⟩) smx).trans kfx
    have c8_0_3 : w8.cell? ⟨w1.heap.size, 3, none⟩ = some (.int .i64 r.flags) := (hb8.cell (p := ⟨w1.heap.size, 3, none⟩) smx).trans kpx
    have f8_0_3 : w8.frozen? ⟨w1.heap.size, 3, none⟩ = false := (hb8.frozen (p := ⟨w1.heap.size, 3, none⟩) smx).trans kfx
    have c8_0_4 : w8.cell? ⟨w1.heap.size, 4, none⟩ = some (.string r.name) := (hb8.cell (p := ⟨w1.heap.size, 4, none⟩) smx).trans kpx
    have f8_0_4 : w8.frozen? ⟨w1.heap.size, 4, none⟩ = false := (hb8.frozen (p := ⟨w1.heap.size, 4, none⟩) smx).trans kfx
    have c8_0_5 : w8.cell? ⟨w1.heap.size, 5, none⟩ = some (.string r.text) := (hb8.cell (p := ⟨w1.heap.size, 5, none⟩) smx).trans kpx
    have f8_0_5 : w8.frozen? ⟨w1.heap.size, 5, none⟩ = false := (hb8.frozen (p := ⟨w1.heap.size, 5, none⟩) smx).trans kfx
    have s8_1 : w5.heap.size < w8.heap.size := (by omega)
    have c8_1_0 : w8.cell? ⟨w5.heap.size, 0, none⟩ = some (.int .i64 r2.kind) := (hb8.cell (p := ⟨w5.heap.size, 0, none⟩) smx).trans kpx
    have f8_1_0 : w8.frozen? ⟨w5.heap.size, 0, none⟩ = false := (hb8.frozen (p := ⟨w5.heap.size, 0, none⟩) smx).trans kfx
    have c8_1_1 : w8.cell? ⟨w5.heap.size, 1, none⟩ = some (.int .i64 r2.n) := (hb8.cell (p := ⟨w5.heap.size, 1, none⟩) smx).trans kpx
    have f8_1_1 : w8.frozen? ⟨w5.heap.size, 1, none⟩ = false := (hb8.frozen (p := ⟨w5.heap.size, 1, none⟩) smx).trans kfx
    have c8_1_2 : w8.cell? ⟨w5.heap.size, 2, none⟩ = some (.int .i64 r2.uid) := (hb8.cell (p := ⟨w5.heap.size, 2, none⟩) smx).trans kpx
    have f8_1_2 : w8.frozen? ⟨w5.heap.size, 2, none⟩ = false := (hb8.frozen (p := ⟨w5.heap.size, 2, none⟩) smx).trans kfx
    have c8_1_3 : w8.cell? ⟨w5.heap.size, 3, none⟩ = some (.int .i64 r2.flags) := (hb8.cell (p := ⟨w5.heap.size, 3, none⟩) smx).trans kpx
    have f8_1_3 : w8.frozen? ⟨w5.heap.size, 3, none⟩ = false := (hb8.frozen (p := ⟨w5.heap.size, 3, none⟩) smx).trans kfx
    have c8_1_4 : w8.cell? ⟨w5.heap.size, 4, none⟩ = some (.string r2.name) := (hb8.cell (p := ⟨w5.heap.size, 4, none⟩) smx).trans kpx
    have f8_1_4 : w8.frozen? ⟨w5.heap.size, 4, none⟩ = false := (hb8.frozen (p := ⟨w5.heap.size, 4, none⟩) smx).trans kfx
    have c8_1_5 : w8.cell? ⟨w5.heap.size, 5, none⟩ = some (.string r2.text) := (hb8.cell (p := ⟨w5.heap.size, 5, none⟩) smx).trans kpx
    have f8_1_5 : w8.frozen? ⟨w5.heap.size, 5, none⟩ = false := (hb8.frozen (p := ⟨w5.heap.size, 5, none⟩) smx).trans kfx
    have s8_2 : w7.heap.size < w8.heap.size := (by omega)
    have c8_2_0 : w8.cell? ⟨w7.heap.size, 0, none⟩ = some (.int .i64 y.kind) := (hb8.cell (p := ⟨w7.heap.size, 0, none⟩) smx).trans kpx
    have f8_2_0 : w8.frozen? ⟨w7.heap.size, 0, none⟩ = false := (hb8.frozen (p := ⟨w7.heap.size, 0, none⟩) smx).trans kfx
    have c8_2_1 : w8.cell? ⟨w7.heap.size, 1, none⟩ = some (.int .i64 y.n) := (hb8.cell (p := ⟨w7.heap.size, 1, none⟩) smx).trans kpx
    have f8_2_1 : w8.frozen? ⟨w7.heap.size, 1, none⟩ = false := (hb8.frozen (p := ⟨w7.heap.size, 1, none⟩) smx).trans kfx
    have c8_2_2 : w8.cell? ⟨w7.heap.size, 2, none⟩ = some (.int .i64 y.uid) := (hb8.cell (p := ⟨w7.heap.size, 2, none⟩) smx).trans kpx
    have f8_2_2 : w8.frozen? ⟨w7.heap.size, 2, none⟩ = false := (hb8.frozen (p := ⟨w7.heap.size, 2, none⟩) smx).trans kfx
    have c8_2_3 : w8.cell? ⟨w7.heap.size, 3, none⟩ = some (.int .i64 y.flags) := (hb8.cell (p := ⟨w7.heap.size, 3, none⟩) smx).trans kpx
    have f8_2_3 : w8.frozen? ⟨w7.heap.size, 3, none⟩ = false := (hb8.frozen (p := ⟨w7.heap.size, 3, none⟩) smx).trans kfx
    have c8_2_4 : w8.cell? ⟨w7.heap.size, 4, none⟩ = some (.string y.name) := (hb8.cell (p := ⟨w7.heap.size, 4, none⟩) smx).trans kpx
    have f8_2_4 : w8.frozen? ⟨w7.heap.size, 4, none⟩ = false := (hb8.frozen (p := ⟨w7.heap.size, 4, none⟩) smx).trans kfx
    have c8_2_5 : w8.cell? ⟨w7.heap.size, 5, none⟩ = some (.string y.text) := (hb8.cell (p := ⟨w7.heap.size, 5, none⟩) smx).trans kpx
    have f8_2_5 : w8.frozen? ⟨w7.heap.size, 5, none⟩ = false := (hb8.frozen (p := ⟨w7.heap.size, 5, none⟩) smx).trans kfx
    obtain ⟨rfl, rfl⟩ := read_eq hy hz
    cases oz
    · skip
      clear hy hz
      go_wp2_with fail
      go_ret
      exact ⟨rfl, bxt⟩
    · skip
      obtain ⟨hyt, hyp⟩ := read_txt hy
      have HYT := Lib.hid hyt; have HYP : Hid (Tells true (ReplyP z)) := Lib.hid ⟨fun _ => hyp, fun _ => rfl⟩; clear hyt hyp hy hz
      go_wp2_with fail
      refine (implReplyText_t z _ (HG2.out.pw.ext bxt) (HG2.out.mx.ext bxt) (by omega) (by omega) true HYP s HYT).mono ?_
      rintro e w9 ⟨rfl, hb9⟩
      go_wp2_with fail
      go_ret
      exact ⟨rfl, bxt⟩
  · skip
    have e1 : t.toList.isEmpty = false := by (rw [str_empty]; exact decide_eq_false (fun e => txt_not HV (HT.out.trans e)))
    go_wp2_with fail
    refine (specReplyText_t r _ (by omega) (by omega) true HV t HT).mono ?_
    rintro e w10 ⟨rfl, hb10⟩
    have hz10 := hb10.size; (try simp at hz10)
    have s10_0 : w1.heap.size < w10.heap.size := (by omega)
    have c10_0_0 : w10.cell? ⟨w1.heap.size, 0, none⟩ = some (.int .i64 r.kind) := (hb10.cell (p := ⟨w1.heap.size, 0, none⟩) smx).trans kpx
    have f10_0_0 : w10.frozen? ⟨w1.heap.size, 0, none⟩ = false := (hb10.frozen (p := ⟨w1.heap.size, 0, none⟩) smx).trans kfx
    have c10_0_1 : w10.cell? ⟨w1.heap.size, 1, none⟩ = some (.int .i64 r.n) := (hb10.cell (p := ⟨w1.heap.size, 1, none⟩) smx).trans kpx
    have f10_0_1 : w10.frozen? ⟨w1.heap.size, 1, none⟩ = false := (hb10.frozen (p := ⟨w1.heap.size, 1, none⟩) smx).trans kfx
    have c10_0_2 : w10.cell? ⟨w1.heap.size, 2, none⟩ = some (.int .i64 r.uid) := (hb10.cell (p := ⟨w1.heap.size, 2, none⟩) smx).trans kpx
    have f10_0_2 : w10.frozen? ⟨w1.heap.size, 2, none⟩ = false := (hb10.frozen (p := ⟨w1.heap.size, 2, none⟩) smx).trans kfx
    have c10_0_3 : w10.cell? ⟨w1.heap.size, 3, none⟩ = some (.int .i64 r.flags) := (hb10.cell (p := ⟨w1.heap.size, 3, none⟩) smx).trans kpx
    have f10_0_3 : w10.frozen? ⟨w1.heap.size, 3, none⟩ = false := (hb10.frozen (p := ⟨w1.heap.size, 3, none⟩) smx).trans kfx
    have c10_0_4 : w10.cell? ⟨w1.heap.size, 4, none⟩ = some (.string r.name) := (hb10.cell (p := ⟨w1.heap.size, 4, none⟩) smx).trans kpx
    have f10_0_4 : w10.frozen? ⟨w1.heap.size, 4, none⟩ = false := (hb10.frozen (p := ⟨w1.heap.size, 4, none⟩) smx).trans kfx
    have c10_0_5 : w10.cell? ⟨w1.heap.size, 5, none⟩ = some (.string r.text) := (hb10.cell (p := ⟨w1.heap.size, 5, none⟩) smx).trans kpx
    have f10_0_5 : w10.frozen? ⟨w1.heap.size, 5, none⟩ = false := (hb10.frozen (p := ⟨w1.heap.size, 5, none⟩) smx).trans kfx
    go_wp2_with fail
    refine (implReplyOk_any r _ (HG2.out.mx.ext bxt) (by omega) (by omega) true HV).mono ?_
    rintro e w11 ⟨rfl, hb11⟩
    have hz11 := hb11.size; (try simp at hz11)
    have s11_0 : w1.heap.size < w11.heap.size := (by omega)
    have c11_0_0 : w11.cell? ⟨w1.heap.size, 0, none⟩ = some (.int .i64 r.kind) := (hb11.cell (p := ⟨w1.heap.size, 0, none⟩) smx).trans kpx
    have f11_0_0 : w11.frozen? ⟨w1.heap.size, 0, none⟩ = false := (hb11.frozen (p := ⟨w1.heap.size, 0, none⟩) smx).trans kfx
    have c11_0_1 : w11.cell? ⟨w1.heap.size, 1, none⟩ = some (.int .i64 r.n) := (hb11.cell (p := ⟨w1.heap.size, 1, none⟩) smx).trans kpx
    have f11_0_1 : w11.frozen? ⟨w1.heap.size, 1, none⟩ = false := (hb11.frozen (p := ⟨w1.heap.size, 1, none⟩) smx).trans kfx
    have c11_0_2 : w11.cell? ⟨w1.heap.size, 2, none⟩ = some (.int .i64 r.uid) := (hb11.cell (p := ⟨w1.heap.size, 2, none⟩) smx).trans kpx
    have f11_0_2 : w11.frozen? ⟨w1.heap.size, 2, none⟩ = false := (hb11.frozen (p := ⟨w1.heap.size, 2, none⟩) smx).trans kfx
    have c11_0_3 : w11.cell? ⟨w1.heap.size, 3, none⟩ = some (.int .i64 r.flags) := (hb11.cell (p := ⟨w1.heap.size, 3, none⟩) smx).trans kpx
    have f11_0_3 : w11.frozen? ⟨w1.heap.size, 3, none⟩ = false := (hb11.frozen (p := ⟨w1.heap.size, 3, none⟩) smx).trans kfx
    have c11_0_4 : w11.cell? ⟨w1.heap.size, 4, none⟩ = some (.string r.name) := (hb11.cell (p := ⟨w1.heap.size, 4, none⟩) smx).trans kpx
    have f11_0_4 : w11.frozen? ⟨w1.heap.size, 4, none⟩ = false := (hb11.frozen (p := ⟨w1.heap.size, 4, none⟩) smx).trans kfx
    have c11_0_5 : w11.cell? ⟨w1.heap.size, 5, none⟩ = some (.string r.text) := (hb11.cell (p := ⟨w1.heap.size, 5, none⟩) smx).trans kpx
    have f11_0_5 : w11.frozen? ⟨w1.heap.size, 5, none⟩ = false := (hb11.frozen (p := ⟨w1.heap.size, 5, none⟩) smx).trans kfx
    go_wp2_with fail
    refine (implReadReply_any t _ (HG2.out.ext bxt) (by omega)).mono ?_
    rintro e w12 ⟨r2, o2, rfl, hr2, hb12, hn2, ht2⟩
    have hz12 := hb12.size; (try simp at hz12)
    have s12_0 : w1.heap.size < w12.heap.size := (by omega)
    have c12_0_0 : w12.cell? ⟨w1.heap.size, 0, none⟩ = some (.int .i64 r.kind) := (hb12.cell (p := ⟨w1.heap.size, 0, none⟩) smx).trans kpx
    have f12_0_0 : w12.frozen? ⟨w1.heap.size, 0, none⟩ = false := (hb12.frozen (p := ⟨w1.heap.size, 0, none⟩) smx).trans kfx
    have c12_0_1 : w12.cell? ⟨w1.heap.size, 1, none⟩ = some (.int .i64 r.n) := (hb12.cell (p := ⟨w1.heap.size, 1, none⟩) smx).trans kpx
    have f12_0_1 : w12.frozen? ⟨w1.heap.size, 1, none⟩ = false := (hb12.frozen (p := ⟨w1.heap.size, 1, none⟩) smx).trans kfx
    have c12_0_2 : w12.cell? ⟨w1.heap.size, 2, none⟩ = some (.int .i64 r.uid) := (hb12.cell (p := ⟨w1.heap.size, 2, none⟩) smx).trans kpx
    have f12_0_2 : w12.frozen? ⟨w1.heap.size, 2, none⟩ = false := (hb12.frozen (p := ⟨w1.heap.size, 2, none⟩) smx).trans kfx
    have c12_0_3 : w12.cell? ⟨w1.heap.size, 3, none⟩ = some (.int .i64 r.flags) := (hb12.cell (p := ⟨w1.heap.size, 3, none⟩) smx).trans kpx
    have f12_0_3 : w12.frozen? ⟨w1.heap.size, 3, none⟩ = false := (hb12.frozen (p := ⟨w1.heap.size, 3, none⟩) smx).trans kfx
    have c12_0_4 : w12.cell? ⟨w1.heap.size, 4, none⟩ = some (.string r.name) := (hb12.cell (p := ⟨w1.heap.size, 4, none⟩) smx).trans kpx
    have f12_0_4 : w12.frozen? ⟨w1.heap.size, 4, none⟩ = false := (hb12.frozen (p := ⟨w1.heap.size, 4, none⟩) smx).trans kfx
    have c12_0_5 : w12.cell? ⟨w1.heap.size, 5, none⟩ = some (.string r.text) := (hb12.cell (p := ⟨w1.heap.size, 5, none⟩) smx).trans kpx
    have f12_0_5 : w12.frozen? ⟨w1.heap.size, 5, none⟩ = false := (hb12.frozen (p := ⟨w1.heap.size, 5, none⟩) smx).trans kfx
    obtain ⟨rfl, rfl⟩ := read_in HV HT.out hr2
    clear hr2 hn2 ht2
    go_wp2_with fail
    refine (drawReadReply_any l a c _ (HR.out.ext bxt) HB.out hl).mono ?_
    rintro e w13 ⟨s, hs, rfl, hb13⟩
    have hz13 := hb13.size; (try simp at hz13)
    have s13_0 : w1.heap.size < w13.heap.size := (by omega)
    have c13_0_0 : w13.cell? ⟨w1.heap.size, 0, none⟩ = some (.int .i64 r.kind) := (hb13.cell (p := ⟨w1.heap.size, 0, none⟩) smx).trans kpx
    have f13_0_0 : w13.frozen? ⟨w1.heap.size, 0, none⟩ = false := (hb13.frozen (p := ⟨w1.heap.size, 0, none⟩) smx).trans kfx
    have c13_0_1 : w13.cell? ⟨w1.heap.size, 1, none⟩ = some (.int .i64 r.n) := (hb13.cell (p := ⟨w1.heap.size, 1, none⟩) smx).trans kpx
    have f13_0_1 : w13.frozen? ⟨w1.heap.size, 1, none⟩ = false := (hb13.frozen (p := ⟨w1.heap.size, 1, none⟩) smx).trans kfx
    have c13_0_2 : w13.cell? ⟨w1.heap.size, 2, none⟩ = some (.int .i64 r.uid) := (hb13.cell (p := ⟨w1.heap.size, 2, none⟩) smx).trans kpx
    have f13_0_2 : w13.frozen? ⟨w1.heap.size, 2, none⟩ = false := (hb13.frozen (p := ⟨w1.heap.size, 2, none⟩) smx).trans kfx
    have c13_0_3 : w13.cell? ⟨w1.heap.size, 3, none⟩ = some (.int .i64 r.flags) := (hb13.cell (p := ⟨w1.heap.size, 3, none⟩) smx).trans kpx
    have f13_0_3 : w13.frozen? ⟨w1.heap.size, 3, none⟩ = false := (hb13.frozen (p := ⟨w1.heap.size, 3, none⟩) smx).trans kfx
    have c13_0_4 : w13.cell? ⟨w1.heap.size, 4, none⟩ = some (.string r.name) := (hb13.cell (p := ⟨w1.heap.size, 4, none⟩) smx).trans kpx
    have f13_0_4 : w13.frozen? ⟨w1.heap.size, 4, none⟩ = false := (hb13.frozen (p := ⟨w1.heap.size, 4, none⟩) smx).trans kfx
    have c13_0_5 : w13.cell? ⟨w1.heap.size, 5, none⟩ = some (.string r.text) := (hb13.cell (p := ⟨w1.heap.size, 5, none⟩) smx).trans kpx
    have f13_0_5 : w13.frozen? ⟨w1.heap.size, 5, none⟩ = false := (hb13.frozen (p := ⟨w1.heap.size, 5, none⟩) smx).trans kfx
    have s13_1 : w12.heap.size < w13.heap.size := (by omega)
    have c13_1_0 : w13.cell? ⟨w12.heap.size, 0, none⟩ = some (.int .i64 r.kind) := (hb13.cell (p := ⟨w12.heap.size, 0, none⟩) smx).trans kpx
    have f13_1_0 : w13.frozen? ⟨w12.heap.size, 0, none⟩ = false := (hb13.frozen (p := ⟨w12.heap.size, 0, none⟩) smx).trans kfx
    have c13_1_1 : w13.cell? ⟨w12.heap.size, 1, none⟩ = some (.int .i64 r.n) := (hb13.cell (p := ⟨w12.heap.size, 1, none⟩) smx).trans kpx
    have f13_1_1 : w13.frozen? ⟨w12.heap.size, 1, none⟩ = false := (hb13.frozen (p := ⟨w12.heap.size, 1, none⟩) smx).trans kfx
    have c13_1_2 : w13.cell? ⟨w12.heap.size, 2, none⟩ = some (.int .i64 r.uid) := (hb13.cell (p := ⟨w12.heap.size, 2, none⟩) smx).trans kpx
    have f13_1_2 : w13.frozen? ⟨w12.heap.size, 2, none⟩ = false := (hb13.frozen (p := ⟨w12.heap.size, 2, none⟩) smx).trans kfx
    have c13_1_3 : w13.cell? ⟨w12.heap.size, 3, none⟩ = some (.int .i64 r.flags) := (hb13.cell (p := ⟨w12.heap.size, 3, none⟩) smx).trans kpx
    have f13_1_3 : w13.frozen? ⟨w12.heap.size, 3, none⟩ = false := (hb13.frozen (p := ⟨w12.heap.size, 3, none⟩) smx).trans kfx
    have c13_1_4 : w13.cell? ⟨w12.heap.size, 4, none⟩ = some (.string r.name) := (hb13.cell (p := ⟨w12.heap.size, 4, none⟩) smx).trans kpx
    have f13_1_4 : w13.frozen? ⟨w12.heap.size, 4, none⟩ = false := (hb13.frozen (p := ⟨w12.heap.size, 4, none⟩) smx).trans kfx
    have c13_1_5 : w13.cell? ⟨w12.heap.size, 5, none⟩ = some (.string r.text) := (hb13.cell (p := ⟨w12.heap.size, 5, none⟩) smx).trans kpx
    have f13_1_5 : w13.frozen? ⟨w12.heap.size, 5, none⟩ = false := (hb13.frozen (p := ⟨w12.heap.size, 5, none⟩) smx).trans kfx
    go_wp2_with fail
    refine (implReadReply_any s _ (HG2.out.ext bxt) (by omega)).mono ?_
    rintro e w14 ⟨y, oy, rfl, hy, hb14, hny, hty⟩
    have hz14 := hb14.size; (try simp at hz14)
    have s14_0 : w1.heap.size < w14.heap.size := (by omega)
    have c14_0_0 : w14.cell? ⟨w1.heap.size, 0, none⟩ = some (.int .i64 r.kind) := (hb14.cell (p := ⟨w1.heap.size, 0, none⟩) smx).trans kpx
    have f14_0_0 : w14.frozen? ⟨w1.heap.size, 0, none⟩ = false := (hb14.frozen (p := ⟨w1.heap.size, 0, none⟩) smx).trans kfx
    have c14_0_1 : w14.cell? ⟨w1.heap.size, 1, none⟩ = some (.int .i64 r.n) := (hb14.cell (p := ⟨w1.heap.size, 1, none⟩) smx).trans kpx
    have f14_0_1 : w14.frozen? ⟨w1.heap.size, 1, none⟩ = false := (hb14.frozen (p := ⟨w1.heap.size, 1, none⟩) smx).trans kfx
    have c14_0_2 : w14.cell? ⟨w1.heap.size, 2, none⟩ = some (.int .i64 r.uid) := (hb14.cell (p := ⟨w1.heap.size, 2, none⟩) smx).trans kpx
    have f14_0_2 : w14.frozen? ⟨w1.heap.size, 2, none⟩ = false := (hb14.frozen (p := ⟨w1.heap.size, 2, none⟩) smx).trans kfx
    have c14_0_3 : w14.cell? ⟨w1.heap.size, 3, none⟩ = some (.int .i64 r.flags) := (hb14.cell (p := ⟨w1.heap.size, 3, none⟩) smx).trans kpx
    have f14_0_3 : w14.frozen? ⟨w1.heap.size, 3, none⟩ = false := (hb14.frozen (p := ⟨w1.heap.size, 3, none⟩) smx).trans kfx
    have c14_0_4 : w14.cell? ⟨w1.heap.size, 4, none⟩ = some (.string r.name) := (hb14.cell (p := ⟨w1.heap.size, 4, none⟩) smx).trans kpx
    have f14_0_4 : w14.frozen? ⟨w1.heap.size, 4, none⟩ = false := (hb14.frozen (p := ⟨w1.heap.size, 4, none⟩) smx).trans kfx
    have c14_0_5 : w14.cell? ⟨w1.heap.size, 5, none⟩ = some (.string r.text) := (hb14.cell (p := ⟨w1.heap.size, 5, none⟩) smx).trans kpx
    have f14_0_5 : w14.frozen? ⟨w1.heap.size, 5, none⟩ = false := (hb14.frozen (p := ⟨w1.heap.size, 5, none⟩) smx).trans kfx
    have s14_1 : w12.heap.size < w14.heap.size := (by omega)
    have c14_1_0 : w14.cell? ⟨w12.heap.size, 0, none⟩ = some (.int .i64 r.kind) := (hb14.cell (p := ⟨w12.heap.size, 0, none⟩) smx).trans kpx
    have f14_1_0 : w14.frozen? ⟨w12.heap.size, 0, none⟩ = false := (hb14.frozen (p := ⟨w12.heap.size, 0, none⟩) smx).trans kfx
    have c14_1_1 : w14.cell? ⟨w12.heap.size, 1, none⟩ = some (.int .i64 r.n) := (hb14.cell (p := ⟨w12.heap.size, 1, none⟩) smx).trans kpx
    have f14_1_1 : w14.frozen? ⟨w12.heap.size, 1, none⟩ = false := (hb14.frozen (p := ⟨w12.heap.size, 1, none⟩) smx).trans kfx
    have c14_1_2 : w14.cell? ⟨w12.heap.size, 2, none⟩ = some (.int .i64 r.uid) := (hb14.cell (p := ⟨w12.heap.size, 2, none⟩) smx).trans kpx
    have f14_1_2 : w14.frozen? ⟨w12.heap.size, 2, none⟩ = false := (hb14.frozen (p := ⟨w12.heap.size, 2, none⟩) smx).trans kfx
    have c14_1_3 : w14.cell? ⟨w12.heap.size, 3, none⟩ = some (.int .i64 r.flags) := (hb14.cell (p := ⟨w12.heap.size, 3, none⟩) smx).trans kpx
    have f14_1_3 : w14.frozen? ⟨w12.heap.size, 3, none⟩ = false := (hb14.frozen (p := ⟨w12.heap.size, 3, none⟩) smx).trans kfx
    have c14_1_4 : w14.cell? ⟨w12.heap.size, 4, none⟩ = some (.string r.name) := (hb14.cell (p := ⟨w12.heap.size, 4, none⟩) smx).trans kpx
    have f14_1_4 : w14.frozen? ⟨w12.heap.size, 4, none⟩ = false := (hb14.frozen (p := ⟨w12.heap.size, 4, none⟩) smx).trans kfx
    have c14_1_5 : w14.cell? ⟨w12.heap.size, 5, none⟩ = some (.string r.text) := (hb14.cell (p := ⟨w12.heap.size, 5, none⟩) smx).trans kpx
    have f14_1_5 : w14.frozen? ⟨w12.heap.size, 5, none⟩ = false := (hb14.frozen (p := ⟨w12.heap.size, 5, none⟩) smx).trans kfx
    go_wp2_with fail
    refine (specReadReply_any s _ (by omega)).mono ?_
    rintro e w15 ⟨z, oz, rfl, hz, hb15, hnz, htz⟩
    have hz15 := hb15.size; (try simp at hz15)
    have s15_0 : w1.heap.size < w15.heap.size := (by omega)
    have c15_0_0 : w15.cell? ⟨w1.heap.size, 0, none⟩ = some (.int .i64 r.kind) := (hb15.cell (p := ⟨w1.heap.size, 0, none⟩) smx).trans kpx
    have f15_0_0 : w15.frozen? ⟨w1.heap.size, 0, none⟩ = false := (hb15.frozen (p := ⟨w1.heap.size, 0, none⟩) smx).trans kfx
    have c15_0_1 : w15.cell? ⟨w1.heap.size, 1, none⟩ = some (.int .i64 r.n) := (hb15.cell (p := ⟨w1.heap.size, 1, none⟩) smx).trans kpx
    have f15_0_1 : w15.frozen? ⟨w1.heap.size, 1, none⟩ = false := (hb15.frozen (p := ⟨w1.heap.size, 1, none⟩) smx).trans kfx
    have c15_0_2 : w15.cell? ⟨w1.heap.size, 2, none⟩ = some (.int .i64 r.uid) := (hb15.cell (p := ⟨w1.heap.size, 2, none⟩) smx).trans kpx
    have f15_0_2 : w15.frozen? ⟨w1.heap.size, 2, none⟩ = false := (hb15.frozen (p := ⟨w1.heap.size, 2, none⟩) smx).trans kfx
    have c15_0_3 : w15.cell? ⟨w1.heap.size, 3, none⟩ = some (.int .i64 r.flags) := (hb15.cell (p := ⟨w1.heap.size, 3, none⟩) smx).trans kpx
    have f15_0_3 : w15.frozen? ⟨w1.heap.size, 3, none⟩ = false := (hb15.frozen (p := ⟨w1.heap.size, 3, none⟩) smx).trans kfx
    have c15_0_4 : w15.cell? ⟨w1.heap.size, 4, none⟩ = some (.string r.name) := (hb15.cell (p := ⟨w1.heap.size, 4, none⟩) smx).trans kpx
    have f15_0_4 : w15.frozen? ⟨w1.heap.size, 4, none⟩ = false := (hb15.frozen (p := ⟨w1.heap.size, 4, none⟩) smx).trans kfx
    have c15_0_5 : w15.cell? ⟨w1.heap.size, 5, none⟩ = some (.string r.text) := (hb15.cell (p := ⟨w1.heap.size, 5, none⟩) smx).trans kpx
    have f15_0_5 : w15.frozen? ⟨w1.heap.size, 5, none⟩ = false := (hb15.frozen (p := ⟨w1.heap.size, 5, none⟩) smx).trans kfx
    have s15_1 : w12.heap.size < w15.heap.size := (by omega)
    have c15_1_0 : w15.cell? ⟨w12.heap.size, 0, none⟩ = some (.int .i64 r.kind) := (hb15.cell (p := ⟨w12.heap.size, 0, none⟩) smx).trans kpx
    have f15_1_0 : w15.frozen? ⟨w12.heap.size, 0, none⟩ = false := (hb15.frozen (p := ⟨w12.heap.size, 0, none⟩) smx).trans kfx
    have c15_1_1 : w15.cell? ⟨w12.heap.size, 1, none⟩ = some (.int .i64 r.n) := (hb15.cell (p := ⟨w12.heap.size, 1, none⟩) smx).trans kpx
    have f15_1_1 : w15.frozen? ⟨w12.heap.size, 1, none⟩ = false := (hb15.frozen (p := ⟨w12.heap.size, 1, none⟩) smx).trans kfx
    have c15_1_2 : w15.cell? ⟨w12.heap.size, 2, none⟩ = some (.int .i64 r.uid) := (hb15.cell (p := ⟨w12.heap.size, 2, none⟩) smx).trans kpx
    have f15_1_2 : w15.frozen? ⟨w12.heap.size, 2, none⟩ = false := (hb15.frozen (p := ⟨w12.heap.size, 2, none⟩) smx).trans kfx
    have c15_1_3 : w15.cell? ⟨w12.heap.size, 3, none⟩ = some (.int .i64 r.flags) := (hb15.cell (p := ⟨w12.heap.size, 3, none⟩) smx).trans kpx
    have f15_1_3 : w15.frozen? ⟨w12.heap.size, 3, none⟩ = false := (hb15.frozen (p := ⟨w12.heap.size, 3, none⟩) smx).trans kfx
    have c15_1_4 : w15.cell? ⟨w12.heap.size, 4, none⟩ = some (.string r.name) := (hb15.cell (p := ⟨w12.heap.size, 4, none⟩) smx).trans kpx
    have f15_1_4 : w15.frozen? ⟨w12.heap.size, 4, none⟩ = false := (hb15.frozen (p := ⟨w12.heap.size, 4, none⟩) smx).trans kfx
    have c15_1_5 : w15.cell? ⟨w12.heap.size, 5, none⟩ = some (.string r.text) := (hb15.cell (p := ⟨w12.heap.size, 5, none⟩) smx).trans kpx
    have f15_1_5 : w15.frozen? ⟨w12.heap.size, 5, none⟩ = false := (hb15.frozen (p := ⟨w12.heap.size, 5, none⟩) smx).trans kfx
    have s15_2 : w14.heap.size < w15.heap.size := (by omega)
    have c15_2_0 : w15.cell? ⟨w14.heap.size, 0, none⟩ = some (.int .i64 y.kind) := (hb15.cell (p := ⟨w14.heap.size, 0, none⟩) smx).trans kpx
    have f15_2_0 : w15.frozen? ⟨w14.heap.size, 0, none⟩ = false := (hb15.frozen (p := ⟨w14.heap.size, 0, none⟩) smx).trans kfx
    have c15_2_1 : w15.cell? ⟨w14.heap.size, 1, none⟩ = some (.int .i64 y.n) := (hb15.cell (p := ⟨w14.heap.size, 1, none⟩) smx).trans kpx
    have f15_2_1 : w15.frozen? ⟨w14.heap.size, 1, none⟩ = false := (hb15.frozen (p := ⟨w14.heap.size, 1, none⟩) smx).trans kfx
    have c15_2_2 : w15.cell? ⟨w14.heap.size, 2, none⟩ = some (.int .i64 y.uid) := (hb15.cell (p := ⟨w14.heap.size, 2, none⟩) smx).trans kpx
    have f15_2_2 : w15.frozen? ⟨w14.heap.size, 2, none⟩ = false := (hb15.frozen (p := ⟨w14.heap.size, 2, none⟩) smx).trans kfx
    have c15_2_3 : w15.cell? ⟨w14.heap.size, 3, none⟩ = some (.int .i64 y.flags) := (hb15.cell (p := ⟨w14.heap.size, 3, none⟩) smx).trans kpx
    have f15_2_3 : w15.frozen? ⟨w14.heap.size, 3, none⟩ = false := (hb15.frozen (p := ⟨w14.heap.size, 3, none⟩) smx).trans kfx
    have c15_2_4 : w15.cell? ⟨w14.heap.size, 4, none⟩ = some (.string y.name) := (hb15.cell (p := ⟨w14.heap.size, 4, none⟩) smx).trans kpx
    have f15_2_4 : w15.frozen? ⟨w14.heap.size, 4, none⟩ = false := (hb15.frozen (p := ⟨w14.heap.size, 4, none⟩) smx).trans kfx
    have c15_2_5 : w15.cell? ⟨w14.heap.size, 5, none⟩ = some (.string y.text) := (hb15.cell (p := ⟨w14.heap.size, 5, none⟩) smx).trans kpx
    have f15_2_5 : w15.frozen? ⟨w14.heap.size, 5, none⟩ = false := (hb15.frozen (p := ⟨w14.heap.size, 5, none⟩) smx).trans kfx
    obtain ⟨rfl, rfl⟩ := read_eq hy hz
    cases oz
    · skip
      clear hy hz
      go_wp2_with fail
      go_ret
      exact ⟨rfl, bxt⟩
    · skip
      obtain ⟨hyt, hyp⟩ := read_txt hy
      have HYT := Lib.hid hyt; have HYP : Hid (Tells true (ReplyP z)) := Lib.hid ⟨fun _ => hyp, fun _ => rfl⟩; clear hyt hyp hy hz
      go_wp2_with fail
      refine (implReplyText_t z _ (HG2.out.pw.ext bxt) (HG2.out.mx.ext bxt) (by omega) (by omega) true HYP s HYT).mono ?_
      rintro e w16 ⟨rfl, hb16⟩
      go_wp2_with fail
      go_ret
      exact ⟨rfl, bxt⟩
end Go.Proofs.YtidfhkdonhjgaaaGreatDoor
