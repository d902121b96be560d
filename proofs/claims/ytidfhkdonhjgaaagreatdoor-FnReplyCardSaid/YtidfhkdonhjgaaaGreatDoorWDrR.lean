/-
  The draws of the law of replies.
-/
import Derived.Test.YtidfhkdonhjgaaaGreatDoorDraw24
import Derived.Test.YtidfhkdonhjgaaaGreatDoorWTrn
import Derived.Test.YtidfhkdonhjgaaaGreatDoorWRTs
import Derived.Test.YtidfhkdonhjgaaaGreatDoorWGsP
import Derived.Deep.RegionLaw
import Derived.Deep.DeepCutAuto
namespace Go.Proofs.YtidfhkdonhjgaaaGreatDoor
open Go.RowKit
set_option linter.unusedVariables false
set_option linter.unusedSimpArgs false

def DrRt (w : World) (e : Ending) (w' : World) : Prop := ∃ r : DReply, r.name.size ≤ 41 ∧ r.text.size ≤ 41 ∧ e = .returned (.agg #[.int .i64 r.kind, .int .i64 r.n, .int .i64 r.uid, .int .i64 r.flags, .string r.name, .string r.text]) ∧ Ext w w'
set_option maxRecDepth 100000 in
set_option maxHeartbeats 4000000 in
theorem drawReplyText_any (lb : List Int) (a : Option Addr) (c : Nat) (w : World) (R : Rd w a c 1 lb.length (lb.flatMap byteCells)) (hb : ∀ y ∈ lb, 0 ≤ y ∧ y ≤ 255) (hl : lb.length ≤ 1048576) :
    Calls Tryz.prog 11 #[.slice a lb.length c] w (DrRt w) := by
  have HR := Lib.hid R
  have HB := Lib.hid hb
  clear R hb
  go_enter Tryz.func11, Tryz.ntmps11
  go_wp2_with fail
  refine (l1New_any lb a c _ (HR.out.ext bxt) HB.out hl).mono ?_
  rintro e w1 ⟨cb, hcb, rfl, hcu, hb1⟩
  (try simp at hcb)
  have hcl := hcu.lt
  have HCU := Lib.hid hcu
  clear hcu
  have hz1 := hb1.size; (try simp at hz1)
  have s1_0 : w.heap.size < w1.heap.size := (by omega)
  have c1_0_0 : w1.cell? ⟨w.heap.size, 0, none⟩ = some (.int .i64 0) := (hb1.cell (p := ⟨w.heap.size, 0, none⟩) smx).trans kpx
  have f1_0_0 : w1.frozen? ⟨w.heap.size, 0, none⟩ = false := (hb1.frozen (p := ⟨w.heap.size, 0, none⟩) smx).trans kfx
  have c1_0_1 : w1.cell? ⟨w.heap.size, 1, none⟩ = some (.int .i64 0) := (hb1.cell (p := ⟨w.heap.size, 1, none⟩) smx).trans kpx
  have f1_0_1 : w1.frozen? ⟨w.heap.size, 1, none⟩ = false := (hb1.frozen (p := ⟨w.heap.size, 1, none⟩) smx).trans kfx
  have c1_0_2 : w1.cell? ⟨w.heap.size, 2, none⟩ = some (.int .i64 0) := (hb1.cell (p := ⟨w.heap.size, 2, none⟩) smx).trans kpx
  have f1_0_2 : w1.frozen? ⟨w.heap.size, 2, none⟩ = false := (hb1.frozen (p := ⟨w.heap.size, 2, none⟩) smx).trans kfx
  have c1_0_3 : w1.cell? ⟨w.heap.size, 3, none⟩ = some (.int .i64 0) := (hb1.cell (p := ⟨w.heap.size, 3, none⟩) smx).trans kpx
  have f1_0_3 : w1.frozen? ⟨w.heap.size, 3, none⟩ = false := (hb1.frozen (p := ⟨w.heap.size, 3, none⟩) smx).trans kfx
  have c1_0_4 : w1.cell? ⟨w.heap.size, 4, none⟩ = some (.string ⟨#[]⟩) := (hb1.cell (p := ⟨w.heap.size, 4, none⟩) smx).trans kpx
  have f1_0_4 : w1.frozen? ⟨w.heap.size, 4, none⟩ = false := (hb1.frozen (p := ⟨w.heap.size, 4, none⟩) smx).trans kfx
  have c1_0_5 : w1.cell? ⟨w.heap.size, 5, none⟩ = some (.string ⟨#[]⟩) := (hb1.cell (p := ⟨w.heap.size, 5, none⟩) smx).trans kpx
  have f1_0_5 : w1.frozen? ⟨w.heap.size, 5, none⟩ = false := (hb1.frozen (p := ⟨w.heap.size, 5, none⟩) smx).trans kfx
  go_wp2_with fail
  refine (l14Bent_any cb _ (HCU.out.ext bxt)).mono ?_
  rintro e w2 ⟨r, rfl, hd2, hn, ht⟩
  have hz2 := hd2.size; (try simp at hz2)
  have s2_0 : w.heap.size < w2.heap.size := (by omega)
  have c2_0_0 : w2.cell? ⟨w.heap.size, 0, none⟩ = some (.int .i64 0) := (hd2.cell (x := w.heap.size) (o := 0) smx (by omega)).trans kpx
  have f2_0_0 : w2.frozen? ⟨w.heap.size, 0, none⟩ = false := (hd2.frozen (x := w.heap.size) (o := 0) smx (by omega)).trans kfx
  have c2_0_1 : w2.cell? ⟨w.heap.size, 1, none⟩ = some (.int .i64 0) := (hd2.cell (x := w.heap.size) (o := 1) smx (by omega)).trans kpx
  have f2_0_1 : w2.frozen? ⟨w.heap.size, 1, none⟩ = false := (hd2.frozen (x := w.heap.size) (o := 1) smx (by omega)).trans kfx
  have c2_0_2 : w2.cell? ⟨w.heap.size, 2, none⟩ = some (.int .i64 0) := (hd2.cell (x := w.heap.size) (o := 2) smx (by omega)).trans kpx
  have f2_0_2 : w2.frozen? ⟨w.heap.size, 2, none⟩ = false := (hd2.frozen (x := w.heap.size) (o := 2) smx (by omega)).trans kfx
  have c2_0_3 : w2.cell? ⟨w.heap.size, 3, none⟩ = some (.int .i64 0) := (hd2.cell (x := w.heap.size) (o := 3) smx (by omega)).trans kpx
  have f2_0_3 : w2.frozen? ⟨w.heap.size, 3, none⟩ = false := (hd2.frozen (x := w.heap.size) (o := 3) smx (by omega)).trans kfx
  have c2_0_4 : w2.cell? ⟨w.heap.size, 4, none⟩ = some (.string ⟨#[]⟩) := (hd2.cell (x := w.heap.size) (o := 4) smx (by omega)).trans kpx
  have f2_0_4 : w2.frozen? ⟨w.heap.size, 4, none⟩ = false := (hd2.frozen (x := w.heap.size) (o := 4) smx (by omega)).trans kfx
  have c2_0_5 : w2.cell? ⟨w.heap.size, 5, none⟩ = some (.string ⟨#[]⟩) := (hd2.cell (x := w.heap.size) (o := 5) smx (by omega)).trans kpx
  have f2_0_5 : w2.frozen? ⟨w.heap.size, 5, none⟩ = false := (hd2.frozen (x := w.heap.size) (o := 5) smx (by omega)).trans kfx
  go_wp2_with fail
  refine bodyPost_ret (v := .agg #[.int .i64 r.kind, .int .i64 r.n, .int .i64 r.uid, .int .i64 r.flags, .string r.name, .string r.text]) (by simp [results, Tryz.results11, go_sem, *]) rfl ⟨r, hn, ht, rfl, btx⟩
theorem txtOf_size {a : DReply} {b : Bool} (h : Tells b (ReplyP a)) : (txtOf b a).size ≤ 200 := by
  cases b
  · exact Nat.zero_le _
  · have h1 := txt_len (yes_of h)
    simpa [txtOf, txt, txA, bs_size] using h1
def DrTx (m : Nat) (w : World) (e : Ending) (w' : World) : Prop := ∃ t : ByteArray, t.size ≤ m ∧ e = .returned (.string t) ∧ Ext w w'
set_option maxRecDepth 100000 in
set_option maxHeartbeats 4000000 in
theorem drawReadReply_any (lb : List Int) (a : Option Addr) (c : Nat) (w : World) (R : Rd w a c 1 lb.length (lb.flatMap byteCells)) (hb : ∀ y ∈ lb, 0 ≤ y ∧ y ≤ 255) (hl : lb.length ≤ 1048576) :
    Calls Tryz.prog 15 #[.slice a lb.length c] w (DrTx 300 w) := by
  have HR := Lib.hid R
  have HB := Lib.hid hb
  clear R hb
  go_enter Tryz.func15, Tryz.ntmps15
  go_wp2_with fail
  refine (l1New_any lb a c _ (HR.out.ext bxt) HB.out hl).mono ?_
  rintro e w1 ⟨cb, hcb, rfl, hcu, hb1⟩
  (try simp at hcb)
  have hcl := hcu.lt
  have HCU := Lib.hid hcu
  clear hcu
  have hz1 := hb1.size; (try simp at hz1)
  go_wp2_with fail
  refine (l14Right_any cb _ (HCU.out.ext bxt)).mono ?_
  rintro e w2 ⟨r, rfl, hd2, hn, ht⟩
  have hz2 := hd2.size; (try simp at hz2)
  obtain ⟨b, hb⟩ := boolOf (ReplyP r); have HB2 := Lib.hid hb; clear hb; have hts := txtOf_size HB2.out
  go_wp2_with fail
  refine (specReplyText_any r _ (by omega) (by omega) b HB2).mono ?_
  rintro e w3 ⟨rfl, hb3⟩
  have hz3 := hb3.size; (try simp at hz3)
  go_wp2_with fail
  refine (l1Turned_any cb 8 2 _ _ _ _ _ (hd2.cur.ext bxt) (Rd.lit _ _ _ _ 1 _ rfl rfl (by omega)) (by omega) (by omega) (by rfl) (fun b o e => by have hq := hd2.cur.lt; have hq2 := hb3.size; simp at e; (try simp at hq); omega) (by omega) (by omega)).mono ?_
  rintro e w4 ⟨t, htl, rfl, hd4⟩
  have hz4 := hd4.size; (try simp at hz4)
  go_wp2_with fail
  go_ret
  exact ⟨t, by omega, rfl, btx⟩
end Go.Proofs.YtidfhkdonhjgaaaGreatDoor
