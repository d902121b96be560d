/-
  The draw of a client.
-/
import Derived.Deep.DeepCutAuto
import Derived.Deep.RegionHeld3
import Derived.Test.YtpameapajhbdnaaK12
import Derived.Test.YtpameapajhbdnaaK06
import Derived.Test.YtpameapajhbdnaaK00
namespace Go.Proofs.Ytpameapajhbdnaa
open Go.RowKit
set_option linter.unusedVariables false
set_option linter.unusedSimpArgs false

/-- a client that is drawn -/
def DrCl (cb : Nat) (w : World) (e : Ending) (w' : World) : Prop := ∃ (ac bd : Bool) (nm : ByteArray) (va sz : Int) (g : Option Addr) (q : Nat) (l : List DSeen), l.length ≤ 5 ∧ e = .returned (.agg #[.bool ac, .string nm, .int .i64 va, .int .i64 sz, .slice g l.length q, .bool bd]) ∧ Own w' w.heap.size 129 2 (.slice g l.length q) l.length (l.flatMap DSeen.cells) ∧ Dr cb w w'
/-- the client that is being drawn lies in block b -/
def ClSt (cb : Nat) (w : World) (b : Nat) (g : Option Addr) (q : Nat) (l : List DSeen) (ac bd : Bool) (nm : ByteArray) (wx : World) : Prop := ∃ sz : Int, Bx wx b [.bool ac, .string nm, .int .i64 1, .int .i64 sz, .slice g l.length q, .bool bd] ∧ Bx wx w.heap.size [.bool false, .string ⟨#[]⟩, .int .i64 0, .int .i64 0, .slice none 0 0, .bool false] ∧ Own wx w.heap.size 129 2 (.slice g l.length q) l.length (l.flatMap DSeen.cells) ∧ Dr cb w wx
def ClCut (cb : Nat) (W : World) (g : Option Addr) (q : Nat) (l : List DSeen) (v : Value) (wx : World) : Prop := ∃ (b : Nat) (ac bd : Bool) (nm : ByteArray), v = .pointer (some ⟨b, 0, none⟩) ∧ W.heap.size ≤ b ∧ Bx wx b [.bool ac, .string nm, .int .i64 1, .int .i64 l.length, .slice g l.length q, .bool bd] ∧ Dr cb W wx
theorem Bx.drR {cb : Nat} {w w' : World} {b : Nat} {cs : List Value} (hd : Dr cb w w') (h : Bx w b cs) (hn : b ≠ cb) : Bx w' b cs := h.dr hd hn
set_option maxRecDepth 100000 in
set_option maxHeartbeats 40000000 in
theorem l15Client_any (cb : Nat) (w : World) (hc : Cur w cb) :
    Calls Try.prog 106 #[.pointer (some ⟨cb, 0, none⟩)] w (DrCl cb w) := by
  have hcl := hc.lt
  have HC := Lib.hid hc
  clear hc
  go_enter Try.func106, Try.ntmps106
  go_wp2_with fail
  refine (l13View_any cb _ (HC.out.ext bxt)).mono ?_
  rintro e w1 ⟨g, q, l, hl, rfl, ho, hd1⟩
  have HO := Lib.hid (ho.le (B' := w.heap.size) (by simp)); have hz1 := hd1.size; (try simp at hz1)
  have nO : ∀ b, w1.heap.size ≤ b → foot (.slice g l.length q) ≠ some b := fun b hb => ho.ne_ge hb
  have HNO := Lib.hid nO; have HNW := Lib.hid (show foot (.slice g l.length q) ≠ some w.heap.size from fun e => by have := (ho.lt w.heap.size e).1; (try simp at this); omega); clear nO ho
  have HBZ1 : Hid (Bx w1 w.heap.size [.bool false, .string ⟨#[]⟩, .int .i64 0, .int .i64 0, .slice none 0 0, .bool false]) := Lib.hid ((Bx.mk rfl _ rfl).dr hd1 (by omega))
  have HD1 : Hid (Dr cb w w1) := Lib.hid dtx
  have HCU1 := Lib.hid hd1.cur; have s10 : w.heap.size < w1.heap.size := (by omega); clear hd1
  go_upto_region 2 with fail
  refine wp_world (fun wa hwa => ?_)
  have hxa : Ext w1 wa := by (rw [hwa]; exact bxt)
  have cV : wa.cell? ⟨w1.heap.size, 0, none⟩ = some (.slice g l.length q) := by (rw [hwa]; exact kpx)
  have hsz : w1.heap.size < wa.heap.size := by (rw [hwa]; simp)
  clear hwa
  have HOa := Lib.hid (HO.out.ext hxa); have HBZa := Lib.hid (HBZ1.out.ext hxa); have HDa : Hid (Dr cb w wa) := Lib.hid (HD1.out.ext hxa); have HCA : Hid (Cur wa cb) := Lib.hid (HCU1.out.ext hxa)
  go_cut [4] (fun v wx => ClCut cb wa g q l v wx)
  case first =>
    go_region_held3 (fun w' => Dr cb wa w' ∧ w'.cell? ⟨w1.heap.size, 0, none⟩ = some (.slice g l.length q)) (first | exact ⟨dtx, by with_reducible assumption⟩ | exact ⟨dtx, kpx⟩ | fail) ((first | (have h33 := hd3; clear h33; go_at_call 105; refine (l1Once_any cb _ _ (Dr.cur (show Dr cb wa _ from dtx)) (by omega)).mono ?_; rintro e w4 ⟨t4, rfl, hd4⟩; have hzz4 := hd4.size; (try simp at hzz4); have cV4 : w4.cell? ⟨w1.heap.size, 0, none⟩ = some (.slice g l.length q) := (hd4.cell (x := w1.heap.size) (o := 0) smx (by omega)).trans kpx; (try (have hB4_0 : Hid (Bx w4 wa.heap.size [.bool false, .string ⟨#[]⟩, .int .i64 0, .int .i64 0, .slice none 0 0, .bool false]) := Lib.hid (hB3_0.out.dr hd4 (by omega)); obtain ⟨m4_0_0, n4_0_0⟩ := hB4_0.out.at 0 _ rfl; obtain ⟨m4_0_1, n4_0_1⟩ := hB4_0.out.at 1 _ rfl; obtain ⟨m4_0_2, n4_0_2⟩ := hB4_0.out.at 2 _ rfl; obtain ⟨m4_0_3, n4_0_3⟩ := hB4_0.out.at 3 _ rfl; obtain ⟨m4_0_4, n4_0_4⟩ := hB4_0.out.at 4 _ rfl; obtain ⟨m4_0_5, n4_0_5⟩ := hB4_0.out.at 5 _ rfl; have hx4_0 : wa.heap.size < w4.heap.size := hB4_0.out.lt)); (try (have hB4_1 : Hid (Bx w4 w2.heap.size [.bool false, .string ⟨#[]⟩, .int .i64 0, .int .i64 0, .slice none 0 0, .bool false]) := Lib.hid (hB3_1.out.dr hd4 (by omega)); obtain ⟨m4_1_0, n4_1_0⟩ := hB4_1.out.at 0 _ rfl; obtain ⟨m4_1_1, n4_1_1⟩ := hB4_1.out.at 1 _ rfl; obtain ⟨m4_1_2, n4_1_2⟩ := hB4_1.out.at 2 _ rfl; obtain ⟨m4_1_3, n4_1_3⟩ := hB4_1.out.at 3 _ rfl; obtain ⟨m4_1_4, n4_1_4⟩ := hB4_1.out.at 4 _ rfl; obtain ⟨m4_1_5, n4_1_5⟩ := hB4_1.out.at 5 _ rfl; have hx4_1 : w2.heap.size < w4.heap.size := hB4_1.out.lt)); (try (have hB4_2 : Hid (Bx w4 w3.heap.size [.bool false, .string ⟨#[]⟩, .int .i64 0, .int .i64 0, .slice none 0 0, .bool false]) := Lib.hid (Bx.drR hd4 (Bx.mk rfl _ rfl) (by omega)); obtain ⟨m4_2_0, n4_2_0⟩ := hB4_2.out.at 0 _ rfl; obtain ⟨m4_2_1, n4_2_1⟩ := hB4_2.out.at 1 _ rfl; obtain ⟨m4_2_2, n4_2_2⟩ := hB4_2.out.at 2 _ rfl; obtain ⟨m4_2_3, n4_2_3⟩ := hB4_2.out.at 3 _ rfl; obtain ⟨m4_2_4, n4_2_4⟩ := hB4_2.out.at 4 _ rfl; obtain ⟨m4_2_5, n4_2_5⟩ := hB4_2.out.at 5 _ rfl; have hx4_2 : w3.heap.size < w4.heap.size := hB4_2.out.lt))) | (go_at_call 156; refine (l2Name_any cb _ (Dr.cur (show Dr cb wa _ from dtx))).mono ?_; rintro e w3 ⟨nm, hnm, rfl, hd3⟩; have hzz3 := hd3.size; (try simp at hzz3); have cV3 : w3.cell? ⟨w1.heap.size, 0, none⟩ = some (.slice g l.length q) := (hd3.cell (x := w1.heap.size) (o := 0) smx (by omega)).trans kpx; (try (have hB3_0 : Hid (Bx w3 wa.heap.size [.bool false, .string ⟨#[]⟩, .int .i64 0, .int .i64 0, .slice none 0 0, .bool false]) := Lib.hid (hB2_0.out.dr hd3 (by omega)); obtain ⟨m3_0_0, n3_0_0⟩ := hB3_0.out.at 0 _ rfl; obtain ⟨m3_0_1, n3_0_1⟩ := hB3_0.out.at 1 _ rfl; obtain ⟨m3_0_2, n3_0_2⟩ := hB3_0.out.at 2 _ rfl; obtain ⟨m3_0_3, n3_0_3⟩ := hB3_0.out.at 3 _ rfl; obtain ⟨m3_0_4, n3_0_4⟩ := hB3_0.out.at 4 _ rfl; obtain ⟨m3_0_5, n3_0_5⟩ := hB3_0.out.at 5 _ rfl; have hx3_0 : wa.heap.size < w3.heap.size := hB3_0.out.lt)); (try (have hB3_1 : Hid (Bx w3 w2.heap.size [.bool false, .string ⟨#[]⟩, .int .i64 0, .int .i64 0, .slice none 0 0, .bool false]) := Lib.hid (Bx.drR hd3 (Bx.mk rfl _ rfl) (by omega)); obtain ⟨m3_1_0, n3_1_0⟩ := hB3_1.out.at 0 _ rfl; obtain ⟨m3_1_1, n3_1_1⟩ := hB3_1.out.at 1 _ rfl; obtain ⟨m3_1_2, n3_1_2⟩ := hB3_1.out.at 2 _ rfl; obtain ⟨m3_1_3, n3_1_3⟩ := hB3_1.out.at 3 _ rfl; obtain ⟨m3_1_4, n3_1_4⟩ := hB3_1.out.at 4 _ rfl; obtain ⟨m3_1_5, n3_1_5⟩ := hB3_1.out.at 5 _ rfl; have hx3_1 : w2.heap.size < w3.heap.size := hB3_1.out.lt))) | (go_at_call 105; refine (l1Once_any cb _ _ (Dr.cur (show Dr cb wa _ from dtx)) (by omega)).mono ?_; rintro e w2 ⟨t2, rfl, hd2⟩; have hzz2 := hd2.size; (try simp at hzz2); have cV2 : w2.cell? ⟨w1.heap.size, 0, none⟩ = some (.slice g l.length q) := (hd2.cell (x := w1.heap.size) (o := 0) smx (by omega)).trans kpx; (try (have hB2_0 : Hid (Bx w2 wa.heap.size [.bool false, .string ⟨#[]⟩, .int .i64 0, .int .i64 0, .slice none 0 0, .bool false]) := Lib.hid (Bx.drR hd2 (Bx.mk rfl _ rfl) (by omega)); obtain ⟨m2_0_0, n2_0_0⟩ := hB2_0.out.at 0 _ rfl; obtain ⟨m2_0_1, n2_0_1⟩ := hB2_0.out.at 1 _ rfl; obtain ⟨m2_0_2, n2_0_2⟩ := hB2_0.out.at 2 _ rfl; obtain ⟨m2_0_3, n2_0_3⟩ := hB2_0.out.at 3 _ rfl; obtain ⟨m2_0_4, n2_0_4⟩ := hB2_0.out.at 4 _ rfl; obtain ⟨m2_0_5, n2_0_5⟩ := hB2_0.out.at 5 _ rfl; have hx2_0 : wa.heap.size < w2.heap.size := hB2_0.out.lt))) | fail))
    all_goals go_wp2_with fail
    all_goals go_meet
    · exact ⟨_, t2, t4, nm, rfl, (by first | omega | (simp <;> omega)), Bx.mk rfl _ rfl, dtx⟩
    · exact ⟨_, t2, t4, nm, rfl, (by first | omega | (simp <;> omega)), Bx.put hB4_2.out [.bool t2, .string nm, .int .i64 1, .int .i64 l.length, .slice g l.length q, .bool t4] rfl, dtx⟩
    · exact ⟨_, t2, t4, nm, rfl, (by first | omega | (simp <;> omega)), Bx.put hB4_1.out [.bool t2, .string nm, .int .i64 1, .int .i64 l.length, .slice g l.length q, .bool t4] rfl, dtx⟩
    · exact ⟨_, t2, t4, nm, rfl, (by first | omega | (simp <;> omega)), Bx.put hB4_0.out [.bool t2, .string nm, .int .i64 1, .int .i64 l.length, .slice g l.length q, .bool t4] rfl, dtx⟩
  obtain ⟨w5, hw5⟩ : ∃ x, x = wc := ⟨_, rfl⟩
  subst hw5
  obtain ⟨b, ac, bd, nm, rfl, hbw, hbx, hd5⟩ := hcut
  have HS : ClSt cb w b g q l ac bd nm w5 := ⟨l.length, hbx, HBZa.out.dr hd5 (by omega), HOa.out.dr hd5 hcl, HDa.out.trans hd5⟩
  have nb : foot (.slice g l.length q) ≠ some b := HNO.out b (by omega)
  have HNB := Lib.hid nb; clear nb hbx hd5 cV HBZa HOa HDa HCA HO HBZ1 HD1 HCU1 hxa
  have hwb : w.heap.size < b := by omega
  have hbc : cb < b := by omega
  have HS0 := Lib.hid HS
  obtain ⟨sz, hbx, hbz, ho, hd⟩ := HS
  have HBX := Lib.hid hbx; have HBZ := Lib.hid hbz; have HO := Lib.hid ho; have HD := Lib.hid hd; have HCU := Lib.hid hd.cur; have hlx := hbx.lt; clear hbx hbz ho hd
  go_wp2_with fail
  refine (l1Once_any cb 3 _ (HCU.out.ext bxt) (by omega)).mono ?_
  rintro e v0 ⟨t, rfl, hq⟩
  have HS1 : ClSt cb w b g q l ac bd nm v0 := ⟨sz, HBX.out.dr hq (by omega), HBZ.out.dr hq (by omega), HO.out.dr hq hcl, HD.out.trans hq⟩
  go_upto_if 20 with fail
  clear HS0 HBX HBZ HO HD HCU hq hlx
  go_cut [] (fun wx => ClSt cb w b g q l ac bd nm wx)
  case first =>
    cases t
    · go_wp2_with fail
      go_meet
      exact HS1
    obtain ⟨sz, hbx, hbz, ho, hd⟩ := HS1
    obtain ⟨m0, n0⟩ := hbx.at 0 _ rfl
    obtain ⟨m1, n1⟩ := hbx.at 1 _ rfl
    obtain ⟨m2, n2⟩ := hbx.at 2 _ rfl
    obtain ⟨m3, n3⟩ := hbx.at 3 _ rfl
    obtain ⟨m4, n4⟩ := hbx.at 4 _ rfl
    obtain ⟨m5, n5⟩ := hbx.at 5 _ rfl
    have HBX := Lib.hid hbx; have HBZ := Lib.hid hbz; have HO := Lib.hid ho; have HD := Lib.hid hd; have HCU := Lib.hid hd.cur; have hlx := hbx.lt; clear hbx hbz ho hd
    go_wp2_with fail
    go_region_law ((first | (go_simp; go_at_call 103; refine (l1Below_any cb 3 _ (HCU.out.ext bxt) (by omega)).mono ?_; rintro e wq ⟨x, ⟨x0', x1', -⟩, rfl, hq⟩; have HBX1 := Lib.hid ((HBX.out.ext (w' := _) bxt).dr hq (by omega)); have HBZ1 := Lib.hid ((HBZ.out.ext (w' := _) bxt).dr hq (by omega)); have HO1 := Lib.hid ((HO.out.ext (w' := _) bxt).dr hq hcl); have HD1 : Hid (Dr cb w wq) := Lib.hid ((HD.out.ext bxt).trans hq); have sQ := HBX1.out.lt; obtain ⟨x0, y0⟩ := HBX1.out.at 0 _ rfl; obtain ⟨x1, y1⟩ := HBX1.out.at 1 _ rfl; obtain ⟨x2, y2⟩ := HBX1.out.at 2 _ rfl; obtain ⟨x3, y3⟩ := HBX1.out.at 3 _ rfl; obtain ⟨x4, y4⟩ := HBX1.out.at 4 _ rfl; obtain ⟨x5, y5⟩ := HBX1.out.at 5 _ rfl) | fail))
    all_goals go_wp2_with fail
    all_goals go_meet
    all_goals exact ⟨_, HBX1.out.put1 3 _ rfl, HBZ1.out.set (p := ⟨b, 3, none⟩) (by show b ≠ w.heap.size; omega) _, HO1.out.set_off (p := ⟨b, 3, none⟩) HNB.out _, HD1.out.setCell (p := ⟨b, 3, none⟩) (by show w.heap.size ≤ b; omega) _⟩
  clear HS1
  obtain ⟨u0, hu0⟩ : ∃ x, x = wc := ⟨_, rfl⟩
  subst hu0
  have HS := hcut; clear hcut
  have HS0 := Lib.hid HS
  obtain ⟨sz, hbx, hbz, ho, hd⟩ := HS
  have HBX := Lib.hid hbx; have HBZ := Lib.hid hbz; have HO := Lib.hid ho; have HD := Lib.hid hd; have HCU := Lib.hid hd.cur; have hlx := hbx.lt; clear hbx hbz ho hd
  go_wp2_with fail
  refine (l1Once_any cb 10 _ (HCU.out.ext bxt) (by omega)).mono ?_
  rintro e v1 ⟨t, rfl, hq⟩
  have HS1 : ClSt cb w b g q l ac bd nm v1 := ⟨sz, HBX.out.dr hq (by omega), HBZ.out.dr hq (by omega), HO.out.dr hq hcl, HD.out.trans hq⟩
  go_upto_if 28 with fail
  clear HS0 HBX HBZ HO HD HCU hq hlx
  go_cut [] (fun wx => ClSt cb w b g q l ac bd nm wx)
  case first =>
    cases t
    · go_wp2_with fail
      go_meet
      exact HS1
    obtain ⟨sz, hbx, hbz, ho, hd⟩ := HS1
    obtain ⟨m0, n0⟩ := hbx.at 0 _ rfl
    obtain ⟨m1, n1⟩ := hbx.at 1 _ rfl
    obtain ⟨m2, n2⟩ := hbx.at 2 _ rfl
    obtain ⟨m3, n3⟩ := hbx.at 3 _ rfl
    obtain ⟨m4, n4⟩ := hbx.at 4 _ rfl
    obtain ⟨m5, n5⟩ := hbx.at 5 _ rfl
    have HBX := Lib.hid hbx; have HBZ := Lib.hid hbz; have HO := Lib.hid ho; have HD := Lib.hid hd; have HCU := Lib.hid hd.cur; have hlx := hbx.lt; clear hbx hbz ho hd
    go_wp2_with fail
    refine (l1PickInt_any cb _ _ _ _ _ (HCU.out.ext bxt) (Rd.lit _ _ _ _ 1 _ rfl rfl (by omega)) (by omega) (by omega) (by rfl) (fun b o e => by have hq := (HCU.out).lt; simp at e; (try simp at hq); omega)).mono ?_
    rintro e wq ⟨x, hx, rfl, hq⟩
    have HBX1 := Lib.hid ((HBX.out.ext (w' := _) bxt).dr hq (by omega)); have HBZ1 := Lib.hid ((HBZ.out.ext (w' := _) bxt).dr hq (by omega)); have HO1 := Lib.hid ((HO.out.ext (w' := _) bxt).dr hq hcl); have HD1 : Hid (Dr cb w wq) := Lib.hid ((HD.out.ext bxt).trans hq); have sQ := HBX1.out.lt
    obtain ⟨x0, y0⟩ := HBX1.out.at 0 _ rfl
    obtain ⟨x1, y1⟩ := HBX1.out.at 1 _ rfl
    obtain ⟨x2, y2⟩ := HBX1.out.at 2 _ rfl
    obtain ⟨x3, y3⟩ := HBX1.out.at 3 _ rfl
    obtain ⟨x4, y4⟩ := HBX1.out.at 4 _ rfl
    obtain ⟨x5, y5⟩ := HBX1.out.at 5 _ rfl
    go_wp2_with fail
    go_meet
    exact ⟨_, HBX1.out.put1 3 _ rfl, HBZ1.out.set (p := ⟨b, 3, none⟩) (by show b ≠ w.heap.size; omega) _, HO1.out.set_off (p := ⟨b, 3, none⟩) HNB.out _, HD1.out.setCell (p := ⟨b, 3, none⟩) (by show w.heap.size ≤ b; omega) _⟩
  clear HS1
  obtain ⟨u1, hu1⟩ : ∃ x, x = wc := ⟨_, rfl⟩
  subst hu1
  have HS := hcut; clear hcut
  obtain ⟨sz, hbx, hbz, ho, hd⟩ := HS
  obtain ⟨m0, n0⟩ := hbx.at 0 _ rfl
  obtain ⟨m1, n1⟩ := hbx.at 1 _ rfl
  obtain ⟨m2, n2⟩ := hbx.at 2 _ rfl
  obtain ⟨m3, n3⟩ := hbx.at 3 _ rfl
  obtain ⟨m4, n4⟩ := hbx.at 4 _ rfl
  obtain ⟨m5, n5⟩ := hbx.at 5 _ rfl
  obtain ⟨x0, y0⟩ := hbz.at 0 _ rfl
  obtain ⟨x1, y1⟩ := hbz.at 1 _ rfl
  obtain ⟨x2, y2⟩ := hbz.at 2 _ rfl
  obtain ⟨x3, y3⟩ := hbz.at 3 _ rfl
  obtain ⟨x4, y4⟩ := hbz.at 4 _ rfl
  obtain ⟨x5, y5⟩ := hbz.at 5 _ rfl
  have hlx := hbx.lt; have hlz := hbz.lt; have HO := Lib.hid ho; clear hbx hbz ho
  go_wp2_with fail
  refine bodyPost_ret (v := .agg #[.bool ac, .string nm, .int .i64 1, .int .i64 sz, .slice g l.length q, .bool bd]) (by simp [results, Try.results106, go_sem, *]) rfl ⟨ac, bd, nm, 1, sz, g, q, l, hl, rfl, ?_, dtx⟩
  exact (by repeat' (first | with_reducible exact HO.out | with_reducible refine Own.set_off ?_ ?_ _ | exact HNW.out))
end Go.Proofs.Ytpameapajhbdnaa
