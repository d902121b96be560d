/-
  The draw of a reply.
-/
import Derived.Test.YtidfhkdonhjgaaaGreatDoorXDr
import Derived.Test.YtidfhkdonhjgaaaGreatDoorTy
import Derived.Test.YtidfhkdonhjgaaaGreatDoorCSmall
import Derived.Test.YtidfhkdonhjgaaaGreatDoorXOwn
namespace Go.Proofs.YtidfhkdonhjgaaaGreatDoor
open Go.RowKit
set_option linter.unusedVariables false
set_option linter.unusedSimpArgs false

/-- a reply that is drawn -/
def DrRp (cb : Nat) (w : World) (e : Ending) (w' : World) : Prop := ∃ r : DReply, e = .returned (.agg #[.int .i64 r.kind, .int .i64 r.n, .int .i64 r.uid, .int .i64 r.flags, .string r.name, .string r.text]) ∧ Dr cb w w' ∧ r.name.size ≤ 41 ∧ r.text.size ≤ 41
/-- the reply that is being drawn lies in block b -/
def RSt (cb : Nat) (w : World) (b : Nat) (kd : Int) (wx : World) : Prop := ∃ (n u f : Int) (nm tx : ByteArray), Bx wx b [.int .i64 kd, .int .i64 n, .int .i64 u, .int .i64 f, .string nm, .string tx] ∧ Bx wx w.heap.size [.int .i64 0, .int .i64 0, .int .i64 0, .int .i64 0, .string ⟨#[]⟩, .string ⟨#[]⟩] ∧ Dr cb w wx ∧ nm.size ≤ 41 ∧ tx.size ≤ 41
theorem l14Named_ex (n : Int) (w : World) : Calls Tryz.prog 76 #[.int .i64 n] w fun e w' => ∃ r : Bool, e = .returned (.bool r) ∧ w' = w := by
  go_enter Tryz.func76, Tryz.ntmps76
  go_wp2_with ((go_at_call 75; refine (l1In_dec n 5 8 _).mono ?_; rintro e w1 ⟨rfl, rfl⟩))
  go_ret
  exact ⟨_, rfl, rfl⟩
theorem l14Tagged_ex (n : Int) (w : World) : Calls Tryz.prog 77 #[.int .i64 n] w fun e w' => ∃ r : Bool, e = .returned (.bool r) ∧ w' = w := by
  go_enter Tryz.func77, Tryz.ntmps77
  go_wp2_with ((go_at_call 75; refine (l1In_dec n 12 14 _).mono ?_; rintro e w1 ⟨rfl, rfl⟩))
  go_ret
  exact ⟨_, rfl, rfl⟩
set_option maxRecDepth 100000 in
set_option maxHeartbeats 4000000 in
theorem l14Right_any (cb : Nat) (w : World) (hc : Cur w cb) :
    Calls Tryz.prog 45 #[.pointer (some ⟨cb, 0, none⟩)] w (DrRp cb w) := by
  have hcl := hc.lt
  have HC := Lib.hid hc
  clear hc
  go_enter Tryz.func45, Tryz.ntmps45
  go_wp2_with fail
  refine (l1Below_any cb 16 _ (HC.out.ext bxt) (by omega)).mono ?_
  rintro e w1 ⟨k, ⟨k0, k1, -⟩, rfl, hd1⟩
  have k1 := k1 (by omega)
  have hz1 := hd1.size; (try simp at hz1)
  have s1_0 : w.heap.size < w1.heap.size := (by omega)
  have c1_0_0 : w1.cell? ⟨w.heap.size, 0, none⟩ = some (.int .i64 0) := (hd1.cell (x := w.heap.size) (o := 0) smx (by omega)).trans kpx
  have f1_0_0 : w1.frozen? ⟨w.heap.size, 0, none⟩ = false := (hd1.frozen (x := w.heap.size) (o := 0) smx (by omega)).trans kfx
  have c1_0_1 : w1.cell? ⟨w.heap.size, 1, none⟩ = some (.int .i64 0) := (hd1.cell (x := w.heap.size) (o := 1) smx (by omega)).trans kpx
  have f1_0_1 : w1.frozen? ⟨w.heap.size, 1, none⟩ = false := (hd1.frozen (x := w.heap.size) (o := 1) smx (by omega)).trans kfx
  have c1_0_2 : w1.cell? ⟨w.heap.size, 2, none⟩ = some (.int .i64 0) := (hd1.cell (x := w.heap.size) (o := 2) smx (by omega)).trans kpx
  have f1_0_2 : w1.frozen? ⟨w.heap.size, 2, none⟩ = false := (hd1.frozen (x := w.heap.size) (o := 2) smx (by omega)).trans kfx
  have c1_0_3 : w1.cell? ⟨w.heap.size, 3, none⟩ = some (.int .i64 0) := (hd1.cell (x := w.heap.size) (o := 3) smx (by omega)).trans kpx
  have f1_0_3 : w1.frozen? ⟨w.heap.size, 3, none⟩ = false := (hd1.frozen (x := w.heap.size) (o := 3) smx (by omega)).trans kfx
  have c1_0_4 : w1.cell? ⟨w.heap.size, 4, none⟩ = some (.string ⟨#[]⟩) := (hd1.cell (x := w.heap.size) (o := 4) smx (by omega)).trans kpx
  have f1_0_4 : w1.frozen? ⟨w.heap.size, 4, none⟩ = false := (hd1.frozen (x := w.heap.size) (o := 4) smx (by omega)).trans kfx
  have c1_0_5 : w1.cell? ⟨w.heap.size, 5, none⟩ = some (.string ⟨#[]⟩) := (hd1.cell (x := w.heap.size) (o := 5) smx (by omega)).trans kpx
  have f1_0_5 : w1.frozen? ⟨w.heap.size, 5, none⟩ = false := (hd1.frozen (x := w.heap.size) (o := 5) smx (by omega)).trans kfx
  go_upto_region 3 with fail
  refine wp_world (fun wa hwa => ?_)
  have HS : RSt cb w w1.heap.size (1 + k) wa := by (rw [hwa]; exact ⟨0, 0, 0, ⟨#[]⟩, ⟨#[]⟩, Bx.mk rfl _ rfl, (((Bx.ext (Bx.mk rfl _ rfl) bxt).dr hd1 (by omega)).ext (w' := w1.alloc _) bxt), dtx, by decide, by decide⟩)
  have hnb : w.heap.size < w1.heap.size := s1_0
  clear hwa hz1 s1_0 c1_0_0 f1_0_0 c1_0_1 f1_0_1 c1_0_2 f1_0_2 c1_0_3 f1_0_3 c1_0_4 f1_0_4 c1_0_5 f1_0_5 hd1
  go_cut [15] (fun u wx => ∃ t : Bool, u = .bool t ∧ RSt cb w w1.heap.size (1 + k) wx)
  case first =>
    obtain ⟨r, hr⟩ := boolOf ((1 : Int) ≤ 1 + k ∧ 1 + k ≤ 5)
    go_wp2_with fail
    refine (l1In_any (1 + k) 1 5 _ r (Lib.hid hr)).mono ?_
    rintro e wi ⟨rfl, hwi⟩
    subst hwi
    clear hr
    cases r <;> (go_wp2_with fail; go_meet; exact ⟨_, rfl, HS⟩)
  obtain ⟨u0, hu0⟩ : ∃ x, x = wc := ⟨_, rfl⟩
  subst hu0
  clear HS
  obtain ⟨t, rfl, HS⟩ := hcut
  go_upto_if 15 with fail
  go_cut [] (fun wx => RSt cb w w1.heap.size (1 + k) wx)
  case first =>
    cases t
    · go_wp2_with fail
      go_meet
      exact HS
    obtain ⟨n, u, f, nm, tx, hbr, hbz, hd, hnm, htm⟩ := HS
    obtain ⟨m0, n0⟩ := hbr.at 0 _ rfl
    obtain ⟨m1, n1⟩ := hbr.at 1 _ rfl
    obtain ⟨m2, n2⟩ := hbr.at 2 _ rfl
    obtain ⟨m3, n3⟩ := hbr.at 3 _ rfl
    obtain ⟨m4, n4⟩ := hbr.at 4 _ rfl
    obtain ⟨m5, n5⟩ := hbr.at 5 _ rfl
    have sM : w1.heap.size < u0.heap.size := hbr.lt
    have HBR := Lib.hid hbr; have HBZ := Lib.hid hbz; have HD := Lib.hid hd; have HCU := Lib.hid hd.cur; clear hbr hbz hd
    go_wp2_with fail
    refine (l1Below_any cb 7 _ (HCU.out.ext bxt) (by omega)).mono ?_
    rintro e wq ⟨x, ⟨x0, x1, -⟩, rfl, hq⟩
    have x1 := x1 (by omega)
    have HBR1 := Lib.hid ((HBR.out.ext (w' := _) bxt).dr hq (by omega)); have HBZ1 := Lib.hid ((HBZ.out.ext (w' := _) bxt).dr hq (by omega))
    obtain ⟨m0, n0⟩ := HBR1.out.at 0 _ rfl
    obtain ⟨m1, n1⟩ := HBR1.out.at 1 _ rfl
    obtain ⟨m2, n2⟩ := HBR1.out.at 2 _ rfl
    obtain ⟨m3, n3⟩ := HBR1.out.at 3 _ rfl
    obtain ⟨m4, n4⟩ := HBR1.out.at 4 _ rfl
    obtain ⟨m5, n5⟩ := HBR1.out.at 5 _ rfl
    have sQ : w1.heap.size < wq.heap.size := HBR1.out.lt
    have HD1 : Hid (Dr cb w wq) := Lib.hid ((HD.out.ext bxt).trans hq)
    go_wp2_with fail
    go_meet
    exact ⟨_, _, _, _, _, HBR1.out.put1 1 _ rfl, HBZ1.out.set (p := ⟨w1.heap.size, 1, none⟩) (by show w1.heap.size ≠ w.heap.size; omega) _, HD1.out.setCell (p := ⟨w1.heap.size, 1, none⟩) (by show w.heap.size ≤ w1.heap.size; omega) _, hnm, htm⟩
  obtain ⟨v0, hv0⟩ : ∃ x, x = wc := ⟨_, rfl⟩
  subst hv0
  clear HS
  have HS := hcut; clear hcut
  go_upto_region 5 with fail
  go_cut [25] (fun u wx => ∃ t : Bool, u = .bool t ∧ RSt cb w w1.heap.size (1 + k) wx)
  case first =>
    by_cases h3 : 1 + k = 3
    · have e3 : (1 + k == 3) = true := by simpa using h3
      go_wp2_with fail
      go_meet
      exact ⟨_, rfl, HS⟩
    · have e3 : (1 + k == 3) = false := by simpa using h3
      go_wp2_with fail
      go_meet
      exact ⟨_, rfl, HS⟩
  obtain ⟨u1, hu1⟩ : ∃ x, x = wc := ⟨_, rfl⟩
  subst hu1
  clear HS
  obtain ⟨t, rfl, HS⟩ := hcut
  go_upto_if 25 with fail
  go_cut [] (fun wx => RSt cb w w1.heap.size (1 + k) wx)
  case first =>
    cases t
    · go_wp2_with fail
      go_meet
      exact HS
    obtain ⟨n, u, f, nm, tx, hbr, hbz, hd, hnm, htm⟩ := HS
    obtain ⟨m0, n0⟩ := hbr.at 0 _ rfl
    obtain ⟨m1, n1⟩ := hbr.at 1 _ rfl
    obtain ⟨m2, n2⟩ := hbr.at 2 _ rfl
    obtain ⟨m3, n3⟩ := hbr.at 3 _ rfl
    obtain ⟨m4, n4⟩ := hbr.at 4 _ rfl
    obtain ⟨m5, n5⟩ := hbr.at 5 _ rfl
    have sM : w1.heap.size < u1.heap.size := hbr.lt
    have HBR := Lib.hid hbr; have HBZ := Lib.hid hbz; have HD := Lib.hid hd; have HCU := Lib.hid hd.cur; clear hbr hbz hd
    go_wp2_with fail
    refine (l1Below_any cb 9 _ (HCU.out.ext bxt) (by omega)).mono ?_
    rintro e wq ⟨x, ⟨x0, x1, -⟩, rfl, hq⟩
    have x1 := x1 (by omega)
    have HBR1 := Lib.hid ((HBR.out.ext (w' := _) bxt).dr hq (by omega)); have HBZ1 := Lib.hid ((HBZ.out.ext (w' := _) bxt).dr hq (by omega))
    obtain ⟨m0, n0⟩ := HBR1.out.at 0 _ rfl
    obtain ⟨m1, n1⟩ := HBR1.out.at 1 _ rfl
    obtain ⟨m2, n2⟩ := HBR1.out.at 2 _ rfl
    obtain ⟨m3, n3⟩ := HBR1.out.at 3 _ rfl
    obtain ⟨m4, n4⟩ := HBR1.out.at 4 _ rfl
    obtain ⟨m5, n5⟩ := HBR1.out.at 5 _ rfl
    have sQ : w1.heap.size < wq.heap.size := HBR1.out.lt
    have HD1 : Hid (Dr cb w wq) := Lib.hid ((HD.out.ext bxt).trans hq)
    go_wp2_with fail
    go_meet
    exact ⟨_, _, _, _, _, HBR1.out.put1 2 _ rfl, HBZ1.out.set (p := ⟨w1.heap.size, 2, none⟩) (by show w1.heap.size ≠ w.heap.size; omega) _, HD1.out.setCell (p := ⟨w1.heap.size, 2, none⟩) (by show w.heap.size ≤ w1.heap.size; omega) _, hnm, htm⟩
  obtain ⟨v1, hv1⟩ : ∃ x, x = wc := ⟨_, rfl⟩
  subst hv1
  clear HS
  have HS := hcut; clear hcut
  go_upto_region 7 with fail
  go_cut [31] (fun u wx => ∃ t : Bool, u = .bool t ∧ RSt cb w w1.heap.size (1 + k) wx)
  case first =>
    go_wp2_with fail
    refine (l14Named_ex (1 + k) _).mono ?_
    rintro e wi ⟨r, rfl, hwi⟩
    subst hwi
    go_wp2_with fail
    go_meet
    exact ⟨_, rfl, HS⟩
  obtain ⟨u2, hu2⟩ : ∃ x, x = wc := ⟨_, rfl⟩
  subst hu2
  clear HS
  obtain ⟨t, rfl, HS⟩ := hcut
  go_upto_if 31 with fail
  go_cut [] (fun wx => RSt cb w w1.heap.size (1 + k) wx)
  case first =>
    cases t
    · go_wp2_with fail
      go_meet
      exact HS
    obtain ⟨n, u, f, nm, tx, hbr, hbz, hd, hnm, htm⟩ := HS
    obtain ⟨m0, n0⟩ := hbr.at 0 _ rfl
    obtain ⟨m1, n1⟩ := hbr.at 1 _ rfl
    obtain ⟨m2, n2⟩ := hbr.at 2 _ rfl
    obtain ⟨m3, n3⟩ := hbr.at 3 _ rfl
    obtain ⟨m4, n4⟩ := hbr.at 4 _ rfl
    obtain ⟨m5, n5⟩ := hbr.at 5 _ rfl
    have sM : w1.heap.size < u2.heap.size := hbr.lt
    have HBR := Lib.hid hbr; have HBZ := Lib.hid hbz; have HD := Lib.hid hd; have HCU := Lib.hid hd.cur; clear hbr hbz hd
    go_wp2_with fail
    refine (l2Name_any cb _ (HCU.out.ext bxt)).mono ?_
    rintro e wq ⟨x, hx, rfl, hq⟩
    have HBR1 := Lib.hid ((HBR.out.ext (w' := _) bxt).dr hq (by omega)); have HBZ1 := Lib.hid ((HBZ.out.ext (w' := _) bxt).dr hq (by omega))
    obtain ⟨m0, n0⟩ := HBR1.out.at 0 _ rfl
    obtain ⟨m1, n1⟩ := HBR1.out.at 1 _ rfl
    obtain ⟨m2, n2⟩ := HBR1.out.at 2 _ rfl
    obtain ⟨m3, n3⟩ := HBR1.out.at 3 _ rfl
    obtain ⟨m4, n4⟩ := HBR1.out.at 4 _ rfl
    obtain ⟨m5, n5⟩ := HBR1.out.at 5 _ rfl
    have sQ : w1.heap.size < wq.heap.size := HBR1.out.lt
    have HD1 : Hid (Dr cb w wq) := Lib.hid ((HD.out.ext bxt).trans hq)
    go_wp2_with fail
    go_meet
    exact ⟨_, _, _, _, _, HBR1.out.put1 4 _ rfl, HBZ1.out.set (p := ⟨w1.heap.size, 4, none⟩) (by show w1.heap.size ≠ w.heap.size; omega) _, HD1.out.setCell (p := ⟨w1.heap.size, 4, none⟩) (by show w.heap.size ≤ w1.heap.size; omega) _, by omega, htm⟩
  obtain ⟨v2, hv2⟩ : ∃ x, x = wc := ⟨_, rfl⟩
  subst hv2
  clear HS
  have HS := hcut; clear hcut
  go_upto_region 9 with fail
  go_cut [36] (fun u wx => ∃ t : Bool, u = .bool t ∧ RSt cb w w1.heap.size (1 + k) wx)
  case first =>
    go_wp2_with fail
    refine (l14Tagged_ex (1 + k) _).mono ?_
    rintro e wi ⟨r, rfl, hwi⟩
    subst hwi
    go_wp2_with fail
    go_meet
    exact ⟨_, rfl, HS⟩
  obtain ⟨u3, hu3⟩ : ∃ x, x = wc := ⟨_, rfl⟩
  subst hu3
  clear HS
  obtain ⟨t, rfl, HS⟩ := hcut
  go_upto_if 36 with fail
  go_cut [] (fun wx => RSt cb w w1.heap.size (1 + k) wx)
  case first =>
    cases t
    · go_wp2_with fail
      go_meet
      exact HS
    obtain ⟨n, u, f, nm, tx, hbr, hbz, hd, hnm, htm⟩ := HS
    obtain ⟨m0, n0⟩ := hbr.at 0 _ rfl
    obtain ⟨m1, n1⟩ := hbr.at 1 _ rfl
    obtain ⟨m2, n2⟩ := hbr.at 2 _ rfl
    obtain ⟨m3, n3⟩ := hbr.at 3 _ rfl
    obtain ⟨m4, n4⟩ := hbr.at 4 _ rfl
    obtain ⟨m5, n5⟩ := hbr.at 5 _ rfl
    have sM : w1.heap.size < u3.heap.size := hbr.lt
    have HBR := Lib.hid hbr; have HBZ := Lib.hid hbz; have HD := Lib.hid hd; have HCU := Lib.hid hd.cur; clear hbr hbz hd
    go_wp2_with fail
    refine (l1Pick_any cb 3 41 _ _ _ _ (HCU.out.ext bxt) (Rd.lit _ _ _ _ 1 _ rfl rfl (by omega)) (by omega) (by omega) (by rfl) (fun b o e => by have hq := (HCU.out).lt; simp at e; (try simp at hq); omega)).mono ?_
    rintro e wq ⟨x, hx, rfl, hq⟩
    have HBR1 := Lib.hid ((HBR.out.ext (w' := _) bxt).dr hq (by omega)); have HBZ1 := Lib.hid ((HBZ.out.ext (w' := _) bxt).dr hq (by omega))
    obtain ⟨m0, n0⟩ := HBR1.out.at 0 _ rfl
    obtain ⟨m1, n1⟩ := HBR1.out.at 1 _ rfl
    obtain ⟨m2, n2⟩ := HBR1.out.at 2 _ rfl
    obtain ⟨m3, n3⟩ := HBR1.out.at 3 _ rfl
    obtain ⟨m4, n4⟩ := HBR1.out.at 4 _ rfl
    obtain ⟨m5, n5⟩ := HBR1.out.at 5 _ rfl
    have sQ : w1.heap.size < wq.heap.size := HBR1.out.lt
    have HD1 : Hid (Dr cb w wq) := Lib.hid ((HD.out.ext bxt).trans hq)
    go_wp2_with fail
    go_meet
    exact ⟨_, _, _, _, _, HBR1.out.put1 4 _ rfl, HBZ1.out.set (p := ⟨w1.heap.size, 4, none⟩) (by show w1.heap.size ≠ w.heap.size; omega) _, HD1.out.setCell (p := ⟨w1.heap.size, 4, none⟩) (by show w.heap.size ≤ w1.heap.size; omega) _, by omega, htm⟩
  obtain ⟨v3, hv3⟩ : ∃ x, x = wc := ⟨_, rfl⟩
  subst hv3
  clear HS
  have HS := hcut; clear hcut
  go_upto_region 11 with fail
  go_cut [42] (fun u wx => ∃ t : Bool, u = .bool t ∧ RSt cb w w1.heap.size (1 + k) wx)
  case first =>
    go_wp2_with fail
    go_meet
    exact ⟨_, rfl, HS⟩
  obtain ⟨u4, hu4⟩ : ∃ x, x = wc := ⟨_, rfl⟩
  subst hu4
  clear HS
  obtain ⟨t, rfl, HS⟩ := hcut
  go_upto_if 42 with fail
  go_cut [] (fun wx => RSt cb w w1.heap.size (1 + k) wx)
  case first =>
    cases t
    · go_wp2_with fail
      go_meet
      exact HS
    obtain ⟨n, u, f, nm, tx, hbr, hbz, hd, hnm, htm⟩ := HS
    obtain ⟨m0, n0⟩ := hbr.at 0 _ rfl
    obtain ⟨m1, n1⟩ := hbr.at 1 _ rfl
    obtain ⟨m2, n2⟩ := hbr.at 2 _ rfl
    obtain ⟨m3, n3⟩ := hbr.at 3 _ rfl
    obtain ⟨m4, n4⟩ := hbr.at 4 _ rfl
    obtain ⟨m5, n5⟩ := hbr.at 5 _ rfl
    have sM : w1.heap.size < u4.heap.size := hbr.lt
    have HBR := Lib.hid hbr; have HBZ := Lib.hid hbz; have HD := Lib.hid hd; have HCU := Lib.hid hd.cur; clear hbr hbz hd
    go_wp2_with fail
    refine (l1Below_any cb 32 _ (HCU.out.ext bxt) (by omega)).mono ?_
    rintro e wq ⟨x, ⟨x0, x1, -⟩, rfl, hq⟩
    have x1 := x1 (by omega)
    have HBR1 := Lib.hid ((HBR.out.ext (w' := _) bxt).dr hq (by omega)); have HBZ1 := Lib.hid ((HBZ.out.ext (w' := _) bxt).dr hq (by omega))
    obtain ⟨m0, n0⟩ := HBR1.out.at 0 _ rfl
    obtain ⟨m1, n1⟩ := HBR1.out.at 1 _ rfl
    obtain ⟨m2, n2⟩ := HBR1.out.at 2 _ rfl
    obtain ⟨m3, n3⟩ := HBR1.out.at 3 _ rfl
    obtain ⟨m4, n4⟩ := HBR1.out.at 4 _ rfl
    obtain ⟨m5, n5⟩ := HBR1.out.at 5 _ rfl
    have sQ : w1.heap.size < wq.heap.size := HBR1.out.lt
    have HD1 : Hid (Dr cb w wq) := Lib.hid ((HD.out.ext bxt).trans hq)
    go_wp2_with fail
    go_meet
    exact ⟨_, _, _, _, _, HBR1.out.put1 3 _ rfl, HBZ1.out.set (p := ⟨w1.heap.size, 3, none⟩) (by show w1.heap.size ≠ w.heap.size; omega) _, HD1.out.setCell (p := ⟨w1.heap.size, 3, none⟩) (by show w.heap.size ≤ w1.heap.size; omega) _, hnm, htm⟩
  obtain ⟨v4, hv4⟩ : ∃ x, x = wc := ⟨_, rfl⟩
  subst hv4
  clear HS
  have HS := hcut; clear hcut
  go_upto_region 13 with fail
  go_cut [47] (fun u wx => ∃ t : Bool, u = .bool t ∧ RSt cb w w1.heap.size (1 + k) wx)
  case first =>
    go_wp2_with fail
    go_meet
    exact ⟨_, rfl, HS⟩
  obtain ⟨u5, hu5⟩ : ∃ x, x = wc := ⟨_, rfl⟩
  subst hu5
  clear HS
  obtain ⟨t, rfl, HS⟩ := hcut
  go_upto_if 47 with fail
  go_cut [] (fun wx => RSt cb w w1.heap.size (1 + k) wx)
  case first =>
    cases t
    · go_wp2_with fail
      go_meet
      exact HS
    obtain ⟨n, u, f, nm, tx, hbr, hbz, hd, hnm, htm⟩ := HS
    obtain ⟨m0, n0⟩ := hbr.at 0 _ rfl
    obtain ⟨m1, n1⟩ := hbr.at 1 _ rfl
    obtain ⟨m2, n2⟩ := hbr.at 2 _ rfl
    obtain ⟨m3, n3⟩ := hbr.at 3 _ rfl
    obtain ⟨m4, n4⟩ := hbr.at 4 _ rfl
    obtain ⟨m5, n5⟩ := hbr.at 5 _ rfl
    have sM : w1.heap.size < u5.heap.size := hbr.lt
    have HBR := Lib.hid hbr; have HBZ := Lib.hid hbz; have HD := Lib.hid hd; have HCU := Lib.hid hd.cur; clear hbr hbz hd
    go_wp2_with fail
    refine (l7Body_any cb _ (HCU.out.ext bxt)).mono ?_
    rintro e wq ⟨x, hx, rfl, hq⟩
    have HBR1 := Lib.hid ((HBR.out.ext (w' := _) bxt).dr hq (by omega)); have HBZ1 := Lib.hid ((HBZ.out.ext (w' := _) bxt).dr hq (by omega))
    obtain ⟨m0, n0⟩ := HBR1.out.at 0 _ rfl
    obtain ⟨m1, n1⟩ := HBR1.out.at 1 _ rfl
    obtain ⟨m2, n2⟩ := HBR1.out.at 2 _ rfl
    obtain ⟨m3, n3⟩ := HBR1.out.at 3 _ rfl
    obtain ⟨m4, n4⟩ := HBR1.out.at 4 _ rfl
    obtain ⟨m5, n5⟩ := HBR1.out.at 5 _ rfl
    have sQ : w1.heap.size < wq.heap.size := HBR1.out.lt
    have HD1 : Hid (Dr cb w wq) := Lib.hid ((HD.out.ext bxt).trans hq)
    go_wp2_with fail
    go_meet
    exact ⟨_, _, _, _, _, HBR1.out.put1 5 _ rfl, HBZ1.out.set (p := ⟨w1.heap.size, 5, none⟩) (by show w1.heap.size ≠ w.heap.size; omega) _, HD1.out.setCell (p := ⟨w1.heap.size, 5, none⟩) (by show w.heap.size ≤ w1.heap.size; omega) _, hnm, by omega⟩
  obtain ⟨v5, hv5⟩ : ∃ x, x = wc := ⟨_, rfl⟩
  subst hv5
  clear HS
  have HS := hcut; clear hcut
  obtain ⟨n, u, f, nm, tx, hbr, hbz, hd, hnm, htm⟩ := HS
  obtain ⟨m0, n0⟩ := hbr.at 0 _ rfl
  obtain ⟨m1, n1⟩ := hbr.at 1 _ rfl
  obtain ⟨m2, n2⟩ := hbr.at 2 _ rfl
  obtain ⟨m3, n3⟩ := hbr.at 3 _ rfl
  obtain ⟨m4, n4⟩ := hbr.at 4 _ rfl
  obtain ⟨m5, n5⟩ := hbr.at 5 _ rfl
  obtain ⟨y0, z0⟩ := hbz.at 0 _ rfl
  obtain ⟨y1, z1⟩ := hbz.at 1 _ rfl
  obtain ⟨y2, z2⟩ := hbz.at 2 _ rfl
  obtain ⟨y3, z3⟩ := hbz.at 3 _ rfl
  obtain ⟨y4, z4⟩ := hbz.at 4 _ rfl
  obtain ⟨y5, z5⟩ := hbz.at 5 _ rfl
  have sM : w1.heap.size < v5.heap.size := hbr.lt; have sZ : w.heap.size < v5.heap.size := hbz.lt
  clear hbr hbz
  go_wp2_with fail
  refine bodyPost_ret (v := .agg #[.int .i64 (1 + k), .int .i64 n, .int .i64 u, .int .i64 f, .string nm, .string tx]) (by simp [results, Tryz.results45, go_sem, *]) rfl ⟨⟨1 + k, n, u, f, nm, tx⟩, rfl, dtx, hnm, htm⟩
end Go.Proofs.YtidfhkdonhjgaaaGreatDoor
