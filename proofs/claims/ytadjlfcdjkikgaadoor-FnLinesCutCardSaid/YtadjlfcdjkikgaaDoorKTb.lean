/-
  The draw of a reply.
  Applied and AppliedAll: what they leave, bounded; the contracts in the law's words.
  AppliedAll: the program's function and the reference's.
  A commit on a store: the plain law, and the rows that it leaves.
  The program's commit on a store behind a pointer: what it leaves.
  Whether a store is right: the plain law.
  Several commits on a store: the plain law.
  A commit that applies leaves valid mailboxes; the mailboxes of a valid store are valid: the plain law.
  What commits keep of mailboxes and of a store: the plain law.
  A commit keeps a store valid and its earlier states: the plain law.
  The contracts of commits, in the words of drawn mailboxes.
  The replies that tell a commit: the program's function and the reference's.
  The replies to a SELECT: the program's function and the reference's.
  The lines that are drawn: the loop's state.
  The lines that are drawn.
  A drawn text turned a little: l1Turned.
  The draws of the law of cut lines.
  The law FnLinesCut: its walk.
-/
import Derived.Test.YtadjlfcdjkikgaaDoorXDr
import Derived.Test.YtadjlfcdjkikgaaDoorTy
import Derived.Test.YtadjlfcdjkikgaaDoorCSmall
import Derived.Test.YtadjlfcdjkikgaaDoorXOwn
import Derived.Test.YtadjlfcdjkikgaaDoorXAppB
import Derived.Test.YtadjlfcdjkikgaaDoorXMarkS
import Derived.Test.YtadjlfcdjkikgaaDoorXPerf
import Derived.Test.YtadjlfcdjkikgaaDoorStrs
import Derived.Test.YtadjlfcdjkikgaaDoorDraw8
import Derived.Test.YtadjlfcdjkikgaaDoorWFollowed
import Derived.Test.YtadjlfcdjkikgaaDoorFamReply
import Derived.Test.YtadjlfcdjkikgaaDoorWBoxOk
import Derived.Test.YtadjlfcdjkikgaaDoorXDrA
import Derived.Test.YtadjlfcdjkikgaaDoorWViewOf
import Derived.Test.YtadjlfcdjkikgaaDoorKTa
import Derived.Deep.RegionHeldLaw
import Derived.Deep.DeepCutAuto
import Derived.BigQuiet
import Derived.Deep.RegionLaw
namespace Go.Proofs.YtadjlfcdjkikgaaDoor
open Go.RowKit
set_option linter.unusedVariables false
set_option linter.unusedSimpArgs false

/-- a reply that is drawn -/
def DrRp (cb : Nat) (w : World) (e : Ending) (w' : World) : Prop := ∃ r : DReply, e = .returned (.agg #[.int .i64 r.kind, .int .i64 r.n, .int .i64 r.uid, .int .i64 r.flags, .string r.name, .string r.text]) ∧ Dr cb w w' ∧ r.name.size ≤ 41 ∧ r.text.size ≤ 41
/-- the reply that is being drawn lies in block b -/
def RSt (cb : Nat) (w : World) (b : Nat) (kd : Int) (wx : World) : Prop := ∃ (n u f : Int) (nm tx : ByteArray), Bx wx b [.int .i64 kd, .int .i64 n, .int .i64 u, .int .i64 f, .string nm, .string tx] ∧ Bx wx w.heap.size [.int .i64 0, .int .i64 0, .int .i64 0, .int .i64 0, .string ⟨#[]⟩, .string ⟨#[]⟩] ∧ Dr cb w wx ∧ nm.size ≤ 41 ∧ tx.size ≤ 41
theorem l14Named_ex (n : Int) (w : World) : Calls Tryd.prog 44 #[.int .i64 n] w fun e w' => ∃ r : Bool, e = .returned (.bool r) ∧ w' = w := by
  go_enter Tryd.func44, Tryd.ntmps44
  go_wp2_with ((go_at_call 43; refine (l1In_dec n 5 8 _).mono ?_; rintro e w1 ⟨rfl, rfl⟩))
  go_ret
  exact ⟨_, rfl, rfl⟩
theorem l14Tagged_ex (n : Int) (w : World) : Calls Tryd.prog 45 #[.int .i64 n] w fun e w' => ∃ r : Bool, e = .returned (.bool r) ∧ w' = w := by
  go_enter Tryd.func45, Tryd.ntmps45
  go_wp2_with ((go_at_call 43; refine (l1In_dec n 12 14 _).mono ?_; rintro e w1 ⟨rfl, rfl⟩))
  go_ret
  exact ⟨_, rfl, rfl⟩
set_option maxRecDepth 100000 in
set_option maxHeartbeats 4000000 in
theorem l14Right_any (cb : Nat) (w : World) (hc : Cur w cb) :
    Calls Tryd.prog 84 #[.pointer (some ⟨cb, 0, none⟩)] w (DrRp cb w) := by
  have hcl := hc.lt
  have HC := Lib.hid hc
  clear hc
  go_enter Tryd.func84, Tryd.ntmps84
  go_wp2_with fail
  refine (l1Below_any cb 16 _ (HC.out.ext bxt) (by omega)).mono ?_
  rintro e w1 ⟨k, ⟨k0, k1, -⟩, rfl, hd1⟩
  have k1 := k1 (by omega)
  have hz1 := hd1.size; (try simp at hz1)
  have s1_0 : w.heap.size < w1.heap.size := (by omega)
  have c1_0_0 : w1.cell? ⟨w.heap.size, 0, none⟩ = some (.int .i64 0) := (hd1.cell (x := w.heap.size) (o := 0) smx (by omega)).trans kpx
  have f1_0_0 : w1.frozen? ⟨w.heap.size, 0, none⟩ = false := (hd1.frozen (x := w.heap.size) (o := 0) smx (by omega)).trans kfx
  have c1_0_1 : w1.cell? ⟨w.heap.size, 1, none⟩ = some (.int .i64 0) := (hd1.cell (x := w.heap.size) (o := 1) smx (by omega)).trans kpx
  have f1_0_1 : w1.frozen? ⟨w.heap.size, 1, none⟩ = false := (hd1.frozen (x := w.heap.size) (o := 1) smx (by omega)).trans kfx
  have c1_0_2 : w1.cell? ⟨w.heap.size, 2, none⟩ = some (.int .i64 0) := (hd1.cell (x := w.heap.size) (o := 2) smx (by omega)).trans kpx
  have f1_0_2 : w1.frozen? ⟨w.heap.size, 2, none⟩ = false := (hd1.frozen (x := w.heap.size) (o := 2) smx (by omega)).trans kfx
  have c1_0_3 : w1.cell? ⟨w.heap.size, 3, none⟩ = some (.int .i64 0) := (hd1.cell (x := w.heap.size) (o := 3) smx (by omega)).trans kpx
  have f1_0_3 : w1.frozen? ⟨w.heap.size, 3, none⟩ = false := (hd1.frozen (x := w.heap.size) (o := 3) smx (by omega)).trans kfx
  have c1_0_4 : w1.cell? ⟨w.heap.size, 4, none⟩ = some (.string ⟨#[]⟩) := (hd1.cell (x := w.heap.size) (o := 4) smx (by omega)).trans kpx
  have f1_0_4 : w1.frozen? ⟨w.heap.size, 4, none⟩ = false := (hd1.frozen (x := w.heap.size) (o := 4) smx (by omega)).trans kfx
  have c1_0_5 : w1.cell? ⟨w.heap.size, 5, none⟩ = some (.string ⟨#[]⟩) := (hd1.cell (x := w.heap.size) (o := 5) smx (by omega)).trans kpx
  have f1_0_5 : w1.frozen? ⟨w.heap.size, 5, none⟩ = false := (hd1.frozen (x := w.heap.size) (o := 5) smx (by omega)).trans kfx
  go_upto_region 3 with fail
  refine wp_world (fun wa hwa => ?_)
  have HS : RSt cb w w1.heap.size (1 + k) wa := by (rw [hwa]; exact ⟨0, 0, 0, ⟨#[]⟩, ⟨#[]⟩, Bx.mk rfl _ rfl, (((Bx.ext (Bx.mk rfl _ rfl) bxt).dr hd1 (by omega)).ext (w' := w1.alloc _) bxt), dtx, by decide, by decide⟩)
  have hnb : w.heap.size < w1.heap.size := s1_0
  clear hwa hz1 s1_0 c1_0_0 f1_0_0 c1_0_1 f1_0_1 c1_0_2 f1_0_2 c1_0_3 f1_0_3 c1_0_4 f1_0_4 c1_0_5 f1_0_5 hd1
  go_cut [15] (fun u wx => ∃ t : Bool, u = .bool t ∧ RSt cb w w1.heap.size (1 + k) wx)
  case first =>
    obtain ⟨r, hr⟩ := boolOf ((1 : Int) ≤ 1 + k ∧ 1 + k ≤ 5)
    go_wp2_with fail
    refine (l1In_any (1 + k) 1 5 _ r (Lib.hid hr)).mono ?_
    rintro e wi ⟨rfl, hwi⟩
    subst hwi
    clear hr
    cases r <;> (go_wp2_with fail; go_meet; exact ⟨_, rfl, HS⟩)
  obtain ⟨u0, hu0⟩ : ∃ x, x = wc := ⟨_, rfl⟩
  subst hu0
  clear HS
  obtain ⟨t, rfl, HS⟩ := hcut
  go_upto_if 15 with fail
  go_cut [] (fun wx => RSt cb w w1.heap.size (1 + k) wx)
  case first =>
    cases t
    · go_wp2_with fail
      go_meet
      exact HS
    obtain ⟨n, u, f, nm, tx, hbr, hbz, hd, hnm, htm⟩ := HS
    obtain ⟨m0, n0⟩ := hbr.at 0 _ rfl
    obtain ⟨m1, n1⟩ := hbr.at 1 _ rfl
    obtain ⟨m2, n2⟩ := hbr.at 2 _ rfl
    obtain ⟨m3, n3⟩ := hbr.at 3 _ rfl
    obtain ⟨m4, n4⟩ := hbr.at 4 _ rfl
    obtain ⟨m5, n5⟩ := hbr.at 5 _ rfl
    have sM : w1.heap.size < u0.heap.size := hbr.lt
    have HBR := Lib.hid hbr; have HBZ := Lib.hid hbz; have HD := Lib.hid hd; have HCU := Lib.hid hd.cur; clear hbr hbz hd
    go_wp2_with fail
    refine (l1Below_any cb 7 _ (HCU.out.ext bxt) (by omega)).mono ?_
    rintro e wq ⟨x, ⟨x0, x1, -⟩, rfl, hq⟩
    have x1 := x1 (by omega)
    have HBR1 := Lib.hid ((HBR.out.ext (w' := _) bxt).dr hq (by omega)); have HBZ1 := Lib.hid ((HBZ.out.ext (w' := _) bxt).dr hq (by omega))
    obtain ⟨m0, n0⟩ := HBR1.out.at 0 _ rfl
    obtain ⟨m1, n1⟩ := HBR1.out.at 1 _ rfl
    obtain ⟨m2, n2⟩ := HBR1.out.at 2 _ rfl
    obtain ⟨m3, n3⟩ := HBR1.out.at 3 _ rfl
    obtain ⟨m4, n4⟩ := HBR1.out.at 4 _ rfl
    obtain ⟨m5, n5⟩ := HBR1.out.at 5 _ rfl
    have sQ : w1.heap.size < wq.heap.size := HBR1.out.lt
    have HD1 : Hid (Dr cb w wq) := Lib.hid ((HD.out.ext bxt).trans hq)
    go_wp2_with fail
    go_meet
    exact ⟨_, _, _, _, _, HBR1.out.put1 1 _ rfl, HBZ1.out.set (p := ⟨w1.heap.size, 1, none⟩) (by show w1.heap.size ≠ w.heap.size; omega) _, HD1.out.setCell (p := ⟨w1.heap.size, 1, none⟩) (by show w.heap.size ≤ w1.heap.size; omega) _, hnm, htm⟩
  obtain ⟨v0, hv0⟩ : ∃ x, x = wc := ⟨_, rfl⟩
  subst hv0
  clear HS
  have HS := hcut; clear hcut
  go_upto_region 5 with fail
  go_cut [25] (fun u wx => ∃ t : Bool, u = .bool t ∧ RSt cb w w1.heap.size (1 + k) wx)
  case first =>
    by_cases h3 : 1 + k = 3
    · have e3 : (1 + k == 3) = true := by simpa using h3
      go_wp2_with fail
      go_meet
      exact ⟨_, rfl, HS⟩
    · have e3 : (1 + k == 3) = false := by simpa using h3
      go_wp2_with fail
      go_meet
      exact ⟨_, rfl, HS⟩
  obtain ⟨u1, hu1⟩ : ∃ x, x = wc := ⟨_, rfl⟩
  subst hu1
  clear HS
  obtain ⟨t, rfl, HS⟩ := hcut
  go_upto_if 25 with fail
  go_cut [] (fun wx => RSt cb w w1.heap.size (1 + k) wx)
  case first =>
    cases t
    · go_wp2_with fail
      go_meet
      exact HS
    obtain ⟨n, u, f, nm, tx, hbr, hbz, hd, hnm, htm⟩ := HS
    obtain ⟨m0, n0⟩ := hbr.at 0 _ rfl
    obtain ⟨m1, n1⟩ := hbr.at 1 _ rfl
    obtain ⟨m2, n2⟩ := hbr.at 2 _ rfl
    obtain ⟨m3, n3⟩ := hbr.at 3 _ rfl
    obtain ⟨m4, n4⟩ := hbr.at 4 _ rfl
    obtain ⟨m5, n5⟩ := hbr.at 5 _ rfl
    have sM : w1.heap.size < u1.heap.size := hbr.lt
    have HBR := Lib.hid hbr; have HBZ := Lib.hid hbz; have HD := Lib.hid hd; have HCU := Lib.hid hd.cur; clear hbr hbz hd
    go_wp2_with fail
    refine (l1Below_any cb 9 _ (HCU.out.ext bxt) (by omega)).mono ?_
    rintro e wq ⟨x, ⟨x0, x1, -⟩, rfl, hq⟩
    have x1 := x1 (by omega)
    have HBR1 := Lib.hid ((HBR.out.ext (w' := _) bxt).dr hq (by omega)); have HBZ1 := Lib.hid ((HBZ.out.ext (w' := _) bxt).dr hq (by omega))
    obtain ⟨m0, n0⟩ := HBR1.out.at 0 _ rfl
    obtain ⟨m1, n1⟩ := HBR1.out.at 1 _ rfl
    obtain ⟨m2, n2⟩ := HBR1.out.at 2 _ rfl
    obtain ⟨m3, n3⟩ := HBR1.out.at 3 _ rfl
    obtain ⟨m4, n4⟩ := HBR1.out.at 4 _ rfl
    obtain ⟨m5, n5⟩ := HBR1.out.at 5 _ rfl
    have sQ : w1.heap.size < wq.heap.size := HBR1.out.lt
    have HD1 : Hid (Dr cb w wq) := Lib.hid ((HD.out.ext bxt).trans hq)
    go_wp2_with fail
    go_meet
    exact ⟨_, _, _, _, _, HBR1.out.put1 2 _ rfl, HBZ1.out.set (p := ⟨w1.heap.size, 2, none⟩) (by show w1.heap.size ≠ w.heap.size; omega) _, HD1.out.setCell (p := ⟨w1.heap.size, 2, none⟩) (by show w.heap.size ≤ w1.heap.size; omega) _, hnm, htm⟩
  obtain ⟨v1, hv1⟩ : ∃ x, x = wc := ⟨_, rfl⟩
  subst hv1
  clear HS
  have HS := hcut; clear hcut
  go_upto_region 7 with fail
  go_cut [31] (fun u wx => ∃ t : Bool, u = .bool t ∧ RSt cb w w1.heap.size (1 + k) wx)
  case first =>
    go_wp2_with fail
    refine (l14Named_ex (1 + k) _).mono ?_
    rintro e wi ⟨r, rfl, hwi⟩
    subst hwi
    go_wp2_with fail
    go_meet
    exact ⟨_, rfl, HS⟩
  obtain ⟨u2, hu2⟩ : ∃ x, x = wc := ⟨_, rfl⟩
  subst hu2
  clear HS
  obtain ⟨t, rfl, HS⟩ := hcut
  go_upto_if 31 with fail
  go_cut [] (fun wx => RSt cb w w1.heap.size (1 + k) wx)
  case first =>
    cases t
    · go_wp2_with fail
      go_meet
      exact HS
    obtain ⟨n, u, f, nm, tx, hbr, hbz, hd, hnm, htm⟩ := HS
    obtain ⟨m0, n0⟩ := hbr.at 0 _ rfl
    obtain ⟨m1, n1⟩ := hbr.at 1 _ rfl
    obtain ⟨m2, n2⟩ := hbr.at 2 _ rfl
    obtain ⟨m3, n3⟩ := hbr.at 3 _ rfl
    obtain ⟨m4, n4⟩ := hbr.at 4 _ rfl
    obtain ⟨m5, n5⟩ := hbr.at 5 _ rfl
    have sM : w1.heap.size < u2.heap.size := hbr.lt
    have HBR := Lib.hid hbr; have HBZ := Lib.hid hbz; have HD := Lib.hid hd; have HCU := Lib.hid hd.cur; clear hbr hbz hd
    go_wp2_with fail
    refine (l2Name_any cb _ (HCU.out.ext bxt)).mono ?_
    rintro e wq ⟨x, hx, rfl, hq⟩
    have HBR1 := Lib.hid ((HBR.out.ext (w' := _) bxt).dr hq (by omega)); have HBZ1 := Lib.hid ((HBZ.out.ext (w' := _) bxt).dr hq (by omega))
    obtain ⟨m0, n0⟩ := HBR1.out.at 0 _ rfl
    obtain ⟨m1, n1⟩ := HBR1.out.at 1 _ rfl
    obtain ⟨m2, n2⟩ := HBR1.out.at 2 _ rfl
    obtain ⟨m3, n3⟩ := HBR1.out.at 3 _ rfl
    obtain ⟨m4, n4⟩ := HBR1.out.at 4 _ rfl
    obtain ⟨m5, n5⟩ := HBR1.out.at 5 _ rfl
    have sQ : w1.heap.size < wq.heap.size := HBR1.out.lt
    have HD1 : Hid (Dr cb w wq) := Lib.hid ((HD.out.ext bxt).trans hq)
    go_wp2_with fail
    go_meet
    exact ⟨_, _, _, _, _, HBR1.out.put1 4 _ rfl, HBZ1.out.set (p := ⟨w1.heap.size, 4, none⟩) (by show w1.heap.size ≠ w.heap.size; omega) _, HD1.out.setCell (p := ⟨w1.heap.size, 4, none⟩) (by show w.heap.size ≤ w1.heap.size; omega) _, by omega, htm⟩
  obtain ⟨v2, hv2⟩ : ∃ x, x = wc := ⟨_, rfl⟩
  subst hv2
  clear HS
  have HS := hcut; clear hcut
  go_upto_region 9 with fail
  go_cut [36] (fun u wx => ∃ t : Bool, u = .bool t ∧ RSt cb w w1.heap.size (1 + k) wx)
  case first =>
    go_wp2_with fail
    refine (l14Tagged_ex (1 + k) _).mono ?_
    rintro e wi ⟨r, rfl, hwi⟩
    subst hwi
    go_wp2_with fail
    go_meet
    exact ⟨_, rfl, HS⟩
  obtain ⟨u3, hu3⟩ : ∃ x, x = wc := ⟨_, rfl⟩
  subst hu3
  clear HS
  obtain ⟨t, rfl, HS⟩ := hcut
  go_upto_if 36 with fail
  go_cut [] (fun wx => RSt cb w w1.heap.size (1 + k) wx)
  case first =>
    cases t
    · go_wp2_with fail
      go_meet
      exact HS
    obtain ⟨n, u, f, nm, tx, hbr, hbz, hd, hnm, htm⟩ := HS
    obtain ⟨m0, n0⟩ := hbr.at 0 _ rfl
    obtain ⟨m1, n1⟩ := hbr.at 1 _ rfl
    obtain ⟨m2, n2⟩ := hbr.at 2 _ rfl
    obtain ⟨m3, n3⟩ := hbr.at 3 _ rfl
    obtain ⟨m4, n4⟩ := hbr.at 4 _ rfl
    obtain ⟨m5, n5⟩ := hbr.at 5 _ rfl
    have sM : w1.heap.size < u3.heap.size := hbr.lt
    have HBR := Lib.hid hbr; have HBZ := Lib.hid hbz; have HD := Lib.hid hd; have HCU := Lib.hid hd.cur; clear hbr hbz hd
    go_wp2_with fail
    refine (l1Pick_any cb 3 41 _ _ _ _ (HCU.out.ext bxt) (Rd.lit _ _ _ _ 1 _ rfl rfl (by omega)) (by omega) (by omega) (by rfl) (fun b o e => by have hq := (HCU.out).lt; simp at e; (try simp at hq); omega)).mono ?_
    rintro e wq ⟨x, hx, rfl, hq⟩
    have HBR1 := Lib.hid ((HBR.out.ext (w' := _) bxt).dr hq (by omega)); have HBZ1 := Lib.hid ((HBZ.out.ext (w' := _) bxt).dr hq (by omega))
    obtain ⟨m0, n0⟩ := HBR1.out.at 0 _ rfl
    obtain ⟨m1, n1⟩ := HBR1.out.at 1 _ rfl
    obtain ⟨m2, n2⟩ := HBR1.out.at 2 _ rfl
    obtain ⟨m3, n3⟩ := HBR1.out.at 3 _ rfl
    obtain ⟨m4, n4⟩ := HBR1.out.at 4 _ rfl
    obtain ⟨m5, n5⟩ := HBR1.out.at 5 _ rfl
    have sQ : w1.heap.size < wq.heap.size := HBR1.out.lt
    have HD1 : Hid (Dr cb w wq) := Lib.hid ((HD.out.ext bxt).trans hq)
    go_wp2_with fail
    go_meet
    exact ⟨_, _, _, _, _, HBR1.out.put1 4 _ rfl, HBZ1.out.set (p := ⟨w1.heap.size, 4, none⟩) (by show w1.heap.size ≠ w.heap.size; omega) _, HD1.out.setCell (p := ⟨w1.heap.size, 4, none⟩) (by show w.heap.size ≤ w1.heap.size; omega) _, by omega, htm⟩
  obtain ⟨v3, hv3⟩ : ∃ x, x = wc := ⟨_, rfl⟩
  subst hv3
  clear HS
  have HS := hcut; clear hcut
  go_upto_region 11 with fail
  go_cut [42] (fun u wx => ∃ t : Bool, u = .bool t ∧ RSt cb w w1.heap.size (1 + k) wx)
  case first =>
    go_wp2_with fail
    go_meet
    exact ⟨_, rfl, HS⟩
  obtain ⟨u4, hu4⟩ : ∃ x, x = wc := ⟨_, rfl⟩
  subst hu4
  clear HS
  obtain ⟨t, rfl, HS⟩ := hcut
  go_upto_if 42 with fail
  go_cut [] (fun wx => RSt cb w w1.heap.size (1 + k) wx)
  case first =>
    cases t
    · go_wp2_with fail
      go_meet
      exact HS
    obtain ⟨n, u, f, nm, tx, hbr, hbz, hd, hnm, htm⟩ := HS
    obtain ⟨m0, n0⟩ := hbr.at 0 _ rfl
    obtain ⟨m1, n1⟩ := hbr.at 1 _ rfl
    obtain ⟨m2, n2⟩ := hbr.at 2 _ rfl
    obtain ⟨m3, n3⟩ := hbr.at 3 _ rfl
    obtain ⟨m4, n4⟩ := hbr.at 4 _ rfl
    obtain ⟨m5, n5⟩ := hbr.at 5 _ rfl
    have sM : w1.heap.size < u4.heap.size := hbr.lt
    have HBR := Lib.hid hbr; have HBZ := Lib.hid hbz; have HD := Lib.hid hd; have HCU := Lib.hid hd.cur; clear hbr hbz hd
    go_wp2_with fail
    refine (l1Below_any cb 32 _ (HCU.out.ext bxt) (by omega)).mono ?_
    rintro e wq ⟨x, ⟨x0, x1, -⟩, rfl, hq⟩
    have x1 := x1 (by omega)
    have HBR1 := Lib.hid ((HBR.out.ext (w' := _) bxt).dr hq (by omega)); have HBZ1 := Lib.hid ((HBZ.out.ext (w' := _) bxt).dr hq (by omega))
    obtain ⟨m0, n0⟩ := HBR1.out.at 0 _ rfl
    obtain ⟨m1, n1⟩ := HBR1.out.at 1 _ rfl
    obtain ⟨m2, n2⟩ := HBR1.out.at 2 _ rfl
    obtain ⟨m3, n3⟩ := HBR1.out.at 3 _ rfl
    obtain ⟨m4, n4⟩ := HBR1.out.at 4 _ rfl
    obtain ⟨m5, n5⟩ := HBR1.out.at 5 _ rfl
    have sQ : w1.heap.size < wq.heap.size := HBR1.out.lt
    have HD1 : Hid (Dr cb w wq) := Lib.hid ((HD.out.ext bxt).trans hq)
    go_wp2_with fail
    go_meet
    exact ⟨_, _, _, _, _, HBR1.out.put1 3 _ rfl, HBZ1.out.set (p := ⟨w1.heap.size, 3, none⟩) (by show w1.heap.size ≠ w.heap.size; omega) _, HD1.out.setCell (p := ⟨w1.heap.size, 3, none⟩) (by show w.heap.size ≤ w1.heap.size; omega) _, hnm, htm⟩
  obtain ⟨v4, hv4⟩ : ∃ x, x = wc := ⟨_, rfl⟩
  subst hv4
  clear HS
  have HS := hcut; clear hcut
  go_upto_region 13 with fail
  go_cut [47] (fun u wx => ∃ t : Bool, u = .bool t ∧ RSt cb w w1.heap.size (1 + k) wx)
  case first =>
    go_wp2_with fail
    go_meet
    exact ⟨_, rfl, HS⟩
  obtain ⟨u5, hu5⟩ : ∃ x, x = wc := ⟨_, rfl⟩
  subst hu5
  clear HS
  obtain ⟨t, rfl, HS⟩ := hcut
  go_upto_if 47 with fail
  go_cut [] (fun wx => RSt cb w w1.heap.size (1 + k) wx)
  case first =>
    cases t
    · go_wp2_with fail
      go_meet
      exact HS
    obtain ⟨n, u, f, nm, tx, hbr, hbz, hd, hnm, htm⟩ := HS
    obtain ⟨m0, n0⟩ := hbr.at 0 _ rfl
    obtain ⟨m1, n1⟩ := hbr.at 1 _ rfl
    obtain ⟨m2, n2⟩ := hbr.at 2 _ rfl
    obtain ⟨m3, n3⟩ := hbr.at 3 _ rfl
    obtain ⟨m4, n4⟩ := hbr.at 4 _ rfl
    obtain ⟨m5, n5⟩ := hbr.at 5 _ rfl
    have sM : w1.heap.size < u5.heap.size := hbr.lt
    have HBR := Lib.hid hbr; have HBZ := Lib.hid hbz; have HD := Lib.hid hd; have HCU := Lib.hid hd.cur; clear hbr hbz hd
    go_wp2_with fail
    refine (l7Body_any cb _ (HCU.out.ext bxt)).mono ?_
    rintro e wq ⟨x, hx, rfl, hq⟩
    have HBR1 := Lib.hid ((HBR.out.ext (w' := _) bxt).dr hq (by omega)); have HBZ1 := Lib.hid ((HBZ.out.ext (w' := _) bxt).dr hq (by omega))
    obtain ⟨m0, n0⟩ := HBR1.out.at 0 _ rfl
    obtain ⟨m1, n1⟩ := HBR1.out.at 1 _ rfl
    obtain ⟨m2, n2⟩ := HBR1.out.at 2 _ rfl
    obtain ⟨m3, n3⟩ := HBR1.out.at 3 _ rfl
    obtain ⟨m4, n4⟩ := HBR1.out.at 4 _ rfl
    obtain ⟨m5, n5⟩ := HBR1.out.at 5 _ rfl
    have sQ : w1.heap.size < wq.heap.size := HBR1.out.lt
    have HD1 : Hid (Dr cb w wq) := Lib.hid ((HD.out.ext bxt).trans hq)
    go_wp2_with fail
    go_meet
    exact ⟨_, _, _, _, _, HBR1.out.put1 5 _ rfl, HBZ1.out.set (p := ⟨w1.heap.size, 5, none⟩) (by show w1.heap.size ≠ w.heap.size; omega) _, HD1.out.setCell (p := ⟨w1.heap.size, 5, none⟩) (by show w.heap.size ≤ w1.heap.size; omega) _, hnm, by omega⟩
  obtain ⟨v5, hv5⟩ : ∃ x, x = wc := ⟨_, rfl⟩
  subst hv5
  clear HS
  have HS := hcut; clear hcut
  obtain ⟨n, u, f, nm, tx, hbr, hbz, hd, hnm, htm⟩ := HS
  obtain ⟨m0, n0⟩ := hbr.at 0 _ rfl
  obtain ⟨m1, n1⟩ := hbr.at 1 _ rfl
  obtain ⟨m2, n2⟩ := hbr.at 2 _ rfl
  obtain ⟨m3, n3⟩ := hbr.at 3 _ rfl
  obtain ⟨m4, n4⟩ := hbr.at 4 _ rfl
  obtain ⟨m5, n5⟩ := hbr.at 5 _ rfl
  obtain ⟨y0, z0⟩ := hbz.at 0 _ rfl
  obtain ⟨y1, z1⟩ := hbz.at 1 _ rfl
  obtain ⟨y2, z2⟩ := hbz.at 2 _ rfl
  obtain ⟨y3, z3⟩ := hbz.at 3 _ rfl
  obtain ⟨y4, z4⟩ := hbz.at 4 _ rfl
  obtain ⟨y5, z5⟩ := hbz.at 5 _ rfl
  have sM : w1.heap.size < v5.heap.size := hbr.lt; have sZ : w.heap.size < v5.heap.size := hbz.lt
  clear hbr hbz
  go_wp2_with fail
  refine bodyPost_ret (v := .agg #[.int .i64 (1 + k), .int .i64 n, .int .i64 u, .int .i64 f, .string nm, .string tx]) (by simp [results, Tryd.results84, go_sem, *]) rfl ⟨⟨1 + k, n, u, f, nm, tx⟩, rfl, dtx, hnm, htm⟩
end Go.Proofs.YtadjlfcdjkikgaaDoor

namespace Go.Proofs.YtadjlfcdjkikgaaDoor
open Go.RowKit
set_option linter.unusedVariables false
set_option linter.unusedSimpArgs false

/-- one commit: what is left, and whether it applied -/
def AppRel (l : List DBox) (m : DCommit) (rr : List DBox) (rok : Bool) : Prop := Tells rok (AppliesP l m) ∧ (if rok then appD l m else l) = rr
theorem appRel_ex (l : List DBox) (m : DCommit) : ∃ rr rok, AppRel l m rr rok := by
  obtain ⟨b, hb⟩ := boolOf (AppliesP l m)
  exact ⟨_, b, hb, rfl⟩
theorem specApplied_law (l : List PBox) (a : Option Addr) (c : Nat) (m : DCommit) (w : World) (R : Rd w a c 4 l.length (l.flatMap PBox.cells)) (M : RdM w l) (hl : l.length ≤ 1048576) (hlm : ∀ y ∈ l, y.msgs.length ≤ 1048576) (gn : ∀ y ∈ l, y.name.size ≤ 9223372036854775807) (gt : ∀ y ∈ l, ∀ m ∈ y.msgs, m.text.size ≤ 9223372036854775807) (g1 : m.name.size ≤ 9223372036854775807) (g2 : m.text.size ≤ 9223372036854775807) (rr : List DBox) (rok : Bool) (H : Hid (AppRel (l.map PBox.box) m rr rok)) :
    Calls Tryd.prog 81 #[.slice a l.length c, .agg #[.int .i64 m.kind, .int .i64 m.validity, .int .i64 m.uid, .int .i64 m.flags, .string m.name, .string m.text]] w fun e w' => ∃ g q l', e = .returned (.tuple #[.slice g l'.length q, .bool rok]) ∧ OwnBs w' w.heap.size 85 111 g q l' ∧ l'.map PBox.box = rr ∧ Ext w w' := by
  obtain ⟨h1, rfl⟩ := H.out
  exact specApplied_any l a c m w R M hl hlm gn gt g1 g2 rok h1
end Go.Proofs.YtadjlfcdjkikgaaDoor

namespace Go.Proofs.YtadjlfcdjkikgaaDoor
open Go.RowKit
set_option linter.unusedVariables false
set_option linter.unusedSimpArgs false

end Go.Proofs.YtadjlfcdjkikgaaDoor

namespace Go.Proofs.YtadjlfcdjkikgaaDoor
open Go.RowKit
set_option linter.unusedVariables false
set_option linter.unusedSimpArgs false

structure DStore where
  boxes : List DBox
  log : List DCommit
  given : Int
theorem OwnBs.set_ne {w : World} {B E EM c : Nat} {a : Option Addr} {l : List PBox} (h : OwnBs w B E EM a c l) {p : Addr} (hp : ∀ k, rowsB a c l k → k ≠ p.block) (u : Value) : OwnBs (w.setCell p u) B E EM a c l :=
  h.chg (S := fun k => k = p.block) (Chg.set (S := fun k => k = p.block) (Chg.refl _ w) rfl u) (fun k hk e => hp k hk e)
theorem OwnSt.set_ne {w : World} {B E EM EC : Nat} {ba la : Option Addr} {bc lc : Nat} {zs : List PBox} {l : List DCommit} (h : OwnSt w B E EM EC ba bc zs la lc l) {p : Addr} (hp : ∀ k, rowsS ba bc zs la lc l.length k → k ≠ p.block) (u : Value) : OwnSt (w.setCell p u) B E EM EC ba bc zs la lc l :=
  h.chg (S := fun k => k = p.block) (Chg.set (S := fun k => k = p.block) (Chg.refl _ w) rfl u) (fun k hk e => hp k hk e)
end Go.Proofs.YtadjlfcdjkikgaaDoor

namespace Go.Proofs.YtadjlfcdjkikgaaDoor
open Go.RowKit
set_option linter.unusedVariables false
set_option linter.unusedSimpArgs false

/-- a store of the call's own behind a pointer to block b -/
structure StB (w : World) (b B E EM EC : Nat) (ga : Option Addr) (q : Nat) (zs : List PBox) (la : Option Addr) (lc : Nat) (l : List DCommit) (gv : Int) : Prop where
  own : OwnSt w B E EM EC ga q zs la lc l
  lt : b < w.heap.size
  off : ∀ k, rowsS ga q zs la lc l.length k → k ≠ b
  c0 : w.cell? ⟨b, 0, none⟩ = some (.slice ga zs.length q)
  c1 : w.cell? ⟨b, 1, none⟩ = some (.slice la l.length lc)
  c2 : w.cell? ⟨b, 2, none⟩ = some (.int .i64 gv)
  f0 : w.frozen? ⟨b, 0, none⟩ = false
  f1 : w.frozen? ⟨b, 1, none⟩ = false
  f2 : w.frozen? ⟨b, 2, none⟩ = false
theorem StB.chg {S : Nat → Prop} {w w' : World} {b B E EM EC q lc : Nat} {ga la : Option Addr} {zs : List PBox} {l : List DCommit} {gv : Int} (h : StB w b B E EM EC ga q zs la lc l gv) (hb : Chg S w w') (h1 : ¬ S b) (h2 : ∀ k, rowsS ga q zs la lc l.length k → ¬ S k) : StB w' b B E EM EC ga q zs la lc l gv :=
  ⟨h.own.chg hb h2, Nat.lt_of_lt_of_le h.lt hb.size, h.off, (hb.cell h.lt h1).trans h.c0, (hb.cell h.lt h1).trans h.c1, (hb.cell h.lt h1).trans h.c2, (hb.frozen h.lt h1).trans h.f0, (hb.frozen h.lt h1).trans h.f1, (hb.frozen h.lt h1).trans h.f2⟩
theorem StB.ext {w w' : World} {b B E EM EC q lc : Nat} {ga la : Option Addr} {zs : List PBox} {l : List DCommit} {gv : Int} (h : StB w b B E EM EC ga q zs la lc l gv) (hb : Ext w w') : StB w' b B E EM EC ga q zs la lc l gv :=
  h.chg (S := fun _ => False) (Chg.ext hb) (fun h => h) (fun _ _ h => h)
/-- a store behind the pointer, come out of the world w in which only the blocks in S may have changed -/
def StTo (S : Nat → Prop) (w : World) (b B E EM EC : Nat) (rs : DStore) (w' : World) : Prop :=
  ∃ ga q zs la lc, StB w' b B E EM EC ga q zs la lc rs.log rs.given ∧ zs.map PBox.box = rs.boxes ∧ Chg S w w' ∧ ∀ k, rowsS ga q zs la lc rs.log.length k → S k ∨ w.heap.size < k
theorem StB.boxes {S : Nat → Prop} {w w3 w5 : World} {b B E EM EC q lc q5 : Nat} {ga la g5 : Option Addr} {zs l5 : List PBox} {l : List DCommit} {gv : Int} {D : List DBox} (h : StB w3 b B E EM EC ga q zs la lc l gv) (hw : Ext w w3) (hlt : w.heap.size < w3.heap.size) (hS : ∀ k, (k = b ∨ rowsS ga q zs la lc l.length k) → S k)
    (hc : Chg (rowsB ga q zs) w3 w5) (ho : OwnBs w5 B E EM g5 q5 l5) (hn : NewR (rowsB ga q zs) w3 g5 q5 l5) (hd : l5.map PBox.box = D) : StTo S w b B E EM EC ⟨D, l, gv⟩ (w5.setCell ⟨b, 0, none⟩ (.slice g5 l5.length q5)) := by
  have hnb : ¬ rowsB ga q zs b := fun hk => h.off b (Or.inl hk) rfl
  have hnl : ∀ k, foot (.slice la l.length lc) = some k → ¬ rowsB ga q zs k := fun k hk hr => h.own.apart hr hk
  have hnr : ∀ k, rowsB g5 q5 l5 k → k ≠ b := fun k hk e => by
    rcases hn k hk with h1 | h1
    · exact h.off k (Or.inl h1) e
    · have := h.lt; omega
  have hnr2 : ∀ k, rowsB g5 q5 l5 k → foot (.slice la l.length lc) ≠ some k := fun k hk e => by
    rcases hn k hk with h1 | h1
    · exact hnl k e h1
    · have := (h.own.log.lt k e).2; omega
  have hoff : ∀ v : Value, (∀ k, foot v = some k → rowsB g5 q5 l5 k) → Off2 v (.slice la l.length lc) := fun v hv => by
    cases hf : foot v with
    | none => exact Or.inl hf
    | some k => exact Or.inr (fun e => hnr2 k (hv k hf) (by rw [← e, hf]))
  have c0 := (hc.cell (o := 0) h.lt hnb).trans h.c0
  have c1 := (hc.cell (o := 1) h.lt hnb).trans h.c1
  have c2 := (hc.cell (o := 2) h.lt hnb).trans h.c2
  have f0 := (hc.frozen (o := 0) h.lt hnb).trans h.f0
  have f1 := (hc.frozen (o := 1) h.lt hnb).trans h.f1
  have f2 := (hc.frozen (o := 2) h.lt hnb).trans h.f2
  refine ⟨g5, q5, l5, la, lc, ⟨⟨ho.set_ne hnr _, ?_, hoff _ (fun k hk => Or.inl hk), fun z hz => hoff _ (fun k hk => Or.inr ⟨z.key, List.mem_map_of_mem hz, hk⟩)⟩, ?_, ?_, set_same c0, set_other c1 (by omega), set_other c2 (by omega), setf f0, setf f1, setf f2⟩, hd, ?_, ?_⟩
  · exact (h.own.log.chg hc hnl).set_off (fun e => h.off b (Or.inr e) rfl) _
  · have h1 := h.lt
    have h2 := hc.size
    simp [World.setCell]; omega
  · intro k hk
    rcases hk with hk | hk
    · exact hnr k hk
    · exact h.off k (Or.inr hk)
  · exact Chg.set ((Chg.ext hw).trans (hc.mono (fun k hk => hS k (Or.inr (Or.inl hk))))) (hS b (Or.inl rfl)) _
  · intro k hk
    rcases hk with hk | hk
    · rcases hn k hk with h1 | h1
      · exact Or.inl (hS k (Or.inr (Or.inl h1)))
      · exact Or.inr (by omega)
    · exact Or.inl (hS k (Or.inr (Or.inr hk)))
theorem StTo.log {S : Nat → Prop} {w w3 w6 : World} {b B E EM EC q lc q6 n6 : Nat} {ga la g6 : Option Addr} {zs : List PBox} {rs : DStore} {m : DCommit} (h : StB w3 b B E EM EC ga q zs la lc rs.log rs.given) (hd : zs.map PBox.box = rs.boxes) (hch : Chg S w w3) (hr : ∀ k, rowsS ga q zs la lc rs.log.length k → S k ∨ w.heap.size < k) (hlt : w.heap.size < w3.heap.size) (hb : S b)
    {w4 : World} (h34 : Ext w3 w4) (hn : n6 = rs.log.length + 1) (ho : Own w6 B EC 6 (.slice g6 n6 q6) n6 (rs.log.flatMap DCommit.cells ++ m.cells)) (hg : w4.grownBy w6 (foot (.slice la rs.log.length lc))) (hw : ∀ k, foot (.slice g6 n6 q6) = some k → foot (.slice la rs.log.length lc) = some k ∨ k = w4.heap.size) :
    StTo S w b B E EM EC ⟨rs.boxes, rs.log ++ [m], rs.given⟩ (w6.setCell ⟨b, 1, none⟩ (.slice g6 n6 q6)) := by
  subst hn
  have hlen : (rs.log ++ [m]).length = rs.log.length + 1 := by simp
  have hc : Chg (fun k => foot (.slice la rs.log.length lc) = some k) w3 w6 := (Chg.ext h34).trans (Chg.grown hg (fun k e => e))
  have hnb : foot (.slice la rs.log.length lc) ≠ some b := fun e => h.off b (Or.inr e) rfl
  have hs34 := h34.size
  have hnw : ∀ k, foot (.slice g6 (rs.log.length + 1) q6) = some k → foot (.slice la rs.log.length lc) = some k ∨ w3.heap.size ≤ k := fun k hk => (hw k hk).imp_right (fun e => by omega)
  have hne : ∀ k, rowsB ga q zs k → foot (.slice g6 (rs.log.length + 1) q6) ≠ some k := fun k hk e => by
    rcases hnw k e with h2 | h2
    · exact h.own.apart hk h2
    · have := (h.own.box.rows_lt k hk).2; omega
  have hnb6 : foot (.slice g6 (rs.log.length + 1) q6) ≠ some b := fun e => by
    rcases hnw b e with h2 | h2
    · exact hnb h2
    · have := h.lt; omega
  have hoff : ∀ v : Value, (∀ k, foot v = some k → rowsB ga q zs k) → Off2 v (.slice g6 (rs.log ++ [m]).length q6) := fun v hv => by
    rw [hlen]
    cases hf : foot v with
    | none => exact Or.inl hf
    | some k => exact Or.inr (fun e => hne k (hv k hf) (by rw [← e, hf]))
  have c0 := (hc.cell (o := 0) h.lt hnb).trans h.c0
  have c1 := (hc.cell (o := 1) h.lt hnb).trans h.c1
  have c2 := (hc.cell (o := 2) h.lt hnb).trans h.c2
  have f0 := (hc.frozen (o := 0) h.lt hnb).trans h.f0
  have f1 := (hc.frozen (o := 1) h.lt hnb).trans h.f1
  have f2 := (hc.frozen (o := 2) h.lt hnb).trans h.f2
  refine ⟨ga, q, zs, g6, q6, ⟨⟨(h.own.box.chg hc (fun k hk e => h.own.apart hk e)).set_ne (fun k hk => h.off k (Or.inl hk)) _, ?_, hoff _ (fun k hk => Or.inl hk), fun z hz => hoff _ (fun k hk => Or.inr ⟨z.key, List.mem_map_of_mem hz, hk⟩)⟩, ?_, ?_, set_other c0 (by omega), ?_, set_other c2 (by omega), setf f0, setf f1, setf f2⟩, hd, ?_, ?_⟩
  · show Own _ B EC 6 (.slice g6 (rs.log ++ [m]).length q6) (rs.log ++ [m]).length ((rs.log ++ [m]).flatMap DCommit.cells)
    rw [hlen, List.flatMap_append]
    exact (by simpa using ho.set_off hnb6 _)
  · have h1 := h.lt
    have h2 := hc.size
    simp [World.setCell]; omega
  · intro k hk
    rcases hk with hk | hk
    · exact h.off k (Or.inl hk)
    · intro e
      subst e
      exact hnb6 (by rw [← hk]; exact foot_len _ _ _ _)
  · show _ = some (Value.slice g6 (rs.log ++ [m]).length q6)
    rw [hlen]; exact set_same c1
  · refine Chg.set (w1 := w6) ⟨hc.os.trans hch.os, hc.tape.trans hch.tape, hc.output.trans hch.output, Nat.le_trans hch.size hc.size, fun k hk hnS => ?_⟩ hb _
    have h1 := hch.size
    exact (hc.block k (by omega) (fun e => (hr k (Or.inr e)).elim hnS (fun h => by omega))).trans (hch.block k hk hnS)
  · intro k hk
    rcases hk with hk | hk
    · exact hr k (Or.inl hk)
    · rcases hnw k ((foot_len _ _ _ _).trans hk) with h1 | h1
      · exact hr k (Or.inr h1)
      · exact Or.inr (by omega)
theorem StTo.given {S : Nat → Prop} {w w3 w4 : World} {b B E EM EC q lc : Nat} {ga la : Option Addr} {zs : List PBox} {rs : DStore} (h : StB w3 b B E EM EC ga q zs la lc rs.log rs.given) (hd : zs.map PBox.box = rs.boxes) (hch : Chg S w w3) (hr : ∀ k, rowsS ga q zs la lc rs.log.length k → S k ∨ w.heap.size < k) (hb : S b) (h34 : Ext w3 w4) (v : Int) :
    StTo S w b B E EM EC ⟨rs.boxes, rs.log, v⟩ (w4.setCell ⟨b, 2, none⟩ (.int .i64 v)) := by
  have h4 := h.ext h34
  exact ⟨ga, q, zs, la, lc, ⟨h4.own.set_ne h4.off _, by simpa [World.setCell] using h4.lt, h4.off, set_other h4.c0 (by omega), set_other h4.c1 (by omega), set_same h4.c2, setf h4.f0, setf h4.f1, setf h4.f2⟩, hd, Chg.set (hch.trans (Chg.ext h34)) hb _, hr⟩
theorem StB.same {w w' : World} {b B E EM EC q lc : Nat} {ga la : Option Addr} {zs : List PBox} {l : List DCommit} {gv : Int} (h : StB w b B E EM EC ga q zs la lc l gv) (hb : Ext w w') : StTo (fun k => k = b ∨ rowsS ga q zs la lc l.length k) w b B E EM EC ⟨zs.map PBox.box, l, gv⟩ w' :=
  ⟨ga, q, zs, la, lc, h.ext hb, rfl, Chg.ext hb, fun k hk => Or.inl (Or.inr hk)⟩
/-- a commit lies in block M -/
structure MB (w : World) (M : Nat) (m : DCommit) : Prop where
  lt : M < w.heap.size
  c0 : w.cell? ⟨M, 0, none⟩ = some (.int .i64 m.kind)
  c1 : w.cell? ⟨M, 1, none⟩ = some (.int .i64 m.validity)
  c2 : w.cell? ⟨M, 2, none⟩ = some (.int .i64 m.uid)
  c3 : w.cell? ⟨M, 3, none⟩ = some (.int .i64 m.flags)
  c4 : w.cell? ⟨M, 4, none⟩ = some (.string m.name)
  c5 : w.cell? ⟨M, 5, none⟩ = some (.string m.text)
theorem MB.chg {S : Nat → Prop} {w w' : World} {M : Nat} {m : DCommit} (h : MB w M m) (hb : Chg S w w') (hn : ¬ S M) : MB w' M m :=
  ⟨Nat.lt_of_lt_of_le h.lt hb.size, (hb.cell h.lt hn).trans h.c0, (hb.cell h.lt hn).trans h.c1, (hb.cell h.lt hn).trans h.c2, (hb.cell h.lt hn).trans h.c3, (hb.cell h.lt hn).trans h.c4, (hb.cell h.lt hn).trans h.c5⟩
theorem MB.ext {w w' : World} {M : Nat} {m : DCommit} (h : MB w M m) (hb : Ext w w') : MB w' M m := h.chg (S := fun _ => False) (Chg.ext hb) (fun h => h)
theorem MB.set {w : World} {M : Nat} {m : DCommit} (h : MB w M m) {p : Addr} (hp : p.block ≠ M) (u : Value) : MB (w.setCell p u) M m := h.chg (S := fun k => k = p.block) (Chg.set (S := fun k => k = p.block) (Chg.refl _ w) rfl u) (fun e => hp e.symm)
theorem StTo.ext {S : Nat → Prop} {w w3 w4 : World} {b B E EM EC : Nat} {rs : DStore} (h : StTo S w b B E EM EC rs w3) (hb : Ext w3 w4) : StTo S w b B E EM EC rs w4 := by
  obtain ⟨ga, q, zs, la, lc, h1, h2, h3, h4⟩ := h
  exact ⟨ga, q, zs, la, lc, h1.ext hb, h2, h3.trans (Chg.ext hb), h4⟩
/-- between two statements of commit -/
def QC (S : Nat → Prop) (w : World) (b B E EM EC : Nat) (rs : DStore) (m : DCommit) (wc : World) : Prop := StTo S w b B E EM EC rs wc ∧ MB wc w.heap.size m
theorem QC.ext {S : Nat → Prop} {w w3 w4 : World} {b B E EM EC : Nat} {rs : DStore} {m : DCommit} (h : QC S w b B E EM EC rs m w3) (hb : Ext w3 w4) : QC S w b B E EM EC rs m w4 := ⟨h.1.ext hb, h.2.ext hb⟩
end Go.Proofs.YtadjlfcdjkikgaaDoor

namespace Go.Proofs.YtadjlfcdjkikgaaDoor
open Go.RowKit
set_option linter.unusedVariables false
set_option linter.unusedSimpArgs false

end Go.Proofs.YtadjlfcdjkikgaaDoor

namespace Go.Proofs.YtadjlfcdjkikgaaDoor
open Go.RowKit
set_option linter.unusedVariables false
set_option linter.unusedSimpArgs false

/-- a fresh box with the copied store -/
theorem StB.new {w4 : World} {B E EM EC q lc t : Nat} {ga la : Option Addr} {zs : List PBox} {l : List DCommit} {gv : Int} (h : OwnSt w4 B E EM EC ga q zs la lc l) : StB (w4.alloc (.cells #[.slice ga zs.length q, .slice la l.length lc, .int .i64 gv] t)) w4.heap.size B E EM EC ga q zs la lc l gv :=
  ⟨h.ext ((Below.refl _ _).alloc (Nat.le_refl _) _), by simp, fun k hk e => by have := (h.rows_lt k hk).2; omega, by simp [go_sem], by simp [go_sem], by simp [go_sem], by simp [go_sem], by simp [go_sem], by simp [go_sem]⟩
end Go.Proofs.YtadjlfcdjkikgaaDoor

namespace Go.Proofs.YtadjlfcdjkikgaaDoor
open Go.RowKit
set_option linter.unusedVariables false
set_option linter.unusedSimpArgs false

/-- messages that are right below nx, in the words of lists -/
def MsgsQ (nx : Int) (l : List DMsg) : Prop := (∀ m ∈ l, (1 ≤ m.uid ∧ m.uid ≤ nx - 1) ∧ (0 ≤ m.flags ∧ m.flags ≤ 31) ∧ m.text.size ≤ 40) ∧ l.Pairwise fun a b => a.uid < b.uid
theorem wrap_pred {nx : Int} (h1 : 1 ≤ nx) (h2 : nx ≤ 999999999) : wrap64 (nx - 1) = nx - 1 := by
  unfold wrap64
  omega
theorem pair_step {α : Type} {R : α → α → Prop} (ht : ∀ a b c, R a b → R b c → R a c) : ∀ (l : List α), (∀ k (h : k < l.length), 0 < k → R l[k - 1] l[k]) → l.Pairwise R := fun l h => by
  rw [List.pairwise_iff_getElem]
  intro i j hi hj hij
  obtain ⟨d, rfl⟩ : ∃ d, j = i + 1 + d := ⟨j - (i + 1), by omega⟩
  clear hij
  induction d with
  | zero => have := h (i + 1) hj (by omega); simpa using this
  | succ d ih => exact ht _ _ _ (ih (by omega)) (by have := h (i + 1 + (d + 1)) hj (by omega); simpa using this)
theorem msgs_iff {nx : Int} (h1 : 1 ≤ nx) (h2 : nx ≤ 999999999) (l : List DMsg) : (∀ k, k < l.length → MsgAt nx l k) ↔ MsgsQ nx l := by
  have hw := wrap_pred h1 h2
  constructor
  · intro h
    refine ⟨fun m hm => ?_, pair_step (R := fun a b : DMsg => a.uid < b.uid) (fun a b c => Int.lt_trans) l fun k hk hk0 => ?_⟩
    · obtain ⟨k, hk, rfl⟩ := List.mem_iff_getElem.1 hm
      obtain ⟨h0, h3, h4, h5, -⟩ := h k hk
      rw [hw] at h3
      exact ⟨h3, h4, h5⟩
    · obtain ⟨h0, -, -, -, h6⟩ := h k hk
      exact h6 hk0
  · rintro ⟨ha, hp⟩ k hk
    obtain ⟨h3, h4, h5⟩ := ha _ (List.getElem_mem hk)
    refine ⟨hk, by rw [hw]; exact h3, h4, h5, fun h0 => ?_⟩
    exact List.pairwise_iff_getElem.1 hp (k - 1) k (by omega) hk (by omega)
/-- a mailbox that is right, in the words of lists -/
def BoxQ (b : DBox) : Prop := NameP b.name ∧ (1 ≤ b.validity ∧ b.validity ≤ 999999999) ∧ (1 ≤ b.next ∧ b.next ≤ 999999999) ∧ b.msgs.length ≤ 6 ∧ MsgsQ b.next b.msgs
theorem box_iff (b : DBox) : BoxP b.name b.validity b.next b.msgs ↔ BoxQ b := by
  unfold BoxP BoxQ
  constructor
  · rintro ⟨h1, h2, h3, h4, h5⟩
    exact ⟨h1, h2, h3, h4, (msgs_iff h3.1 h3.2 _).1 h5⟩
  · rintro ⟨h1, h2, h3, h4, h5⟩
    exact ⟨h1, h2, h3, h4, (msgs_iff h3.1 h3.2 _).2 h5⟩
/-- mailboxes that are right, in the words of lists -/
def BoxesQ (l : List DBox) : Prop := (∀ b ∈ l, BoxQ b) ∧ Rise l ∧ (l.map DBox.validity).Nodup ∧ l.length ≤ 4
theorem boxes_iff (l : List DBox) : BoxesP l ↔ BoxesQ l := by
  constructor
  · intro h
    refine ⟨fun b hb => ?_, boxesP_rise h, ?_, h.2⟩
    · obtain ⟨k, hk, rfl⟩ := List.mem_iff_getElem.1 hb
      obtain ⟨h0, h1, -, -⟩ := h.1 k hk
      exact (box_iff _).1 h1
    · rw [List.nodup_iff_pairwise_ne, List.pairwise_map, List.pairwise_iff_getElem]
      intro i j hi hj hij e
      obtain ⟨h0, -, -, h3⟩ := h.1 j hj
      have h4 := (firstI_first (fun b : DBox => decide (b.validity = l[j].validity)) l i hi (by simpa using e)).2
      have h5 : boxWith l[j].validity l ≤ i := h4
      omega
  · rintro ⟨h1, h2, h3, h4⟩
    refine ⟨fun k hk => ⟨hk, (box_iff _).2 (h1 _ (List.getElem_mem hk)), fun h0 => ?_, ?_⟩, h4⟩
    · exact List.pairwise_iff_getElem.1 h2 (k - 1) k (by omega) hk (by omega)
    · refine firstI_hit hk (by simp) fun j hj hjk => ?_
      rw [List.nodup_iff_pairwise_ne, List.pairwise_map, List.pairwise_iff_getElem] at h3
      exact decide_eq_false (h3 j k hj hk hjk)
theorem msgsQ_sub {nx : Int} {l k : List DMsg} (h : MsgsQ nx l) (hs : k.Sublist l) : MsgsQ nx k :=
  ⟨fun m hm => h.1 m (hs.subset hm), h.2.sublist hs⟩
theorem msgsQ_add {nx : Int} {l : List DMsg} {f : Int} {t : ByteArray} (h : MsgsQ nx l) (h1 : 1 ≤ nx) (hf : 0 ≤ f ∧ f ≤ 31) (ht : t.size ≤ 40) : MsgsQ (nx + 1) (l ++ [⟨nx, f, t⟩]) := by
  refine ⟨fun m hm => ?_, ?_⟩
  · rcases List.mem_append.1 hm with h2 | h2
    · obtain ⟨h3, h4⟩ := h.1 m h2
      exact ⟨⟨h3.1, by omega⟩, h4⟩
    · rw [List.mem_singleton.1 h2]
      exact ⟨⟨h1, by show nx ≤ nx + 1 - 1; omega⟩, hf, ht⟩
  · rw [List.pairwise_append]
    refine ⟨h.2, by simp, fun a ha b hb => ?_⟩
    rw [List.mem_singleton.1 hb]
    have := (h.1 a ha).1.2
    show a.uid < nx
    omega
theorem msgsQ_set {nx : Int} {l : List DMsg} {i : Nat} (h : MsgsQ nx l) (hi : i < l.length) {f : Int} (hf : 0 ≤ f ∧ f ≤ 31) : MsgsQ nx (l.set i ⟨l[i].uid, f, l[i].text⟩) := by
  refine ⟨fun m hm => ?_, ?_⟩
  · rcases List.mem_or_eq_of_mem_set hm with h2 | h2
    · exact h.1 m h2
    · obtain ⟨h3, -, h5⟩ := h.1 _ (List.getElem_mem hi)
      rw [h2]
      exact ⟨h3, hf, h5⟩
  · have e : (l.set i ⟨l[i].uid, f, l[i].text⟩).map DMsg.uid = l.map DMsg.uid := by
      refine List.ext_getElem (by simp) fun k h1 h2 => ?_
      rw [List.getElem_map, List.getElem_set, List.getElem_map]
      by_cases hk : i = k
      · subst hk; simp
      · rw [if_neg hk]
    have h3 : ((l.set i ⟨l[i].uid, f, l[i].text⟩).map DMsg.uid).Pairwise fun a b => a < b := by
      rw [e]; exact List.pairwise_map.2 h.2
    exact List.pairwise_map.1 h3
theorem pl_lt {u : Int} {l : List DMsg} (h : 0 ≤ placeOf u l) : pl u l < l.length := by
  have h2 := (firstI_range (fun m : DMsg => decide (m.uid = u)) l).2
  have h3 : placeOf u l < l.length := h2
  unfold pl
  omega
/-- what a commit makes of its mailbox is right -/
theorem newD_ok {b : DBox} {m : DCommit} (h : BoxQ b) (hm : CommitP m) (h1 : m.kind ≠ 1) (h2 : m.kind ≠ 2) (h4 : m.kind = 4 → m.uid = b.next ∧ b.msgs.length < 6) (h56 : m.kind = 5 ∨ m.kind = 6 → 0 ≤ placeOf m.uid b.msgs) : BoxQ (newD b m) := by
  obtain ⟨q1, q2, q3, q4, q5⟩ := h
  obtain ⟨hv, hk⟩ := hm
  rcases hk with hk | hk | ⟨e, hn, -⟩ | ⟨e, ⟨hu, hf, ht⟩, -⟩ | ⟨e, ⟨hu, hf⟩, -⟩ | ⟨e, hu, -⟩
  · exact absurd hk.1 h1
  · exact absurd hk.1 h2
  · have : newD b m = ⟨m.name, b.validity, b.next, b.msgs⟩ := by simp [newD, e]
    rw [this]
    exact ⟨hn, q2, q3, q4, q5⟩
  · obtain ⟨g1, g2⟩ := h4 e
    have : newD b m = ⟨b.name, b.validity, b.next + 1, b.msgs ++ [⟨m.uid, m.flags, m.text⟩]⟩ := by simp [newD, e]
    rw [this]
    refine ⟨q1, q2, ⟨by show 1 ≤ b.next + 1; omega, by show b.next + 1 ≤ 999999999; omega⟩, by simp; omega, ?_⟩
    show MsgsQ (b.next + 1) (b.msgs ++ [⟨m.uid, m.flags, m.text⟩])
    rw [g1]
    exact msgsQ_add q5 q3.1 hf ht
  · have hp := pl_lt (h56 (Or.inl e))
    have : newD b m = ⟨b.name, b.validity, b.next, b.msgs.set (pl m.uid b.msgs) ⟨b.msgs[pl m.uid b.msgs].uid, m.flags, b.msgs[pl m.uid b.msgs].text⟩⟩ := by
      simp [newD, e, theM_of hp]
    rw [this]
    exact ⟨q1, q2, q3, by simpa using q4, msgsQ_set q5 hp hf⟩
  · have : newD b m = ⟨b.name, b.validity, b.next, b.msgs.eraseIdx (pl m.uid b.msgs)⟩ := by simp [newD, e]
    rw [this]
    refine ⟨q1, q2, q3, ?_, msgsQ_sub q5 (List.eraseIdx_sublist ..)⟩
    have := List.length_eraseIdx_le b.msgs (pl m.uid b.msgs)
    show (b.msgs.eraseIdx _).length ≤ 6
    omega
theorem map_set_same {l : List DBox} {i : Nat} (hi : i < l.length) {x : DBox} (hx : x.validity = l[i].validity) : (l.set i x).map DBox.validity = l.map DBox.validity := by
  rw [List.map_set, hx]
  refine List.ext_getElem (by simp) fun k h1 h2 => ?_
  rw [List.getElem_set]
  by_cases hk : i = k
  · subst hk; simp
  · rw [if_neg hk]
theorem newD_valid (b : DBox) (m : DCommit) : (newD b m).validity = b.validity := by
  unfold newD
  (repeat' split) <;> rfl
theorem with_none {v : Int} {l : List DBox} (h : boxWith v l < 0) : ∀ y ∈ l, y.validity ≠ v := fun y hy => of_decide_eq_false (firstI_none h y hy)
/-- the changed mailboxes are right -/
theorem appD_ok {l : List DBox} {m : DCommit} (h : AppliesP l m) : BoxesP (appD l m) := by
  obtain ⟨hb, hm, hf⟩ := h
  obtain ⟨hp, hr⟩ := appD_perm hb hf
  rw [boxes_iff]
  obtain ⟨b1, b2, b3, b4⟩ := (boxes_iff l).1 hb
  suffices hq : (∀ b ∈ perfD l m, BoxQ b) ∧ ((perfD l m).map DBox.validity).Nodup ∧ (perfD l m).length ≤ 4 from
    ⟨fun b hbm => hq.1 b (hp.symm.subset hbm), hr, (hp.map DBox.validity).nodup_iff.1 hq.2.1, by rw [← hp.length_eq]; exact hq.2.2⟩
  unfold perfD
  by_cases h1 : m.kind = 1
  · rw [if_pos h1]
    obtain ⟨g1, g2, g3⟩ := hf.1 h1
    have hn : NameP m.name := by
      obtain ⟨-, hk⟩ := hm
      rcases hk with ⟨-, hn, -⟩ | hk | hk | hk | hk | hk
      · exact hn
      all_goals exact absurd hk.1 (by omega)
    refine ⟨fun b hbm => ?_, ?_, by simp; omega⟩
    · rcases List.mem_append.1 hbm with h2 | h2
      · exact b1 b h2
      · rw [List.mem_singleton.1 h2]
        exact ⟨hn, hm.1, ⟨Int.le_refl 1, by show (1 : Int) ≤ 999999999; decide⟩, Nat.zero_le _, ⟨fun x hx => absurd hx (by simp), List.Pairwise.nil⟩⟩
    · rw [List.map_append, List.nodup_append]
      refine ⟨b3, by simp, fun a ha c hc => ?_⟩
      obtain ⟨y, hy, rfl⟩ := List.mem_map.1 ha
      have : c = m.validity := by simpa using hc
      rw [this]
      exact with_none g2 y hy
  rw [if_neg h1]
  obtain ⟨i, hi, hz, h3, h4, h5⟩ := hf.2 h1
  have ha : atD l m = i := by unfold atD; omega
  rw [ha]
  by_cases h2 : m.kind = 2
  · rw [if_pos h2]
    have hs := List.eraseIdx_sublist l i
    exact ⟨fun b hbm => b1 b (hs.subset hbm), b3.sublist (hs.map _), Nat.le_trans hs.length_le b4⟩
  · rw [if_neg h2, theD_of hi]
    refine ⟨fun b hbm => ?_, by rw [map_set_same hi (newD_valid _ _)]; exact b3, by simpa using b4⟩
    rcases List.mem_or_eq_of_mem_set hbm with h6 | h6
    · exact b1 b h6
    · rw [h6]
      exact newD_ok (b1 _ (List.getElem_mem hi)) hm h1 h2 h4 h5
end Go.Proofs.YtadjlfcdjkikgaaDoor

namespace Go.Proofs.YtadjlfcdjkikgaaDoor
open Go.RowKit
set_option linter.unusedVariables false
set_option linter.unusedSimpArgs false

end Go.Proofs.YtadjlfcdjkikgaaDoor

namespace Go.Proofs.YtadjlfcdjkikgaaDoor
open Go.RowKit
set_option linter.unusedVariables false
set_option linter.unusedSimpArgs false

end Go.Proofs.YtadjlfcdjkikgaaDoor

namespace Go.Proofs.YtadjlfcdjkikgaaDoor
open Go.RowKit
set_option linter.unusedVariables false
set_option linter.unusedSimpArgs false

/-- mailboxes that can be read, and are small -/
structure Bq (w : World) (a : Option Addr) (c : Nat) (zs : List PBox) : Prop where
  rd : Rd w a c 4 zs.length (zs.flatMap PBox.cells)
  rdm : RdM w zs
  len : zs.length ≤ 5
  sm : SmB 6 zs
theorem Bq.ext {w w' : World} {a : Option Addr} {c : Nat} {zs : List PBox} (h : Bq w a c zs) (hb : Ext w w') : Bq w' a c zs := ⟨h.rd.ext hb, h.rdm.ext hb, h.len, h.sm⟩
theorem OwnRs.bq {w : World} {B E EM c : Nat} {a : Option Addr} {zs : List PBox} (h : OwnRs w B E EM a c zs) (hl : zs.length ≤ 5) (hs : SmB 6 zs) : Bq w a c zs := ⟨h.rd, h.rdm, hl, hs⟩
theorem smB_of {l : List PBox} {D : List DBox} (h : l.map PBox.box = D) (hD : ∀ y ∈ D, y.name.size ≤ 41 ∧ y.msgs.length ≤ 6 ∧ ∀ t ∈ y.msgs, t.text.size ≤ 41) : SmB 6 l := fun y hy => hD y.box (h ▸ List.mem_map_of_mem hy)
theorem bxs_small {l' : List PBox} {D : List DBox} (hl' : l'.map PBox.box = D) (hD : BoxesP D) : l'.length ≤ 5 ∧ SmB 6 l' := by
  have hq := (boxes_iff _).1 hD
  refine ⟨by have h := congrArg List.length hl'; have := hq.2.2.2; simp at h; omega, smB_of hl' fun y hy => ?_⟩
  obtain ⟨q1, q2, q3, q4, q5⟩ := hq.1 y hy
  exact ⟨Nat.le_trans q1.2.2 (by omega), q4, fun t ht => Nat.le_trans (q5.1 t ht).2.2 (by omega)⟩
theorem same_small {zs l' : List PBox} (hl' : l'.map PBox.box = zs.map PBox.box) (hz : zs.length ≤ 5) (hs : SmB 6 zs) : l'.length ≤ 5 ∧ SmB 6 l' := by
  refine ⟨by have h := congrArg List.length hl'; simp at h; omega, smB_of hl' fun y hy => ?_⟩
  obtain ⟨z, hz2, rfl⟩ := List.mem_map.1 hy
  exact hs z hz2
theorem app_smallB {zs l' : List PBox} {m : DCommit} {rr : List DBox} {rok : Bool} (h : AppRel (zs.map PBox.box) m rr rok) (hl' : l'.map PBox.box = rr) (hz : zs.length ≤ 5) (hs : SmB 6 zs) : l'.length ≤ 5 ∧ SmB 6 l' := by
  obtain ⟨ht, rfl⟩ := h
  cases rok with
  | false => exact same_small hl' hz hs
  | true => exact bxs_small hl' (appD_ok (yes_of ht))
theorem OwnBs.bq {w : World} {B E EM c : Nat} {a : Option Addr} {zs : List PBox} (h : OwnBs w B E EM a c zs) (hs : zs.length ≤ 5 ∧ SmB 6 zs) : Bq w a c zs := ⟨h.rd, h.rdm, hs.1, hs.2⟩
theorem specApplied_bq (zs : List PBox) (a : Option Addr) (c : Nat) (w : World) (h : Bq w a c zs) (m : DCommit) (g1 : m.name.size ≤ 41) (g2 : m.text.size ≤ 41) (rr : List DBox) (rok : Bool) (H : Hid (AppRel (zs.map PBox.box) m rr rok)) :
    Calls Tryd.prog 81 #[.slice a zs.length c, .agg #[.int .i64 m.kind, .int .i64 m.validity, .int .i64 m.uid, .int .i64 m.flags, .string m.name, .string m.text]] w (fun e w' => ∃ g q l', e = .returned (.tuple #[.slice g l'.length q, .bool rok]) ∧ OwnBs w' w.heap.size 85 111 g q l' ∧ l'.map PBox.box = rr ∧ Ext w w') :=
  specApplied_law zs a c m w h.rd h.rdm (by have := h.len; omega) (fun y hy => by have := (h.sm y hy).2.1; omega) (fun y hy => by have := (h.sm y hy).1; omega) (fun y hy t ht => by have := (h.sm y hy).2.2 t ht; omega) (by omega) (by omega) rr rok H
end Go.Proofs.YtadjlfcdjkikgaaDoor

namespace Go.Proofs.YtadjlfcdjkikgaaDoor
open Go.RowKit
set_option linter.unusedVariables false
set_option linter.unusedSimpArgs false

theorem DReply.one1 (x : DReply) : ∀ u ∈ x.cells, u.oneCell' = true := by simp [DReply.cells, Value.oneCell']
def telling (l : List DSeen) (m : DCommit) : List DReply :=
  if (followed l m).ok = false then []
  else if m.kind = 4 then [⟨1, (l.length : Int) + 1, 0, 0, ⟨#[]⟩, ⟨#[]⟩⟩, ⟨3, (l.length : Int) + 1, m.uid, m.flags, ⟨#[]⟩, ⟨#[]⟩⟩]
  else if m.kind = 5 then [⟨3, seqOf m.uid l, m.uid, m.flags, ⟨#[]⟩, ⟨#[]⟩⟩]
  else [⟨2, seqOf m.uid l, 0, 0, ⟨#[]⟩, ⟨#[]⟩⟩]
theorem telling_len (l : List DSeen) (m : DCommit) : (telling l m).length ≤ 2 := by
  unfold telling
  repeat' split
  all_goals simp
def TellPost (E : Nat) (r : List DReply) (w : World) (e : Ending) (w' : World) : Prop :=
  ∃ g q, e = .returned (.slice g r.length q) ∧ Own w' w.heap.size E 6 (.slice g r.length q) r.length (r.flatMap DReply.cells) ∧ Ext w w'

set_option maxRecDepth 100000 in
set_option maxHeartbeats 4000000 in
theorem specTell_no (l : List DSeen) (a : Option Addr) (c : Nat) (m : DCommit) (w : World) (R : Rd w a c 2 l.length (l.flatMap DSeen.cells)) (hl : l.length ≤ 1048576) (g1 : m.name.size ≤ 9223372036854775807) (g2 : m.text.size ≤ 9223372036854775807) (hok : (followed l m).ok = false) :
    Calls Tryd.prog 82 #[.agg #[.slice a l.length c], .agg #[.int .i64 m.kind, .int .i64 m.validity, .int .i64 m.uid, .int .i64 m.flags, .string m.name, .string m.text]] w (TellPost 31 [] w) := by
  have HR := Lib.hid R
  clear R
  obtain ⟨i0, hi0, hz0, hz1, hz2⟩ := info_parts info_Reply
  obtain ⟨rk, hrk⟩ : ∃ r, (followed l m).known = r := ⟨_, rfl⟩
  have HK := Lib.hid hrk
  have HOK := Lib.hid hok
  clear hrk hok
  have wr : IntKind.i64.wrap ((l.length : Int) + 1) = (l.length : Int) + 1 := IntWalk.i64_in _ (by omega)
  go_enter Tryd.func82, Tryd.ntmps82
  go_wp2_with (first | (go_at_call 83; refine (specFollowed_any l _ _ m _ (HR.out.ext bxt) hl g1 g2 rk HK false HOK).mono ?_; rintro e w1 ⟨g, q, rfl, -, hb1⟩; have cl0_0 : w1.cell? ⟨w.heap.size, 0, none⟩ = some (.slice a l.length c) := (hb1.cell (p := ⟨w.heap.size, 0, none⟩) smx).trans kpx; have sl0 : w.heap.size < w1.heap.size := (by have hss := hb1.size; first | omega | (simp at hss; omega)); have cl1_0 : w1.cell? ⟨w.heap.size + 1, 0, none⟩ = some (.int .i64 m.kind) := (hb1.cell (p := ⟨w.heap.size + 1, 0, none⟩) smx).trans kpx; have cl1_1 : w1.cell? ⟨w.heap.size + 1, 1, none⟩ = some (.int .i64 m.validity) := (hb1.cell (p := ⟨w.heap.size + 1, 1, none⟩) smx).trans kpx; have cl1_2 : w1.cell? ⟨w.heap.size + 1, 2, none⟩ = some (.int .i64 m.uid) := (hb1.cell (p := ⟨w.heap.size + 1, 2, none⟩) smx).trans kpx; have cl1_3 : w1.cell? ⟨w.heap.size + 1, 3, none⟩ = some (.int .i64 m.flags) := (hb1.cell (p := ⟨w.heap.size + 1, 3, none⟩) smx).trans kpx; have cl1_4 : w1.cell? ⟨w.heap.size + 1, 4, none⟩ = some (.string m.name) := (hb1.cell (p := ⟨w.heap.size + 1, 4, none⟩) smx).trans kpx; have cl1_5 : w1.cell? ⟨w.heap.size + 1, 5, none⟩ = some (.string m.text) := (hb1.cell (p := ⟨w.heap.size + 1, 5, none⟩) smx).trans kpx; have sl1 : w.heap.size + 1 < w1.heap.size := (by have hss := hb1.size; first | omega | (simp at hss; omega))))
  go_ret
  exact ⟨_, _, rfl, Own.none0 _, bxt⟩

set_option maxRecDepth 100000 in
set_option maxHeartbeats 4000000 in
theorem specTell_k4 (l : List DSeen) (a : Option Addr) (c : Nat) (m : DCommit) (w : World) (R : Rd w a c 2 l.length (l.flatMap DSeen.cells)) (hl : l.length ≤ 1048576) (g1 : m.name.size ≤ 9223372036854775807) (g2 : m.text.size ≤ 9223372036854775807) (hok : (followed l m).ok = true) (hk4 : m.kind = 4) :
    Calls Tryd.prog 82 #[.agg #[.slice a l.length c], .agg #[.int .i64 m.kind, .int .i64 m.validity, .int .i64 m.uid, .int .i64 m.flags, .string m.name, .string m.text]] w (TellPost 31 [⟨1, (l.length : Int) + 1, 0, 0, ⟨#[]⟩, ⟨#[]⟩⟩, ⟨3, (l.length : Int) + 1, m.uid, m.flags, ⟨#[]⟩, ⟨#[]⟩⟩] w) := by
  have HR := Lib.hid R
  clear R
  obtain ⟨i0, hi0, hz0, hz1, hz2⟩ := info_parts info_Reply
  obtain ⟨rk, hrk⟩ : ∃ r, (followed l m).known = r := ⟨_, rfl⟩
  have HK := Lib.hid hrk
  have HOK := Lib.hid hok
  clear hrk hok
  have wr : IntKind.i64.wrap ((l.length : Int) + 1) = (l.length : Int) + 1 := IntWalk.i64_in _ (by omega)
  have k4 : (m.kind == 4) = true := beq_iff_eq.2 hk4
  clear hk4
  go_enter Tryd.func82, Tryd.ntmps82
  go_wp2_with (first | (go_at_call 83; refine (specFollowed_any l _ _ m _ (HR.out.ext bxt) hl g1 g2 rk HK true HOK).mono ?_; rintro e w1 ⟨g, q, rfl, -, hb1⟩; have cl0_0 : w1.cell? ⟨w.heap.size, 0, none⟩ = some (.slice a l.length c) := (hb1.cell (p := ⟨w.heap.size, 0, none⟩) smx).trans kpx; have sl0 : w.heap.size < w1.heap.size := (by have hss := hb1.size; first | omega | (simp at hss; omega)); have cl1_0 : w1.cell? ⟨w.heap.size + 1, 0, none⟩ = some (.int .i64 m.kind) := (hb1.cell (p := ⟨w.heap.size + 1, 0, none⟩) smx).trans kpx; have cl1_1 : w1.cell? ⟨w.heap.size + 1, 1, none⟩ = some (.int .i64 m.validity) := (hb1.cell (p := ⟨w.heap.size + 1, 1, none⟩) smx).trans kpx; have cl1_2 : w1.cell? ⟨w.heap.size + 1, 2, none⟩ = some (.int .i64 m.uid) := (hb1.cell (p := ⟨w.heap.size + 1, 2, none⟩) smx).trans kpx; have cl1_3 : w1.cell? ⟨w.heap.size + 1, 3, none⟩ = some (.int .i64 m.flags) := (hb1.cell (p := ⟨w.heap.size + 1, 3, none⟩) smx).trans kpx; have cl1_4 : w1.cell? ⟨w.heap.size + 1, 4, none⟩ = some (.string m.name) := (hb1.cell (p := ⟨w.heap.size + 1, 4, none⟩) smx).trans kpx; have cl1_5 : w1.cell? ⟨w.heap.size + 1, 5, none⟩ = some (.string m.text) := (hb1.cell (p := ⟨w.heap.size + 1, 5, none⟩) smx).trans kpx; have sl1 : w.heap.size + 1 < w1.heap.size := (by have hss := hb1.size; first | omega | (simp at hss; omega))) | (go_at_call 102; refine (specSeqIn_any l _ _ m.uid _ (HR.out.ext bxt) (seqOf m.uid l) (Lib.hid rfl)).mono ?_; rintro e w2 ⟨rfl, hb2⟩; have cl0_0 : w2.cell? ⟨w.heap.size, 0, none⟩ = some (.slice a l.length c) := (hb2.cell (p := ⟨w.heap.size, 0, none⟩) smx).trans kpx; have sl0 : w.heap.size < w2.heap.size := (by have hss := hb2.size; first | omega | (simp at hss; omega)); have cl1_0 : w2.cell? ⟨w.heap.size + 1, 0, none⟩ = some (.int .i64 m.kind) := (hb2.cell (p := ⟨w.heap.size + 1, 0, none⟩) smx).trans kpx; have cl1_1 : w2.cell? ⟨w.heap.size + 1, 1, none⟩ = some (.int .i64 m.validity) := (hb2.cell (p := ⟨w.heap.size + 1, 1, none⟩) smx).trans kpx; have cl1_2 : w2.cell? ⟨w.heap.size + 1, 2, none⟩ = some (.int .i64 m.uid) := (hb2.cell (p := ⟨w.heap.size + 1, 2, none⟩) smx).trans kpx; have cl1_3 : w2.cell? ⟨w.heap.size + 1, 3, none⟩ = some (.int .i64 m.flags) := (hb2.cell (p := ⟨w.heap.size + 1, 3, none⟩) smx).trans kpx; have cl1_4 : w2.cell? ⟨w.heap.size + 1, 4, none⟩ = some (.string m.name) := (hb2.cell (p := ⟨w.heap.size + 1, 4, none⟩) smx).trans kpx; have cl1_5 : w2.cell? ⟨w.heap.size + 1, 5, none⟩ = some (.string m.text) := (hb2.cell (p := ⟨w.heap.size + 1, 5, none⟩) smx).trans kpx; have sl1 : w.heap.size + 1 < w2.heap.size := (by have hss := hb2.size; first | omega | (simp at hss; omega))) | (at_builtin; refine wpList_app (B := w.heap.size) (v := .slice _ 0 0) rfl _ _ _ rfl 31 i0 _ _ Tryd.underlying37 hi0 hz0 hz1 hz2 rfl (by decide) rfl (Own.none0 _) (some ⟨w2.heap.size, 0, none⟩) 2 2 [.int .i64 (1), .int .i64 ((l.length : Int) + 1), .int .i64 (0), .int .i64 (0), .string ⟨#[]⟩, .string ⟨#[]⟩, .int .i64 (3), .int .i64 ((l.length : Int) + 1), .int .i64 (m.uid), .int .i64 (m.flags), .string ⟨#[]⟩, .string ⟨#[]⟩] rfl (Rd.lit _ _ _ 2 6 _ (by first | rfl | simp) rfl (by omega)) (by simp [Value.oneCell']) (by omega) (by omega) smx ?_; intro g2 q2 w3 hown hg; simp only [Nat.zero_add, List.nil_append] at hown ⊢; have hgn := grown_below (show World.grownBy _ w3 none from hg); have HO := Lib.hid hown; clear hown hg))
  go_ret
  exact ⟨_, _, rfl, HO.out, bxt⟩

set_option maxRecDepth 100000 in
set_option maxHeartbeats 4000000 in
theorem specTell_k5 (l : List DSeen) (a : Option Addr) (c : Nat) (m : DCommit) (w : World) (R : Rd w a c 2 l.length (l.flatMap DSeen.cells)) (hl : l.length ≤ 1048576) (g1 : m.name.size ≤ 9223372036854775807) (g2 : m.text.size ≤ 9223372036854775807) (hok : (followed l m).ok = true) (hk4 : m.kind ≠ 4) (hk5 : m.kind = 5) :
    Calls Tryd.prog 82 #[.agg #[.slice a l.length c], .agg #[.int .i64 m.kind, .int .i64 m.validity, .int .i64 m.uid, .int .i64 m.flags, .string m.name, .string m.text]] w (TellPost 31 [⟨3, seqOf m.uid l, m.uid, m.flags, ⟨#[]⟩, ⟨#[]⟩⟩] w) := by
  have HR := Lib.hid R
  clear R
  obtain ⟨i0, hi0, hz0, hz1, hz2⟩ := info_parts info_Reply
  obtain ⟨rk, hrk⟩ : ∃ r, (followed l m).known = r := ⟨_, rfl⟩
  have HK := Lib.hid hrk
  have HOK := Lib.hid hok
  clear hrk hok
  have wr : IntKind.i64.wrap ((l.length : Int) + 1) = (l.length : Int) + 1 := IntWalk.i64_in _ (by omega)
  have k4 : (m.kind == 4) = false := beq_eq_false_iff_ne.2 hk4
  have k5 : (m.kind == 5) = true := beq_iff_eq.2 hk5
  clear hk4
  clear hk5
  go_enter Tryd.func82, Tryd.ntmps82
  go_wp2_with (first | (go_at_call 83; refine (specFollowed_any l _ _ m _ (HR.out.ext bxt) hl g1 g2 rk HK true HOK).mono ?_; rintro e w1 ⟨g, q, rfl, -, hb1⟩; have cl0_0 : w1.cell? ⟨w.heap.size, 0, none⟩ = some (.slice a l.length c) := (hb1.cell (p := ⟨w.heap.size, 0, none⟩) smx).trans kpx; have sl0 : w.heap.size < w1.heap.size := (by have hss := hb1.size; first | omega | (simp at hss; omega)); have cl1_0 : w1.cell? ⟨w.heap.size + 1, 0, none⟩ = some (.int .i64 m.kind) := (hb1.cell (p := ⟨w.heap.size + 1, 0, none⟩) smx).trans kpx; have cl1_1 : w1.cell? ⟨w.heap.size + 1, 1, none⟩ = some (.int .i64 m.validity) := (hb1.cell (p := ⟨w.heap.size + 1, 1, none⟩) smx).trans kpx; have cl1_2 : w1.cell? ⟨w.heap.size + 1, 2, none⟩ = some (.int .i64 m.uid) := (hb1.cell (p := ⟨w.heap.size + 1, 2, none⟩) smx).trans kpx; have cl1_3 : w1.cell? ⟨w.heap.size + 1, 3, none⟩ = some (.int .i64 m.flags) := (hb1.cell (p := ⟨w.heap.size + 1, 3, none⟩) smx).trans kpx; have cl1_4 : w1.cell? ⟨w.heap.size + 1, 4, none⟩ = some (.string m.name) := (hb1.cell (p := ⟨w.heap.size + 1, 4, none⟩) smx).trans kpx; have cl1_5 : w1.cell? ⟨w.heap.size + 1, 5, none⟩ = some (.string m.text) := (hb1.cell (p := ⟨w.heap.size + 1, 5, none⟩) smx).trans kpx; have sl1 : w.heap.size + 1 < w1.heap.size := (by have hss := hb1.size; first | omega | (simp at hss; omega))) | (go_at_call 102; refine (specSeqIn_any l _ _ m.uid _ (HR.out.ext bxt) (seqOf m.uid l) (Lib.hid rfl)).mono ?_; rintro e w2 ⟨rfl, hb2⟩; have cl0_0 : w2.cell? ⟨w.heap.size, 0, none⟩ = some (.slice a l.length c) := (hb2.cell (p := ⟨w.heap.size, 0, none⟩) smx).trans kpx; have sl0 : w.heap.size < w2.heap.size := (by have hss := hb2.size; first | omega | (simp at hss; omega)); have cl1_0 : w2.cell? ⟨w.heap.size + 1, 0, none⟩ = some (.int .i64 m.kind) := (hb2.cell (p := ⟨w.heap.size + 1, 0, none⟩) smx).trans kpx; have cl1_1 : w2.cell? ⟨w.heap.size + 1, 1, none⟩ = some (.int .i64 m.validity) := (hb2.cell (p := ⟨w.heap.size + 1, 1, none⟩) smx).trans kpx; have cl1_2 : w2.cell? ⟨w.heap.size + 1, 2, none⟩ = some (.int .i64 m.uid) := (hb2.cell (p := ⟨w.heap.size + 1, 2, none⟩) smx).trans kpx; have cl1_3 : w2.cell? ⟨w.heap.size + 1, 3, none⟩ = some (.int .i64 m.flags) := (hb2.cell (p := ⟨w.heap.size + 1, 3, none⟩) smx).trans kpx; have cl1_4 : w2.cell? ⟨w.heap.size + 1, 4, none⟩ = some (.string m.name) := (hb2.cell (p := ⟨w.heap.size + 1, 4, none⟩) smx).trans kpx; have cl1_5 : w2.cell? ⟨w.heap.size + 1, 5, none⟩ = some (.string m.text) := (hb2.cell (p := ⟨w.heap.size + 1, 5, none⟩) smx).trans kpx; have sl1 : w.heap.size + 1 < w2.heap.size := (by have hss := hb2.size; first | omega | (simp at hss; omega))) | (at_builtin; refine wpList_app (B := w.heap.size) (v := .slice _ 0 0) rfl _ _ _ rfl 31 i0 _ _ Tryd.underlying37 hi0 hz0 hz1 hz2 rfl (by decide) rfl (Own.none0 _) (some ⟨w2.heap.size, 0, none⟩) 1 1 [.int .i64 (3), .int .i64 (seqOf m.uid l), .int .i64 (m.uid), .int .i64 (m.flags), .string ⟨#[]⟩, .string ⟨#[]⟩] rfl (Rd.lit _ _ _ 1 6 _ (by first | rfl | simp) rfl (by omega)) (by simp [Value.oneCell']) (by omega) (by omega) smx ?_; intro g2 q2 w3 hown hg; simp only [Nat.zero_add, List.nil_append] at hown ⊢; have hgn := grown_below (show World.grownBy _ w3 none from hg); have HO := Lib.hid hown; clear hown hg))
  go_ret
  exact ⟨_, _, rfl, HO.out, bxt⟩

set_option maxRecDepth 100000 in
set_option maxHeartbeats 4000000 in
theorem specTell_k6 (l : List DSeen) (a : Option Addr) (c : Nat) (m : DCommit) (w : World) (R : Rd w a c 2 l.length (l.flatMap DSeen.cells)) (hl : l.length ≤ 1048576) (g1 : m.name.size ≤ 9223372036854775807) (g2 : m.text.size ≤ 9223372036854775807) (hok : (followed l m).ok = true) (hk4 : m.kind ≠ 4) (hk5 : m.kind ≠ 5) :
    Calls Tryd.prog 82 #[.agg #[.slice a l.length c], .agg #[.int .i64 m.kind, .int .i64 m.validity, .int .i64 m.uid, .int .i64 m.flags, .string m.name, .string m.text]] w (TellPost 31 [⟨2, seqOf m.uid l, 0, 0, ⟨#[]⟩, ⟨#[]⟩⟩] w) := by
  have HR := Lib.hid R
  clear R
  obtain ⟨i0, hi0, hz0, hz1, hz2⟩ := info_parts info_Reply
  obtain ⟨rk, hrk⟩ : ∃ r, (followed l m).known = r := ⟨_, rfl⟩
  have HK := Lib.hid hrk
  have HOK := Lib.hid hok
  clear hrk hok
  have wr : IntKind.i64.wrap ((l.length : Int) + 1) = (l.length : Int) + 1 := IntWalk.i64_in _ (by omega)
  have k4 : (m.kind == 4) = false := beq_eq_false_iff_ne.2 hk4
  have k5 : (m.kind == 5) = false := beq_eq_false_iff_ne.2 hk5
  clear hk4
  clear hk5
  go_enter Tryd.func82, Tryd.ntmps82
  go_wp2_with (first | (go_at_call 83; refine (specFollowed_any l _ _ m _ (HR.out.ext bxt) hl g1 g2 rk HK true HOK).mono ?_; rintro e w1 ⟨g, q, rfl, -, hb1⟩; have cl0_0 : w1.cell? ⟨w.heap.size, 0, none⟩ = some (.slice a l.length c) := (hb1.cell (p := ⟨w.heap.size, 0, none⟩) smx).trans kpx; have sl0 : w.heap.size < w1.heap.size := (by have hss := hb1.size; first | omega | (simp at hss; omega)); have cl1_0 : w1.cell? ⟨w.heap.size + 1, 0, none⟩ = some (.int .i64 m.kind) := (hb1.cell (p := ⟨w.heap.size + 1, 0, none⟩) smx).trans kpx; have cl1_1 : w1.cell? ⟨w.heap.size + 1, 1, none⟩ = some (.int .i64 m.validity) := (hb1.cell (p := ⟨w.heap.size + 1, 1, none⟩) smx).trans kpx; have cl1_2 : w1.cell? ⟨w.heap.size + 1, 2, none⟩ = some (.int .i64 m.uid) := (hb1.cell (p := ⟨w.heap.size + 1, 2, none⟩) smx).trans kpx; have cl1_3 : w1.cell? ⟨w.heap.size + 1, 3, none⟩ = some (.int .i64 m.flags) := (hb1.cell (p := ⟨w.heap.size + 1, 3, none⟩) smx).trans kpx; have cl1_4 : w1.cell? ⟨w.heap.size + 1, 4, none⟩ = some (.string m.name) := (hb1.cell (p := ⟨w.heap.size + 1, 4, none⟩) smx).trans kpx; have cl1_5 : w1.cell? ⟨w.heap.size + 1, 5, none⟩ = some (.string m.text) := (hb1.cell (p := ⟨w.heap.size + 1, 5, none⟩) smx).trans kpx; have sl1 : w.heap.size + 1 < w1.heap.size := (by have hss := hb1.size; first | omega | (simp at hss; omega))) | (go_at_call 102; refine (specSeqIn_any l _ _ m.uid _ (HR.out.ext bxt) (seqOf m.uid l) (Lib.hid rfl)).mono ?_; rintro e w2 ⟨rfl, hb2⟩; have cl0_0 : w2.cell? ⟨w.heap.size, 0, none⟩ = some (.slice a l.length c) := (hb2.cell (p := ⟨w.heap.size, 0, none⟩) smx).trans kpx; have sl0 : w.heap.size < w2.heap.size := (by have hss := hb2.size; first | omega | (simp at hss; omega)); have cl1_0 : w2.cell? ⟨w.heap.size + 1, 0, none⟩ = some (.int .i64 m.kind) := (hb2.cell (p := ⟨w.heap.size + 1, 0, none⟩) smx).trans kpx; have cl1_1 : w2.cell? ⟨w.heap.size + 1, 1, none⟩ = some (.int .i64 m.validity) := (hb2.cell (p := ⟨w.heap.size + 1, 1, none⟩) smx).trans kpx; have cl1_2 : w2.cell? ⟨w.heap.size + 1, 2, none⟩ = some (.int .i64 m.uid) := (hb2.cell (p := ⟨w.heap.size + 1, 2, none⟩) smx).trans kpx; have cl1_3 : w2.cell? ⟨w.heap.size + 1, 3, none⟩ = some (.int .i64 m.flags) := (hb2.cell (p := ⟨w.heap.size + 1, 3, none⟩) smx).trans kpx; have cl1_4 : w2.cell? ⟨w.heap.size + 1, 4, none⟩ = some (.string m.name) := (hb2.cell (p := ⟨w.heap.size + 1, 4, none⟩) smx).trans kpx; have cl1_5 : w2.cell? ⟨w.heap.size + 1, 5, none⟩ = some (.string m.text) := (hb2.cell (p := ⟨w.heap.size + 1, 5, none⟩) smx).trans kpx; have sl1 : w.heap.size + 1 < w2.heap.size := (by have hss := hb2.size; first | omega | (simp at hss; omega))) | (at_builtin; refine wpList_app (B := w.heap.size) (v := .slice _ 0 0) rfl _ _ _ rfl 31 i0 _ _ Tryd.underlying37 hi0 hz0 hz1 hz2 rfl (by decide) rfl (Own.none0 _) (some ⟨w2.heap.size, 0, none⟩) 1 1 [.int .i64 (2), .int .i64 (seqOf m.uid l), .int .i64 (0), .int .i64 (0), .string ⟨#[]⟩, .string ⟨#[]⟩] rfl (Rd.lit _ _ _ 1 6 _ (by first | rfl | simp) rfl (by omega)) (by simp [Value.oneCell']) (by omega) (by omega) smx ?_; intro g2 q2 w3 hown hg; simp only [Nat.zero_add, List.nil_append] at hown ⊢; have hgn := grown_below (show World.grownBy _ w3 none from hg); have HO := Lib.hid hown; clear hown hg))
  go_ret
  exact ⟨_, _, rfl, HO.out, bxt⟩

theorem specTelling_any (l : List DSeen) (a : Option Addr) (c : Nat) (m : DCommit) (w : World) (R : Rd w a c 2 l.length (l.flatMap DSeen.cells)) (hl : l.length ≤ 1048576) (g1 : m.name.size ≤ 9223372036854775807) (g2 : m.text.size ≤ 9223372036854775807) (rr : List DReply) (Hrr : Hid (telling l m = rr)) :
    Calls Tryd.prog 82 #[.agg #[.slice a l.length c], .agg #[.int .i64 m.kind, .int .i64 m.validity, .int .i64 m.uid, .int .i64 m.flags, .string m.name, .string m.text]] w (TellPost 31 rr w) := by
  obtain rfl := Hrr.out
  cases hok : (followed l m).ok with
  | false =>
    have e : telling l m = [] := by simp [telling, hok]
    rw [e]; exact specTell_no l a c m w R hl g1 g2 hok
  | true =>
    by_cases h4 : m.kind = 4
    · have e : telling l m = [⟨1, (l.length : Int) + 1, 0, 0, ⟨#[]⟩, ⟨#[]⟩⟩, ⟨3, (l.length : Int) + 1, m.uid, m.flags, ⟨#[]⟩, ⟨#[]⟩⟩] := by simp [telling, hok, h4]
      rw [e]; exact specTell_k4 l a c m w R hl g1 g2 hok h4
    by_cases h5 : m.kind = 5
    · have e : telling l m = [⟨3, seqOf m.uid l, m.uid, m.flags, ⟨#[]⟩, ⟨#[]⟩⟩] := by simp [telling, hok, h5]
      rw [e]; exact specTell_k5 l a c m w R hl g1 g2 hok h4 h5
    · have e : telling l m = [⟨2, seqOf m.uid l, 0, 0, ⟨#[]⟩, ⟨#[]⟩⟩] := by simp [telling, hok, h4, h5]
      rw [e]; exact specTell_k6 l a c m w R hl g1 g2 hok h4 h5

end Go.Proofs.YtadjlfcdjkikgaaDoor

namespace Go.Proofs.YtadjlfcdjkikgaaDoor
open Go.RowKit
set_option linter.unusedVariables false
set_option linter.unusedSimpArgs false

def fetchAt (l : List DMsg) (i : Nat) : DReply := match l[i]? with
  | some m => ⟨3, (i : Int) + 1, m.uid, m.flags, ⟨#[]⟩, ⟨#[]⟩⟩
  | none => ⟨0, 0, 0, 0, ⟨#[]⟩, ⟨#[]⟩⟩
def selTo (l : List DMsg) (k : Nat) : List DReply := [⟨9, 0, 0, 0, ⟨#[]⟩, ⟨#[]⟩⟩, ⟨1, (l.length : Int), 0, 0, ⟨#[]⟩, ⟨#[]⟩⟩] ++ (List.range k).map (fetchAt l)
theorem selTo_len (l : List DMsg) (k : Nat) : (selTo l k).length = k + 2 := by simp [selTo]
theorem selTo_succ (l : List DMsg) (k : Nat) (hk : k < l.length) : selTo l (k + 1) = selTo l k ++ [⟨3, (k : Int) + 1, l[k].uid, l[k].flags, ⟨#[]⟩, ⟨#[]⟩⟩] := by
  unfold selTo
  rw [List.range_succ, List.map_append, ← List.append_assoc]
  simp [fetchAt, hk]
instance decNameSel (s : ByteArray) : Decidable (NameP s) := by unfold NameP LetterP; infer_instance
instance (nm : ByteArray) (v nx : Int) (l : List DMsg) : Decidable (BoxP nm v nx l) := by unfold BoxP; infer_instance
def selecting (nm : ByteArray) (v nx : Int) (l : List DMsg) : List DReply := if BoxP nm v nx l then selTo l l.length ++ [⟨8, v, 0, 0, nm, ⟨#[]⟩⟩] else []
theorem selecting_len (nm : ByteArray) (v nx : Int) (l : List DMsg) : (selecting nm v nx l).length ≤ l.length + 3 := by
  unfold selecting
  split
  · simp [selTo_len]
  · simp
def SelPost (E : Nat) (r : List DReply) (w : World) (e : Ending) (w' : World) : Prop :=
  ∃ g q, e = .returned (.slice g r.length q) ∧ Own w' w.heap.size E 6 (.slice g r.length q) r.length (r.flatMap DReply.cells) ∧ Ext w w'
def SelRel (E : Nat) (l : List DMsg) (W : World) (v i : Value) (wr : World) : Prop :=
  ∃ (k : Nat) (g : Option Addr) (q : Nat), k ≤ l.length ∧ i = .int .i64 k ∧ v = .slice g (selTo l k).length q ∧ Hid (Own wr W.heap.size E 6 (.slice g (selTo l k).length q) (selTo l k).length ((selTo l k).flatMap DReply.cells)) ∧ Below W.heap.size W wr
theorem SelRel.next {E k q : Nat} {g : Option Addr} {l : List DMsg} {W w2 : World} (hk : k < l.length) (h : Own w2 W.heap.size E 6 (.slice g ((selTo l k).length + 1) q) ((selTo l k).length + 1) ((selTo l k).flatMap DReply.cells ++ [.int .i64 3, .int .i64 ((k : Int) + 1), .int .i64 l[k].uid, .int .i64 l[k].flags, .string ⟨#[]⟩, .string ⟨#[]⟩])) (hb : Below W.heap.size W w2) :
    SelRel E l W (.slice g ((selTo l k).length + 1) q) (.int .i64 ((k : Int) + 1)) w2 := by
  have e : (selTo l (k + 1)).length = (selTo l k).length + 1 := by simp [selTo_len]
  refine ⟨k + 1, g, q, hk, by simp, by rw [e], ?_, hb⟩
  unfold Hid
  rw [e, selTo_succ l k hk, List.flatMap_append]
  simpa [DReply.cells] using h

set_option maxRecDepth 100000 in
set_option maxHeartbeats 4000000 in
theorem specSel_no (nm : ByteArray) (v nx : Int) (l : List DMsg) (a : Option Addr) (c : Nat) (w : World) (R : Rd w a c 3 l.length (l.flatMap DMsg.cells)) (hl : l.length ≤ 1048576) (g1 : nm.size ≤ 9223372036854775807) (gs : ∀ y ∈ l, y.text.size ≤ 9223372036854775807) (hb : ¬ BoxP nm v nx l) : Calls Tryd.prog 78 #[.agg #[.string nm, .int .i64 v, .int .i64 nx, .slice a l.length c]] w (SelPost 31 [] w) := by
  have HR := Lib.hid R
  have HGS := Lib.hid gs
  clear R gs
  obtain ⟨i0, hi0, hz0, hz1, hz2⟩ := info_parts info_Reply
  have HB : Hid (Tells false (BoxP nm v nx l)) := ⟨(fun h => by cases h), fun h => (hb h).elim⟩
  clear hb
  go_enter Tryd.func78, Tryd.ntmps78
  go_wp2_with (go_at_call 94; refine (specBoxOk_any nm v nx l _ _ _ (HR.out.ext bxt) g1 HGS.out false HB).mono ?_; rintro e w1 ⟨rfl, hb1⟩; have cl0_0 : w1.cell? ⟨w.heap.size, 0, none⟩ = some (.string nm) := (hb1.cell (p := ⟨w.heap.size, 0, none⟩) smx).trans kpx; have cl0_1 : w1.cell? ⟨w.heap.size, 1, none⟩ = some (.int .i64 v) := (hb1.cell (p := ⟨w.heap.size, 1, none⟩) smx).trans kpx; have cl0_2 : w1.cell? ⟨w.heap.size, 2, none⟩ = some (.int .i64 nx) := (hb1.cell (p := ⟨w.heap.size, 2, none⟩) smx).trans kpx; have cl0_3 : w1.cell? ⟨w.heap.size, 3, none⟩ = some (.slice a l.length c) := (hb1.cell (p := ⟨w.heap.size, 3, none⟩) smx).trans kpx; have sl0 : w.heap.size < w1.heap.size := (by have hss := hb1.size; first | omega | (simp at hss; omega)))
  go_ret
  exact ⟨_, _, rfl, Own.none0 _, bxt⟩

set_option maxRecDepth 100000 in
set_option maxHeartbeats 8000000 in
theorem specSel_ok (nm : ByteArray) (v nx : Int) (l : List DMsg) (a : Option Addr) (c : Nat) (w : World) (R : Rd w a c 3 l.length (l.flatMap DMsg.cells)) (hl : l.length ≤ 1048576) (g1 : nm.size ≤ 9223372036854775807) (gs : ∀ y ∈ l, y.text.size ≤ 9223372036854775807) (hb : BoxP nm v nx l) : Calls Tryd.prog 78 #[.agg #[.string nm, .int .i64 v, .int .i64 nx, .slice a l.length c]] w (SelPost 31 (selTo l l.length ++ [⟨8, v, 0, 0, nm, ⟨#[]⟩⟩]) w) := by
  have HR := Lib.hid R
  have HGS := Lib.hid gs
  clear R gs
  obtain ⟨i0, hi0, hz0, hz1, hz2⟩ := info_parts info_Reply
  have HB : Hid (Tells true (BoxP nm v nx l)) := ⟨fun _ => hb, fun _ => rfl⟩
  have h6 : l.length ≤ 6 := hb.2.2.2.1
  clear hb
  go_enter Tryd.func78, Tryd.ntmps78
  go_wp2_with (first | (go_at_call 94; refine (specBoxOk_any nm v nx l _ _ _ (HR.out.ext bxt) g1 HGS.out true HB).mono ?_; rintro e w1 ⟨rfl, hb1⟩; have cl0_0 : w1.cell? ⟨w.heap.size, 0, none⟩ = some (.string nm) := (hb1.cell (p := ⟨w.heap.size, 0, none⟩) smx).trans kpx; have cl0_1 : w1.cell? ⟨w.heap.size, 1, none⟩ = some (.int .i64 v) := (hb1.cell (p := ⟨w.heap.size, 1, none⟩) smx).trans kpx; have cl0_2 : w1.cell? ⟨w.heap.size, 2, none⟩ = some (.int .i64 nx) := (hb1.cell (p := ⟨w.heap.size, 2, none⟩) smx).trans kpx; have cl0_3 : w1.cell? ⟨w.heap.size, 3, none⟩ = some (.slice a l.length c) := (hb1.cell (p := ⟨w.heap.size, 3, none⟩) smx).trans kpx; have sl0 : w.heap.size < w1.heap.size := (by have hss := hb1.size; first | omega | (simp at hss; omega))) | (at_builtin; refine wpList_app (B := w1.heap.size) (v := .slice (some ⟨w.heap.size + 1, 0, none⟩) 0 0) rfl _ _ _ rfl 31 i0 _ _ Tryd.underlying37 hi0 hz0 hz1 hz2 rfl (by decide) rfl (Own.none0 _) (some ⟨w1.heap.size, 0, none⟩) 2 2 [.int .i64 9, .int .i64 0, .int .i64 0, .int .i64 0, .string ⟨#[]⟩, .string ⟨#[]⟩, .int .i64 1, .int .i64 (l.length : Int), .int .i64 0, .int .i64 0, .string ⟨#[]⟩, .string ⟨#[]⟩] rfl (Rd.lit _ _ _ 2 6 _ (by first | rfl | simp) rfl (by omega)) (by simp [Value.oneCell']) (by omega) (by omega) (by first | exact Nat.le_refl _ | (simp; done) | omega) ?_; intro g q w2 hown hg; simp only [Nat.zero_add, List.nil_append] at hown ⊢; have hgn := grown_below (show World.grownBy _ w2 none from hg); have HO := Lib.hid hown; clear hown hg))
  go_loopw [3, 4] (SelRel 31 l w1) (fun _ i _ => l.length - (intOf i).toNat)
  case atStart => exact ⟨0, g, q, Nat.zero_le _, rfl, rfl, Lib.hid (by simpa [selTo, DReply.cells] using HO.out), bxt⟩
  case round =>
    obtain ⟨k, g, q, hk, rfl, rfl, HO, hb⟩ := hrel
    have hlen : (selTo l k).length ≤ 8 := by (rw [selTo_len]; omega)
    have hbs : w1.heap.size ≤ wr.heap.size := hb.size
    have wr1 : IntKind.i64.wrap ((k : Int) + 1) = (k : Int) + 1 := IntWalk.i64_in _ (by omega)
    have hw0 : Below w.heap.size w wr := bxt
    have c0 : wr.cell? ⟨w.heap.size, 0, none⟩ = some (.string nm) := (hb.cell (p := ⟨w.heap.size, 0, none⟩) sl0).trans cl0_0
    have c1 : wr.cell? ⟨w.heap.size, 1, none⟩ = some (.int .i64 v) := (hb.cell (p := ⟨w.heap.size, 1, none⟩) sl0).trans cl0_1
    have c2 : wr.cell? ⟨w.heap.size, 2, none⟩ = some (.int .i64 nx) := (hb.cell (p := ⟨w.heap.size, 2, none⟩) sl0).trans cl0_2
    have c3 : wr.cell? ⟨w.heap.size, 3, none⟩ = some (.slice a l.length c) := (hb.cell (p := ⟨w.heap.size, 3, none⟩) sl0).trans cl0_3
    have sw0 : w.heap.size < wr.heap.size := by omega
    by_cases hlt : k < l.length
    · obtain ⟨b, o, rfl, hbb, hat⟩ := HR.out.ptr (by omega)
      obtain ⟨x0, x1, x2⟩ := DMsg.at (hat.ext hbb hw0) k hlt
      have HA := Lib.hid hat
      have hbw : b < wr.heap.size := by (have := hw0.size; omega)
      have hbw1 : b < w1.heap.size := by omega
      clear hat
      go_wp2_with fail
      first
        | go_region_law ((refine step_app (B := w1.heap.size) (v := .slice g (selTo l k).length q) (n := (selTo l k).length) (xs := (selTo l k).flatMap DReply.cells) (s := 6) rfl (.tmp 25) (.tmp 41) 37 rfl 31 i0 _ _ Tryd.underlying37 hi0 hz0 hz1 hz2 rfl (by decide) (by simp [Act.eval, Act.put]) (by repeat' (first | with_reducible exact HO.out | with_reducible refine Own.set_below ?_ smx _ | with_reducible refine Own.alloc1 ?_ _ | with_reducible refine Own.drew1 ?_ | with_reducible refine Own.drewN1 ?_ | with_reducible refine Own.ext ?_ (by assumption))) (some ⟨wr.heap.size, 0, none⟩) 1 1 [.int .i64 3, .int .i64 ((k : Int) + 1), .int .i64 l[k].uid, .int .i64 l[k].flags, .string ⟨#[]⟩, .string ⟨#[]⟩] (by simp [Act.eval, Act.put]) (Rd.lit wr.drew #[.int .i64 3, .int .i64 ((k : Int) + 1), .int .i64 l[k].uid, .int .i64 l[k].flags, .string ⟨#[]⟩, .string ⟨#[]⟩] 31 1 6 wr.heap.size rfl rfl (by omega)) (by simp [Value.oneCell']) (by omega) (by omega) smx ?_; intro g2 q2 w2 hown hg; have hb2 : Below w1.heap.size w1 w2 := below_foot (show Below w1.heap.size w1 _ from bxt) (show Own _ w1.heap.size 31 6 (.slice g (selTo l k).length q) (selTo l k).length ((selTo l k).flatMap DReply.cells) from (by repeat' (first | with_reducible exact HO.out | with_reducible refine Own.set_below ?_ smx _ | with_reducible refine Own.alloc1 ?_ _ | with_reducible refine Own.drew1 ?_ | with_reducible refine Own.drewN1 ?_ | with_reducible refine Own.ext ?_ (by assumption)))) (Nat.le_refl _) (by first | exact Nat.le_refl _ | (simp; omega) | omega) hg; have HN := Lib.hid (SelRel.next hlt hown hb2); clear hown hg))
        | fail
      all_goals
        go_wp2_with fail
        go_roundw
        case rel => exact HN.out
        case measure => simp [intOf]; omega
    · obtain rfl : k = l.length := by omega
      go_wp2_with (at_builtin; refine wpList_app (B := w1.heap.size) (v := .slice g (selTo l l.length).length q) (n := (selTo l l.length).length) (xs := (selTo l l.length).flatMap DReply.cells) (s := 6) rfl _ _ _ rfl 31 i0 _ _ Tryd.underlying37 hi0 hz0 hz1 hz2 rfl (by decide) rfl (by repeat' (first | with_reducible exact HO.out | with_reducible refine Own.set_below ?_ smx _ | with_reducible refine Own.alloc1 ?_ _ | with_reducible refine Own.drew1 ?_ | with_reducible refine Own.drewN1 ?_ | with_reducible refine Own.ext ?_ (by assumption))) (some ⟨wr.heap.size, 0, none⟩) 1 1 [.int .i64 8, .int .i64 v, .int .i64 0, .int .i64 0, .string nm, .string ⟨#[]⟩] rfl (Rd.lit _ _ _ 1 6 _ (by first | rfl | simp) rfl (by omega)) (by simp [Value.oneCell']) (by omega) (by omega) smx ?_; intro g2 q2 w2 hown hg; have hb2 : Below w1.heap.size w1 w2 := below_foot (show Below w1.heap.size w1 _ from bxt) (show Own _ w1.heap.size 31 6 (.slice g (selTo l l.length).length q) (selTo l l.length).length ((selTo l l.length).flatMap DReply.cells) from (by repeat' (first | with_reducible exact HO.out | with_reducible refine Own.set_below ?_ smx _ | with_reducible refine Own.alloc1 ?_ _ | with_reducible refine Own.drew1 ?_ | with_reducible refine Own.drewN1 ?_ | with_reducible refine Own.ext ?_ (by assumption)))) (Nat.le_refl _) (by first | exact Nat.le_refl _ | (simp; omega) | omega) hg; have HO2 := Lib.hid hown; clear hown hg)
      go_ret
      have h3 : Own w2 w1.heap.size 31 6 (.slice g2 (selTo l l.length ++ [⟨8, v, 0, 0, nm, ⟨#[]⟩⟩] : List DReply).length q2) (selTo l l.length ++ [⟨8, v, 0, 0, nm, ⟨#[]⟩⟩] : List DReply).length ((selTo l l.length ++ [⟨8, v, 0, 0, nm, ⟨#[]⟩⟩] : List DReply).flatMap DReply.cells) := by simpa [DReply.cells] using HO2.out
      exact ⟨g2, q2, by simp, h3.le (by omega), Below.extB (show Below w.heap.size w w1 from bxt) hb2 (by omega)⟩

theorem specSelecting_any (nm : ByteArray) (v nx : Int) (l : List DMsg) (a : Option Addr) (c : Nat) (w : World) (R : Rd w a c 3 l.length (l.flatMap DMsg.cells)) (hl : l.length ≤ 1048576) (g1 : nm.size ≤ 9223372036854775807) (gs : ∀ y ∈ l, y.text.size ≤ 9223372036854775807) (rr : List DReply) (Hrr : Hid (selecting nm v nx l = rr)) : Calls Tryd.prog 78 #[.agg #[.string nm, .int .i64 v, .int .i64 nx, .slice a l.length c]] w fun e w' => ∃ g q, e = .returned (.slice g rr.length q) ∧ Own w' w.heap.size 31 6 (.slice g rr.length q) rr.length (rr.flatMap DReply.cells) ∧ Ext w w' := by
  obtain rfl := Hrr.out
  by_cases hb : BoxP nm v nx l
  · have e : selecting nm v nx l = selTo l l.length ++ [⟨8, v, 0, 0, nm, ⟨#[]⟩⟩] := by simp [selecting, hb]
    rw [e]; exact specSel_ok nm v nx l a c w R hl g1 gs hb
  · have e : selecting nm v nx l = [] := by simp [selecting, hb]
    rw [e]; exact specSel_no nm v nx l a c w R hl g1 gs hb

end Go.Proofs.YtadjlfcdjkikgaaDoor

namespace Go.Proofs.YtadjlfcdjkikgaaDoor
open Go.RowKit
set_option linter.unusedVariables false
set_option linter.unusedSimpArgs false

/-- the loop's state: the mailbox in the block b3, the view in the block b5, and three rows of the call's own -/
structure LSt (w : World) (B cb b3 b5 : Nat) (nm : ByteArray) (va nx : Int) (ga : Option Addr) (qa : Nat) (ms : List DMsg) (gv : Option Addr) (qv : Nat) (vs : List DSeen) (go : Option Addr) (qo : Nat) (os : List DReply) : Prop where
  bx : Bx w b3 [.string nm, .int .i64 va, .int .i64 nx, .slice ga ms.length qa]
  bv : Bx w b5 [.slice gv vs.length qv]
  om : Own w B 111 3 (.slice ga ms.length qa) ms.length (ms.flatMap DMsg.cells)
  ov : Own w B 114 2 (.slice gv vs.length qv) vs.length (vs.flatMap DSeen.cells)
  oo : Own w B 31 6 (.slice go os.length qo) os.length (os.flatMap DReply.cells)
  hB : cb < B
  h3 : B ≤ b3
  h5 : B ≤ b5
  h35 : b3 ≠ b5
  m3 : foot (.slice ga ms.length qa) ≠ some b3
  m5 : foot (.slice ga ms.length qa) ≠ some b5
  v3 : foot (.slice gv vs.length qv) ≠ some b3
  v5 : foot (.slice gv vs.length qv) ≠ some b5
  o3 : foot (.slice go os.length qo) ≠ some b3
  o5 : foot (.slice go os.length qo) ≠ some b5
  mo : ∀ k, foot (.slice ga ms.length qa) = some k → foot (.slice go os.length qo) ≠ some k
  vo : ∀ k, foot (.slice gv vs.length qv) = some k → foot (.slice go os.length qo) ≠ some k
theorem off2_of {v v2 : Value} (h : ∀ k, foot v = some k → foot v2 ≠ some k) : Off2 v v2 := by
  cases hv : foot v with
  | none => exact Or.inl hv
  | some k => exact Or.inr (by rw [hv]; exact fun e => h k hv e.symm)
section
variable {w w' : World} {B cb b3 b5 : Nat} {nm : ByteArray} {va nx : Int} {ga : Option Addr} {qa : Nat} {ms : List DMsg} {gv : Option Addr} {qv : Nat} {vs : List DSeen} {go : Option Addr} {qo : Nat} {os : List DReply}
theorem LSt.ext (h : LSt w B cb b3 b5 nm va nx ga qa ms gv qv vs go qo os) (hw : Ext w w') : LSt w' B cb b3 b5 nm va nx ga qa ms gv qv vs go qo os :=
  ⟨h.bx.ext hw, h.bv.ext hw, h.om.ext hw, h.ov.ext hw, h.oo.ext hw, h.hB, h.h3, h.h5, h.h35, h.m3, h.m5, h.v3, h.v5, h.o3, h.o5, h.mo, h.vo⟩
theorem LSt.dr (h : LSt w B cb b3 b5 nm va nx ga qa ms gv qv vs go qo os) (hd : Dr cb w w') : LSt w' B cb b3 b5 nm va nx ga qa ms gv qv vs go qo os :=
  ⟨h.bx.dr hd (by have := h.h3; have := h.hB; omega), h.bv.dr hd (by have := h.h5; have := h.hB; omega), h.om.dr hd h.hB, h.ov.dr hd h.hB, h.oo.dr hd h.hB, h.hB, h.h3, h.h5, h.h35, h.m3, h.m5, h.v3, h.v5, h.o3, h.o5, h.mo, h.vo⟩
/-- another row of replies: it is the old one, or fresh -/
theorem LSt.app (h : LSt w B cb b3 b5 nm va nx ga qa ms gv qv vs go qo os) {g2 : Option Addr} {q2 : Nat} {os2 : List DReply} (hg : w.grownBy w' (foot (.slice go os.length qo))) (hn : Own w' B 31 6 (.slice g2 os2.length q2) os2.length (os2.flatMap DReply.cells))
    (hf : ∀ k, foot (.slice g2 os2.length q2) = some k → foot (.slice go os.length qo) = some k ∨ w.heap.size ≤ k) : LSt w' B cb b3 b5 nm va nx ga qa ms gv qv vs g2 q2 os2 := by
  have l3 := h.bx.lt
  have l5 := h.bv.lt
  refine ⟨h.bx.grown hg h.o3, h.bv.grown hg h.o5, h.om.off hg (off2_of h.mo), h.ov.off hg (off2_of h.vo), hn, h.hB, h.h3, h.h5, h.h35, h.m3, h.m5, h.v3, h.v5, fun e => ?_, fun e => ?_, fun k hk e => ?_, fun k hk e => ?_⟩
  · rcases hf _ e with h1 | h1
    · exact h.o3 h1
    · omega
  · rcases hf _ e with h1 | h1
    · exact h.o5 h1
    · omega
  · rcases hf _ e with h1 | h1
    · exact h.mo k hk h1
    · have := (h.om.lt k hk).2; omega
  · rcases hf _ e with h1 | h1
    · exact h.vo k hk h1
    · have := (h.ov.lt k hk).2; omega
/-- another view, with a fresh row -/
theorem LSt.setView (h : LSt w B cb b3 b5 nm va nx ga qa ms gv qv vs go qo os) {g2 : Option Addr} {q2 N : Nat} {vs2 : List DSeen} (hn : Own w B 114 2 (.slice g2 vs2.length q2) vs2.length (vs2.flatMap DSeen.cells))
    (h3 : b3 < N) (h5 : b5 < N) (ho : ∀ k, foot (.slice go os.length qo) = some k → k < N) (hf : ∀ k, foot (.slice g2 vs2.length q2) = some k → N ≤ k) : LSt (w.setCell ⟨b5, 0, none⟩ (.slice g2 vs2.length q2)) B cb b3 b5 nm va nx ga qa ms g2 q2 vs2 go qo os := by
  have n3 : foot (.slice g2 vs2.length q2) ≠ some b3 := fun e => by have := hf _ e; omega
  have n5 : foot (.slice g2 vs2.length q2) ≠ some b5 := fun e => by have := hf _ e; omega
  exact ⟨h.bx.set (p := ⟨b5, 0, none⟩) (fun e => h.h35 e.symm) _, h.bv.put1 0 _ rfl, h.om.set_off (p := ⟨b5, 0, none⟩) h.m5 _, hn.set_off (p := ⟨b5, 0, none⟩) n5 _, h.oo.set_off (p := ⟨b5, 0, none⟩) h.o5 _,
    h.hB, h.h3, h.h5, h.h35, h.m3, h.m5, n3, n5, h.o3, h.o5, h.mo, fun k hk e => by have h1 := hf k hk; have h2 := ho k e; omega⟩
end
end Go.Proofs.YtadjlfcdjkikgaaDoor

namespace Go.Proofs.YtadjlfcdjkikgaaDoor
open Go.RowKit
set_option linter.unusedVariables false
set_option linter.unusedSimpArgs false

/-- short names and texts -/
def SzR (os : List DReply) : Prop := ∀ y ∈ os, y.name.size ≤ 41 ∧ y.text.size ≤ 41
theorem szr_nil : SzR [] := fun y hy => absurd hy (by simp)
theorem szr_one {r : DReply} (h1 : r.name.size ≤ 41) (h2 : r.text.size ≤ 41) : SzR [r] := fun y hy => by obtain rfl := List.mem_singleton.1 hy; exact ⟨h1, h2⟩
theorem SzR.app {a b : List DReply} (h1 : SzR a) (h2 : SzR b) : SzR (a ++ b) := fun y hy => (List.mem_append.1 hy).elim (h1 y) (h2 y)
theorem SzR.mid {a b : List DReply} (h1 : SzR a) (h2 : SzR b) (k : Nat) : SzR (a.take k ++ b ++ a.drop k) := fun y hy => by
  rcases List.mem_append.1 hy with h | h
  · rcases List.mem_append.1 h with h | h
    · exact h1 y (List.mem_of_mem_take h)
    · exact h2 y h
  · exact h1 y (List.mem_of_mem_drop h)
theorem szr_telling (l : List DSeen) (m : DCommit) : SzR (telling l m) := by
  unfold telling
  repeat' split
  all_goals (intro y hy; simp at hy)
  · rcases hy with rfl | rfl <;> exact ⟨Nat.zero_le _, Nat.zero_le _⟩
  · subst hy; exact ⟨Nat.zero_le _, Nat.zero_le _⟩
  · subst hy; exact ⟨Nat.zero_le _, Nat.zero_le _⟩
theorem szr_fetchAt (l : List DMsg) (i : Nat) : (fetchAt l i).name.size ≤ 41 ∧ (fetchAt l i).text.size ≤ 41 := by
  unfold fetchAt
  split <;> exact ⟨Nat.zero_le _, Nat.zero_le _⟩
theorem szr_selecting {nm : ByteArray} (v nx : Int) (l : List DMsg) (h : nm.size ≤ 41) : SzR (selecting nm v nx l) := by
  unfold selecting
  split
  · refine SzR.app ?_ (szr_one h (Nat.zero_le _))
    unfold selTo
    refine SzR.app (fun y hy => ?_) (fun y hy => ?_)
    · simp at hy
      rcases hy with rfl | rfl <;> exact ⟨Nat.zero_le _, Nat.zero_le _⟩
    · obtain ⟨i, -, rfl⟩ := List.mem_map.1 hy
      exact szr_fetchAt l i
  · exact szr_nil
/-- another mailbox, its row apart from the others -/
theorem LSt.setBoxA {w : World} {B cb b3 b5 : Nat} {nm : ByteArray} {va nx : Int} {ga : Option Addr} {qa : Nat} {ms : List DMsg} {gv : Option Addr} {qv : Nat} {vs : List DSeen} {go : Option Addr} {qo : Nat} {os : List DReply} (h : LSt w B cb b3 b5 nm va nx ga qa ms gv qv vs go qo os) {nm2 : ByteArray} {va2 nx2 : Int} {g2 : Option Addr} {q2 B2 : Nat} {ms2 : List DMsg} (hn : Own w B2 111 3 (.slice g2 ms2.length q2) ms2.length (ms2.flatMap DMsg.cells))
    (n3 : foot (.slice g2 ms2.length q2) ≠ some b3) (n5 : foot (.slice g2 ms2.length q2) ≠ some b5) (ho : ∀ k, foot (.slice g2 ms2.length q2) = some k → foot (.slice go os.length qo) ≠ some k) (hB2 : B ≤ B2 := by omega) : LSt (putW w b3 0 [.string nm2, .int .i64 va2, .int .i64 nx2, .slice g2 ms2.length q2]) B cb b3 b5 nm2 va2 nx2 g2 q2 ms2 gv qv vs go qo os :=
  ⟨h.bx.put _ rfl, h.bv.putn _ _ h.h35, ((((hn.le hB2).set_off (p := ⟨b3, 0, none⟩) n3 _).set_off (p := ⟨b3, 1, none⟩) n3 _).set_off (p := ⟨b3, 2, none⟩) n3 _).set_off (p := ⟨b3, 3, none⟩) n3 _,
    (((h.ov.set_off (p := ⟨b3, 0, none⟩) h.v3 _).set_off (p := ⟨b3, 1, none⟩) h.v3 _).set_off (p := ⟨b3, 2, none⟩) h.v3 _).set_off (p := ⟨b3, 3, none⟩) h.v3 _,
    (((h.oo.set_off (p := ⟨b3, 0, none⟩) h.o3 _).set_off (p := ⟨b3, 1, none⟩) h.o3 _).set_off (p := ⟨b3, 2, none⟩) h.o3 _).set_off (p := ⟨b3, 3, none⟩) h.o3 _,
    h.hB, h.h3, h.h5, h.h35, n3, n5, h.v3, h.v5, h.o3, h.o5, ho, h.vo⟩
theorem Rd.none0A {s : Nat} (w : World) (a : Option Addr) : Rd w a 0 s 0 [] := ⟨by simp, Nat.le_refl _, by omega, fun h => absurd h (by omega)⟩
theorem ownRs_lit2 {w : World} {B E EM g0 : Nat} (nm : ByteArray) (va nx : Int) (ms : List DMsg) (g : Option Addr) (q : Nat) (hB : B ≤ w.heap.size) (hg : w.heap.size = g0) (h : Own w B EM 3 (.slice g ms.length q) ms.length (ms.flatMap DMsg.cells)) :
    OwnRs (w.alloc (.cells #[.string nm, .int .i64 va, .int .i64 nx, .slice g ms.length q] E)) B E EM (some ⟨g0, 0, none⟩) 1 [⟨nm, va, nx, ms, g, q⟩] :=
  ⟨(own_lit (n := 1) hg rfl rfl (by omega)).le hB, fun z hz => by obtain rfl := List.mem_singleton.1 hz; exact h.alloc1 _⟩
theorem Bx.drR4 {cb : Nat} {w w' : World} {b : Nat} {cs : List Value} (hd : Dr cb w w') (h : Bx w b cs) (hn : b ≠ cb) : Bx w' b cs := h.dr hd hn
/-- replies that are drawn -/
def DrLn (cb : Nat) (w : World) (e : Ending) (w' : World) : Prop := ∃ (g : Option Addr) (q : Nat) (os : List DReply), os.length ≤ 60 ∧ e = .returned (.slice g os.length q) ∧ Own w' w.heap.size 31 6 (.slice g os.length q) os.length (os.flatMap DReply.cells) ∧ Dr cb w w' ∧ SzR os
def LRel (cb : Nat) (w : World) (b3 b5 K : Nat) (ov : Value) (wr : World) : Prop := ∃ (nm : ByteArray) (va nx : Int) (ga : Option Addr) (qa : Nat) (ms : List DMsg) (gv : Option Addr) (qv : Nat) (vs : List DSeen) (go : Option Addr) (qo : Nat) (os : List DReply),
  ov = .slice go os.length qo ∧ nm.size ≤ 41 ∧ ms.length ≤ 6 ∧ (∀ y ∈ ms, y.text.size ≤ 41) ∧ vs.length ≤ 6 + K ∧ os.length ≤ 10 + 2 * K ∧ LSt wr w.heap.size cb b3 b5 nm va nx ga qa ms gv qv vs go qo os ∧ Dr cb w wr ∧ SzR os
def LLoop (cb : Nat) (w : World) (b3 b5 : Nat) (n : Int) (ov i : Value) (wr : World) : Prop := ∃ k : Nat, (k : Int) ≤ n ∧ i = .int .i64 k ∧ Hid (LRel cb w b3 b5 k ov wr)
set_option maxRecDepth 100000 in
set_option maxHeartbeats 4000000 in
theorem l15Lines_any (cb : Nat) (w : World) (hc : Cur w cb) :
    Calls Tryd.prog 66 #[.pointer (some ⟨cb, 0, none⟩)] w (DrLn cb w) := by
  obtain ⟨i0, hi, hy0, hy1, hy2⟩ := info_parts info_Reply
  have hcl := hc.lt
  have HC := Lib.hid hc
  clear hc
  go_enter Tryd.func66, Tryd.ntmps66
  go_wp2_with fail
  refine (l9Box_any cb _ _ _ (HC.out.ext bxt)).mono ?_
  rintro e w1 ⟨nx, ga, qa, ms, hml, htx, rfl, ho, hd1⟩
  have hz1 := hd1.size; (try simp at hz1)
  have HO := Lib.hid ho; have HTX := Lib.hid htx; clear ho htx
  obtain ⟨rr, hrr⟩ : ∃ r, selecting ⟨#[97]⟩ 2 nx ms = r := ⟨_, rfl⟩
  have hrl : rr.length ≤ 8 := by (rw [← hrr]; have := selecting_len ⟨#[97]⟩ 2 nx ms; omega)
  have HS00 : Hid (SzR rr) := Lib.hid (by rw [← hrr]; exact szr_selecting _ _ _ (by decide)); have HRR := Lib.hid hrr; clear hrr
  go_wp2_with fail
  refine (specSelecting_any ⟨#[97]⟩ 2 nx ms ga qa _ (Rd.of_Own (HO.out.ext bxt)) (by omega) (by decide) (fun y hy => by have := HTX.out y hy; omega) rr HRR).mono ?_
  rintro e w2 ⟨go, qo, rfl, hoo, hb2⟩
  have hz2 := hb2.size; (try simp at hz2)
  have s2_0 : w1.heap.size < w2.heap.size := (by omega)
  have c2_0_0 : w2.cell? ⟨w1.heap.size, 0, none⟩ = some (.string ⟨#[97]⟩) := (hb2.cell (p := ⟨w1.heap.size, 0, none⟩) smx).trans kpx
  have f2_0_0 : w2.frozen? ⟨w1.heap.size, 0, none⟩ = false := (hb2.frozen (p := ⟨w1.heap.size, 0, none⟩) smx).trans kfx
  have c2_0_1 : w2.cell? ⟨w1.heap.size, 1, none⟩ = some (.int .i64 2) := (hb2.cell (p := ⟨w1.heap.size, 1, none⟩) smx).trans kpx
  have f2_0_1 : w2.frozen? ⟨w1.heap.size, 1, none⟩ = false := (hb2.frozen (p := ⟨w1.heap.size, 1, none⟩) smx).trans kfx
  have c2_0_2 : w2.cell? ⟨w1.heap.size, 2, none⟩ = some (.int .i64 nx) := (hb2.cell (p := ⟨w1.heap.size, 2, none⟩) smx).trans kpx
  have f2_0_2 : w2.frozen? ⟨w1.heap.size, 2, none⟩ = false := (hb2.frozen (p := ⟨w1.heap.size, 2, none⟩) smx).trans kfx
  have c2_0_3 : w2.cell? ⟨w1.heap.size, 3, none⟩ = some (.slice ga ms.length qa) := (hb2.cell (p := ⟨w1.heap.size, 3, none⟩) smx).trans kpx
  have f2_0_3 : w2.frozen? ⟨w1.heap.size, 3, none⟩ = false := (hb2.frozen (p := ⟨w1.heap.size, 3, none⟩) smx).trans kfx
  have HOO := Lib.hid hoo; clear hoo
  obtain ⟨vs, hvs⟩ : ∃ r, ms.map DMsg.seen = r := ⟨_, rfl⟩
  have hvl : vs.length ≤ 5 := by (rw [← hvs]; simpa using hml)
  have HVS := Lib.hid hvs; clear hvs
  go_wp2_with fail
  refine (specViewOf_any _ _ _ ms ga qa _ (Rd.of_Own (HO.out.ext bxt)) (by omega) vs HVS).mono ?_
  rintro e w3 ⟨gv, qv, rfl, hov, hb3⟩
  have hz3 := hb3.size; (try simp at hz3)
  have s3_0 : w1.heap.size < w3.heap.size := (by omega)
  have c3_0_0 : w3.cell? ⟨w1.heap.size, 0, none⟩ = some (.string ⟨#[97]⟩) := (hb3.cell (p := ⟨w1.heap.size, 0, none⟩) smx).trans kpx
  have f3_0_0 : w3.frozen? ⟨w1.heap.size, 0, none⟩ = false := (hb3.frozen (p := ⟨w1.heap.size, 0, none⟩) smx).trans kfx
  have c3_0_1 : w3.cell? ⟨w1.heap.size, 1, none⟩ = some (.int .i64 2) := (hb3.cell (p := ⟨w1.heap.size, 1, none⟩) smx).trans kpx
  have f3_0_1 : w3.frozen? ⟨w1.heap.size, 1, none⟩ = false := (hb3.frozen (p := ⟨w1.heap.size, 1, none⟩) smx).trans kfx
  have c3_0_2 : w3.cell? ⟨w1.heap.size, 2, none⟩ = some (.int .i64 nx) := (hb3.cell (p := ⟨w1.heap.size, 2, none⟩) smx).trans kpx
  have f3_0_2 : w3.frozen? ⟨w1.heap.size, 2, none⟩ = false := (hb3.frozen (p := ⟨w1.heap.size, 2, none⟩) smx).trans kfx
  have c3_0_3 : w3.cell? ⟨w1.heap.size, 3, none⟩ = some (.slice ga ms.length qa) := (hb3.cell (p := ⟨w1.heap.size, 3, none⟩) smx).trans kpx
  have f3_0_3 : w3.frozen? ⟨w1.heap.size, 3, none⟩ = false := (hb3.frozen (p := ⟨w1.heap.size, 3, none⟩) smx).trans kfx
  have HOV := Lib.hid (Own.of_row hov); clear hov
  have HC3 := Lib.hid (hd1.cur.ext (w' := w3) bxt)
  go_wp2_with fail
  refine (l1Below_any cb 5 _ (HC3.out.ext bxt) (by omega)).mono ?_
  rintro e w4 ⟨n, ⟨n0, n1, -⟩, rfl, hd4⟩
  have n1 := n1 (by omega)
  have hz4 := hd4.size; (try simp at hz4)
  have HS0 : Hid (LRel cb w w1.heap.size w3.heap.size 0 (.slice go rr.length qo) w4) := ⟨⟨#[97]⟩, 2, nx, ga, qa, ms, gv, qv, vs, go, qo, rr, rfl, by decide, by omega, (fun y hy => by have := HTX.out y hy; omega), by omega, by omega, ⟨((Bx.mk rfl _ rfl : Bx (w1.alloc (.cells #[.string ⟨#[97]⟩, .int .i64 2, .int .i64 nx, .slice ga ms.length qa] 85)) w1.heap.size _).ext (w' := _) bxt).dr hd4 (by omega), Bx.drR4 hd4 (Bx.mk rfl _ rfl) (by omega), (((HO.out.le (B' := w.heap.size) (by first | omega | (simp; omega))).ext (w' := _) bxt).dr hd4 hcl), ((HOV.out.le (B' := w.heap.size) (by first | omega | (simp; omega))).ext (w' := _) bxt).dr hd4 hcl, ((HOO.out.le (B' := w.heap.size) (by first | omega | (simp; omega))).ext (w' := _) bxt).dr hd4 hcl, hcl, by omega, by omega, by omega, HO.out.ne_ge (Nat.le_refl _), HO.out.ne_ge (by omega), (fun e => by have := (HOV.out.lt w1.heap.size e).1; omega), HOV.out.ne_ge (Nat.le_refl _), (fun e => by have := (HOO.out.lt w1.heap.size e).1; (try simp at this); omega), HOO.out.ne_ge (by omega), (fun k hk e => by have h1 := (HO.out.lt k hk).2; have h2 := (HOO.out.lt k e).1; (try simp at h2); omega), (fun k hk e => by have h1 := (HOV.out.lt k hk).1; have h2 := (HOO.out.lt k e).2; (try simp at h1); omega)⟩, dtx, HS00.out⟩
  have HTX0 := HTX; clear HO HTX HOO HOV HRR HVS hd1 hb2 hb3 HC3 HC hd4 c2_0_0 f2_0_0 c2_0_1 f2_0_1 c2_0_2 f2_0_2 c2_0_3 f2_0_3 c3_0_0 f3_0_0 c3_0_1 f3_0_1 c3_0_2 f3_0_2 c3_0_3 f3_0_3
  go_wp2_with fail
  go_loopw [4, 7] (LLoop cb w w1.heap.size w3.heap.size n) (fun _ i _ => (n - intOf i).toNat)
  case atStart => exact ⟨0, n0, rfl, HS0.out⟩
  case round =>
    clear HS0 HTX0
    obtain ⟨k, hk, rfl, HS⟩ := hrel
    obtain ⟨nm, va, nx, ga, qa, ms, gv, qv, vs, go, qo, os, rfl, hnm, hms, htx, hvs, hos, hl, hd, hsr⟩ := HS.out
    obtain ⟨p0, q0⟩ := hl.bx.at 0 _ rfl
    obtain ⟨p1, q1⟩ := hl.bx.at 1 _ rfl
    obtain ⟨p2, q2⟩ := hl.bx.at 2 _ rfl
    obtain ⟨p3, q3⟩ := hl.bx.at 3 _ rfl
    obtain ⟨r0, s0⟩ := hl.bv.at 0 _ rfl
    have sb3 : w1.heap.size < wr.heap.size := hl.bx.lt; have sb5 : w3.heap.size < wr.heap.size := hl.bv.lt; have hB : cb < w.heap.size := hl.hB
    have HL := Lib.hid hl; have HTX := Lib.hid htx; have HD := Lib.hid hd; have hcr := Lib.hid hd.cur; have hsz := hd.size; have HSR := Lib.hid hsr; clear hl htx hd HS hsr
    by_cases hlt : (k : Int) < n
    · skip
      go_wp2_with fail
      refine (l10Commit_any cb [⟨nm, va, nx, ms, ga, qa⟩] _ _ w.heap.size _ (hcr.out.ext bxt) (ownRs_lit2 _ _ _ _ _ _ (by omega) rfl HL.out.om) hB (by simp) (fun y hy => by obtain rfl := List.mem_singleton.1 hy; show ms.length ≤ 1000; omega)).mono ?_
      rintro e w5 ⟨m, hmn, hmt, rfl, hd5⟩
      have HL5 := Lib.hid ((HL.out.ext (w' := _) bxt).dr hd5); have HD5 : Hid (Dr cb w w5) := Lib.hid ((HD.out.ext bxt).trans hd5)
      have sb35 : w1.heap.size < w5.heap.size := HL5.out.bx.lt; have sb55 : w3.heap.size < w5.heap.size := HL5.out.bv.lt
      clear HL HD hcr r0 s0 hd5 p0 q0 p1 q1 p2 q2 p3 q3
      go_upto_region 9 with fail
      refine wp_world (fun wa hwa => ?_)
      have hxa : Ext w5 wa := by (rw [hwa]; exact bxt)
      have hmb : Bx wa w5.heap.size [.int .i64 m.kind, .int .i64 m.validity, .int .i64 m.uid, .int .i64 m.flags, .string m.name, .string m.text] := by (rw [hwa]; exact Bx.mk rfl _ rfl)
      clear hwa
      have hsa : w5.heap.size < wa.heap.size := hmb.lt
      have hla := HL5.out.ext hxa; have hba : w.heap.size ≤ wa.heap.size := by (have := HD5.out.size; omega)
      have HDa : Hid (Dr cb w wa) := Lib.hid (HD5.out.ext hxa)
      have HOF : Hid (∀ k, foot (.slice go os.length qo) = some k → k < w5.heap.size) := Lib.hid (fun k hk => (HL5.out.oo.lt k hk).2)
      clear HL5 HD5 hxa
      obtain ⟨p0, pp0⟩ := hla.bx.at 0 _ rfl
      obtain ⟨p1, pp1⟩ := hla.bx.at 1 _ rfl
      obtain ⟨p2, pp2⟩ := hla.bx.at 2 _ rfl
      obtain ⟨p3, pp3⟩ := hla.bx.at 3 _ rfl
      obtain ⟨r0, rr0⟩ := hla.bv.at 0 _ rfl
      obtain ⟨m0, mm0⟩ := hmb.at 0 _ rfl
      obtain ⟨m1, mm1⟩ := hmb.at 1 _ rfl
      obtain ⟨m2, mm2⟩ := hmb.at 2 _ rfl
      obtain ⟨m3, mm3⟩ := hmb.at 3 _ rfl
      obtain ⟨m4, mm4⟩ := hmb.at 4 _ rfl
      obtain ⟨m5, mm5⟩ := hmb.at 5 _ rfl
      have sb3a : w1.heap.size < wa.heap.size := hla.bx.lt; have sb5a : w3.heap.size < wa.heap.size := hla.bv.lt
      obtain ⟨rr, rok, hrel⟩ := appRel_ex ([(⟨nm, va, nx, ms, ga, qa⟩ : PBox)].map PBox.box) m
      have HREL := Lib.hid hrel; clear hrel
      have HSZ : Hid (SmB 6 [(⟨nm, va, nx, ms, ga, qa⟩ : PBox)]) := Lib.hid (fun y hy => by obtain rfl := List.mem_singleton.1 hy; exact ⟨hnm, hms, HTX.out⟩)
      have HBQ : Hid (Bq (wa.alloc (.cells #[.string nm, .int .i64 va, .int .i64 nx, .slice ga ms.length qa] 85)) (some ⟨wa.heap.size, 0, none⟩) 1 [(⟨nm, va, nx, ms, ga, qa⟩ : PBox)]) := Lib.hid (OwnRs.bq (B := w.heap.size) (E := 85) (EM := 111) (ownRs_lit2 (w := wa) nm va nx ms ga qa hba rfl hla.om) (by simp) HSZ.out)
      have HLa := Lib.hid hla; have HMBa := Lib.hid hmb; clear hla hmb
      go_wp2_with fail
      refine (specApplied_bq [⟨nm, va, nx, ms, ga, qa⟩] _ _ _ HBQ.out m hmn hmt rr rok HREL).mono ?_
      rintro e w6 ⟨g6, q6, z6, rfl, ho6, hz6, hb6⟩
      clear HBQ
      have hx6 : Ext wa w6 := bxt
      have hs6 := hx6.size
      obtain ⟨hzl, hzs⟩ := app_smallB HREL.out hz6 (by simp) HSZ.out
      have HO6 : Hid (OwnRs w6 wa.heap.size 85 111 g6 q6 z6) := Lib.hid (ho6.rs.le (by first | omega | (simp <;> omega)))
      have HZS := Lib.hid hzs
      clear ho6 hz6 hzs HREL HSZ
      have hl6 := HLa.out.ext hx6; have hm6 := HMBa.out.ext hx6; have HD6 : Hid (Dr cb w w6) := Lib.hid (HDa.out.ext hx6)
      clear p0 pp0 p1 pp1 p2 pp2 p3 pp3
      clear r0 rr0
      clear m0 mm0 m1 mm1 m2 mm2 m3 mm3 m4 mm4 m5 mm5
      obtain ⟨p0, pp0⟩ := hl6.bx.at 0 _ rfl
      obtain ⟨p1, pp1⟩ := hl6.bx.at 1 _ rfl
      obtain ⟨p2, pp2⟩ := hl6.bx.at 2 _ rfl
      obtain ⟨p3, pp3⟩ := hl6.bx.at 3 _ rfl
      obtain ⟨r0, rr0⟩ := hl6.bv.at 0 _ rfl
      obtain ⟨m0, mm0⟩ := hm6.at 0 _ rfl
      obtain ⟨m1, mm1⟩ := hm6.at 1 _ rfl
      obtain ⟨m2, mm2⟩ := hm6.at 2 _ rfl
      obtain ⟨m3, mm3⟩ := hm6.at 3 _ rfl
      obtain ⟨m4, mm4⟩ := hm6.at 4 _ rfl
      obtain ⟨m5, mm5⟩ := hm6.at 5 _ rfl
      have sb36 : w1.heap.size < w6.heap.size := (by omega); have sb56 : w3.heap.size < w6.heap.size := (by omega); have sm6 : w5.heap.size < w6.heap.size := (by omega)
      have HL6 := Lib.hid hl6; have HM6 := Lib.hid hm6; clear hl6 hm6 HLa HMBa HDa hx6 hb6
      have hU : (undef : Value) = .tuple #[] := rfl
      have HN6 : Hid (LRel cb w w1.heap.size w3.heap.size (k + 1) (.slice go os.length qo) w6) := Lib.hid ⟨nm, va, nx, ga, qa, ms, gv, qv, vs, go, qo, os, rfl, hnm, hms, HTX.out, by omega, by omega, HL6.out, HD6.out, HSR.out⟩
      cases rok
      · skip
        go_wp2_with fail
        refine ⟨?_, ?measure⟩
        iterate 60 (try apply Exists.intro)
        refine ⟨?rel, rfl⟩
        case rel => exact ⟨k + 1, by omega, by go_num, HN6.out⟩
        case measure => simp [intOf]; omega
      · skip
        by_cases h1 : z6.length = 1
        · skip
          obtain ⟨y, rfl⟩ := List.length_eq_one_iff.1 h1
          clear h1
          have h14 : ((1 : Int) == 1) = true := rfl
          by_cases hk4 : 4 ≤ m.kind
          · skip
            obtain ⟨rp, hrp⟩ : ∃ r, telling vs m = r := ⟨_, rfl⟩
            have hrpl : rp.length ≤ 2 := by (rw [← hrp]; exact telling_len vs m)
            have HSP : Hid (SzR rp) := Lib.hid (by rw [← hrp]; exact szr_telling vs m); have HRP := Lib.hid hrp; clear hrp
            go_wp2_with fail
            refine (specTelling_any vs gv qv m _ (Rd.of_Own HL6.out.ov) (by omega) (by omega) (by omega) rp HRP).mono ?_
            rintro e w7 ⟨gt, qt, rfl, hot, hb7⟩
            have hs7 := hb7.size
            have HL7 := Lib.hid (HL6.out.ext hb7); have HM7 := Lib.hid (HM6.out.ext hb7); have HD7 : Hid (Dr cb w w7) := Lib.hid (HD6.out.ext hb7)
            have HY := Lib.hid (HO6.out.row.ext hb7); have HYM := Lib.hid ((HO6.out.msg y (List.mem_singleton.2 rfl)).ext hb7)
            obtain ⟨hyn, hym, hyt⟩ := HZS.out y (List.mem_singleton.2 rfl)
            have HYT := Lib.hid hyt; have HOT := Lib.hid hot; clear hyt hot HL6 HM6 HD6 HN6 HRP HZS
            have HYL : Hid (∀ k, foot (.slice y.ma y.msgs.length y.mc) = some k → wa.heap.size ≤ k ∧ k < w6.heap.size) := Lib.hid (fun k hk => (HO6.out.msg y (List.mem_singleton.2 rfl)).lt k hk)
            have HYB : Hid (∀ k, foot (.slice g6 [y].length q6) = some k → wa.heap.size ≤ k ∧ k < w6.heap.size) := Lib.hid (fun k hk => HO6.out.row.lt k hk)
            clear HO6
            go_wp2_with ((at_builtin; refine wpList_appL (B := w.heap.size) (v := (.slice go os.length qo)) rfl _ _ 37 rfl 31 i0 _ _ Tryd.underlying37 hi hy0 hy1 hy2 rfl (by decide) rfl HL7.out.oo gt rp.length qt (rp.flatMap DReply.cells) rfl (Rd.of_Own HOT.out) (fun u hu => by obtain ⟨x, -, hx⟩ := List.mem_flatMap.1 hu; exact DReply.one1 x u hx) (by omega) (by omega) (by omega) ?_))
            intro g8 q8 w8 hown hg hwl
            have hgs := hg.size
            have hl8 := HL7.out.app hg (g2 := g8) (q2 := q8) (os2 := os ++ rp) (by simpa using hown) (fun k hk => (hwl k ((foot_len _ _ _ _).trans hk)).imp id (fun e => by omega))
            have hn8 : ∀ k, foot (.slice g8 (os ++ rp).length q8) = some k → k < w5.heap.size ∨ k = w7.heap.size := fun k hk => (hwl k ((foot_len _ _ _ _).trans hk)).imp (fun e => HOF.out k e) id
            have hm8 := HM7.out.grown hg (fun e => by have := HOF.out _ e; omega)
            have hyr := HY.out.off hg (off2_of (fun k hk e => by have := (HYB.out k hk).1; have := HOF.out k e; omega))
            have hyo := HYM.out.off hg (off2_of (fun k hk e => by have := (HYL.out k hk).1; have := HOF.out k e; omega))
            have HD8 : Hid (Dr cb w w8) := Lib.hid (HD7.out.foot HL7.out.oo (Nat.le_refl _) hg)
            obtain ⟨gb, rfl, -⟩ := hyr.row (by have := hyr.cap.1; simp at this; omega)
            obtain ⟨b', o', hbo, hbl, hat⟩ := (Rd.of_Own hyr).ptr (by simp)
            cases hbo
            have hc8 := PBox.at hat 0 (by simp)
            simp only [Nat.zero_add, Nat.zero_mul, List.getElem_cons_zero] at hc8
            obtain ⟨y0, y1, y2, y3⟩ := hc8
            obtain ⟨os2, hos2⟩ : ∃ x, x = os ++ rp := ⟨_, rfl⟩
            have hol : os.length + rp.length = os2.length := by (rw [hos2]; simp)
            have hol2 : os2.length ≤ os.length + 2 := by omega
            have HSR2 : Hid (SzR os2) := Lib.hid (by rw [hos2]; exact HSR.out.app HSP.out)
            rw [← hos2] at hl8 hn8
            have HL8 := Lib.hid hl8; have HN8 := Lib.hid hn8; have HM8 := Lib.hid hm8; have HYO := Lib.hid hyo
            clear p0 pp0 p1 pp1 p2 pp2 p3 pp3
            clear r0 rr0
            clear m0 mm0 m1 mm1 m2 mm2 m3 mm3 m4 mm4 m5 mm5
            obtain ⟨p0, pp0⟩ := hl8.bx.at 0 _ rfl
            obtain ⟨p1, pp1⟩ := hl8.bx.at 1 _ rfl
            obtain ⟨p2, pp2⟩ := hl8.bx.at 2 _ rfl
            obtain ⟨p3, pp3⟩ := hl8.bx.at 3 _ rfl
            obtain ⟨r0, rr0⟩ := hl8.bv.at 0 _ rfl
            obtain ⟨m0, mm0⟩ := hm8.at 0 _ rfl
            obtain ⟨m1, mm1⟩ := hm8.at 1 _ rfl
            obtain ⟨m2, mm2⟩ := hm8.at 2 _ rfl
            obtain ⟨m3, mm3⟩ := hm8.at 3 _ rfl
            obtain ⟨m4, mm4⟩ := hm8.at 4 _ rfl
            obtain ⟨m5, mm5⟩ := hm8.at 5 _ rfl
            have sb38 : w1.heap.size < w8.heap.size := (by omega); have sb58 : w3.heap.size < w8.heap.size := (by omega); have sm8 : w5.heap.size < w8.heap.size := (by omega)
            rw [hol]
            clear hl8 hn8 hm8 hyo hyr hown hg hwl hos2 hol hat hbl HL7 HM7 HD7 HY HYM HOT HYB HOF
            go_upto_region 13 with fail
            refine wp_world (fun wb hwb => ?_)
            have hwb2 : wb = putW w8 w1.heap.size 0 [.string y.name, .int .i64 y.validity, .int .i64 y.next, .slice y.ma y.msgs.length y.mc] := hwb
            clear hwb
            have hlb : LSt wb w.heap.size cb w1.heap.size w3.heap.size y.name y.validity y.next y.ma y.mc y.msgs gv qv vs g8 q8 os2 := by (rw [hwb2]; exact HL8.out.setBoxA HYO.out (fun e => by have := HYL.out _ e; omega) (fun e => by have := HYL.out _ e; omega) (fun k hk e => by have h1 := HYL.out k hk; have h2 := HN8.out k e; omega))
            have hmb2 : Bx wb w5.heap.size [.int .i64 m.kind, .int .i64 m.validity, .int .i64 m.uid, .int .i64 m.flags, .string m.name, .string m.text] := by (rw [hwb2]; exact HM8.out.putn _ _ (by omega))
            have HDb : Hid (Dr cb w wb) := Lib.hid (by (rw [hwb2]; exact Dr.putW (by omega) _ _ _ HD8.out))
            have hsb : w8.heap.size = wb.heap.size := by (rw [hwb2, putW_size])
            clear p0 pp0 p1 pp1 p2 pp2 p3 pp3
            clear r0 rr0
            clear m0 mm0 m1 mm1 m2 mm2 m3 mm3 m4 mm4 m5 mm5
            clear y0 y1 y2 y3 hwb2 HL8 HM8 HYO HD8
            obtain ⟨p0, pp0⟩ := hlb.bx.at 0 _ rfl
            obtain ⟨p1, pp1⟩ := hlb.bx.at 1 _ rfl
            obtain ⟨p2, pp2⟩ := hlb.bx.at 2 _ rfl
            obtain ⟨p3, pp3⟩ := hlb.bx.at 3 _ rfl
            obtain ⟨r0, rr0⟩ := hlb.bv.at 0 _ rfl
            obtain ⟨m0, mm0⟩ := hmb2.at 0 _ rfl
            obtain ⟨m1, mm1⟩ := hmb2.at 1 _ rfl
            obtain ⟨m2, mm2⟩ := hmb2.at 2 _ rfl
            obtain ⟨m3, mm3⟩ := hmb2.at 3 _ rfl
            obtain ⟨m4, mm4⟩ := hmb2.at 4 _ rfl
            obtain ⟨m5, mm5⟩ := hmb2.at 5 _ rfl
            have sb3b : w1.heap.size < wb.heap.size := (by omega); have sb5b : w3.heap.size < wb.heap.size := (by omega)
            have HLb := Lib.hid hlb; clear hlb hmb2
            obtain ⟨rk, hrk⟩ : ∃ r, (followed vs m).known = r := ⟨_, rfl⟩
            have hrkl : rk.length ≤ vs.length + 1 := by (rw [← hrk]; exact followed_len vs m)
            obtain ⟨rb, hrb⟩ : ∃ r, (followed vs m).ok = r := ⟨_, rfl⟩
            have HRK := Lib.hid hrk; have HRB := Lib.hid hrb; clear hrk hrb
            go_wp2_with fail
            refine (specFollowed_any vs gv qv m _ (Rd.of_Own HLb.out.ov) (by omega) (by omega) (by omega) rk HRK rb HRB).mono ?_
            rintro e w9 ⟨gk, qk, rfl, hok9, hb9⟩
            have hs9 := hb9.size
            have hl9 := HLb.out.ext hb9
            obtain ⟨t0, tt0⟩ := hl9.bv.at 0 _ rfl
            have HL9 := Lib.hid hl9; have HOK9 := Lib.hid hok9; have HD9 : Hid (Dr cb w w9) := Lib.hid (HDb.out.ext hb9)
            have HLO := Lib.hid HLb.out.oo.lt
            have HN9 : Hid (LRel cb w w1.heap.size w3.heap.size (k + 1) (.slice g8 os2.length q8) (w9.setCell ⟨w3.heap.size, 0, none⟩ (.slice gk rk.length qk))) := Lib.hid ⟨y.name, y.validity, y.next, y.ma, y.mc, y.msgs, gk, qk, rk, g8, q8, os2, rfl, hyn, hym, HYT.out, by omega, by omega, HL9.out.setView (N := wb.heap.size) (HOK9.out.le (by omega)) (by omega) (by omega) (fun k hk => (HLO.out k hk).2) (fun k hk => (HOK9.out.lt k hk).1), HD9.out.setCell (by show w.heap.size ≤ w3.heap.size; omega) _, HSR2.out⟩
            clear hl9 hok9 HL9 HOK9 HD9 HLO HLb HDb HN8 HYL HYT HRK HRB
            go_wp2_with fail
            refine ⟨?_, ?measure⟩
            iterate 60 (try apply Exists.intro)
            refine ⟨?rel, rfl⟩
            case rel => exact ⟨k + 1, by omega, by go_num, HN9.out⟩
            case measure => simp [intOf]; omega
          · skip
            go_wp2_with fail
            refine ⟨?_, ?measure⟩
            iterate 60 (try apply Exists.intro)
            refine ⟨?rel, rfl⟩
            case rel => exact ⟨k + 1, by omega, by go_num, HN6.out⟩
            case measure => simp [intOf]; omega
        · skip
          have h14 : ((z6.length : Int) == 1) = false := by (simp; omega)
          go_wp2_with fail
          refine ⟨?_, ?measure⟩
          iterate 60 (try apply Exists.intro)
          refine ⟨?rel, rfl⟩
          case rel => exact ⟨k + 1, by omega, by go_num, HN6.out⟩
          case measure => simp [intOf]; omega
    · skip
      clear r0 s0 p0 q0 p1 q1 p2 q2 p3 q3
      have HO := Lib.hid HL.out.oo; clear HL HTX
      go_wp2_with fail
      refine (l1Once_any cb 4 _ (hcr.out.ext bxt) (by omega)).mono ?_
      rintro e w10 ⟨t, rfl, hda⟩
      have hsA := hda.size; have HO10 := Lib.hid ((HO.out.ext (w' := _) bxt).dr hda hB); have HD10 : Hid (Dr cb w w10) := Lib.hid ((HD.out.ext bxt).trans hda)
      clear HO HD hcr hda
      cases t
      · skip
        go_wp2_with fail
        refine bodyPost_ret (v := .slice go os.length qo) (by simp [results, Tryd.results66, go_sem, *]) rfl ?_
        exact ⟨go, qo, _, by first | omega | (simp; omega), by first | rfl | simp, HO10.out, HD10.out, HSR.out⟩
      · skip
        go_wp2_with fail
        refine (l1Below_any cb _ _ (HD10.out.cur.ext bxt) (by omega)).mono ?_
        rintro e w11 ⟨x, ⟨x0, x1, -⟩, rfl, hd11⟩
        obtain ⟨kk, rfl⟩ : ∃ k : Nat, x = k := ⟨x.toNat, by omega⟩
        have hkk : kk ≤ os.length := by (have := x1 (by omega); omega)
        clear x0 x1
        have hs11 := hd11.size; have HO11 := Lib.hid ((HO10.out.ext (w' := _) bxt).dr hd11 hB); have HD11 : Hid (Dr cb w w11) := Lib.hid ((HD10.out.ext bxt).trans hd11)
        clear HO10 HD10 hd11
        have hqc := HO11.out.cap
        rcases Nat.eq_zero_or_pos qo with hq0 | hq0
        · skip
          have hos0 : os = [] := List.eq_nil_of_length_eq_zero (by omega)
          have hk0 : kk = 0 := by (have h := congrArg List.length hos0; simp at h; omega)
          subst hos0; subst hq0; subst hk0
          clear hos hqc
          go_wp2_with ((at_builtin; refine wpList_appL (B := w.heap.size) (v := (.slice (some ⟨w11.heap.size, 0, none⟩) 0 0)) (n := 0) (xs := []) rfl _ _ 37 rfl 31 i0 _ _ Tryd.underlying37 hi hy0 hy1 hy2 rfl (by decide) rfl (Own.none0 _) go 0 0 _ rfl (Rd.none0A _ _) (fun u hu => absurd hu (by simp)) (by omega) (by omega) smx ?_))
          intro g12 q12 w12 hown hg hwl
          have hgs := hg.size; (try simp at hgs)
          have hown' : Own w12 w.heap.size 31 6 (.slice g12 0 q12) 0 [] := by simpa using hown
          have HD12 : Hid (Dr cb w w12) := Lib.hid ((HD11.out.ext bxt).grown hg (fun x hx => by simp [foot] at hx))
          have HO12 := Lib.hid ((HO11.out.ext (w' := _) bxt).off hg (off2_of (fun k hk e => by simp [foot] at e)))
          have HF12 : Hid (∀ k, foot (.slice g12 0 q12) = some k → w11.heap.size ≤ k) := Lib.hid (fun k hk => (hwl k ((foot_len _ _ _ _).trans hk)).elim (fun e => by simp [foot] at e) (fun e => by (try simp at e); omega))
          have HN12 := Lib.hid hown'; have HL11 := Lib.hid HO11.out.lt; clear hown hown' hg hwl HO11 HD11
          go_wp2_with fail
          refine (l14Right_any cb _ (HD12.out.cur.ext bxt)).mono ?_
          rintro e w13 ⟨r, rfl, hd13, hrn, hrt⟩
          have HSN := Lib.hid (szr_one hrn hrt); clear hrn hrt
          have hs13 := hd13.size; have HO13 := Lib.hid ((HO12.out.ext (w' := _) bxt).dr hd13 hB); have HN13 := Lib.hid ((HN12.out.ext (w' := _) bxt).dr hd13 hB); have HD13 : Hid (Dr cb w w13) := Lib.hid ((HD12.out.ext bxt).trans hd13)
          clear HO12 HN12 HD12 hd13
          go_wp2_with ((at_builtin; refine wpList_appL (B := w.heap.size) (v := (.slice g12 0 q12))  rfl _ _ 37 rfl 31 i0 _ _ Tryd.underlying37 hi hy0 hy1 hy2 rfl (by decide) rfl (HN13.out.ext bxt) (some ⟨w13.heap.size, 0, none⟩) 1 1 (DReply.cells r) rfl (Rd.lit _ _ _ _ 6 _ (by simp) rfl (by omega)) (DReply.one1 r) (by omega) (by omega) smx ?_))
          intro g14 q14 w14 hown hg hwl
          have hgs2 := hg.size; (try simp at hgs2)
          have HD14 : Hid (Dr cb w w14) := Lib.hid ((HD13.out.ext bxt).grown hg (fun x hx => (HN13.out.lt x hx).1))
          have HO14 := Lib.hid ((HO13.out.ext (w' := _) bxt).off hg (off2_of (fun k hk e => by have := (HL11.out k hk).2; have := HF12.out k e; omega)))
          have HF14 : Hid (∀ k, foot (.slice g14 (0 + 1) q14) = some k → w11.heap.size ≤ k) := Lib.hid (fun k hk => (hwl k ((foot_len _ _ _ _).trans hk)).elim (fun e => HF12.out k e) (fun e => by (try simp at e); omega))
          have HN14 := Lib.hid hown; clear hown hg hwl HO13 HN13 HD13 HF12 HL11
          have HR2 := Lib.hid (Rd.none0A (s := 6) w14 go)
          go_wp2_with ((at_builtin; refine wpList_appL (B := w.heap.size) (v := (.slice g14 (0 + 1) q14))  rfl _ _ 37 rfl 31 i0 _ _ Tryd.underlying37 hi hy0 hy1 hy2 rfl (by decide) rfl HN14.out go 0 0 _ rfl HR2.out (fun u hu => absurd hu (by simp)) (by omega) (by omega) smx ?_))
          intro g15 q15 w15 hown hg hwl
          have HD15 : Hid (Dr cb w w15) := Lib.hid (HD14.out.grown hg (fun x hx => (HN14.out.lt x hx).1))
          clear hg hwl HO14 HD14 HF14 HR2 HN14
          go_wp2_with fail
          refine bodyPost_ret (v := .slice g15 (0 + 1 + (0)) q15) (by simp [results, Tryd.results66, go_sem, *]) rfl ?_
          exact ⟨g15, q15, [r], by simp, rfl, by simpa using hown, HD15.out, HSN.out⟩
        · skip
          obtain ⟨gx, rfl, -⟩ := HO11.out.row (by omega)
          have h1 : (0 : Int) ≤ (kk : Int) := by omega
          have h5 : (kk : Int) ≤ (os.length : Int) := by omega
          have h6 : (kk : Int) ≤ (qo : Int) := by omega
          have h7 : (os.length : Int) ≤ (qo : Int) := by omega
          have HR1 := Lib.hid ((Rd.of_Own HO11.out).takeAt DReply.cells_len kk hkk)
          go_wp2_with ((at_builtin; refine wpList_appL (B := w.heap.size) (v := (.slice (some ⟨w11.heap.size, 0, none⟩) 0 0)) (n := 0) (xs := []) rfl _ _ 37 rfl 31 i0 _ _ Tryd.underlying37 hi hy0 hy1 hy2 rfl (by decide) rfl (Own.none0 _) (some ⟨gx, 0, none⟩) kk qo _ rfl (HR1.out.ext bxt) (one_flat DReply.one1 _) (by omega) (by omega) smx ?_))
          intro g12 q12 w12 hown hg hwl
          have hgs := hg.size; (try simp at hgs)
          have hown' : Own w12 w.heap.size 31 6 (.slice g12 kk q12) kk ((os.take kk).flatMap DReply.cells) := by simpa using hown
          have HD12 : Hid (Dr cb w w12) := Lib.hid ((HD11.out.ext bxt).grown hg (fun x hx => by simp [foot] at hx))
          have HO12 := Lib.hid ((HO11.out.ext (w' := _) bxt).off hg (off2_of (fun k hk e => by simp [foot] at e)))
          have HF12 : Hid (∀ k, foot (.slice g12 kk q12) = some k → w11.heap.size ≤ k) := Lib.hid (fun k hk => (hwl k ((foot_len _ _ _ _).trans hk)).elim (fun e => by simp [foot] at e) (fun e => by (try simp at e); omega))
          have HN12 := Lib.hid hown'; have HL11 := Lib.hid HO11.out.lt; clear hown hown' hg hwl HO11 HD11
          go_wp2_with fail
          refine (l14Right_any cb _ (HD12.out.cur.ext bxt)).mono ?_
          rintro e w13 ⟨r, rfl, hd13, hrn, hrt⟩
          have HSN := Lib.hid (szr_one hrn hrt); clear hrn hrt
          have hs13 := hd13.size; have HO13 := Lib.hid ((HO12.out.ext (w' := _) bxt).dr hd13 hB); have HN13 := Lib.hid ((HN12.out.ext (w' := _) bxt).dr hd13 hB); have HD13 : Hid (Dr cb w w13) := Lib.hid ((HD12.out.ext bxt).trans hd13)
          clear HO12 HN12 HD12 hd13
          go_wp2_with ((at_builtin; refine wpList_appL (B := w.heap.size) (v := (.slice g12 kk q12))  rfl _ _ 37 rfl 31 i0 _ _ Tryd.underlying37 hi hy0 hy1 hy2 rfl (by decide) rfl (HN13.out.ext bxt) (some ⟨w13.heap.size, 0, none⟩) 1 1 (DReply.cells r) rfl (Rd.lit _ _ _ _ 6 _ (by simp) rfl (by omega)) (DReply.one1 r) (by omega) (by omega) smx ?_))
          intro g14 q14 w14 hown hg hwl
          have hgs2 := hg.size; (try simp at hgs2)
          have HD14 : Hid (Dr cb w w14) := Lib.hid ((HD13.out.ext bxt).grown hg (fun x hx => (HN13.out.lt x hx).1))
          have HO14 := Lib.hid ((HO13.out.ext (w' := _) bxt).off hg (off2_of (fun k hk e => by have := (HL11.out k hk).2; have := HF12.out k e; omega)))
          have HF14 : Hid (∀ k, foot (.slice g14 (kk + 1) q14) = some k → w11.heap.size ≤ k) := Lib.hid (fun k hk => (hwl k ((foot_len _ _ _ _).trans hk)).elim (fun e => HF12.out k e) (fun e => by (try simp at e); omega))
          have HN14 := Lib.hid hown; clear hown hg hwl HO13 HN13 HD13 HF12 HL11
          have HR2 := Lib.hid (Rd.dropAt (A := (if qo = kk then (some ⟨gx, 0, none⟩ : Option Addr) else some ⟨gx, kk * 6, none⟩)) DReply.cells_len (Rd.of_Own HO14.out) kk hkk (fun hlt => by rw [if_neg (by omega), Nat.zero_add]) _ _ rfl rfl)
          go_wp2_with ((at_builtin; refine wpList_appL (B := w.heap.size) (v := (.slice g14 (kk + 1) q14))  rfl _ _ 37 rfl 31 i0 _ _ Tryd.underlying37 hi hy0 hy1 hy2 rfl (by decide) rfl HN14.out (if qo = kk then (some ⟨gx, 0, none⟩ : Option Addr) else some ⟨gx, kk * 6, none⟩) (os.length - kk) (qo - kk) _ rfl HR2.out (one_flat DReply.one1 _) (by omega) (by omega) smx ?_))
          all_goals intro g15 q15 w15 hown hg hwl
          all_goals have HD15 : Hid (Dr cb w w15) := Lib.hid (HD14.out.grown hg (fun x hx => (HN14.out.lt x hx).1))
          all_goals clear hg hwl HO14 HD14 HF14 HR2 HN14
          all_goals go_wp2_with fail
          all_goals refine bodyPost_ret (v := .slice g15 (kk + 1 + ((os.length - kk))) q15) (by simp [results, Tryd.results66, go_sem, *]) rfl ?_
          all_goals have hlen : (os.take kk ++ [r] ++ os.drop kk).length = kk + 1 + ((os.length - kk)) := by (simp; omega)
          all_goals exact ⟨g15, q15, os.take kk ++ [r] ++ os.drop kk, by omega, by rw [hlen], by (rw [hlen]; simpa using hown), HD15.out, HSR.out.mid HSN.out kk⟩
end Go.Proofs.YtadjlfcdjkikgaaDoor

namespace Go.Proofs.YtadjlfcdjkikgaaDoor
open Go.RowKit
set_option linter.unusedVariables false
set_option linter.unusedSimpArgs false
set_option maxRecDepth 100000 in
set_option maxHeartbeats 4000000 in
theorem l1Turned_any (cb n m : Nat) (cs : List Value) (a : Option Addr) (c : Nat) (s : ByteArray) (w : World) (hc : Cur w cb) (R : Rd w a c 1 n cs) (h0 : 0 < n) (hn : n ≤ 1000) (hm : strMax m cs = true) (hcb : ∀ b o, a = some ⟨b, o, none⟩ → b ≠ cb) (hs : s.size ≤ 1000000000) (hmm : m ≤ 1000000) :
    Calls Tryd.prog 65 #[.pointer (some ⟨cb, 0, none⟩), .string s, .slice a n c] w (DrT (s.size + m) cb w) := by
  have hcl := hc.lt
  have HC := Lib.hid hc
  have HR := Lib.hid R
  have HM := Lib.hid hm
  have HCB := Lib.hid hcb
  clear hc R hm hcb
  go_enter Tryd.func65, Tryd.ntmps65
  go_wp2_with fail
  refine (l1Below_any cb ((s.size : Int) + 1) _ (HC.out.ext bxt) (by omega)).mono ?_
  rintro e w1 ⟨x, ⟨x0, x1, -⟩, rfl, hd1⟩
  have x2 := x1 (by omega)
  clear x1
  obtain ⟨p, rfl⟩ := Int.eq_ofNat_of_zero_le x0
  have hp : p ≤ s.size := by omega
  have k1 : (p : Int) ≤ (s.size : Int) := by omega
  have z1 : (s.extract 0 p).size = p := by simp [ByteArray.size_extract]; omega
  have z2 : (s.extract p s.size).size = s.size - p := by simp [ByteArray.size_extract]
  have HR1 := Lib.hid (HR.out.dr hd1 (fun _ => HCB.out))
  clear HR
  go_wp2_with fail
  refine (l1Below_any cb 6 _ (hd1.cur.ext bxt) (by omega)).mono ?_
  rintro e w2 ⟨y, ⟨y0, y1, -⟩, rfl, hd2⟩
  have HD2 := Lib.hid (hd1.trans hd2)
  by_cases e0 : y = 0
  · subst e0
    have HR2 := Lib.hid (HR1.out.dr hd2 (fun _ => HCB.out))
    go_upto_region 4 with fail
    go_region_law ((go_simp; go_at_call 40; refine (l1Pick_any cb n m cs a c _ (HD2.out.cur.ext bxt) (HR2.out.ext bxt) h0 hn HM.out HCB.out).mono ?_; rintro e w3 ⟨v, hv, rfl, hd3⟩; have t1 : ¬ 9223372036854775807 < p + v.size := (by omega); have t2 : ¬ 9223372036854775807 < p + v.size + (s.size - p) := (by omega)))
    all_goals go_wp2_with fail
    all_goals go_ret
    all_goals exact ⟨_, by simp [ByteArray.size_append]; omega, rfl, dtx⟩
  have b0 : (y == 0) = false := by simpa using e0
  by_cases e1 : y = 1
  · subst e1
    go_wp2_with fail
    go_ret
    exact ⟨_, by omega, rfl, dtx⟩
  have b1 : (y == 1) = false := by simpa using e1
  go_wp2_with fail
  go_ret
  exact ⟨_, by omega, rfl, dtx⟩
end Go.Proofs.YtadjlfcdjkikgaaDoor

namespace Go.Proofs.YtadjlfcdjkikgaaDoor
open Go.RowKit
set_option linter.unusedVariables false
set_option linter.unusedSimpArgs false

set_option maxRecDepth 100000 in
set_option maxHeartbeats 4000000 in
theorem l15Text_any (cb : Nat) (w : World) (hc : Cur w cb) :
    Calls Tryd.prog 41 #[.pointer (some ⟨cb, 0, none⟩)] w (DrT 20000 cb w) := by
  have hcl := hc.lt
  have HC := Lib.hid hc
  clear hc
  go_enter Tryd.func41, Tryd.ntmps41
  go_wp2_with fail
  refine (l15Lines_any cb _ (HC.out.ext bxt)).mono ?_
  rintro e w1 ⟨g, q, os, hos, rfl, hoo, hd1, hsr⟩
  have hz1 := hd1.size; (try simp at hz1)
  have HO := Lib.hid hoo
  have HS := Lib.hid hsr
  clear hoo hsr
  have hsz : (bs (ltL os)).size ≤ 12120 := by (have h := ltL_len os; rw [bs_size]; omega)
  go_wp2_with fail
  refine (specLinesText_any os g q _ (Rd.of_Own (HO.out.ext bxt)) (by omega) (fun x hx => by have := (HS.out x hx).1; omega) (fun x hx => by have := (HS.out x hx).2; omega)).mono ?_
  rintro e w2 ⟨rfl, hb2⟩
  have hz2 := hb2.size; (try simp at hz2)
  obtain ⟨t, ht⟩ : ∃ t, bs (ltL os) = t := ⟨_, rfl⟩
  rw [ht] at hsz
  rw [ht]
  clear ht
  go_wp2_with fail
  refine (l1Turned_any cb 6 13 _ _ _ _ _ (hd1.cur.ext bxt) (Rd.lit _ _ _ _ 1 _ rfl rfl (by omega)) (by omega) (by omega) (by rfl) (fun b o e => by have hq := hd1.cur.lt; have hq2 := hb2.size; simp at e; (try simp at hq); omega) (by omega) (by omega)).mono ?_
  rintro e w3 ⟨v, hv, rfl, hd3⟩
  have hz3 := hd3.size; (try simp at hz3)
  go_wp2_with fail
  go_ret
  exact ⟨v, by omega, rfl, dtx⟩
def DrTl (m : Nat) (w : World) (e : Ending) (w' : World) : Prop := ∃ t : ByteArray, t.size ≤ m ∧ e = .returned (.string t) ∧ Ext w w'
set_option maxRecDepth 100000 in
set_option maxHeartbeats 4000000 in
theorem drawLinesIn_any (lb : List Int) (a : Option Addr) (c : Nat) (w : World) (R : Rd w a c 1 lb.length (lb.flatMap byteCells)) (hb : ∀ y ∈ lb, 0 ≤ y ∧ y ≤ 255) (hl : lb.length ≤ 1048576) :
    Calls Tryd.prog 22 #[.slice a lb.length c] w (DrTl 20000 w) := by
  have HR := Lib.hid R
  have HB := Lib.hid hb
  clear R hb
  go_enter Tryd.func22, Tryd.ntmps22
  go_wp2_with fail
  refine (l1New_any lb a c _ (HR.out.ext bxt) HB.out hl).mono ?_
  rintro e w1 ⟨cb, hcb, rfl, hcu, hb1⟩
  (try simp at hcb)
  have hcl := hcu.lt
  have HCU := Lib.hid hcu
  clear hcu
  have hz1 := hb1.size; (try simp at hz1)
  go_wp2_with fail
  refine (l1Once_any cb 2 _ (HCU.out.ext bxt) (by omega)).mono ?_
  rintro e w2 ⟨t, rfl, hd2⟩
  have hz2 := hd2.size; (try simp at hz2)
  cases t
  · skip
    go_wp2_with fail
    refine (l15Text_any cb _ (hd2.cur.ext bxt)).mono ?_
    rintro e w3 ⟨v, hv, rfl, hd3⟩
    have hz3 := hd3.size; (try simp at hz3)
    go_wp2_with fail
    go_ret
    exact ⟨v, hv, rfl, btx⟩
  · skip
    go_wp2_with fail
    refine (l1Pick_any cb 7 6 _ _ _ _ (hd2.cur.ext bxt) (Rd.lit _ _ _ _ 1 _ rfl rfl (by omega)) (by omega) (by omega) (by rfl) (fun b o e => by have hq := (hd2.cur.ext bxt).lt; simp at e; (try simp at hq); omega)).mono ?_
    rintro e w4 ⟨v, hv, rfl, hd4⟩
    have hz4 := hd4.size; (try simp at hz4)
    go_wp2_with fail
    go_ret
    exact ⟨v, by omega, rfl, btx⟩
end Go.Proofs.YtadjlfcdjkikgaaDoor

namespace Go.Proofs.YtadjlfcdjkikgaaDoor
open Go.RowKit
set_option linter.unusedVariables false
set_option linter.unusedSimpArgs false

theorem take_eq {s : ByteArray} {k : Nat} {L P : List ByteArray} (hL : lnB s = L) (hP : lnB (s.extract 0 k) = P) : ∃ h : P.length ≤ L.length, ∀ i (hi : i < P.length), P[i] = L[i] := by
  have h := lnB_take s k
  rw [hL, hP] at h
  exact ⟨h.length_le, fun i hi => h.getElem hi⟩
/-- the byte that at0 answers -/
def at0V (l : List Int) (i : Nat) : Int := if h : i < l.length then l[i] else ((i : Int) * 7 + (l.length : Int)) % 256
theorem at0V_range (l : List Int) (i : Nat) (hb : ∀ y ∈ l, 0 ≤ y ∧ y ≤ 255) : 0 ≤ at0V l i ∧ at0V l i ≤ 255 := by
  unfold at0V
  split
  · rename_i h; exact hb _ (List.getElem_mem h)
  · exact ⟨Int.emod_nonneg _ (by omega), by have := Int.emod_lt_of_pos ((i : Int) * 7 + (l.length : Int)) (show (0 : Int) < 256 by omega); omega⟩
set_option maxHeartbeats 1000000 in
theorem at0_eq (l : List Int) (a : Option Addr) (c : Nat) (i : Nat) (w : World) (R : Rd w a c 1 l.length (l.flatMap byteCells)) (hb : ∀ y ∈ l, 0 ≤ y ∧ y ≤ 255) (hl : l.length ≤ 1048576) (hi : i ≤ 100) (r : Int) (Hr : Hid (at0V l i = r)) :
    Calls Tryd.prog 23 #[.slice a l.length c, .int .i64 i] w fun e w' => e = .returned (.int .i64 r) ∧ w = w' := by
  by_cases h : i < l.length
  · obtain rfl : l[i] = r := by rw [← Hr.out]; unfold at0V; rw [dif_pos h]
    obtain ⟨b, o, rfl, hbb, hat⟩ := R.ptr (by omega)
    have hx := byteCells_at hat i h
    have hy := hb _ (List.getElem_mem h)
    have h1 : decide ((i : Int) < (l.length : Int)) = true := decide_eq_true (by omega)
    have h2 : (i : Int) < (l.length : Int) := by omega
    have h3 : (0 : Int) ≤ (i : Int) := by omega
    have HAT := Lib.hid hat
    have HB := Lib.hid hb
    have HR := Lib.hid R
    clear hat hb R
    go_enter Tryd.func23, Tryd.ntmps23
    go_wp2_with fail
    go_ret
    exact ⟨rfl, rfl⟩
  · obtain rfl : ((i : Int) * 7 + (l.length : Int)) % 256 = r := by rw [← Hr.out]; unfold at0V; rw [dif_neg h]
    have h1 : decide ((i : Int) < (l.length : Int)) = false := decide_eq_false (by omega)
    have h3 : decide (i < l.length) = false := decide_eq_false h
    have HB := Lib.hid hb
    have HR := Lib.hid R
    clear hb R
    go_enter Tryd.func23, Tryd.ntmps23
    go_wp2_with fail
    go_ret
    exact ⟨rfl, rfl⟩
set_option maxRecDepth 100000 in
set_option maxHeartbeats 16000000 in
theorem fnLinesCut_walk (l : List Int) (a : Option Addr) (c : Nat) (w : World) : MaxLen w → Rd w a c 1 l.length (l.flatMap byteCells) → (∀ y ∈ l, 0 ≤ y ∧ y ≤ 255) →
    Calls Tryd.prog 6 #[.slice a l.length c] w fun e w' => e = .returned (.bool true) ∧ Below w.heap.size w w' := by
  intro hmx R hb
  have hln : l.length ≤ 9223372036854775807 := Nat.le_trans R.nc R.cm
  have HMX := Lib.hid hmx
  have HR := Lib.hid R
  have HB := Lib.hid hb
  clear R hb hmx
  obtain ⟨d, hd⟩ := boolOf (1048576 < l.length)
  have HDB := Lib.hid hd
  clear hd
  go_enter Tryd.func6, Tryd.ntmps6
  go_wp2_with fail
  refine (big_any l.length a c _ hln d HDB).mono ?_
  rintro e w1 ⟨rfl, rfl⟩
  cases d
  rotate_left
  · go_wp2_with fail
    go_ret
    exact ⟨rfl, bxt⟩
  have hl : l.length ≤ 1048576 := by have := no_of HDB.out; omega
  go_wp2_with fail
  refine (drawLinesIn_any l a c _ (HR.out.ext bxt) HB.out hl).mono ?_
  rintro e w1 ⟨t, ht, rfl, hb1⟩
  have hz1 := hb1.size; (try simp at hz1)
  obtain ⟨L, hL⟩ : ∃ L, lnB t = L := ⟨_, rfl⟩
  have hLl : L.length ≤ 20000 := by (have := lnB_len t; rw [hL] at this; omega)
  have HL := Lib.hid hL; clear hL
  go_wp2_with fail
  refine (implLinesIn_any t _ (HMX.out.ext bxt) (by omega) L HL).mono ?_
  rintro e w2 ⟨g2, q2, rfl, ho2, hb2⟩
  have hz2 := hb2.size; (try simp at hz2)
  have HO2 := Lib.hid ho2; clear ho2
  have hnn : ((L.length : Int) != (L.length : Int)) = false := by simp
  go_wp2_with fail
  refine (specLinesIn_any t _ (by omega) L HL).mono ?_
  rintro e w3 ⟨gs, qs, rfl, hos, hw3⟩
  have hz3 := hw3.size; (try simp at hz3)
  have HO3 := Lib.hid (HO2.out.ext (w' := w3) bxt)
  obtain ⟨a2, ha2⟩ : ∃ r, at0V l 2 = r := ⟨_, rfl⟩
  obtain ⟨a20, a21⟩ : 0 ≤ a2 ∧ a2 ≤ 255 := by (rw [← ha2]; exact at0V_range l 2 HB.out)
  have HA2 := Lib.hid ha2
  clear ha2
  obtain ⟨a3, ha3⟩ : ∃ r, at0V l 3 = r := ⟨_, rfl⟩
  obtain ⟨a30, a31⟩ : 0 ≤ a3 ∧ a3 ≤ 255 := by (rw [← ha3]; exact at0V_range l 3 HB.out)
  have HA3 := Lib.hid ha3
  clear ha3
  have wm : IntKind.i64.wrap (a2 * 256) = a2 * 256 := IntWalk.i64_in _ (by omega)
  have wa : IntKind.i64.wrap (a2 * 256 + a3) = a2 * 256 + a3 := IntWalk.i64_in _ (by omega)
  have hX0 : 0 ≤ (a2 * 256 + a3) := by omega
  obtain ⟨k, hk, hke⟩ : ∃ k : Nat, k ≤ t.size ∧ (a2 * 256 + a3).tmod ((t.size : Int) + 1) = (k : Int) := ⟨((a2 * 256 + a3).tmod ((t.size : Int) + 1)).toNat, by (have h1 := Int.tmod_nonneg ((t.size : Int) + 1) hX0; have h2 := Int.tmod_lt_of_pos (a2 * 256 + a3) (show (0 : Int) < ((t.size : Int) + 1) by omega); omega), by (have h1 := Int.tmod_nonneg ((t.size : Int) + 1) hX0; omega)⟩
  have hkf : (a2 * 256 + a3) % ((t.size : Int) + 1) = (k : Int) := by rw [← Int.tmod_eq_emod_of_nonneg hX0]; exact hke
  have hnz : ¬ (((t.size : Int) + 1) = 0) := by omega
  go_wp2_with fail
  refine (at0_eq l a c 2 _ (HR.out.ext bxt) HB.out hl (by omega) a2 HA2).mono ?_
  rintro e w4 ⟨rfl, rfl⟩
  go_wp2_with fail
  refine (at0_eq l a c 3 _ (HR.out.ext bxt) HB.out hl (by omega) a3 HA3).mono ?_
  rintro e w4 ⟨rfl, rfl⟩
  obtain ⟨P, hP⟩ : ∃ P, lnB (t.extract 0 k) = P := ⟨_, rfl⟩
  obtain ⟨hPl, hPe⟩ := take_eq HL.out hP
  have HP := Lib.hid hP; have HPE := Lib.hid hPe; clear hP hPe
  have k1 : (0 : Int) ≤ (k : Int) := by omega
  have k2 : (k : Int) ≤ (t.size : Int) := by omega
  have zx : (t.extract 0 k).size = k := by simp [ByteArray.size_extract]; omega
  go_wp2_with fail
  refine (implLinesIn_any (t.extract 0 k) _ (HMX.out.ext bxt) (by omega) P HP).mono ?_
  rintro e w5 ⟨g5, q5, rfl, ho5, hb5⟩
  have hz5 := hb5.size; (try simp at hz5)
  have HO5 := Lib.hid ho5; have HO6 := Lib.hid (HO3.out.ext (w' := w5) bxt); clear ho5
  have d0 : decide ((L.length : Int) < (P.length : Int)) = false := decide_eq_false (by omega)
  have d1 : decide (L.length < P.length) = false := decide_eq_false (by omega)
  go_wp2_with fail
  go_loopw [7] (fun i wr => ∃ n : Nat, n ≤ P.length ∧ i = .int .i64 n ∧ Ext w5 wr) (fun i _ => P.length - (intOf i).toNat)
  case atStart => exact ⟨0, Nat.zero_le _, rfl, Below.refl _ _⟩
  case round =>
    obtain ⟨n, hn, rfl, hr⟩ := hrel
    by_cases hlt : n < P.length
    · skip
      have l1 : decide ((n : Int) < (P.length : Int)) = true := decide_eq_true (by omega)
      have n0 : (0 : Int) ≤ (n : Int) := by omega
      have n1 : (n : Int) < (P.length : Int) := by omega
      have n2 : (n : Int) < (L.length : Int) := by omega
      have hltL : n < L.length := by omega
      obtain ⟨bp, op, rfl, hbp, hatp⟩ := (Rd.of_Own HO5.out).ptr (by omega)
      obtain ⟨bl, ol, rfl, hbl, hatl⟩ := (Rd.of_Own HO6.out).ptr (by omega)
      have cP := strCells_at (hatp.ext hbp hr) n hlt
      have cL := strCells_at (hatl.ext hbl hr) n hltL
      have hbpr : bp < wr.heap.size := Nat.lt_of_lt_of_le hbp hr.size
      have hblr : bl < wr.heap.size := Nat.lt_of_lt_of_le hbl hr.size
      rw [← HPE.out n hlt] at cL
      obtain ⟨x, hx⟩ : ∃ x, P[n] = x := ⟨_, rfl⟩
      rw [hx] at cP cL
      clear hatp hatl hx
      have qP := fun y : ExtW wr => (y.h.cell (p := ⟨bp, op + n, none⟩) hbpr).trans cP
      have qL := fun y : ExtW wr => (y.h.cell (p := ⟨bl, ol + n, none⟩) hblr).trans cL
      go_wp2_with fail
      refine wp_region_ext (by kernel_rfl) (by kernel_rfl) ?_
      repeat (go_big_quiet_step (fail))
      refine wpQuiet_nil ?_
      rintro _ ⟨⟨wq, hwq⟩, rfl⟩
      go_wp2_with fail
      go_roundw
      case rel => exact ⟨n + 1, by omega, by go_num, Below.ext hr hwq⟩
      case measure => simp [intOf]; omega
    · skip
      have l1 : decide ((n : Int) < (P.length : Int)) = false := decide_eq_false (by omega)
      have l2 : decide (n < P.length) = false := decide_eq_false hlt
      go_wp2_with fail
      go_ret
      exact ⟨rfl, bxt⟩
end Go.Proofs.YtadjlfcdjkikgaaDoor
