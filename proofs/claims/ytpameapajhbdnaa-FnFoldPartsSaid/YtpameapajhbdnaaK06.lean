/-
  The draw of a reply.
  The library's Clone and Delete at slices of Msg.
  Marks laid into mailboxes of the call's own, and looked at.
  Marks laid into a store of the call's own.
  Marks in mailboxes and in a store, looked at.
  Copies of mailboxes: the program's functions and the reference's.
  The library's Clone and Delete at slices of Commit.
  A client's state behind a list of replies: the program's function and the reference's.
  Replies that are processed in two parts: the plain law; what is bad stays so.
-/
import Derived.Test.YtpameapajhbdnaaK00
import Derived.Test.YtpameapajhbdnaaK04
import Derived.Deep.RegionLaw
import Derived.Lib.LazyBuf
import Derived.WalkSpells
import Derived.Test.YtpameapajhbdnaaK05
import Derived.Test.YtpameapajhbdnaaK01
namespace Go.Proofs.Ytpameapajhbdnaa
open Go.RowKit
set_option linter.unusedVariables false
set_option linter.unusedSimpArgs false

/-- a reply that is drawn -/
def DrRp (cb : Nat) (w : World) (e : Ending) (w' : World) : Prop := ∃ r : DReply, e = .returned (.agg #[.int .i64 r.kind, .int .i64 r.n, .int .i64 r.uid, .int .i64 r.flags, .string r.name, .string r.text]) ∧ Dr cb w w'
/-- the reply that is being drawn lies in block b -/
def RSt (cb : Nat) (w : World) (b : Nat) (kd : Int) (wx : World) : Prop := ∃ (n u f : Int) (nm tx : ByteArray), Bx wx b [.int .i64 kd, .int .i64 n, .int .i64 u, .int .i64 f, .string nm, .string tx] ∧ Bx wx w.heap.size [.int .i64 0, .int .i64 0, .int .i64 0, .int .i64 0, .string ⟨#[]⟩, .string ⟨#[]⟩] ∧ Dr cb w wx
theorem l14Named_ex (n : Int) (w : World) : Calls Try.prog 181 #[.int .i64 n] w fun e w' => ∃ r : Bool, e = .returned (.bool r) ∧ w' = w := by
  go_enter Try.func181, Try.ntmps181
  go_wp2_with ((go_at_call 152; refine (l1In_dec n 5 8 _).mono ?_; rintro e w1 ⟨rfl, rfl⟩))
  go_ret
  exact ⟨_, rfl, rfl⟩
theorem l14Tagged_ex (n : Int) (w : World) : Calls Try.prog 182 #[.int .i64 n] w fun e w' => ∃ r : Bool, e = .returned (.bool r) ∧ w' = w := by
  go_enter Try.func182, Try.ntmps182
  go_wp2_with ((go_at_call 152; refine (l1In_dec n 12 14 _).mono ?_; rintro e w1 ⟨rfl, rfl⟩))
  go_ret
  exact ⟨_, rfl, rfl⟩
set_option maxRecDepth 100000 in
set_option maxHeartbeats 4000000 in
theorem l14Right_any (cb : Nat) (w : World) (hc : Cur w cb) :
    Calls Try.prog 160 #[.pointer (some ⟨cb, 0, none⟩)] w (DrRp cb w) := by
  have hcl := hc.lt
  have HC := Lib.hid hc
  clear hc
  go_enter Try.func160, Try.ntmps160
  go_wp2_with fail
  refine (l1Below_any cb 16 _ (HC.out.ext bxt) (by omega)).mono ?_
  rintro e w1 ⟨k, ⟨k0, k1, -⟩, rfl, hd1⟩
  have k1 := k1 (by omega)
  have hz1 := hd1.size; (try simp at hz1)
  have s1_0 : w.heap.size < w1.heap.size := (by omega)
  have c1_0_0 : w1.cell? ⟨w.heap.size, 0, none⟩ = some (.int .i64 0) := (hd1.cell (x := w.heap.size) (o := 0) smx (by omega)).trans kpx
  have f1_0_0 : w1.frozen? ⟨w.heap.size, 0, none⟩ = false := (hd1.frozen (x := w.heap.size) (o := 0) smx (by omega)).trans kfx
  have c1_0_1 : w1.cell? ⟨w.heap.size, 1, none⟩ = some (.int .i64 0) := (hd1.cell (x := w.heap.size) (o := 1) smx (by omega)).trans kpx
  have f1_0_1 : w1.frozen? ⟨w.heap.size, 1, none⟩ = false := (hd1.frozen (x := w.heap.size) (o := 1) smx (by omega)).trans kfx
  have c1_0_2 : w1.cell? ⟨w.heap.size, 2, none⟩ = some (.int .i64 0) := (hd1.cell (x := w.heap.size) (o := 2) smx (by omega)).trans kpx
  have f1_0_2 : w1.frozen? ⟨w.heap.size, 2, none⟩ = false := (hd1.frozen (x := w.heap.size) (o := 2) smx (by omega)).trans kfx
  have c1_0_3 : w1.cell? ⟨w.heap.size, 3, none⟩ = some (.int .i64 0) := (hd1.cell (x := w.heap.size) (o := 3) smx (by omega)).trans kpx
  have f1_0_3 : w1.frozen? ⟨w.heap.size, 3, none⟩ = false := (hd1.frozen (x := w.heap.size) (o := 3) smx (by omega)).trans kfx
  have c1_0_4 : w1.cell? ⟨w.heap.size, 4, none⟩ = some (.string ⟨#[]⟩) := (hd1.cell (x := w.heap.size) (o := 4) smx (by omega)).trans kpx
  have f1_0_4 : w1.frozen? ⟨w.heap.size, 4, none⟩ = false := (hd1.frozen (x := w.heap.size) (o := 4) smx (by omega)).trans kfx
  have c1_0_5 : w1.cell? ⟨w.heap.size, 5, none⟩ = some (.string ⟨#[]⟩) := (hd1.cell (x := w.heap.size) (o := 5) smx (by omega)).trans kpx
  have f1_0_5 : w1.frozen? ⟨w.heap.size, 5, none⟩ = false := (hd1.frozen (x := w.heap.size) (o := 5) smx (by omega)).trans kfx
  go_upto_region 3 with fail
  refine wp_world (fun wa hwa => ?_)
  have HS : RSt cb w w1.heap.size (1 + k) wa := by (rw [hwa]; exact ⟨0, 0, 0, ⟨#[]⟩, ⟨#[]⟩, Bx.mk rfl _ rfl, (((Bx.ext (Bx.mk rfl _ rfl) bxt).dr hd1 (by omega)).ext (w' := w1.alloc _) bxt), dtx⟩)
  have hnb : w.heap.size < w1.heap.size := s1_0
  clear hwa hz1 s1_0 c1_0_0 f1_0_0 c1_0_1 f1_0_1 c1_0_2 f1_0_2 c1_0_3 f1_0_3 c1_0_4 f1_0_4 c1_0_5 f1_0_5 hd1
  go_cut [15] (fun u wx => ∃ t : Bool, u = .bool t ∧ RSt cb w w1.heap.size (1 + k) wx)
  case first =>
    obtain ⟨r, hr⟩ := boolOf ((1 : Int) ≤ 1 + k ∧ 1 + k ≤ 5)
    go_wp2_with fail
    refine (l1In_any (1 + k) 1 5 _ r (Lib.hid hr)).mono ?_
    rintro e wi ⟨rfl, hwi⟩
    subst hwi
    clear hr
    cases r <;> (go_wp2_with fail; go_meet; exact ⟨_, rfl, HS⟩)
  obtain ⟨u0, hu0⟩ : ∃ x, x = wc := ⟨_, rfl⟩
  subst hu0
  clear HS
  obtain ⟨t, rfl, HS⟩ := hcut
  go_upto_if 15 with fail
  go_cut [] (fun wx => RSt cb w w1.heap.size (1 + k) wx)
  case first =>
    cases t
    · go_wp2_with fail
      go_meet
      exact HS
    obtain ⟨n, u, f, nm, tx, hbr, hbz, hd⟩ := HS
    obtain ⟨m0, n0⟩ := hbr.at 0 _ rfl
    obtain ⟨m1, n1⟩ := hbr.at 1 _ rfl
    obtain ⟨m2, n2⟩ := hbr.at 2 _ rfl
    obtain ⟨m3, n3⟩ := hbr.at 3 _ rfl
    obtain ⟨m4, n4⟩ := hbr.at 4 _ rfl
    obtain ⟨m5, n5⟩ := hbr.at 5 _ rfl
    have sM : w1.heap.size < u0.heap.size := hbr.lt
    have HBR := Lib.hid hbr; have HBZ := Lib.hid hbz; have HD := Lib.hid hd; have HCU := Lib.hid hd.cur; clear hbr hbz hd
    go_wp2_with fail
    refine (l1Below_any cb 7 _ (HCU.out.ext bxt) (by omega)).mono ?_
    rintro e wq ⟨x, ⟨x0, x1, -⟩, rfl, hq⟩
    have x1 := x1 (by omega)
    have HBR1 := Lib.hid ((HBR.out.ext (w' := _) bxt).dr hq (by omega)); have HBZ1 := Lib.hid ((HBZ.out.ext (w' := _) bxt).dr hq (by omega))
    obtain ⟨m0, n0⟩ := HBR1.out.at 0 _ rfl
    obtain ⟨m1, n1⟩ := HBR1.out.at 1 _ rfl
    obtain ⟨m2, n2⟩ := HBR1.out.at 2 _ rfl
    obtain ⟨m3, n3⟩ := HBR1.out.at 3 _ rfl
    obtain ⟨m4, n4⟩ := HBR1.out.at 4 _ rfl
    obtain ⟨m5, n5⟩ := HBR1.out.at 5 _ rfl
    have sQ : w1.heap.size < wq.heap.size := HBR1.out.lt
    have HD1 : Hid (Dr cb w wq) := Lib.hid ((HD.out.ext bxt).trans hq)
    go_wp2_with fail
    go_meet
    exact ⟨_, _, _, _, _, HBR1.out.put1 1 _ rfl, HBZ1.out.set (p := ⟨w1.heap.size, 1, none⟩) (by show w1.heap.size ≠ w.heap.size; omega) _, HD1.out.setCell (p := ⟨w1.heap.size, 1, none⟩) (by show w.heap.size ≤ w1.heap.size; omega) _⟩
  obtain ⟨v0, hv0⟩ : ∃ x, x = wc := ⟨_, rfl⟩
  subst hv0
  clear HS
  have HS := hcut; clear hcut
  go_upto_region 5 with fail
  go_cut [25] (fun u wx => ∃ t : Bool, u = .bool t ∧ RSt cb w w1.heap.size (1 + k) wx)
  case first =>
    by_cases h3 : 1 + k = 3
    · have e3 : (1 + k == 3) = true := by simpa using h3
      go_wp2_with fail
      go_meet
      exact ⟨_, rfl, HS⟩
    · have e3 : (1 + k == 3) = false := by simpa using h3
      go_wp2_with fail
      go_meet
      exact ⟨_, rfl, HS⟩
  obtain ⟨u1, hu1⟩ : ∃ x, x = wc := ⟨_, rfl⟩
  subst hu1
  clear HS
  obtain ⟨t, rfl, HS⟩ := hcut
  go_upto_if 25 with fail
  go_cut [] (fun wx => RSt cb w w1.heap.size (1 + k) wx)
  case first =>
    cases t
    · go_wp2_with fail
      go_meet
      exact HS
    obtain ⟨n, u, f, nm, tx, hbr, hbz, hd⟩ := HS
    obtain ⟨m0, n0⟩ := hbr.at 0 _ rfl
    obtain ⟨m1, n1⟩ := hbr.at 1 _ rfl
    obtain ⟨m2, n2⟩ := hbr.at 2 _ rfl
    obtain ⟨m3, n3⟩ := hbr.at 3 _ rfl
    obtain ⟨m4, n4⟩ := hbr.at 4 _ rfl
    obtain ⟨m5, n5⟩ := hbr.at 5 _ rfl
    have sM : w1.heap.size < u1.heap.size := hbr.lt
    have HBR := Lib.hid hbr; have HBZ := Lib.hid hbz; have HD := Lib.hid hd; have HCU := Lib.hid hd.cur; clear hbr hbz hd
    go_wp2_with fail
    refine (l1Below_any cb 9 _ (HCU.out.ext bxt) (by omega)).mono ?_
    rintro e wq ⟨x, ⟨x0, x1, -⟩, rfl, hq⟩
    have x1 := x1 (by omega)
    have HBR1 := Lib.hid ((HBR.out.ext (w' := _) bxt).dr hq (by omega)); have HBZ1 := Lib.hid ((HBZ.out.ext (w' := _) bxt).dr hq (by omega))
    obtain ⟨m0, n0⟩ := HBR1.out.at 0 _ rfl
    obtain ⟨m1, n1⟩ := HBR1.out.at 1 _ rfl
    obtain ⟨m2, n2⟩ := HBR1.out.at 2 _ rfl
    obtain ⟨m3, n3⟩ := HBR1.out.at 3 _ rfl
    obtain ⟨m4, n4⟩ := HBR1.out.at 4 _ rfl
    obtain ⟨m5, n5⟩ := HBR1.out.at 5 _ rfl
    have sQ : w1.heap.size < wq.heap.size := HBR1.out.lt
    have HD1 : Hid (Dr cb w wq) := Lib.hid ((HD.out.ext bxt).trans hq)
    go_wp2_with fail
    go_meet
    exact ⟨_, _, _, _, _, HBR1.out.put1 2 _ rfl, HBZ1.out.set (p := ⟨w1.heap.size, 2, none⟩) (by show w1.heap.size ≠ w.heap.size; omega) _, HD1.out.setCell (p := ⟨w1.heap.size, 2, none⟩) (by show w.heap.size ≤ w1.heap.size; omega) _⟩
  obtain ⟨v1, hv1⟩ : ∃ x, x = wc := ⟨_, rfl⟩
  subst hv1
  clear HS
  have HS := hcut; clear hcut
  go_upto_region 7 with fail
  go_cut [31] (fun u wx => ∃ t : Bool, u = .bool t ∧ RSt cb w w1.heap.size (1 + k) wx)
  case first =>
    go_wp2_with fail
    refine (l14Named_ex (1 + k) _).mono ?_
    rintro e wi ⟨r, rfl, hwi⟩
    subst hwi
    go_wp2_with fail
    go_meet
    exact ⟨_, rfl, HS⟩
  obtain ⟨u2, hu2⟩ : ∃ x, x = wc := ⟨_, rfl⟩
  subst hu2
  clear HS
  obtain ⟨t, rfl, HS⟩ := hcut
  go_upto_if 31 with fail
  go_cut [] (fun wx => RSt cb w w1.heap.size (1 + k) wx)
  case first =>
    cases t
    · go_wp2_with fail
      go_meet
      exact HS
    obtain ⟨n, u, f, nm, tx, hbr, hbz, hd⟩ := HS
    obtain ⟨m0, n0⟩ := hbr.at 0 _ rfl
    obtain ⟨m1, n1⟩ := hbr.at 1 _ rfl
    obtain ⟨m2, n2⟩ := hbr.at 2 _ rfl
    obtain ⟨m3, n3⟩ := hbr.at 3 _ rfl
    obtain ⟨m4, n4⟩ := hbr.at 4 _ rfl
    obtain ⟨m5, n5⟩ := hbr.at 5 _ rfl
    have sM : w1.heap.size < u2.heap.size := hbr.lt
    have HBR := Lib.hid hbr; have HBZ := Lib.hid hbz; have HD := Lib.hid hd; have HCU := Lib.hid hd.cur; clear hbr hbz hd
    go_wp2_with fail
    refine (l2Name_any cb _ (HCU.out.ext bxt)).mono ?_
    rintro e wq ⟨x, hx, rfl, hq⟩
    have HBR1 := Lib.hid ((HBR.out.ext (w' := _) bxt).dr hq (by omega)); have HBZ1 := Lib.hid ((HBZ.out.ext (w' := _) bxt).dr hq (by omega))
    obtain ⟨m0, n0⟩ := HBR1.out.at 0 _ rfl
    obtain ⟨m1, n1⟩ := HBR1.out.at 1 _ rfl
    obtain ⟨m2, n2⟩ := HBR1.out.at 2 _ rfl
    obtain ⟨m3, n3⟩ := HBR1.out.at 3 _ rfl
    obtain ⟨m4, n4⟩ := HBR1.out.at 4 _ rfl
    obtain ⟨m5, n5⟩ := HBR1.out.at 5 _ rfl
    have sQ : w1.heap.size < wq.heap.size := HBR1.out.lt
    have HD1 : Hid (Dr cb w wq) := Lib.hid ((HD.out.ext bxt).trans hq)
    go_wp2_with fail
    go_meet
    exact ⟨_, _, _, _, _, HBR1.out.put1 4 _ rfl, HBZ1.out.set (p := ⟨w1.heap.size, 4, none⟩) (by show w1.heap.size ≠ w.heap.size; omega) _, HD1.out.setCell (p := ⟨w1.heap.size, 4, none⟩) (by show w.heap.size ≤ w1.heap.size; omega) _⟩
  obtain ⟨v2, hv2⟩ : ∃ x, x = wc := ⟨_, rfl⟩
  subst hv2
  clear HS
  have HS := hcut; clear hcut
  go_upto_region 9 with fail
  go_cut [36] (fun u wx => ∃ t : Bool, u = .bool t ∧ RSt cb w w1.heap.size (1 + k) wx)
  case first =>
    go_wp2_with fail
    refine (l14Tagged_ex (1 + k) _).mono ?_
    rintro e wi ⟨r, rfl, hwi⟩
    subst hwi
    go_wp2_with fail
    go_meet
    exact ⟨_, rfl, HS⟩
  obtain ⟨u3, hu3⟩ : ∃ x, x = wc := ⟨_, rfl⟩
  subst hu3
  clear HS
  obtain ⟨t, rfl, HS⟩ := hcut
  go_upto_if 36 with fail
  go_cut [] (fun wx => RSt cb w w1.heap.size (1 + k) wx)
  case first =>
    cases t
    · go_wp2_with fail
      go_meet
      exact HS
    obtain ⟨n, u, f, nm, tx, hbr, hbz, hd⟩ := HS
    obtain ⟨m0, n0⟩ := hbr.at 0 _ rfl
    obtain ⟨m1, n1⟩ := hbr.at 1 _ rfl
    obtain ⟨m2, n2⟩ := hbr.at 2 _ rfl
    obtain ⟨m3, n3⟩ := hbr.at 3 _ rfl
    obtain ⟨m4, n4⟩ := hbr.at 4 _ rfl
    obtain ⟨m5, n5⟩ := hbr.at 5 _ rfl
    have sM : w1.heap.size < u3.heap.size := hbr.lt
    have HBR := Lib.hid hbr; have HBZ := Lib.hid hbz; have HD := Lib.hid hd; have HCU := Lib.hid hd.cur; clear hbr hbz hd
    go_wp2_with fail
    refine (l1Pick_any cb 3 41 _ _ _ _ (HCU.out.ext bxt) (Rd.lit _ _ _ _ 1 _ rfl rfl (by omega)) (by omega) (by omega) (by rfl) (fun b o e => by have hq := (HCU.out).lt; simp at e; (try simp at hq); omega)).mono ?_
    rintro e wq ⟨x, hx, rfl, hq⟩
    have HBR1 := Lib.hid ((HBR.out.ext (w' := _) bxt).dr hq (by omega)); have HBZ1 := Lib.hid ((HBZ.out.ext (w' := _) bxt).dr hq (by omega))
    obtain ⟨m0, n0⟩ := HBR1.out.at 0 _ rfl
    obtain ⟨m1, n1⟩ := HBR1.out.at 1 _ rfl
    obtain ⟨m2, n2⟩ := HBR1.out.at 2 _ rfl
    obtain ⟨m3, n3⟩ := HBR1.out.at 3 _ rfl
    obtain ⟨m4, n4⟩ := HBR1.out.at 4 _ rfl
    obtain ⟨m5, n5⟩ := HBR1.out.at 5 _ rfl
    have sQ : w1.heap.size < wq.heap.size := HBR1.out.lt
    have HD1 : Hid (Dr cb w wq) := Lib.hid ((HD.out.ext bxt).trans hq)
    go_wp2_with fail
    go_meet
    exact ⟨_, _, _, _, _, HBR1.out.put1 4 _ rfl, HBZ1.out.set (p := ⟨w1.heap.size, 4, none⟩) (by show w1.heap.size ≠ w.heap.size; omega) _, HD1.out.setCell (p := ⟨w1.heap.size, 4, none⟩) (by show w.heap.size ≤ w1.heap.size; omega) _⟩
  obtain ⟨v3, hv3⟩ : ∃ x, x = wc := ⟨_, rfl⟩
  subst hv3
  clear HS
  have HS := hcut; clear hcut
  go_upto_region 11 with fail
  go_cut [42] (fun u wx => ∃ t : Bool, u = .bool t ∧ RSt cb w w1.heap.size (1 + k) wx)
  case first =>
    go_wp2_with fail
    go_meet
    exact ⟨_, rfl, HS⟩
  obtain ⟨u4, hu4⟩ : ∃ x, x = wc := ⟨_, rfl⟩
  subst hu4
  clear HS
  obtain ⟨t, rfl, HS⟩ := hcut
  go_upto_if 42 with fail
  go_cut [] (fun wx => RSt cb w w1.heap.size (1 + k) wx)
  case first =>
    cases t
    · go_wp2_with fail
      go_meet
      exact HS
    obtain ⟨n, u, f, nm, tx, hbr, hbz, hd⟩ := HS
    obtain ⟨m0, n0⟩ := hbr.at 0 _ rfl
    obtain ⟨m1, n1⟩ := hbr.at 1 _ rfl
    obtain ⟨m2, n2⟩ := hbr.at 2 _ rfl
    obtain ⟨m3, n3⟩ := hbr.at 3 _ rfl
    obtain ⟨m4, n4⟩ := hbr.at 4 _ rfl
    obtain ⟨m5, n5⟩ := hbr.at 5 _ rfl
    have sM : w1.heap.size < u4.heap.size := hbr.lt
    have HBR := Lib.hid hbr; have HBZ := Lib.hid hbz; have HD := Lib.hid hd; have HCU := Lib.hid hd.cur; clear hbr hbz hd
    go_wp2_with fail
    refine (l1Below_any cb 32 _ (HCU.out.ext bxt) (by omega)).mono ?_
    rintro e wq ⟨x, ⟨x0, x1, -⟩, rfl, hq⟩
    have x1 := x1 (by omega)
    have HBR1 := Lib.hid ((HBR.out.ext (w' := _) bxt).dr hq (by omega)); have HBZ1 := Lib.hid ((HBZ.out.ext (w' := _) bxt).dr hq (by omega))
    obtain ⟨m0, n0⟩ := HBR1.out.at 0 _ rfl
    obtain ⟨m1, n1⟩ := HBR1.out.at 1 _ rfl
    obtain ⟨m2, n2⟩ := HBR1.out.at 2 _ rfl
    obtain ⟨m3, n3⟩ := HBR1.out.at 3 _ rfl
    obtain ⟨m4, n4⟩ := HBR1.out.at 4 _ rfl
    obtain ⟨m5, n5⟩ := HBR1.out.at 5 _ rfl
    have sQ : w1.heap.size < wq.heap.size := HBR1.out.lt
    have HD1 : Hid (Dr cb w wq) := Lib.hid ((HD.out.ext bxt).trans hq)
    go_wp2_with fail
    go_meet
    exact ⟨_, _, _, _, _, HBR1.out.put1 3 _ rfl, HBZ1.out.set (p := ⟨w1.heap.size, 3, none⟩) (by show w1.heap.size ≠ w.heap.size; omega) _, HD1.out.setCell (p := ⟨w1.heap.size, 3, none⟩) (by show w.heap.size ≤ w1.heap.size; omega) _⟩
  obtain ⟨v4, hv4⟩ : ∃ x, x = wc := ⟨_, rfl⟩
  subst hv4
  clear HS
  have HS := hcut; clear hcut
  go_upto_region 13 with fail
  go_cut [47] (fun u wx => ∃ t : Bool, u = .bool t ∧ RSt cb w w1.heap.size (1 + k) wx)
  case first =>
    go_wp2_with fail
    go_meet
    exact ⟨_, rfl, HS⟩
  obtain ⟨u5, hu5⟩ : ∃ x, x = wc := ⟨_, rfl⟩
  subst hu5
  clear HS
  obtain ⟨t, rfl, HS⟩ := hcut
  go_upto_if 47 with fail
  go_cut [] (fun wx => RSt cb w w1.heap.size (1 + k) wx)
  case first =>
    cases t
    · go_wp2_with fail
      go_meet
      exact HS
    obtain ⟨n, u, f, nm, tx, hbr, hbz, hd⟩ := HS
    obtain ⟨m0, n0⟩ := hbr.at 0 _ rfl
    obtain ⟨m1, n1⟩ := hbr.at 1 _ rfl
    obtain ⟨m2, n2⟩ := hbr.at 2 _ rfl
    obtain ⟨m3, n3⟩ := hbr.at 3 _ rfl
    obtain ⟨m4, n4⟩ := hbr.at 4 _ rfl
    obtain ⟨m5, n5⟩ := hbr.at 5 _ rfl
    have sM : w1.heap.size < u5.heap.size := hbr.lt
    have HBR := Lib.hid hbr; have HBZ := Lib.hid hbz; have HD := Lib.hid hd; have HCU := Lib.hid hd.cur; clear hbr hbz hd
    go_wp2_with fail
    refine (l7Body_any cb _ (HCU.out.ext bxt)).mono ?_
    rintro e wq ⟨x, hx, rfl, hq⟩
    have HBR1 := Lib.hid ((HBR.out.ext (w' := _) bxt).dr hq (by omega)); have HBZ1 := Lib.hid ((HBZ.out.ext (w' := _) bxt).dr hq (by omega))
    obtain ⟨m0, n0⟩ := HBR1.out.at 0 _ rfl
    obtain ⟨m1, n1⟩ := HBR1.out.at 1 _ rfl
    obtain ⟨m2, n2⟩ := HBR1.out.at 2 _ rfl
    obtain ⟨m3, n3⟩ := HBR1.out.at 3 _ rfl
    obtain ⟨m4, n4⟩ := HBR1.out.at 4 _ rfl
    obtain ⟨m5, n5⟩ := HBR1.out.at 5 _ rfl
    have sQ : w1.heap.size < wq.heap.size := HBR1.out.lt
    have HD1 : Hid (Dr cb w wq) := Lib.hid ((HD.out.ext bxt).trans hq)
    go_wp2_with fail
    go_meet
    exact ⟨_, _, _, _, _, HBR1.out.put1 5 _ rfl, HBZ1.out.set (p := ⟨w1.heap.size, 5, none⟩) (by show w1.heap.size ≠ w.heap.size; omega) _, HD1.out.setCell (p := ⟨w1.heap.size, 5, none⟩) (by show w.heap.size ≤ w1.heap.size; omega) _⟩
  obtain ⟨v5, hv5⟩ : ∃ x, x = wc := ⟨_, rfl⟩
  subst hv5
  clear HS
  have HS := hcut; clear hcut
  obtain ⟨n, u, f, nm, tx, hbr, hbz, hd⟩ := HS
  obtain ⟨m0, n0⟩ := hbr.at 0 _ rfl
  obtain ⟨m1, n1⟩ := hbr.at 1 _ rfl
  obtain ⟨m2, n2⟩ := hbr.at 2 _ rfl
  obtain ⟨m3, n3⟩ := hbr.at 3 _ rfl
  obtain ⟨m4, n4⟩ := hbr.at 4 _ rfl
  obtain ⟨m5, n5⟩ := hbr.at 5 _ rfl
  obtain ⟨y0, z0⟩ := hbz.at 0 _ rfl
  obtain ⟨y1, z1⟩ := hbz.at 1 _ rfl
  obtain ⟨y2, z2⟩ := hbz.at 2 _ rfl
  obtain ⟨y3, z3⟩ := hbz.at 3 _ rfl
  obtain ⟨y4, z4⟩ := hbz.at 4 _ rfl
  obtain ⟨y5, z5⟩ := hbz.at 5 _ rfl
  have sM : w1.heap.size < v5.heap.size := hbr.lt; have sZ : w.heap.size < v5.heap.size := hbz.lt
  clear hbr hbz
  go_wp2_with fail
  refine bodyPost_ret (v := .agg #[.int .i64 (1 + k), .int .i64 n, .int .i64 u, .int .i64 f, .string nm, .string tx]) (by simp [results, Try.results160, go_sem, *]) rfl ⟨⟨1 + k, n, u, f, nm, tx⟩, rfl, dtx⟩
end Go.Proofs.Ytpameapajhbdnaa

namespace Go.Proofs.Ytpameapajhbdnaa
open Go.RowKit
set_option linter.unusedVariables false
set_option linter.unusedSimpArgs false
theorem DMsg.one (x : DMsg) : ∀ u ∈ x.cells, u.oneCell' = true := by simp [DMsg.cells, Value.oneCell']

end Go.Proofs.Ytpameapajhbdnaa

namespace Go.Proofs.Ytpameapajhbdnaa
open Go.RowKit
set_option linter.unusedVariables false
set_option linter.unusedSimpArgs false

/-- the blocks in which mailboxes lie -/
def rowsB (a : Option Addr) (c : Nat) (l : List PBox) (k : Nat) : Prop := foot (.slice a l.length c) = some k ∨ ∃ v ∈ l.map PBox.key, foot v = some k
theorem OwnBs.chg {S : Nat → Prop} {B E EM c : Nat} {a b : World} {x : Option Addr} {l : List PBox} (h : OwnBs a B E EM x c l) (hb : Chg S a b) (hf : ∀ k, rowsB x c l k → ¬ S k) : OwnBs b B E EM x c l :=
  ⟨h.row.chg hb (fun k hk => hf k (Or.inl hk)), fun z hz => (h.msg z hz).chg hb (fun k hk => hf k (Or.inr ⟨z.key, List.mem_map_of_mem hz, hk⟩)), h.off, h.apart⟩
theorem OwnBs.rows_lt {B E EM c : Nat} {a : World} {x : Option Addr} {l : List PBox} (h : OwnBs a B E EM x c l) : ∀ k, rowsB x c l k → B ≤ k ∧ k < a.heap.size := fun k hk => by
  rcases hk with hk | ⟨v, hv, hk⟩
  · exact h.row.lt k hk
  · obtain ⟨z, hz, rfl⟩ := List.mem_map.1 hv
    exact (h.msg z hz).lt k hk
theorem key_set {m : List PBox} {j : Nat} (hj : j < m.length) {p : PBox} (hp : p.key = m[j].key) : (m.set j p).map PBox.key = m.map PBox.key := by
  rw [List.map_set, hp]
  apply List.ext_getElem?
  intro i
  rw [List.getElem?_set]
  split
  · rename_i e; subst e; simp [hj]
  · rfl
theorem cells_set {m : List PBox} {j : Nat} (hj : j < m.length) {p : PBox} (hp : p.cells = m[j].cells) : (m.set j p).flatMap PBox.cells = m.flatMap PBox.cells := by
  rw [List.flatMap_def, List.flatMap_def, List.map_set, hp]
  congr 1
  apply List.ext_getElem?
  intro i
  rw [List.getElem?_set]
  split
  · rename_i e; subst e; simp [hj]
  · rfl
theorem mem_set {m : List PBox} {j : Nat} {p z : PBox} (h : z ∈ m.set j p) : z = p ∨ ∃ i, ∃ hi : i < m.length, i ≠ j ∧ z = m[i] := by
  obtain ⟨i, hi, rfl⟩ := List.getElem_of_mem h
  rw [List.getElem_set]
  by_cases e : j = i
  · rw [if_pos e]; exact Or.inl rfl
  · rw [if_neg e]; exact Or.inr ⟨i, by simpa using hi, fun h => e h.symm, rfl⟩
/-- the messages of one mailbox are written anew -/
theorem OwnBs.tail {w w' : World} {B E EM c j : Nat} {a : Option Addr} {m : List PBox} (h : OwnBs w B E EM a c m) (hj : j < m.length) (l' : List DMsg) (hlen : l'.length = m[j].msgs.length)
    (hown : Own w' B EM 3 (.slice m[j].ma m[j].msgs.length m[j].mc) m[j].msgs.length (l'.flatMap DMsg.cells)) (hg : w.grownBy w' (foot m[j].key)) :
    OwnBs w' B E EM a c (m.set j ⟨m[j].name, m[j].validity, m[j].next, l', m[j].ma, m[j].mc⟩) := by
  have hl : (m.set j ⟨m[j].name, m[j].validity, m[j].next, l', m[j].ma, m[j].mc⟩).length = m.length := List.length_set ..
  have hk := key_set hj (p := ⟨m[j].name, m[j].validity, m[j].next, l', m[j].ma, m[j].mc⟩) (by simp [PBox.key, hlen])
  have hcs := cells_set hj (p := ⟨m[j].name, m[j].validity, m[j].next, l', m[j].ma, m[j].mc⟩) (by simp [PBox.cells, hlen])
  have hkm : m[j].key ∈ m.map PBox.key := List.mem_map_of_mem (List.getElem_mem hj)
  refine ⟨by rw [hl, hcs]; exact h.row.off hg (h.off _ hkm).symm, fun z hz => ?_, by rw [hk, hl]; exact h.off, by rw [hk]; exact h.apart⟩
  rcases mem_set hz with rfl | ⟨i, hi, hij, rfl⟩
  · show Own w' B EM 3 (.slice m[j].ma l'.length m[j].mc) l'.length (l'.flatMap DMsg.cells)
    rw [hlen]; exact hown
  · have hp : Off2 m[i].key m[j].key := by
      have h3 := List.pairwise_iff_getElem.1 h.apart
      rcases Nat.lt_or_ge i j with hlt | hge
      · have := h3 i j (by simpa using hi) (by simpa using hj) hlt
        simpa using this
      · have := h3 j i (by simpa using hj) (by simpa using hi) (by omega)
        exact (by simpa using this : Off2 m[j].key m[i].key).symm
    exact (h.msg _ (List.getElem_mem hi)).off hg hp
end Go.Proofs.Ytpameapajhbdnaa

namespace Go.Proofs.Ytpameapajhbdnaa
open Go.RowKit
set_option linter.unusedVariables false
set_option linter.unusedSimpArgs false

def rowsS (ba : Option Addr) (bc : Nat) (zs : List PBox) (la : Option Addr) (lc n : Nat) (k : Nat) : Prop := rowsB ba bc zs k ∨ foot (.slice la n lc) = some k
theorem OwnSt.rows_lt {w : World} {B E EM EC bc lc : Nat} {ba la : Option Addr} {zs : List PBox} {l : List DCommit} (h : OwnSt w B E EM EC ba bc zs la lc l) : ∀ k, rowsS ba bc zs la lc l.length k → B ≤ k ∧ k < w.heap.size := fun k hk => by
  rcases hk with hk | hk
  · exact h.box.rows_lt k hk
  · exact h.log.lt k hk
theorem OwnSt.le {w : World} {B B' E EM EC bc lc : Nat} {ba la : Option Addr} {zs : List PBox} {l : List DCommit} (h : OwnSt w B E EM EC ba bc zs la lc l) (hb : B' ≤ B) : OwnSt w B' E EM EC ba bc zs la lc l := ⟨h.box.le hb, h.log.le hb, h.offr, h.offm⟩
theorem OwnSt.chg {S : Nat → Prop} {a b : World} {B E EM EC bc lc : Nat} {ba la : Option Addr} {zs : List PBox} {l : List DCommit} (h : OwnSt a B E EM EC ba bc zs la lc l) (hb : Chg S a b) (hf : ∀ k, rowsS ba bc zs la lc l.length k → ¬ S k) : OwnSt b B E EM EC ba bc zs la lc l :=
  ⟨h.box.chg hb (fun k hk => hf k (Or.inl hk)), h.log.chg hb (fun k hk => hf k (Or.inr hk)), h.offr, h.offm⟩
theorem OwnSt.apart {w : World} {B E EM EC bc lc : Nat} {ba la : Option Addr} {zs : List PBox} {l : List DCommit} (h : OwnSt w B E EM EC ba bc zs la lc l) {k : Nat} (h1 : rowsB ba bc zs k) : foot (.slice la l.length lc) ≠ some k := fun e => by
  rcases h1 with h1 | ⟨v, hv, h1⟩
  · rcases h.offr with h2 | h2
    · rw [h2] at h1; cases h1
    · exact h2 (h1.trans e.symm)
  · obtain ⟨z, hz, rfl⟩ := List.mem_map.1 hv
    rcases h.offm z hz with h2 | h2
    · rw [show foot z.key = none from h2] at h1; cases h1
    · exact h2 (h1.trans e.symm)
end Go.Proofs.Ytpameapajhbdnaa

namespace Go.Proofs.Ytpameapajhbdnaa
open Go.RowKit
set_option linter.unusedVariables false
set_option linter.unusedSimpArgs false

end Go.Proofs.Ytpameapajhbdnaa

namespace Go.Proofs.Ytpameapajhbdnaa
open Go.RowKit
set_option linter.unusedVariables false
set_option linter.unusedSimpArgs false

theorem PBox.one (x : PBox) : ∀ u ∈ x.cells, u.oneCell' = true := by simp [PBox.cells, Value.oneCell']
theorem OwnBs.nil (w : World) (B E EM : Nat) (a : Option Addr) : OwnBs w B E EM a 0 [] := ⟨Own.none0 _, by simp, by simp, by simp⟩
/-- one mailbox more at the end -/
theorem OwnBs.push {wx w2 : World} {B E EM q q2 : Nat} {g g2 : Option Addr} {zs : List PBox} {z : PBox} (h : OwnBs wx B E EM g q zs) (hzo : Own wx B EM 3 (.slice z.ma z.msgs.length z.mc) z.msgs.length (z.msgs.flatMap DMsg.cells))
    (hz1 : Off2 z.key (.slice g zs.length q)) (hz2 : ∀ y ∈ zs, Off2 y.key z.key) (hown : Own w2 B E 4 (.slice g2 (zs.length + 1) q2) (zs.length + 1) (zs.flatMap PBox.cells ++ z.cells)) (hg : wx.grownBy w2 (foot (.slice g zs.length q)))
    (hw : ∀ x, foot (.slice g2 (zs.length + 1) q2) = some x → foot (.slice g zs.length q) = some x ∨ x = wx.heap.size) : OwnBs w2 B E EM g2 q2 (zs ++ [z]) := by
  have hl : (zs ++ [z]).length = zs.length + 1 := by simp
  have hz3 : ∀ v ∈ (zs ++ [z]).map PBox.key, Off2 v (.slice g zs.length q) ∧ ∀ x, foot v = some x → x < wx.heap.size := fun v hv => by
    obtain ⟨y, hy, rfl⟩ := List.mem_map.1 hv
    rcases List.mem_append.1 hy with hy | hy
    · exact ⟨h.off _ (List.mem_map_of_mem hy), fun x hx => ((h.msg y hy).lt x hx).2⟩
    · obtain rfl : y = z := by simpa using hy
      exact ⟨hz1, fun x hx => (hzo.lt x hx).2⟩
  refine ⟨by rw [hl]; simpa using hown, fun y hy => ?_, fun v hv => ?_, ?_⟩
  · rcases List.mem_append.1 hy with hy | hy
    · exact (h.msg y hy).off hg (h.off _ (List.mem_map_of_mem hy))
    · obtain rfl : y = z := by simpa using hy
      exact hzo.off hg hz1
  · rw [hl]
    obtain ⟨h4, h5⟩ := hz3 v hv
    cases hf : foot v with
    | none => exact Or.inl hf
    | some x =>
      refine Or.inr (fun e => ?_)
      rw [hf] at e
      rcases hw x e.symm with h6 | h6
      · rcases h4 with h7 | h7
        · rw [h7] at hf; cases hf
        · exact h7 (by rw [hf, h6])
      · have := h5 x hf; omega
  · rw [List.map_append, List.pairwise_append]
    refine ⟨h.apart, by simp, fun v hv u hu => ?_⟩
    obtain ⟨y, hy, rfl⟩ := List.mem_map.1 hv
    obtain rfl : u = z.key := by simpa using hu
    exact hz2 y hy
def CopyRel (E EM : Nat) (l : List PBox) (W : World) (v i : Value) (wr : World) : Prop :=
  ∃ (k : Nat) (zs : List PBox) (gb q : Nat), k ≤ l.length ∧ i = .int .i64 k ∧ v = .slice (some ⟨gb, 0, none⟩) zs.length q ∧ Hid (zs.map PBox.box = (l.take k).map PBox.box) ∧ Hid (OwnBs wr W.heap.size E EM (some ⟨gb, 0, none⟩) q zs) ∧ Below W.heap.size W wr
theorem CopyRel.next {E EM k q2 : Nat} {g2 : Option Addr} {l zs : List PBox} {z : PBox} {W w2 : World} (hk : k < l.length) (hz : zs.map PBox.box = (l.take k).map PBox.box) (hzb : z.box = l[k].box) (h : OwnBs w2 W.heap.size E EM g2 q2 (zs ++ [z])) (hb : Below W.heap.size W w2) :
    CopyRel E EM l W (.slice g2 (zs.length + 1) q2) (.int .i64 ((k : Int) + 1)) w2 := by
  have hq : q2 ≠ 0 := by
    have := h.row.cap
    simp only [List.length_append, List.length_cons] at this
    omega
  obtain ⟨gb, rfl, -⟩ := h.row.row hq
  exact ⟨k + 1, zs ++ [z], gb, q2, hk, by simp, by simp, by unfold Hid; rw [List.map_append, hz, List.take_succ_eq_append_getElem hk, List.map_append]; simp [hzb], h, hb⟩

set_option maxRecDepth 100000 in
set_option maxHeartbeats 1000000 in
theorem specCopyBox_any (nm : ByteArray) (v x : Int) (l : List DMsg) (a : Option Addr) (c : Nat) (w : World) (R : Rd w a c 3 l.length (l.flatMap DMsg.cells)) (hl : l.length ≤ 2097152) :
    Calls Try.prog 137 #[.agg #[.string nm, .int .i64 v, .int .i64 x, .slice a l.length c]] w fun e w' => ∃ g q, e = .returned (.agg #[.string nm, .int .i64 v, .int .i64 x, .slice g l.length q]) ∧ Own w' (w.heap.size + 2) 111 3 (.slice g l.length q) l.length (l.flatMap DMsg.cells) ∧ Ext w w' := by
  obtain ⟨i0, hi, hz0, hz1, hz2⟩ := info_parts info_Msg
  have HR := Lib.hid R
  clear R
  go_enter Try.func137, Try.ntmps137
  go_wp2_with ((at_builtin; refine wpList_app (B := w.heap.size + 2) (v := .slice (some ⟨w.heap.size + 2, 0, none⟩) 0 0) rfl _ _ _ rfl 111 i0 _ _ Try.underlying50 hi hz0 hz1 hz2 rfl (by decide) rfl (Own.none0 _) _ _ _ (l.flatMap DMsg.cells) rfl (HR.out.ext bxt) (one_flat DMsg.one l) (by omega) (by omega) (by simp) ?_; intro g q w1 hown hg; simp only [Nat.zero_add, List.nil_append] at hown; have hgn := grown_below (show World.grownBy _ w1 none from hg); have HO := Lib.hid hown; clear hown hg; have c0_0 : w1.cell? ⟨w.heap.size, 0, none⟩ = some (.string nm) := (hgn.cell (p := ⟨w.heap.size, 0, none⟩) smx).trans kpx; have f0_0 : w1.frozen? ⟨w.heap.size, 0, none⟩ = false := (hgn.frozen (p := ⟨w.heap.size, 0, none⟩) smx).trans kfx; have c0_1 : w1.cell? ⟨w.heap.size, 1, none⟩ = some (.int .i64 v) := (hgn.cell (p := ⟨w.heap.size, 1, none⟩) smx).trans kpx; have f0_1 : w1.frozen? ⟨w.heap.size, 1, none⟩ = false := (hgn.frozen (p := ⟨w.heap.size, 1, none⟩) smx).trans kfx; have c0_2 : w1.cell? ⟨w.heap.size, 2, none⟩ = some (.int .i64 x) := (hgn.cell (p := ⟨w.heap.size, 2, none⟩) smx).trans kpx; have f0_2 : w1.frozen? ⟨w.heap.size, 2, none⟩ = false := (hgn.frozen (p := ⟨w.heap.size, 2, none⟩) smx).trans kfx; have c0_3 : w1.cell? ⟨w.heap.size, 3, none⟩ = some (.slice a l.length c) := (hgn.cell (p := ⟨w.heap.size, 3, none⟩) smx).trans kpx; have f0_3 : w1.frozen? ⟨w.heap.size, 3, none⟩ = false := (hgn.frozen (p := ⟨w.heap.size, 3, none⟩) smx).trans kfx; have s0 : w.heap.size < w1.heap.size := (by have hss := hgn.size; first | omega | (simp at hss; omega)); have c1_0 : w1.cell? ⟨w.heap.size + 1, 0, none⟩ = some (.string ⟨#[]⟩) := (hgn.cell (p := ⟨w.heap.size + 1, 0, none⟩) smx).trans kpx; have f1_0 : w1.frozen? ⟨w.heap.size + 1, 0, none⟩ = false := (hgn.frozen (p := ⟨w.heap.size + 1, 0, none⟩) smx).trans kfx; have c1_1 : w1.cell? ⟨w.heap.size + 1, 1, none⟩ = some (.int .i64 0) := (hgn.cell (p := ⟨w.heap.size + 1, 1, none⟩) smx).trans kpx; have f1_1 : w1.frozen? ⟨w.heap.size + 1, 1, none⟩ = false := (hgn.frozen (p := ⟨w.heap.size + 1, 1, none⟩) smx).trans kfx; have c1_2 : w1.cell? ⟨w.heap.size + 1, 2, none⟩ = some (.int .i64 0) := (hgn.cell (p := ⟨w.heap.size + 1, 2, none⟩) smx).trans kpx; have f1_2 : w1.frozen? ⟨w.heap.size + 1, 2, none⟩ = false := (hgn.frozen (p := ⟨w.heap.size + 1, 2, none⟩) smx).trans kfx; have c1_3 : w1.cell? ⟨w.heap.size + 1, 3, none⟩ = some (.slice none 0 0) := (hgn.cell (p := ⟨w.heap.size + 1, 3, none⟩) smx).trans kpx; have f1_3 : w1.frozen? ⟨w.heap.size + 1, 3, none⟩ = false := (hgn.frozen (p := ⟨w.heap.size + 1, 3, none⟩) smx).trans kfx; have s1 : w.heap.size + 1 < w1.heap.size := (by have hss := hgn.size; first | omega | (simp at hss; omega)); simp only [Nat.zero_add]))
  refine bodyPost_ret (v := .agg #[.string nm, .int .i64 v, .int .i64 x, .slice g l.length q]) (by simp [results, Try.results137, go_sem, *]) rfl ⟨g, q, rfl, ?_, ?_⟩
  · exact (by repeat' (first | with_reducible exact HO.out | with_reducible refine Own.set_below ?_ smx _ | with_reducible refine Own.alloc1 ?_ _ | with_reducible refine Own.drew1 ?_ | with_reducible refine Own.drewN1 ?_ | with_reducible refine Own.ext ?_ (by assumption)))
  · exact bxt

set_option maxRecDepth 100000 in
set_option maxHeartbeats 4000000 in
theorem specCopies_any (l : List PBox) (a : Option Addr) (c : Nat) (w : World) (R : Rd w a c 4 l.length (l.flatMap PBox.cells)) (M : RdM w l) (hl : l.length ≤ 2097152) (hlm : ∀ y ∈ l, y.msgs.length ≤ 2097152) :
    Calls Try.prog 82 #[.slice a l.length c] w fun e w' => ∃ (gb q : Nat) (zs : List PBox), e = .returned (.slice (some ⟨gb, 0, none⟩) zs.length q) ∧ OwnBs w' w.heap.size 52 111 (some ⟨gb, 0, none⟩) q zs ∧ zs.map PBox.box = l.map PBox.box ∧ Ext w w' := by
  obtain ⟨i0, hi0, hz0, hz1, hz2⟩ := info_parts info_Box
  have HR := Lib.hid R
  have HM := Lib.hid M
  have HLM := Lib.hid hlm
  clear R M hlm
  go_enter Try.func82, Try.ntmps82
  go_wp2_with fail
  go_loopw [3, 4] (CopyRel 52 111 l w) (fun _ i _ => l.length - (intOf i).toNat)
  case atStart => exact ⟨0, [], w.heap.size, 0, Nat.zero_le _, rfl, rfl, by simp [Hid], OwnBs.nil _ _ _ _ _, (Below.refl _ _).alloc (Nat.le_refl _) _⟩
  case round =>
    obtain ⟨k, zs, gb, q, hk, rfl, rfl, HZ, HO, hb⟩ := hrel
    by_cases hlt : k < l.length
    · obtain ⟨b, o, rfl, hbb, hat⟩ := HR.out.ptr (by omega)
      obtain ⟨x0, x1, x2, x3⟩ := PBox.at (hat.ext hbb hb) k hlt
      have HA := Lib.hid hat
      clear hat
      have hbw : b < wr.heap.size := Nat.lt_of_lt_of_le hbb hb.size
      have hbw1 : b < wr.heap.size + 1 := by omega
      have hzl : zs.length ≤ 2097152 := by (have h := congrArg List.length HZ.out; simp at h; omega)
      have hml : l[k].msgs.length ≤ 2097152 := HLM.out _ (List.getElem_mem hlt)
      have hws : w.heap.size ≤ wr.heap.size := hb.size
      go_wp2_with fail
      refine (specCopyBox_any l[k].name l[k].validity l[k].next l[k].msgs _ _ _ ((HM.out.at k hlt).ext bxt) hml).mono ?_
      rintro e w1 ⟨gz, qz, rfl, hown, hb1⟩
      have hzz : wr.heap.size ≤ w1.heap.size := by (have h9 := hb1.size; first | exact h9 | (simp at h9; omega))
      have HZO : Hid (Own w1 w.heap.size 111 3 (.slice gz l[k].msgs.length qz) l[k].msgs.length (l[k].msgs.flatMap DMsg.cells)) := Lib.hid (hown.le (by first | omega | (simp; omega)))
      have HZ1 : Hid (Off2 (PBox.key (⟨l[k].name, l[k].validity, l[k].next, l[k].msgs, gz, qz⟩ : PBox)) (.slice (some ⟨gb, 0, none⟩) zs.length q)) := Lib.hid ((Off2.of HO.out.row hown (by first | omega | (simp; omega))).symm)
      have HZ2 : Hid (∀ y ∈ zs, Off2 y.key (PBox.key (⟨l[k].name, l[k].validity, l[k].next, l[k].msgs, gz, qz⟩ : PBox))) := Lib.hid (fun y hy => Off2.of (HO.out.msg y hy) hown (by first | omega | (simp; omega)))
      clear hown
      go_wp2_with (at_builtin; refine wpList_appL (B := w.heap.size) (v := .slice (some ⟨gb, 0, none⟩) zs.length q) (n := zs.length) (xs := zs.flatMap PBox.cells) (s := 4) rfl _ _ _ rfl 52 i0 _ _ Try.underlying22 hi0 hz0 hz1 hz2 rfl (by decide) rfl (by repeat' (first | with_reducible exact HO.out.row | with_reducible refine Own.set_below ?_ smx _ | with_reducible refine Own.alloc1 ?_ _ | with_reducible refine Own.drew1 ?_ | with_reducible refine Own.drewN1 ?_ | with_reducible refine Own.ext ?_ (by assumption))) (some ⟨w1.heap.size, 0, none⟩) 1 1 [.string l[k].name, .int .i64 l[k].validity, .int .i64 l[k].next, .slice gz l[k].msgs.length qz] rfl (Rd.lit _ _ _ 1 4 _ (by first | rfl | simp) rfl (by omega)) (by simp [Value.oneCell']) (by omega) (by omega) smx ?_; intro g2 q2 w2 hown hg hw; have hb2 : Below w.heap.size w w2 := below_foot (show Below w.heap.size w _ from bxt) (show Own _ w.heap.size 52 4 (.slice (some ⟨gb, 0, none⟩) zs.length q) zs.length (zs.flatMap PBox.cells) from (by repeat' (first | with_reducible exact HO.out.row | with_reducible refine Own.set_below ?_ smx _ | with_reducible refine Own.alloc1 ?_ _ | with_reducible refine Own.drew1 ?_ | with_reducible refine Own.drewN1 ?_ | with_reducible refine Own.ext ?_ (by assumption)))) (Nat.le_refl _) smx hg; have HP := Lib.hid (OwnBs.push (z := (⟨l[k].name, l[k].validity, l[k].next, l[k].msgs, gz, qz⟩ : PBox)) (HO.out.ext bxt) (HZO.out.alloc1 _) HZ1.out HZ2.out hown hg hw); clear hown hg hw)
      go_roundw
      case rel => exact CopyRel.next (z := (⟨l[k].name, l[k].validity, l[k].next, l[k].msgs, gz, qz⟩ : PBox)) hlt HZ.out rfl HP.out hb2
      case measure => simp [intOf]; omega
    · have hkk : k = l.length := by omega
      have HKK := Lib.hid hkk
      clear hkk
      go_wp2_with fail
      go_ret
      exact ⟨gb, q, zs, rfl, HO.out, (by have h := HZ.out; rw [HKK.out, List.take_length] at h; exact h), hb⟩
end Go.Proofs.Ytpameapajhbdnaa

namespace Go.Proofs.Ytpameapajhbdnaa
open Go.RowKit
set_option linter.unusedVariables false
set_option linter.unusedSimpArgs false
theorem DCommit.one (x : DCommit) : ∀ u ∈ x.cells, u.oneCell' = true := by simp [DCommit.cells, Value.oneCell']

end Go.Proofs.Ytpameapajhbdnaa

namespace Go.Proofs.Ytpameapajhbdnaa
open Go.RowKit
set_option linter.unusedVariables false
set_option linter.unusedSimpArgs false

def foldTo (c : DClient) (l : List DReply) (k : Nat) : DClient := (l.take k).foldl foldReply c
def foldAll (c : DClient) (l : List DReply) : DClient := foldTo c l l.length
theorem foldTo_succ (c : DClient) (l : List DReply) (k : Nat) (hk : k < l.length) : foldTo c l (k + 1) = foldReply (foldTo c l k) l[k] := by
  unfold foldTo
  rw [List.take_succ_eq_append_getElem hk, List.foldl_append]; rfl
theorem foldTo_len (c : DClient) (l : List DReply) : ∀ k, (foldTo c l k).known.length ≤ c.known.length + min k l.length
  | 0 => by simp [foldTo]
  | k + 1 => by
    by_cases hk : k < l.length
    · have h1 := foldReply_len (foldTo c l k) l[k]
      have h2 := foldTo_len c l k
      rw [foldTo_succ c l k hk]; omega
    · have h2 := foldTo_len c l k
      have : foldTo c l (k + 1) = foldTo c l k := by unfold foldTo; rw [List.take_of_length_le (by omega), List.take_of_length_le (by omega)]
      rw [this]; omega

theorem implFold_c (c : DClient) (A : Option Addr) (C : Nat) (r : DReply) (w : World) (R : Rd w A C 2 c.known.length (c.known.flatMap DSeen.cells)) (hl : c.known.length ≤ 2097152) :
    Calls Try.prog 109 #[.agg #[.bool c.active, .string c.name, .int .i64 c.validity, .int .i64 c.size, .slice A c.known.length C, .bool c.bad], .agg #[.int .i64 r.kind, .int .i64 r.n, .int .i64 r.uid, .int .i64 r.flags, .string r.name, .string r.text]] w (FoldPost 129 (foldReply c r) w) := by
  obtain ⟨x1, x2, x3, x4, x5, x6⟩ := c
  obtain ⟨r1, r2, r3, r4, r5, r6⟩ := r
  exact implFold_all x1 x2 x3 x4 x5 A C x6 r1 r2 r3 r4 r5 r6 w R hl
theorem specFold_c (c : DClient) (A : Option Addr) (C : Nat) (r : DReply) (w : World) (R : Rd w A C 2 c.known.length (c.known.flatMap DSeen.cells)) (hl : c.known.length ≤ 2097152) :
    Calls Try.prog 111 #[.agg #[.bool c.active, .string c.name, .int .i64 c.validity, .int .i64 c.size, .slice A c.known.length C, .bool c.bad], .agg #[.int .i64 r.kind, .int .i64 r.n, .int .i64 r.uid, .int .i64 r.flags, .string r.name, .string r.text]] w (FoldPost 129 (foldReply c r) w) := by
  obtain ⟨x1, x2, x3, x4, x5, x6⟩ := c
  obtain ⟨r1, r2, r3, r4, r5, r6⟩ := r
  exact specFold_all x1 x2 x3 x4 x5 A C x6 r1 r2 r3 r4 r5 r6 w R hl


/-- the loop: behind k rounds the box β holds the state behind k replies -/
def FoldRel (E n β : Nat) (f : Nat → DClient) (W : World) (i : Value) (wr : World) : Prop :=
  ∃ (k : Nat) (d : DClient) (g : Option Addr) (q : Nat), k ≤ n ∧ i = .int .i64 k ∧ Hid (f k = d) ∧ Hid (Own wr (W.heap.size + 2) E 2 (.slice g d.known.length q) d.known.length (d.known.flatMap DSeen.cells)) ∧ Hid (FOff β (.slice g d.known.length q)) ∧
    Hid (At wr β 0 [.bool d.active, .string d.name, .int .i64 d.validity, .int .i64 d.size, .slice g d.known.length q, .bool d.bad]) ∧
    Hid (At wr (W.heap.size + 1) 0 [.bool false, .string ⟨#[]⟩, .int .i64 0, .int .i64 0, .slice none 0 0, .bool false]) ∧
    Hid (∀ o, o < 6 → wr.frozen? ⟨β, o, none⟩ = false ∧ wr.frozen? ⟨W.heap.size + 1, o, none⟩ = false) ∧ Below W.heap.size W wr ∧ β < wr.heap.size ∧ W.heap.size + 2 ≤ β
theorem fz6 {P : Nat → Prop} (h0 : P 0) (h1 : P 1) (h2 : P 2) (h3 : P 3) (h4 : P 4) (h5 : P 5) : ∀ o, o < 6 → P o := fun o ho => by
  obtain rfl | rfl | rfl | rfl | rfl | rfl : o = 0 ∨ o = 1 ∨ o = 2 ∨ o = 3 ∨ o = 4 ∨ o = 5 := by omega
  all_goals assumption

set_option maxRecDepth 100000 in
set_option maxHeartbeats 8000000 in
theorem implFoldAll_c (c : DClient) (A : Option Addr) (C : Nat) (l : List DReply) (la : Option Addr) (lc : Nat) (w : World) (R : Rd w A C 2 c.known.length (c.known.flatMap DSeen.cells)) (RL : Rd w la lc 6 l.length (l.flatMap DReply.cells)) (hl : c.known.length ≤ 1048576) (hll : l.length ≤ 1048576) :
    Calls Try.prog 43 #[.agg #[.bool c.active, .string c.name, .int .i64 c.validity, .int .i64 c.size, .slice A c.known.length C, .bool c.bad], .slice la l.length lc] w (FoldPost 129 (foldAll c l) w) := by
  have HR := Lib.hid R
  have HL := Lib.hid RL
  have HN := Lib.hid (foldTo_len c l)
  clear R RL
  go_enter Try.func43, Try.ntmps43
  go_wp2_with ((go_at_call 108; refine (cloneSeenS_any c.known _ _ _ (HR.out.ext bxt) (by omega)).mono ?_; rintro e w1 ⟨g, q, rfl, hown, hb1⟩; have HO := Lib.hid (hown.le (by first | (simp; done) | (simp; omega) | omega : w.heap.size + 3 ≤ _)); clear hown; have c0_0 : w1.cell? ⟨w.heap.size + 1, 0, none⟩ = some (.bool false) := (hb1.cell (p := ⟨w.heap.size + 1, 0, none⟩) smx).trans kpx; have f0_0 : w1.frozen? ⟨w.heap.size + 1, 0, none⟩ = false := (hb1.frozen (p := ⟨w.heap.size + 1, 0, none⟩) smx).trans kfx; have c0_1 : w1.cell? ⟨w.heap.size + 1, 1, none⟩ = some (.string ⟨#[]⟩) := (hb1.cell (p := ⟨w.heap.size + 1, 1, none⟩) smx).trans kpx; have f0_1 : w1.frozen? ⟨w.heap.size + 1, 1, none⟩ = false := (hb1.frozen (p := ⟨w.heap.size + 1, 1, none⟩) smx).trans kfx; have c0_2 : w1.cell? ⟨w.heap.size + 1, 2, none⟩ = some (.int .i64 0) := (hb1.cell (p := ⟨w.heap.size + 1, 2, none⟩) smx).trans kpx; have f0_2 : w1.frozen? ⟨w.heap.size + 1, 2, none⟩ = false := (hb1.frozen (p := ⟨w.heap.size + 1, 2, none⟩) smx).trans kfx; have c0_3 : w1.cell? ⟨w.heap.size + 1, 3, none⟩ = some (.int .i64 0) := (hb1.cell (p := ⟨w.heap.size + 1, 3, none⟩) smx).trans kpx; have f0_3 : w1.frozen? ⟨w.heap.size + 1, 3, none⟩ = false := (hb1.frozen (p := ⟨w.heap.size + 1, 3, none⟩) smx).trans kfx; have c0_4 : w1.cell? ⟨w.heap.size + 1, 4, none⟩ = some (.slice none 0 0) := (hb1.cell (p := ⟨w.heap.size + 1, 4, none⟩) smx).trans kpx; have f0_4 : w1.frozen? ⟨w.heap.size + 1, 4, none⟩ = false := (hb1.frozen (p := ⟨w.heap.size + 1, 4, none⟩) smx).trans kfx; have c0_5 : w1.cell? ⟨w.heap.size + 1, 5, none⟩ = some (.bool false) := (hb1.cell (p := ⟨w.heap.size + 1, 5, none⟩) smx).trans kpx; have f0_5 : w1.frozen? ⟨w.heap.size + 1, 5, none⟩ = false := (hb1.frozen (p := ⟨w.heap.size + 1, 5, none⟩) smx).trans kfx; have s0 : w.heap.size + 1 < w1.heap.size := (by have hss := hb1.size; first | omega | (simp at hss; omega)); have c1_0 : w1.cell? ⟨w.heap.size + 2, 0, none⟩ = some (.bool c.active) := (hb1.cell (p := ⟨w.heap.size + 2, 0, none⟩) smx).trans kpx; have f1_0 : w1.frozen? ⟨w.heap.size + 2, 0, none⟩ = false := (hb1.frozen (p := ⟨w.heap.size + 2, 0, none⟩) smx).trans kfx; have c1_1 : w1.cell? ⟨w.heap.size + 2, 1, none⟩ = some (.string c.name) := (hb1.cell (p := ⟨w.heap.size + 2, 1, none⟩) smx).trans kpx; have f1_1 : w1.frozen? ⟨w.heap.size + 2, 1, none⟩ = false := (hb1.frozen (p := ⟨w.heap.size + 2, 1, none⟩) smx).trans kfx; have c1_2 : w1.cell? ⟨w.heap.size + 2, 2, none⟩ = some (.int .i64 c.validity) := (hb1.cell (p := ⟨w.heap.size + 2, 2, none⟩) smx).trans kpx; have f1_2 : w1.frozen? ⟨w.heap.size + 2, 2, none⟩ = false := (hb1.frozen (p := ⟨w.heap.size + 2, 2, none⟩) smx).trans kfx; have c1_3 : w1.cell? ⟨w.heap.size + 2, 3, none⟩ = some (.int .i64 c.size) := (hb1.cell (p := ⟨w.heap.size + 2, 3, none⟩) smx).trans kpx; have f1_3 : w1.frozen? ⟨w.heap.size + 2, 3, none⟩ = false := (hb1.frozen (p := ⟨w.heap.size + 2, 3, none⟩) smx).trans kfx; have c1_4 : w1.cell? ⟨w.heap.size + 2, 4, none⟩ = some (.slice A c.known.length C) := (hb1.cell (p := ⟨w.heap.size + 2, 4, none⟩) smx).trans kpx; have f1_4 : w1.frozen? ⟨w.heap.size + 2, 4, none⟩ = false := (hb1.frozen (p := ⟨w.heap.size + 2, 4, none⟩) smx).trans kfx; have c1_5 : w1.cell? ⟨w.heap.size + 2, 5, none⟩ = some (.bool c.bad) := (hb1.cell (p := ⟨w.heap.size + 2, 5, none⟩) smx).trans kpx; have f1_5 : w1.frozen? ⟨w.heap.size + 2, 5, none⟩ = false := (hb1.frozen (p := ⟨w.heap.size + 2, 5, none⟩) smx).trans kfx; have s1 : w.heap.size + 2 < w1.heap.size := (by have hss := hb1.size; first | omega | (simp at hss; omega))))
  go_loopw [15] (FoldRel 129 l.length (w.heap.size + 2) (foldTo c l) w) (fun i _ => l.length - (intOf i).toNat)
  case atStart =>
    refine ⟨0, c, g, q, Nat.zero_le _, rfl, Lib.hid rfl, Lib.hid (Own.le (B := w.heap.size + 3) (by repeat' (first | with_reducible exact HO.out | with_reducible refine Own.set_below ?_ smx _ | with_reducible refine Own.alloc1 ?_ _ | with_reducible refine Own.drew1 ?_ | with_reducible refine Own.drewN1 ?_ | with_reducible refine Own.ext ?_ (by assumption))) (by omega)), Lib.hid (HO.out.ne_lt (by omega)), Lib.hid (at_cons (by first | assumption | (simp [go_sem, *]; done)) (at_cons (by first | assumption | (simp [go_sem, *]; done)) (at_cons (by first | assumption | (simp [go_sem, *]; done)) (at_cons (by first | assumption | (simp [go_sem, *]; done)) (at_cons (by first | assumption | (simp [go_sem, *]; done)) (at_cons (by first | assumption | (simp [go_sem, *]; done)) at_nil)))))), Lib.hid (at_cons (by first | assumption | (simp [go_sem, *]; done)) (at_cons (by first | assumption | (simp [go_sem, *]; done)) (at_cons (by first | assumption | (simp [go_sem, *]; done)) (at_cons (by first | assumption | (simp [go_sem, *]; done)) (at_cons (by first | assumption | (simp [go_sem, *]; done)) (at_cons (by first | assumption | (simp [go_sem, *]; done)) at_nil)))))), Lib.hid (fz6 (by simp [go_sem, *]) (by simp [go_sem, *]) (by simp [go_sem, *]) (by simp [go_sem, *]) (by simp [go_sem, *]) (by simp [go_sem, *])), bxt, smx, by omega⟩
  case round =>
    obtain ⟨k, d, g2, q2, hk, rfl, HD, HO2, HF2, HA, HZ, HFZ, hbe, hsz, hsz2⟩ := hrel
    have d0 : wr.cell? ⟨w.heap.size + 2, 0, none⟩ = some (.bool d.active) := HA.out 0 _ rfl
    have e0 := (HFZ.out 0 (by omega)).1
    have d1 : wr.cell? ⟨w.heap.size + 2, 1, none⟩ = some (.string d.name) := HA.out 1 _ rfl
    have e1 := (HFZ.out 1 (by omega)).1
    have d2 : wr.cell? ⟨w.heap.size + 2, 2, none⟩ = some (.int .i64 d.validity) := HA.out 2 _ rfl
    have e2 := (HFZ.out 2 (by omega)).1
    have d3 : wr.cell? ⟨w.heap.size + 2, 3, none⟩ = some (.int .i64 d.size) := HA.out 3 _ rfl
    have e3 := (HFZ.out 3 (by omega)).1
    have d4 : wr.cell? ⟨w.heap.size + 2, 4, none⟩ = some (.slice g2 d.known.length q2) := HA.out 4 _ rfl
    have e4 := (HFZ.out 4 (by omega)).1
    have d5 : wr.cell? ⟨w.heap.size + 2, 5, none⟩ = some (.bool d.bad) := HA.out 5 _ rfl
    have e5 := (HFZ.out 5 (by omega)).1
    have hss0 : w.heap.size < wr.heap.size := by omega
    have hss1 : w.heap.size + 1 < wr.heap.size := by omega
    by_cases hlt : k < l.length
    · obtain ⟨b, ofs, rfl, hbb, hat⟩ := HL.out.ptr (by omega)
      have hbw : b < wr.heap.size := by (have := hbe.size; omega)
      obtain ⟨x0, x1, x2, x3, x4, x5⟩ := DReply.at (hat.ext hbb hbe) k hlt
      have HAT := Lib.hid hat
      clear hat
      have hdl : d.known.length ≤ 2097152 := by (have h1 := HN.out k; rw [HD.out] at h1; omega)
      go_wp2_with ((go_at_call 109; refine (implFold_c d g2 q2 l[k] _ ((Rd.of_Own HO2.out).ext bxt) hdl).mono ?_; rintro e w2 ⟨g3, q3, rfl, hown, hb2⟩; have hbn : Ext wr w2 := bxt; have HF3 := Lib.hid (FOff.lt (b := w.heap.size + 2) hown (by first | omega | (simp; omega))); have HO3 := Lib.hid (hown.le (B' := w.heap.size + 2) (by first | omega | (simp; omega))); clear hown; have cn0_0 : w2.cell? ⟨w.heap.size + 2, 0, none⟩ = some (.bool d.active) := (hb2.cell (p := ⟨w.heap.size + 2, 0, none⟩) smx).trans kpx; have fn0_0 : w2.frozen? ⟨w.heap.size + 2, 0, none⟩ = false := (hb2.frozen (p := ⟨w.heap.size + 2, 0, none⟩) smx).trans kfx; have cn0_1 : w2.cell? ⟨w.heap.size + 2, 1, none⟩ = some (.string d.name) := (hb2.cell (p := ⟨w.heap.size + 2, 1, none⟩) smx).trans kpx; have fn0_1 : w2.frozen? ⟨w.heap.size + 2, 1, none⟩ = false := (hb2.frozen (p := ⟨w.heap.size + 2, 1, none⟩) smx).trans kfx; have cn0_2 : w2.cell? ⟨w.heap.size + 2, 2, none⟩ = some (.int .i64 d.validity) := (hb2.cell (p := ⟨w.heap.size + 2, 2, none⟩) smx).trans kpx; have fn0_2 : w2.frozen? ⟨w.heap.size + 2, 2, none⟩ = false := (hb2.frozen (p := ⟨w.heap.size + 2, 2, none⟩) smx).trans kfx; have cn0_3 : w2.cell? ⟨w.heap.size + 2, 3, none⟩ = some (.int .i64 d.size) := (hb2.cell (p := ⟨w.heap.size + 2, 3, none⟩) smx).trans kpx; have fn0_3 : w2.frozen? ⟨w.heap.size + 2, 3, none⟩ = false := (hb2.frozen (p := ⟨w.heap.size + 2, 3, none⟩) smx).trans kfx; have cn0_4 : w2.cell? ⟨w.heap.size + 2, 4, none⟩ = some (.slice g2 d.known.length q2) := (hb2.cell (p := ⟨w.heap.size + 2, 4, none⟩) smx).trans kpx; have fn0_4 : w2.frozen? ⟨w.heap.size + 2, 4, none⟩ = false := (hb2.frozen (p := ⟨w.heap.size + 2, 4, none⟩) smx).trans kfx; have cn0_5 : w2.cell? ⟨w.heap.size + 2, 5, none⟩ = some (.bool d.bad) := (hb2.cell (p := ⟨w.heap.size + 2, 5, none⟩) smx).trans kpx; have fn0_5 : w2.frozen? ⟨w.heap.size + 2, 5, none⟩ = false := (hb2.frozen (p := ⟨w.heap.size + 2, 5, none⟩) smx).trans kfx; have sn0 : w.heap.size + 2 < w2.heap.size := (by have hss := hb2.size; first | omega | (simp at hss; omega))))
      all_goals
        go_roundw
        case rel =>
          have A1 : At w2 (w.heap.size + 2) 0 [.bool d.active, .string d.name, .int .i64 d.validity, .int .i64 d.size, .slice g2 d.known.length q2, .bool d.bad] := HA.out.ext (by omega) hbn
          have A2 : At w2 (w.heap.size + 1) 0 [.bool false, .string ⟨#[]⟩, .int .i64 0, .int .i64 0, .slice none 0 0, .bool false] := HZ.out.ext (by omega) hbn
          have hne : w.heap.size + 2 ≠ w.heap.size + 1 := by omega
          change FoldRel 129 l.length (w.heap.size + 2) (foldTo c l) w _ (putW w2 (w.heap.size + 2) 0 [.bool (foldReply d l[k]).active, .string (foldReply d l[k]).name, .int .i64 (foldReply d l[k]).validity, .int .i64 (foldReply d l[k]).size, .slice g3 (foldReply d l[k]).known.length q3, .bool (foldReply d l[k]).bad])
          exact ⟨k + 1, foldReply d l[k], g3, q3, by omega, by go_num, Lib.hid (by rw [foldTo_succ c l k hlt, HD.out]), Lib.hid (Own.putW_off HF3.out _ _ _ HO3.out), Lib.hid HF3.out, Lib.hid (putW_at _ w2 0 A1.some), Lib.hid (putW_at_ne A2 hne), Lib.hid (fun o ho => ⟨putW_frz _ _ _ (((bcell hbn).2 _ _ (by omega)).trans (HFZ.out o ho).1), putW_frz _ _ _ (((bcell hbn).2 _ _ (by omega)).trans (HFZ.out o ho).2)⟩), Below.putW (by omega) _ _ _ (Below.ext hbe hbn), by (rw [putW_size]; have := hbn.size; omega), hsz2⟩
        case measure => simp [intOf]; omega
    · have hkk : k = l.length := by omega
      have HKK := Lib.hid hkk
      clear hkk
      have z0 : wr.cell? ⟨w.heap.size + 1, 0, none⟩ = some (.bool false) := HZ.out 0 _ rfl
      have y0 := (HFZ.out 0 (by omega)).2
      have z1 : wr.cell? ⟨w.heap.size + 1, 1, none⟩ = some (.string ⟨#[]⟩) := HZ.out 1 _ rfl
      have y1 := (HFZ.out 1 (by omega)).2
      have z2 : wr.cell? ⟨w.heap.size + 1, 2, none⟩ = some (.int .i64 0) := HZ.out 2 _ rfl
      have y2 := (HFZ.out 2 (by omega)).2
      have z3 : wr.cell? ⟨w.heap.size + 1, 3, none⟩ = some (.int .i64 0) := HZ.out 3 _ rfl
      have y3 := (HFZ.out 3 (by omega)).2
      have z4 : wr.cell? ⟨w.heap.size + 1, 4, none⟩ = some (.slice none 0 0) := HZ.out 4 _ rfl
      have y4 := (HFZ.out 4 (by omega)).2
      have z5 : wr.cell? ⟨w.heap.size + 1, 5, none⟩ = some (.bool false) := HZ.out 5 _ rfl
      have y5 := (HFZ.out 5 (by omega)).2
      go_wp2_with fail
      have hfin : foldAll c l = d := by (unfold foldAll; rw [← HKK.out]; exact HD.out)
      rw [hfin]
      unfold FoldPost
      refine bodyPost_ret (v := .agg #[.bool d.active, .string d.name, .int .i64 d.validity, .int .i64 d.size, .slice g2 d.known.length q2, .bool d.bad]) (by simp [results, Try.results43, go_sem, *]) rfl ⟨_, _, rfl, ?_, ?_⟩
      · refine Own.le (B := w.heap.size + 2) ?_ (by omega)
        exact (by repeat' (first | with_reducible exact HO2.out | with_reducible refine Own.set_below ?_ smx _ | with_reducible refine Own.alloc1 ?_ _ | with_reducible refine Own.drew1 ?_ | with_reducible refine Own.drewN1 ?_ | with_reducible refine Own.ext ?_ (by assumption)))
      · exact bxt

set_option maxRecDepth 100000 in
set_option maxHeartbeats 8000000 in
theorem specFoldAll_c (c : DClient) (A : Option Addr) (C : Nat) (l : List DReply) (la : Option Addr) (lc : Nat) (w : World) (R : Rd w A C 2 c.known.length (c.known.flatMap DSeen.cells)) (RL : Rd w la lc 6 l.length (l.flatMap DReply.cells)) (hl : c.known.length ≤ 1048576) (hll : l.length ≤ 1048576) :
    Calls Try.prog 45 #[.agg #[.bool c.active, .string c.name, .int .i64 c.validity, .int .i64 c.size, .slice A c.known.length C, .bool c.bad], .slice la l.length lc] w (FoldPost 129 (foldAll c l) w) := by
  have HR := Lib.hid R
  have HL := Lib.hid RL
  have HN := Lib.hid (foldTo_len c l)
  clear R RL
  go_enter Try.func45, Try.ntmps45
  go_wp2_with ((go_at_call 110; refine (l15Copy_any c.active c.name c.validity c.size c.known _ _ c.bad _ (HR.out.ext bxt) (by omega)).mono ?_; rintro e w1 ⟨g, q, rfl, hown, hb1⟩; have HO := Lib.hid (hown.le (by first | (simp; done) | (simp; omega) | omega : w.heap.size + 2 ≤ _)); clear hown; have c0_0 : w1.cell? ⟨w.heap.size + 1, 0, none⟩ = some (.bool false) := (hb1.cell (p := ⟨w.heap.size + 1, 0, none⟩) smx).trans kpx; have f0_0 : w1.frozen? ⟨w.heap.size + 1, 0, none⟩ = false := (hb1.frozen (p := ⟨w.heap.size + 1, 0, none⟩) smx).trans kfx; have c0_1 : w1.cell? ⟨w.heap.size + 1, 1, none⟩ = some (.string ⟨#[]⟩) := (hb1.cell (p := ⟨w.heap.size + 1, 1, none⟩) smx).trans kpx; have f0_1 : w1.frozen? ⟨w.heap.size + 1, 1, none⟩ = false := (hb1.frozen (p := ⟨w.heap.size + 1, 1, none⟩) smx).trans kfx; have c0_2 : w1.cell? ⟨w.heap.size + 1, 2, none⟩ = some (.int .i64 0) := (hb1.cell (p := ⟨w.heap.size + 1, 2, none⟩) smx).trans kpx; have f0_2 : w1.frozen? ⟨w.heap.size + 1, 2, none⟩ = false := (hb1.frozen (p := ⟨w.heap.size + 1, 2, none⟩) smx).trans kfx; have c0_3 : w1.cell? ⟨w.heap.size + 1, 3, none⟩ = some (.int .i64 0) := (hb1.cell (p := ⟨w.heap.size + 1, 3, none⟩) smx).trans kpx; have f0_3 : w1.frozen? ⟨w.heap.size + 1, 3, none⟩ = false := (hb1.frozen (p := ⟨w.heap.size + 1, 3, none⟩) smx).trans kfx; have c0_4 : w1.cell? ⟨w.heap.size + 1, 4, none⟩ = some (.slice none 0 0) := (hb1.cell (p := ⟨w.heap.size + 1, 4, none⟩) smx).trans kpx; have f0_4 : w1.frozen? ⟨w.heap.size + 1, 4, none⟩ = false := (hb1.frozen (p := ⟨w.heap.size + 1, 4, none⟩) smx).trans kfx; have c0_5 : w1.cell? ⟨w.heap.size + 1, 5, none⟩ = some (.bool false) := (hb1.cell (p := ⟨w.heap.size + 1, 5, none⟩) smx).trans kpx; have f0_5 : w1.frozen? ⟨w.heap.size + 1, 5, none⟩ = false := (hb1.frozen (p := ⟨w.heap.size + 1, 5, none⟩) smx).trans kfx; have s0 : w.heap.size + 1 < w1.heap.size := (by have hss := hb1.size; first | omega | (simp at hss; omega))))
  go_loopw [6] (FoldRel 129 l.length w1.heap.size (foldTo c l) w) (fun i _ => l.length - (intOf i).toNat)
  case atStart =>
    refine ⟨0, c, g, q, Nat.zero_le _, rfl, Lib.hid rfl, Lib.hid ((by repeat' (first | with_reducible exact HO.out | with_reducible refine Own.set_below ?_ smx _ | with_reducible refine Own.set_off ?_ (by with_reducible exact HO.out.ne_ge (Nat.le_refl _)) _ | with_reducible refine Own.alloc1 ?_ _ | with_reducible refine Own.drew1 ?_ | with_reducible refine Own.drewN1 ?_ | with_reducible refine Own.ext ?_ (by assumption)))), Lib.hid (HO.out.ne_ge (Nat.le_refl _)), Lib.hid (at_cons (by first | assumption | (simp [go_sem, *]; done)) (at_cons (by first | assumption | (simp [go_sem, *]; done)) (at_cons (by first | assumption | (simp [go_sem, *]; done)) (at_cons (by first | assumption | (simp [go_sem, *]; done)) (at_cons (by first | assumption | (simp [go_sem, *]; done)) (at_cons (by first | assumption | (simp [go_sem, *]; done)) at_nil)))))), Lib.hid (at_cons (by first | assumption | (simp [go_sem, *]; done)) (at_cons (by first | assumption | (simp [go_sem, *]; done)) (at_cons (by first | assumption | (simp [go_sem, *]; done)) (at_cons (by first | assumption | (simp [go_sem, *]; done)) (at_cons (by first | assumption | (simp [go_sem, *]; done)) (at_cons (by first | assumption | (simp [go_sem, *]; done)) at_nil)))))), Lib.hid (fz6 (by simp [go_sem, *]) (by simp [go_sem, *]) (by simp [go_sem, *]) (by simp [go_sem, *]) (by simp [go_sem, *]) (by simp [go_sem, *])), bxt, smx, by omega⟩
  case round =>
    obtain ⟨k, d, g2, q2, hk, rfl, HD, HO2, HF2, HA, HZ, HFZ, hbe, hsz, hsz2⟩ := hrel
    have d0 : wr.cell? ⟨w1.heap.size, 0, none⟩ = some (.bool d.active) := HA.out 0 _ rfl
    have e0 := (HFZ.out 0 (by omega)).1
    have d1 : wr.cell? ⟨w1.heap.size, 1, none⟩ = some (.string d.name) := HA.out 1 _ rfl
    have e1 := (HFZ.out 1 (by omega)).1
    have d2 : wr.cell? ⟨w1.heap.size, 2, none⟩ = some (.int .i64 d.validity) := HA.out 2 _ rfl
    have e2 := (HFZ.out 2 (by omega)).1
    have d3 : wr.cell? ⟨w1.heap.size, 3, none⟩ = some (.int .i64 d.size) := HA.out 3 _ rfl
    have e3 := (HFZ.out 3 (by omega)).1
    have d4 : wr.cell? ⟨w1.heap.size, 4, none⟩ = some (.slice g2 d.known.length q2) := HA.out 4 _ rfl
    have e4 := (HFZ.out 4 (by omega)).1
    have d5 : wr.cell? ⟨w1.heap.size, 5, none⟩ = some (.bool d.bad) := HA.out 5 _ rfl
    have e5 := (HFZ.out 5 (by omega)).1
    have hss0 : w.heap.size < wr.heap.size := by omega
    have hss1 : w.heap.size + 1 < wr.heap.size := by omega
    by_cases hlt : k < l.length
    · obtain ⟨b, ofs, rfl, hbb, hat⟩ := HL.out.ptr (by omega)
      have hbw : b < wr.heap.size := by (have := hbe.size; omega)
      obtain ⟨x0, x1, x2, x3, x4, x5⟩ := DReply.at (hat.ext hbb hbe) k hlt
      have HAT := Lib.hid hat
      clear hat
      have hdl : d.known.length ≤ 2097152 := by (have h1 := HN.out k; rw [HD.out] at h1; omega)
      go_wp2_with fail
      first
        | go_region_law (first | (go_simp; go_at_call 111; refine (specFold_c d g2 q2 l[k] _ ((Rd.of_Own HO2.out).ext bxt) hdl).mono ?_; rintro e w2 ⟨g3, q3, rfl, hown, hb2⟩; have hbn : Ext wr w2 := bxt; have HF3 := Lib.hid (FOff.lt (b := w1.heap.size) hown (by first | omega | (simp; omega))); have HO3 := Lib.hid (hown.le (B' := w.heap.size + 2) (by first | omega | (simp; omega))); clear hown; have cn0_0 : w2.cell? ⟨w1.heap.size, 0, none⟩ = some (.bool d.active) := (hb2.cell (p := ⟨w1.heap.size, 0, none⟩) smx).trans kpx; have fn0_0 : w2.frozen? ⟨w1.heap.size, 0, none⟩ = false := (hb2.frozen (p := ⟨w1.heap.size, 0, none⟩) smx).trans kfx; have cn0_1 : w2.cell? ⟨w1.heap.size, 1, none⟩ = some (.string d.name) := (hb2.cell (p := ⟨w1.heap.size, 1, none⟩) smx).trans kpx; have fn0_1 : w2.frozen? ⟨w1.heap.size, 1, none⟩ = false := (hb2.frozen (p := ⟨w1.heap.size, 1, none⟩) smx).trans kfx; have cn0_2 : w2.cell? ⟨w1.heap.size, 2, none⟩ = some (.int .i64 d.validity) := (hb2.cell (p := ⟨w1.heap.size, 2, none⟩) smx).trans kpx; have fn0_2 : w2.frozen? ⟨w1.heap.size, 2, none⟩ = false := (hb2.frozen (p := ⟨w1.heap.size, 2, none⟩) smx).trans kfx; have cn0_3 : w2.cell? ⟨w1.heap.size, 3, none⟩ = some (.int .i64 d.size) := (hb2.cell (p := ⟨w1.heap.size, 3, none⟩) smx).trans kpx; have fn0_3 : w2.frozen? ⟨w1.heap.size, 3, none⟩ = false := (hb2.frozen (p := ⟨w1.heap.size, 3, none⟩) smx).trans kfx; have cn0_4 : w2.cell? ⟨w1.heap.size, 4, none⟩ = some (.slice g2 d.known.length q2) := (hb2.cell (p := ⟨w1.heap.size, 4, none⟩) smx).trans kpx; have fn0_4 : w2.frozen? ⟨w1.heap.size, 4, none⟩ = false := (hb2.frozen (p := ⟨w1.heap.size, 4, none⟩) smx).trans kfx; have cn0_5 : w2.cell? ⟨w1.heap.size, 5, none⟩ = some (.bool d.bad) := (hb2.cell (p := ⟨w1.heap.size, 5, none⟩) smx).trans kpx; have fn0_5 : w2.frozen? ⟨w1.heap.size, 5, none⟩ = false := (hb2.frozen (p := ⟨w1.heap.size, 5, none⟩) smx).trans kfx; have sn0 : w1.heap.size < w2.heap.size := (by have hss := hb2.size; first | omega | (simp at hss; omega))))
        | fail
      all_goals go_wp2_with fail
      all_goals
        go_roundw
        case rel =>
          have A1 : At w2 (w1.heap.size) 0 [.bool d.active, .string d.name, .int .i64 d.validity, .int .i64 d.size, .slice g2 d.known.length q2, .bool d.bad] := HA.out.ext (by omega) hbn
          have A2 : At w2 (w.heap.size + 1) 0 [.bool false, .string ⟨#[]⟩, .int .i64 0, .int .i64 0, .slice none 0 0, .bool false] := HZ.out.ext (by omega) hbn
          have hne : w1.heap.size ≠ w.heap.size + 1 := by omega
          change FoldRel 129 l.length (w1.heap.size) (foldTo c l) w _ (putW w2 (w1.heap.size) 0 [.bool (foldReply d l[k]).active, .string (foldReply d l[k]).name, .int .i64 (foldReply d l[k]).validity, .int .i64 (foldReply d l[k]).size, .slice g3 (foldReply d l[k]).known.length q3, .bool (foldReply d l[k]).bad])
          exact ⟨k + 1, foldReply d l[k], g3, q3, by omega, by go_num, Lib.hid (by rw [foldTo_succ c l k hlt, HD.out]), Lib.hid (Own.putW_off HF3.out _ _ _ HO3.out), Lib.hid HF3.out, Lib.hid (putW_at _ w2 0 A1.some), Lib.hid (putW_at_ne A2 hne), Lib.hid (fun o ho => ⟨putW_frz _ _ _ (((bcell hbn).2 _ _ (by omega)).trans (HFZ.out o ho).1), putW_frz _ _ _ (((bcell hbn).2 _ _ (by omega)).trans (HFZ.out o ho).2)⟩), Below.putW (by omega) _ _ _ (Below.ext hbe hbn), by (rw [putW_size]; have := hbn.size; omega), hsz2⟩
        case measure => simp [intOf]; omega
    · have hkk : k = l.length := by omega
      have HKK := Lib.hid hkk
      clear hkk
      have z0 : wr.cell? ⟨w.heap.size + 1, 0, none⟩ = some (.bool false) := HZ.out 0 _ rfl
      have y0 := (HFZ.out 0 (by omega)).2
      have z1 : wr.cell? ⟨w.heap.size + 1, 1, none⟩ = some (.string ⟨#[]⟩) := HZ.out 1 _ rfl
      have y1 := (HFZ.out 1 (by omega)).2
      have z2 : wr.cell? ⟨w.heap.size + 1, 2, none⟩ = some (.int .i64 0) := HZ.out 2 _ rfl
      have y2 := (HFZ.out 2 (by omega)).2
      have z3 : wr.cell? ⟨w.heap.size + 1, 3, none⟩ = some (.int .i64 0) := HZ.out 3 _ rfl
      have y3 := (HFZ.out 3 (by omega)).2
      have z4 : wr.cell? ⟨w.heap.size + 1, 4, none⟩ = some (.slice none 0 0) := HZ.out 4 _ rfl
      have y4 := (HFZ.out 4 (by omega)).2
      have z5 : wr.cell? ⟨w.heap.size + 1, 5, none⟩ = some (.bool false) := HZ.out 5 _ rfl
      have y5 := (HFZ.out 5 (by omega)).2
      go_wp2_with fail
      have hfin : foldAll c l = d := by (unfold foldAll; rw [← HKK.out]; exact HD.out)
      rw [hfin]
      unfold FoldPost
      refine bodyPost_ret (v := .agg #[.bool d.active, .string d.name, .int .i64 d.validity, .int .i64 d.size, .slice g2 d.known.length q2, .bool d.bad]) (by simp [results, Try.results45, go_sem, *]) rfl ⟨_, _, rfl, ?_, ?_⟩
      · refine Own.le (B := w.heap.size + 2) ?_ (by omega)
        exact (by repeat' (first | with_reducible exact HO2.out | with_reducible refine Own.set_below ?_ smx _ | with_reducible refine Own.alloc1 ?_ _ | with_reducible refine Own.drew1 ?_ | with_reducible refine Own.drewN1 ?_ | with_reducible refine Own.ext ?_ (by assumption)))
      · exact bxt

end Go.Proofs.Ytpameapajhbdnaa

namespace Go.Proofs.Ytpameapajhbdnaa
open Go.RowKit
set_option linter.unusedVariables false
set_option linter.unusedSimpArgs false

theorem foldAll_eq (c : DClient) (l : List DReply) : foldAll c l = l.foldl foldReply c := by
  unfold foldAll foldTo
  rw [List.take_length]
theorem foldAll_parts (c : DClient) (l : List DReply) (k : Nat) : foldAll (foldAll c (l.take k)) (l.drop k) = foldAll c l := by
  rw [foldAll_eq, foldAll_eq, foldAll_eq, ← List.foldl_append, List.take_append_drop]
theorem foldReply_bad {c : DClient} (r : DReply) (h : c.bad = true) : (foldReply c r).bad = true := by
  unfold foldReply foldFetch
  repeat' split
  all_goals simp [h]
theorem foldAll_bad (l : List DReply) : ∀ (c : DClient), c.bad = true → (foldAll c l).bad = true := by
  induction l with
  | nil => intro c h; rw [foldAll_eq]; exact h
  | cons r l ih =>
    intro c h
    rw [foldAll_eq, List.foldl_cons, ← foldAll_eq]
    exact ih _ (foldReply_bad r h)
end Go.Proofs.Ytpameapajhbdnaa
