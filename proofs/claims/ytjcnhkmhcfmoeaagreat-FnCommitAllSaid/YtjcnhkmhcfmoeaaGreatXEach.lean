/-
  A row of steps on a store, each of which may do one commit (SetFlags, Purge): the plain law.
  eachMsg: a function at each message that is there at that time.
  Flags after an operation; what SetFlags and Purge do at a message.
  A row of steps on a store, the reference's loop: what holds after k rounds.
-/
import Derived.Test.YtjcnhkmhcfmoeaaGreatWOpsP
import Derived.Test.YtjcnhkmhcfmoeaaGreatXOps
import Derived.Test.YtjcnhkmhcfmoeaaGreatCSmall
import Derived.Test.YtjcnhkmhcfmoeaaGreatWCutS
namespace Go.Proofs.YtjcnhkmhcfmoeaaGreat
open Go.RowKit
set_option linter.unusedVariables false
set_option linter.unusedSimpArgs false

/-- what a step does: the message that the number means, if it is there -/
noncomputable def stepM (v : Int) (g : DMsg → Option DCommit) (s : DStore) (u : Int) : Option DCommit :=
  if placeOf u (theD s.boxes (boxWith v s.boxes).toNat).msgs < 0 then none else g (theM (theD s.boxes (boxWith v s.boxes).toNat).msgs (pl u (theD s.boxes (boxWith v s.boxes).toNat).msgs))
open Classical in
/-- the steps in a row: it ends at the first that cannot be done -/
noncomputable def stepsD (v : Int) (g : DMsg → Option DCommit) : DStore → List Int → DStore × Bool
  | s, [] => (s, true)
  | s, u :: us => match stepM v g s u with
    | none => stepsD v g s us
    | some m => if ComP s m then stepsD v g (comD s m) us else (s, false)
/-- what the action answers at a message -/
def ActRel (g : DMsg → Option DCommit) (s : DStore) (m : DMsg) (rs : DStore) (rok : Bool) : Prop :=
  match g m with
  | none => rs = s ∧ rok = true
  | some c => CmtRel s c rs rok
theorem steps_skip {v : Int} {g : DMsg → Option DCommit} {s : DStore} {u : Int} {us : List Int} (h : stepM v g s u = none) : stepsD v g s (u :: us) = stepsD v g s us := by
  rw [stepsD, h]
theorem steps_do {v : Int} {g : DMsg → Option DCommit} {s rs : DStore} {u : Int} {us : List Int} {m : DCommit} (h : stepM v g s u = some m) (hc : CmtRel s m rs true) : stepsD v g s (u :: us) = stepsD v g rs us := by
  rw [stepsD, h]
  show (@ite _ (ComP s m) (Classical.propDecidable _) _ _) = _
  rw [if_pos (hc.1.1 rfl), ← hc.2]
  rfl
theorem steps_no {v : Int} {g : DMsg → Option DCommit} {s rs : DStore} {u : Int} {us : List Int} {m : DCommit} (h : stepM v g s u = some m) (hc : CmtRel s m rs false) : stepsD v g s (u :: us) = (s, false) ∧ rs = s := by
  rw [stepsD, h]
  refine ⟨?_, hc.2.symm⟩
  show (@ite _ (ComP s m) (Classical.propDecidable _) _ _) = _
  exact if_neg (fun hp => by have := hc.1.2 hp; cases this)
theorem drop_cons {α : Type} (l : List α) (k : Nat) (hk : k < l.length) : l.drop k = l[k] :: l.drop (k + 1) := List.drop_eq_getElem_cons hk
/-- a commit that leaves the row of mailboxes, each with its number -/
theorem boxWith_map (v : Int) (l : List DBox) : boxWith v l = firstI (fun y => decide (y = v)) (l.map DBox.validity) := by
  rw [firstI_map]; rfl
theorem boxWith_set (v : Int) (l : List DBox) (i : Nat) (hi : i < l.length) (x : DBox) (hx : x.validity = l[i].validity) : boxWith v (l.set i x) = boxWith v l := by
  rw [boxWith_map, boxWith_map]
  congr 1
  rw [List.map_set, hx]
  refine List.ext_getElem (by simp) fun k h1 h2 => ?_
  rw [List.getElem_set]
  by_cases hk : i = k
  · subst hk; simp
  · rw [if_neg hk]
theorem newD_val (b : DBox) (m : DCommit) : (newD b m).validity = b.validity := by
  unfold newD
  (repeat' split) <;> rfl
theorem boxWith_com {s : DStore} {m : DCommit} (h : ComP s m) (h1 : m.kind ≠ 1) (h2 : m.kind ≠ 2) (h3 : m.kind ≠ 3) (v : Int) : boxWith v (comD s m).boxes = boxWith v s.boxes ∧ (comD s m).boxes.length = s.boxes.length := by
  obtain ⟨⟨-, -, hf⟩, -, -⟩ := h
  obtain ⟨i, hi, hz, -⟩ := hf.2 h1
  have ha : atD s.boxes m = i := by unfold atD; omega
  show boxWith v (appD s.boxes m) = _ ∧ (appD s.boxes m).length = _
  unfold appD
  rw [if_neg h1, if_neg h2, if_neg h3, ha]
  exact ⟨boxWith_set v s.boxes i hi _ (by rw [newD_val, theD_of hi]), by simp⟩
/-- the action's commits change messages alone -/
def MsgAct (g : DMsg → Option DCommit) : Prop := ∀ m c, g m = some c → c.kind ≠ 1 ∧ c.kind ≠ 2 ∧ c.kind ≠ 3 ∧ c.name.size ≤ 9223372036854775807 ∧ c.text.size ≤ 9223372036854775807
theorem act_keep {g : DMsg → Option DCommit} (hg : MsgAct g) {s rs : DStore} {m : DMsg} {rok : Bool} (h : ActRel g s m rs rok) (hs : GoodS s) (v : Int) : GoodS rs ∧ boxWith v rs.boxes = boxWith v s.boxes ∧ rs.boxes.length = s.boxes.length := by
  unfold ActRel at h
  split at h
  · rw [h.1]; exact ⟨hs, rfl, rfl⟩
  · rename_i c hc
    obtain ⟨k1, k2, k3, k4, k5⟩ := hg m c hc
    refine ⟨good_cmt h hs k4 k5, ?_⟩
    obtain ⟨ht, rfl⟩ := h
    cases rok with
    | false => exact ⟨rfl, rfl⟩
    | true => exact boxWith_com (ht.1 rfl) k1 k2 k3 v
theorem stepM_none {v : Int} {g : DMsg → Option DCommit} {s : DStore} {u : Int} {i : Nat} (hi : i < s.boxes.length) (hb : boxWith v s.boxes = i) (hp : placeOf u s.boxes[i].msgs < 0) : stepM v g s u = none := by
  unfold stepM
  rw [hb, Int.toNat_natCast, theD_of hi, if_pos hp]
theorem stepM_some {v : Int} {g : DMsg → Option DCommit} {s : DStore} {u : Int} {i j : Nat} (hi : i < s.boxes.length) (hb : boxWith v s.boxes = i) (hj : j < s.boxes[i].msgs.length) (hp : placeOf u s.boxes[i].msgs = j) : stepM v g s u = g s.boxes[i].msgs[j] := by
  unfold stepM
  rw [hb, Int.toNat_natCast, theD_of hi, if_neg (by omega)]
  unfold pl
  rw [hp, Int.toNat_natCast, theM_of hj]
/-- the action done at a message that is there is the step -/
theorem steps_act {v : Int} {g : DMsg → Option DCommit} {s rs : DStore} {u : Int} {us : List Int} {i j : Nat} (hi : i < s.boxes.length) (hb : boxWith v s.boxes = i) (hj : j < s.boxes[i].msgs.length) (hp : placeOf u s.boxes[i].msgs = j) {rok : Bool} (h : ActRel g s s.boxes[i].msgs[j] rs rok) :
    stepsD v g s (u :: us) = if rok then stepsD v g rs us else (rs, false) := by
  have hm := stepM_some (g := g) hi hb hj hp
  unfold ActRel at h
  cases hgm : g s.boxes[i].msgs[j] with
  | none =>
    rw [hgm] at h
    obtain ⟨rfl, rfl⟩ := h
    rw [if_pos rfl]
    exact steps_skip (by rw [hm, hgm])
  | some c =>
    rw [hgm] at h
    cases rok with
    | true => rw [if_pos rfl]; exact steps_do (by rw [hm, hgm]) h
    | false =>
      obtain ⟨h1, h2⟩ := steps_no (us := us) (by rw [hm, hgm]) h
      rw [h1, h2]; rfl
theorem steps_keep {v : Int} {g : DMsg → Option DCommit} (hg : MsgAct g) : ∀ (us : List Int) (s : DStore), cntD s.boxes ≤ 3145728 → s.log.length ≤ 1048576 → cntD (stepsD v g s us).1.boxes ≤ 3145728 ∧ (stepsD v g s us).1.log.length ≤ 1048576
  | [], s, h1, h2 => ⟨h1, h2⟩
  | u :: us, s, h1, h2 => by
    rw [stepsD]
    split
    · exact steps_keep hg us s h1 h2
    · rename_i m hm
      split
      · rename_i hc
        obtain ⟨h3, h4⟩ := cmtRel_cnt (s := s) (m := m) (rok := true) (rs := comD s m) ⟨⟨fun _ => hc, fun _ => rfl⟩, rfl⟩ h1 h2
        exact steps_keep hg us _ h3 h4
      · exact ⟨h1, h2⟩
/-- the body of an operation that is a row of steps -/
noncomputable def stepsB (v : Int) (g : DMsg → Option DCommit) (s : DStore) (us : List Int) : DStore × Int :=
  if boxWith v s.boxes < 0 then (s, 1) else if (stepsD v g s us).2 = true then ((stepsD v g s us).1, 0) else (s, 2)
theorem stepsB_cnt {v : Int} {g : DMsg → Option DCommit} (hg : MsgAct g) (us : List Int) (s : DStore) (h1 : cntD s.boxes ≤ 3145728) (h2 : s.log.length ≤ 1048576) : cntD (stepsB v g s us).1.boxes ≤ 3145728 ∧ (stepsB v g s us).1.log.length ≤ 1048576 := by
  unfold stepsB
  split
  · exact ⟨h1, h2⟩
  · split
    · exact steps_keep hg us s h1 h2
    · exact ⟨h1, h2⟩
end Go.Proofs.YtjcnhkmhcfmoeaaGreat

namespace Go.Proofs.YtjcnhkmhcfmoeaaGreat
open Go.RowKit
set_option linter.unusedVariables false
set_option linter.unusedSimpArgs false

/-- what a call leaves of a store that was left by calls before -/
theorem StTo.step {S : Nat → Prop} {w wr wx w6 : World} {G B E EM EC q1 lc1 : Nat} {ga1 la1 : Option Addr} {zs1 : List PBox} {l1 : List DCommit} {r2 : DStore} (hch : Chg S w wr) (hr : ∀ k, rowsS ga1 q1 zs1 la1 lc1 l1.length k → S k ∨ w.heap.size < k) (hG : S G) (hx : Ext wr wx)
    (h : StTo (fun k => k = G ∨ rowsS ga1 q1 zs1 la1 lc1 l1.length k) wx G B E EM EC r2 w6) : StTo S w G B E EM EC r2 w6 := by
  obtain ⟨ga, q, zs, la, lc, h1, h2, h3, h4⟩ := h
  have h0 := hch.trans (Chg.ext (S := S) hx)
  refine ⟨ga, q, zs, la, lc, h1, h2, ⟨h3.os.trans h0.os, h3.tape.trans h0.tape, h3.output.trans h0.output, Nat.le_trans h0.size h3.size, fun x hxs hn => (h3.block x (Nat.lt_of_lt_of_le hxs h0.size) (fun hS => hS.elim (fun e => hn (e ▸ hG)) (fun hr1 => (hr x hr1).elim hn (fun hl => by omega)))).trans (h0.block x hxs hn)⟩, fun k hk => ?_⟩
  rcases h4 k hk with (rfl | h5) | h5
  · exact Or.inl hG
  · exact hr k h5
  · exact Or.inr (Nat.lt_of_le_of_lt h0.size h5)
/-- a mailbox's copy in a box of its own -/
def CutBox (z : PBox) (W : World) (v : Value) (wx : World) : Prop := ∃ β, v = .pointer (some ⟨β, 0, none⟩) ∧ β < wx.heap.size ∧ At wx β 0 z.cells ∧ Ext W wx
/-- after k rounds -/
def EachRel (v : Int) (g : DMsg → Option DCommit) (us : List Int) (R : DStore × Bool) (kb : Nat) (S : Nat → Prop) (w : World) (G B E EM EC : Nat) (i : Value) (wr : World) : Prop :=
  ∃ (k : Nat) (s : DStore), k ≤ us.length ∧ i = .int .i64 k ∧ Hid (StTo S w G B E EM EC s wr) ∧ Hid (GoodS s) ∧ Hid (boxWith v s.boxes = kb) ∧ Hid (kb < s.boxes.length) ∧ Hid (stepsD v g s (us.drop k) = R)
theorem EachRel.mk {v : Int} {g : DMsg → Option DCommit} {us : List Int} {R : DStore × Bool} {kb : Nat} {S : Nat → Prop} {w wr : World} {G B E EM EC k : Nat} {s rs : DStore} (hg : MsgAct g) (hk : k < us.length) (hs : GoodS s) (hb : boxWith v s.boxes = kb) (hl : kb < s.boxes.length) (h : stepsD v g s (us.drop k) = R) {m : DMsg} (har : ActRel g s m rs true ∨ rs = s) (hstep : stepsD v g s (us[k] :: us.drop (k + 1)) = stepsD v g rs (us.drop (k + 1))) (hst : StTo S w G B E EM EC rs wr) :
    EachRel v g us R kb S w G B E EM EC (.int .i64 ((k : Int) + 1)) wr := by
  have hk2 : GoodS rs ∧ boxWith v rs.boxes = boxWith v s.boxes ∧ rs.boxes.length = s.boxes.length := by
    rcases har with h1 | rfl
    · exact act_keep hg h1 hs v
    · exact ⟨hs, rfl, rfl⟩
  obtain ⟨h1, h2, h3⟩ := hk2
  refine ⟨k + 1, rs, hk, by simp, Lib.hid hst, Lib.hid h1, Lib.hid (by rw [h2]; exact hb), Lib.hid (by rw [h3]; exact hl), Lib.hid ?_⟩
  rw [← h, drop_cons us k hk]
  exact hstep.symm

set_option maxRecDepth 100000 in
set_option maxHeartbeats 8000000 in
theorem each_any (zs : List PBox) (ga : Option Addr) (q : Nat) (l : List DCommit) (la : Option Addr) (lc : Nat) (gv : Int) (G B : Nat) (v : Int) (us : List Int) (ua : Option Addr) (uc : Nat) (fid : Nat) (cs : Array Value) (g : DMsg → Option DCommit) (Bx ob kb : Nat) (w : World) (HS : Hid (StB w G B 49 66 41 ga q zs la lc l gv)) (hB : B ≤ w.heap.size) (hm : MaxLen w) (gn : ∀ y ∈ zs, y.name.size ≤ 9223372036854775807) (gt : ∀ y ∈ zs, ∀ m ∈ y.msgs, m.text.size ≤ 9223372036854775807) (RU : Rd w ua uc 1 us.length (us.flatMap intCells)) (hul : us.length ≤ 1048576) (hub : ∀ b o, ua = some ⟨b, o, none⟩ → 0 < us.length → b < Bx) (hB0 : 0 < Bx) (hBB : Bx ≤ B) (hBG : Bx ≤ G) (hBw : Bx ≤ w.heap.size) (hob : ob < w.heap.size) (hoG : ob ≠ G) (hor : ¬ rowsS ga q zs la lc l.length ob) (gd : GoodS (⟨zs.map PBox.box, l, gv⟩ : DStore)) (hg : MsgAct g) (hkb : boxWith v (zs.map PBox.box) = kb) (hkl : kb < zs.length)
    (hcf : ∀ args w, (callFunc fid args).run Tryz.prog w = .ok (.enter fid args) w)
    (hact : ∀ (wx : World) (zs1 : List PBox) (ga1 : Option Addr) (q1 : Nat) (l1 : List DCommit) (la1 : Option Addr) (lc1 : Nat) (gv1 : Int), Hid (StB wx G B 49 66 41 ga1 q1 zs1 la1 lc1 l1 gv1) → B ≤ wx.heap.size → MaxLen wx → GoodS ⟨zs1.map PBox.box, l1, gv1⟩ → (∀ x o, (x < Bx ∨ x = ob) → wx.cell? ⟨x, o, none⟩ = w.cell? ⟨x, o, none⟩) → w.heap.size ≤ wx.heap.size → ∀ m : DMsg, m.text.size ≤ 9223372036854775807 → Calls Tryz.prog fid (#[.agg #[.int .i64 m.uid, .int .i64 m.flags, .string m.text]] ++ cs) wx fun e w' => ∃ r2 ok, e = .returned (.bool ok) ∧ StTo (fun k => k = G ∨ rowsS ga1 q1 zs1 la1 lc1 l1.length k) wx G B 49 66 41 r2 w' ∧ ActRel g ⟨zs1.map PBox.box, l1, gv1⟩ m r2 ok)
    (rs : DStore) (rok : Bool) (H : Hid (stepsD v g (⟨zs.map PBox.box, l, gv⟩ : DStore) us = (rs, rok))) :
    Calls Tryz.prog 105 #[.pointer (some ⟨G, 0, none⟩), .int .i64 v, .slice ua us.length uc, .func (.func fid) #[] cs] w fun e w' => e = .returned (.bool rok) ∧ StTo (fun k => k = G ∨ rowsS ga q zs la lc l.length k) w G B 49 66 41 rs w' := by
  have HGN := Lib.hid gn
  have HMX := Lib.hid hm
  have HGD := Lib.hid gd
  have HMA := Lib.hid hg
  have HKB := Lib.hid hkb
  have HCF := Lib.hid hcf
  have HACT := Lib.hid hact
  have HRU := Lib.hid RU
  have HUB := Lib.hid hub
  have hGl := HS.out.lt
  have HST0 : Hid (StTo (fun k => k = G ∨ rowsS ga q zs la lc l.length k) w G B 49 66 41 (⟨zs.map PBox.box, l, gv⟩ : DStore) w) := Lib.hid (HS.out.same (Below.refl _ _))
  have HSG : Hid ((fun k => k = G ∨ rowsS ga q zs la lc l.length k) G) := Lib.hid (Or.inl rfl)
  have HKS : Hid (∀ x, (x < Bx ∨ x = ob) → ¬ (fun k => k = G ∨ rowsS ga q zs la lc l.length k) x ∧ x < w.heap.size) := Lib.hid (fun x hx => by
    rcases hx with h | rfl
    · exact ⟨fun hh => hh.elim (fun e => by omega) (fun hr => by have := (HS.out.own.rows_lt x hr).1; omega), by omega⟩
    · exact ⟨fun hh => hh.elim (fun e => hoG e) (fun hr => hor hr), hob⟩)
  have HK2 : Hid (kb < zs.length) := Lib.hid hkl
  have HBW := Lib.hid hB
  have HB0 := Lib.hid hB0
  clear hB0
  clear gn gt hm gd hg hkb hcf hact RU hub hor hoG hkl hBB hBG
  generalize hS0 : (fun k => k = G ∨ rowsS ga q zs la lc l.length k) = S at *
  have HS0 := Lib.hid hS0
  clear hS0
  go_enter Tryz.func105, Tryz.ntmps105
  go_wp2_with fail
  go_loopw [15] (fun i wr => EachRel v g us (rs, rok) kb S w G B 49 66 41 i wr) (fun i _ => us.length - (intOf i).toNat)
  case atStart => exact ⟨0, (⟨zs.map PBox.box, l, gv⟩ : DStore), Nat.zero_le _, rfl, HST0, HGD, HKB, Lib.hid (by simpa using HK2.out), Lib.hid (by simpa using H.out)⟩
  case round =>
    obtain ⟨k, s, hk, rfl, HST, HG1, HB1, HL1, HR1⟩ := hrel
    by_cases hlt : k < us.length
    · obtain ⟨ga1, q1, zs1, la1, lc1, hs1, hd1, hch1, hr1⟩ := HST.out
      obtain ⟨sb, l1, gv1⟩ := s
      dsimp only at hs1 hd1 hr1
      subst hd1
      have HSB := Lib.hid hs1
      have HCH := Lib.hid hch1
      have HRW := Lib.hid hr1
      have hkb1 : kb < zs1.length := by simpa using HL1.out
      have hGr : G < wr.heap.size := hs1.lt
      have c0 := hs1.c0
      have hwr : w.heap.size ≤ wr.heap.size := hch1.size
      obtain ⟨ub, uo, rfl, hubl, hatu⟩ := HRU.out.ptr (by omega)
      have hu0 := intCells_at hatu k hlt
      have hux := HKS.out ub (Or.inl (HUB.out ub uo rfl (by omega)))
      have cu : wr.cell? ⟨ub, uo + k, none⟩ = some (.int .i64 us[k]) := (hch1.cell hux.2 hux.1).trans hu0
      obtain ⟨gb, go, rfl, hgb, hat⟩ := hs1.own.box.rd.ptr (by omega)
      obtain ⟨x0, x1, x2, x3⟩ := PBox.at hat kb hkb1
      have i1 : (kb : Int) < (zs1.length : Int) := by omega
      have HAT := Lib.hid hat
      clear hat hs1 hch1 hr1 hatu hu0 hux HL1
      have hk1 : (k : Int) < (us.length : Int) := by omega
      go_wp2_with fail
      go_cut [11] (fun u wx => CutBox zs1[kb] wr u wx)
      case first =>
        first
        | go_region_law (go_simp; go_at_call 85; refine (implBoxWith_any zs1 _ _ v _ (HSB.out.own.box.rd.ext bxt) kb HB1).mono ?_; rintro e w4 ⟨rfl, hb4⟩; have hx4 : Below wr.heap.size wr w4 := bxt; have sg4 : gb < w4.heap.size := Nat.lt_of_lt_of_le hgb hx4.size; have sG4 : G < w4.heap.size := Nat.lt_of_lt_of_le hGr hx4.size; have hzz4 := hb4.size; (try simp at hzz4); have d0 := (hx4.cell (p := ⟨G, 0, none⟩) hGr).trans c0; have d10 := ((hx4).cell (p := ⟨gb, go + kb * 4, none⟩) hgb).trans x0; have d11 := ((hx4).cell (p := ⟨gb, go + kb * 4 + 1, none⟩) hgb).trans x1; have d12 := ((hx4).cell (p := ⟨gb, go + kb * 4 + 2, none⟩) hgb).trans x2; have d13 := ((hx4).cell (p := ⟨gb, go + kb * 4 + 3, none⟩) hgb).trans x3; (try (have hy4 : wr.heap.size < w4.heap.size := hzz4; have ca0 := (hb4.cell (p := ⟨wr.heap.size, 0, none⟩) smx).trans (show _ = some (.string ⟨#[]⟩) from kpx); have fa0 := (hb4.frozen (p := ⟨wr.heap.size, 0, none⟩) smx).trans (show _ = false from kfx); have ca1 := (hb4.cell (p := ⟨wr.heap.size, 1, none⟩) smx).trans (show _ = some (.int .i64 0) from kpx); have fa1 := (hb4.frozen (p := ⟨wr.heap.size, 1, none⟩) smx).trans (show _ = false from kfx); have ca2 := (hb4.cell (p := ⟨wr.heap.size, 2, none⟩) smx).trans (show _ = some (.int .i64 0) from kpx); have fa2 := (hb4.frozen (p := ⟨wr.heap.size, 2, none⟩) smx).trans (show _ = false from kfx); have ca3 := (hb4.cell (p := ⟨wr.heap.size, 3, none⟩) smx).trans (show _ = some (.slice none 0 0) from kpx); have fa3 := (hb4.frozen (p := ⟨wr.heap.size, 3, none⟩) smx).trans (show _ = false from kfx))))
        | fail
        all_goals go_wp2_with fail
        all_goals go_meet
        all_goals refine ⟨_, rfl, smx, at_cons (by simp [go_sem, *]) (at_cons (by simp [go_sem, *]) (at_cons (by simp [go_sem, *]) (at_cons (by simp [go_sem, *]) at_nil))), ?_⟩
        all_goals exact bxt
      case rest =>
        obtain ⟨wx, hwx⟩ : ∃ x, x = wc := ⟨_, rfl⟩
        subst hwx
        obtain ⟨β, rfl, hβ, hatb, hx⟩ := hcut
        have y0 : wx.cell? ⟨β, 0, none⟩ = some (.string zs1[kb].name) := by simpa [PBox.cells] using hatb 0 _ rfl
        have y1 : wx.cell? ⟨β, 1, none⟩ = some (.int .i64 zs1[kb].validity) := by simpa [PBox.cells] using hatb 1 _ rfl
        have y2 : wx.cell? ⟨β, 2, none⟩ = some (.int .i64 zs1[kb].next) := by simpa [PBox.cells] using hatb 2 _ rfl
        have y3 : wx.cell? ⟨β, 3, none⟩ = some (.slice zs1[kb].ma zs1[kb].msgs.length zs1[kb].mc) := by simpa [PBox.cells] using hatb 3 _ rfl
        have HRM := Lib.hid (HSB.out.own.box.rdm _ (List.getElem_mem hkb1))
        obtain ⟨z, hz⟩ : ∃ z, placeOf us[k] zs1[kb].msgs = z := ⟨_, rfl⟩
        have HZ := Lib.hid hz
        clear hz hatb
        have HLB : Hid (kb < (zs1.map PBox.box).length) := Lib.hid (by simpa using hkb1)
        have HPZ : Hid (placeOf us[k] ((zs1.map PBox.box)[kb]'HLB.out).msgs = z) := Lib.hid (by rw [List.getElem_map]; exact HZ.out)
        by_cases hz0 : z < 0
        · have hd0 : decide (0 ≤ z) = false := decide_eq_false (by omega)
          have HZ0 := Lib.hid hz0
          clear hz0
          go_wp2_with ((go_at_call 44; refine (implPlaceOf_any zs1[kb].name zs1[kb].validity zs1[kb].next zs1[kb].msgs zs1[kb].ma _ us[k] _ (HRM.out.ext bxt) z HZ).mono ?_; rintro e w4 ⟨rfl, hb4⟩))
          go_roundw
          case rel => exact EachRel.mk (m := ⟨0, 0, ByteArray.empty⟩) HMA.out hlt HG1.out HB1.out HLB.out HR1.out (Or.inr rfl) (steps_skip (stepM_none HLB.out HB1.out (by rw [HPZ.out]; exact HZ0.out))) (HST.out.ext bxt)
          case measure => simp [intOf]; omega
        · have hd0 : decide (0 ≤ z) = true := decide_eq_true (by omega)
          have hzl : z < (zs1[kb].msgs.length : Int) := by
            have h := (firstI_range (fun m : DMsg => decide (m.uid = us[k])) zs1[kb].msgs).2
            rw [← HZ.out]
            exact h
          obtain ⟨j, hj⟩ : ∃ j : Nat, z = j := ⟨z.toNat, by omega⟩
          subst hj
          have hjl : j < zs1[kb].msgs.length := by omega
          have j1 : (j : Int) < (zs1[kb].msgs.length : Int) := by omega
          obtain ⟨mb, mo, hma, hmb, hatm⟩ := HRM.out.ptr (by omega)
          have HRM2 := HRM.out
          rw [hma] at y3 HRM2
          have HRM := Lib.hid HRM2
          obtain ⟨m0, m1, m2⟩ := DMsg.at hatm j hjl
          have HMM : Hid (GoodS ⟨zs1.map PBox.box, l1, gv1⟩) := HG1
          have hmt : zs1[kb].msgs[j].text.size ≤ 9223372036854775807 := HG1.out.1.2.2.2 zs1[kb].box (List.mem_map_of_mem (List.getElem_mem hkb1)) _ (List.getElem_mem hjl)
          have HMT := Lib.hid hmt
          clear hzl hatm HRM2 hmt hz0 hma
          go_wp2_with ((go_at_call 44; refine (implPlaceOf_any zs1[kb].name zs1[kb].validity zs1[kb].next zs1[kb].msgs (some ⟨mb, mo, none⟩) _ us[k] _ (HRM.out.ext bxt) (j : Int) HZ).mono ?_; rintro e w4 ⟨rfl, hb4⟩; have hx4 : Below wr.heap.size wr w4 := Below.ext hx bxt; have n0 := (hx4.cell (p := ⟨mb, mo + j * 3, none⟩) hmb).trans m0; have n1 := (hx4.cell (p := ⟨mb, mo + j * 3 + 1, none⟩) hmb).trans m1; have n2 := (hx4.cell (p := ⟨mb, mo + j * 3 + 2, none⟩) hmb).trans m2; have y3b := (hb4.cell (p := ⟨β, 3, none⟩) smx).trans y3))
          rw [HCF.out, Oper.upon_enter]
          refine (HACT.out _ zs1 (some ⟨gb, go, none⟩) q1 l1 la1 lc1 gv1 (Lib.hid (StB.ext HSB.out hx4)) (Nat.le_trans HBW.out (Nat.le_trans hwr hx4.size)) ?_ HG1.out (fun x o hx => (hx4.cell (p := ⟨x, o, none⟩) (Nat.lt_of_lt_of_le (HKS.out x hx).2 hwr)).trans (HCH.out.cell (HKS.out x hx).2 (HKS.out x hx).1)) (Nat.le_trans hwr hx4.size) zs1[kb].msgs[j] HMT.out).mono ?_
          · obtain ⟨mx, h1, h2⟩ := HMX.out
            exact ⟨mx, ((hx4.cell (p := ⟨0, 0, none⟩) (Nat.lt_of_lt_of_le h2 hwr)).trans (HCH.out.cell h2 (HKS.out 0 (Or.inl HB0.out)).1)).trans h1, Nat.lt_of_lt_of_le h2 (Nat.le_trans hwr hx4.size)⟩
          rintro e w6 ⟨r2, ok, rfl, hst6, har⟩
          have HST6 := Lib.hid (StTo.step HCH.out HRW.out HSG.out hx4 hst6)
          have HSE := Lib.hid (steps_act (us := us.drop (k + 1)) (u := us[k]) HLB.out HB1.out (by simpa [PBox.box] using hjl) HPZ.out (show ActRel g ⟨zs1.map PBox.box, l1, gv1⟩ _ r2 ok by simpa [PBox.box] using har))
          have HAR := Lib.hid har
          clear hst6 har
          cases ok with
          | true =>
            go_wp2_with fail
            go_roundw
            case rel => exact EachRel.mk HMA.out hlt HG1.out HB1.out HLB.out HR1.out (Or.inl HAR.out) (by have h := HSE.out; simp only [Bool.false_eq_true, if_false, if_true] at h; exact h) HST6.out
            case measure => simp [intOf]; omega
          | false =>
            obtain ⟨rfl, rfl⟩ : r2 = rs ∧ false = rok := by
              have h := HSE.out
              simp only [Bool.false_eq_true, if_false, if_true] at h
              have h2 := HR1.out
              rw [drop_cons us k hlt, h] at h2
              exact Prod.mk.inj h2
            go_wp2_with fail
            go_ret
            exact ⟨rfl, by subst S; exact HST6.out⟩
    · have hkk : k = us.length := by omega
      have h5 := HR1.out
      rw [hkk, List.drop_length, stepsD] at h5
      obtain ⟨rfl, rfl⟩ := Prod.mk.inj h5
      clear h5
      have HKK := Lib.hid hkk
      clear hkk
      go_wp2_with fail
      go_ret
      exact ⟨rfl, by subst S; exact HST.out⟩
end Go.Proofs.YtjcnhkmhcfmoeaaGreat

namespace Go.Proofs.YtjcnhkmhcfmoeaaGreat
open Go.RowKit
set_option linter.unusedVariables false
set_option linter.unusedSimpArgs false

def chgZ (op o b : Int) : Int := if op = 1 then bits .or .i64 o b else if op = 2 then bits .andNot .i64 o b else if op = 3 then b else o
def chgF (op o b : Int) : Int := if (0 ≤ o ∧ o ≤ 31) ∧ (0 ≤ b ∧ b ≤ 31) then chgZ op o b else o
def gSet (v op b : Int) : DMsg → Option DCommit := fun m => if chgF op m.flags b = m.flags then none else some ⟨5, v, m.uid, chgF op m.flags b, ⟨#[]⟩, ⟨#[]⟩⟩
def gPurge (v : Int) : DMsg → Option DCommit := fun m => if bits .and .i64 m.flags 8 = 0 then none else some ⟨6, v, m.uid, 0, ⟨#[]⟩, ⟨#[]⟩⟩
theorem gSet_act (v op b : Int) : MsgAct (gSet v op b) := fun m c h => by
  unfold gSet at h
  split at h
  · cases h
  · cases h; exact ⟨by simp, by simp, by simp, Nat.zero_le _, Nat.zero_le _⟩
theorem gPurge_act (v : Int) : MsgAct (gPurge v) := fun m c h => by
  unfold gPurge at h
  split at h
  · cases h
  · cases h; exact ⟨by simp, by simp, by simp, Nat.zero_le _, Nat.zero_le _⟩
theorem gSet_none {v op b : Int} {m : DMsg} (h : chgF op m.flags b = m.flags) : gSet v op b m = none := if_pos h
theorem gSet_some {v op b r : Int} {m : DMsg} (hr : chgF op m.flags b = r) (h : r ≠ m.flags) : gSet v op b m = some ⟨5, v, m.uid, r, ⟨#[]⟩, ⟨#[]⟩⟩ := by
  subst hr; exact if_neg h
theorem gPurge_none {v : Int} {m : DMsg} (h : bits .and .i64 m.flags 8 = 0) : gPurge v m = none := if_pos h
theorem gPurge_some {v : Int} {m : DMsg} (h : bits .and .i64 m.flags 8 ≠ 0) : gPurge v m = some ⟨6, v, m.uid, 0, ⟨#[]⟩, ⟨#[]⟩⟩ := if_neg h
theorem act_none {g : DMsg → Option DCommit} {s : DStore} {m : DMsg} (h : g m = none) : ActRel g s m s true := by unfold ActRel; rw [h]; exact ⟨rfl, rfl⟩
theorem act_some {g : DMsg → Option DCommit} {s rs : DStore} {m : DMsg} {c : DCommit} {rok : Bool} (h : g m = some c) (hc : CmtRel s c rs rok) : ActRel g s m rs rok := by unfold ActRel; rw [h]; exact hc

set_option maxHeartbeats 1000000 in
theorem implChanged_any (op o b : Int) (w : World) (r : Int) (Hr : Hid (chgF op o b = r)) :
    Calls Tryz.prog 121 #[.int .i64 op, .int .i64 o, .int .i64 b] w fun e w' => e = .returned (.int .i64 r) ∧ w' = w := by
  obtain ⟨c1, h1⟩ := boolOf (0 ≤ o ∧ o ≤ 31)
  have H1 := Lib.hid h1
  obtain ⟨c2, h2⟩ := boolOf (0 ≤ b ∧ b ≤ 31)
  have H2 := Lib.hid h2
  clear h1 h2
  cases c1 with
  | false =>
    obtain rfl : o = r := by rw [← Hr.out, chgF, if_neg (fun h => no_of H1.out h.1)]
    go_enter Tryz.func121, Tryz.ntmps121
    go_wp2_with (first | (go_at_call_of 97 (o); refine (flagsOk_any o _ false H1).mono ?_; rintro e wx ⟨rfl, hwx⟩; subst wx) | (go_at_call_of 97 (b); refine (flagsOk_any b _ true H2).mono ?_; rintro e wx ⟨rfl, hwx⟩; subst wx))
    go_ret
    exact ⟨rfl, rfl⟩
  | true =>
  cases c2 with
  | false =>
    obtain rfl : o = r := by rw [← Hr.out, chgF, if_neg (fun h => no_of H2.out h.2)]
    go_enter Tryz.func121, Tryz.ntmps121
    go_wp2_with (first | (go_at_call_of 97 (o); refine (flagsOk_any o _ true H1).mono ?_; rintro e wx ⟨rfl, hwx⟩; subst wx) | (go_at_call_of 97 (b); refine (flagsOk_any b _ false H2).mono ?_; rintro e wx ⟨rfl, hwx⟩; subst wx))
    go_ret
    exact ⟨rfl, rfl⟩
  | true =>
  have hz : chgZ op o b = r := by rw [← Hr.out, chgF, if_pos ⟨yes_of H1.out, yes_of H2.out⟩]
  by_cases e1 : op = 1
  · subst e1
    obtain rfl : bits .or .i64 o b = r := hz
    go_enter Tryz.func121, Tryz.ntmps121
    go_wp2_with (first | (go_at_call_of 97 (o); refine (flagsOk_any o _ true H1).mono ?_; rintro e wx ⟨rfl, hwx⟩; subst wx) | (go_at_call_of 97 (b); refine (flagsOk_any b _ true H2).mono ?_; rintro e wx ⟨rfl, hwx⟩; subst wx))
    go_ret
    exact ⟨rfl, rfl⟩
  have d1 : (op == 1) = false := by simp [e1]
  by_cases e2 : op = 2
  · subst e2
    obtain rfl : bits .andNot .i64 o b = r := hz
    clear d1
    go_enter Tryz.func121, Tryz.ntmps121
    go_wp2_with (first | (go_at_call_of 97 (o); refine (flagsOk_any o _ true H1).mono ?_; rintro e wx ⟨rfl, hwx⟩; subst wx) | (go_at_call_of 97 (b); refine (flagsOk_any b _ true H2).mono ?_; rintro e wx ⟨rfl, hwx⟩; subst wx))
    go_ret
    exact ⟨rfl, rfl⟩
  have d2 : (op == 2) = false := by simp [e2]
  by_cases e3 : op = 3
  · subst e3
    obtain rfl : b = r := hz
    clear d1 d2
    go_enter Tryz.func121, Tryz.ntmps121
    go_wp2_with (first | (go_at_call_of 97 (o); refine (flagsOk_any o _ true H1).mono ?_; rintro e wx ⟨rfl, hwx⟩; subst wx) | (go_at_call_of 97 (b); refine (flagsOk_any b _ true H2).mono ?_; rintro e wx ⟨rfl, hwx⟩; subst wx))
    go_ret
    exact ⟨rfl, rfl⟩
  have d3 : (op == 3) = false := by simp [e3]
  obtain rfl : o = r := by rw [← hz, chgZ, if_neg e1, if_neg e2, if_neg e3]
  clear e1 e2 e3 hz
  go_enter Tryz.func121, Tryz.ntmps121
  go_wp2_with (first | (go_at_call_of 97 (o); refine (flagsOk_any o _ true H1).mono ?_; rintro e wx ⟨rfl, hwx⟩; subst wx) | (go_at_call_of 97 (b); refine (flagsOk_any b _ true H2).mono ?_; rintro e wx ⟨rfl, hwx⟩; subst wx))
  go_ret
  exact ⟨rfl, rfl⟩

set_option maxHeartbeats 1000000 in
theorem specChanged_any (op o b : Int) (w : World) (r : Int) (Hr : Hid (chgF op o b = r)) :
    Calls Tryz.prog 60 #[.int .i64 op, .int .i64 o, .int .i64 b] w fun e w' => e = .returned (.int .i64 r) ∧ w' = w := by
  obtain ⟨c1, h1⟩ := boolOf (0 ≤ o ∧ o ≤ 31)
  have H1 := Lib.hid h1
  obtain ⟨c2, h2⟩ := boolOf (0 ≤ b ∧ b ≤ 31)
  have H2 := Lib.hid h2
  clear h1 h2
  cases c1 with
  | false =>
    obtain rfl : o = r := by rw [← Hr.out, chgF, if_neg (fun h => no_of H1.out h.1)]
    go_enter Tryz.func60, Tryz.ntmps60
    go_wp2_with (first | (go_at_call_of 101 (o); refine (sFlagsOk_any o _ false H1).mono ?_; rintro e wx ⟨rfl, hwx⟩; subst wx) | (go_at_call_of 101 (b); refine (sFlagsOk_any b _ true H2).mono ?_; rintro e wx ⟨rfl, hwx⟩; subst wx))
    go_ret
    exact ⟨rfl, rfl⟩
  | true =>
  cases c2 with
  | false =>
    obtain rfl : o = r := by rw [← Hr.out, chgF, if_neg (fun h => no_of H2.out h.2)]
    go_enter Tryz.func60, Tryz.ntmps60
    go_wp2_with (first | (go_at_call_of 101 (o); refine (sFlagsOk_any o _ true H1).mono ?_; rintro e wx ⟨rfl, hwx⟩; subst wx) | (go_at_call_of 101 (b); refine (sFlagsOk_any b _ false H2).mono ?_; rintro e wx ⟨rfl, hwx⟩; subst wx))
    go_ret
    exact ⟨rfl, rfl⟩
  | true =>
  have hz : chgZ op o b = r := by rw [← Hr.out, chgF, if_pos ⟨yes_of H1.out, yes_of H2.out⟩]
  by_cases e1 : op = 1
  · subst e1
    obtain rfl : bits .or .i64 o b = r := hz
    go_enter Tryz.func60, Tryz.ntmps60
    go_wp2_with (first | (go_at_call_of 101 (o); refine (sFlagsOk_any o _ true H1).mono ?_; rintro e wx ⟨rfl, hwx⟩; subst wx) | (go_at_call_of 101 (b); refine (sFlagsOk_any b _ true H2).mono ?_; rintro e wx ⟨rfl, hwx⟩; subst wx))
    go_ret
    exact ⟨rfl, rfl⟩
  have d1 : (op == 1) = false := by simp [e1]
  by_cases e2 : op = 2
  · subst e2
    obtain rfl : bits .andNot .i64 o b = r := hz
    clear d1
    go_enter Tryz.func60, Tryz.ntmps60
    go_wp2_with (first | (go_at_call_of 101 (o); refine (sFlagsOk_any o _ true H1).mono ?_; rintro e wx ⟨rfl, hwx⟩; subst wx) | (go_at_call_of 101 (b); refine (sFlagsOk_any b _ true H2).mono ?_; rintro e wx ⟨rfl, hwx⟩; subst wx))
    go_ret
    exact ⟨rfl, rfl⟩
  have d2 : (op == 2) = false := by simp [e2]
  by_cases e3 : op = 3
  · subst e3
    obtain rfl : b = r := hz
    clear d1 d2
    go_enter Tryz.func60, Tryz.ntmps60
    go_wp2_with (first | (go_at_call_of 101 (o); refine (sFlagsOk_any o _ true H1).mono ?_; rintro e wx ⟨rfl, hwx⟩; subst wx) | (go_at_call_of 101 (b); refine (sFlagsOk_any b _ true H2).mono ?_; rintro e wx ⟨rfl, hwx⟩; subst wx))
    go_ret
    exact ⟨rfl, rfl⟩
  have d3 : (op == 3) = false := by simp [e3]
  obtain rfl : o = r := by rw [← hz, chgZ, if_neg e1, if_neg e2, if_neg e3]
  clear e1 e2 e3 hz
  go_enter Tryz.func60, Tryz.ntmps60
  go_wp2_with (first | (go_at_call_of 101 (o); refine (sFlagsOk_any o _ true H1).mono ?_; rintro e wx ⟨rfl, hwx⟩; subst wx) | (go_at_call_of 101 (b); refine (sFlagsOk_any b _ true H2).mono ?_; rintro e wx ⟨rfl, hwx⟩; subst wx))
  go_ret
  exact ⟨rfl, rfl⟩

theorem isOp_any (op : Int) (w : World) (r : Bool) (Hr : Hid (Tells r (1 ≤ op ∧ op ≤ 3))) :
    Calls Tryz.prog 118 #[.int .i64 op] w fun e w' => e = .returned (.bool r) ∧ w' = w := by
  go_enter Tryz.func118, Tryz.ntmps118
  go_wp2_with (go_at_call 73; refine (within_any op 1 3 _ r Hr).mono ?_; rintro e wx ⟨rfl, hwx⟩; subst wx)
  go_ret
  exact ⟨rfl, rfl⟩
end Go.Proofs.YtjcnhkmhcfmoeaaGreat

namespace Go.Proofs.YtjcnhkmhcfmoeaaGreat
open Go.RowKit
set_option linter.unusedVariables false
set_option linter.unusedSimpArgs false

noncomputable def purgeD (s : DStore) (v : Int) (us : List Int) : DStore × Int := opD s True (stepsB v (gPurge v) s us)
noncomputable def setD (s : DStore) (v : Int) (us : List Int) (op bi : Int) : DStore × Int := opD s ((1 ≤ op ∧ op ≤ 3) ∧ (0 ≤ bi ∧ bi ≤ 31)) (stepsB v (gSet v op bi) s us)
theorem purge_cnt (s : DStore) (v : Int) (us : List Int) (h1 : cntD s.boxes ≤ 3145728) (h2 : s.log.length ≤ 1048576) : cntD (purgeD s v us).1.boxes ≤ 3145728 ∧ (purgeD s v us).1.log.length ≤ 1048576 := op_cnt h1 h2 (stepsB_cnt (gPurge_act v) us s h1 h2)
theorem set_cnt (s : DStore) (v : Int) (us : List Int) (op bi : Int) (h1 : cntD s.boxes ≤ 3145728) (h2 : s.log.length ≤ 1048576) : cntD (setD s v us op bi).1.boxes ≤ 3145728 ∧ (setD s v us op bi).1.log.length ≤ 1048576 := op_cnt h1 h2 (stepsB_cnt (gSet_act v op bi) us s h1 h2)
theorem Rd.blk_lt {w : World} {a : Option Addr} {c s n : Nat} {xs : List Value} (h : Rd w a c s n xs) : ∀ b o, a = some ⟨b, o, none⟩ → 0 < n → b < w.heap.size := fun b o he hn => by
  obtain ⟨b', o', ha, hb, -⟩ := h.ptr hn
  rw [he] at ha
  cases ha
  exact hb
theorem uid_at {u : Int} {l : List DMsg} {j : Nat} (hj : j < l.length) (h : placeOf u l = j) : l[j].uid = u := by
  rcases firstI_spec (fun m : DMsg => decide (m.uid = u)) l with ⟨-, h2⟩ | ⟨i, hi, h1, h2, -⟩
  · exact absurd (h.symm.trans h2) (by omega)
  · have e : i = j := by have := h1.symm.trans h; omega
    subst e
    exact of_decide_eq_true h2
def StepLoopS (v : Int) (g : DMsg → Option DCommit) (us : List Int) (R : DStore × Bool) (kb : Nat) (E EM EC G B : Nat) (w4 : World) (i : Value) (wr : World) : Prop :=
  ∃ (k : Nat) (cur : DStore) (ga : Option Addr) (q : Nat) (zs : List PBox) (la : Option Addr) (lc : Nat), k ≤ us.length ∧ i = .int .i64 k ∧ Hid (StB wr G B E EM EC ga q zs la lc cur.log cur.given) ∧ Hid (zs.map PBox.box = cur.boxes) ∧ Hid (GoodS cur) ∧ Hid (boxWith v cur.boxes = kb) ∧ Hid (kb < cur.boxes.length) ∧ Hid (stepsD v g cur (us.drop k) = R) ∧ Below B w4 wr
theorem StepLoopS.mk {v : Int} {g : DMsg → Option DCommit} {us : List Int} {R : DStore × Bool} {kb : Nat} {E EM EC G B k q lc : Nat} {ga la : Option Addr} {zs : List PBox} {w4 wr : World} {s rs : DStore} (hg : MsgAct g) (hk : k < us.length) (hs : GoodS s) (hb : boxWith v s.boxes = kb) (hl : kb < s.boxes.length) (h : stepsD v g s (us.drop k) = R) {m : DMsg} (har : ActRel g s m rs true ∨ rs = s) (hstep : stepsD v g s (us[k] :: us.drop (k + 1)) = stepsD v g rs (us.drop (k + 1)))
    (hst : StB wr G B E EM EC ga q zs la lc rs.log rs.given) (hz : zs.map PBox.box = rs.boxes) (hbe : Below B w4 wr) : StepLoopS v g us R kb E EM EC G B w4 (.int .i64 ((k : Int) + 1)) wr := by
  have hk2 : GoodS rs ∧ boxWith v rs.boxes = boxWith v s.boxes ∧ rs.boxes.length = s.boxes.length := by
    rcases har with h1 | rfl
    · exact act_keep hg h1 hs v
    · exact ⟨hs, rfl, rfl⟩
  obtain ⟨h1, h2, h3⟩ := hk2
  refine ⟨k + 1, rs, ga, q, zs, la, lc, hk, by simp, Lib.hid hst, Lib.hid hz, Lib.hid h1, Lib.hid (by rw [h2]; exact hb), Lib.hid (by rw [h3]; exact hl), Lib.hid ?_, hbe⟩
  rw [← h, drop_cons us k hk]
  exact hstep.symm
end Go.Proofs.YtjcnhkmhcfmoeaaGreat
