/-
  How the arguments of a law are opened: a slice that came in, of elements of s cells each.
  The laws' plain data, opened: what a reading says of the cells.
  The draws of the laws of stores.
  Whether mailboxes are equal: the program's functions and the reference's.
  AppliedAll: the program's function.
  The program's StoreOk.
  change: a store of its own, unless there is a code, is handed to a function.
  The operations on a store: the plain law.
  The reference's l11Made.
  The reference's StoreOk.
  The reference's CommitAll.
  What the closures of the operations have in common.
  A row of steps on a store, each of which may do one commit (SetFlags, Purge): the plain law.
  eachMsg: a function at each message that is there at that time.
  Flags after an operation; what SetFlags and Purge do at a message.
  A row of steps on a store, the reference's loop: what holds after k rounds.
  CopyMsgs: the plain law.
  What the operations on a store leave: the plain law.
  A small store that can be read; the contracts in its words.
  The byte that the laws take of their input: its value.
  BoxesAt: the program's function and the reference's.
  The contracts of stores, in the words of a drawn store.
  A view that follows a commit: it stays valid, and is the view of the changed mailbox. The plain law.
  The indices of the commits that change a mailbox's contents: the program's function and the reference's.
  The commits of a mailbox lead from its earlier to its current content: the plain law.
  BoxAt: the program's function and the reference's.
  Whether two values of View are equal: the program's function and the reference's.
  The law FnCommitsOf: its walk.
  The statement FnCommitsOf: for every input the law returns true, and each argument reads as it did.
  Its conditions: none.
-/
import Derived.Test.YtemgabekckhckaaGreatTy
import Derived.Deep.Slices
import Derived.Test.YtemgabekckhckaaGreatXDrB
import Derived.Test.YtemgabekckhckaaGreatXDr
import Derived.Test.YtemgabekckhckaaGreatXFam
import Derived.Test.YtemgabekckhckaaGreatXOwn
import Derived.Test.YtemgabekckhckaaGreatXLaw
import Derived.Test.YtemgabekckhckaaGreatWStoreP
import Derived.Maps.OwnSet
import Derived.Test.YtemgabekckhckaaGreatXCom
import Derived.Test.YtemgabekckhckaaGreatXCopySt
import Derived.Test.YtemgabekckhckaaGreatWComAllP
import Derived.Test.YtemgabekckhckaaGreatWComS
import Derived.Test.YtemgabekckhckaaGreatWCutS
import Derived.IntWalk
import Derived.Test.YtemgabekckhckaaGreatCSmall
import Derived.Test.YtemgabekckhckaaGreatXKeep
import Derived.Test.YtemgabekckhckaaGreatWFollowed
import Derived.Test.YtemgabekckhckaaGreatWViewOf
import Derived.Test.YtemgabekckhckaaGreatFamSeen
import Derived.Deep.RegionHeld3
import Derived.Deep.DeepCutAuto
import Derived.BigQuiet
import Derived.Test.YtemgabekckhckaaGreatStrs
import Derived.ChangeOld
import Derived.ShutString
import Derived.HandedShaped
import Derived.Shelf.Vars
namespace Go.Proofs.YtemgabekckhckaaGreat
open Go.RowKit Go.Deep
set_option linter.unusedVariables false

section
variable {H : Type} {enc : TypeId × Value → H} {P : Program} {w : World} {base : Nat} {spare : Nat → Bool} {held : Bool}

theorem flatten_get {s : Nat} : ∀ (css : List (List Value)) (k j : Nat) (hk : k < css.length), (∀ c ∈ css, c.length = s) → j < s → css.flatten[k * s + j]? = css[k][j]?
  | c :: css, 0, j, hk, hs, hj => by
    simp only [List.flatten_cons, Nat.zero_mul, Nat.zero_add, List.getElem_cons_zero]
    rw [List.getElem?_append_left (by rw [hs c (by simp)]; exact hj)]
  | c :: css, k + 1, j, hk, hs, hj => by
    simp only [List.flatten_cons, List.getElem_cons_succ]
    have h1 : (k + 1) * s + j = c.length + (k * s + j) := by rw [hs c (by simp), Nat.add_mul]; omega
    rw [h1, List.getElem?_append_right (by omega), Nat.add_sub_cancel_left]
    exact flatten_get css k j (by simpa using hk) (fun c hc => hs c (by simp [hc])) hj
theorem flatten_len {s : Nat} : ∀ (css : List (List Value)), (∀ c ∈ css, c.length = s) → css.flatten.length = css.length * s
  | [], _ => by simp
  | c :: css, h => by
    simp only [List.flatten_cons, List.length_append, List.length_cons]
    rw [h c (by simp), flatten_len css (fun c hc => h c (by simp [hc])), Nat.add_mul]; omega

theorem open_sl {α : Type} [Inhabited α] {t e : TypeId} {s fuel : Nat} {cs : List Value} {x : DataW H × List MemPlace} (ht : P.underlying t = some (.slice e)) (hc : P.cellsOf e = s) (h0 : 0 < s)
    (Rel : List Value → α → Prop) (hel : ∀ fuel cs x, DataW.trod enc P w base spare held fuel e cs = some x → ∃ a, Rel cs a) (hlen : ∀ cs a, Rel cs a → cs.length = s)
    (h : DataW.trod enc P w base spare held fuel t cs = some x) :
    ∃ (a : Option Addr) (c n : Nat) (css : List (List Value)) (l : List α), cs = [.slice a n c] ∧ css.length = n ∧ l.length = n ∧ (∀ i (h1 : i < css.length) (h2 : i < l.length), Rel css[i] l[i]) ∧ Rd w a c s n css.flatten := by
  rcases DataW.trod_slice ht h with ⟨rfl, _⟩ | ⟨a, len, cap, elems, rest, n, _, rfl, _, hb, hl, hm, hlen2, hel2, _, _⟩
  · exact ⟨none, 0, 0, [], [], rfl, rfl, rfl, fun i h1 _ => by simp at h1, ⟨by simp, Nat.le_refl _, by omega, fun h => by omega⟩⟩
  · rw [hc] at hel2
    have key : ∀ i, i < len → ∃ y : List Value × α, w.cells? base (a.add (i * s)) s = some y.1 ∧ Rel y.1 y.2 := fun i hi => by
      have h1 := hel2 i hi
      rw [List.getElem?_eq_getElem (by omega)] at h1
      obtain ⟨cs', h2, h3⟩ := Option.bind_eq_some_iff.1 h1
      obtain ⟨b, h4⟩ := hel _ _ _ h3
      exact ⟨(cs', b), h2, h4⟩
    obtain ⟨f, hf⟩ := choose_lt key
    have hcl : ∀ c ∈ (List.range len).map (fun i => (f i).1), c.length = s := fun c hc => by
      obtain ⟨i, hi, rfl⟩ := List.mem_map.1 hc
      exact hlen _ _ (hf i (by simpa using hi)).2
    refine ⟨some a, cap, len, (List.range len).map (fun i => (f i).1), (List.range len).map (fun i => (f i).2), rfl, by simp, by simp, fun i h1 h2 => by simpa using (hf i (by simpa using h1)).2, ?_⟩
    refine ⟨by rw [flatten_len _ hcl]; simp, hl, by unfold maxLen at hm; omega, fun hn => ?_⟩
    have hcell : ∀ i j, i < len → j < s → w.cell? (a.add (i * s + j)) = (f i).1[j]? := fun i j hi hj => by
      obtain ⟨h1, h2⟩ := hf i hi
      obtain ⟨_, _, h3⟩ := World.cells?_some h1
      have h4 := h3 j hj
      rw [← h4]
      congr 1
      unfold Addr.add
      by_cases e1 : i * s = 0
      · simp [e1]
      · by_cases e2 : j = 0
        · simp [e1, e2]
        · simp [e1, e2, Nat.add_assoc]
    obtain ⟨b, o, spot⟩ := a
    have hl0 := hlen _ _ (hf 0 hn).2
    have hc0 := hcell 0 0 hn h0
    rw [List.getElem?_eq_getElem (by omega)] at hc0
    have hsp : spot = none := by simpa [Addr.add] using World.cell?_spot hc0
    subst hsp
    refine ⟨b, o, rfl, by simpa [Addr.add] using World.block_lt_of_cell? w _ hc0, fun j u hu => ?_⟩
    have hj : j < len * s := by
      have := (List.getElem?_eq_some_iff.1 hu).1
      rw [flatten_len _ hcl] at this; simpa using this
    have hdm : j = (j / s) * s + j % s := by rw [Nat.mul_comm]; exact (Nat.div_add_mod j s).symm
    have hq : j / s < len := (Nat.div_lt_iff_lt_mul h0).2 hj
    have hr := flatten_get ((List.range len).map (fun i => (f i).1)) (j / s) (j % s) (by simpa using hq) hcl (Nat.mod_lt _ h0)
    rw [← hdm, hu] at hr
    have h5 := hcell (j / s) (j % s) hq (Nat.mod_lt _ h0)
    rw [← hdm] at h5
    rw [Addr.add_lit] at h5
    rw [h5]
    simpa using hr.symm

theorem open_flat {α : Type} [Inhabited α] {t e : TypeId} {s fuel : Nat} {cs : List Value} {x : DataW H × List MemPlace} (ht : P.underlying t = some (.slice e)) (hc : P.cellsOf e = s) (h0 : 0 < s)
    (encα : α → List Value) (hs : ∀ y, (encα y).length = s) (Good : α → Prop) (hel : ∀ fuel cs x, DataW.trod enc P w base spare held fuel e cs = some x → ∃ a, cs = encα a ∧ Good a)
    (h : DataW.trod enc P w base spare held fuel t cs = some x) :
    ∃ (a : Option Addr) (c : Nat) (l : List α), cs = [.slice a l.length c] ∧ Rd w a c s l.length (l.flatMap encα) ∧ ∀ y ∈ l, Good y := by
  obtain ⟨a, c, n, css, l, hcs, h1, h2, h3, h4⟩ := open_sl ht hc h0 (fun cs a => cs = encα a ∧ Good a) hel (fun cs a h => by rw [h.1, hs]) h
  subst h2
  have he : css = l.map encα := by
    apply List.ext_getElem (by simpa using h1)
    intro i hi1 hi2
    rw [(h3 i hi1 (by simpa using hi2)).1]; simp
  refine ⟨a, c, l, hcs, ?_, fun y hy => ?_⟩
  · rw [List.flatMap_def, ← he]; exact h4
  · obtain ⟨i, hi, rfl⟩ := List.mem_iff_getElem.1 hy
    exact (h3 i (by omega) hi).2

theorem slice_of {r : Reach} {b0 : Nat} {t e : TypeId} {v : Value} (ht : P.underlying t = some (.slice e)) (h : Value.okWide P w r b0 t v) : v.cells.toList = [v] := by
  obtain ⟨a, n, c, rfl⟩ := WideShapes.okWide_slice ht h
  rfl
end
end Go.Proofs.YtemgabekckhckaaGreat

namespace Go.Proofs.YtemgabekckhckaaGreat
open Go.RowKit
set_option linter.unusedVariables false
set_option linter.unusedSimpArgs false
open Go.Deep
section
variable {H : Type} {enc : TypeId × Value → H} {w : World} {base : Nat} {spare : Nat → Bool} {held : Bool} {fuel : Nat} {cs : List Value} {x : DataW H × List MemPlace}
end

end Go.Proofs.YtemgabekckhckaaGreat

namespace Go.Proofs.YtemgabekckhckaaGreat
open Go.RowKit
set_option linter.unusedVariables false
set_option linter.unusedSimpArgs false

def DrRs1 (w : World) (e : Ending) (w' : World) : Prop := ∃ (ba : Option Addr) (bc : Nat) (zs : List PBox) (la : Option Addr) (lc : Nat) (l : List DCommit) (gv : Int), zs.length ≤ 5 ∧ SmB 6 zs ∧ l.length ≤ 320 ∧ SmL l ∧ e = .returned (.agg #[.slice ba zs.length bc, .slice la l.length lc, .int .i64 gv]) ∧ OwnRt w' w.heap.size 32 60 45 ba bc zs la lc l ∧ Ext w w'
set_option maxRecDepth 100000 in
set_option maxHeartbeats 4000000 in
theorem drawStoreOk_any (lb : List Int) (a : Option Addr) (c : Nat) (w : World) (R : Rd w a c 1 lb.length (lb.flatMap byteCells)) (hb : ∀ y ∈ lb, 0 ≤ y ∧ y ≤ 255) (hl : lb.length ≤ 1048576) :
    Calls Tryz.prog 5 #[.slice a lb.length c] w (DrRs1 w) := by
  have HR := Lib.hid R
  have HB := Lib.hid hb
  clear R hb
  go_enter Tryz.func5, Tryz.ntmps5
  go_wp2_with fail
  refine (l1New_any lb a c _ (HR.out.ext bxt) HB.out hl).mono ?_
  rintro e w1 ⟨cb, hcb, rfl, hcu, hb1⟩
  (try simp at hcb)
  have hcl := hcu.lt
  have HCU := Lib.hid hcu
  clear hcu
  have hz1 := hb1.size; (try simp at hz1)
  have s1_0 : w.heap.size < w1.heap.size := (by omega)
  have c1_0_0 : w1.cell? ⟨w.heap.size, 0, none⟩ = some (.slice none 0 0) := (hb1.cell (p := ⟨w.heap.size, 0, none⟩) smx).trans kpx
  have f1_0_0 : w1.frozen? ⟨w.heap.size, 0, none⟩ = false := (hb1.frozen (p := ⟨w.heap.size, 0, none⟩) smx).trans kfx
  have c1_0_1 : w1.cell? ⟨w.heap.size, 1, none⟩ = some (.slice none 0 0) := (hb1.cell (p := ⟨w.heap.size, 1, none⟩) smx).trans kpx
  have f1_0_1 : w1.frozen? ⟨w.heap.size, 1, none⟩ = false := (hb1.frozen (p := ⟨w.heap.size, 1, none⟩) smx).trans kfx
  have c1_0_2 : w1.cell? ⟨w.heap.size, 2, none⟩ = some (.int .i64 0) := (hb1.cell (p := ⟨w.heap.size, 2, none⟩) smx).trans kpx
  have f1_0_2 : w1.frozen? ⟨w.heap.size, 2, none⟩ = false := (hb1.frozen (p := ⟨w.heap.size, 2, none⟩) smx).trans kfx
  go_wp2_with fail
  refine (l11Bent_any cb _ (HCU.out.ext bxt)).mono ?_
  rintro e w2 ⟨ba, bc, zs, la, lc, l, gv, hzl, hsm, hll, hsl, rfl, ho, hd2⟩
  have hz2 := hd2.size; (try simp at hz2)
  have s2_0 : w.heap.size < w2.heap.size := (by omega)
  have c2_0_0 : w2.cell? ⟨w.heap.size, 0, none⟩ = some (.slice none 0 0) := (hd2.cell (x := w.heap.size) (o := 0) smx (by omega)).trans kpx
  have f2_0_0 : w2.frozen? ⟨w.heap.size, 0, none⟩ = false := (hd2.frozen (x := w.heap.size) (o := 0) smx (by omega)).trans kfx
  have c2_0_1 : w2.cell? ⟨w.heap.size, 1, none⟩ = some (.slice none 0 0) := (hd2.cell (x := w.heap.size) (o := 1) smx (by omega)).trans kpx
  have f2_0_1 : w2.frozen? ⟨w.heap.size, 1, none⟩ = false := (hd2.frozen (x := w.heap.size) (o := 1) smx (by omega)).trans kfx
  have c2_0_2 : w2.cell? ⟨w.heap.size, 2, none⟩ = some (.int .i64 0) := (hd2.cell (x := w.heap.size) (o := 2) smx (by omega)).trans kpx
  have f2_0_2 : w2.frozen? ⟨w.heap.size, 2, none⟩ = false := (hd2.frozen (x := w.heap.size) (o := 2) smx (by omega)).trans kfx
  have HSM := Lib.hid hsm; have HSL := Lib.hid hsl; have HO := Lib.hid ho; clear hsm hsl ho
  go_wp2_with fail
  refine bodyPost_ret (v := .agg #[.slice ba zs.length bc, .slice la l.length lc, .int .i64 gv]) (by simp [results, Tryz.results5, go_sem, *]) rfl ⟨ba, bc, zs, la, lc, l, gv, by omega, HSM.out, by omega, HSL.out, rfl, ?_, btx⟩
  refine OwnRt.le (B := w1.heap.size) ?_ (by omega)
  exact (by repeat' (first | with_reducible exact HO.out | with_reducible refine OwnRt.set_below ?_ smx _ | with_reducible refine OwnRt.ext ?_ bxt))
end Go.Proofs.YtemgabekckhckaaGreat

namespace Go.Proofs.YtemgabekckhckaaGreat
open Go.RowKit
set_option linter.unusedVariables false
set_option linter.unusedSimpArgs false

set_option maxHeartbeats 4000000 in
theorem implSameBox_any (xname : ByteArray) (xvalidity : Int) (xnext : Int) (xmsgs : List DMsg) (xmsgsA : Option Addr) (xmsgsC : Nat) (yname : ByteArray) (yvalidity : Int) (ynext : Int) (ymsgs : List DMsg) (ymsgsA : Option Addr) (ymsgsC : Nat) (w : World) (xmsgsR : Rd w xmsgsA xmsgsC 3 xmsgs.length (xmsgs.flatMap DMsg.cells)) (ymsgsR : Rd w ymsgsA ymsgsC 3 ymsgs.length (ymsgs.flatMap DMsg.cells)) (r : Bool) (Hr : Hid (decide (xname = yname ∧ xvalidity = yvalidity ∧ xnext = ynext ∧ xmsgs = ymsgs) = r)) :
    Calls Tryz.prog 45 #[.agg #[.string xname, .int .i64 xvalidity, .int .i64 xnext, .slice xmsgsA xmsgs.length xmsgsC], .agg #[.string yname, .int .i64 yvalidity, .int .i64 ynext, .slice ymsgsA ymsgs.length ymsgsC]] w fun e w' => e = .returned (.bool r) ∧ Ext w w' := by
  have Hxmsgs := Lib.hid xmsgsR
  clear xmsgsR
  have Hymsgs := Lib.hid ymsgsR
  clear ymsgsR
  obtain ⟨d, hd⟩ : ∃ d, decide (xmsgs = ymsgs) = d := ⟨_, rfl⟩
  have HD := Lib.hid hd
  clear hd
  by_cases hp : xname = yname
  rotate_left
  · have hename : (xname.toList == yname.toList) = false := by rw [str_beq]; simp [hp]
    have hnname : (!(xname.toList == yname.toList)) = true := by rw [str_beq]; simp [hp]
    have HPname := Lib.hid hp
    clear hp
    go_enter Tryz.func45, Tryz.ntmps45
    go_wp2_with ((go_at_call 80; refine (equalMsgS_any _ _ _ _ _ _ _ (Hxmsgs.out.ext bxt) (Hymsgs.out.ext bxt) d HD).mono ?_; rintro e w1 ⟨rfl, nq, rfl⟩))
    go_ret
    refine ⟨ret_bool ?_, bxt⟩
    rw [← Hr.out]
    simp [HPname.out]
  have hename : (xname.toList == yname.toList) = true := by rw [str_beq]; simp [hp]
  have hnname : (!(xname.toList == yname.toList)) = false := by rw [str_beq]; simp [hp]
  have HPname := Lib.hid hp
  clear hp
  by_cases hp : xvalidity = yvalidity
  rotate_left
  · have hevalidity : (xvalidity == yvalidity) = false := by simp [hp]
    have hnvalidity : (xvalidity != yvalidity) = true := by simp [hp]
    have HPvalidity := Lib.hid hp
    clear hp
    go_enter Tryz.func45, Tryz.ntmps45
    go_wp2_with ((go_at_call 80; refine (equalMsgS_any _ _ _ _ _ _ _ (Hxmsgs.out.ext bxt) (Hymsgs.out.ext bxt) d HD).mono ?_; rintro e w1 ⟨rfl, nq, rfl⟩))
    go_ret
    refine ⟨ret_bool ?_, bxt⟩
    rw [← Hr.out]
    simp [HPname.out, HPvalidity.out]
  have hevalidity : (xvalidity == yvalidity) = true := by simp [hp]
  have hnvalidity : (xvalidity != yvalidity) = false := by simp [hp]
  have HPvalidity := Lib.hid hp
  clear hp
  by_cases hp : xnext = ynext
  rotate_left
  · have henext : (xnext == ynext) = false := by simp [hp]
    have hnnext : (xnext != ynext) = true := by simp [hp]
    have HPnext := Lib.hid hp
    clear hp
    go_enter Tryz.func45, Tryz.ntmps45
    go_wp2_with ((go_at_call 80; refine (equalMsgS_any _ _ _ _ _ _ _ (Hxmsgs.out.ext bxt) (Hymsgs.out.ext bxt) d HD).mono ?_; rintro e w1 ⟨rfl, nq, rfl⟩))
    go_ret
    refine ⟨ret_bool ?_, bxt⟩
    rw [← Hr.out]
    simp [HPname.out, HPvalidity.out, HPnext.out]
  have henext : (xnext == ynext) = true := by simp [hp]
  have hnnext : (xnext != ynext) = false := by simp [hp]
  have HPnext := Lib.hid hp
  clear hp
  cases d with
  | false =>
    have HPmsgs := Lib.hid (of_decide_eq_false HD.out)
    go_enter Tryz.func45, Tryz.ntmps45
    go_wp2_with ((go_at_call 80; refine (equalMsgS_any _ _ _ _ _ _ _ (Hxmsgs.out.ext bxt) (Hymsgs.out.ext bxt) false HD).mono ?_; rintro e w1 ⟨rfl, nq, rfl⟩))
    go_ret
    refine ⟨ret_bool ?_, bxt⟩
    rw [← Hr.out]
    simp [HPname.out, HPvalidity.out, HPnext.out, HPmsgs.out]
  | true =>
    have HPmsgs := Lib.hid (of_decide_eq_true HD.out)
    go_enter Tryz.func45, Tryz.ntmps45
    go_wp2_with ((go_at_call 80; refine (equalMsgS_any _ _ _ _ _ _ _ (Hxmsgs.out.ext bxt) (Hymsgs.out.ext bxt) true HD).mono ?_; rintro e w1 ⟨rfl, nq, rfl⟩))
    go_ret
    refine ⟨ret_bool ?_, bxt⟩
    rw [← Hr.out]
    simp [HPname.out, HPvalidity.out, HPnext.out, HPmsgs.out]

set_option maxRecDepth 100000 in
set_option maxHeartbeats 4000000 in
theorem specSameBox_any (xname : ByteArray) (xvalidity : Int) (xnext : Int) (xmsgs : List DMsg) (xmsgsA : Option Addr) (xmsgsC : Nat) (yname : ByteArray) (yvalidity : Int) (ynext : Int) (ymsgs : List DMsg) (ymsgsA : Option Addr) (ymsgsC : Nat) (w : World) (xmsgsR : Rd w xmsgsA xmsgsC 3 xmsgs.length (xmsgs.flatMap DMsg.cells)) (ymsgsR : Rd w ymsgsA ymsgsC 3 ymsgs.length (ymsgs.flatMap DMsg.cells)) (r : Bool) (Hr : Hid (decide (xname = yname ∧ xvalidity = yvalidity ∧ xnext = ynext ∧ xmsgs = ymsgs) = r)) :
    Calls Tryz.prog 40 #[.agg #[.string xname, .int .i64 xvalidity, .int .i64 xnext, .slice xmsgsA xmsgs.length xmsgsC], .agg #[.string yname, .int .i64 yvalidity, .int .i64 ynext, .slice ymsgsA ymsgs.length ymsgsC]] w fun e w' => e = .returned (.bool r) ∧ Ext w w' := by
  have hlx : xmsgs.length ≤ 9223372036854775807 := Nat.le_trans xmsgsR.nc xmsgsR.cm
  have h3 := eqMsgG
  have Hxmsgs := Lib.hid xmsgsR
  clear xmsgsR
  have Hymsgs := Lib.hid ymsgsR
  clear ymsgsR
  by_cases hp : xname = yname
  rotate_left
  · have hename : (xname.toList == yname.toList) = false := by rw [str_beq]; simp [hp]
    have hnname : (!(xname.toList == yname.toList)) = true := by rw [str_beq]; simp [hp]
    have HPname := Lib.hid hp
    clear hp
    go_enter Tryz.func40, Tryz.ntmps40
    go_wp2_with fail
    go_ret
    refine ⟨ret_bool ?_, bxt⟩
    rw [← Hr.out]
    simp [HPname.out]
  have hename : (xname.toList == yname.toList) = true := by rw [str_beq]; simp [hp]
  have hnname : (!(xname.toList == yname.toList)) = false := by rw [str_beq]; simp [hp]
  have HPname := Lib.hid hp
  clear hp
  by_cases hp : xvalidity = yvalidity
  rotate_left
  · have hevalidity : (xvalidity == yvalidity) = false := by simp [hp]
    have hnvalidity : (xvalidity != yvalidity) = true := by simp [hp]
    have HPvalidity := Lib.hid hp
    clear hp
    go_enter Tryz.func40, Tryz.ntmps40
    go_wp2_with fail
    go_ret
    refine ⟨ret_bool ?_, bxt⟩
    rw [← Hr.out]
    simp [HPname.out, HPvalidity.out]
  have hevalidity : (xvalidity == yvalidity) = true := by simp [hp]
  have hnvalidity : (xvalidity != yvalidity) = false := by simp [hp]
  have HPvalidity := Lib.hid hp
  clear hp
  by_cases hp : xnext = ynext
  rotate_left
  · have henext : (xnext == ynext) = false := by simp [hp]
    have hnnext : (xnext != ynext) = true := by simp [hp]
    have HPnext := Lib.hid hp
    clear hp
    go_enter Tryz.func40, Tryz.ntmps40
    go_wp2_with fail
    go_ret
    refine ⟨ret_bool ?_, bxt⟩
    rw [← Hr.out]
    simp [HPname.out, HPvalidity.out, HPnext.out]
  have henext : (xnext == ynext) = true := by simp [hp]
  have hnnext : (xnext != ynext) = false := by simp [hp]
  have HPnext := Lib.hid hp
  clear hp
  by_cases hne : xmsgs.length = ymsgs.length
  rotate_left
  · have hn1 : ((xmsgs.length : Int) != (ymsgs.length : Int)) = true := by simp; omega
    have HN : Hid (xmsgs ≠ ymsgs) := fun h => hne (by rw [h])
    clear hne
    go_enter Tryz.func40, Tryz.ntmps40
    go_wp2_with fail
    go_ret
    refine ⟨ret_bool ?_, bxt⟩
    rw [← Hr.out]
    simp [HN.out, HPname.out, HPvalidity.out, HPnext.out]
  have hn1 : ((xmsgs.length : Int) != (ymsgs.length : Int)) = false := by simp; omega
  have HN := Lib.hid hne
  clear hne
  go_enter Tryz.func40, Tryz.ntmps40
  go_wp2_with fail
  go_loopw [5] (fun i wr => ∃ k : Nat, k ≤ xmsgs.length ∧ i = .int .i64 k ∧ Hid (∀ j, j < k → xmsgs[j]? = ymsgs[j]?) ∧ Hid (∃ n, wr = ((w.alloc (.cells #[.string xname, .int .i64 xvalidity, .int .i64 xnext, .slice xmsgsA xmsgs.length xmsgsC] 32)).alloc (.cells #[.string yname, .int .i64 yvalidity, .int .i64 ynext, .slice ymsgsA ymsgs.length ymsgsC] 32)).drewN n)) (fun i _ => xmsgs.length - (intOf i).toNat)
  case atStart => exact ⟨0, Nat.zero_le _, rfl, by simp [Hid], ⟨0, rfl⟩⟩
  case round =>
    obtain ⟨k, hk, rfl, HP, HB⟩ := hrel
    obtain ⟨nq0, hw0⟩ := HB.out
    subst hw0
    by_cases hlt : k < xmsgs.length
    · have hlty : k < ymsgs.length := by have := HN.out; omega
      have hlty2 : (k : Int) < (ymsgs.length : Int) := by omega
      obtain ⟨b1, o1, rfl, hb1, hat1⟩ := Hxmsgs.out.ptr (by omega)
      obtain ⟨b2, o2, rfl, hb2, hat2⟩ := Hymsgs.out.ptr (by omega)
      obtain ⟨hx0, hx1, hx2⟩ := DMsg.at hat1 k hlt
      obtain ⟨hy0, hy1, hy2⟩ := DMsg.at hat2 k hlty
      have HA1 := Lib.hid hat1
      have HA2 := Lib.hid hat2
      clear hat1 hat2
      have hb1' : b1 < w.heap.size + 1 := by omega
      have hb2' : b2 < w.heap.size + 1 := by omega
      obtain ⟨d, hd⟩ : ∃ d, decide (xmsgs[k] = ymsgs[k]) = d := ⟨_, rfl⟩
      have hq := eqMsgB xmsgs[k] ymsgs[k] d hd
      have HD := Lib.hid hd
      clear hd
      go_wp2_with fail
      go_quiet (fail)
      cases d
      · go_wp2_with fail
        go_ret
        refine ⟨ret_bool ?_, bxt⟩
        rw [← Hr.out]
        simp [ne_at hlt hlty (of_decide_eq_false HD.out), HPname.out, HPvalidity.out, HPnext.out]
      · go_wp2_with fail
        go_roundw
        case rel => exact ⟨k + 1, by omega, by go_num, pre_succ HP.out hlt hlty (of_decide_eq_true HD.out), ⟨_, rfl⟩⟩
        case measure => simp [intOf]; omega
    · go_wp2_with fail
      go_ret
      refine ⟨ret_bool ?_, bxt⟩
      rw [← Hr.out]
      have hkk : k = xmsgs.length := by omega
      subst hkk
      simp [all_pre HP.out HN.out, HPname.out, HPvalidity.out, HPnext.out]

set_option maxRecDepth 100000 in
set_option maxHeartbeats 2000000 in
theorem specSameBoxes_any (x y : List PBox) (a1 a2 : Option Addr) (c1 c2 : Nat) (w : World) (R1 : Rd w a1 c1 4 x.length (x.flatMap PBox.cells)) (M1 : RdM w x) (R2 : Rd w a2 c2 4 y.length (y.flatMap PBox.cells)) (M2 : RdM w y) (r : Bool) (Hr : Hid (decide (x.map PBox.box = y.map PBox.box) = r)) :
    Calls Tryz.prog 20 #[.slice a1 x.length c1, .slice a2 y.length c2] w fun e w' => e = .returned (.bool r) ∧ Ext w w' := by
  have hlx : x.length ≤ 9223372036854775807 := Nat.le_trans R1.nc R1.cm
  have H1 := Lib.hid R1
  have H2 := Lib.hid R2
  have HM1 := Lib.hid M1
  have HM2 := Lib.hid M2
  clear R1 R2 M1 M2
  by_cases hne : x.length = y.length
  · rw [← hne]
    have HN := Lib.hid hne
    clear hne
    go_enter Tryz.func20, Tryz.ntmps20
    go_wp2_with fail
    go_loopw [5] (fun i wr => ∃ k : Nat, k ≤ x.length ∧ i = .int .i64 k ∧ Hid (∀ j, j < k → (x.map PBox.box)[j]? = (y.map PBox.box)[j]?) ∧ Below w.heap.size w wr) (fun i _ => x.length - (intOf i).toNat)
    case atStart => exact ⟨0, Nat.zero_le _, rfl, by simp [Hid], Below.refl _ _⟩
    case round =>
      obtain ⟨k, hk, rfl, HP, hb⟩ := hrel
      by_cases hlt : k < x.length
      · have hlty : k < y.length := by have := HN.out; omega
        have hltyi : (k : Int) < (x.length : Int) := by omega
        obtain ⟨b1, o1, rfl, hb1, hat1⟩ := H1.out.ptr (by omega)
        obtain ⟨b2, o2, rfl, hb2, hat2⟩ := H2.out.ptr (by omega)
        obtain ⟨hx0, hx1, hx2, hx3⟩ := PBox.at (hat1.ext hb1 hb) k hlt
        obtain ⟨hy0, hy1, hy2, hy3⟩ := PBox.at (hat2.ext hb2 hb) k hlty
        have hbw : w.heap.size ≤ wr.heap.size := hb.size
        have hb1' : b1 < wr.heap.size := by omega
        have hb2' : b2 < wr.heap.size := by omega
        have hb1p : b1 < wr.heap.size + 1 := by omega
        have hb2p : b2 < wr.heap.size + 1 := by omega
        have HA1 := Lib.hid hat1
        have HA2 := Lib.hid hat2
        clear hat1 hat2
        obtain ⟨d, hd⟩ : ∃ d, decide (x[k].name = y[k].name ∧ x[k].validity = y[k].validity ∧ x[k].next = y[k].next ∧ x[k].msgs = y[k].msgs) = d := ⟨_, rfl⟩
        have HD := Lib.hid hd
        clear hd
        go_wp2_with fail
        go_region_held3 (fun w' => Below wr.heap.size wr w' ∧ (∀ b o, b < wr.heap.size → w'.cell? ⟨b, o, none⟩ = wr.cell? ⟨b, o, none⟩)) (first | with_reducible exact sBeg _ | with_reducible exact sExt (by assumption) (by assumption)) ((go_at_call 40; refine (specSameBox_any x[k].name x[k].validity x[k].next x[k].msgs _ _ y[k].name y[k].validity y[k].next y[k].msgs _ _ _ ((HM1.out.at k hlt).ext bxt) ((HM2.out.at k hlty).ext bxt) d HD).mono ?_; rintro e w1 ⟨rfl, hq1⟩))
        have hb3 : Below w.heap.size w w1 := Below.ext hb (Below.ext (Below.refl _ _).drew hq1)
        clear hx0 hx1 hx2 hx3 hy0 hy1 hy2 hy3
        have hxm : k < (x.map PBox.box).length := by simpa using hlt
        have hym : k < (y.map PBox.box).length := by simpa using hlty
        cases d
        · have hnb : (x.map PBox.box)[k] ≠ (y.map PBox.box)[k] := fun e => of_decide_eq_false HD.out (by simpa [PBox.box] using e)
          have HNB := Lib.hid hnb
          clear hnb
          go_wp2_with fail
          go_ret
          refine ⟨ret_bool ?_, hb3⟩
          rw [← Hr.out]
          simp only [ne_at hxm hym HNB.out, decide_false]
        · have hnb : (x.map PBox.box)[k] = (y.map PBox.box)[k] := by simpa [PBox.box] using of_decide_eq_true HD.out
          have HNB := Lib.hid hnb
          clear hnb
          go_wp2_with fail
          go_roundw
          case rel => exact ⟨k + 1, by omega, by go_num, pre_succ HP.out hxm hym HNB.out, hb3⟩
          case measure => simp [intOf]; omega
      · go_wp2_with fail
        go_ret
        refine ⟨ret_bool ?_, hb⟩
        rw [← Hr.out]
        have hkk : k = x.length := by omega
        subst hkk
        simp only [all_pre (x := x.map PBox.box) (y := y.map PBox.box) (by simpa using HP.out) (by simpa using HN.out), decide_true]
  · have hn1 : ((x.length : Int) != (y.length : Int)) = true := by simp; omega
    have HN := Lib.hid hne
    clear hne
    go_enter Tryz.func20, Tryz.ntmps20
    go_wp2_with fail
    go_ret
    refine ⟨ret_bool ?_, Below.refl _ _⟩
    rw [← Hr.out]
    have : x.map PBox.box ≠ y.map PBox.box := fun h => HN.out (box_len h)
    simp only [this, decide_false]

set_option maxRecDepth 100000 in
set_option maxHeartbeats 2000000 in
theorem sameBoxesIdx_any (x y : List PBox) (a1 a2 : Option Addr) (c1 c2 : Nat) (w : World) (R1 : Rd w a1 c1 4 x.length (x.flatMap PBox.cells)) (M1 : RdM w x) (R2 : Rd w a2 c2 4 y.length (y.flatMap PBox.cells)) (M2 : RdM w y) (r : Bool) (Hr : Hid (decide (x.map PBox.box = y.map PBox.box) = r)) :
    Calls Tryz.prog 44 #[.slice a1 x.length c1, .slice a2 y.length c2, .func (.func 45) #[] #[]] w fun e w' => e = .returned (.bool r) ∧ Ext w w' := by
  have hlx : x.length ≤ 9223372036854775807 := Nat.le_trans R1.nc R1.cm
  have H1 := Lib.hid R1
  have H2 := Lib.hid R2
  have HM1 := Lib.hid M1
  have HM2 := Lib.hid M2
  clear R1 R2 M1 M2
  by_cases hne : x.length = y.length
  · rw [← hne]
    have HN := Lib.hid hne
    clear hne
    go_enter Tryz.func44, Tryz.ntmps44
    go_wp2_with fail
    go_loopw [17] (fun i wr => ∃ k : Nat, k ≤ x.length ∧ i = .int .i64 k ∧ Hid (∀ j, j < k → (x.map PBox.box)[j]? = (y.map PBox.box)[j]?) ∧ Below w.heap.size w wr) (fun i _ => x.length - (intOf i).toNat)
    case atStart => exact ⟨0, Nat.zero_le _, rfl, by simp [Hid], Below.refl _ _⟩
    case round =>
      obtain ⟨k, hk, rfl, HP, hb⟩ := hrel
      by_cases hlt : k < x.length
      · have hlty : k < y.length := by have := HN.out; omega
        have hltyi : (k : Int) < (x.length : Int) := by omega
        obtain ⟨b1, o1, rfl, hb1, hat1⟩ := H1.out.ptr (by omega)
        obtain ⟨b2, o2, rfl, hb2, hat2⟩ := H2.out.ptr (by omega)
        obtain ⟨hx0, hx1, hx2, hx3⟩ := PBox.at (hat1.ext hb1 hb) k hlt
        obtain ⟨hy0, hy1, hy2, hy3⟩ := PBox.at (hat2.ext hb2 hb) k hlty
        have hbw : w.heap.size ≤ wr.heap.size := hb.size
        have hb1' : b1 < wr.heap.size := by omega
        have hb2' : b2 < wr.heap.size := by omega
        have hb1p : b1 < wr.heap.size + 1 := by omega
        have hb2p : b2 < wr.heap.size + 1 := by omega
        have HA1 := Lib.hid hat1
        have HA2 := Lib.hid hat2
        clear hat1 hat2
        obtain ⟨d, hd⟩ : ∃ d, decide (x[k].name = y[k].name ∧ x[k].validity = y[k].validity ∧ x[k].next = y[k].next ∧ x[k].msgs = y[k].msgs) = d := ⟨_, rfl⟩
        have HD := Lib.hid hd
        clear hd
        go_wp2_with fail
        refine (implSameBox_any x[k].name x[k].validity x[k].next x[k].msgs _ _ y[k].name y[k].validity y[k].next y[k].msgs _ _ _ ((HM1.out.at k hlt).ext bxt) ((HM2.out.at k hlty).ext bxt) d HD).mono ?_
        rintro e w1 ⟨rfl, hq1⟩
        have hb3 : Below w.heap.size w w1 := bxt
        clear hx0 hx1 hx2 hx3 hy0 hy1 hy2 hy3
        have hxm : k < (x.map PBox.box).length := by simpa using hlt
        have hym : k < (y.map PBox.box).length := by simpa using hlty
        cases d
        · have hnb : (x.map PBox.box)[k] ≠ (y.map PBox.box)[k] := fun e => of_decide_eq_false HD.out (by simpa [PBox.box] using e)
          have HNB := Lib.hid hnb
          clear hnb
          go_wp2_with fail
          go_ret
          refine ⟨ret_bool ?_, hb3⟩
          rw [← Hr.out]
          simp only [ne_at hxm hym HNB.out, decide_false]
        · have hnb : (x.map PBox.box)[k] = (y.map PBox.box)[k] := by simpa [PBox.box] using of_decide_eq_true HD.out
          have HNB := Lib.hid hnb
          clear hnb
          go_wp2_with fail
          go_roundw
          case rel => exact ⟨k + 1, by omega, by go_num, pre_succ HP.out hxm hym HNB.out, hb3⟩
          case measure => simp [intOf]; omega
      · go_wp2_with fail
        go_ret
        refine ⟨ret_bool ?_, hb⟩
        rw [← Hr.out]
        have hkk : k = x.length := by omega
        subst hkk
        simp only [all_pre (x := x.map PBox.box) (y := y.map PBox.box) (by simpa using HP.out) (by simpa using HN.out), decide_true]
  · have hn1 : ((x.length : Int) != (y.length : Int)) = true := by simp; omega
    have HN := Lib.hid hne
    clear hne
    go_enter Tryz.func44, Tryz.ntmps44
    go_wp2_with fail
    go_ret
    refine ⟨ret_bool ?_, Below.refl _ _⟩
    rw [← Hr.out]
    have : x.map PBox.box ≠ y.map PBox.box := fun h => HN.out (box_len h)
    simp only [this, decide_false]

set_option maxHeartbeats 1000000 in
theorem implSameBoxes_any (x y : List PBox) (a1 a2 : Option Addr) (c1 c2 : Nat) (w : World) (R1 : Rd w a1 c1 4 x.length (x.flatMap PBox.cells)) (M1 : RdM w x) (R2 : Rd w a2 c2 4 y.length (y.flatMap PBox.cells)) (M2 : RdM w y) (r : Bool) (Hr : Hid (decide (x.map PBox.box = y.map PBox.box) = r)) :
    Calls Tryz.prog 22 #[.slice a1 x.length c1, .slice a2 y.length c2] w fun e w' => e = .returned (.bool r) ∧ Ext w w' := by
  have H1 := Lib.hid R1
  have H2 := Lib.hid R2
  have HM1 := Lib.hid M1
  have HM2 := Lib.hid M2
  clear R1 R2 M1 M2
  go_enter Tryz.func22, Tryz.ntmps22
  go_wp2_with fail
  refine (sameBoxesIdx_any x y _ _ _ _ _ H1.out HM1.out H2.out HM2.out r Hr).mono ?_
  rintro e w1 ⟨rfl, hb1⟩
  go_wp2_with fail
  go_ret
  exact ⟨rfl, hb1⟩

end Go.Proofs.YtemgabekckhckaaGreat

namespace Go.Proofs.YtemgabekckhckaaGreat
open Go.RowKit
set_option linter.unusedVariables false
set_option linter.unusedSimpArgs false

set_option maxRecDepth 100000 in
set_option maxHeartbeats 8000000 in
theorem implAppliedAll_law (l : List PBox) (a : Option Addr) (c : Nat) (log : List DCommit) (la : Option Addr) (lc : Nat) (w : World) (R : Rd w a c 4 l.length (l.flatMap PBox.cells)) (M : RdM w l) (hl : l.length ≤ 1048576) (hlm : ∀ y ∈ l, y.msgs.length ≤ 1048576) (gn : ∀ y ∈ l, y.name.size ≤ 9223372036854775807) (gt : ∀ y ∈ l, ∀ m ∈ y.msgs, m.text.size ≤ 9223372036854775807) (RL : Rd w la lc 6 log.length (log.flatMap DCommit.cells)) (hll : log.length ≤ 1048576) (gl : ∀ y ∈ log, y.name.size ≤ 9223372036854775807 ∧ y.text.size ≤ 9223372036854775807) (hm : MaxLen w) (rr : List DBox) (rok : Bool) (H : Hid (AllRel (l.map PBox.box) log rr rok)) :
    Calls Tryz.prog 21 #[.slice a l.length c, .slice la log.length lc] w fun e w' => ∃ g q l', e = .returned (.tuple #[.slice g l'.length q, .bool rok]) ∧ OwnBs w' w.heap.size 32 60 g q l' ∧ l'.map PBox.box = rr ∧ Ext w w' := by
  have HR := Lib.hid R
  have HM := Lib.hid M
  have HLM := Lib.hid hlm
  have HRL := Lib.hid RL
  have HGL := Lib.hid gl
  have HMX := Lib.hid hm
  have HG0 := Lib.hid (good_of hl hlm gn gt)
  clear R M hlm RL gl gn gt hm
  go_enter Tryz.func21, Tryz.ntmps21
  go_wp2_with (go_at_call 41; refine (implCopies_any l a c _ (HR.out.ext bxt) (RdM.ext HM.out (show Below w.heap.size w _ from bxt)) (by omega) (fun y hy => by have := HLM.out y hy; omega)).mono ?_; rintro e w1 ⟨gb, q, zs, rfl, hown, hzb, hb1⟩; have HO := Lib.hid hown; have HZB := Lib.hid hzb; clear hown hzb)
  go_loopw [6, 13] (AllLoop 32 60 log rr rok w) (fun _ i _ => log.length - (intOf i).toNat)
  case atStart => exact ⟨0, zs, (some ⟨gb, 0, none⟩), q, Nat.zero_le _, rfl, rfl, Lib.hid (by rw [HZB.out]; exact HG0.out), Lib.hid (by rw [HZB.out]; exact H.out), Lib.hid (OwnBs.ext HO.out bxt), bxt⟩
  case round =>
    obtain ⟨k, zs, g, q, hk, rfl, rfl, HG, HA, HO, hbe⟩ := hrel
    by_cases hlt : k < log.length
    · obtain ⟨b, ofs, rfl, hbb, hat⟩ := HRL.out.ptr (by omega)
      have hbw : b < wr.heap.size := by (have := hbe.size; omega)
      obtain ⟨x0, x1, x2, x3, x4, x5⟩ := DCommit.at (hat.ext hbb hbe) k hlt
      have HAT := Lib.hid hat
      clear hat
      have hws : w.heap.size ≤ wr.heap.size := hbe.size
      have HMW := Lib.hid (HMX.out.ext hbe)
      obtain ⟨r, hr⟩ := boolOf (AppliesP (zs.map PBox.box) log[k])
      have HT : Hid (Tells r (AppliesP (zs.map PBox.box) log[k])) := Lib.hid hr
      have HST := Lib.hid (allRel_step hlt HA.out hr)
      clear hr
      cases r with
      | false =>
        obtain ⟨hz1, hz2⟩ : zs.map PBox.box = rr ∧ false = rok := by simpa using HST.out
        subst hz2
        have HZ1 := Lib.hid hz1
        clear hz1
        go_wp2_with (go_at_call 42; refine (implApplies_any zs _ _ log[k] _ (OwnBs.ext HO.out (show Below wr.heap.size wr _ from bxt)).rd (OwnBs.ext HO.out (show Below wr.heap.size wr _ from bxt)).rdm (HMW.out.ext bxt) (good_to HG.out).2.2.1 (good_to HG.out).2.2.2 (HGL.out _ (List.getElem_mem hlt)).1 (HGL.out _ (List.getElem_mem hlt)).2 false HT).mono ?_; rintro e w2 ⟨rfl, hb2⟩; have cm0_0 : w2.cell? ⟨wr.heap.size, 0, none⟩ = some (.int .i64 log[k].kind) := (hb2.cell (p := ⟨wr.heap.size, 0, none⟩) smx).trans kpx; have cm0_1 : w2.cell? ⟨wr.heap.size, 1, none⟩ = some (.int .i64 log[k].validity) := (hb2.cell (p := ⟨wr.heap.size, 1, none⟩) smx).trans kpx; have cm0_2 : w2.cell? ⟨wr.heap.size, 2, none⟩ = some (.int .i64 log[k].uid) := (hb2.cell (p := ⟨wr.heap.size, 2, none⟩) smx).trans kpx; have cm0_3 : w2.cell? ⟨wr.heap.size, 3, none⟩ = some (.int .i64 log[k].flags) := (hb2.cell (p := ⟨wr.heap.size, 3, none⟩) smx).trans kpx; have cm0_4 : w2.cell? ⟨wr.heap.size, 4, none⟩ = some (.string log[k].name) := (hb2.cell (p := ⟨wr.heap.size, 4, none⟩) smx).trans kpx; have cm0_5 : w2.cell? ⟨wr.heap.size, 5, none⟩ = some (.string log[k].text) := (hb2.cell (p := ⟨wr.heap.size, 5, none⟩) smx).trans kpx; have sm0 : wr.heap.size < w2.heap.size := (by have hss := hb2.size; first | omega | (simp at hss; omega)); have hbr2 : Below wr.heap.size wr w2 := bxt)
        refine bodyPost_ret (v := .tuple #[.slice g (zs).length q, .bool false]) (by simp [results, Tryz.results21, go_sem, *]) rfl ⟨g, q, zs, rfl, OwnBs.ext HO.out (show Below wr.heap.size wr _ from bxt), HZ1.out, Below.ext hbe (show Below wr.heap.size wr _ from bxt)⟩
      | true =>
        have HAP : Hid (AppliesP (zs.map PBox.box) log[k]) := Lib.hid (HT.out.1 rfl)
        have HST2 : Hid (AllRel (appD (zs.map PBox.box) log[k]) (log.drop (k + 1)) rr rok) := Lib.hid (by simpa using HST.out)
        go_wp2_with (first | (go_at_call 42; refine (implApplies_any zs _ _ log[k] _ (OwnBs.ext HO.out (show Below wr.heap.size wr _ from bxt)).rd (OwnBs.ext HO.out (show Below wr.heap.size wr _ from bxt)).rdm (HMW.out.ext bxt) (good_to HG.out).2.2.1 (good_to HG.out).2.2.2 (HGL.out _ (List.getElem_mem hlt)).1 (HGL.out _ (List.getElem_mem hlt)).2 true HT).mono ?_; rintro e w2 ⟨rfl, hb2⟩; have cm0_0 : w2.cell? ⟨wr.heap.size, 0, none⟩ = some (.int .i64 log[k].kind) := (hb2.cell (p := ⟨wr.heap.size, 0, none⟩) smx).trans kpx; have cm0_1 : w2.cell? ⟨wr.heap.size, 1, none⟩ = some (.int .i64 log[k].validity) := (hb2.cell (p := ⟨wr.heap.size, 1, none⟩) smx).trans kpx; have cm0_2 : w2.cell? ⟨wr.heap.size, 2, none⟩ = some (.int .i64 log[k].uid) := (hb2.cell (p := ⟨wr.heap.size, 2, none⟩) smx).trans kpx; have cm0_3 : w2.cell? ⟨wr.heap.size, 3, none⟩ = some (.int .i64 log[k].flags) := (hb2.cell (p := ⟨wr.heap.size, 3, none⟩) smx).trans kpx; have cm0_4 : w2.cell? ⟨wr.heap.size, 4, none⟩ = some (.string log[k].name) := (hb2.cell (p := ⟨wr.heap.size, 4, none⟩) smx).trans kpx; have cm0_5 : w2.cell? ⟨wr.heap.size, 5, none⟩ = some (.string log[k].text) := (hb2.cell (p := ⟨wr.heap.size, 5, none⟩) smx).trans kpx; have sm0 : wr.heap.size < w2.heap.size := (by have hss := hb2.size; first | omega | (simp at hss; omega)); have hbr2 : Below wr.heap.size wr w2 := bxt) | (go_at_call 43; refine (perform_any zs g q w.heap.size log[k] _ (OwnBs.ext HO.out (show Below wr.heap.size wr _ from bxt)) (by first | exact Nat.le_trans hws hbr2.size | (simp; have := hbr2.size; omega)) HAP.out).mono ?_; rintro e w5 ⟨g5, q5, l5, rfl, ho5, hl5, hb5⟩; have HO5 := Lib.hid ho5; have HL5 := Lib.hid hl5; clear ho5 hl5))
        go_roundw
        case rel => exact ⟨k + 1, l5, g5, q5, by omega, by go_num, rfl, Lib.hid (by rw [HL5.out]; exact good_app HG.out HAP.out (HGL.out _ (List.getElem_mem hlt)).1 (HGL.out _ (List.getElem_mem hlt)).2), Lib.hid (by rw [HL5.out]; exact HST2.out), HO5, Below.trans (show Below w.heap.size w w2 from Below.ext hbe hbr2) hb5⟩
        case measure => simp [intOf]; omega
    · obtain ⟨hz1, hz2⟩ := allRel_end (by omega) HA.out
      subst hz2
      have HZ1 := Lib.hid hz1
      have hkk : k = log.length := by omega
      have HKK := Lib.hid hkk
      clear hkk hz1
      go_wp2_with fail
      refine bodyPost_ret (v := .tuple #[.slice g (zs).length q, .bool true]) (by simp [results, Tryz.results21, go_sem, *]) rfl ⟨g, q, zs, rfl, OwnBs.ext HO.out (show Below wr.heap.size wr _ from bxt), HZ1.out, Below.ext hbe (show Below wr.heap.size wr _ from bxt)⟩
end Go.Proofs.YtemgabekckhckaaGreat

namespace Go.Proofs.YtemgabekckhckaaGreat
open Go.RowKit
set_option linter.unusedVariables false
set_option linter.unusedSimpArgs false

open Go.Maps
def boolR (v : Value) : Option (DataW Unit × List MemPlace) := match v with | .bool b => some (.lit (.bool b), []) | _ => none
theorem boolR_inv {v : Value} {c : Bool} {ps : List MemPlace} (h : boolR v = some (.lit (.bool c), ps)) : v = .bool c := by
  cases v <;> simp [boolR] at h
  exact congrArg _ h.1
theorem wpList_lookup_bool {P : Program} (w : World) {ops : Array Oper} {rest : List Oper} {o : Oper} {a : Act} {Q : Exit → Act → World → Prop}
    (hg : o.guard = none) (m x : Operand) (t : TypeId) (hop : o.op = Op.lookup t m x false)
    (k e : TypeId) (K : Keyed P k) (ht : P.underlying t = some (.map k e)) (hz : (zeroValue e).run P w = .ok (.bool false) w) (b n : Nat) (D : DataW Unit)
    (hm : a.eval m = .map (some b)) (hown : w.ownsMap P k boolR b n D) (key : Value) (kl : Lit) (hx : a.eval x = key) (hkey : keyOf P k key = some kl) (c : Bool) (hat : D.atKey kl (.lit (.bool false)) = .lit (.bool c))
    (hK : wpList P ops Q rest (a.put o.dst (.bool c)) w) : wpList P ops Q (o :: rest) a w := by
  refine wpList_plain hg fun K' hK' => ?_
  obtain ⟨v, ps, hrun, hv⟩ := hown.lookup K ht hz (zd := .lit (.bool false)) (zp := []) rfl hkey
  rw [hat] at hv
  obtain rfl := boolR_inv hv
  unfold Oper.wp
  simp [execOp, hop, hm, hx, hrun, Result.andThen]
  exact hK' _ _ hK
/-- a creation with this number lies below k -/
def HasM (l : List DCommit) (k : Nat) (v : Int) : Prop := ∃ i, ∃ hi : i < l.length, i < k ∧ l[i].kind = 1 ∧ l[i].validity = v
def MapTo (D : DataW Unit) (l : List DCommit) (k : Nat) : Prop := Tidy D ∧ ∀ v r, Tells r (HasM l k v) → D.atKey (.int .i64 v) (.lit (.bool false)) = .lit (.bool r)
theorem mapTo_zero (l : List DCommit) : MapTo (.map []) l 0 := ⟨tidy_empty, fun v r h => by
  obtain rfl : r = false := h.eq_false (fun ⟨i, hi, h0, _⟩ => by omega)
  rfl⟩
theorem hasM_succ {l : List DCommit} {k : Nat} (hk : k < l.length) (v : Int) : HasM l (k + 1) v ↔ HasM l k v ∨ (l[k].kind = 1 ∧ l[k].validity = v) := by
  constructor
  · rintro ⟨i, hi, h1, h2⟩
    by_cases e : i = k
    · subst e; exact Or.inr h2
    · exact Or.inl ⟨i, hi, by omega, h2⟩
  · rintro (⟨i, hi, h1, h2⟩ | h)
    · exact ⟨i, hi, by omega, h2⟩
    · exact ⟨k, hk, by omega, h⟩
theorem mapTo_skip {D : DataW Unit} {l : List DCommit} {k : Nat} (hk : k < l.length) (h : MapTo D l k) (hn : l[k].kind ≠ 1) : MapTo D l (k + 1) := ⟨h.1, fun v r hr => h.2 v r ⟨fun e => ((hasM_succ hk v).1 (hr.1 e)).resolve_right (fun h => hn h.1), fun h2 => hr.2 ((hasM_succ hk v).2 (Or.inl h2))⟩⟩
theorem mapTo_put {D : DataW Unit} {l : List DCommit} {k : Nat} (hk : k < l.length) (h : MapTo D l k) (hn : l[k].kind = 1) (hkl : WideAt.IsKeyLit (.int .i64 l[k].validity)) : MapTo (D.put (.int .i64 l[k].validity) (.lit (.bool true))) l (k + 1) := by
  refine ⟨h.1.put hkl _, fun v r hr => ?_⟩
  by_cases e : v = l[k].validity
  · subst e
    obtain rfl : r = true := hr.2 ((hasM_succ hk _).2 (Or.inr ⟨hn, rfl⟩))
    exact atKey_put_same h.1.isMap hkl _ _
  · rw [atKey_put_other (by simpa using e)]
    exact h.2 v r ⟨fun e2 => ((hasM_succ hk v).1 (hr.1 e2)).resolve_right (fun h => e h.2.symm), fun h2 => hr.2 ((hasM_succ hk v).2 (Or.inl h2))⟩
theorem zeroB (w : World) : (zeroValue 4).run Tryz.prog w = .ok (.bool false) w := by kernel_rfl
theorem lawI : Keyed Tryz.prog 3 := int_keyed Tryz.underlying3
theorem keyI (v : Int) (h : 1 ≤ v ∧ v ≤ 999999999) : keyOf Tryz.prog 3 (.int .i64 v) = some (.int .i64 v) := keyOf_int_mk Tryz.underlying3 (WalkArith.wf_i64 (by omega))

theorem implAllFull (l : List DCommit) (la : Option Addr) (lc : Nat) (w : World) (RL : Rd w la lc 6 l.length (l.flatMap DCommit.cells)) (hll : l.length ≤ 1048576) (gl : ∀ y ∈ l, y.name.size ≤ 9223372036854775807 ∧ y.text.size ≤ 9223372036854775807) (hm : MaxLen w) (D : List DBox) (rok : Bool) (H : Hid (allD [] l = (D, rok))) :
    Calls Tryz.prog 21 #[.slice none 0 0, .slice la l.length lc] w fun e w' => ∃ g q l', e = .returned (.tuple #[.slice g l'.length q, .bool rok]) ∧ OwnBs w' w.heap.size 32 60 g q l' ∧ l'.map PBox.box = D ∧ Ext w w' :=
  implAppliedAll_law [] none 0 l la lc w ⟨by simp, Nat.le_refl _, by omega, fun h => by simp at h⟩ (fun y hy => by cases hy) (by simp) (fun y hy => by cases hy) (fun y hy => by cases hy) (fun y hy => by cases hy) RL hll gl hm D rok (Lib.hid H.out)

set_option maxRecDepth 100000 in
set_option maxHeartbeats 8000000 in
theorem implStoreOk_any (b : List PBox) (ba : Option Addr) (bc : Nat) (l : List DCommit) (la : Option Addr) (lc : Nat) (gv : Int) (w : World) (R : Rd w ba bc 4 b.length (b.flatMap PBox.cells)) (M : RdM w b) (RL : Rd w la lc 6 l.length (l.flatMap DCommit.cells)) (hl : b.length ≤ 1048576) (hlm : ∀ y ∈ b, y.msgs.length ≤ 1048576) (hll : l.length ≤ 1048576) (gn : ∀ y ∈ b, y.name.size ≤ 9223372036854775807) (gt : ∀ y ∈ b, ∀ m ∈ y.msgs, m.text.size ≤ 9223372036854775807) (gl : ∀ y ∈ l, y.name.size ≤ 9223372036854775807 ∧ y.text.size ≤ 9223372036854775807) (hm : MaxLen w) (r : Bool) (Hr : Hid (Tells r (StoreP ⟨b.map PBox.box, l, gv⟩))) :
    Calls Tryz.prog 7 #[.agg #[.slice ba b.length bc, .slice la l.length lc, .int .i64 gv]] w fun e w' => e = .returned (.bool r) ∧ Ext w w' := by
  have HR := Lib.hid R
  have HM := Lib.hid M
  have HRL := Lib.hid RL
  have HGL := Lib.hid gl
  have HMX := Lib.hid hm
  have hcm : l.length ≤ 9223372036854775807 := by omega
  clear R M RL gl hlm gn gt hm
  obtain ⟨rg, hrg⟩ := boolOf (0 ≤ gv ∧ gv ≤ 999999999)
  have HRG := Lib.hid hrg
  obtain ⟨D, rok, hD⟩ : ∃ D rok, allD [] l = (D, rok) := ⟨_, _, rfl⟩
  have HD := Lib.hid hD
  obtain ⟨ds, hds⟩ : ∃ d, decide (D = b.map PBox.box) = d := ⟨_, rfl⟩
  have HDS := Lib.hid hds
  clear hrg hD hds
  cases rok with
  | false =>
    go_enter Tryz.func7, Tryz.ntmps7
    go_wp2_with (go_at_call 21; refine (implAllFull l la lc _ (HRL.out.ext bxt) hll HGL.out (HMX.out.ext bxt) D false HD).mono ?_; rintro e w4 ⟨g4, q4, l4, rfl, ho4, hd4, hb4⟩; have HO4 := Lib.hid ho4; have HD4 := Lib.hid hd4; clear ho4 hd4; have cr0_0 : w4.cell? ⟨w.heap.size, 0, none⟩ = some (.slice ba b.length bc) := (hb4.cell (p := ⟨w.heap.size, 0, none⟩) smx).trans kpx; have cr0_1 : w4.cell? ⟨w.heap.size, 1, none⟩ = some (.slice la l.length lc) := (hb4.cell (p := ⟨w.heap.size, 1, none⟩) smx).trans kpx; have cr0_2 : w4.cell? ⟨w.heap.size, 2, none⟩ = some (.int .i64 gv) := (hb4.cell (p := ⟨w.heap.size, 2, none⟩) smx).trans kpx; have sr0 : w.heap.size < w4.heap.size := (by have hss := hb4.size; first | omega | (simp at hss; omega)))
    go_ret
    exact ⟨ret_no Hr.out (fun h => by (have h1 := HD.out; rw [show allD [] l = (b.map PBox.box, true) from h.1] at h1; cases h1)), bxt⟩
  | true =>
  cases ds with
  | false =>
    go_enter Tryz.func7, Tryz.ntmps7
    go_wp2_with (first | (go_at_call 21; refine (implAllFull l la lc _ (HRL.out.ext bxt) hll HGL.out (HMX.out.ext bxt) D true HD).mono ?_; rintro e w4 ⟨g4, q4, l4, rfl, ho4, hd4, hb4⟩; have HO4 := Lib.hid ho4; have HD4 := Lib.hid hd4; clear ho4 hd4; have cr0_0 : w4.cell? ⟨w.heap.size, 0, none⟩ = some (.slice ba b.length bc) := (hb4.cell (p := ⟨w.heap.size, 0, none⟩) smx).trans kpx; have cr0_1 : w4.cell? ⟨w.heap.size, 1, none⟩ = some (.slice la l.length lc) := (hb4.cell (p := ⟨w.heap.size, 1, none⟩) smx).trans kpx; have cr0_2 : w4.cell? ⟨w.heap.size, 2, none⟩ = some (.int .i64 gv) := (hb4.cell (p := ⟨w.heap.size, 2, none⟩) smx).trans kpx; have sr0 : w.heap.size < w4.heap.size := (by have hss := hb4.size; first | omega | (simp at hss; omega))) | (go_at_call 22; refine (implSameBoxes_any l4 b _ _ _ _ _ (HO4.out.rd.ext bxt) (RdM.ext HO4.out.rdm bxt) (HR.out.ext bxt) (RdM.ext HM.out bxt) false (Lib.hid (by rw [HD4.out]; exact HDS.out))).mono ?_; rintro e w6 ⟨rfl, hb6⟩; have hb46 : Ext w4 w6 := bxt; have cs0_0 : w6.cell? ⟨w.heap.size, 0, none⟩ = some (.slice ba b.length bc) := (hb46.cell (p := ⟨w.heap.size, 0, none⟩) smx).trans kpx; have cs0_1 : w6.cell? ⟨w.heap.size, 1, none⟩ = some (.slice la l.length lc) := (hb46.cell (p := ⟨w.heap.size, 1, none⟩) smx).trans kpx; have cs0_2 : w6.cell? ⟨w.heap.size, 2, none⟩ = some (.int .i64 gv) := (hb46.cell (p := ⟨w.heap.size, 2, none⟩) smx).trans kpx; have ss0 : w.heap.size < w6.heap.size := (by have hss := hb46.size; first | omega | (simp at hss; omega))))
    go_ret
    exact ⟨ret_no Hr.out (fun h => by (have h1 := HD.out; rw [show allD [] l = (b.map PBox.box, true) from h.1] at h1; cases h1; exact of_decide_eq_false HDS.out rfl)), bxt⟩
  | true =>
  by_cases h300 : 300 < l.length
  · have hd : decide ((300 : Int) < (l.length : Int)) = true := decide_eq_true (by omega)
    go_enter Tryz.func7, Tryz.ntmps7
    go_wp2_with (first | (go_at_call 21; refine (implAllFull l la lc _ (HRL.out.ext bxt) hll HGL.out (HMX.out.ext bxt) D true HD).mono ?_; rintro e w4 ⟨g4, q4, l4, rfl, ho4, hd4, hb4⟩; have HO4 := Lib.hid ho4; have HD4 := Lib.hid hd4; clear ho4 hd4; have cr0_0 : w4.cell? ⟨w.heap.size, 0, none⟩ = some (.slice ba b.length bc) := (hb4.cell (p := ⟨w.heap.size, 0, none⟩) smx).trans kpx; have cr0_1 : w4.cell? ⟨w.heap.size, 1, none⟩ = some (.slice la l.length lc) := (hb4.cell (p := ⟨w.heap.size, 1, none⟩) smx).trans kpx; have cr0_2 : w4.cell? ⟨w.heap.size, 2, none⟩ = some (.int .i64 gv) := (hb4.cell (p := ⟨w.heap.size, 2, none⟩) smx).trans kpx; have sr0 : w.heap.size < w4.heap.size := (by have hss := hb4.size; first | omega | (simp at hss; omega))) | (go_at_call 22; refine (implSameBoxes_any l4 b _ _ _ _ _ (HO4.out.rd.ext bxt) (RdM.ext HO4.out.rdm bxt) (HR.out.ext bxt) (RdM.ext HM.out bxt) true (Lib.hid (by rw [HD4.out]; exact HDS.out))).mono ?_; rintro e w6 ⟨rfl, hb6⟩; have hb46 : Ext w4 w6 := bxt; have cs0_0 : w6.cell? ⟨w.heap.size, 0, none⟩ = some (.slice ba b.length bc) := (hb46.cell (p := ⟨w.heap.size, 0, none⟩) smx).trans kpx; have cs0_1 : w6.cell? ⟨w.heap.size, 1, none⟩ = some (.slice la l.length lc) := (hb46.cell (p := ⟨w.heap.size, 1, none⟩) smx).trans kpx; have cs0_2 : w6.cell? ⟨w.heap.size, 2, none⟩ = some (.int .i64 gv) := (hb46.cell (p := ⟨w.heap.size, 2, none⟩) smx).trans kpx; have ss0 : w.heap.size < w6.heap.size := (by have hss := hb46.size; first | omega | (simp at hss; omega))))
    go_ret
    exact ⟨ret_no Hr.out (fun h => by have h2 : l.length ≤ 300 := h.2.1; omega), bxt⟩
  have hd : decide ((300 : Int) < (l.length : Int)) = false := decide_eq_false (by omega)
  cases rg with
  | false =>
    go_enter Tryz.func7, Tryz.ntmps7
    go_wp2_with (first | (go_at_call 21; refine (implAllFull l la lc _ (HRL.out.ext bxt) hll HGL.out (HMX.out.ext bxt) D true HD).mono ?_; rintro e w4 ⟨g4, q4, l4, rfl, ho4, hd4, hb4⟩; have HO4 := Lib.hid ho4; have HD4 := Lib.hid hd4; clear ho4 hd4; have cr0_0 : w4.cell? ⟨w.heap.size, 0, none⟩ = some (.slice ba b.length bc) := (hb4.cell (p := ⟨w.heap.size, 0, none⟩) smx).trans kpx; have cr0_1 : w4.cell? ⟨w.heap.size, 1, none⟩ = some (.slice la l.length lc) := (hb4.cell (p := ⟨w.heap.size, 1, none⟩) smx).trans kpx; have cr0_2 : w4.cell? ⟨w.heap.size, 2, none⟩ = some (.int .i64 gv) := (hb4.cell (p := ⟨w.heap.size, 2, none⟩) smx).trans kpx; have sr0 : w.heap.size < w4.heap.size := (by have hss := hb4.size; first | omega | (simp at hss; omega))) | (go_at_call 22; refine (implSameBoxes_any l4 b _ _ _ _ _ (HO4.out.rd.ext bxt) (RdM.ext HO4.out.rdm bxt) (HR.out.ext bxt) (RdM.ext HM.out bxt) true (Lib.hid (by rw [HD4.out]; exact HDS.out))).mono ?_; rintro e w6 ⟨rfl, hb6⟩; have hb46 : Ext w4 w6 := bxt; have cs0_0 : w6.cell? ⟨w.heap.size, 0, none⟩ = some (.slice ba b.length bc) := (hb46.cell (p := ⟨w.heap.size, 0, none⟩) smx).trans kpx; have cs0_1 : w6.cell? ⟨w.heap.size, 1, none⟩ = some (.slice la l.length lc) := (hb46.cell (p := ⟨w.heap.size, 1, none⟩) smx).trans kpx; have cs0_2 : w6.cell? ⟨w.heap.size, 2, none⟩ = some (.int .i64 gv) := (hb46.cell (p := ⟨w.heap.size, 2, none⟩) smx).trans kpx; have ss0 : w.heap.size < w6.heap.size := (by have hss := hb46.size; first | omega | (simp at hss; omega))) | (go_at_call 23; refine (within_any gv 0 999999999 _ false HRG).mono ?_; rintro e wx ⟨rfl, hwx⟩; subst wx))
    go_ret
    exact ⟨ret_no Hr.out (fun h => no_of HRG.out h.2.2.1), bxt⟩
  | true =>
    have HCOM := Lib.hid (allD_ok l [] D HD.out)
    have hmm := @run_makeMap Tryz.prog
    go_enter Tryz.func7, Tryz.ntmps7
    go_wp2_with (first | (go_at_call 21; refine (implAllFull l la lc _ (HRL.out.ext bxt) hll HGL.out (HMX.out.ext bxt) D true HD).mono ?_; rintro e w4 ⟨g4, q4, l4, rfl, ho4, hd4, hb4⟩; have HO4 := Lib.hid ho4; have HD4 := Lib.hid hd4; clear ho4 hd4; have cr0_0 : w4.cell? ⟨w.heap.size, 0, none⟩ = some (.slice ba b.length bc) := (hb4.cell (p := ⟨w.heap.size, 0, none⟩) smx).trans kpx; have cr0_1 : w4.cell? ⟨w.heap.size, 1, none⟩ = some (.slice la l.length lc) := (hb4.cell (p := ⟨w.heap.size, 1, none⟩) smx).trans kpx; have cr0_2 : w4.cell? ⟨w.heap.size, 2, none⟩ = some (.int .i64 gv) := (hb4.cell (p := ⟨w.heap.size, 2, none⟩) smx).trans kpx; have sr0 : w.heap.size < w4.heap.size := (by have hss := hb4.size; first | omega | (simp at hss; omega))) | (go_at_call 22; refine (implSameBoxes_any l4 b _ _ _ _ _ (HO4.out.rd.ext bxt) (RdM.ext HO4.out.rdm bxt) (HR.out.ext bxt) (RdM.ext HM.out bxt) true (Lib.hid (by rw [HD4.out]; exact HDS.out))).mono ?_; rintro e w6 ⟨rfl, hb6⟩; have hb46 : Ext w4 w6 := bxt; have cs0_0 : w6.cell? ⟨w.heap.size, 0, none⟩ = some (.slice ba b.length bc) := (hb46.cell (p := ⟨w.heap.size, 0, none⟩) smx).trans kpx; have cs0_1 : w6.cell? ⟨w.heap.size, 1, none⟩ = some (.slice la l.length lc) := (hb46.cell (p := ⟨w.heap.size, 1, none⟩) smx).trans kpx; have cs0_2 : w6.cell? ⟨w.heap.size, 2, none⟩ = some (.int .i64 gv) := (hb46.cell (p := ⟨w.heap.size, 2, none⟩) smx).trans kpx; have ss0 : w.heap.size < w6.heap.size := (by have hss := hb46.size; first | omega | (simp at hss; omega))) | (go_at_call 23; refine (within_any gv 0 999999999 _ true HRG).mono ?_; rintro e wx ⟨rfl, hwx⟩; subst wx))
    have hbw6 : Ext w w6 := bxt
    go_loopw [39] (fun i wr => ∃ (k : Nat) (D9 : DataW Unit), k ≤ l.length ∧ i = .int .i64 k ∧ Hid (MapTo D9 l k) ∧ Hid (MadeTo l k) ∧ Hid (UnderTo l gv k) ∧ Hid (wr.ownsMap Tryz.prog 3 boolR w6.heap.size k D9) ∧ Below w6.heap.size w6 wr) (fun i _ => l.length - (intOf i).toNat)
    case atStart => exact ⟨0, .map [], Nat.zero_le _, rfl, mapTo_zero l, fun i hi h => by omega, fun i hi h => by omega, World.ownsMap_made _ _ _ _, (Below.refl _ _).alloc (Nat.le_refl _) _⟩
    case round =>
      obtain ⟨k, D9, hk, rfl, HMT, HMD, HUN, HOM, hbe⟩ := hrel
      have hbw : Ext w wr := Below.ext hbw6 hbe
      have hs6 : w6.heap.size ≤ wr.heap.size := hbe.size
      have hsw : w.heap.size < wr.heap.size := Nat.lt_of_lt_of_le ss0 hs6
      have v0 : wr.cell? ⟨w.heap.size, 0, none⟩ = some (.slice ba b.length bc) := (hbe.cell (p := ⟨w.heap.size, 0, none⟩) ss0).trans cs0_0
      have v1 : wr.cell? ⟨w.heap.size, 1, none⟩ = some (.slice la l.length lc) := (hbe.cell (p := ⟨w.heap.size, 1, none⟩) ss0).trans cs0_1
      have v2 : wr.cell? ⟨w.heap.size, 2, none⟩ = some (.int .i64 gv) := (hbe.cell (p := ⟨w.heap.size, 2, none⟩) ss0).trans cs0_2
      by_cases hlt : k < l.length
      · obtain ⟨lb, ofs, rfl, hlb, hat⟩ := HRL.out.ptr (by omega)
        have hlw : lb < wr.heap.size := Nat.lt_of_lt_of_le hlb hbw.size
        obtain ⟨x0, x1, x2, x3, x4, x5⟩ := DCommit.at (hat.ext hlb hbw) k hlt
        have HAT := Lib.hid hat
        clear hat
        have i1 : (k : Int) < (l.length : Int) := by omega
        have hcp := HCOM.out _ (List.getElem_mem hlt)
        have HCP := Lib.hid hcp
        clear hcp
        by_cases e1 : l[k].kind = 1
        · have d1 : (l[k].kind != 1) = false := by rw [e1]; rfl
          have hid9 := create_id HCP.out e1
          have hkey9 := keyI l[k].validity hid9
          have HKL : Hid (WideAt.IsKeyLit (.int .i64 l[k].validity)) := lawI.key hkey9
          obtain ⟨cc, hcc⟩ := boolOf (HasM l k l[k].validity)
          have HCC := Lib.hid hcc
          have HE1 := Lib.hid e1
          clear hcc e1
          cases cc with
          | true =>
            go_wp2_with (at_lookup; refine wpList_lookup_bool _ rfl _ _ 55 rfl 3 4 lawI Tryz.underlying55 (zeroB _) w6.heap.size k D9 rfl (World.ownsMap.kept (row := none) HOM.out (grown_ext (show Ext wr _ from bxt)) (by simp)) _ _ rfl hkey9 true (HMT.out.2 _ _ HCC.out) ?_)
            go_ret
            exact ⟨ret_no Hr.out (fun h => by
              obtain ⟨i, hi, h1, h2, h3⟩ := yes_of HCC.out
              exact h.2.2.2.1 k hlt hlt i h1 ⟨HE1.out, h2, h3.symm⟩), bxt⟩
          | false =>
            by_cases e2 : gv < l[k].validity
            · have d2 : decide (gv < l[k].validity) = true := decide_eq_true e2
              have HE2 := Lib.hid e2
              clear e2
              go_wp2_with (at_lookup; refine wpList_lookup_bool _ rfl _ _ 55 rfl 3 4 lawI Tryz.underlying55 (zeroB _) w6.heap.size k D9 rfl (World.ownsMap.kept (row := none) HOM.out (grown_ext (show Ext wr _ from bxt)) (by simp)) _ _ rfl hkey9 false (HMT.out.2 _ _ HCC.out) ?_)
              go_ret
              exact ⟨ret_no Hr.out (fun h => by
                have h5 : l[k].validity ≤ gv := h.2.2.2.2 k hlt hlt HE1.out
                have h6 := HE2.out
                omega), bxt⟩
            · have d2 : decide (gv < l[k].validity) = false := decide_eq_false e2
              have HE2 := Lib.hid e2
              clear e2
              go_wp2_with (first | (at_lookup; refine wpList_lookup_bool _ rfl _ _ 55 rfl 3 4 lawI Tryz.underlying55 (zeroB _) w6.heap.size k D9 rfl (World.ownsMap.kept (row := none) HOM.out (grown_ext (show Ext wr _ from bxt)) (by simp)) _ _ rfl hkey9 false (HMT.out.2 _ _ HCC.out) ?_) | (at_mapUpdate; refine wpList_mapUpdate_own _ rfl _ _ _ 55 rfl 3 4 lawI Tryz.underlying55 boolR w6.heap.size k D9 rfl (World.ownsMap.kept (row := none) HOM.out (grown_ext (show Ext wr _ from bxt)) (by simp)) (by unfold maxLen; omega) _ _ _ rfl rfl hkey9 _ [] rfl ?_; intro w9 hown9 hgrow9; have HOW9 := Lib.hid hown9; have hbe9 : Ext w6 w9 := Below.grown (show Ext w6 _ from bxt) hgrow9 (by (have := hbe.size; first | omega | (simp; omega))) (fun x hx => by cases hx; exact Nat.le_refl _); clear hown9 hgrow9))
              go_roundw
              case rel => exact ⟨k + 1, D9.put (.int .i64 l[k].validity) (.lit (.bool true)), by omega, by go_num, mapTo_put hlt HMT.out HE1.out HKL.out, madeTo_succ hlt HMD.out (fun j hj h => no_of HCC.out ⟨j, by omega, hj, h.2.1, h.2.2.symm⟩), underTo_succ hlt HUN.out (fun _ => by have := HE2.out; omega), HOW9.out, hbe9⟩
              case measure => simp [intOf]; omega
        · have d1 : (l[k].kind != 1) = true := by simp [e1]
          have HE1 := Lib.hid e1
          clear e1
          go_wp2_with fail
          go_roundw
          case rel => exact ⟨k + 1, D9, by omega, by go_num, mapTo_skip hlt HMT.out HE1.out, madeTo_succ hlt HMD.out (fun j hj h => HE1.out h.1), underTo_succ hlt HUN.out (fun h => absurd h HE1.out), World.ownsMap.mono (World.ownsMap.kept (row := none) HOM.out (grown_ext (show Ext wr _ from bxt)) (by simp)) (Nat.le_succ _), Below.ext hbe (show Ext wr _ from bxt)⟩
          case measure => simp [intOf]; omega
      · have hkk : k = l.length := by omega
        have HKK := Lib.hid hkk
        clear hkk
        go_wp2_with fail
        go_ret
        refine ⟨ret_yes Hr.out ⟨?_, (show l.length ≤ 300 by omega), yes_of HRG.out, (show MadeTo l l.length from fun i hi hil => HMD.out i hi (by have := HKK.out; omega)), (show UnderTo l gv l.length from fun i hi hil => HUN.out i hi (by have := HKK.out; omega))⟩, hbw⟩
        show allD [] l = (b.map PBox.box, true)
        rw [HD.out, of_decide_eq_true HDS.out]
end Go.Proofs.YtemgabekckhckaaGreat

namespace Go.Proofs.YtemgabekckhckaaGreat
open Go.RowKit
set_option linter.unusedVariables false
set_option linter.unusedSimpArgs false

end Go.Proofs.YtemgabekckhckaaGreat

namespace Go.Proofs.YtemgabekckhckaaGreat
open Go.RowKit
set_option linter.unusedVariables false
set_option linter.unusedSimpArgs false

end Go.Proofs.YtemgabekckhckaaGreat

namespace Go.Proofs.YtemgabekckhckaaGreat
open Go.RowKit
set_option linter.unusedVariables false
set_option linter.unusedSimpArgs false

set_option maxRecDepth 100000 in
set_option maxHeartbeats 4000000 in
theorem specMade_any (l : List DCommit) (a : Option Addr) (c : Nat) (w : World) (R : Rd w a c 6 l.length (l.flatMap DCommit.cells)) (r : Bool) (Hr : Hid (Tells r (MadeP l))) :
    Calls Tryz.prog 18 #[.slice a l.length c] w fun e w' => e = .returned (.bool r) ∧ Ext w w' := by
  have hl : l.length ≤ 9223372036854775807 := Nat.le_trans R.nc R.cm
  have HR := Lib.hid R
  clear R
  go_enter Tryz.func18, Tryz.ntmps18
  go_wp2_with fail
  go_loopw [3] (fun i wr => ∃ k : Nat, k ≤ l.length ∧ i = .int .i64 k ∧ Hid (MadeTo l k) ∧ Below w.heap.size w wr) (fun i _ => l.length - (intOf i).toNat)
  case atStart => exact ⟨0, Nat.zero_le _, rfl, fun i hi h => by omega, Below.refl _ _⟩
  case round =>
    obtain ⟨k, hk, rfl, HMD, hb⟩ := hrel
    obtain ⟨wo, hwo⟩ : ∃ x, x = wr := ⟨_, rfl⟩
    subst hwo
    by_cases hlt : k < l.length
    · obtain ⟨b, o, rfl, hbb, hat⟩ := HR.out.ptr (by omega)
      have HAT := Lib.hid (hat.ext hbb hb)
      have hbw : b < wo.heap.size := Nat.lt_of_lt_of_le hbb hb.size
      obtain ⟨x0, x1, -, -, -, -⟩ := DCommit.at HAT.out k hlt
      clear hat
      go_wp2_with fail
      go_loopw [4] (fun j wq => ∃ p : Nat, p ≤ k ∧ j = .int .i64 p ∧ Hid (∀ j (hj : j < k), j < p → ¬ (l[k].kind = 1 ∧ l[j].kind = 1 ∧ l[k].validity = l[j].validity)) ∧ Below wo.heap.size wo wq) (fun j _ => k - (intOf j).toNat)
      case atStart => exact ⟨0, Nat.zero_le _, rfl, fun j hj h => by omega, Below.refl _ _⟩
      case round =>
        obtain ⟨p, hp, rfl, HPR, hbq⟩ := hrel
        by_cases hlp : p < k
        · have hpl : p < l.length := by omega
          obtain ⟨y0, y1, -, -, -, -⟩ := DCommit.at HAT.out p hpl
          have z0 := fun y : ExtW wr => ((Below.ext hbq y.h).cell (p := ⟨b, o + k * 6, none⟩) hbw).trans x0
          have z1 := fun y : ExtW wr => ((Below.ext hbq y.h).cell (p := ⟨b, o + k * 6 + 1, none⟩) hbw).trans x1
          have z2 := fun y : ExtW wr => ((Below.ext hbq y.h).cell (p := ⟨b, o + p * 6, none⟩) hbw).trans y0
          have z3 := fun y : ExtW wr => ((Below.ext hbq y.h).cell (p := ⟨b, o + p * 6 + 1, none⟩) hbw).trans y1
          have i1 : (k : Int) < (l.length : Int) := by omega
          have i2 : (p : Int) < (l.length : Int) := by omega
          by_cases e1 : l[k].kind = 1
          · have d1 : (l[k].kind == 1) = true := by rw [e1]; rfl
            by_cases e2 : l[p].kind = 1
            · have d2 : (l[p].kind == 1) = true := by rw [e2]; rfl
              by_cases e3 : l[k].validity = l[p].validity
              · have d3 : (l[k].validity == l[p].validity) = true := beq_iff_eq.2 e3
                have HE := Lib.hid (And.intro e1 (And.intro e2 e3))
                clear e1 e2 e3
                go_wp2_with fail
                refine wp_region_ext (by kernel_rfl) (by kernel_rfl) ?_
                repeat (go_big_quiet_step (fail))
                refine wpQuiet_nil ?_
                rintro w3 ⟨⟨w3x, hw3⟩, hx3⟩
                have hx4 : w3 = w3x := hx3
                subst hx4
                clear hx3 z0 z1 z2 z3
                go_wp2_with fail
                go_ret
                exact ⟨ret_no Hr.out (fun hm => hm k hlt hlt p hlp HE.out), Below.ext hb (Below.ext hbq hw3)⟩
              · have d3 : (l[k].validity == l[p].validity) = false := by simp [e3]
                have HE := Lib.hid e3
                clear e1 e2 e3
                go_wp2_with fail
                refine wp_region_ext (by kernel_rfl) (by kernel_rfl) ?_
                repeat (go_big_quiet_step (fail))
                refine wpQuiet_nil ?_
                rintro w3 ⟨⟨w3x, hw3⟩, hx3⟩
                have hx4 : w3 = w3x := hx3
                subst hx4
                clear hx3 z0 z1 z2 z3
                go_wp2_with fail
                go_roundw
                case rel => exact ⟨p + 1, by omega, by go_num, fun j hj hjp h => by
                    by_cases e : j = p
                    · subst e; exact HE.out (by first | exact h.2.2 | exact h.2.1 | exact h.1)
                    · exact HPR.out j hj (by omega) h, Below.ext hbq hw3⟩
                case measure => simp [intOf]; omega
            · have d2 : (l[p].kind == 1) = false := by simp [e2]
              have HE := Lib.hid e2
              clear e1 e2
              go_wp2_with fail
              refine wp_region_ext (by kernel_rfl) (by kernel_rfl) ?_
              repeat (go_big_quiet_step (fail))
              refine wpQuiet_nil ?_
              rintro w3 ⟨⟨w3x, hw3⟩, hx3⟩
              have hx4 : w3 = w3x := hx3
              subst hx4
              clear hx3 z0 z1 z2 z3
              go_wp2_with fail
              go_roundw
              case rel => exact ⟨p + 1, by omega, by go_num, fun j hj hjp h => by
                  by_cases e : j = p
                  · subst e; exact HE.out (by first | exact h.2.2 | exact h.2.1 | exact h.1)
                  · exact HPR.out j hj (by omega) h, Below.ext hbq hw3⟩
              case measure => simp [intOf]; omega
          · have d1 : (l[k].kind == 1) = false := by simp [e1]
            have HE := Lib.hid e1
            clear e1
            go_wp2_with fail
            refine wp_region_ext (by kernel_rfl) (by kernel_rfl) ?_
            repeat (go_big_quiet_step (fail))
            refine wpQuiet_nil ?_
            rintro w3 ⟨⟨w3x, hw3⟩, hx3⟩
            have hx4 : w3 = w3x := hx3
            subst hx4
            clear hx3 z0 z1 z2 z3
            go_wp2_with fail
            go_roundw
            case rel => exact ⟨p + 1, by omega, by go_num, fun j hj hjp h => by
                by_cases e : j = p
                · subst e; exact HE.out (by first | exact h.2.2 | exact h.2.1 | exact h.1)
                · exact HPR.out j hj (by omega) h, Below.ext hbq hw3⟩
            case measure => simp [intOf]; omega
        · go_wp2_with fail
          go_roundw
          case rel => exact ⟨k + 1, by omega, by go_num, madeTo_succ hlt HMD.out (fun j hj => HPR.out j hj (by omega)), Below.ext hb hbq⟩
          case measure => simp [intOf]; omega
    · go_wp2_with fail
      go_ret
      exact ⟨ret_yes Hr.out (fun i hi hil => HMD.out i hi (by omega)), hb⟩
end Go.Proofs.YtemgabekckhckaaGreat

namespace Go.Proofs.YtemgabekckhckaaGreat
open Go.RowKit
set_option linter.unusedVariables false
set_option linter.unusedSimpArgs false

theorem specAllFull (l : List DCommit) (la : Option Addr) (lc : Nat) (w : World) (RL : Rd w la lc 6 l.length (l.flatMap DCommit.cells)) (hll : l.length ≤ 1048576) (gl : ∀ y ∈ l, y.name.size ≤ 9223372036854775807 ∧ y.text.size ≤ 9223372036854775807) (D : List DBox) (rok : Bool) (H : Hid (allD [] l = (D, rok))) :
    Calls Tryz.prog 19 #[.slice none 0 0, .slice la l.length lc] w fun e w' => ∃ g q l', e = .returned (.tuple #[.slice g l'.length q, .bool rok]) ∧ OwnBs w' w.heap.size 32 60 g q l' ∧ l'.map PBox.box = D ∧ Ext w w' :=
  specAppliedAll_law [] none 0 l la lc w ⟨by simp, Nat.le_refl _, by omega, fun h => by simp at h⟩ (fun y hy => by cases hy) (by simp) (fun y hy => by cases hy) (fun y hy => by cases hy) (fun y hy => by cases hy) RL hll gl D rok (Lib.hid H.out)

set_option maxRecDepth 100000 in
set_option maxHeartbeats 8000000 in
theorem specStoreOk_any (b : List PBox) (ba : Option Addr) (bc : Nat) (l : List DCommit) (la : Option Addr) (lc : Nat) (gv : Int) (w : World) (R : Rd w ba bc 4 b.length (b.flatMap PBox.cells)) (M : RdM w b) (RL : Rd w la lc 6 l.length (l.flatMap DCommit.cells)) (hl : b.length ≤ 1048576) (hlm : ∀ y ∈ b, y.msgs.length ≤ 1048576) (hll : l.length ≤ 1048576) (gn : ∀ y ∈ b, y.name.size ≤ 9223372036854775807) (gt : ∀ y ∈ b, ∀ m ∈ y.msgs, m.text.size ≤ 9223372036854775807) (gl : ∀ y ∈ l, y.name.size ≤ 9223372036854775807 ∧ y.text.size ≤ 9223372036854775807) (r : Bool) (Hr : Hid (Tells r (StoreP ⟨b.map PBox.box, l, gv⟩))) :
    Calls Tryz.prog 6 #[.agg #[.slice ba b.length bc, .slice la l.length lc, .int .i64 gv]] w fun e w' => e = .returned (.bool r) ∧ Ext w w' := by
  have HR := Lib.hid R
  have HM := Lib.hid M
  have HRL := Lib.hid RL
  have HGL := Lib.hid gl
  have hcm : l.length ≤ 9223372036854775807 := by omega
  clear R M RL gl hlm gn gt
  obtain ⟨rg, hrg⟩ := boolOf (0 ≤ gv ∧ gv ≤ 999999999)
  have HRG := Lib.hid hrg
  obtain ⟨rm, hrm⟩ := boolOf (MadeP l)
  have HRM := Lib.hid hrm
  obtain ⟨D, rok, hD⟩ : ∃ D rok, allD [] l = (D, rok) := ⟨_, _, rfl⟩
  have HD := Lib.hid hD
  clear hrg hrm hD
  by_cases h300 : 300 < l.length
  · have hd : decide ((300 : Int) < (l.length : Int)) = true := decide_eq_true (by omega)
    go_enter Tryz.func6, Tryz.ntmps6
    go_wp2_with fail
    go_ret
    exact ⟨ret_no Hr.out (fun h => by have h2 : l.length ≤ 300 := h.2.1; omega), bxt⟩
  have hd : decide ((300 : Int) < (l.length : Int)) = false := decide_eq_false (by omega)
  cases rg with
  | false =>
    go_enter Tryz.func6, Tryz.ntmps6
    go_wp2_with (go_at_call 17; refine (l1In_any gv 0 999999999 _ false HRG).mono ?_; rintro e wx ⟨rfl, hwx⟩; subst wx)
    go_ret
    exact ⟨ret_no Hr.out (fun h => no_of HRG.out h.2.2.1), bxt⟩
  | true =>
  cases rm with
  | false =>
    go_enter Tryz.func6, Tryz.ntmps6
    go_wp2_with (first | (go_at_call 17; refine (l1In_any gv 0 999999999 _ true HRG).mono ?_; rintro e wx ⟨rfl, hwx⟩; subst wx) | (go_at_call 18; refine (specMade_any l la lc _ (HRL.out.ext bxt) false HRM).mono ?_; rintro e w2 ⟨rfl, hb2⟩; have cp0_0 : w2.cell? ⟨w.heap.size, 0, none⟩ = some (.slice ba b.length bc) := (hb2.cell (p := ⟨w.heap.size, 0, none⟩) smx).trans kpx; have cp0_1 : w2.cell? ⟨w.heap.size, 1, none⟩ = some (.slice la l.length lc) := (hb2.cell (p := ⟨w.heap.size, 1, none⟩) smx).trans kpx; have cp0_2 : w2.cell? ⟨w.heap.size, 2, none⟩ = some (.int .i64 gv) := (hb2.cell (p := ⟨w.heap.size, 2, none⟩) smx).trans kpx; have sp0 : w.heap.size < w2.heap.size := (by have hss := hb2.size; first | omega | (simp at hss; omega))))
    go_ret
    exact ⟨ret_no Hr.out (fun h => no_of HRM.out h.2.2.2.1), bxt⟩
  | true =>
    go_enter Tryz.func6, Tryz.ntmps6
    go_wp2_with (first | (go_at_call 17; refine (l1In_any gv 0 999999999 _ true HRG).mono ?_; rintro e wx ⟨rfl, hwx⟩; subst wx) | (go_at_call 18; refine (specMade_any l la lc _ (HRL.out.ext bxt) true HRM).mono ?_; rintro e w2 ⟨rfl, hb2⟩; have cp0_0 : w2.cell? ⟨w.heap.size, 0, none⟩ = some (.slice ba b.length bc) := (hb2.cell (p := ⟨w.heap.size, 0, none⟩) smx).trans kpx; have cp0_1 : w2.cell? ⟨w.heap.size, 1, none⟩ = some (.slice la l.length lc) := (hb2.cell (p := ⟨w.heap.size, 1, none⟩) smx).trans kpx; have cp0_2 : w2.cell? ⟨w.heap.size, 2, none⟩ = some (.int .i64 gv) := (hb2.cell (p := ⟨w.heap.size, 2, none⟩) smx).trans kpx; have sp0 : w.heap.size < w2.heap.size := (by have hss := hb2.size; first | omega | (simp at hss; omega))) | (go_at_call 19; refine (specAllFull l la lc _ (HRL.out.ext bxt) hll HGL.out D rok HD).mono ?_; rintro e w4 ⟨g4, q4, l4, rfl, ho4, hd4, hb4⟩; have HO4 := Lib.hid ho4; have HD4 := Lib.hid hd4; clear ho4 hd4; have cr0_0 : w4.cell? ⟨w.heap.size, 0, none⟩ = some (.slice ba b.length bc) := (hb4.cell (p := ⟨w.heap.size, 0, none⟩) smx).trans kpx; have cr0_1 : w4.cell? ⟨w.heap.size, 1, none⟩ = some (.slice la l.length lc) := (hb4.cell (p := ⟨w.heap.size, 1, none⟩) smx).trans kpx; have cr0_2 : w4.cell? ⟨w.heap.size, 2, none⟩ = some (.int .i64 gv) := (hb4.cell (p := ⟨w.heap.size, 2, none⟩) smx).trans kpx; have sr0 : w.heap.size < w4.heap.size := (by have hss := hb4.size; first | omega | (simp at hss; omega))))
    have hbw4 : Ext w w4 := bxt
    go_loopw [4, 5] (fun okv i wr => ∃ (k : Nat) (d : Bool), k ≤ l.length ∧ i = .int .i64 k ∧ okv = .bool d ∧ Hid (Tells d (rok = true ∧ UnderTo l gv k)) ∧ Below w4.heap.size w4 wr) (fun _ i _ => l.length - (intOf i).toNat)
    case atStart => exact ⟨0, rok, Nat.zero_le _, rfl, rfl, ⟨fun h => ⟨h, fun i hi h => by omega⟩, fun h => h.1⟩, Below.refl _ _⟩
    case round =>
      obtain ⟨k, d, hk, rfl, rfl, HT, hb⟩ := hrel
      have hbw : Ext w wr := Below.ext hbw4 hb
      have hs4 : w.heap.size < wr.heap.size := Nat.lt_of_lt_of_le sr0 hb.size
      have v0 : wr.cell? ⟨w.heap.size, 0, none⟩ = some (.slice ba b.length bc) := (hb.cell (p := ⟨w.heap.size, 0, none⟩) sr0).trans cr0_0
      have v1 : wr.cell? ⟨w.heap.size, 1, none⟩ = some (.slice la l.length lc) := (hb.cell (p := ⟨w.heap.size, 1, none⟩) sr0).trans cr0_1
      have v2 : wr.cell? ⟨w.heap.size, 2, none⟩ = some (.int .i64 gv) := (hb.cell (p := ⟨w.heap.size, 2, none⟩) sr0).trans cr0_2
      by_cases hlt : k < l.length
      · obtain ⟨lb, ofs, rfl, hlb, hat⟩ := HRL.out.ptr (by omega)
        have hlw : lb < wr.heap.size := Nat.lt_of_lt_of_le hlb hbw.size
        obtain ⟨x0, x1, -, -, -, -⟩ := DCommit.at (hat.ext hlb hbw) k hlt
        have HAT := Lib.hid hat
        clear hat
        have i1 : (k : Int) < (l.length : Int) := by omega
        have z0 := fun y : ExtW wr => (y.h.cell (p := ⟨lb, ofs + k * 6, none⟩) hlw).trans x0
        have z1 := fun y : ExtW wr => (y.h.cell (p := ⟨lb, ofs + k * 6 + 1, none⟩) hlw).trans x1
        have u1 := fun y : ExtW wr => (y.h.cell (p := ⟨w.heap.size, 1, none⟩) hs4).trans v1
        have u2 := fun y : ExtW wr => (y.h.cell (p := ⟨w.heap.size, 2, none⟩) hs4).trans v2
        cases d with
        | false =>
          go_wp2_with fail
          refine wp_region_ext (by kernel_rfl) (by kernel_rfl) ?_
          repeat (go_big_quiet_step (fail))
          refine wpQuiet_nil ?_
          rintro w3 ⟨⟨w3x, hw3⟩, hx3⟩
          have hx4 : w3 = w3x := hx3
          subst hx4
          clear hx3 z0 z1 u1 u2
          go_wp2_with fail
          go_roundw
          case rel => exact ⟨k + 1, false, by omega, by go_num, rfl, ⟨fun h => (by cases h), fun h => absurd ⟨h.1, fun i hi hik => h.2 i hi (by omega)⟩ (no_of HT.out)⟩, Below.ext hb hw3⟩
          case measure => simp [intOf]; omega
        | true =>
          by_cases e1 : l[k].kind = 1
          · have d1 : (l[k].kind != 1) = false := by rw [e1]; rfl
            by_cases e2 : l[k].validity ≤ gv
            · have d2 : decide (l[k].validity ≤ gv) = true := decide_eq_true e2
              have HE := Lib.hid e2
              clear e1 e2
              go_wp2_with fail
              refine wp_region_ext (by kernel_rfl) (by kernel_rfl) ?_
              repeat (go_big_quiet_step (fail))
              refine wpQuiet_nil ?_
              rintro w3 ⟨⟨w3x, hw3⟩, hx3⟩
              have hx4 : w3 = w3x := hx3
              subst hx4
              clear hx3 z0 z1 u1 u2
              go_wp2_with fail
              go_roundw
              case rel => exact ⟨k + 1, true, by omega, by go_num, rfl, ⟨fun _ => ⟨(yes_of HT.out).1, underTo_succ hlt (yes_of HT.out).2 (fun _ => HE.out)⟩, fun _ => rfl⟩, Below.ext hb hw3⟩
              case measure => simp [intOf]; omega
            · have d2 : decide (l[k].validity ≤ gv) = false := decide_eq_false e2
              have HE := Lib.hid (And.intro e1 e2)
              clear e1 e2
              go_wp2_with fail
              refine wp_region_ext (by kernel_rfl) (by kernel_rfl) ?_
              repeat (go_big_quiet_step (fail))
              refine wpQuiet_nil ?_
              rintro w3 ⟨⟨w3x, hw3⟩, hx3⟩
              have hx4 : w3 = w3x := hx3
              subst hx4
              clear hx3 z0 z1 u1 u2
              go_wp2_with fail
              go_roundw
              case rel => exact ⟨k + 1, false, by omega, by go_num, rfl, ⟨fun h => (by cases h), fun h => absurd (h.2 k hlt (by omega) HE.out.1) (by have := HE.out.2; omega)⟩, Below.ext hb hw3⟩
              case measure => simp [intOf]; omega
          · have d1 : (l[k].kind != 1) = true := by simp [e1]
            have HE := Lib.hid e1
            clear e1
            go_wp2_with fail
            refine wp_region_ext (by kernel_rfl) (by kernel_rfl) ?_
            repeat (go_big_quiet_step (fail))
            refine wpQuiet_nil ?_
            rintro w3 ⟨⟨w3x, hw3⟩, hx3⟩
            have hx4 : w3 = w3x := hx3
            subst hx4
            clear hx3 z0 z1 u1 u2
            go_wp2_with fail
            go_roundw
            case rel => exact ⟨k + 1, true, by omega, by go_num, rfl, ⟨fun _ => ⟨(yes_of HT.out).1, underTo_succ hlt (yes_of HT.out).2 (fun h => absurd h HE.out)⟩, fun _ => rfl⟩, Below.ext hb hw3⟩
            case measure => simp [intOf]; omega
      · have hkk : k = l.length := by omega
        have HKK := Lib.hid hkk
        clear hkk
        cases d with
        | false =>
          go_wp2_with fail
          go_ret
          exact ⟨ret_no Hr.out (fun h => no_of HT.out ⟨by (have h1 := HD.out; rw [show allD [] l = (b.map PBox.box, true) from h.1] at h1; cases h1; rfl), by (have h2 := h.2.2.2.2; rw [HKK.out]; exact h2)⟩), hbw⟩
        | true =>
          obtain ⟨ds, hds⟩ : ∃ d, decide (l4.map PBox.box = b.map PBox.box) = d := ⟨_, rfl⟩
          have HDS := Lib.hid hds
          clear hds
          go_wp2_with (go_at_call 20; refine (specSameBoxes_any l4 b _ _ _ _ _ (HO4.out.rd.ext bxt) (RdM.ext HO4.out.rdm bxt) (HR.out.ext bxt) (RdM.ext HM.out bxt) ds HDS).mono ?_; rintro e w6 ⟨rfl, hb6⟩)
          go_ret
          refine ⟨?_, bxt⟩
          obtain ⟨h1, h2⟩ := yes_of HT.out
          rw [HKK.out] at h2
          cases ds with
          | false => exact ret_no Hr.out (fun h => by (have h3 := HD.out; rw [show allD [] l = (b.map PBox.box, true) from h.1] at h3; cases h3; exact of_decide_eq_false HDS.out HD4.out))
          | true => exact ret_yes Hr.out ⟨by (have h3 : l4.map PBox.box = b.map PBox.box := of_decide_eq_true HDS.out; rw [HD4.out] at h3; show allD [] l = (b.map PBox.box, true); rw [HD.out, h1, h3]), (show l.length ≤ 300 by omega), yes_of HRG.out, yes_of HRM.out, h2⟩
end Go.Proofs.YtemgabekckhckaaGreat

namespace Go.Proofs.YtemgabekckhckaaGreat
open Go.RowKit
set_option linter.unusedVariables false
set_option linter.unusedSimpArgs false

end Go.Proofs.YtemgabekckhckaaGreat

namespace Go.Proofs.YtemgabekckhckaaGreat
open Go.RowKit
set_option linter.unusedVariables false
set_option linter.unusedSimpArgs false

theorem StTo.pre {S : Nat → Prop} {w w3 w4 : World} {b B E EM EC : Nat} {rs : DStore} (h : Ext w w3) (hs : StTo S w3 b B E EM EC rs w4) : StTo S w b B E EM EC rs w4 := by
  obtain ⟨ga, q, zs, la, lc, h1, h2, h3, h4⟩ := hs
  exact ⟨ga, q, zs, la, lc, h1, h2, (Chg.ext h).trans h3, fun k hk => (h4 k hk).imp_right (fun h5 => Nat.lt_of_le_of_lt h.size h5)⟩
theorem StTo.self {w w' : World} {b B E EM EC q lc : Nat} {ga la : Option Addr} {zs : List PBox} {l : List DCommit} {gv : Int} {D : List DBox} (h : StB w b B E EM EC ga q zs la lc l gv) (hd : zs.map PBox.box = D) (hb : Ext w w') : StTo (fun k => k = b ∨ rowsS ga q zs la lc l.length k) w b B E EM EC ⟨D, l, gv⟩ w' := by
  subst hd
  exact h.same hb
/-- the box of the result holds a store of the call's own -/
def RBox (E EM EC : Nat) (w : World) (res : Nat) (rs : DStore) (wx : World) : Prop := ∃ g q zs g2 q2, wx.cell? ⟨res, 0, none⟩ = some (.slice g zs.length q) ∧ wx.cell? ⟨res, 1, none⟩ = some (.slice g2 rs.log.length q2) ∧ wx.cell? ⟨res, 2, none⟩ = some (.int .i64 rs.given) ∧ OwnSt wx w.heap.size E EM EC g q zs g2 q2 rs.log ∧ zs.map PBox.box = rs.boxes ∧ Ext w wx
theorem put3_at {w : World} {G : Nat} {u0 u1 u2 v0 v1 v2 : Value} (c0 : w.cell? ⟨G, 0, none⟩ = some u0) (c1 : w.cell? ⟨G, 1, none⟩ = some u1) (c2 : w.cell? ⟨G, 2, none⟩ = some u2) :
    (((w.setCell ⟨G, 0, none⟩ v0).setCell ⟨G, 1, none⟩ v1).setCell ⟨G, 2, none⟩ v2).cell? ⟨G, 0, none⟩ = some v0 ∧ (((w.setCell ⟨G, 0, none⟩ v0).setCell ⟨G, 1, none⟩ v1).setCell ⟨G, 2, none⟩ v2).cell? ⟨G, 1, none⟩ = some v1 ∧ (((w.setCell ⟨G, 0, none⟩ v0).setCell ⟨G, 1, none⟩ v1).setCell ⟨G, 2, none⟩ v2).cell? ⟨G, 2, none⟩ = some v2 :=
  ⟨set_other (set_other (set_same c0) (by omega)) (by omega), set_other (set_same (set_other c1 (by omega))) (by omega), set_same (set_other (set_other c2 (by omega)) (by omega))⟩
theorem RBox.put {E EM EC : Nat} {w w9 : World} {B res q9 q8 : Nat} {g9 g8 : Option Addr} {z9 : List PBox} {rs : DStore} {u0 u1 u2 : Value} (h : OwnSt w9 B E EM EC g9 q9 z9 g8 q8 rs.log) (hB : w.heap.size ≤ B) (hr : res < B) (hrw : w.heap.size ≤ res) (hz : z9.map PBox.box = rs.boxes) (hb : Ext w w9)
    (c0 : w9.cell? ⟨res, 0, none⟩ = some u0) (c1 : w9.cell? ⟨res, 1, none⟩ = some u1) (c2 : w9.cell? ⟨res, 2, none⟩ = some u2) :
    RBox E EM EC w res rs (((w9.setCell ⟨res, 0, none⟩ (.slice g9 z9.length q9)).setCell ⟨res, 1, none⟩ (.slice g8 rs.log.length q8)).setCell ⟨res, 2, none⟩ (.int .i64 rs.given)) := by
  obtain ⟨h0, h1, h2⟩ := put3_at (v0 := .slice g9 z9.length q9) (v1 := .slice g8 rs.log.length q8) (v2 := .int .i64 rs.given) c0 c1 c2
  exact ⟨g9, q9, z9, g8, q8, h0, h1, h2, (((h.setB hr _).setB hr _).setB hr _).le hB, hz, Below.setCell (Below.setCell (Below.setCell hb hrw _) hrw _) hrw _⟩
end Go.Proofs.YtemgabekckhckaaGreat

namespace Go.Proofs.YtemgabekckhckaaGreat
open Go.RowKit
set_option linter.unusedVariables false
set_option linter.unusedSimpArgs false

/-- what a step does: the message that the number means, if it is there -/
noncomputable def stepM (v : Int) (g : DMsg → Option DCommit) (s : DStore) (u : Int) : Option DCommit :=
  if placeOf u (theD s.boxes (boxWith v s.boxes).toNat).msgs < 0 then none else g (theM (theD s.boxes (boxWith v s.boxes).toNat).msgs (pl u (theD s.boxes (boxWith v s.boxes).toNat).msgs))
open Classical in
/-- the steps in a row: it ends at the first that cannot be done -/
noncomputable def stepsD (v : Int) (g : DMsg → Option DCommit) : DStore → List Int → DStore × Bool
  | s, [] => (s, true)
  | s, u :: us => match stepM v g s u with
    | none => stepsD v g s us
    | some m => if ComP s m then stepsD v g (comD s m) us else (s, false)
/-- what the action answers at a message -/
def ActRel (g : DMsg → Option DCommit) (s : DStore) (m : DMsg) (rs : DStore) (rok : Bool) : Prop :=
  match g m with
  | none => rs = s ∧ rok = true
  | some c => CmtRel s c rs rok
theorem drop_cons {α : Type} (l : List α) (k : Nat) (hk : k < l.length) : l.drop k = l[k] :: l.drop (k + 1) := List.drop_eq_getElem_cons hk
/-- a commit that leaves the row of mailboxes, each with its number -/
theorem boxWith_map (v : Int) (l : List DBox) : boxWith v l = firstI (fun y => decide (y = v)) (l.map DBox.validity) := by
  rw [firstI_map]; rfl
theorem boxWith_set (v : Int) (l : List DBox) (i : Nat) (hi : i < l.length) (x : DBox) (hx : x.validity = l[i].validity) : boxWith v (l.set i x) = boxWith v l := by
  rw [boxWith_map, boxWith_map]
  congr 1
  rw [List.map_set, hx]
  refine List.ext_getElem (by simp) fun k h1 h2 => ?_
  rw [List.getElem_set]
  by_cases hk : i = k
  · subst hk; simp
  · rw [if_neg hk]
theorem newD_val (b : DBox) (m : DCommit) : (newD b m).validity = b.validity := by
  unfold newD
  (repeat' split) <;> rfl
theorem boxWith_com {s : DStore} {m : DCommit} (h : ComP s m) (h1 : m.kind ≠ 1) (h2 : m.kind ≠ 2) (h3 : m.kind ≠ 3) (v : Int) : boxWith v (comD s m).boxes = boxWith v s.boxes ∧ (comD s m).boxes.length = s.boxes.length := by
  obtain ⟨⟨-, -, hf⟩, -, -⟩ := h
  obtain ⟨i, hi, hz, -⟩ := hf.2 h1
  have ha : atD s.boxes m = i := by unfold atD; omega
  show boxWith v (appD s.boxes m) = _ ∧ (appD s.boxes m).length = _
  unfold appD
  rw [if_neg h1, if_neg h2, if_neg h3, ha]
  exact ⟨boxWith_set v s.boxes i hi _ (by rw [newD_val, theD_of hi]), by simp⟩
/-- the action's commits change messages alone -/
def MsgAct (g : DMsg → Option DCommit) : Prop := ∀ m c, g m = some c → c.kind ≠ 1 ∧ c.kind ≠ 2 ∧ c.kind ≠ 3 ∧ c.name.size ≤ 9223372036854775807 ∧ c.text.size ≤ 9223372036854775807
theorem act_keep {g : DMsg → Option DCommit} (hg : MsgAct g) {s rs : DStore} {m : DMsg} {rok : Bool} (h : ActRel g s m rs rok) (hs : GoodS s) (v : Int) : GoodS rs ∧ boxWith v rs.boxes = boxWith v s.boxes ∧ rs.boxes.length = s.boxes.length := by
  unfold ActRel at h
  split at h
  · rw [h.1]; exact ⟨hs, rfl, rfl⟩
  · rename_i c hc
    obtain ⟨k1, k2, k3, k4, k5⟩ := hg m c hc
    refine ⟨good_cmt h hs k4 k5, ?_⟩
    obtain ⟨ht, rfl⟩ := h
    cases rok with
    | false => exact ⟨rfl, rfl⟩
    | true => exact boxWith_com (ht.1 rfl) k1 k2 k3 v
end Go.Proofs.YtemgabekckhckaaGreat

namespace Go.Proofs.YtemgabekckhckaaGreat
open Go.RowKit
set_option linter.unusedVariables false
set_option linter.unusedSimpArgs false

/-- what a call leaves of a store that was left by calls before -/
theorem StTo.step {S : Nat → Prop} {w wr wx w6 : World} {G B E EM EC q1 lc1 : Nat} {ga1 la1 : Option Addr} {zs1 : List PBox} {l1 : List DCommit} {r2 : DStore} (hch : Chg S w wr) (hr : ∀ k, rowsS ga1 q1 zs1 la1 lc1 l1.length k → S k ∨ w.heap.size < k) (hG : S G) (hx : Ext wr wx)
    (h : StTo (fun k => k = G ∨ rowsS ga1 q1 zs1 la1 lc1 l1.length k) wx G B E EM EC r2 w6) : StTo S w G B E EM EC r2 w6 := by
  obtain ⟨ga, q, zs, la, lc, h1, h2, h3, h4⟩ := h
  have h0 := hch.trans (Chg.ext (S := S) hx)
  refine ⟨ga, q, zs, la, lc, h1, h2, ⟨h3.os.trans h0.os, h3.tape.trans h0.tape, h3.output.trans h0.output, Nat.le_trans h0.size h3.size, fun x hxs hn => (h3.block x (Nat.lt_of_lt_of_le hxs h0.size) (fun hS => hS.elim (fun e => hn (e ▸ hG)) (fun hr1 => (hr x hr1).elim hn (fun hl => by omega)))).trans (h0.block x hxs hn)⟩, fun k hk => ?_⟩
  rcases h4 k hk with (rfl | h5) | h5
  · exact Or.inl hG
  · exact hr k h5
  · exact Or.inr (Nat.lt_of_le_of_lt h0.size h5)
/-- after k rounds -/
def EachRel (v : Int) (g : DMsg → Option DCommit) (us : List Int) (R : DStore × Bool) (kb : Nat) (S : Nat → Prop) (w : World) (G B E EM EC : Nat) (i : Value) (wr : World) : Prop :=
  ∃ (k : Nat) (s : DStore), k ≤ us.length ∧ i = .int .i64 k ∧ Hid (StTo S w G B E EM EC s wr) ∧ Hid (GoodS s) ∧ Hid (boxWith v s.boxes = kb) ∧ Hid (kb < s.boxes.length) ∧ Hid (stepsD v g s (us.drop k) = R)
theorem EachRel.mk {v : Int} {g : DMsg → Option DCommit} {us : List Int} {R : DStore × Bool} {kb : Nat} {S : Nat → Prop} {w wr : World} {G B E EM EC k : Nat} {s rs : DStore} (hg : MsgAct g) (hk : k < us.length) (hs : GoodS s) (hb : boxWith v s.boxes = kb) (hl : kb < s.boxes.length) (h : stepsD v g s (us.drop k) = R) {m : DMsg} (har : ActRel g s m rs true ∨ rs = s) (hstep : stepsD v g s (us[k] :: us.drop (k + 1)) = stepsD v g rs (us.drop (k + 1))) (hst : StTo S w G B E EM EC rs wr) :
    EachRel v g us R kb S w G B E EM EC (.int .i64 ((k : Int) + 1)) wr := by
  have hk2 : GoodS rs ∧ boxWith v rs.boxes = boxWith v s.boxes ∧ rs.boxes.length = s.boxes.length := by
    rcases har with h1 | rfl
    · exact act_keep hg h1 hs v
    · exact ⟨hs, rfl, rfl⟩
  obtain ⟨h1, h2, h3⟩ := hk2
  refine ⟨k + 1, rs, hk, by simp, Lib.hid hst, Lib.hid h1, Lib.hid (by rw [h2]; exact hb), Lib.hid (by rw [h3]; exact hl), Lib.hid ?_⟩
  rw [← h, drop_cons us k hk]
  exact hstep.symm

end Go.Proofs.YtemgabekckhckaaGreat

namespace Go.Proofs.YtemgabekckhckaaGreat
open Go.RowKit
set_option linter.unusedVariables false
set_option linter.unusedSimpArgs false

end Go.Proofs.YtemgabekckhckaaGreat

namespace Go.Proofs.YtemgabekckhckaaGreat
open Go.RowKit
set_option linter.unusedVariables false
set_option linter.unusedSimpArgs false

def StepLoopS (v : Int) (g : DMsg → Option DCommit) (us : List Int) (R : DStore × Bool) (kb : Nat) (E EM EC G B : Nat) (w4 : World) (i : Value) (wr : World) : Prop :=
  ∃ (k : Nat) (cur : DStore) (ga : Option Addr) (q : Nat) (zs : List PBox) (la : Option Addr) (lc : Nat), k ≤ us.length ∧ i = .int .i64 k ∧ Hid (StB wr G B E EM EC ga q zs la lc cur.log cur.given) ∧ Hid (zs.map PBox.box = cur.boxes) ∧ Hid (GoodS cur) ∧ Hid (boxWith v cur.boxes = kb) ∧ Hid (kb < cur.boxes.length) ∧ Hid (stepsD v g cur (us.drop k) = R) ∧ Below B w4 wr
theorem StepLoopS.mk {v : Int} {g : DMsg → Option DCommit} {us : List Int} {R : DStore × Bool} {kb : Nat} {E EM EC G B k q lc : Nat} {ga la : Option Addr} {zs : List PBox} {w4 wr : World} {s rs : DStore} (hg : MsgAct g) (hk : k < us.length) (hs : GoodS s) (hb : boxWith v s.boxes = kb) (hl : kb < s.boxes.length) (h : stepsD v g s (us.drop k) = R) {m : DMsg} (har : ActRel g s m rs true ∨ rs = s) (hstep : stepsD v g s (us[k] :: us.drop (k + 1)) = stepsD v g rs (us.drop (k + 1)))
    (hst : StB wr G B E EM EC ga q zs la lc rs.log rs.given) (hz : zs.map PBox.box = rs.boxes) (hbe : Below B w4 wr) : StepLoopS v g us R kb E EM EC G B w4 (.int .i64 ((k : Int) + 1)) wr := by
  have hk2 : GoodS rs ∧ boxWith v rs.boxes = boxWith v s.boxes ∧ rs.boxes.length = s.boxes.length := by
    rcases har with h1 | rfl
    · exact act_keep hg h1 hs v
    · exact ⟨hs, rfl, rfl⟩
  obtain ⟨h1, h2, h3⟩ := hk2
  refine ⟨k + 1, rs, ga, q, zs, la, lc, hk, by simp, Lib.hid hst, Lib.hid hz, Lib.hid h1, Lib.hid (by rw [h2]; exact hb), Lib.hid (by rw [h3]; exact hl), Lib.hid ?_, hbe⟩
  rw [← h, drop_cons us k hk]
  exact hstep.symm
end Go.Proofs.YtemgabekckhckaaGreat

namespace Go.Proofs.YtemgabekckhckaaGreat
open Go.RowKit
set_option linter.unusedVariables false
set_option linter.unusedSimpArgs false

/-- a cell of a block that has not turned -/
theorem Rd.same {X wr : World} {a : Option Addr} {c s n : Nat} {xs : List Value} (h : Rd X a c s n xs) (hs : X.heap.size ≤ wr.heap.size) (hc : ∀ x o, x < X.heap.size → wr.cell? ⟨x, o, none⟩ = X.cell? ⟨x, o, none⟩) : Rd wr a c s n xs :=
  ⟨h.len, h.nc, h.cm, fun hn => let ⟨b, o, ha, hb, hat⟩ := h.ptr hn; ⟨b, o, ha, Nat.lt_of_lt_of_le hb hs, fun j u hu => (hc b (o + j) hb).trans (hat j u hu)⟩⟩
end Go.Proofs.YtemgabekckhckaaGreat

namespace Go.Proofs.YtemgabekckhckaaGreat
open Go.RowKit
set_option linter.unusedVariables false
set_option linter.unusedSimpArgs false

end Go.Proofs.YtemgabekckhckaaGreat

namespace Go.Proofs.YtemgabekckhckaaGreat
open Go.RowKit
set_option linter.unusedVariables false
set_option linter.unusedSimpArgs false

structure Sq (w : World) (ba : Option Addr) (bc : Nat) (zs : List PBox) (la : Option Addr) (lc : Nat) (lg : List DCommit) : Prop where
  rd : Rd w ba bc 4 zs.length (zs.flatMap PBox.cells)
  rdm : RdM w zs
  rl : Rd w la lc 6 lg.length (lg.flatMap DCommit.cells)
  len : zs.length ≤ 5
  sm : SmB 6 zs
  ll : lg.length ≤ 320
  sl : SmL lg
theorem Sq.ext {w w' : World} {ba la : Option Addr} {bc lc : Nat} {zs : List PBox} {lg : List DCommit} (h : Sq w ba bc zs la lc lg) (hb : Ext w w') : Sq w' ba bc zs la lc lg := ⟨h.rd.ext hb, h.rdm.ext hb, h.rl.ext hb, h.len, h.sm, h.ll, h.sl⟩
end Go.Proofs.YtemgabekckhckaaGreat

namespace Go.Proofs.YtemgabekckhckaaGreat
open Go.RowKit
set_option linter.unusedVariables false
set_option linter.unusedSimpArgs false

/-- the byte that at0 answers -/
def at0V (l : List Int) (i : Nat) : Int := if h : i < l.length then l[i] else ((i : Int) * 7 + (l.length : Int)) % 256
theorem at0V_range (l : List Int) (i : Nat) (hb : ∀ y ∈ l, 0 ≤ y ∧ y ≤ 255) : 0 ≤ at0V l i ∧ at0V l i ≤ 255 := by
  unfold at0V
  split
  · rename_i h; exact hb _ (List.getElem_mem h)
  · exact ⟨Int.emod_nonneg _ (by omega), by have := Int.emod_lt_of_pos ((i : Int) * 7 + (l.length : Int)) (show (0 : Int) < 256 by omega); omega⟩
set_option maxHeartbeats 1000000 in
theorem at0_eq (l : List Int) (a : Option Addr) (c : Nat) (i : Nat) (w : World) (R : Rd w a c 1 l.length (l.flatMap byteCells)) (hb : ∀ y ∈ l, 0 ≤ y ∧ y ≤ 255) (hl : l.length ≤ 1048576) (hi : i ≤ 100) (r : Int) (Hr : Hid (at0V l i = r)) :
    Calls Tryz.prog 8 #[.slice a l.length c, .int .i64 i] w fun e w' => e = .returned (.int .i64 r) ∧ w = w' := by
  by_cases h : i < l.length
  · obtain rfl : l[i] = r := by rw [← Hr.out]; unfold at0V; rw [dif_pos h]
    obtain ⟨b, o, rfl, hbb, hat⟩ := R.ptr (by omega)
    have hx := byteCells_at hat i h
    have hy := hb _ (List.getElem_mem h)
    have h1 : decide ((i : Int) < (l.length : Int)) = true := decide_eq_true (by omega)
    have h2 : (i : Int) < (l.length : Int) := by omega
    have h3 : (0 : Int) ≤ (i : Int) := by omega
    have HAT := Lib.hid hat
    have HB := Lib.hid hb
    have HR := Lib.hid R
    clear hat hb R
    go_enter Tryz.func8, Tryz.ntmps8
    go_wp2_with fail
    go_ret
    exact ⟨rfl, rfl⟩
  · obtain rfl : ((i : Int) * 7 + (l.length : Int)) % 256 = r := by rw [← Hr.out]; unfold at0V; rw [dif_neg h]
    have h1 : decide ((i : Int) < (l.length : Int)) = false := decide_eq_false (by omega)
    have h3 : decide (i < l.length) = false := decide_eq_false h
    have HB := Lib.hid hb
    have HR := Lib.hid R
    clear hb R
    go_enter Tryz.func8, Tryz.ntmps8
    go_wp2_with fail
    go_ret
    exact ⟨rfl, rfl⟩
end Go.Proofs.YtemgabekckhckaaGreat

namespace Go.Proofs.YtemgabekckhckaaGreat
open Go.RowKit
set_option linter.unusedVariables false
set_option linter.unusedSimpArgs false

def atN (l : List DCommit) (x : Int) : Nat := (min (max x 0) l.length).toNat
theorem atN_le (l : List DCommit) (x : Int) : atN l x ≤ l.length := by unfold atN; omega
/-- the mailboxes behind the first commits -/
noncomputable def boxesAtD (l : List DCommit) (x : Int) : List DBox := (allD [] (l.take (atN l x))).1
def BoxesRel (s : DStore) (x : Int) (rr : List DBox) : Prop := boxesAtD s.log x = rr
theorem boxesRel_cnt {s : DStore} {x : Int} {rr : List DBox} (h : BoxesRel s x rr) : cntD rr ≤ 3145728 := allRel_cnt (l := []) (log := s.log.take (atN s.log x)) (rok := (allD [] (s.log.take (atN s.log x))).2) (by unfold AllRel; unfold BoxesRel boxesAtD at h; rw [← h]) (by simp [cntD])

theorem implAllNil (l : List DCommit) (la : Option Addr) (lc n : Nat) (w : World) (RL : Rd w la lc 6 l.length (l.flatMap DCommit.cells)) (hll : l.length ≤ 1048576) (gl : ∀ y ∈ l, y.name.size ≤ 9223372036854775807 ∧ y.text.size ≤ 9223372036854775807) (hm : MaxLen w) (hn : n ≤ l.length) :
    Calls Tryz.prog 21 #[.slice none 0 0, .slice la n lc] w fun e w' => ∃ g q l' rok, e = .returned (.tuple #[.slice g l'.length q, .bool rok]) ∧ OwnBs w' w.heap.size 32 60 g q l' ∧ l'.map PBox.box = (allD [] (l.take n)).1 ∧ Ext w w' := by
  have h := implAppliedAll_law [] none 0 (l.take n) la lc w ⟨by simp, Nat.le_refl _, by omega, fun h => by simp at h⟩ (fun y hy => by cases hy) (by simp) (fun y hy => by cases hy) (fun y hy => by cases hy) (fun y hy => by cases hy) (RL.pre DCommit.cells_len n hn) (by simp; omega) (fun y hy => gl y (List.mem_of_mem_take hy)) hm (allD [] (l.take n)).1 (allD [] (l.take n)).2 (Lib.hid rfl)
  have hl : (l.take n).length = n := by simp; omega
  rw [hl] at h
  exact h.mono fun e w' ⟨g, q, l', he, ho, hd, hx⟩ => ⟨g, q, l', _, he, ho, hd, hx⟩

set_option maxRecDepth 100000 in
set_option maxHeartbeats 8000000 in
theorem implBoxesAt_c (b : List PBox) (ba : Option Addr) (bc : Nat) (l : List DCommit) (la : Option Addr) (lc : Nat) (gv : Int) (x : Int) (w : World) (RL : Rd w la lc 6 l.length (l.flatMap DCommit.cells)) (hll : l.length ≤ 1048576) (gl : ∀ y ∈ l, y.name.size ≤ 9223372036854775807 ∧ y.text.size ≤ 9223372036854775807) (hm : MaxLen w) (rr : List DBox) (H : Hid (boxesAtD l x = rr)) :
    Calls Tryz.prog 24 #[.agg #[.slice ba b.length bc, .slice la l.length lc, .int .i64 gv], .int .i64 x] w fun e w' => ∃ g q l', e = .returned (.slice g l'.length q) ∧ OwnBs w' w.heap.size 32 60 g q l' ∧ l'.map PBox.box = rr ∧ Ext w w' := by
  have HRL := Lib.hid RL
  have HGL := Lib.hid gl
  have HMX := Lib.hid hm
  have hH := H.out
  obtain ⟨n, hn⟩ : ∃ n, atN l x = n := ⟨_, rfl⟩
  have hn2 : min (max x 0) (l.length : Int) = (n : Int) := by unfold atN at hn; omega
  have hnl : n ≤ l.length := by rw [← hn]; exact atN_le l x
  have HN := Lib.hid hn
  have hnc := RL.nc
  have hcm := RL.cm
  have i1 : (0 : Int) ≤ (n : Int) := by omega
  have i2 : (n : Int) ≤ (lc : Int) := by omega
  clear RL hm gl hn
  go_enter Tryz.func24, Tryz.ntmps24
  go_wp2_with (go_at_call 21; refine (implAllNil l la lc n _ (HRL.out.ext bxt) hll HGL.out (HMX.out.ext bxt) hnl).mono ?_; rintro e w4 ⟨g4, q4, l4, rok, rfl, ho4, hd4, hb4⟩; have HO4 := Lib.hid ho4; have HD4 := Lib.hid hd4; clear ho4 hd4)
  go_ret
  exact ⟨g4, q4, l4, rfl, OwnBs.le HO4.out smx, by rw [HD4.out, ← HN.out]; exact H.out, bxt⟩
end Go.Proofs.YtemgabekckhckaaGreat

namespace Go.Proofs.YtemgabekckhckaaGreat
open Go.RowKit
set_option linter.unusedVariables false
set_option linter.unusedSimpArgs false

theorem implStoreOk_at {B : Nat} (zs : List PBox) (ba : Option Addr) (bc : Nat) (lg : List DCommit) (la : Option Addr) (lc : Nat) (gv : Int) (w : World) (R : OwnRt w B 32 60 45 ba bc zs la lc lg) (hz : zs.length ≤ 5) (hs : SmB 6 zs) (hl : lg.length ≤ 320) (hg : SmL lg) (hm : MaxLen w) (r : Bool) (Hr : Hid (Tells r (StoreP ⟨zs.map PBox.box, lg, gv⟩))) : Calls Tryz.prog 7 #[.agg #[.slice ba zs.length bc, .slice la lg.length lc, .int .i64 gv]] w fun e w' => e = .returned (.bool r) ∧ Ext w w' :=
  implStoreOk_any zs ba bc lg la lc gv w R.rs.rd R.rs.rdm (Rd.of_Own R.log) (by omega) (fun y hy => by have := (hs y hy).2.1; omega) (by omega) (fun y hy => by have := (hs y hy).1; omega) (fun y hy t ht => by have := (hs y hy).2.2 t ht; omega) (fun y hy => by have := hg y hy; exact ⟨by omega, by omega⟩) hm r Hr
theorem specStoreOk_at {B : Nat} (zs : List PBox) (ba : Option Addr) (bc : Nat) (lg : List DCommit) (la : Option Addr) (lc : Nat) (gv : Int) (w : World) (R : OwnRt w B 32 60 45 ba bc zs la lc lg) (hz : zs.length ≤ 5) (hs : SmB 6 zs) (hl : lg.length ≤ 320) (hg : SmL lg) (r : Bool) (Hr : Hid (Tells r (StoreP ⟨zs.map PBox.box, lg, gv⟩))) : Calls Tryz.prog 6 #[.agg #[.slice ba zs.length bc, .slice la lg.length lc, .int .i64 gv]] w fun e w' => e = .returned (.bool r) ∧ Ext w w' :=
  specStoreOk_any zs ba bc lg la lc gv w R.rs.rd R.rs.rdm (Rd.of_Own R.log) (by omega) (fun y hy => by have := (hs y hy).2.1; omega) (by omega) (fun y hy => by have := (hs y hy).1; omega) (fun y hy t ht => by have := (hs y hy).2.2 t ht; omega) (fun y hy => by have := hg y hy; exact ⟨by omega, by omega⟩) r Hr
end Go.Proofs.YtemgabekckhckaaGreat

namespace Go.Proofs.YtemgabekckhckaaGreat
open Go.RowKit
set_option linter.unusedVariables false
set_option linter.unusedSimpArgs false

def ViewQ (l : List DSeen) : Prop := (∀ x ∈ l, (1 ≤ x.uid ∧ x.uid ≤ 999999998) ∧ (0 ≤ x.flags ∧ x.flags ≤ 31)) ∧ (l.Pairwise fun a b => a.uid < b.uid) ∧ l.length ≤ 6
theorem view_iff (l : List DSeen) : ViewOkP l ↔ ViewQ l := by
  constructor
  · rintro ⟨h, hl⟩
    refine ⟨fun x hx => ?_, pair_step (R := fun a b : DSeen => a.uid < b.uid) (fun a b c => Int.lt_trans) l fun k hk hk0 => ?_, hl⟩
    · obtain ⟨k, hk, rfl⟩ := List.getElem_of_mem hx
      obtain ⟨_, h1, h2, _⟩ := h k hk
      exact ⟨h1, h2⟩
    · obtain ⟨_, _, _, h3⟩ := h k hk
      exact h3 hk0
  · rintro ⟨h, hp, hl⟩
    refine ⟨fun k hk => ⟨hk, (h _ (List.getElem_mem hk)).1, (h _ (List.getElem_mem hk)).2, fun h0 => ?_⟩, hl⟩
    exact List.pairwise_iff_getElem.1 hp (k - 1) k (by omega) hk (by omega)
theorem commit_cases {m : DCommit} (h : CommitP m) : m.kind = 1 ∨ m.kind = 2 ∨ m.kind = 3 ∨ (m.kind = 4 ∧ (1 ≤ m.uid ∧ m.uid ≤ 999999998) ∧ (0 ≤ m.flags ∧ m.flags ≤ 31) ∧ m.text.size ≤ 40) ∨ (m.kind = 5 ∧ (1 ≤ m.uid ∧ m.uid ≤ 999999998) ∧ (0 ≤ m.flags ∧ m.flags ≤ 31)) ∨ (m.kind = 6 ∧ 1 ≤ m.uid ∧ m.uid ≤ 999999998) := by
  obtain ⟨hv, hk⟩ := h
  rcases hk with hk | hk | ⟨e, hn, -⟩ | ⟨e, ⟨hu, hf, ht⟩, -⟩ | ⟨e, ⟨hu, hf⟩, -⟩ | ⟨e, hu, -⟩
  · exact Or.inl hk.1
  · exact Or.inr (Or.inl hk.1)
  · exact Or.inr (Or.inr (Or.inl e))
  · exact Or.inr (Or.inr (Or.inr (Or.inl ⟨e, hu, hf, ht⟩)))
  · exact Or.inr (Or.inr (Or.inr (Or.inr (Or.inl ⟨e, hu, hf⟩))))
  · exact Or.inr (Or.inr (Or.inr (Or.inr (Or.inr ⟨e, hu⟩))))
theorem firstI_mapQ {α β : Type} (p : β → Bool) (f : α → β) (l : List α) : firstI p (l.map f) = firstI (fun x => p (f x)) l := by
  unfold firstI
  rw [List.findIdx?_map]
  rfl
theorem seqOf_map (u : Int) (l : List DMsg) : seqOf u (l.map DMsg.seen) = placeOf u l + 1 := by
  unfold seqOf placeOf
  rw [firstI_mapQ]
  rfl
theorem box_view {b : DBox} (h : BoxQ b) : ViewOkP (b.msgs.map DMsg.seen) := by
  obtain ⟨-, -, h1, h2, h3, h4⟩ := h
  refine (view_iff _).2 ⟨fun x hx => ?_, List.pairwise_map.2 h4, by simpa using h2⟩
  obtain ⟨m, hm, rfl⟩ := List.mem_map.1 hx
  obtain ⟨h5, h6, -⟩ := h3 m hm
  exact ⟨⟨h5.1, by show m.uid ≤ 999999998; omega⟩, h6⟩
theorem pl_uid {u : Int} {l : List DMsg} (h : 0 ≤ placeOf u l) : (theM l (pl u l)).uid = u := by
  have hp := pl_lt h
  rw [theM_of hp]
  rcases firstI_cases (fun m : DMsg => decide (m.uid = u)) l with h1 | ⟨i, hi, h1, h2⟩
  · have : placeOf u l = -1 := h1
    omega
  · have h3 : pl u l = i := by
      have : placeOf u l = i := h1
      unfold pl; omega
    have : l[pl u l] = l[i] := by simp only [h3]
    rw [this]
    simpa using h2
theorem eraseIdx_mapQ {α β : Type} (f : α → β) (l : List α) (i : Nat) : (l.map f).eraseIdx i = (l.eraseIdx i).map f := by
  rw [List.eraseIdx_eq_take_drop_succ, List.eraseIdx_eq_take_drop_succ, List.map_append, List.map_take, List.map_drop]
/-- who follows a commit knows the changed mailbox -/
theorem followed_box {b : DBox} {m : DCommit} (hb : BoxQ b) (hm : CommitP m) (h4 : 4 ≤ m.kind) (h4' : m.kind = 4 → m.uid = b.next ∧ b.msgs.length < 6) (h56 : m.kind = 5 ∨ m.kind = 6 → 0 ≤ placeOf m.uid b.msgs) :
    followed (b.msgs.map DMsg.seen) m = ⟨(newD b m).msgs.map DMsg.seen, true⟩ := by
  unfold followed
  rw [if_neg (by simpa using box_view hb), if_neg (by simpa using hm)]
  rcases commit_cases hm with e | e | e | ⟨e, hu, hf, -⟩ | ⟨e, hu, hf⟩ | ⟨e, hu⟩
  · omega
  · omega
  · omega
  · obtain ⟨g1, g2⟩ := h4' e
    have hl : lastBelow (b.msgs.map DMsg.seen) m.uid := fun h0 => by
      rw [List.getElem_map]
      have h8 : (b.msgs.map DMsg.seen).length - 1 < b.msgs.length := by simp at h0 ⊢; omega
      have := (hb.2.2.2.2.1 _ (List.getElem_mem h8)).1.2
      show (b.msgs[(b.msgs.map DMsg.seen).length - 1]'h8).uid < m.uid
      omega
    rw [if_pos e, if_pos ⟨by simpa using g2, hl⟩]
    simp [newD, e, DMsg.seen]
  · have h5 := h56 (Or.inl e)
    have h6 := seqOf_map m.uid b.msgs
    have h7 : (placeOf m.uid b.msgs + 1).toNat - 1 = pl m.uid b.msgs := by unfold pl; omega
    rw [if_neg (by omega), if_pos e, h6, if_pos (by omega), h7]
    simp [newD, e, List.map_set, DMsg.seen, pl_uid h5]
  · have h5 := h56 (Or.inr e)
    have h6 := seqOf_map m.uid b.msgs
    have h7 : (placeOf m.uid b.msgs + 1).toNat - 1 = pl m.uid b.msgs := by unfold pl; omega
    rw [if_neg (by omega), if_neg (by omega), if_pos e, h6, if_pos (by omega), h7]
    simp [newD, e, eraseIdx_mapQ]
end Go.Proofs.YtemgabekckhckaaGreat

namespace Go.Proofs.YtemgabekckhckaaGreat
open Go.RowKit
set_option linter.unusedVariables false
set_option linter.unusedSimpArgs false

theorem info_int2 : (Tryz.prog.info? 3).map (fun i => (i.zero, i.size, i.bytes)) = some (some (.int .i64 0), 1, 8) := by kernel_rfl
def comB (m : DCommit) (v : Int) : Bool := (m.validity == v) && (decide (4 ≤ m.kind) && decide (m.kind ≤ 6))
def comAt (l : List DCommit) (v f : Int) (k : Nat) : Bool := decide (f ≤ (k : Int)) && (match l[k]? with | some m => comB m v | none => false)
def comTo (l : List DCommit) (v f : Int) : Nat → List Int
  | 0 => []
  | k + 1 => if comAt l v f k = true then comTo l v f k ++ [(k : Int)] else comTo l v f k
theorem comTo_hit (l : List DCommit) (v f : Int) (k : Nat) (h : comAt l v f k = true) : comTo l v f (k + 1) = comTo l v f k ++ [(k : Int)] := by simp [comTo, h]
theorem comTo_skip (l : List DCommit) (v f : Int) (k : Nat) (h : comAt l v f k = false) : comTo l v f (k + 1) = comTo l v f k := by simp [comTo, h]
theorem comTo_len (l : List DCommit) (v f : Int) : ∀ k, (comTo l v f k).length ≤ k
  | 0 => by simp [comTo]
  | k + 1 => by
    have := comTo_len l v f k
    unfold comTo
    split
    · simp; omega
    · omega
theorem comAt_eq (l : List DCommit) (v f : Int) (k : Nat) (hk : k < l.length) : comAt l v f k = (decide (f ≤ (k : Int)) && comB l[k] v) := by simp [comAt, hk]
theorem comTo_below (l : List DCommit) (v f : Int) : ∀ k : Nat, (k : Int) ≤ f → comTo l v f k = []
  | 0, _ => rfl
  | k + 1, h => by
    have h1 : comAt l v f k = false := by
      unfold comAt
      rw [decide_eq_false (by omega)]; rfl
    rw [comTo_skip l v f k h1]
    exact comTo_below l v f k (by omega)
def ComRel (E : Nat) (out : Nat → List Int) (N : Nat) (W : World) (v i : Value) (wr : World) : Prop :=
  ∃ (k : Nat) (g : Option Addr) (q : Nat), k ≤ N ∧ i = .int .i64 k ∧ v = .slice g (out k).length q ∧ Hid (Own wr W.heap.size E 1 (.slice g (out k).length q) (out k).length ((out k).flatMap intCells)) ∧ Below W.heap.size W wr
theorem ComRel.hit {E N k q : Nat} {g : Option Addr} {l : List DCommit} {vv f : Int} {W w2 : World} (hk : k < N) (hc : comAt l vv f k = true) (h : Own w2 W.heap.size E 1 (.slice g ((comTo l vv f k).length + 1) q) ((comTo l vv f k).length + 1) ((comTo l vv f k).flatMap intCells ++ [.int .i64 (k : Int)])) (hb : Below W.heap.size W w2) :
    ComRel E (comTo l vv f) N W (.slice g ((comTo l vv f k).length + 1) q) (.int .i64 ((k : Int) + 1)) w2 := by
  have e := comTo_hit l vv f k hc
  have e2 : (comTo l vv f (k + 1)).length = (comTo l vv f k).length + 1 := by simp [e]
  refine ⟨k + 1, g, q, hk, by simp, by rw [e2], ?_, hb⟩
  unfold Hid
  rw [e2, e, List.flatMap_append]
  simpa [intCells] using h
theorem ComRel.skip {E N k q : Nat} {g : Option Addr} {l : List DCommit} {vv f : Int} {W w2 : World} (hk : k < N) (hc : comAt l vv f k = false) (h : Own w2 W.heap.size E 1 (.slice g (comTo l vv f k).length q) (comTo l vv f k).length ((comTo l vv f k).flatMap intCells)) (hb : Below W.heap.size W w2) :
    ComRel E (comTo l vv f) N W (.slice g (comTo l vv f k).length q) (.int .i64 ((k : Int) + 1)) w2 := by
  have e := comTo_skip l vv f k hc
  exact ⟨k + 1, g, q, hk, by simp, by rw [e], by unfold Hid; rw [e]; exact h, hb⟩
set_option maxHeartbeats 1000000 in
theorem isContent_any (m : DCommit) (v : Int) (w : World) :
    Calls Tryz.prog 26 #[.agg #[.int .i64 m.kind, .int .i64 m.validity, .int .i64 m.uid, .int .i64 m.flags, .string m.name, .string m.text], .int .i64 v] w fun e w' => e = .returned (.bool (comB m v)) ∧ Ext w w' := by
  by_cases hv : m.validity = v
  · have h1 : (m.validity == v) = true := beq_iff_eq.2 hv
    clear hv
    go_enter Tryz.func26, Tryz.ntmps26
    go_wp2_with ((go_at_call 23; refine (within_dec _ _ _ _).mono ?_; rintro e w1 ⟨rfl, rfl⟩))
    go_ret
    exact ⟨by simp [comB, h1], bxt⟩
  · have h1 : (m.validity == v) = false := beq_eq_false_iff_ne.2 hv
    clear hv
    go_enter Tryz.func26, Tryz.ntmps26
    go_wp2_with fail
    go_ret
    exact ⟨by simp [comB, h1], bxt⟩

set_option maxRecDepth 100000 in
set_option maxHeartbeats 4000000 in
theorem implCommits_c (ba : Option Addr) (bn bc : Nat) (l : List DCommit) (a : Option Addr) (c : Nat) (g0 v f : Int) (w : World) (R : Rd w a c 6 l.length (l.flatMap DCommit.cells)) (hl : l.length ≤ 1048576) :
    Calls Tryz.prog 10 #[.agg #[.slice ba bn bc, .slice a l.length c, .int .i64 g0], .int .i64 v, .int .i64 f] w fun e w' => ∃ g q, e = .returned (.slice g (comTo l v f l.length).length q) ∧ Own w' w.heap.size 3 1 (.slice g (comTo l v f l.length).length q) (comTo l v f l.length).length ((comTo l v f l.length).flatMap intCells) ∧ Ext w w' := by
  obtain ⟨i0, hi0, hz0, hz1, hz2⟩ := info_parts info_int2
  have HR := Lib.hid R
  clear R
  go_enter Tryz.func10, Tryz.ntmps10
  go_wp2_with fail
  go_loopw [7, 14] (ComRel 3 (comTo l v f) l.length (w.alloc (.cells #[.slice ba bn bc, .slice a l.length c, .int .i64 g0] 27))) (fun _ i _ => l.length - (intOf i).toNat)
  case atStart => exact ⟨0, some ⟨w.heap.size + 1, 0, none⟩, 0, Nat.zero_le _, rfl, rfl, Own.none0 _, (Below.refl _ _).alloc (by simp) _⟩
  case round =>
    obtain ⟨k, g, q, hk, rfl, rfl, HO, hb⟩ := hrel
    rw [heap_alloc_size] at HO hb
    have hlen := comTo_len l v f k
    have hbs : w.heap.size + 1 ≤ wr.heap.size := by (have := hb.size; simpa using this)
    have hw0 : Below w.heap.size w wr := Below.extB ((Below.refl _ _).alloc (Nat.le_refl _) _) hb (by omega)
    have c0 : wr.cell? ⟨w.heap.size, 0, none⟩ = some (.slice ba bn bc) := (hb.cell (p := ⟨w.heap.size, 0, none⟩) (by simp)).trans (by simp [go_sem])
    have c1 : wr.cell? ⟨w.heap.size, 1, none⟩ = some (.slice a l.length c) := (hb.cell (p := ⟨w.heap.size, 1, none⟩) (by simp)).trans (by simp [go_sem])
    have c2 : wr.cell? ⟨w.heap.size, 2, none⟩ = some (.int .i64 g0) := (hb.cell (p := ⟨w.heap.size, 2, none⟩) (by simp)).trans (by simp [go_sem])
    have sw0 : w.heap.size < wr.heap.size := by omega
    by_cases hlt : k < l.length
    rotate_left
    · obtain rfl : k = l.length := by omega
      go_wp2_with fail
      go_ret
      exact ⟨g, q, rfl, HO.out.le (by omega), hw0⟩
    · obtain ⟨b, o, rfl, hbb, hat⟩ := HR.out.ptr (by omega)
      obtain ⟨x0, x1, x2, x3, x4, x5⟩ := DCommit.at (hat.ext hbb hw0) k hlt
      have HA := Lib.hid hat
      have hbw : b < wr.heap.size := by omega
      have hbw1 : b < wr.heap.size + 1 := by omega
      clear hat
      by_cases hf : f ≤ (k : Int)
      · have hf1 : decide (f ≤ (k : Int)) = true := decide_eq_true hf
        clear hf
        go_wp2_with fail
        refine (isContent_any l[k] v _).mono ?_
        rintro e w1 ⟨rfl, hb1⟩
        have hzz : wr.heap.size ≤ w1.heap.size := by (have h9 := hb1.size; simp at h9; omega)
        cases hd : comB l[k] v with
        | false =>
          have HC : Hid (comAt l v f k = false) := by (unfold Hid; rw [comAt_eq l v f k hlt, hf1, hd]; rfl)
          go_wp2_with fail
          go_roundw
          case rel => exact ComRel.skip hlt HC.out (by rw [heap_alloc_size]; exact (by repeat' (first | with_reducible exact HO.out | with_reducible refine Own.set_below ?_ smx _ | with_reducible refine Own.alloc1 ?_ _ | with_reducible refine Own.drew1 ?_ | with_reducible refine Own.drewN1 ?_ | with_reducible refine Own.ext ?_ (by assumption)))) (by rw [heap_alloc_size]; repeat' (first | with_reducible assumption | with_reducible refine Below.alloc ?_ (by first | omega | (simp; omega)) _ | with_reducible refine Below.setCell ?_ (by first | omega | (simp; omega)) _ | with_reducible refine Below.extB ?_ (by assumption) (by first | omega | (simp; omega))))
          case measure => simp [intOf]; omega
        | true =>
          have HC : Hid (comAt l v f k = true) := by (unfold Hid; rw [comAt_eq l v f k hlt, hf1, hd]; rfl)
          go_wp2_with (go_loud (at_builtin; refine wpList_app (B := w.heap.size + 1) (v := .slice g (comTo l v f k).length q) (n := (comTo l v f k).length) (xs := (comTo l v f k).flatMap intCells) (s := 1) rfl _ _ _ rfl 3 i0 _ _ Tryz.underlying36 hi0 hz0 hz1 hz2 rfl (by decide) rfl (by repeat' (first | with_reducible exact HO.out | with_reducible refine Own.set_below ?_ smx _ | with_reducible refine Own.alloc1 ?_ _ | with_reducible refine Own.drew1 ?_ | with_reducible refine Own.drewN1 ?_ | with_reducible refine Own.ext ?_ (by assumption))) (some ⟨w1.heap.size, 0, none⟩) 1 1 [.int .i64 (k : Int)] rfl (Rd.lit _ _ _ 1 1 _ (by first | rfl | simp) rfl (by omega)) (by simp [Value.oneCell']) (by omega) (by omega) smx ?_; intro g2 q2 w2 hown hg; have hb2 : Below (w.heap.size + 1) (w.alloc (.cells #[.slice ba bn bc, .slice (some ⟨b, o, none⟩) l.length c, .int .i64 g0] 27)) w2 := below_foot (show Below (w.heap.size + 1) (w.alloc (.cells #[.slice ba bn bc, .slice (some ⟨b, o, none⟩) l.length c, .int .i64 g0] 27)) _ from by (repeat' (first | with_reducible assumption | with_reducible refine Below.alloc ?_ (by first | omega | (simp; omega)) _ | with_reducible refine Below.setCell ?_ (by first | omega | (simp; omega)) _ | with_reducible refine Below.extB ?_ (by assumption) (by first | omega | (simp; omega))))) (show Own _ (w.heap.size + 1) 3 1 (.slice g (comTo l v f k).length q) (comTo l v f k).length ((comTo l v f k).flatMap intCells) from (by repeat' (first | with_reducible exact HO.out | with_reducible refine Own.set_below ?_ smx _ | with_reducible refine Own.alloc1 ?_ _ | with_reducible refine Own.drew1 ?_ | with_reducible refine Own.drewN1 ?_ | with_reducible refine Own.ext ?_ (by assumption)))) (Nat.le_refl _) (by first | omega | (simp; omega)) hg; have HN := Lib.hid hown; clear hown hg))
          go_roundw
          case rel => exact ComRel.hit hlt HC.out (by rw [heap_alloc_size]; exact HN.out) (by rw [heap_alloc_size]; exact hb2)
          case measure => simp [intOf]; omega
      · have hf1 : decide (f ≤ (k : Int)) = false := decide_eq_false hf
        have HC : Hid (comAt l v f k = false) := by (unfold Hid; rw [comAt_eq l v f k hlt, hf1]; rfl)
        clear hf
        go_wp2_with fail
        go_roundw
        case rel => exact ComRel.skip hlt HC.out (by rw [heap_alloc_size]; exact (by repeat' (first | with_reducible exact HO.out | with_reducible refine Own.set_below ?_ smx _ | with_reducible refine Own.alloc1 ?_ _ | with_reducible refine Own.drew1 ?_ | with_reducible refine Own.drewN1 ?_ | with_reducible refine Own.ext ?_ (by assumption)))) (by rw [heap_alloc_size]; repeat' (first | with_reducible assumption | with_reducible refine Below.alloc ?_ (by first | omega | (simp; omega)) _ | with_reducible refine Below.setCell ?_ (by first | omega | (simp; omega)) _ | with_reducible refine Below.extB ?_ (by assumption) (by first | omega | (simp; omega))))
        case measure => simp [intOf]; omega

theorem implCommitsOf_any (xb : List PBox) (xbA : Option Addr) (xbC : Nat) (l : List DCommit) (a : Option Addr) (c : Nat) (g0 v f : Int) (w : World) (RB : Rd w xbA xbC 4 xb.length (xb.flatMap PBox.cells)) (RM : RdM w xb) (R : Rd w a c 6 l.length (l.flatMap DCommit.cells)) (hl : l.length ≤ 1048576) (rr : List Int) (Hrr : Hid (comTo l v f l.length = rr)) :
    Calls Tryz.prog 10 #[.agg #[.slice xbA xb.length xbC, .slice a l.length c, .int .i64 g0], .int .i64 v, .int .i64 f] w fun e w' => ∃ g q, e = .returned (.slice g rr.length q) ∧ Own w' w.heap.size 3 1 (.slice g rr.length q) rr.length (rr.flatMap intCells) ∧ Ext w w' := by
  obtain rfl := Hrr.out
  exact implCommits_c xbA xb.length xbC l a c g0 v f w R hl

end Go.Proofs.YtemgabekckhckaaGreat

namespace Go.Proofs.YtemgabekckhckaaGreat
open Go.RowKit
set_option linter.unusedVariables false
set_option linter.unusedSimpArgs false

theorem comTo_lt (l : List DCommit) (v f : Int) : ∀ k, ∀ x ∈ comTo l v f k, x < (k : Int)
  | 0, x, hx => by simp [comTo] at hx
  | k + 1, x, hx => by
    unfold comTo at hx
    split at hx
    · rcases List.mem_append.1 hx with h | h
      · have := comTo_lt l v f k x h; omega
      · rw [List.mem_singleton.1 h]; omega
    · have := comTo_lt l v f k x hx; omega
theorem comTo_pre (l : List DCommit) (v f : Int) (k : Nat) : ∀ d, comTo l v f k <+: comTo l v f (k + d)
  | 0 => List.prefix_refl _
  | d + 1 => by
    refine List.IsPrefix.trans (comTo_pre l v f k d) ?_
    show comTo l v f (k + d) <+: comTo l v f (k + d + 1)
    cases h : comAt l v f (k + d) with
    | true => rw [comTo_hit l v f _ h]; exact List.prefix_append _ _
    | false => rw [comTo_skip l v f _ h]; exact List.prefix_refl _
theorem comTo_rest {l : List DCommit} {v f : Int} {k n : Nat} (h : (comTo l v f k).length = (comTo l v f n).length) : ∀ p, k ≤ p → p < n → comAt l v f p = false := fun p h1 h2 => by
  cases hc : comAt l v f p with
  | false => rfl
  | true =>
    exfalso
    have e1 := (comTo_pre l v f k (p - k)).length_le
    have e2 := (comTo_pre l v f (p + 1) (n - (p + 1))).length_le
    rw [show k + (p - k) = p by omega] at e1
    rw [show p + 1 + (n - (p + 1)) = n by omega, comTo_hit l v f p hc] at e2
    simp at e2
    omega
theorem comTo_next (l : List DCommit) (v f : Int) (n : Nat) : ∀ (d k i : Nat), k + d = n → comTo l v f k = (comTo l v f n).take i → ∀ (hi : i < (comTo l v f n).length),
    ∃ j : Nat, k ≤ j ∧ j < n ∧ comAt l v f j = true ∧ (∀ p, k ≤ p → p < j → comAt l v f p = false) ∧ (comTo l v f n)[i] = (j : Int) ∧ comTo l v f (j + 1) = (comTo l v f n).take (i + 1)
  | 0, k, i, hk, h, hi => by
    exfalso
    have e : k = n := by omega
    subst e
    have := congrArg List.length h
    simp at this
    omega
  | d + 1, k, i, hk, h, hi => by
    cases hc : comAt l v f k with
    | true =>
      have hl : (comTo l v f k).length = i := by rw [h]; simp; omega
      have hp := comTo_pre l v f (k + 1) d
      rw [show k + 1 + d = n by omega] at hp
      have hh := comTo_hit l v f k hc
      have ht : comTo l v f (k + 1) = (comTo l v f n).take (i + 1) := by
        have := List.prefix_iff_eq_take.1 hp
        rw [hh] at this ⊢
        rw [this]; congr 1; simp [hl]
      refine ⟨k, Nat.le_refl _, by omega, hc, fun p h1 h2 => by omega, ?_, ht⟩
      have e : (comTo l v f n)[i] = (comTo l v f (k + 1))[i]'(by rw [hh]; simp [hl]) := by
        simp only [ht]; simp
      rw [e]
      simp only [hh]
      rw [List.getElem_append_right (by omega)]
      simp [hl]
    | false =>
      obtain ⟨j, h1, h2, h3, h4, h5, h6⟩ := comTo_next l v f n d (k + 1) i (by omega) (by rw [comTo_skip l v f k hc]; exact h) hi
      refine ⟨j, by omega, h2, h3, fun p hp1 hp2 => ?_, h5, h6⟩
      by_cases e : p = k
      · subst e; exact hc
      · exact h4 p (by omega) hp2
/-- a mailbox that is not there comes only by its creation -/
theorem made_here {l : List DBox} {m : DCommit} (h : AppliesP l m) {v : Int} (h0 : boxWith v l < 0) (h1 : 0 ≤ boxWith v (appD l m)) : m.kind = 1 ∧ m.validity = v := by
  obtain ⟨k, hk, hz⟩ := with_lt h1
  have hv := with_at hk hz
  have hno := with_none h0
  have hm := (appD_perf h _).1 (List.getElem_mem hk)
  obtain ⟨hb, hc, hf⟩ := h
  unfold perfD at hm
  by_cases e : m.kind = 1
  · rw [if_pos e] at hm
    rcases List.mem_append.1 hm with h2 | h2
    · exact absurd hv (hno _ h2)
    · refine ⟨e, ?_⟩
      rw [List.mem_singleton.1 h2] at hv
      exact hv
  · exfalso
    rw [if_neg e] at hm
    obtain ⟨i, hi, hz2, -⟩ := hf.2 e
    have ha : atD l m = i := by unfold atD; omega
    rw [ha] at hm
    by_cases e2 : m.kind = 2
    · rw [if_pos e2] at hm
      exact hno _ (List.mem_of_mem_eraseIdx hm) hv
    · rw [if_neg e2] at hm
      rcases List.mem_or_eq_of_mem_set hm with h2 | h2
      · exact hno _ h2 hv
      · rw [h2, newD_valid, theD_of hi] at hv
        exact hno _ (List.getElem_mem hi) hv
/-- a mailbox that is deleted is gone -/
theorem gone_here {l : List DBox} {m : DCommit} (h : AppliesP l m) (h2 : m.kind = 2) : boxWith m.validity (appD l m) < 0 := by
  refine Classical.byContradiction fun hc => ?_
  obtain ⟨k, hk, hz⟩ := with_lt (show 0 ≤ boxWith m.validity (appD l m) by omega)
  have hkv := with_at hk hz
  obtain ⟨hb, hm, hf⟩ := h
  have h1 : m.kind ≠ 1 := by omega
  obtain ⟨j, hj, hz2, -⟩ := hf.2 h1
  have hv := with_at hj hz2
  have ha : atD l m = j := by unfold atD; omega
  have he : appD l m = l.eraseIdx j := by unfold appD; rw [if_neg h1, if_pos h2, ha]
  obtain ⟨x, hx⟩ : ∃ x, (appD l m)[k] = x := ⟨_, rfl⟩
  have hmem : x ∈ appD l m := hx ▸ List.getElem_mem hk
  rw [hx] at hkv
  rw [he, List.eraseIdx_eq_take_drop_succ] at hmem
  obtain ⟨-, -, hn, -⟩ := (boxes_iff l).1 hb
  rw [List.nodup_iff_pairwise_ne, List.pairwise_map, List.pairwise_iff_getElem] at hn
  rcases List.mem_append.1 hmem with h4 | h4
  · obtain ⟨p, hp, e⟩ := List.mem_iff_getElem.1 h4
    rw [List.getElem_take] at e
    have hp2 : p < j := by simp at hp; omega
    exact hn p j (by omega) hj hp2 (by rw [e, hkv, hv])
  · obtain ⟨p, hp, e⟩ := List.mem_iff_getElem.1 h4
    rw [List.getElem_drop] at e
    have hp2 : j + 1 + p < l.length := by simp at hp; omega
    exact hn j (j + 1 + p) hj hp2 (by omega) (by rw [e, hkv, hv])
/-- the mailboxes behind the first j commits; what there is to know of one of them -/
noncomputable def boxesTo (log : List DCommit) (j : Nat) : List DBox := (allD [] (log.take j)).1
def viewIn (v : Int) (l : List DBox) : List DSeen := (theD l (boxWith v l).toNat).msgs.map DMsg.seen
theorem viewIn_at {v : Int} {l : List DBox} {k : Nat} (hk : k < l.length) (hz : boxWith v l = k) : viewIn v l = l[k].msgs.map DMsg.seen := by
  unfold viewIn; rw [hz, Int.toNat_natCast, theD_of hk]
theorem made_between {log : List DCommit} (h : (allD [] log).2 = true) {v : Int} : ∀ (d a : Nat), a + d ≤ log.length → boxWith v (boxesTo log a) < 0 → 0 ≤ boxWith v (boxesTo log (a + d)) → ∃ i, ∃ hi : i < log.length, a ≤ i ∧ i < a + d ∧ log[i].kind = 1 ∧ log[i].validity = v
  | 0, a, hd, h0, h1 => by rw [Nat.add_zero] at h1; omega
  | d + 1, a, hd, h0, h1 => by
    by_cases hm : 0 ≤ boxWith v (boxesTo log (a + d))
    · obtain ⟨i, hi, h2, h3, h4⟩ := made_between h d a (by omega) h0 hm
      exact ⟨i, hi, h2, by omega, h4⟩
    · obtain ⟨s1, s2⟩ := all_step h (a + d) (by omega)
      have h1' : 0 ≤ boxWith v (appD (allD [] (log.take (a + d))).1 log[a + d]) := by rw [← s2]; exact h1
      exact ⟨a + d, by omega, by omega, by omega, made_here s1 (by show boxWith v (boxesTo log (a + d)) < 0; omega) h1'⟩
theorem there_between {s : DStore} (h : StoreP s) {v : Int} {a c : Nat} (hc : c ≤ s.log.length) (ha : a ≤ c) (h1 : 0 ≤ boxWith v (boxesTo s.log a)) (h2 : 0 ≤ boxWith v (boxesTo s.log s.log.length)) : 0 ≤ boxWith v (boxesTo s.log c) := by
  refine Classical.byContradiction fun hno => ?_
  have hal : (allD [] s.log).2 = true := by rw [h.1]
  have h0 : boxWith v (boxesTo s.log 0) < 0 := by
    have := (firstI_range (fun b : DBox => decide (b.validity = v)) (boxesTo s.log 0)).2
    have e : boxesTo s.log 0 = [] := by simp [boxesTo, allD]
    unfold boxWith
    rw [e] at this ⊢
    simp at this
    omega
  obtain ⟨i, hi, i1, i2, i3, i4⟩ := made_between (v := v) hal a 0 (by omega) h0 (by rw [Nat.zero_add]; exact h1)
  obtain ⟨j, hj, j1, j2, j3, j4⟩ := made_between (v := v) hal (s.log.length - c) c (by omega) (by omega) (by rw [show c + (s.log.length - c) = s.log.length by omega]; exact h2)
  exact h.2.2.2.1 j hj hj i (by omega) ⟨j3, i3, by rw [j4, i4]⟩
/-- one commit: it is followed, or it leaves the contents alone -/
theorem view_step {l : List DBox} {m : DCommit} (h : AppliesP l m) {v : Int} (h0 : 0 ≤ boxWith v l) (h1 : 0 ≤ boxWith v (appD l m)) :
    if comB m v = true then followed (viewIn v l) m = ⟨viewIn v (appD l m), true⟩ else viewIn v (appD l m) = viewIn v l := by
  obtain ⟨i, hi, hz⟩ := with_lt h0
  have hv := with_at hi hz
  by_cases hmv : m.validity = v
  · subst hmv
    have hok := appD_ok h
    have hk1 : m.kind ≠ 1 := fun e => by have := (h.2.2.1 e).2.1; omega
    have hk2 : m.kind ≠ 2 := fun e => by have := gone_here h e; omega
    obtain ⟨j, hj, hz2, -, h4', h56⟩ := h.2.2.2 hk1
    have hij : j = i := by omega
    subst hij
    have ha : atD l m = j := by unfold atD; omega
    have hmem : newD l[j] m ∈ appD l m := (appD_perf h _).2 (by
      unfold perfD
      rw [if_neg hk1, if_neg hk2, ha, theD_of hj]
      exact List.mem_iff_getElem.2 ⟨j, by simpa using hj, by simp⟩)
    obtain ⟨k, hk, hw, hkx⟩ := with_mem hok hmem
    rw [newD_valid, hv] at hw
    rw [viewIn_at hi hz, viewIn_at hk hw, hkx]
    have hbq := ((boxes_iff l).1 h.1).1 _ (List.getElem_mem hi)
    by_cases h3 : m.kind = 3
    · rw [if_neg (by simp [comB, h3])]
      simp [newD, h3]
    · have hcs := commit_cases h.2.1
      have h46 : 4 ≤ m.kind ∧ m.kind ≤ 6 := by omega
      rw [if_pos (by simp [comB, h46])]
      exact followed_box hbq h.2.1 h46.1 h4' h56
  · rw [if_neg (by simp [comB, hmv])]
    obtain ⟨k, hk, hw, hkx⟩ := apart_other h (y := l[i]) (List.getElem_mem hi) (by rw [hv]; exact fun e => hmv e.symm)
    rw [hv] at hw
    rw [viewIn_at hi hz, viewIn_at hk hw, hkx]
theorem view_at {s : DStore} (h : StoreP s) {v : Int} {a c : Nat} (hc : c < s.log.length) (ha : a ≤ c) (h1 : 0 ≤ boxWith v (boxesTo s.log a)) (h2 : 0 ≤ boxWith v (boxesTo s.log s.log.length)) :
    if comB s.log[c] v = true then followed (viewIn v (boxesTo s.log c)) s.log[c] = ⟨viewIn v (boxesTo s.log (c + 1)), true⟩ else viewIn v (boxesTo s.log (c + 1)) = viewIn v (boxesTo s.log c) := by
  have hal : (allD [] s.log).2 = true := by rw [h.1]
  obtain ⟨s1, s2⟩ := all_step hal c hc
  have t1 := there_between h (by omega) ha h1 h2
  have t2 := there_between h (c := c + 1) (by omega) (by omega) h1 h2
  have e : boxesTo s.log (c + 1) = appD (boxesTo s.log c) s.log[c] := s2
  rw [e] at t2 ⊢
  exact view_step s1 t1 t2
/-- over commits that leave the contents alone -/
theorem view_skip {s : DStore} (h : StoreP s) {v : Int} {a : Nat} (h1 : 0 ≤ boxWith v (boxesTo s.log a)) (h2 : 0 ≤ boxWith v (boxesTo s.log s.log.length)) : ∀ (d k : Nat), a ≤ k → k + d ≤ s.log.length → (∀ p, k ≤ p → p < k + d → comAt s.log v a p = false) → viewIn v (boxesTo s.log (k + d)) = viewIn v (boxesTo s.log k)
  | 0, k, _, _, _ => rfl
  | d + 1, k, hk, hd, hc => by
    have e := view_at h (c := k + d) (by omega) (by omega) h1 h2
    have hcb : comB s.log[k + d] v = false := by
      have := hc (k + d) (by omega) (by omega)
      rw [comAt_eq _ _ _ _ (by omega), decide_eq_true (by omega)] at this
      simpa using this
    rw [if_neg (by rw [hcb]; simp)] at e
    rw [← view_skip h h1 h2 d k hk (by omega) (fun p p1 p2 => hc p p1 (by omega))]
    exact e
/-- the state of the law's loop behind i rounds -/
def ComSt (s : DStore) (v : Int) (a : Nat) (i : Nat) (vs : List DSeen) : Prop :=
  ∃ k, a ≤ k ∧ k ≤ s.log.length ∧ comTo s.log v a k = (comTo s.log v a s.log.length).take i ∧ vs = viewIn v (boxesTo s.log k)
theorem ComSt.start {s : DStore} {v : Int} {a : Nat} (ha : a ≤ s.log.length) : ComSt s v a 0 (viewIn v (boxesTo s.log a)) :=
  ⟨a, Nat.le_refl _, ha, by rw [List.take_zero]; exact comTo_below _ _ _ _ (by omega), rfl⟩
theorem ComSt.next {s : DStore} {v : Int} {a i : Nat} {vs : List DSeen} (h : StoreP s) (h1 : 0 ≤ boxWith v (boxesTo s.log a)) (h2 : 0 ≤ boxWith v (boxesTo s.log s.log.length)) (hs : ComSt s v a i vs) (hi : i < (comTo s.log v a s.log.length).length) :
    ∃ j : Nat, ∃ hj : j < s.log.length, a ≤ j ∧ (comTo s.log v a s.log.length)[i] = (j : Int) ∧ (∀ p (hp : p < i), (comTo s.log v a s.log.length)[p]'(by omega) < (j : Int)) ∧ (followed vs s.log[j]).ok = true ∧ ComSt s v a (i + 1) (followed vs s.log[j]).known := by
  obtain ⟨k, hk1, hk2, hk3, rfl⟩ := hs
  obtain ⟨j, j1, j2, j3, j4, j5, j6⟩ := comTo_next s.log v a s.log.length (s.log.length - k) k i (by omega) hk3 hi
  have e := view_skip h h1 h2 (j - k) k hk1 (by omega) (fun p p1 p2 => j4 p p1 (by omega))
  rw [show k + (j - k) = j by omega] at e
  have hcb : comB s.log[j] v = true := by
    rw [comAt_eq _ _ _ _ j2, Bool.and_eq_true] at j3
    exact j3.2
  have f := view_at h j2 (by omega) h1 h2
  rw [if_pos hcb, e] at f
  refine ⟨j, j2, by omega, j5, fun p hp => ?_, by rw [f], ⟨j + 1, by omega, by omega, j6, by rw [f]⟩⟩
  have hm : (comTo s.log v a s.log.length)[p]'(by omega) ∈ comTo s.log v a k := by
    rw [hk3]
    exact List.mem_iff_getElem.2 ⟨p, by simp; omega, by simp⟩
  have := comTo_lt _ _ _ _ _ hm
  omega
theorem ComSt.stop {s : DStore} {v : Int} {a i : Nat} {vs : List DSeen} (h : StoreP s) (h1 : 0 ≤ boxWith v (boxesTo s.log a)) (h2 : 0 ≤ boxWith v (boxesTo s.log s.log.length)) (hs : ComSt s v a i vs) (hi : (comTo s.log v a s.log.length).length ≤ i) : vs = viewIn v s.boxes := by
  obtain ⟨k, hk1, hk2, hk3, rfl⟩ := hs
  rw [List.take_of_length_le hi] at hk3
  have hr := comTo_rest (congrArg List.length hk3)
  have e := view_skip h h1 h2 (s.log.length - k) k hk1 (by omega) (fun p p1 p2 => hr p p1 (by omega))
  rw [show k + (s.log.length - k) = s.log.length by omega] at e
  rw [← e]
  unfold boxesTo
  rw [List.take_length, h.1]
end Go.Proofs.YtemgabekckhckaaGreat

namespace Go.Proofs.YtemgabekckhckaaGreat
open Go.RowKit
set_option linter.unusedVariables false
set_option linter.unusedSimpArgs false

/-- where the mailbox stands behind the first commits -/
noncomputable def atZ (l : List DCommit) (v x : Int) : Int := boxWith v (boxesAtD l x)
noncomputable def boxAtD (l : List DCommit) (v x : Int) : DBox := if atZ l v x < 0 then ⟨ByteArray.empty, 0, 0, []⟩ else theD (boxesAtD l x) (atZ l v x).toNat
theorem atZ_lt (l : List DCommit) (v x : Int) : atZ l v x < ((boxesAtD l x).length : Int) := (firstI_range _ _).2
theorem boxAt_mem (l : List DCommit) (v x : Int) (h : ¬ atZ l v x < 0) : boxAtD l v x ∈ boxesAtD l x := by
  have h2 := atZ_lt l v x
  unfold boxAtD
  rw [if_neg h, theD_of (by omega)]
  exact List.getElem_mem _
theorem boxAt_len (l : List DCommit) (v x : Int) : (boxAtD l v x).msgs.length ≤ 1048576 := by
  by_cases h : atZ l v x < 0
  · unfold boxAtD; rw [if_pos h]; simp
  · have h1 := boxAt_mem l v x h
    have h2 : cntD (boxesAtD l x) ≤ 3145728 := boxesRel_cnt (s := ⟨[], l, 0⟩) rfl
    have h3 := sum_mem (fun p : DBox => 3 + 3 * p.msgs.length) _ _ h1
    unfold cntD at h2
    omega

theorem implBoxesN (l : List DCommit) (la : Option Addr) (lc : Nat) (b : List PBox) (ba : Option Addr) (bc : Nat) (gv x : Int) (w : World) (RL : Rd w la lc 6 l.length (l.flatMap DCommit.cells)) (hll : l.length ≤ 1048576) (gl : ∀ y ∈ l, y.name.size ≤ 9223372036854775807 ∧ y.text.size ≤ 9223372036854775807) (hm : MaxLen w) :
    Calls Tryz.prog 24 #[.agg #[.slice ba b.length bc, .slice la l.length lc, .int .i64 gv], .int .i64 x] w fun e w' => ∃ g q l', e = .returned (.slice g l'.length q) ∧ OwnBs w' w.heap.size 32 60 g q l' ∧ l'.map PBox.box = boxesAtD l x ∧ Ext w w' := implBoxesAt_c b ba bc l la lc gv x w RL hll gl hm _ (Lib.hid rfl)
set_option maxRecDepth 100000 in
set_option maxHeartbeats 8000000 in
theorem implBoxAt_any (b : List PBox) (ba : Option Addr) (bc : Nat) (l : List DCommit) (la : Option Addr) (lc : Nat) (gv : Int) (v x : Int) (w : World) (R : Rd w ba bc 4 b.length (b.flatMap PBox.cells)) (M : RdM w b) (RL : Rd w la lc 6 l.length (l.flatMap DCommit.cells)) (hll : l.length ≤ 1048576) (hm : MaxLen w) (gl : ∀ y ∈ l, y.name.size ≤ 9223372036854775807 ∧ y.text.size ≤ 9223372036854775807) (rname : ByteArray) (Hrname : Hid ((boxAtD l v x).name = rname)) (rvalidity : Int) (Hrvalidity : Hid ((boxAtD l v x).validity = rvalidity)) (rnext : Int) (Hrnext : Hid ((boxAtD l v x).next = rnext)) (rmsgs : List DMsg) (Hrmsgs : Hid ((boxAtD l v x).msgs = rmsgs)) (rok : Bool) (Hrok : Hid (decide (0 ≤ atZ l v x) = rok)) :
    Calls Tryz.prog 9 #[.agg #[.slice ba b.length bc, .slice la l.length lc, .int .i64 gv], .int .i64 v, .int .i64 x] w fun e w' => ∃ g q, e = .returned (.tuple #[.agg #[.string rname, .int .i64 rvalidity, .int .i64 rnext, .slice g rmsgs.length q], .bool rok]) ∧ Own w' w.heap.size 60 3 (.slice g rmsgs.length q) rmsgs.length (rmsgs.flatMap DMsg.cells) ∧ Ext w w' := by
  have HRL := Lib.hid RL
  have HGL := Lib.hid gl
  have HMX := Lib.hid hm
  obtain ⟨z, hz⟩ : ∃ z, atZ l v x = z := ⟨_, rfl⟩
  have HZ := Lib.hid hz
  clear R M RL gl hz hm
  by_cases hneg : z < 0
  · have hd : decide (z < 0) = true := decide_eq_true hneg
    have HBX : Hid (boxAtD l v x = ⟨ByteArray.empty, 0, 0, []⟩) := Lib.hid (by unfold boxAtD; rw [HZ.out, if_pos hneg])
    go_enter Tryz.func9, Tryz.ntmps9
    go_wp2_with (first | (go_at_call 24; refine (implBoxesN l la lc b ba bc gv x _ (HRL.out.ext bxt) hll HGL.out (HMX.out.ext bxt) ).mono ?_; rintro e w4 ⟨g4, q4, l4, rfl, ho4, hd4, hb4⟩; have HO4 : Hid (OwnBs w4 (w.heap.size + 2) 32 60 g4 q4 l4) := OwnBs.le ho4 smx; have HD4 := Lib.hid hd4; clear ho4 hd4; have cp0_0 : w4.cell? ⟨w.heap.size, 0, none⟩ = some (.slice ba b.length bc) := (hb4.cell (p := ⟨w.heap.size, 0, none⟩) smx).trans kpx; have fp0_0 : w4.frozen? ⟨w.heap.size, 0, none⟩ = false := (hb4.frozen (p := ⟨w.heap.size, 0, none⟩) smx).trans kfx; have cp0_1 : w4.cell? ⟨w.heap.size, 1, none⟩ = some (.slice la l.length lc) := (hb4.cell (p := ⟨w.heap.size, 1, none⟩) smx).trans kpx; have fp0_1 : w4.frozen? ⟨w.heap.size, 1, none⟩ = false := (hb4.frozen (p := ⟨w.heap.size, 1, none⟩) smx).trans kfx; have cp0_2 : w4.cell? ⟨w.heap.size, 2, none⟩ = some (.int .i64 gv) := (hb4.cell (p := ⟨w.heap.size, 2, none⟩) smx).trans kpx; have fp0_2 : w4.frozen? ⟨w.heap.size, 2, none⟩ = false := (hb4.frozen (p := ⟨w.heap.size, 2, none⟩) smx).trans kfx; have sp0 : w.heap.size < w4.heap.size := (by have hss := hb4.size; first | omega | (simp at hss; omega)); have cp1_0 : w4.cell? ⟨(w.heap.size + 1), 0, none⟩ = some (.string ⟨#[]⟩) := (hb4.cell (p := ⟨(w.heap.size + 1), 0, none⟩) smx).trans kpx; have fp1_0 : w4.frozen? ⟨(w.heap.size + 1), 0, none⟩ = false := (hb4.frozen (p := ⟨(w.heap.size + 1), 0, none⟩) smx).trans kfx; have cp1_1 : w4.cell? ⟨(w.heap.size + 1), 1, none⟩ = some (.int .i64 0) := (hb4.cell (p := ⟨(w.heap.size + 1), 1, none⟩) smx).trans kpx; have fp1_1 : w4.frozen? ⟨(w.heap.size + 1), 1, none⟩ = false := (hb4.frozen (p := ⟨(w.heap.size + 1), 1, none⟩) smx).trans kfx; have cp1_2 : w4.cell? ⟨(w.heap.size + 1), 2, none⟩ = some (.int .i64 0) := (hb4.cell (p := ⟨(w.heap.size + 1), 2, none⟩) smx).trans kpx; have fp1_2 : w4.frozen? ⟨(w.heap.size + 1), 2, none⟩ = false := (hb4.frozen (p := ⟨(w.heap.size + 1), 2, none⟩) smx).trans kfx; have cp1_3 : w4.cell? ⟨(w.heap.size + 1), 3, none⟩ = some (.slice none 0 0) := (hb4.cell (p := ⟨(w.heap.size + 1), 3, none⟩) smx).trans kpx; have fp1_3 : w4.frozen? ⟨(w.heap.size + 1), 3, none⟩ = false := (hb4.frozen (p := ⟨(w.heap.size + 1), 3, none⟩) smx).trans kfx; have sp1 : (w.heap.size + 1) < w4.heap.size := (by have hss := hb4.size; first | omega | (simp at hss; omega))) | (go_at_call 25; refine (implBoxWith_any l4 _ _ v _ (HO4.out.rd.ext bxt) z (Lib.hid (by rw [HD4.out]; exact HZ.out))).mono ?_; rintro e w5 ⟨rfl, hb5⟩; have hb5' : Ext w4 w5 := bxt; have cq0_0 : w5.cell? ⟨w.heap.size, 0, none⟩ = some (.slice ba b.length bc) := (hb5'.cell (p := ⟨w.heap.size, 0, none⟩) smx).trans kpx; have fq0_0 : w5.frozen? ⟨w.heap.size, 0, none⟩ = false := (hb5'.frozen (p := ⟨w.heap.size, 0, none⟩) smx).trans kfx; have cq0_1 : w5.cell? ⟨w.heap.size, 1, none⟩ = some (.slice la l.length lc) := (hb5'.cell (p := ⟨w.heap.size, 1, none⟩) smx).trans kpx; have fq0_1 : w5.frozen? ⟨w.heap.size, 1, none⟩ = false := (hb5'.frozen (p := ⟨w.heap.size, 1, none⟩) smx).trans kfx; have cq0_2 : w5.cell? ⟨w.heap.size, 2, none⟩ = some (.int .i64 gv) := (hb5'.cell (p := ⟨w.heap.size, 2, none⟩) smx).trans kpx; have fq0_2 : w5.frozen? ⟨w.heap.size, 2, none⟩ = false := (hb5'.frozen (p := ⟨w.heap.size, 2, none⟩) smx).trans kfx; have sq0 : w.heap.size < w5.heap.size := (by have hss := hb5'.size; first | omega | (simp at hss; omega)); have cq1_0 : w5.cell? ⟨(w.heap.size + 1), 0, none⟩ = some (.string ⟨#[]⟩) := (hb5'.cell (p := ⟨(w.heap.size + 1), 0, none⟩) smx).trans kpx; have fq1_0 : w5.frozen? ⟨(w.heap.size + 1), 0, none⟩ = false := (hb5'.frozen (p := ⟨(w.heap.size + 1), 0, none⟩) smx).trans kfx; have cq1_1 : w5.cell? ⟨(w.heap.size + 1), 1, none⟩ = some (.int .i64 0) := (hb5'.cell (p := ⟨(w.heap.size + 1), 1, none⟩) smx).trans kpx; have fq1_1 : w5.frozen? ⟨(w.heap.size + 1), 1, none⟩ = false := (hb5'.frozen (p := ⟨(w.heap.size + 1), 1, none⟩) smx).trans kfx; have cq1_2 : w5.cell? ⟨(w.heap.size + 1), 2, none⟩ = some (.int .i64 0) := (hb5'.cell (p := ⟨(w.heap.size + 1), 2, none⟩) smx).trans kpx; have fq1_2 : w5.frozen? ⟨(w.heap.size + 1), 2, none⟩ = false := (hb5'.frozen (p := ⟨(w.heap.size + 1), 2, none⟩) smx).trans kfx; have cq1_3 : w5.cell? ⟨(w.heap.size + 1), 3, none⟩ = some (.slice none 0 0) := (hb5'.cell (p := ⟨(w.heap.size + 1), 3, none⟩) smx).trans kpx; have fq1_3 : w5.frozen? ⟨(w.heap.size + 1), 3, none⟩ = false := (hb5'.frozen (p := ⟨(w.heap.size + 1), 3, none⟩) smx).trans kfx; have sq1 : (w.heap.size + 1) < w5.heap.size := (by have hss := hb5'.size; first | omega | (simp at hss; omega))))
    obtain rfl : rok = false := by rw [← Hrok.out, HZ.out]; exact decide_eq_false (by omega)
    obtain rfl : ByteArray.empty = rname := by rw [← Hrname.out, HBX.out]
    obtain rfl : 0 = rvalidity := by rw [← Hrvalidity.out, HBX.out]
    obtain rfl : 0 = rnext := by rw [← Hrnext.out, HBX.out]
    obtain rfl : [] = rmsgs := by rw [← Hrmsgs.out, HBX.out]
    refine bodyPost_ret (v := .tuple #[.agg #[.string ⟨#[]⟩, .int .i64 0, .int .i64 0, .slice none 0 0], .bool false]) (by simp [results, Tryz.results9, go_sem, *]) rfl ⟨none, 0, rfl, Own.none0 _, bxt⟩
  · have hd : decide (z < 0) = false := decide_eq_false hneg
    have hzl : z < ((boxesAtD l x).length : Int) := by rw [← HZ.out]; exact atZ_lt l v x
    obtain ⟨i, hi⟩ : ∃ i : Nat, z = i := ⟨z.toNat, by omega⟩
    subst hi
    have hil : i < (boxesAtD l x).length := by omega
    have HBX : Hid (boxAtD l v x = (boxesAtD l x)[i]) := Lib.hid (by unfold boxAtD; rw [HZ.out, if_neg hneg, theD_of (by omega)]; rfl)
    clear hzl
    go_enter Tryz.func9, Tryz.ntmps9
    go_wp2_with (first | (go_at_call 24; refine (implBoxesN l la lc b ba bc gv x _ (HRL.out.ext bxt) hll HGL.out (HMX.out.ext bxt) ).mono ?_; rintro e w4 ⟨g4, q4, l4, rfl, ho4, hd4, hb4⟩; have HO4 : Hid (OwnBs w4 (w.heap.size + 2) 32 60 g4 q4 l4) := OwnBs.le ho4 smx; have HD4 := Lib.hid hd4; clear ho4 hd4; have cp0_0 : w4.cell? ⟨w.heap.size, 0, none⟩ = some (.slice ba b.length bc) := (hb4.cell (p := ⟨w.heap.size, 0, none⟩) smx).trans kpx; have fp0_0 : w4.frozen? ⟨w.heap.size, 0, none⟩ = false := (hb4.frozen (p := ⟨w.heap.size, 0, none⟩) smx).trans kfx; have cp0_1 : w4.cell? ⟨w.heap.size, 1, none⟩ = some (.slice la l.length lc) := (hb4.cell (p := ⟨w.heap.size, 1, none⟩) smx).trans kpx; have fp0_1 : w4.frozen? ⟨w.heap.size, 1, none⟩ = false := (hb4.frozen (p := ⟨w.heap.size, 1, none⟩) smx).trans kfx; have cp0_2 : w4.cell? ⟨w.heap.size, 2, none⟩ = some (.int .i64 gv) := (hb4.cell (p := ⟨w.heap.size, 2, none⟩) smx).trans kpx; have fp0_2 : w4.frozen? ⟨w.heap.size, 2, none⟩ = false := (hb4.frozen (p := ⟨w.heap.size, 2, none⟩) smx).trans kfx; have sp0 : w.heap.size < w4.heap.size := (by have hss := hb4.size; first | omega | (simp at hss; omega)); have cp1_0 : w4.cell? ⟨(w.heap.size + 1), 0, none⟩ = some (.string ⟨#[]⟩) := (hb4.cell (p := ⟨(w.heap.size + 1), 0, none⟩) smx).trans kpx; have fp1_0 : w4.frozen? ⟨(w.heap.size + 1), 0, none⟩ = false := (hb4.frozen (p := ⟨(w.heap.size + 1), 0, none⟩) smx).trans kfx; have cp1_1 : w4.cell? ⟨(w.heap.size + 1), 1, none⟩ = some (.int .i64 0) := (hb4.cell (p := ⟨(w.heap.size + 1), 1, none⟩) smx).trans kpx; have fp1_1 : w4.frozen? ⟨(w.heap.size + 1), 1, none⟩ = false := (hb4.frozen (p := ⟨(w.heap.size + 1), 1, none⟩) smx).trans kfx; have cp1_2 : w4.cell? ⟨(w.heap.size + 1), 2, none⟩ = some (.int .i64 0) := (hb4.cell (p := ⟨(w.heap.size + 1), 2, none⟩) smx).trans kpx; have fp1_2 : w4.frozen? ⟨(w.heap.size + 1), 2, none⟩ = false := (hb4.frozen (p := ⟨(w.heap.size + 1), 2, none⟩) smx).trans kfx; have cp1_3 : w4.cell? ⟨(w.heap.size + 1), 3, none⟩ = some (.slice none 0 0) := (hb4.cell (p := ⟨(w.heap.size + 1), 3, none⟩) smx).trans kpx; have fp1_3 : w4.frozen? ⟨(w.heap.size + 1), 3, none⟩ = false := (hb4.frozen (p := ⟨(w.heap.size + 1), 3, none⟩) smx).trans kfx; have sp1 : (w.heap.size + 1) < w4.heap.size := (by have hss := hb4.size; first | omega | (simp at hss; omega))) | (go_at_call 25; refine (implBoxWith_any l4 _ _ v _ (HO4.out.rd.ext bxt) (i : Int) (Lib.hid (by rw [HD4.out]; exact HZ.out))).mono ?_; rintro e w5 ⟨rfl, hb5⟩; have hb5' : Ext w4 w5 := bxt; have cq0_0 : w5.cell? ⟨w.heap.size, 0, none⟩ = some (.slice ba b.length bc) := (hb5'.cell (p := ⟨w.heap.size, 0, none⟩) smx).trans kpx; have fq0_0 : w5.frozen? ⟨w.heap.size, 0, none⟩ = false := (hb5'.frozen (p := ⟨w.heap.size, 0, none⟩) smx).trans kfx; have cq0_1 : w5.cell? ⟨w.heap.size, 1, none⟩ = some (.slice la l.length lc) := (hb5'.cell (p := ⟨w.heap.size, 1, none⟩) smx).trans kpx; have fq0_1 : w5.frozen? ⟨w.heap.size, 1, none⟩ = false := (hb5'.frozen (p := ⟨w.heap.size, 1, none⟩) smx).trans kfx; have cq0_2 : w5.cell? ⟨w.heap.size, 2, none⟩ = some (.int .i64 gv) := (hb5'.cell (p := ⟨w.heap.size, 2, none⟩) smx).trans kpx; have fq0_2 : w5.frozen? ⟨w.heap.size, 2, none⟩ = false := (hb5'.frozen (p := ⟨w.heap.size, 2, none⟩) smx).trans kfx; have sq0 : w.heap.size < w5.heap.size := (by have hss := hb5'.size; first | omega | (simp at hss; omega)); have cq1_0 : w5.cell? ⟨(w.heap.size + 1), 0, none⟩ = some (.string ⟨#[]⟩) := (hb5'.cell (p := ⟨(w.heap.size + 1), 0, none⟩) smx).trans kpx; have fq1_0 : w5.frozen? ⟨(w.heap.size + 1), 0, none⟩ = false := (hb5'.frozen (p := ⟨(w.heap.size + 1), 0, none⟩) smx).trans kfx; have cq1_1 : w5.cell? ⟨(w.heap.size + 1), 1, none⟩ = some (.int .i64 0) := (hb5'.cell (p := ⟨(w.heap.size + 1), 1, none⟩) smx).trans kpx; have fq1_1 : w5.frozen? ⟨(w.heap.size + 1), 1, none⟩ = false := (hb5'.frozen (p := ⟨(w.heap.size + 1), 1, none⟩) smx).trans kfx; have cq1_2 : w5.cell? ⟨(w.heap.size + 1), 2, none⟩ = some (.int .i64 0) := (hb5'.cell (p := ⟨(w.heap.size + 1), 2, none⟩) smx).trans kpx; have fq1_2 : w5.frozen? ⟨(w.heap.size + 1), 2, none⟩ = false := (hb5'.frozen (p := ⟨(w.heap.size + 1), 2, none⟩) smx).trans kfx; have cq1_3 : w5.cell? ⟨(w.heap.size + 1), 3, none⟩ = some (.slice none 0 0) := (hb5'.cell (p := ⟨(w.heap.size + 1), 3, none⟩) smx).trans kpx; have fq1_3 : w5.frozen? ⟨(w.heap.size + 1), 3, none⟩ = false := (hb5'.frozen (p := ⟨(w.heap.size + 1), 3, none⟩) smx).trans kfx; have sq1 : (w.heap.size + 1) < w5.heap.size := (by have hss := hb5'.size; first | omega | (simp at hss; omega)); have hi4 : i < l4.length := (by (have h := congrArg List.length HD4.out; simp at h; omega)); obtain ⟨ob, oo, rfl, hob, hat⟩ := HO4.out.rd.ptr (by omega); obtain ⟨u0, u1, u2, u3⟩ := PBox.at (hat.ext hob (show Ext w4 w5 from bxt)) i hi4; have hat2 := Lib.hid hat; clear hat))
    have hbx : l4[i].box = boxAtD l v x := by
      rw [HBX.out]
      have h := congrArg (fun y => y[i]?) HD4.out
      simpa [hi4, hil] using h
    have h1 : l4[i].name = rname := by rw [← Hrname.out, ← hbx]; rfl
    have h2 : l4[i].validity = rvalidity := by rw [← Hrvalidity.out, ← hbx]; rfl
    have h3 : l4[i].next = rnext := by rw [← Hrnext.out, ← hbx]; rfl
    have h4 : l4[i].msgs = rmsgs := by rw [← Hrmsgs.out, ← hbx]; rfl
    obtain rfl : rok = true := by rw [← Hrok.out, HZ.out]; exact decide_eq_true (by omega)
    subst h1
    subst h2
    subst h3
    subst h4
    refine bodyPost_ret (v := .tuple #[.agg #[.string l4[i].name, .int .i64 l4[i].validity, .int .i64 l4[i].next, .slice l4[i].ma l4[i].msgs.length l4[i].mc], .bool true]) (by simp [results, Tryz.results9, go_sem, *]) rfl ⟨l4[i].ma, l4[i].mc, rfl, ?_, bxt⟩
    have ho := HO4.out.msg _ (List.getElem_mem hi4)
    exact ((((ho.ext (show Ext w4 w5 from bxt)).set_below smx _).set_below smx _).set_below smx _).set_below smx _ |>.le (by omega)

end Go.Proofs.YtemgabekckhckaaGreat

namespace Go.Proofs.YtemgabekckhckaaGreat
open Go.RowKit
set_option linter.unusedVariables false
set_option linter.unusedSimpArgs false

set_option maxRecDepth 100000 in
set_option maxHeartbeats 4000000 in
theorem specSameView_any (xknown : List DSeen) (xknownA : Option Addr) (xknownC : Nat) (yknown : List DSeen) (yknownA : Option Addr) (yknownC : Nat) (w : World) (xknownR : Rd w xknownA xknownC 2 xknown.length (xknown.flatMap DSeen.cells)) (yknownR : Rd w yknownA yknownC 2 yknown.length (yknown.flatMap DSeen.cells)) (r : Bool) (Hr : Hid (decide (xknown = yknown) = r)) :
    Calls Tryz.prog 13 #[.agg #[.slice xknownA xknown.length xknownC], .agg #[.slice yknownA yknown.length yknownC]] w fun e w' => e = .returned (.bool r) ∧ Ext w w' := by
  have hlx : xknown.length ≤ 9223372036854775807 := Nat.le_trans xknownR.nc xknownR.cm
  have h3 := eqSeenG
  have Hxknown := Lib.hid xknownR
  clear xknownR
  have Hyknown := Lib.hid yknownR
  clear yknownR
  by_cases hne : xknown.length = yknown.length
  rotate_left
  · have hn1 : ((xknown.length : Int) != (yknown.length : Int)) = true := by simp; omega
    have HN : Hid (xknown ≠ yknown) := fun h => hne (by rw [h])
    clear hne
    go_enter Tryz.func13, Tryz.ntmps13
    go_wp2_with fail
    go_ret
    refine ⟨ret_bool ?_, bxt⟩
    rw [← Hr.out]
    simp [HN.out]
  have hn1 : ((xknown.length : Int) != (yknown.length : Int)) = false := by simp; omega
  have HN := Lib.hid hne
  clear hne
  go_enter Tryz.func13, Tryz.ntmps13
  go_wp2_with fail
  go_loopw [5] (fun i wr => ∃ k : Nat, k ≤ xknown.length ∧ i = .int .i64 k ∧ Hid (∀ j, j < k → xknown[j]? = yknown[j]?) ∧ Hid (∃ n, wr = ((w.alloc (.cells #[.slice xknownA xknown.length xknownC] 40)).alloc (.cells #[.slice yknownA yknown.length yknownC] 40)).drewN n)) (fun i _ => xknown.length - (intOf i).toNat)
  case atStart => exact ⟨0, Nat.zero_le _, rfl, by simp [Hid], ⟨0, rfl⟩⟩
  case round =>
    obtain ⟨k, hk, rfl, HP, HB⟩ := hrel
    obtain ⟨nq0, hw0⟩ := HB.out
    subst hw0
    by_cases hlt : k < xknown.length
    · have hlty : k < yknown.length := by have := HN.out; omega
      have hlty2 : (k : Int) < (yknown.length : Int) := by omega
      obtain ⟨b1, o1, rfl, hb1, hat1⟩ := Hxknown.out.ptr (by omega)
      obtain ⟨b2, o2, rfl, hb2, hat2⟩ := Hyknown.out.ptr (by omega)
      obtain ⟨hx0, hx1⟩ := DSeen.at hat1 k hlt
      obtain ⟨hy0, hy1⟩ := DSeen.at hat2 k hlty
      have HA1 := Lib.hid hat1
      have HA2 := Lib.hid hat2
      clear hat1 hat2
      have hb1' : b1 < w.heap.size + 1 := by omega
      have hb2' : b2 < w.heap.size + 1 := by omega
      obtain ⟨d, hd⟩ : ∃ d, decide (xknown[k] = yknown[k]) = d := ⟨_, rfl⟩
      have hq := eqSeenB xknown[k] yknown[k] d hd
      have HD := Lib.hid hd
      clear hd
      go_wp2_with fail
      go_quiet (fail)
      cases d
      · go_wp2_with fail
        go_ret
        refine ⟨ret_bool ?_, bxt⟩
        rw [← Hr.out]
        simp [ne_at hlt hlty (of_decide_eq_false HD.out)]
      · go_wp2_with fail
        go_roundw
        case rel => exact ⟨k + 1, by omega, by go_num, pre_succ HP.out hlt hlty (of_decide_eq_true HD.out), ⟨_, rfl⟩⟩
        case measure => simp [intOf]; omega
    · go_wp2_with fail
      go_ret
      refine ⟨ret_bool ?_, bxt⟩
      rw [← Hr.out]
      have hkk : k = xknown.length := by omega
      subst hkk
      simp [all_pre HP.out HN.out]

end Go.Proofs.YtemgabekckhckaaGreat

namespace Go.Proofs.YtemgabekckhckaaGreat
open Go.RowKit
set_option linter.unusedVariables false
set_option linter.unusedSimpArgs false

theorem sMkC {W w : World} (h3 : Below W.heap.size W w) : Below W.heap.size W w ∧ (∀ b o, b < W.heap.size → w.cell? ⟨b, o, none⟩ = W.cell? ⟨b, o, none⟩) := ⟨h3, (bcell h3).1⟩
/-- a box with these cells, made behind W -/
def BoxCut (cs : List Value) (W : World) (v : Value) (wx : World) : Prop := ∃ β, v = .pointer (some ⟨β, 0, none⟩) ∧ W.heap.size ≤ β ∧ β < wx.heap.size ∧ At wx β 0 cs ∧ Ext W wx
theorem ComSt.len {s : DStore} {v : Int} {a i : Nat} {vs : List DSeen} (h : StoreP s) (hs : ComSt s v a i vs) : vs.length ≤ 6 := by
  obtain ⟨k, -, -, -, rfl⟩ := hs
  unfold viewIn
  have hb : BoxesP (boxesTo s.log k) := allD_keep _ _ boxesP_nil
  by_cases hi : (boxWith v (boxesTo s.log k)).toNat < (boxesTo s.log k).length
  · rw [theD_of hi]
    have h1 := ((boxes_iff _).1 hb).1 _ (List.getElem_mem hi)
    simpa using h1.2.2.2.1
  · have : theD (boxesTo s.log k) (boxWith v (boxesTo s.log k)).toNat = ⟨ByteArray.empty, 0, 0, []⟩ := by unfold theD; rw [List.getElem?_eq_none (by omega)]; rfl
    rw [this]; simp
theorem boxesTo_at (lg : List DCommit) (k : Nat) (hk : k ≤ lg.length) : boxesAtD lg k = boxesTo lg k := by
  unfold boxesAtD boxesTo
  have e : atN lg k = k := by unfold atN; omega
  rw [e]
theorem viewIn_was (lg : List DCommit) (v : Int) (k : Nat) (hk : k ≤ lg.length) (h : 0 ≤ atZ lg v k) : (boxAtD lg v k).msgs.map DMsg.seen = viewIn v (boxesTo lg k) ∧ 0 ≤ boxWith v (boxesTo lg k) := by
  have e := boxesTo_at lg k hk
  have hz : atZ lg v k = boxWith v (boxesTo lg k) := by unfold atZ; rw [e]
  refine ⟨?_, by rw [← hz]; exact h⟩
  unfold boxAtD viewIn
  rw [if_neg (by omega), hz, e]
theorem Rd.chg_lt {S : Nat → Prop} {w0 w w' : World} {a : Option Addr} {c s n : Nat} {xs : List Value} (h : Rd w a c s n xs) (h0 : Rd w0 a c s n xs) (hw : Chg S w w') (hS : ∀ k, S k → w0.heap.size ≤ k) : Rd w' a c s n xs :=
  h.chg hw (fun hn b o e hb => by
    obtain ⟨b', o', e', hlt, -⟩ := h0.ptr hn
    rw [e'] at e
    obtain ⟨rfl, -⟩ : b' = b ∧ o' = o := by simpa using e
    have := hS b' hb
    omega)
/-- the loop: what the view's box holds -/
def CoSt (W : World) (b9 : Nat) (s : DStore) (v : Int) (a k : Nat) (wr : World) : Prop :=
  ∃ (g : Option Addr) (q : Nat) (vs : List DSeen), wr.cell? ⟨b9, 0, none⟩ = some (.slice g vs.length q) ∧ wr.frozen? ⟨b9, 0, none⟩ = false ∧ Rd wr g q 2 vs.length (vs.flatMap DSeen.cells) ∧ ComSt s v a k vs ∧ Chg (· = b9) W wr
def CLoop (W : World) (b9 : Nat) (s : DStore) (v : Int) (a n : Nat) (i : Value) (wr : World) : Prop := ∃ k : Nat, k ≤ n ∧ i = .int .i64 k ∧ Hid (CoSt W b9 s v a k wr)
set_option maxRecDepth 100000 in
set_option maxHeartbeats 16000000 in
theorem fnCommitsOf_walk (l : List Int) (a : Option Addr) (c : Nat) (w : World) : MaxLen w → Rd w a c 1 l.length (l.flatMap byteCells) → (∀ y ∈ l, 0 ≤ y ∧ y ≤ 255) →
    Calls Tryz.prog 3 #[.slice a l.length c] w fun e w' => e = .returned (.bool true) ∧ Below w.heap.size w w' := by
  intro hmx R hb
  have hln : l.length ≤ 9223372036854775807 := Nat.le_trans R.nc R.cm
  have HMX := Lib.hid hmx
  have HR := Lib.hid R
  have HB := Lib.hid hb
  clear R hb hmx
  obtain ⟨d, hd⟩ := boolOf (1048576 < l.length)
  have HDB := Lib.hid hd
  clear hd
  go_enter Tryz.func3, Tryz.ntmps3
  go_wp2_with fail
  refine (big_any l.length a c _ hln d HDB).mono ?_
  rintro e w1 ⟨rfl, rfl⟩
  cases d
  rotate_left
  · go_wp2_with fail
    go_ret
    exact ⟨rfl, bxt⟩
  have hl : l.length ≤ 1048576 := by have := no_of HDB.out; omega
  go_wp2_with fail
  refine (drawStoreOk_any l a c _ (HR.out.ext bxt) HB.out hl).mono ?_
  rintro e w1 ⟨ba, bc, zs, la, lc, lg, gv, hzl, hsm, hll, hsl, rfl, ho, hb1⟩
  have HSM := Lib.hid hsm; have HSL := Lib.hid hsl; have HO := Lib.hid ho
  clear hsm hsl ho
  have hzz1 := hb1.size; (try simp at hzz1)
  obtain ⟨hc1, hf1⟩ := bcell hb1
  obtain ⟨r, hr⟩ := boolOf (StoreP (⟨zs.map PBox.box, lg, gv⟩ : DStore))
  have HRR := Lib.hid hr
  clear hr
  have HRL := Lib.hid (Rd.of_Own HO.out.log); have HRZ := Lib.hid HO.out.rs.rd; have HRM := Lib.hid HO.out.rs.rdm
  cases r
  · skip
    go_wp2_with fail
    refine (specStoreOk_at zs ba bc lg _ lc gv _ (HO.out.ext bxt) hzl HSM.out hll HSL.out false HRR).mono ?_
    rintro e w2 ⟨rfl, hb2⟩
    have hzz2 := hb2.size; (try simp at hzz2)
    obtain ⟨hc2, hf2⟩ := bcell hb2
    have hs2_0 : w1.heap.size < w2.heap.size := by (have hss := hb2.size; first | omega | (simp at hss <;> omega))
    go_wp2_with fail
    go_region_held3 (fun w' => Below w2.heap.size w2 w' ∧ (∀ b o, b < w2.heap.size → w'.cell? ⟨b, o, none⟩ = w2.cell? ⟨b, o, none⟩)) (first | with_reducible exact sBeg _ | with_reducible exact sExt (by with_reducible assumption) (by with_reducible assumption) | (refine sMkC ?_; exact bxt)) ((first | (go_at_call 7; refine (implStoreOk_at zs ba bc lg _ lc gv _ (HO.out.ext bxt) hzl HSM.out hll HSL.out (HMX.out.ext bxt) false HRR).mono ?_; rintro e w3 ⟨rfl, hb3⟩) | (go_at_call 6; refine (specStoreOk_at zs ba bc lg _ lc gv _ (HO.out.ext bxt) hzl HSM.out hll HSL.out false HRR).mono ?_; rintro e w4 ⟨rfl, hb4⟩)))
    all_goals go_wp2_with fail
    all_goals go_ret
    all_goals exact ⟨rfl, bxt⟩
  go_wp2_with fail
  refine (specStoreOk_at zs ba bc lg _ lc gv _ (HO.out.ext bxt) hzl HSM.out hll HSL.out true HRR).mono ?_
  rintro e w2 ⟨rfl, hb2⟩
  have hzz2 := hb2.size; (try simp at hzz2)
  obtain ⟨hc2, hf2⟩ := bcell hb2
  have hs2_0 : w1.heap.size < w2.heap.size := by (have hss := hb2.size; first | omega | (simp at hss <;> omega))
  have HSP := Lib.hid (yes_of HRR.out)
  by_cases hz0 : zs.length = 0
  · skip
    have e0 : ((zs.length : Int) == 0) = true := by simp [hz0]
    have HZ0 := Lib.hid hz0
    clear hz0
    go_wp2_with fail
    go_region_held3 (fun w' => Below w2.heap.size w2 w' ∧ (∀ b o, b < w2.heap.size → w'.cell? ⟨b, o, none⟩ = w2.cell? ⟨b, o, none⟩)) (first | with_reducible exact sBeg _ | with_reducible exact sExt (by with_reducible assumption) (by with_reducible assumption) | (refine sMkC ?_; exact bxt)) ((first | (go_at_call 7; refine (implStoreOk_at zs ba bc lg _ lc gv _ (HO.out.ext bxt) hzl HSM.out hll HSL.out (HMX.out.ext bxt) true HRR).mono ?_; rintro e w3 ⟨rfl, hb3⟩) | (go_at_call 6; refine (specStoreOk_at zs ba bc lg _ lc gv _ (HO.out.ext bxt) hzl HSM.out hll HSL.out true HRR).mono ?_; rintro e w4 ⟨rfl, hb4⟩)))
    all_goals go_wp2_with fail
    all_goals go_ret
    all_goals exact ⟨rfl, bxt⟩
  have e0 : ((zs.length : Int) == 0) = false := by (rw [beq_eq_false_iff_ne]; omega)
  obtain ⟨a3, ha3⟩ : ∃ r, at0V l 3 = r := ⟨_, rfl⟩
  obtain ⟨a30, a31⟩ : 0 ≤ a3 ∧ a3 ≤ 255 := by (rw [← ha3]; exact at0V_range l 3 HB.out)
  have HA3 := Lib.hid ha3
  clear ha3
  obtain ⟨a2, ha2⟩ : ∃ r, at0V l 2 = r := ⟨_, rfl⟩
  obtain ⟨a20, a21⟩ : 0 ≤ a2 ∧ a2 ≤ 255 := by (rw [← ha2]; exact at0V_range l 2 HB.out)
  have HA2 := Lib.hid ha2
  clear ha2
  obtain ⟨bi, hbi, hbie⟩ : ∃ k : Nat, k < zs.length ∧ a3.tmod (zs.length : Int) = (k : Int) := ⟨(a3.tmod (zs.length : Int)).toNat, by (have h1 := Int.tmod_nonneg (zs.length : Int) a30; have h2 := Int.tmod_lt_of_pos a3 (show (0 : Int) < (zs.length : Int) by omega); omega), by (have h1 := Int.tmod_nonneg (zs.length : Int) a30; omega)⟩
  have hbif : a3 % (zs.length : Int) = (bi : Int) := by rw [← Int.tmod_eq_emod_of_nonneg a30]; exact hbie
  have hbin : ¬ ((zs.length : Int) = 0) := by omega
  obtain ⟨b0, o0, rfl, hb0, hat0⟩ := HRZ.out.ptr (by omega)
  have hE12 : Ext w1 w2 := bxt
  obtain ⟨z0, z1, z2, z3⟩ := PBox.at (hat0.ext hb0 hE12) bi hbi
  have hbw0 : b0 < w2.heap.size := Nat.lt_of_lt_of_le hb0 hE12.size
  clear hat0
  have i1 : (0 : Int) ≤ (bi : Int) := by omega
  have i2 : (bi : Int) < (zs.length : Int) := by omega
  obtain ⟨y, hy⟩ : ∃ y, y = zs[bi] := ⟨_, rfl⟩
  rw [← hy] at z0 z1 z2 z3
  have HY := Lib.hid hy
  clear hy
  have cS0 : w2.cell? ⟨w1.heap.size, 0, none⟩ = some (.slice (some ⟨b0, o0, none⟩) zs.length bc) := (hb2.cell (p := ⟨w1.heap.size, 0, none⟩) smx).trans kpx
  have cS1 : w2.cell? ⟨w1.heap.size, 1, none⟩ = some (.slice la lg.length lc) := (hb2.cell (p := ⟨w1.heap.size, 1, none⟩) smx).trans kpx
  have cS2 : w2.cell? ⟨w1.heap.size, 2, none⟩ = some (.int .i64 gv) := (hb2.cell (p := ⟨w1.heap.size, 2, none⟩) smx).trans kpx
  clear hc1 hf1 hc2 hf2
  go_upto_region 6 with fail
  go_cut [4] (fun v wx => BoxCut [.string y.name, .int .i64 y.validity, .int .i64 y.next, .slice y.ma y.msgs.length y.mc] w2 v wx)
  case first =>
    go_region_held3 (fun w' => Below w2.heap.size w2 w' ∧ (∀ b o, b < w2.heap.size → w'.cell? ⟨b, o, none⟩ = w2.cell? ⟨b, o, none⟩)) (first | with_reducible exact sBeg _ | with_reducible exact sExt (by with_reducible assumption) (by with_reducible assumption) | (refine sMkC ?_; exact bxt)) ((first | (go_at_call 8; refine (at0_eq l a c 3 _ (HR.out.ext bxt) HB.out hl (by omega) a3 HA3).mono ?_; rintro e wq ⟨rfl, hwq⟩; subst hwq)))
    all_goals go_wp2_with fail
    all_goals go_meet
    all_goals exact ⟨_, rfl, (by (first | omega | (simp <;> omega))), (by (first | omega | (simp <;> omega))), (at_cons (by simp [go_sem, *]) (at_cons (by simp [go_sem, *]) (at_cons (by simp [go_sem, *]) (at_cons (by simp [go_sem, *]) at_nil)))), bxt⟩
  obtain ⟨w5, hw5⟩ : ∃ x, x = wc := ⟨_, rfl⟩
  subst hw5
  obtain ⟨β, rfl, hβ, hβs, hatB, hb5⟩ := hcut
  have cB0 : w5.cell? ⟨β, 0, none⟩ = some (.string y.name) := by simpa using hatB 0 _ rfl
  have cB1 : w5.cell? ⟨β, 1, none⟩ = some (.int .i64 y.validity) := by simpa using hatB 1 _ rfl
  have cB2 : w5.cell? ⟨β, 2, none⟩ = some (.int .i64 y.next) := by simpa using hatB 2 _ rfl
  have cB3 : w5.cell? ⟨β, 3, none⟩ = some (.slice y.ma y.msgs.length y.mc) := by simpa using hatB 3 _ rfl
  replace cS0 := (hb5.cell (p := ⟨w1.heap.size, 0, none⟩) hs2_0).trans cS0
  replace cS1 := (hb5.cell (p := ⟨w1.heap.size, 1, none⟩) hs2_0).trans cS1
  replace cS2 := (hb5.cell (p := ⟨w1.heap.size, 2, none⟩) hs2_0).trans cS2
  have s5 : w1.heap.size < w5.heap.size := (by have := hb5.size; omega)
  have hE25 : Ext w2 w5 := hb5
  clear hatB z0 z1 z2 z3 hb5
  obtain ⟨kk, hkk, hkke⟩ : ∃ k : Nat, k ≤ lg.length ∧ a2.tmod ((lg.length : Int) + 1) = (k : Int) := ⟨(a2.tmod ((lg.length : Int) + 1)).toNat, by (have h1 := Int.tmod_nonneg ((lg.length : Int) + 1) a20; have h2 := Int.tmod_lt_of_pos a2 (show (0 : Int) < ((lg.length : Int) + 1) by omega); omega), by (have h1 := Int.tmod_nonneg ((lg.length : Int) + 1) a20; omega)⟩
  have hkkf : a2 % ((lg.length : Int) + 1) = (kk : Int) := by rw [← Int.tmod_eq_emod_of_nonneg a20]; exact hkke
  have hkkn : ¬ (((lg.length : Int) + 1) = 0) := by omega
  have hwl : IntKind.i64.wrap ((lg.length : Int) + 1) = (lg.length : Int) + 1 := IntWalk.i64_in _ (by omega)
  go_upto_region 7 with fail
  go_region_held3 (fun w' => Below w5.heap.size w5 w' ∧ (∀ b o, b < w5.heap.size → w'.cell? ⟨b, o, none⟩ = w5.cell? ⟨b, o, none⟩)) (first | with_reducible exact sBeg _ | with_reducible exact sExt (by with_reducible assumption) (by with_reducible assumption) | (refine sMkC ?_; exact bxt)) ((first | (go_at_call 8; refine (at0_eq l a c 2 _ (HR.out.ext bxt) HB.out hl (by omega) a2 HA2).mono ?_; rintro e wq ⟨rfl, hwq⟩; subst hwq)))
  all_goals clear hwl hbie hbif hbin hkke hkkf hkkn a30 a31 a20 a21 i1 i2
  obtain ⟨D, hD⟩ : ∃ D, boxAtD lg y.validity kk = D := ⟨_, rfl⟩
  obtain ⟨dn, dv, dx, dm⟩ := D
  have HD := Lib.hid hD
  obtain ⟨rok, hrok⟩ : ∃ r, decide (0 ≤ atZ lg y.validity kk) = r := ⟨_, rfl⟩
  have HROK := Lib.hid hrok
  have hdm : dm.length ≤ 1048576 := by (have h := boxAt_len lg y.validity kk; rw [hD] at h; exact h)
  clear hD hrok
  have HE15 : Hid (Ext w1 w5) := Lib.hid (Below.ext hE12 hE25)
  have hE0 : Ext w w5 := bxt
  go_upto_region 8 with fail
  refine wp_world (fun w7 hw7 => ?_)
  have hx7 : Ext w5 w7 := by (rw [hw7]; exact bxt)
  clear hw7
  replace cB0 := (hx7.cell (p := ⟨β, 0, none⟩) hβs).trans cB0
  replace cB1 := (hx7.cell (p := ⟨β, 1, none⟩) hβs).trans cB1
  replace cB2 := (hx7.cell (p := ⟨β, 2, none⟩) hβs).trans cB2
  replace cB3 := (hx7.cell (p := ⟨β, 3, none⟩) hβs).trans cB3
  replace cS0 := (hx7.cell (p := ⟨w1.heap.size, 0, none⟩) s5).trans cS0
  replace cS1 := (hx7.cell (p := ⟨w1.heap.size, 1, none⟩) s5).trans cS1
  replace cS2 := (hx7.cell (p := ⟨w1.heap.size, 2, none⟩) s5).trans cS2
  have HE17 : Hid (Ext w1 w7) := Lib.hid (Below.ext HE15.out hx7)
  have HE07 : Hid (Ext w w7) := Lib.hid (Below.ext hE0 hx7)
  have HRZ7 := Lib.hid (HRZ.out.ext HE17.out)
  have HRM7 := Lib.hid (show RdM w7 zs from fun z hz => (HRM.out z hz).ext HE17.out)
  have HRL7 := Lib.hid (HRL.out.ext HE17.out)
  have HMX7 := Lib.hid (HMX.out.ext HE07.out)
  have s7 : w1.heap.size < w7.heap.size := (by have := hx7.size; omega)
  have sβ7 : β < w7.heap.size := (by have := hx7.size; omega)
  have HGL := Lib.hid (show ∀ y ∈ lg, y.name.size ≤ 9223372036854775807 ∧ y.text.size ≤ 9223372036854775807 from fun y hy => by have := HSL.out y hy; exact ⟨by omega, by omega⟩)
  have HF_dn : Hid ((boxAtD lg y.validity kk).name = dn) := Lib.hid (by rw [HD.out])
  have HF_dv : Hid ((boxAtD lg y.validity kk).validity = dv) := Lib.hid (by rw [HD.out])
  have HF_dx : Hid ((boxAtD lg y.validity kk).next = dx) := Lib.hid (by rw [HD.out])
  have HF_dm : Hid ((boxAtD lg y.validity kk).msgs = dm) := Lib.hid (by rw [HD.out])
  have hl32 : lg.length ≤ 1048576 := by omega
  clear hx7 hE25 hE12 hE0 s5 hβs HE15
  have hE0 : Ext w w7 := HE07.out
  have hβs := sβ7
  go_wp2_with fail
  refine (implBoxAt_any zs _ bc lg la lc gv y.validity kk w7 HRZ7.out HRM7.out HRL7.out hl32 HMX7.out HGL.out dn HF_dn dv HF_dv dx HF_dx dm HF_dm rok HROK).mono ?_
  rintro e w8 ⟨g8, q8, rfl, ho8, hb8⟩
  have HW8 := Lib.hid (Rd.of_Own ho8)
  clear ho8
  have hzz8 := hb8.size; (try simp at hzz8)
  obtain ⟨hc8, hf8⟩ := bcell hb8
  have hs8_0 : w1.heap.size < w8.heap.size := by (have hss := hb8.size; first | omega | (simp at hss <;> omega))
  have hs8_1 : β < w8.heap.size := by (have hss := hb8.size; first | omega | (simp at hss <;> omega))
  replace cB0 := (hb8.cell (p := ⟨β, 0, none⟩) sβ7).trans cB0
  replace cB1 := (hb8.cell (p := ⟨β, 1, none⟩) sβ7).trans cB1
  replace cB2 := (hb8.cell (p := ⟨β, 2, none⟩) sβ7).trans cB2
  replace cB3 := (hb8.cell (p := ⟨β, 3, none⟩) sβ7).trans cB3
  replace cS0 := (hb8.cell (p := ⟨w1.heap.size, 0, none⟩) s7).trans cS0
  replace cS1 := (hb8.cell (p := ⟨w1.heap.size, 1, none⟩) s7).trans cS1
  replace cS2 := (hb8.cell (p := ⟨w1.heap.size, 2, none⟩) s7).trans cS2
  clear hc8 hf8
  cases rok
  · skip
    go_wp2_with fail
    go_ret
    exact ⟨rfl, bxt⟩
  have hrk0 : 0 ≤ atZ lg y.validity kk := of_decide_eq_true HROK.out
  obtain ⟨hvw, hth⟩ := viewIn_was lg y.validity kk hkk hrk0
  rw [HD.out] at hvw
  clear hrk0
  have HVW := Lib.hid hvw; have HTH := Lib.hid hth; clear hvw hth
  obtain ⟨rr, hrr⟩ : ∃ r, comTo lg y.validity kk lg.length = r := ⟨_, rfl⟩
  have HRX := Lib.hid hrr
  have hrl : rr.length ≤ lg.length := by (rw [← hrr]; exact comTo_len _ _ _ _)
  clear hrr
  go_wp2_with fail
  refine (implCommitsOf_any zs _ bc lg la lc gv y.validity kk _ (HRZ7.out.ext bxt) (fun z hz => (HRM7.out z hz).ext bxt) (HRL7.out.ext bxt) (by omega) rr HRX).mono ?_
  rintro e w11 ⟨g11, q11, rfl, ho11, hb11⟩
  have HL11 := Lib.hid (Rd.of_Own ho11)
  clear ho11
  have hzz11 := hb11.size; (try simp at hzz11)
  obtain ⟨hc11, hf11⟩ := bcell hb11
  have hs11_0 : w1.heap.size < w11.heap.size := by (have hss := hb11.size; first | omega | (simp at hss <;> omega))
  have hs11_1 : β < w11.heap.size := by (have hss := hb11.size; first | omega | (simp at hss <;> omega))
  have hs11_2 : w8.heap.size < w11.heap.size := by (have hss := hb11.size; first | omega | (simp at hss <;> omega))
  replace cB0 : w11.cell? ⟨β, 0, none⟩ = some (.string y.name) := (hb11.cell (p := ⟨β, 0, none⟩) smx).trans kpx
  replace cB1 : w11.cell? ⟨β, 1, none⟩ = some (.int .i64 y.validity) := (hb11.cell (p := ⟨β, 1, none⟩) smx).trans kpx
  replace cB2 : w11.cell? ⟨β, 2, none⟩ = some (.int .i64 y.next) := (hb11.cell (p := ⟨β, 2, none⟩) smx).trans kpx
  replace cB3 : w11.cell? ⟨β, 3, none⟩ = some (.slice y.ma y.msgs.length y.mc) := (hb11.cell (p := ⟨β, 3, none⟩) smx).trans kpx
  replace cS0 : w11.cell? ⟨w1.heap.size, 0, none⟩ = some (.slice (some ⟨b0, o0, none⟩) zs.length bc) := (hb11.cell (p := ⟨w1.heap.size, 0, none⟩) smx).trans kpx
  replace cS1 : w11.cell? ⟨w1.heap.size, 1, none⟩ = some (.slice la lg.length lc) := (hb11.cell (p := ⟨w1.heap.size, 1, none⟩) smx).trans kpx
  replace cS2 : w11.cell? ⟨w1.heap.size, 2, none⟩ = some (.int .i64 gv) := (hb11.cell (p := ⟨w1.heap.size, 2, none⟩) smx).trans kpx
  have cD0 : w11.cell? ⟨w8.heap.size, 0, none⟩ = some (.string dn) := (hb11.cell (p := ⟨w8.heap.size, 0, none⟩) smx).trans kpx
  have cD1 : w11.cell? ⟨w8.heap.size, 1, none⟩ = some (.int .i64 dv) := (hb11.cell (p := ⟨w8.heap.size, 1, none⟩) smx).trans kpx
  have cD2 : w11.cell? ⟨w8.heap.size, 2, none⟩ = some (.int .i64 dx) := (hb11.cell (p := ⟨w8.heap.size, 2, none⟩) smx).trans kpx
  have cD3 : w11.cell? ⟨w8.heap.size, 3, none⟩ = some (.slice g8 dm.length q8) := (hb11.cell (p := ⟨w8.heap.size, 3, none⟩) smx).trans kpx
  clear hc11 hf11
  go_wp2_with fail
  refine (implViewOf_any dn dv dx dm g8 q8 _ (HW8.out.ext bxt) hdm (viewIn y.validity (boxesTo lg kk)) HVW).mono ?_
  rintro e w12 ⟨g12, q12, rfl, ho12, hb12⟩
  have HV12 := Lib.hid (Rd.of_Own (Own.of_row ho12))
  clear ho12 cD0 cD1 cD2 cD3
  have hzz12 := hb12.size; (try simp at hzz12)
  obtain ⟨hc12, hf12⟩ := bcell hb12
  have hs12_0 : w1.heap.size < w12.heap.size := by (have hss := hb12.size; first | omega | (simp at hss <;> omega))
  have hs12_1 : β < w12.heap.size := by (have hss := hb12.size; first | omega | (simp at hss <;> omega))
  replace cB0 := (hb12.cell (p := ⟨β, 0, none⟩) smx).trans cB0
  replace cB1 := (hb12.cell (p := ⟨β, 1, none⟩) smx).trans cB1
  replace cB2 := (hb12.cell (p := ⟨β, 2, none⟩) smx).trans cB2
  replace cB3 := (hb12.cell (p := ⟨β, 3, none⟩) smx).trans cB3
  replace cS0 := (hb12.cell (p := ⟨w1.heap.size, 0, none⟩) smx).trans cS0
  replace cS1 := (hb12.cell (p := ⟨w1.heap.size, 1, none⟩) smx).trans cS1
  replace cS2 := (hb12.cell (p := ⟨w1.heap.size, 2, none⟩) smx).trans cS2
  clear hc12 hf12
  go_upto_region 13 with fail
  refine wp_world (fun W hW => ?_)
  have hxW : Ext w12 W := by (rw [hW]; exact bxt)
  have c9 : W.cell? ⟨w12.heap.size, 0, none⟩ = some (.slice g12 (viewIn y.validity (boxesTo lg kk)).length q12) := by (rw [hW]; exact kpx)
  have f9 : W.frozen? ⟨w12.heap.size, 0, none⟩ = false := by (rw [hW]; exact kfx)
  have s9 : w12.heap.size < W.heap.size := by (rw [hW]; simp)
  clear hW
  replace cB0 := (hxW.cell (p := ⟨β, 0, none⟩) smx).trans cB0
  replace cB1 := (hxW.cell (p := ⟨β, 1, none⟩) smx).trans cB1
  replace cB2 := (hxW.cell (p := ⟨β, 2, none⟩) smx).trans cB2
  replace cB3 := (hxW.cell (p := ⟨β, 3, none⟩) smx).trans cB3
  replace cS0 := (hxW.cell (p := ⟨w1.heap.size, 0, none⟩) smx).trans cS0
  replace cS1 := (hxW.cell (p := ⟨w1.heap.size, 1, none⟩) smx).trans cS1
  replace cS2 := (hxW.cell (p := ⟨w1.heap.size, 2, none⟩) smx).trans cS2
  have HL12 := Lib.hid (HL11.out.ext hb12)
  have HLW := Lib.hid (HL12.out.ext hxW)
  have HEW : Hid (Ext w W) := Lib.hid bxt
  have HE1W : Hid (Ext w1 W) := Lib.hid (Below.ext HE17.out bxt)
  have sBW : β < w12.heap.size := (by omega)
  have sSW : w1.heap.size < w12.heap.size := (by omega)
  have HE112 : Hid (Ext w1 w12) := Lib.hid (Below.ext HE17.out bxt)
  have hwB : w.heap.size ≤ w12.heap.size := by omega
  have HCS0 : Hid (CoSt W w12.heap.size (⟨zs.map PBox.box, lg, gv⟩ : DStore) y.validity kk 0 W) := Lib.hid ⟨g12, q12, _, c9, f9, HV12.out.ext hxW, ComSt.start hkk, Chg.refl _ _⟩
  have HTH2 : Hid (0 ≤ boxWith y.validity (boxesTo lg lg.length)) := Lib.hid (by (have h1 : boxesTo lg lg.length = zs.map PBox.box := (by (unfold boxesTo; rw [List.take_length, HSP.out.1])); obtain ⟨hx, -, -, h2⟩ := (storeP_boxes HSP.out).1 bi (by simpa using hbi); simp only [List.getElem_map] at h2; rw [h1, HY.out]; show 0 ≤ boxWith zs[bi].box.validity _; rw [h2]; omega))
  have HVB : Hid (viewIn y.validity (zs.map PBox.box) = y.msgs.map DMsg.seen) := Lib.hid (by (obtain ⟨hx, -, -, h2⟩ := (storeP_boxes HSP.out).1 bi (by simpa using hbi); simp only [List.getElem_map] at h2; rw [HY.out]; have h3 := viewIn_at (v := zs[bi].box.validity) (l := zs.map PBox.box) (k := bi) (by simpa using hbi) h2; simp only [List.getElem_map] at h3; exact h3))
  have hyl : y.msgs.length ≤ 6 := by (rw [HY.out]; exact (HSM.out _ (List.getElem_mem hbi)).2.1)
  have HYR := Lib.hid (show Rd w1 y.ma y.mc 3 y.msgs.length (y.msgs.flatMap DMsg.cells) from by (rw [HY.out]; exact HRM.out _ (List.getElem_mem hbi)))
  clear c9 f9 hb8 hb11 hb12 hxW hE0 HW8 HL11 HV12 HVW HROK HD HA2 HA3 HO hb1 hb2
  go_wp2_with fail
  go_loopw [10] (CLoop W w12.heap.size (⟨zs.map PBox.box, lg, gv⟩ : DStore) y.validity kk rr.length) (fun i _ => rr.length - (intOf i).toNat)
  case atStart => exact ⟨0, Nat.zero_le _, rfl, HCS0.out⟩
  case round =>
    clear HCS0
    obtain ⟨k, hk, rfl, HS⟩ := hrel
    obtain ⟨gv2, qv2, vs, c9, f9, hrv, hcs, hch⟩ := HS.out
    have hvl : vs.length ≤ 6 := hcs.len HSP.out
    have s9r : w12.heap.size < wr.heap.size := Nat.lt_of_lt_of_le s9 hch.size
    have sBr : β < wr.heap.size := (by omega)
    have sSr : w1.heap.size < wr.heap.size := (by omega)
    have xB0 := (hch.cell (x := β) (o := 0) (by omega) (by omega)).trans cB0
    have xB1 := (hch.cell (x := β) (o := 1) (by omega) (by omega)).trans cB1
    have xB2 := (hch.cell (x := β) (o := 2) (by omega) (by omega)).trans cB2
    have xB3 := (hch.cell (x := β) (o := 3) (by omega) (by omega)).trans cB3
    have xS0 := (hch.cell (x := w1.heap.size) (o := 0) (by omega) (by omega)).trans cS0
    have xS1 := (hch.cell (x := w1.heap.size) (o := 1) (by omega) (by omega)).trans cS1
    have xS2 := (hch.cell (x := w1.heap.size) (o := 2) (by omega) (by omega)).trans cS2
    have HRV := Lib.hid hrv; have HCS := Lib.hid hcs; have HCH := Lib.hid hch
    have hEr : Ext w wr := Below.trans HEW.out (hch.below (fun x hx => by (have hx' : x = w12.heap.size := hx; omega)) HEW.out.size)
    have HLG := Lib.hid ((HRL.out.ext HE1W.out).chg_lt (HRL.out.ext HE112.out) hch (fun x hx => by (have hx' : x = w12.heap.size := hx; omega)))
    have HLR := Lib.hid (HLW.out.chg_lt HL12.out hch (fun x hx => by (have hx' : x = w12.heap.size := hx; omega)))
    have HYW := Lib.hid ((HYR.out.ext HE1W.out).chg_lt (HYR.out.ext HE112.out) hch (fun x hx => by (have hx' : x = w12.heap.size := hx; omega)))
    clear hrv hcs hch HS
    by_cases hlt : k < rr.length
    · skip
      obtain ⟨j, hj, hja, hjr, hjp, hok, hnx⟩ := HCS.out.next HSP.out HTH.out HTH2.out (by (show k < (comTo lg y.validity kk lg.length).length; rw [HRX.out]; exact hlt))
      have hjr2 : rr[k] = (j : Int) := by (have h := hjr; simp only [HRX.out] at h; exact h)
      have hj2 : j < lg.length := hj
      have HOK := Lib.hid hok; have HNX := Lib.hid hnx; clear hok hnx hjr
      obtain ⟨gl, ol, rfl, hgl, hatl⟩ := HLR.out.ptr (by omega)
      have e1 := intCells_at hatl k hlt
      rw [hjr2] at e1
      obtain ⟨gm, om, rfl, hgm, hatm⟩ := HLG.out.ptr (by omega)
      obtain ⟨m0, m1, m2, m3, m4, m5⟩ := DCommit.at hatm j hj2
      have k1 : (0 : Int) ≤ (k : Int) := by omega
      have k2 : (k : Int) < (rr.length : Int) := by omega
      have k3 : (0 : Int) ≤ (j : Int) := by omega
      have k4 : (j : Int) < (lg.length : Int) := by omega
      have k5 : decide ((k : Int) < (rr.length : Int)) = true := decide_eq_true (by omega)
      have d1 : decide ((j : Int) < (kk : Int)) = false := decide_eq_false (by omega)
      have d2 : decide (j < kk) = false := decide_eq_false (by omega)
      have d3 : decide ((lg.length : Int) ≤ (j : Int)) = false := decide_eq_false (by omega)
      have d4 : decide (lg.length ≤ j) = false := decide_eq_false (by omega)
      have hU : (undef : Value) = .tuple #[] := rfl
      obtain ⟨rk, hrk⟩ : ∃ r, (followed vs lg[j]).known = r := ⟨_, rfl⟩
      have HRK := Lib.hid hrk
      have hrkl : rk.length ≤ 7 := by (rw [← hrk]; have := followed_len vs lg[j]; omega)
      clear hrk
      have hn1 := (HSL.out _ (List.getElem_mem hj2)).1
      have hn2 := (HSL.out _ (List.getElem_mem hj2)).2
      have HPR := Lib.hid hjp
      have HATL := Lib.hid hatl
      clear hatl hatm hjp
      go_wp2_with fail
      by_cases hk0 : k = 0
      · skip
        have d5 : decide ((0 : Int) < (k : Int)) = false := decide_eq_false (by omega)
        have d6 : decide (0 < k) = false := decide_eq_false (by omega)
        have HK0 := Lib.hid hk0
        clear hk0
        go_quiet (fail)
        go_upto_region 18 with fail
        refine wp_world (fun wt hwt => ?_)
        have hrt : Ext wr wt := by (rw [hwt]; exact bxt)
        have ht9 : wt.cell? ⟨w12.heap.size, 0, none⟩ = some (.slice gv2 vs.length qv2) := by (rw [hwt]; exact kpx)
        have hf9 : wt.frozen? ⟨w12.heap.size, 0, none⟩ = false := by (rw [hwt]; exact kfx)
        have tS1 : wt.cell? ⟨w1.heap.size, 1, none⟩ = some (.slice (some ⟨gm, om, none⟩) lg.length lc) := by (rw [hwt]; exact kpx)
        have te1 : wt.cell? ⟨gl, ol + k, none⟩ = some (.int .i64 (j : Int)) := by (rw [hwt]; exact kpx)
        have hmt := fun (q : Nat) (u : Value) (h : wr.cell? ⟨gm, q, none⟩ = some u) => ((hrt.cell (p := ⟨gm, q, none⟩) hgm).trans h)
        replace m0 := hmt _ _ m0
        replace m1 := hmt _ _ m1
        replace m2 := hmt _ _ m2
        replace m3 := hmt _ _ m3
        replace m4 := hmt _ _ m4
        replace m5 := hmt _ _ m5
        have srt := hrt.size
        have s9t : w12.heap.size < wt.heap.size := (by omega)
        have s1t : w1.heap.size < wt.heap.size := (by omega)
        have slt : gl < wt.heap.size := (by omega)
        have smt : gm < wt.heap.size := (by omega)
        clear hmt hwt e1 c9 f9 xS0 xS1 xS2 xB0 xB1 xB2 xB3
        go_cut [11, 12] (fun v u wx => CutR 62 2 rk.length (rk.flatMap DSeen.cells) (fun ga qa => [.slice ga rk.length qa]) wt v wx ∧ u = .bool true)
        case first =>
          go_region_held3 (fun w' => Below wt.heap.size wt w' ∧ (∀ b o, b < wt.heap.size → w'.cell? ⟨b, o, none⟩ = wt.cell? ⟨b, o, none⟩)) (first | with_reducible exact sBeg _ | with_reducible exact sExt (by with_reducible assumption) (by with_reducible assumption) | (refine sMkC ?_; exact bxt)) ((first | (go_at_call 12; refine (implFollowed_any vs gv2 qv2 lg[j] _ (HRV.out.ext (Below.ext hrt bxt)) (by omega) (HMX.out.ext (Below.ext hEr (Below.ext hrt bxt))) (by omega) (by omega) rk HRK true HOK).mono ?_; rintro e w18 ⟨ga8, qa8, rfl, ho8, hb18⟩; have HX8 := Lib.hid ho8; clear ho8; have hzz18 := hb18.size; (try simp at hzz18); (try (have hx18 : wt.heap.size < w18.heap.size := hzz18; (first | have hy18 : w18.cell? ⟨wt.heap.size, 0, none⟩ = some (.slice none 0 0) := (hb18.cell (p := ⟨wt.heap.size, 0, none⟩) (by simp)).trans (keep_new rfl) | have hy18 : w18.cell? ⟨wt.heap.size, 0, none⟩ = some (.slice none 0 0) := (hb18.cell (p := ⟨wt.heap.size, 0, none⟩) (by simp)).trans (keep_newd rfl)); (first | have hv18 : w18.frozen? ⟨wt.heap.size, 0, none⟩ = false := (hb18.frozen (p := ⟨wt.heap.size, 0, none⟩) (by simp)).trans (keepf_new (by simp)) | have hv18 : w18.frozen? ⟨wt.heap.size, 0, none⟩ = false := (hb18.frozen (p := ⟨wt.heap.size, 0, none⟩) (by simp)).trans (keepf_newd (by simp))))))))
          all_goals go_wp2_with fail
          all_goals go_meet
          all_goals refine ⟨⟨_, ga8, qa8, rfl, (by (first | omega | (simp <;> omega))), (by (first | omega | (simp <;> omega))), (at_cons (by simp [go_sem, *]) at_nil), ?_, ?_, ?_⟩, rfl⟩
          all_goals first | (with_reducible refine FOff.ge HX8.out ?_; exact Nat.le_refl _) | (with_reducible refine FOff.lt HX8.out ?_; first | omega | (simp <;> omega)) | with_reducible exact (by (repeat' (first | with_reducible refine Own.set_lt ?_ HX8.out (by (first | omega | (simp <;> omega))) _ | with_reducible refine Own.alloc1 ?_ _ | with_reducible refine Own.drew1 ?_)); exact Own.le HX8.out (by (first | omega | (simp <;> omega)))) | exact bxt
        obtain ⟨w19, hw19⟩ : ∃ x, x = wc := ⟨_, rfl⟩
        subst hw19
        obtain ⟨⟨γ, ga, qa, rfl, hγ, hγs, hatg, howng, hoffg, hbg⟩, rfl⟩ := hcut
        have HG := Lib.hid howng
        have cG : w19.cell? ⟨γ, 0, none⟩ = some (.slice ga rk.length qa) := by simpa using hatg 0 _ rfl
        clear howng hatg hoffg
        have u9 : w19.cell? ⟨w12.heap.size, 0, none⟩ = some (.slice gv2 vs.length qv2) := (hbg.cell (p := ⟨w12.heap.size, 0, none⟩) s9t).trans ht9
        have v9 : w19.frozen? ⟨w12.heap.size, 0, none⟩ = false := (hbg.frozen (p := ⟨w12.heap.size, 0, none⟩) s9t).trans hf9
        have sg9 := hbg.size
        have HN : Hid (CoSt W w12.heap.size (⟨zs.map PBox.box, lg, gv⟩ : DStore) y.validity kk (k + 1) (w19.setCell ⟨w12.heap.size, 0, none⟩ (.slice ga rk.length qa))) := Lib.hid ⟨ga, qa, rk, set_same u9, setf v9, Rd.of_Own (HG.out.set_off (p := ⟨w12.heap.size, 0, none⟩) (fun e => by have h1 : wt.heap.size ≤ w12.heap.size := (HG.out.lt _ e).1; omega) _), (by rw [← HRK.out]; exact HNX.out), (HCH.out.trans (Chg.ext (Below.ext hrt hbg))).trans (chg_set w19 w12.heap.size 0 _)⟩
        clear HG HNX HRK HOK HCH HRV HCS hbg hrt ht9 hf9 tS1 te1 m0 m1 m2 m3 m4 m5
        go_wp2_with fail
        refine ⟨?rel, ?measure⟩
        case rel => exact ⟨k + 1, by omega, by go_num, HN.out⟩
        case measure => simp [intOf]; omega
      · skip
        obtain ⟨p, hp⟩ : ∃ p, k = p + 1 := ⟨k - 1, by omega⟩
        have e2 := intCells_at HATL.out p (by omega)
        obtain ⟨rp, hrp⟩ : ∃ x, rr[p]'(by omega) = x := ⟨_, rfl⟩
        rw [hrp] at e2
        have hlj : rp < (j : Int) := by (rw [← hrp]; have h := HPR.out p (by omega); simp only [HRX.out] at h; exact h)
        have d5 : decide ((0 : Int) < (k : Int)) = true := decide_eq_true (by omega)
        have d6 : decide (0 < k) = true := decide_eq_true (by omega)
        have d7 : decide ((j : Int) ≤ rp) = false := decide_eq_false (by omega)
        have q1 : (0 : Int) ≤ (p : Int) := by omega
        have q2 : (p : Int) < (rr.length : Int) := by omega
        have hwp : IntKind.i64.wrap ((k : Int) - 1) = (p : Int) := (by rw [show ((k : Int) - 1) = (p : Int) by omega]; exact IntWalk.i64_in _ (by omega))
        have HPP := Lib.hid hp
        clear hrp hp hk0
        go_quiet (fail)
        clear hwp e2 d7 q1 q2
        go_upto_region 18 with fail
        refine wp_world (fun wt hwt => ?_)
        have hrt : Ext wr wt := by (rw [hwt]; exact bxt)
        have ht9 : wt.cell? ⟨w12.heap.size, 0, none⟩ = some (.slice gv2 vs.length qv2) := by (rw [hwt]; exact kpx)
        have hf9 : wt.frozen? ⟨w12.heap.size, 0, none⟩ = false := by (rw [hwt]; exact kfx)
        have tS1 : wt.cell? ⟨w1.heap.size, 1, none⟩ = some (.slice (some ⟨gm, om, none⟩) lg.length lc) := by (rw [hwt]; exact kpx)
        have te1 : wt.cell? ⟨gl, ol + k, none⟩ = some (.int .i64 (j : Int)) := by (rw [hwt]; exact kpx)
        have hmt := fun (q : Nat) (u : Value) (h : wr.cell? ⟨gm, q, none⟩ = some u) => ((hrt.cell (p := ⟨gm, q, none⟩) hgm).trans h)
        replace m0 := hmt _ _ m0
        replace m1 := hmt _ _ m1
        replace m2 := hmt _ _ m2
        replace m3 := hmt _ _ m3
        replace m4 := hmt _ _ m4
        replace m5 := hmt _ _ m5
        have srt := hrt.size
        have s9t : w12.heap.size < wt.heap.size := (by omega)
        have s1t : w1.heap.size < wt.heap.size := (by omega)
        have slt : gl < wt.heap.size := (by omega)
        have smt : gm < wt.heap.size := (by omega)
        clear hmt hwt e1 c9 f9 xS0 xS1 xS2 xB0 xB1 xB2 xB3
        go_cut [11, 12] (fun v u wx => CutR 62 2 rk.length (rk.flatMap DSeen.cells) (fun ga qa => [.slice ga rk.length qa]) wt v wx ∧ u = .bool true)
        case first =>
          go_region_held3 (fun w' => Below wt.heap.size wt w' ∧ (∀ b o, b < wt.heap.size → w'.cell? ⟨b, o, none⟩ = wt.cell? ⟨b, o, none⟩)) (first | with_reducible exact sBeg _ | with_reducible exact sExt (by with_reducible assumption) (by with_reducible assumption) | (refine sMkC ?_; exact bxt)) ((first | (go_at_call 12; refine (implFollowed_any vs gv2 qv2 lg[j] _ (HRV.out.ext (Below.ext hrt bxt)) (by omega) (HMX.out.ext (Below.ext hEr (Below.ext hrt bxt))) (by omega) (by omega) rk HRK true HOK).mono ?_; rintro e w18 ⟨ga8, qa8, rfl, ho8, hb18⟩; have HX8 := Lib.hid ho8; clear ho8; have hzz18 := hb18.size; (try simp at hzz18); (try (have hx18 : wt.heap.size < w18.heap.size := hzz18; (first | have hy18 : w18.cell? ⟨wt.heap.size, 0, none⟩ = some (.slice none 0 0) := (hb18.cell (p := ⟨wt.heap.size, 0, none⟩) (by simp)).trans (keep_new rfl) | have hy18 : w18.cell? ⟨wt.heap.size, 0, none⟩ = some (.slice none 0 0) := (hb18.cell (p := ⟨wt.heap.size, 0, none⟩) (by simp)).trans (keep_newd rfl)); (first | have hv18 : w18.frozen? ⟨wt.heap.size, 0, none⟩ = false := (hb18.frozen (p := ⟨wt.heap.size, 0, none⟩) (by simp)).trans (keepf_new (by simp)) | have hv18 : w18.frozen? ⟨wt.heap.size, 0, none⟩ = false := (hb18.frozen (p := ⟨wt.heap.size, 0, none⟩) (by simp)).trans (keepf_newd (by simp))))))))
          all_goals go_wp2_with fail
          all_goals go_meet
          all_goals refine ⟨⟨_, ga8, qa8, rfl, (by (first | omega | (simp <;> omega))), (by (first | omega | (simp <;> omega))), (at_cons (by simp [go_sem, *]) at_nil), ?_, ?_, ?_⟩, rfl⟩
          all_goals first | (with_reducible refine FOff.ge HX8.out ?_; exact Nat.le_refl _) | (with_reducible refine FOff.lt HX8.out ?_; first | omega | (simp <;> omega)) | with_reducible exact (by (repeat' (first | with_reducible refine Own.set_lt ?_ HX8.out (by (first | omega | (simp <;> omega))) _ | with_reducible refine Own.alloc1 ?_ _ | with_reducible refine Own.drew1 ?_)); exact Own.le HX8.out (by (first | omega | (simp <;> omega)))) | exact bxt
        obtain ⟨w19, hw19⟩ : ∃ x, x = wc := ⟨_, rfl⟩
        subst hw19
        obtain ⟨⟨γ, ga, qa, rfl, hγ, hγs, hatg, howng, hoffg, hbg⟩, rfl⟩ := hcut
        have HG := Lib.hid howng
        have cG : w19.cell? ⟨γ, 0, none⟩ = some (.slice ga rk.length qa) := by simpa using hatg 0 _ rfl
        clear howng hatg hoffg
        have u9 : w19.cell? ⟨w12.heap.size, 0, none⟩ = some (.slice gv2 vs.length qv2) := (hbg.cell (p := ⟨w12.heap.size, 0, none⟩) s9t).trans ht9
        have v9 : w19.frozen? ⟨w12.heap.size, 0, none⟩ = false := (hbg.frozen (p := ⟨w12.heap.size, 0, none⟩) s9t).trans hf9
        have sg9 := hbg.size
        have HN : Hid (CoSt W w12.heap.size (⟨zs.map PBox.box, lg, gv⟩ : DStore) y.validity kk (k + 1) (w19.setCell ⟨w12.heap.size, 0, none⟩ (.slice ga rk.length qa))) := Lib.hid ⟨ga, qa, rk, set_same u9, setf v9, Rd.of_Own (HG.out.set_off (p := ⟨w12.heap.size, 0, none⟩) (fun e => by have h1 : wt.heap.size ≤ w12.heap.size := (HG.out.lt _ e).1; omega) _), (by rw [← HRK.out]; exact HNX.out), (HCH.out.trans (Chg.ext (Below.ext hrt hbg))).trans (chg_set w19 w12.heap.size 0 _)⟩
        clear HG HNX HRK HOK HCH HRV HCS hbg hrt ht9 hf9 tS1 te1 m0 m1 m2 m3 m4 m5
        go_wp2_with fail
        refine ⟨?rel, ?measure⟩
        case rel => exact ⟨k + 1, by omega, by go_num, HN.out⟩
        case measure => simp [intOf]; omega
    · skip
      have hst := HCS.out.stop HSP.out HTH.out HTH2.out (by (show (comTo lg y.validity kk lg.length).length ≤ k; rw [HRX.out]; omega))
      have HVE : Hid (y.msgs.map DMsg.seen = vs) := Lib.hid (by (rw [hst]; exact HVB.out.symm))
      clear hst
      have k5 : decide ((k : Int) < (rr.length : Int)) = false := decide_eq_false (by omega)
      have k6 : decide (k < rr.length) = false := decide_eq_false hlt
      go_wp2_with fail
      go_region_held3 (fun w' => Below wr.heap.size wr w' ∧ (∀ b o, b < wr.heap.size → w'.cell? ⟨b, o, none⟩ = wr.cell? ⟨b, o, none⟩)) (first | with_reducible exact sBeg _ | with_reducible exact sExt (by with_reducible assumption) (by with_reducible assumption) | (refine sMkC ?_; exact bxt)) ((first | (go_at_call 14; refine (specViewOf_any y.name y.validity y.next y.msgs _ _ _ (HYW.out.ext bxt) (by omega) vs HVE).mono ?_; rintro e w20 ⟨g20, q20, rfl, ho20, hb20⟩; have HX20 := Lib.hid (Rd.of_Own (Own.of_row ho20)); clear ho20) | (go_at_call 13; refine (specSameView_any vs _ _ vs _ _ _ (HRV.out.ext bxt) (HX20.out.ext bxt) true (Lib.hid (by simp))).mono ?_; rintro e w21 ⟨rfl, hb21⟩)))
      all_goals go_wp2_with fail
      all_goals go_ret
      all_goals exact ⟨rfl, bxt⟩
end Go.Proofs.YtemgabekckhckaaGreat

namespace Go.Proofs.YtemgabekckhckaaGreat.fnCommitsOf
open Go.ChangeShapes Go.WideShapes Go.ChangeAt Go.RowKit
open Go.ChangeMaps (open_string shut_string)
set_option linter.unusedVariables false
theorem own : ownKnob Tryz.prog.godebug = none := by kernel_rfl
theorem laidOut : laidOutB Tryz.prog = true := by kernel_rfl
set_option maxRecDepth 100000 in
theorem lifted (os : Os) (started : os.Started) (H : Type) (enc : TypeId × Value → H) :
    ReturnsInHanded {} Tryz.checked os 3 .any (Rows.fnCommitsOfSpec.pre6 enc Tryz.prog Tryz.f3 Rows.fnCommitsOfRow.domain false) (Rows.fnCommitsOfSpec.post enc Tryz.prog Tryz.f3 false true false false) := by
  refine returnsInHanded_of_change_shaped (C := Tryz.checked) own started (by kernel_rfl) Tryz.func3
    (ChangeSpec.witness6 (enc := enc) (C := Tryz.checked) false ⟨#[], #[.slice none 0 0], []⟩ 8 (by kernel_rfl) (by kernel_rfl) (by kernel_rfl) (by kernel_rfl)) ?_
  intro W base args ds gs before hval0 hW hcnd _ hsh _
  have hval : ∀ (j : Nat) t v, Tryz.f3.params[j]? = some t → args[j]? = some v → Value.okWide Tryz.prog W .any base t v := hval0
  have hW' := hW
  obtain ⟨p, q, hA0, hV, rfl, hfz, hnd⟩ := hW
  have hA : DataW.TrodAll enc Tryz.prog W 0 (fun _ => true) true Tryz.f3.params.toList args.toList ds p := hA0
  rw [Tryz.params3] at hA hval
  obtain ⟨v0, vs0, d0, ds0, p0, q0, hargs, rfl, rfl, h0, r0⟩ := trodAll_cons hA
  obtain ⟨rfl, rfl, rfl⟩ := trodAll_nil r0
  obtain rfl : args = #[v0] := by cases args; simp_all
  obtain ⟨rfl, rfl⟩ := trodVars_none hV
  have k0 := h0
  have lt0 : ∀ x ∈ p0, x.block < W.heap.size := by obtain ⟨m, hm⟩ := k0; exact DataW.trod_lt m _ _ _ hm
  have hcs0 := slice_of Tryz.underlying22 (hval 0 22 v0 rfl rfl)
  obtain ⟨fuel0, hf0⟩ := h0
  rw [hcs0] at hf0
  obtain ⟨a0A, a0C, a0, hv0, R00, gs0⟩ := open_flat Tryz.underlying22 (show Tryz.prog.cellsOf 5 = 1 by kernel_rfl) (by omega) byteCells byteCells_len (fun y => 0 ≤ y ∧ y ≤ 255) (fun _ _ _ h => by obtain ⟨v2, e2, -, hwf⟩ := DataW.trod_int Tryz.underlying5 h; exact ⟨v2, e2, by simp [Lit.wf, IntKind.min, IntKind.max, IntKind.signed, IntKind.bits] at hwf; omega⟩) hf0
  obtain rfl : v0 = .slice a0A a0.length a0C := by simpa using hv0
  have hmx : MaxLen W := by
    obtain ⟨m, hm⟩ := cell_of_shapedOpen_int (P := Tryz.prog) (g := 0) (t := 3) (zero := #[.int .i64 0]) hsh (of_decide_eq_true (by kernel_rfl)) (by kernel_rfl) rfl (by kernel_rfl) (by kernel_rfl) Tryz.underlying3
    exact ⟨m, hm, cell_lt hm⟩
  clear hA0 hval0
  refine (fnCommitsOf_walk a0 a0A a0C W hmx R00 gs0).mono fun e W' ⟨he, bel⟩ => ?_
  subst he
  exact ⟨_, rfl, _, _, _, [], _, [], hW', trodAll_mk1 (shut_bool Tryz.underlying4 _), (trodAll_cons_mk (Below.trod laidOut (by kernel_rfl) (of_decide_eq_true (by kernel_rfl)) k0 bel lt0) trodAll_mk0), rfl, bel.frame _, fun h => by cases h⟩
theorem over : Rows.fnCommitsOfRow.holds Tryz.pinned (OpenSpec.ofChange Rows.fnCommitsOfSpec) :=
  OpenClaim.holds_of_wide 3 Tryz.f3 rfl rfl rfl rfl rfl rfl rfl ⟨rfl, rfl, rfl, rfl, rfl⟩ rfl rfl rfl rfl rfl (by kernel_rfl) Tryz.func3 (by kernel_rfl)
    (of_decide_eq_true (by kernel_rfl)) (by unfold Func.isWrapper; first | (rw [if_pos (by decide +kernel)]; kernel_rfl) | (rw [if_neg (by decide +kernel)]; exact ⟨rfl, rfl⟩))
    (fun os started H enc _ => lifted os started H enc)
/-- the statement -/
theorem proved : Rows.FnCommitsOfSaid := over
end Go.Proofs.YtemgabekckhckaaGreat.fnCommitsOf
