/-
  BoxAt: the program's function and the reference's.
-/
import Derived.Test.YtdigkaddmpdeoaaGreatWBoxesAt
namespace Go.Proofs.YtdigkaddmpdeoaaGreat
open Go.RowKit
set_option linter.unusedVariables false
set_option linter.unusedSimpArgs false

/-- where the mailbox stands behind the first commits -/
noncomputable def atZ (l : List DCommit) (v x : Int) : Int := boxWith v (boxesAtD l x)
noncomputable def boxAtD (l : List DCommit) (v x : Int) : DBox := if atZ l v x < 0 then ⟨ByteArray.empty, 0, 0, []⟩ else theD (boxesAtD l x) (atZ l v x).toNat
theorem atZ_lt (l : List DCommit) (v x : Int) : atZ l v x < ((boxesAtD l x).length : Int) := (firstI_range _ _).2
theorem boxAt_mem (l : List DCommit) (v x : Int) (h : ¬ atZ l v x < 0) : boxAtD l v x ∈ boxesAtD l x := by
  have h2 := atZ_lt l v x
  unfold boxAtD
  rw [if_neg h, theD_of (by omega)]
  exact List.getElem_mem _
theorem boxAt_len (l : List DCommit) (v x : Int) : (boxAtD l v x).msgs.length ≤ 1048576 := by
  by_cases h : atZ l v x < 0
  · unfold boxAtD; rw [if_pos h]; simp
  · have h1 := boxAt_mem l v x h
    have h2 : cntD (boxesAtD l x) ≤ 3145728 := boxesRel_cnt (s := ⟨[], l, 0⟩) rfl
    have h3 := sum_mem (fun p : DBox => 3 + 3 * p.msgs.length) _ _ h1
    unfold cntD at h2
    omega

theorem implBoxesN (l : List DCommit) (la : Option Addr) (lc : Nat) (b : List PBox) (ba : Option Addr) (bc : Nat) (gv x : Int) (w : World) (RL : Rd w la lc 6 l.length (l.flatMap DCommit.cells)) (hll : l.length ≤ 1048576) (gl : ∀ y ∈ l, y.name.size ≤ 9223372036854775807 ∧ y.text.size ≤ 9223372036854775807) (hm : MaxLen w) :
    Calls Tryz.prog 14 #[.agg #[.slice ba b.length bc, .slice la l.length lc, .int .i64 gv], .int .i64 x] w fun e w' => ∃ g q l', e = .returned (.slice g l'.length q) ∧ OwnBs w' w.heap.size 42 88 g q l' ∧ l'.map PBox.box = boxesAtD l x ∧ Ext w w' := implBoxesAt_c b ba bc l la lc gv x w RL hll gl hm _ (Lib.hid rfl)
set_option maxRecDepth 100000 in
set_option maxHeartbeats 8000000 in
theorem implBoxAt_any (b : List PBox) (ba : Option Addr) (bc : Nat) (l : List DCommit) (la : Option Addr) (lc : Nat) (gv : Int) (v x : Int) (w : World) (R : Rd w ba bc 4 b.length (b.flatMap PBox.cells)) (M : RdM w b) (RL : Rd w la lc 6 l.length (l.flatMap DCommit.cells)) (hll : l.length ≤ 1048576) (hm : MaxLen w) (gl : ∀ y ∈ l, y.name.size ≤ 9223372036854775807 ∧ y.text.size ≤ 9223372036854775807) (rname : ByteArray) (Hrname : Hid ((boxAtD l v x).name = rname)) (rvalidity : Int) (Hrvalidity : Hid ((boxAtD l v x).validity = rvalidity)) (rnext : Int) (Hrnext : Hid ((boxAtD l v x).next = rnext)) (rmsgs : List DMsg) (Hrmsgs : Hid ((boxAtD l v x).msgs = rmsgs)) (rok : Bool) (Hrok : Hid (decide (0 ≤ atZ l v x) = rok)) :
    Calls Tryz.prog 20 #[.agg #[.slice ba b.length bc, .slice la l.length lc, .int .i64 gv], .int .i64 v, .int .i64 x] w fun e w' => ∃ g q, e = .returned (.tuple #[.agg #[.string rname, .int .i64 rvalidity, .int .i64 rnext, .slice g rmsgs.length q], .bool rok]) ∧ Own w' w.heap.size 88 3 (.slice g rmsgs.length q) rmsgs.length (rmsgs.flatMap DMsg.cells) ∧ Ext w w' := by
  have HRL := Lib.hid RL
  have HGL := Lib.hid gl
  have HMX := Lib.hid hm
  obtain ⟨z, hz⟩ : ∃ z, atZ l v x = z := ⟨_, rfl⟩
  have HZ := Lib.hid hz
  clear R M RL gl hz hm
  by_cases hneg : z < 0
  · have hd : decide (z < 0) = true := decide_eq_true hneg
    have HBX : Hid (boxAtD l v x = ⟨ByteArray.empty, 0, 0, []⟩) := Lib.hid (by unfold boxAtD; rw [HZ.out, if_pos hneg])
    go_enter Tryz.func20, Tryz.ntmps20
    go_wp2_with (first | (go_at_call 14; refine (implBoxesN l la lc b ba bc gv x _ (HRL.out.ext bxt) hll HGL.out (HMX.out.ext bxt) ).mono ?_; rintro e w4 ⟨g4, q4, l4, rfl, ho4, hd4, hb4⟩; have HO4 : Hid (OwnBs w4 (w.heap.size + 2) 42 88 g4 q4 l4) := OwnBs.le ho4 smx; have HD4 := Lib.hid hd4; clear ho4 hd4; have cp0_0 : w4.cell? ⟨w.heap.size, 0, none⟩ = some (.slice ba b.length bc) := (hb4.cell (p := ⟨w.heap.size, 0, none⟩) smx).trans kpx; have fp0_0 : w4.frozen? ⟨w.heap.size, 0, none⟩ = false := (hb4.frozen (p := ⟨w.heap.size, 0, none⟩) smx).trans kfx; have cp0_1 : w4.cell? ⟨w.heap.size, 1, none⟩ = some (.slice la l.length lc) := (hb4.cell (p := ⟨w.heap.size, 1, none⟩) smx).trans kpx; have fp0_1 : w4.frozen? ⟨w.heap.size, 1, none⟩ = false := (hb4.frozen (p := ⟨w.heap.size, 1, none⟩) smx).trans kfx; have cp0_2 : w4.cell? ⟨w.heap.size, 2, none⟩ = some (.int .i64 gv) := (hb4.cell (p := ⟨w.heap.size, 2, none⟩) smx).trans kpx; have fp0_2 : w4.frozen? ⟨w.heap.size, 2, none⟩ = false := (hb4.frozen (p := ⟨w.heap.size, 2, none⟩) smx).trans kfx; have sp0 : w.heap.size < w4.heap.size := (by have hss := hb4.size; first | omega | (simp at hss; omega)); have cp1_0 : w4.cell? ⟨(w.heap.size + 1), 0, none⟩ = some (.string ⟨#[]⟩) := (hb4.cell (p := ⟨(w.heap.size + 1), 0, none⟩) smx).trans kpx; have fp1_0 : w4.frozen? ⟨(w.heap.size + 1), 0, none⟩ = false := (hb4.frozen (p := ⟨(w.heap.size + 1), 0, none⟩) smx).trans kfx; have cp1_1 : w4.cell? ⟨(w.heap.size + 1), 1, none⟩ = some (.int .i64 0) := (hb4.cell (p := ⟨(w.heap.size + 1), 1, none⟩) smx).trans kpx; have fp1_1 : w4.frozen? ⟨(w.heap.size + 1), 1, none⟩ = false := (hb4.frozen (p := ⟨(w.heap.size + 1), 1, none⟩) smx).trans kfx; have cp1_2 : w4.cell? ⟨(w.heap.size + 1), 2, none⟩ = some (.int .i64 0) := (hb4.cell (p := ⟨(w.heap.size + 1), 2, none⟩) smx).trans kpx; have fp1_2 : w4.frozen? ⟨(w.heap.size + 1), 2, none⟩ = false := (hb4.frozen (p := ⟨(w.heap.size + 1), 2, none⟩) smx).trans kfx; have cp1_3 : w4.cell? ⟨(w.heap.size + 1), 3, none⟩ = some (.slice none 0 0) := (hb4.cell (p := ⟨(w.heap.size + 1), 3, none⟩) smx).trans kpx; have fp1_3 : w4.frozen? ⟨(w.heap.size + 1), 3, none⟩ = false := (hb4.frozen (p := ⟨(w.heap.size + 1), 3, none⟩) smx).trans kfx; have sp1 : (w.heap.size + 1) < w4.heap.size := (by have hss := hb4.size; first | omega | (simp at hss; omega))) | (go_at_call 50; refine (implBoxWith_any l4 _ _ v _ (HO4.out.rd.ext bxt) z (Lib.hid (by rw [HD4.out]; exact HZ.out))).mono ?_; rintro e w5 ⟨rfl, hb5⟩; have hb5' : Ext w4 w5 := bxt; have cq0_0 : w5.cell? ⟨w.heap.size, 0, none⟩ = some (.slice ba b.length bc) := (hb5'.cell (p := ⟨w.heap.size, 0, none⟩) smx).trans kpx; have fq0_0 : w5.frozen? ⟨w.heap.size, 0, none⟩ = false := (hb5'.frozen (p := ⟨w.heap.size, 0, none⟩) smx).trans kfx; have cq0_1 : w5.cell? ⟨w.heap.size, 1, none⟩ = some (.slice la l.length lc) := (hb5'.cell (p := ⟨w.heap.size, 1, none⟩) smx).trans kpx; have fq0_1 : w5.frozen? ⟨w.heap.size, 1, none⟩ = false := (hb5'.frozen (p := ⟨w.heap.size, 1, none⟩) smx).trans kfx; have cq0_2 : w5.cell? ⟨w.heap.size, 2, none⟩ = some (.int .i64 gv) := (hb5'.cell (p := ⟨w.heap.size, 2, none⟩) smx).trans kpx; have fq0_2 : w5.frozen? ⟨w.heap.size, 2, none⟩ = false := (hb5'.frozen (p := ⟨w.heap.size, 2, none⟩) smx).trans kfx; have sq0 : w.heap.size < w5.heap.size := (by have hss := hb5'.size; first | omega | (simp at hss; omega)); have cq1_0 : w5.cell? ⟨(w.heap.size + 1), 0, none⟩ = some (.string ⟨#[]⟩) := (hb5'.cell (p := ⟨(w.heap.size + 1), 0, none⟩) smx).trans kpx; have fq1_0 : w5.frozen? ⟨(w.heap.size + 1), 0, none⟩ = false := (hb5'.frozen (p := ⟨(w.heap.size + 1), 0, none⟩) smx).trans kfx; have cq1_1 : w5.cell? ⟨(w.heap.size + 1), 1, none⟩ = some (.int .i64 0) := (hb5'.cell (p := ⟨(w.heap.size + 1), 1, none⟩) smx).trans kpx; have fq1_1 : w5.frozen? ⟨(w.heap.size + 1), 1, none⟩ = false := (hb5'.frozen (p := ⟨(w.heap.size + 1), 1, none⟩) smx).trans kfx; have cq1_2 : w5.cell? ⟨(w.heap.size + 1), 2, none⟩ = some (.int .i64 0) := (hb5'.cell (p := ⟨(w.heap.size + 1), 2, none⟩) smx).trans kpx; have fq1_2 : w5.frozen? ⟨(w.heap.size + 1), 2, none⟩ = false := (hb5'.frozen (p := ⟨(w.heap.size + 1), 2, none⟩) smx).trans kfx; have cq1_3 : w5.cell? ⟨(w.heap.size + 1), 3, none⟩ = some (.slice none 0 0) := (hb5'.cell (p := ⟨(w.heap.size + 1), 3, none⟩) smx).trans kpx; have fq1_3 : w5.frozen? ⟨(w.heap.size + 1), 3, none⟩ = false := (hb5'.frozen (p := ⟨(w.heap.size + 1), 3, none⟩) smx).trans kfx; have sq1 : (w.heap.size + 1) < w5.heap.size := (by have hss := hb5'.size; first | omega | (simp at hss; omega))))
    obtain rfl : rok = false := by rw [← Hrok.out, HZ.out]; exact decide_eq_false (by omega)
    obtain rfl : ByteArray.empty = rname := by rw [← Hrname.out, HBX.out]
    obtain rfl : 0 = rvalidity := by rw [← Hrvalidity.out, HBX.out]
    obtain rfl : 0 = rnext := by rw [← Hrnext.out, HBX.out]
    obtain rfl : [] = rmsgs := by rw [← Hrmsgs.out, HBX.out]
    refine bodyPost_ret (v := .tuple #[.agg #[.string ⟨#[]⟩, .int .i64 0, .int .i64 0, .slice none 0 0], .bool false]) (by simp [results, Tryz.results20, go_sem, *]) rfl ⟨none, 0, rfl, Own.none0 _, bxt⟩
  · have hd : decide (z < 0) = false := decide_eq_false hneg
    have hzl : z < ((boxesAtD l x).length : Int) := by rw [← HZ.out]; exact atZ_lt l v x
    obtain ⟨i, hi⟩ : ∃ i : Nat, z = i := ⟨z.toNat, by omega⟩
    subst hi
    have hil : i < (boxesAtD l x).length := by omega
    have HBX : Hid (boxAtD l v x = (boxesAtD l x)[i]) := Lib.hid (by unfold boxAtD; rw [HZ.out, if_neg hneg, theD_of (by omega)]; rfl)
    clear hzl
    go_enter Tryz.func20, Tryz.ntmps20
    go_wp2_with (first | (go_at_call 14; refine (implBoxesN l la lc b ba bc gv x _ (HRL.out.ext bxt) hll HGL.out (HMX.out.ext bxt) ).mono ?_; rintro e w4 ⟨g4, q4, l4, rfl, ho4, hd4, hb4⟩; have HO4 : Hid (OwnBs w4 (w.heap.size + 2) 42 88 g4 q4 l4) := OwnBs.le ho4 smx; have HD4 := Lib.hid hd4; clear ho4 hd4; have cp0_0 : w4.cell? ⟨w.heap.size, 0, none⟩ = some (.slice ba b.length bc) := (hb4.cell (p := ⟨w.heap.size, 0, none⟩) smx).trans kpx; have fp0_0 : w4.frozen? ⟨w.heap.size, 0, none⟩ = false := (hb4.frozen (p := ⟨w.heap.size, 0, none⟩) smx).trans kfx; have cp0_1 : w4.cell? ⟨w.heap.size, 1, none⟩ = some (.slice la l.length lc) := (hb4.cell (p := ⟨w.heap.size, 1, none⟩) smx).trans kpx; have fp0_1 : w4.frozen? ⟨w.heap.size, 1, none⟩ = false := (hb4.frozen (p := ⟨w.heap.size, 1, none⟩) smx).trans kfx; have cp0_2 : w4.cell? ⟨w.heap.size, 2, none⟩ = some (.int .i64 gv) := (hb4.cell (p := ⟨w.heap.size, 2, none⟩) smx).trans kpx; have fp0_2 : w4.frozen? ⟨w.heap.size, 2, none⟩ = false := (hb4.frozen (p := ⟨w.heap.size, 2, none⟩) smx).trans kfx; have sp0 : w.heap.size < w4.heap.size := (by have hss := hb4.size; first | omega | (simp at hss; omega)); have cp1_0 : w4.cell? ⟨(w.heap.size + 1), 0, none⟩ = some (.string ⟨#[]⟩) := (hb4.cell (p := ⟨(w.heap.size + 1), 0, none⟩) smx).trans kpx; have fp1_0 : w4.frozen? ⟨(w.heap.size + 1), 0, none⟩ = false := (hb4.frozen (p := ⟨(w.heap.size + 1), 0, none⟩) smx).trans kfx; have cp1_1 : w4.cell? ⟨(w.heap.size + 1), 1, none⟩ = some (.int .i64 0) := (hb4.cell (p := ⟨(w.heap.size + 1), 1, none⟩) smx).trans kpx; have fp1_1 : w4.frozen? ⟨(w.heap.size + 1), 1, none⟩ = false := (hb4.frozen (p := ⟨(w.heap.size + 1), 1, none⟩) smx).trans kfx; have cp1_2 : w4.cell? ⟨(w.heap.size + 1), 2, none⟩ = some (.int .i64 0) := (hb4.cell (p := ⟨(w.heap.size + 1), 2, none⟩) smx).trans kpx; have fp1_2 : w4.frozen? ⟨(w.heap.size + 1), 2, none⟩ = false := (hb4.frozen (p := ⟨(w.heap.size + 1), 2, none⟩) smx).trans kfx; have cp1_3 : w4.cell? ⟨(w.heap.size + 1), 3, none⟩ = some (.slice none 0 0) := (hb4.cell (p := ⟨(w.heap.size + 1), 3, none⟩) smx).trans kpx; have fp1_3 : w4.frozen? ⟨(w.heap.size + 1), 3, none⟩ = false := (hb4.frozen (p := ⟨(w.heap.size + 1), 3, none⟩) smx).trans kfx; have sp1 : (w.heap.size + 1) < w4.heap.size := (by have hss := hb4.size; first | omega | (simp at hss; omega))) | (go_at_call 50; refine (implBoxWith_any l4 _ _ v _ (HO4.out.rd.ext bxt) (i : Int) (Lib.hid (by rw [HD4.out]; exact HZ.out))).mono ?_; rintro e w5 ⟨rfl, hb5⟩; have hb5' : Ext w4 w5 := bxt; have cq0_0 : w5.cell? ⟨w.heap.size, 0, none⟩ = some (.slice ba b.length bc) := (hb5'.cell (p := ⟨w.heap.size, 0, none⟩) smx).trans kpx; have fq0_0 : w5.frozen? ⟨w.heap.size, 0, none⟩ = false := (hb5'.frozen (p := ⟨w.heap.size, 0, none⟩) smx).trans kfx; have cq0_1 : w5.cell? ⟨w.heap.size, 1, none⟩ = some (.slice la l.length lc) := (hb5'.cell (p := ⟨w.heap.size, 1, none⟩) smx).trans kpx; have fq0_1 : w5.frozen? ⟨w.heap.size, 1, none⟩ = false := (hb5'.frozen (p := ⟨w.heap.size, 1, none⟩) smx).trans kfx; have cq0_2 : w5.cell? ⟨w.heap.size, 2, none⟩ = some (.int .i64 gv) := (hb5'.cell (p := ⟨w.heap.size, 2, none⟩) smx).trans kpx; have fq0_2 : w5.frozen? ⟨w.heap.size, 2, none⟩ = false := (hb5'.frozen (p := ⟨w.heap.size, 2, none⟩) smx).trans kfx; have sq0 : w.heap.size < w5.heap.size := (by have hss := hb5'.size; first | omega | (simp at hss; omega)); have cq1_0 : w5.cell? ⟨(w.heap.size + 1), 0, none⟩ = some (.string ⟨#[]⟩) := (hb5'.cell (p := ⟨(w.heap.size + 1), 0, none⟩) smx).trans kpx; have fq1_0 : w5.frozen? ⟨(w.heap.size + 1), 0, none⟩ = false := (hb5'.frozen (p := ⟨(w.heap.size + 1), 0, none⟩) smx).trans kfx; have cq1_1 : w5.cell? ⟨(w.heap.size + 1), 1, none⟩ = some (.int .i64 0) := (hb5'.cell (p := ⟨(w.heap.size + 1), 1, none⟩) smx).trans kpx; have fq1_1 : w5.frozen? ⟨(w.heap.size + 1), 1, none⟩ = false := (hb5'.frozen (p := ⟨(w.heap.size + 1), 1, none⟩) smx).trans kfx; have cq1_2 : w5.cell? ⟨(w.heap.size + 1), 2, none⟩ = some (.int .i64 0) := (hb5'.cell (p := ⟨(w.heap.size + 1), 2, none⟩) smx).trans kpx; have fq1_2 : w5.frozen? ⟨(w.heap.size + 1), 2, none⟩ = false := (hb5'.frozen (p := ⟨(w.heap.size + 1), 2, none⟩) smx).trans kfx; have cq1_3 : w5.cell? ⟨(w.heap.size + 1), 3, none⟩ = some (.slice none 0 0) := (hb5'.cell (p := ⟨(w.heap.size + 1), 3, none⟩) smx).trans kpx; have fq1_3 : w5.frozen? ⟨(w.heap.size + 1), 3, none⟩ = false := (hb5'.frozen (p := ⟨(w.heap.size + 1), 3, none⟩) smx).trans kfx; have sq1 : (w.heap.size + 1) < w5.heap.size := (by have hss := hb5'.size; first | omega | (simp at hss; omega)); have hi4 : i < l4.length := (by (have h := congrArg List.length HD4.out; simp at h; omega)); obtain ⟨ob, oo, rfl, hob, hat⟩ := HO4.out.rd.ptr (by omega); obtain ⟨u0, u1, u2, u3⟩ := PBox.at (hat.ext hob (show Ext w4 w5 from bxt)) i hi4; have hat2 := Lib.hid hat; clear hat))
    have hbx : l4[i].box = boxAtD l v x := by
      rw [HBX.out]
      have h := congrArg (fun y => y[i]?) HD4.out
      simpa [hi4, hil] using h
    have h1 : l4[i].name = rname := by rw [← Hrname.out, ← hbx]; rfl
    have h2 : l4[i].validity = rvalidity := by rw [← Hrvalidity.out, ← hbx]; rfl
    have h3 : l4[i].next = rnext := by rw [← Hrnext.out, ← hbx]; rfl
    have h4 : l4[i].msgs = rmsgs := by rw [← Hrmsgs.out, ← hbx]; rfl
    obtain rfl : rok = true := by rw [← Hrok.out, HZ.out]; exact decide_eq_true (by omega)
    subst h1
    subst h2
    subst h3
    subst h4
    refine bodyPost_ret (v := .tuple #[.agg #[.string l4[i].name, .int .i64 l4[i].validity, .int .i64 l4[i].next, .slice l4[i].ma l4[i].msgs.length l4[i].mc], .bool true]) (by simp [results, Tryz.results20, go_sem, *]) rfl ⟨l4[i].ma, l4[i].mc, rfl, ?_, bxt⟩
    have ho := HO4.out.msg _ (List.getElem_mem hi4)
    exact ((((ho.ext (show Ext w4 w5 from bxt)).set_below smx _).set_below smx _).set_below smx _).set_below smx _ |>.le (by omega)

theorem specBoxesN (l : List DCommit) (la : Option Addr) (lc : Nat) (b : List PBox) (ba : Option Addr) (bc : Nat) (gv x : Int) (w : World) (RL : Rd w la lc 6 l.length (l.flatMap DCommit.cells)) (hll : l.length ≤ 1048576) (gl : ∀ y ∈ l, y.name.size ≤ 9223372036854775807 ∧ y.text.size ≤ 9223372036854775807) :
    Calls Tryz.prog 13 #[.agg #[.slice ba b.length bc, .slice la l.length lc, .int .i64 gv], .int .i64 x] w fun e w' => ∃ g q l', e = .returned (.slice g l'.length q) ∧ OwnBs w' w.heap.size 42 88 g q l' ∧ l'.map PBox.box = boxesAtD l x ∧ Ext w w' := specBoxesAt_c b ba bc l la lc gv x w RL hll gl _ (Lib.hid rfl)
set_option maxRecDepth 100000 in
set_option maxHeartbeats 8000000 in
theorem specBoxAt_any (b : List PBox) (ba : Option Addr) (bc : Nat) (l : List DCommit) (la : Option Addr) (lc : Nat) (gv : Int) (v x : Int) (w : World) (R : Rd w ba bc 4 b.length (b.flatMap PBox.cells)) (M : RdM w b) (RL : Rd w la lc 6 l.length (l.flatMap DCommit.cells)) (hll : l.length ≤ 1048576) (gl : ∀ y ∈ l, y.name.size ≤ 9223372036854775807 ∧ y.text.size ≤ 9223372036854775807) (rname : ByteArray) (Hrname : Hid ((boxAtD l v x).name = rname)) (rvalidity : Int) (Hrvalidity : Hid ((boxAtD l v x).validity = rvalidity)) (rnext : Int) (Hrnext : Hid ((boxAtD l v x).next = rnext)) (rmsgs : List DMsg) (Hrmsgs : Hid ((boxAtD l v x).msgs = rmsgs)) (rok : Bool) (Hrok : Hid (decide (0 ≤ atZ l v x) = rok)) :
    Calls Tryz.prog 19 #[.agg #[.slice ba b.length bc, .slice la l.length lc, .int .i64 gv], .int .i64 v, .int .i64 x] w fun e w' => ∃ g q, e = .returned (.tuple #[.agg #[.string rname, .int .i64 rvalidity, .int .i64 rnext, .slice g rmsgs.length q], .bool rok]) ∧ Own w' w.heap.size 88 3 (.slice g rmsgs.length q) rmsgs.length (rmsgs.flatMap DMsg.cells) ∧ Ext w w' := by
  have HRL := Lib.hid RL
  have HGL := Lib.hid gl
  obtain ⟨z, hz⟩ : ∃ z, atZ l v x = z := ⟨_, rfl⟩
  have HZ := Lib.hid hz
  clear R M RL gl hz
  by_cases hneg : z < 0
  · have hd : decide (z < 0) = true := decide_eq_true hneg
    have HBX : Hid (boxAtD l v x = ⟨ByteArray.empty, 0, 0, []⟩) := Lib.hid (by unfold boxAtD; rw [HZ.out, if_pos hneg])
    go_enter Tryz.func19, Tryz.ntmps19
    go_wp2_with (first | (go_at_call 13; refine (specBoxesN l la lc b ba bc gv x _ (HRL.out.ext bxt) hll HGL.out ).mono ?_; rintro e w4 ⟨g4, q4, l4, rfl, ho4, hd4, hb4⟩; have HO4 : Hid (OwnBs w4 (w.heap.size + 2) 42 88 g4 q4 l4) := OwnBs.le ho4 smx; have HD4 := Lib.hid hd4; clear ho4 hd4; have cp0_0 : w4.cell? ⟨w.heap.size, 0, none⟩ = some (.slice ba b.length bc) := (hb4.cell (p := ⟨w.heap.size, 0, none⟩) smx).trans kpx; have fp0_0 : w4.frozen? ⟨w.heap.size, 0, none⟩ = false := (hb4.frozen (p := ⟨w.heap.size, 0, none⟩) smx).trans kfx; have cp0_1 : w4.cell? ⟨w.heap.size, 1, none⟩ = some (.slice la l.length lc) := (hb4.cell (p := ⟨w.heap.size, 1, none⟩) smx).trans kpx; have fp0_1 : w4.frozen? ⟨w.heap.size, 1, none⟩ = false := (hb4.frozen (p := ⟨w.heap.size, 1, none⟩) smx).trans kfx; have cp0_2 : w4.cell? ⟨w.heap.size, 2, none⟩ = some (.int .i64 gv) := (hb4.cell (p := ⟨w.heap.size, 2, none⟩) smx).trans kpx; have fp0_2 : w4.frozen? ⟨w.heap.size, 2, none⟩ = false := (hb4.frozen (p := ⟨w.heap.size, 2, none⟩) smx).trans kfx; have sp0 : w.heap.size < w4.heap.size := (by have hss := hb4.size; first | omega | (simp at hss; omega)); have cp1_0 : w4.cell? ⟨(w.heap.size + 1), 0, none⟩ = some (.string ⟨#[]⟩) := (hb4.cell (p := ⟨(w.heap.size + 1), 0, none⟩) smx).trans kpx; have fp1_0 : w4.frozen? ⟨(w.heap.size + 1), 0, none⟩ = false := (hb4.frozen (p := ⟨(w.heap.size + 1), 0, none⟩) smx).trans kfx; have cp1_1 : w4.cell? ⟨(w.heap.size + 1), 1, none⟩ = some (.int .i64 0) := (hb4.cell (p := ⟨(w.heap.size + 1), 1, none⟩) smx).trans kpx; have fp1_1 : w4.frozen? ⟨(w.heap.size + 1), 1, none⟩ = false := (hb4.frozen (p := ⟨(w.heap.size + 1), 1, none⟩) smx).trans kfx; have cp1_2 : w4.cell? ⟨(w.heap.size + 1), 2, none⟩ = some (.int .i64 0) := (hb4.cell (p := ⟨(w.heap.size + 1), 2, none⟩) smx).trans kpx; have fp1_2 : w4.frozen? ⟨(w.heap.size + 1), 2, none⟩ = false := (hb4.frozen (p := ⟨(w.heap.size + 1), 2, none⟩) smx).trans kfx; have cp1_3 : w4.cell? ⟨(w.heap.size + 1), 3, none⟩ = some (.slice none 0 0) := (hb4.cell (p := ⟨(w.heap.size + 1), 3, none⟩) smx).trans kpx; have fp1_3 : w4.frozen? ⟨(w.heap.size + 1), 3, none⟩ = false := (hb4.frozen (p := ⟨(w.heap.size + 1), 3, none⟩) smx).trans kfx; have sp1 : (w.heap.size + 1) < w4.heap.size := (by have hss := hb4.size; first | omega | (simp at hss; omega))) | (go_at_call 49; refine (specBoxWith_any l4 _ _ v _ (HO4.out.rd.ext bxt) z (Lib.hid (by rw [HD4.out]; exact HZ.out))).mono ?_; rintro e w5 ⟨rfl, hb5⟩; subst w5))
    obtain rfl : rok = false := by rw [← Hrok.out, HZ.out]; exact decide_eq_false (by omega)
    obtain rfl : ByteArray.empty = rname := by rw [← Hrname.out, HBX.out]
    obtain rfl : 0 = rvalidity := by rw [← Hrvalidity.out, HBX.out]
    obtain rfl : 0 = rnext := by rw [← Hrnext.out, HBX.out]
    obtain rfl : [] = rmsgs := by rw [← Hrmsgs.out, HBX.out]
    refine bodyPost_ret (v := .tuple #[.agg #[.string ⟨#[]⟩, .int .i64 0, .int .i64 0, .slice none 0 0], .bool false]) (by simp [results, Tryz.results19, go_sem, *]) rfl ⟨none, 0, rfl, Own.none0 _, bxt⟩
  · have hd : decide (z < 0) = false := decide_eq_false hneg
    have hzl : z < ((boxesAtD l x).length : Int) := by rw [← HZ.out]; exact atZ_lt l v x
    obtain ⟨i, hi⟩ : ∃ i : Nat, z = i := ⟨z.toNat, by omega⟩
    subst hi
    have hil : i < (boxesAtD l x).length := by omega
    have HBX : Hid (boxAtD l v x = (boxesAtD l x)[i]) := Lib.hid (by unfold boxAtD; rw [HZ.out, if_neg hneg, theD_of (by omega)]; rfl)
    clear hzl
    go_enter Tryz.func19, Tryz.ntmps19
    go_wp2_with (first | (go_at_call 13; refine (specBoxesN l la lc b ba bc gv x _ (HRL.out.ext bxt) hll HGL.out ).mono ?_; rintro e w4 ⟨g4, q4, l4, rfl, ho4, hd4, hb4⟩; have HO4 : Hid (OwnBs w4 (w.heap.size + 2) 42 88 g4 q4 l4) := OwnBs.le ho4 smx; have HD4 := Lib.hid hd4; clear ho4 hd4; have cp0_0 : w4.cell? ⟨w.heap.size, 0, none⟩ = some (.slice ba b.length bc) := (hb4.cell (p := ⟨w.heap.size, 0, none⟩) smx).trans kpx; have fp0_0 : w4.frozen? ⟨w.heap.size, 0, none⟩ = false := (hb4.frozen (p := ⟨w.heap.size, 0, none⟩) smx).trans kfx; have cp0_1 : w4.cell? ⟨w.heap.size, 1, none⟩ = some (.slice la l.length lc) := (hb4.cell (p := ⟨w.heap.size, 1, none⟩) smx).trans kpx; have fp0_1 : w4.frozen? ⟨w.heap.size, 1, none⟩ = false := (hb4.frozen (p := ⟨w.heap.size, 1, none⟩) smx).trans kfx; have cp0_2 : w4.cell? ⟨w.heap.size, 2, none⟩ = some (.int .i64 gv) := (hb4.cell (p := ⟨w.heap.size, 2, none⟩) smx).trans kpx; have fp0_2 : w4.frozen? ⟨w.heap.size, 2, none⟩ = false := (hb4.frozen (p := ⟨w.heap.size, 2, none⟩) smx).trans kfx; have sp0 : w.heap.size < w4.heap.size := (by have hss := hb4.size; first | omega | (simp at hss; omega)); have cp1_0 : w4.cell? ⟨(w.heap.size + 1), 0, none⟩ = some (.string ⟨#[]⟩) := (hb4.cell (p := ⟨(w.heap.size + 1), 0, none⟩) smx).trans kpx; have fp1_0 : w4.frozen? ⟨(w.heap.size + 1), 0, none⟩ = false := (hb4.frozen (p := ⟨(w.heap.size + 1), 0, none⟩) smx).trans kfx; have cp1_1 : w4.cell? ⟨(w.heap.size + 1), 1, none⟩ = some (.int .i64 0) := (hb4.cell (p := ⟨(w.heap.size + 1), 1, none⟩) smx).trans kpx; have fp1_1 : w4.frozen? ⟨(w.heap.size + 1), 1, none⟩ = false := (hb4.frozen (p := ⟨(w.heap.size + 1), 1, none⟩) smx).trans kfx; have cp1_2 : w4.cell? ⟨(w.heap.size + 1), 2, none⟩ = some (.int .i64 0) := (hb4.cell (p := ⟨(w.heap.size + 1), 2, none⟩) smx).trans kpx; have fp1_2 : w4.frozen? ⟨(w.heap.size + 1), 2, none⟩ = false := (hb4.frozen (p := ⟨(w.heap.size + 1), 2, none⟩) smx).trans kfx; have cp1_3 : w4.cell? ⟨(w.heap.size + 1), 3, none⟩ = some (.slice none 0 0) := (hb4.cell (p := ⟨(w.heap.size + 1), 3, none⟩) smx).trans kpx; have fp1_3 : w4.frozen? ⟨(w.heap.size + 1), 3, none⟩ = false := (hb4.frozen (p := ⟨(w.heap.size + 1), 3, none⟩) smx).trans kfx; have sp1 : (w.heap.size + 1) < w4.heap.size := (by have hss := hb4.size; first | omega | (simp at hss; omega))) | (go_at_call 49; refine (specBoxWith_any l4 _ _ v _ (HO4.out.rd.ext bxt) (i : Int) (Lib.hid (by rw [HD4.out]; exact HZ.out))).mono ?_; rintro e w5 ⟨rfl, hb5⟩; subst w5; have hi4 : i < l4.length := (by (have h := congrArg List.length HD4.out; simp at h; omega)); obtain ⟨ob, oo, rfl, hob, hat⟩ := HO4.out.rd.ptr (by omega); obtain ⟨u0, u1, u2, u3⟩ := PBox.at (hat.ext hob (show Ext w4 w4 from bxt)) i hi4; have hat2 := Lib.hid hat; clear hat))
    have hbx : l4[i].box = boxAtD l v x := by
      rw [HBX.out]
      have h := congrArg (fun y => y[i]?) HD4.out
      simpa [hi4, hil] using h
    have h1 : l4[i].name = rname := by rw [← Hrname.out, ← hbx]; rfl
    have h2 : l4[i].validity = rvalidity := by rw [← Hrvalidity.out, ← hbx]; rfl
    have h3 : l4[i].next = rnext := by rw [← Hrnext.out, ← hbx]; rfl
    have h4 : l4[i].msgs = rmsgs := by rw [← Hrmsgs.out, ← hbx]; rfl
    obtain rfl : rok = true := by rw [← Hrok.out, HZ.out]; exact decide_eq_true (by omega)
    subst h1
    subst h2
    subst h3
    subst h4
    refine bodyPost_ret (v := .tuple #[.agg #[.string l4[i].name, .int .i64 l4[i].validity, .int .i64 l4[i].next, .slice l4[i].ma l4[i].msgs.length l4[i].mc], .bool true]) (by simp [results, Tryz.results19, go_sem, *]) rfl ⟨l4[i].ma, l4[i].mc, rfl, ?_, bxt⟩
    have ho := HO4.out.msg _ (List.getElem_mem hi4)
    exact ((((ho.ext (show Ext w4 w4 from bxt)).set_below smx _).set_below smx _).set_below smx _).set_below smx _ |>.le (by omega)
end Go.Proofs.YtdigkaddmpdeoaaGreat
