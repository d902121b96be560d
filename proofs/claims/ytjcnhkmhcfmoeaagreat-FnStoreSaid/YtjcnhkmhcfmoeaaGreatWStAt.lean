/-
  The contracts of stores, in the words of a drawn store.
-/
import Derived.Test.YtjcnhkmhcfmoeaaGreatXDrB
import Derived.Test.YtjcnhkmhcfmoeaaGreatWBoxesAt
import Derived.Test.YtjcnhkmhcfmoeaaGreatWStoreOkI
import Derived.Test.YtjcnhkmhcfmoeaaGreatXOps
import Derived.Test.YtjcnhkmhcfmoeaaGreatXKeep
import Derived.Test.YtjcnhkmhcfmoeaaGreatXLaw
import Derived.Test.YtjcnhkmhcfmoeaaGreatWSameBoxes
namespace Go.Proofs.YtjcnhkmhcfmoeaaGreat
open Go.RowKit
set_option linter.unusedVariables false
set_option linter.unusedSimpArgs false

theorem implStoreOk_at {B : Nat} (zs : List PBox) (ba : Option Addr) (bc : Nat) (lg : List DCommit) (la : Option Addr) (lc : Nat) (gv : Int) (w : World) (R : OwnRt w B 49 66 41 ba bc zs la lc lg) (hz : zs.length ≤ 5) (hs : SmB 6 zs) (hl : lg.length ≤ 320) (hg : SmL lg) (hm : MaxLen w) (r : Bool) (Hr : Hid (Tells r (StoreP ⟨zs.map PBox.box, lg, gv⟩))) : Calls Tryz.prog 18 #[.agg #[.slice ba zs.length bc, .slice la lg.length lc, .int .i64 gv]] w fun e w' => e = .returned (.bool r) ∧ Ext w w' :=
  implStoreOk_any zs ba bc lg la lc gv w R.rs.rd R.rs.rdm (Rd.of_Own R.log) (by omega) (fun y hy => by have := (hs y hy).2.1; omega) (by omega) (fun y hy => by have := (hs y hy).1; omega) (fun y hy t ht => by have := (hs y hy).2.2 t ht; omega) (fun y hy => by have := hg y hy; exact ⟨by omega, by omega⟩) hm r Hr
theorem implBoxesAt_at {B : Nat} (zs : List PBox) (ba : Option Addr) (bc : Nat) (lg : List DCommit) (la : Option Addr) (lc : Nat) (gv : Int) (x : Int) (w : World) (R : OwnRt w B 49 66 41 ba bc zs la lc lg) (hz : zs.length ≤ 5) (hs : SmB 6 zs) (hl : lg.length ≤ 320) (hg : SmL lg) (hm : MaxLen w) (rr : List DBox) (H : Hid (BoxesRel ⟨zs.map PBox.box, lg, gv⟩ x rr)) : Calls Tryz.prog 21 #[.agg #[.slice ba zs.length bc, .slice la lg.length lc, .int .i64 gv], .int .i64 x] w (fun e w' => ∃ g q l', e = .returned (.slice g l'.length q) ∧ OwnBs w' w.heap.size 49 66 g q l' ∧ l'.map PBox.box = rr ∧ Ext w w') :=
  implBoxesAt_law zs ba bc lg la lc gv x w R.rs.rd R.rs.rdm (Rd.of_Own R.log) (by omega) (fun y hy => by have := (hs y hy).2.1; omega) (by omega) (fun y hy => by have := (hs y hy).1; omega) (fun y hy t ht => by have := (hs y hy).2.2 t ht; omega) (fun y hy => by have := hg y hy; exact ⟨by omega, by omega⟩) hm rr H
theorem specStoreOk_at {B : Nat} (zs : List PBox) (ba : Option Addr) (bc : Nat) (lg : List DCommit) (la : Option Addr) (lc : Nat) (gv : Int) (w : World) (R : OwnRt w B 49 66 41 ba bc zs la lc lg) (hz : zs.length ≤ 5) (hs : SmB 6 zs) (hl : lg.length ≤ 320) (hg : SmL lg) (r : Bool) (Hr : Hid (Tells r (StoreP ⟨zs.map PBox.box, lg, gv⟩))) : Calls Tryz.prog 19 #[.agg #[.slice ba zs.length bc, .slice la lg.length lc, .int .i64 gv]] w fun e w' => e = .returned (.bool r) ∧ Ext w w' :=
  specStoreOk_any zs ba bc lg la lc gv w R.rs.rd R.rs.rdm (Rd.of_Own R.log) (by omega) (fun y hy => by have := (hs y hy).2.1; omega) (by omega) (fun y hy => by have := (hs y hy).1; omega) (fun y hy t ht => by have := (hs y hy).2.2 t ht; omega) (fun y hy => by have := hg y hy; exact ⟨by omega, by omega⟩) r Hr
theorem specBoxesAt_at {B : Nat} (zs : List PBox) (ba : Option Addr) (bc : Nat) (lg : List DCommit) (la : Option Addr) (lc : Nat) (gv : Int) (x : Int) (w : World) (R : OwnRt w B 49 66 41 ba bc zs la lc lg) (hz : zs.length ≤ 5) (hs : SmB 6 zs) (hl : lg.length ≤ 320) (hg : SmL lg) (rr : List DBox) (H : Hid (BoxesRel ⟨zs.map PBox.box, lg, gv⟩ x rr)) : Calls Tryz.prog 22 #[.agg #[.slice ba zs.length bc, .slice la lg.length lc, .int .i64 gv], .int .i64 x] w (fun e w' => ∃ g q l', e = .returned (.slice g l'.length q) ∧ OwnBs w' w.heap.size 49 66 g q l' ∧ l'.map PBox.box = rr ∧ Ext w w') :=
  specBoxesAt_law zs ba bc lg la lc gv x w R.rs.rd R.rs.rdm (Rd.of_Own R.log) (by omega) (fun y hy => by have := (hs y hy).2.1; omega) (by omega) (fun y hy => by have := (hs y hy).1; omega) (fun y hy t ht => by have := (hs y hy).2.2 t ht; omega) (fun y hy => by have := hg y hy; exact ⟨by omega, by omega⟩) rr H
theorem boxesP_small {D : List DBox} (h : BoxesP D) : D.length ≤ 4 ∧ SmD 6 D := by
  have hq := (boxes_iff _).1 h
  refine ⟨hq.2.2.2, fun y hy => ?_⟩
  obtain ⟨q1, q2, q3, q4, q5⟩ := hq.1 y hy
  exact ⟨Nat.le_trans q1.2.2 (by omega), q4, fun t ht => Nat.le_trans (q5.1 t ht).2.2 (by omega)⟩
theorem implApplied_at {B : Nat} (zs : List PBox) (a : Option Addr) (c : Nat) (m : DCommit) (w : World) (R : OwnBs w B 49 66 a c zs) (hm : MaxLen w) (D T : List DBox) (hD : Hid (zs.map PBox.box = D)) (hP : Hid (BoxesP D)) (g1 : m.name.size ≤ 41) (g2 : m.text.size ≤ 41) (hT : Hid (AppliesP D m ∧ appD D m = T)) :
    Calls Tryz.prog 23 #[.slice a zs.length c, .agg #[.int .i64 m.kind, .int .i64 m.validity, .int .i64 m.uid, .int .i64 m.flags, .string m.name, .string m.text]] w fun e w' => ∃ g q l', e = .returned (.tuple #[.slice g l'.length q, .bool true]) ∧ OwnBs w' w.heap.size 49 66 g q l' ∧ l'.map PBox.box = T ∧ Ext w w' := by
  obtain ⟨h1, h2⟩ := boxesP_small hP.out
  have hs : SmB 6 zs := smD_map.1 (by rw [hD.out]; exact h2)
  have hz : zs.length ≤ 4 := by rw [map_len hD.out]; exact h1
  exact implApplied_law zs a c m w R.rd R.rdm (by omega) (fun y hy => by have := (hs y hy).2.1; omega) (fun y hy => by have := (hs y hy).1; omega) (fun y hy t ht => by have := (hs y hy).2.2 t ht; omega) (by omega) (by omega) hm T true (Lib.hid ⟨⟨fun _ => by rw [hD.out]; exact hT.out.1, fun _ => rfl⟩, by rw [hD.out, if_pos rfl]; exact hT.out.2⟩)
theorem boxesAt_neg {s : DStore} {x : Int} {D : List DBox} (h : BoxesRel s x D) (hx : x < 0) : D = [] := by
  rw [← h]; unfold boxesAtD atN
  rw [show (min (max x 0) (s.log.length : Int)).toNat = 0 by omega]
  rfl
theorem boxesAt_end {s : DStore} {x : Int} {D : List DBox} (h : BoxesRel s x D) (hs : StoreP s) (hx : (s.log.length : Int) ≤ x) : D = s.boxes := by
  rw [← h]; unfold boxesAtD atN
  rw [show (min (max x 0) (s.log.length : Int)).toNat = s.log.length by omega, List.take_length, hs.1]
theorem boxesAt_step {s : DStore} {k : Nat} {D T : List DBox} (h : BoxesRel s k D) (h2 : BoxesRel s ((k : Int) + 1) T) (hs : StoreP s) (hk : k < s.log.length) : BoxesP D ∧ AppliesP D s.log[k] ∧ appD D s.log[k] = T := by
  have h3 := all_step (log := s.log) (l := []) (by rw [hs.1]) k hk
  have e1 : atN s.log k = k := by unfold atN; omega
  have e2 : atN s.log ((k : Int) + 1) = k + 1 := by unfold atN; omega
  unfold BoxesRel boxesAtD at h h2
  rw [e1] at h
  rw [e2] at h2
  rw [h, h2] at h3
  exact ⟨by rw [← h]; exact allD_keep _ _ boxesP_nil, h3.1, h3.2.symm⟩
end Go.Proofs.YtjcnhkmhcfmoeaaGreat
