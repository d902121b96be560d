/-
  A small store that can be read; the contracts in its words.
-/
import Derived.Test.YtjcnhkmhcfmoeaaGreatXDrB
import Derived.Test.YtjcnhkmhcfmoeaaGreatXOps
import Derived.Test.YtjcnhkmhcfmoeaaGreatXKeep
import Derived.Test.YtjcnhkmhcfmoeaaGreatXLaw
import Derived.Test.YtjcnhkmhcfmoeaaGreatWSameStore
namespace Go.Proofs.YtjcnhkmhcfmoeaaGreat
open Go.RowKit
set_option linter.unusedVariables false
set_option linter.unusedSimpArgs false

theorem same_ext {w w' : World} (h : w' = w) : Ext w w' := h ▸ Below.refl _ _
structure Sq (w : World) (ba : Option Addr) (bc : Nat) (zs : List PBox) (la : Option Addr) (lc : Nat) (lg : List DCommit) : Prop where
  rd : Rd w ba bc 4 zs.length (zs.flatMap PBox.cells)
  rdm : RdM w zs
  rl : Rd w la lc 6 lg.length (lg.flatMap DCommit.cells)
  len : zs.length ≤ 5
  sm : SmB 6 zs
  ll : lg.length ≤ 320
  sl : SmL lg
theorem Sq.ext {w w' : World} {ba la : Option Addr} {bc lc : Nat} {zs : List PBox} {lg : List DCommit} (h : Sq w ba bc zs la lc lg) (hb : Ext w w') : Sq w' ba bc zs la lc lg := ⟨h.rd.ext hb, h.rdm.ext hb, h.rl.ext hb, h.len, h.sm, h.ll, h.sl⟩
theorem OwnRt.sq {w : World} {B E EM EC : Nat} {ba la : Option Addr} {bc lc : Nat} {zs : List PBox} {lg : List DCommit} (h : OwnRt w B E EM EC ba bc zs la lc lg) (hz : zs.length ≤ 5) (hs : SmB 6 zs) (hl : lg.length ≤ 320) (hg : SmL lg) : Sq w ba bc zs la lc lg := ⟨h.rs.rd, h.rs.rdm, Rd.of_Own h.log, hz, hs, hl, hg⟩
theorem empty_size {x : ByteArray} (h : x = ⟨#[]⟩) : x.size ≤ 41 := by rw [h]; decide
theorem commit_small {m : DCommit} (h : CommitP m) : m.name.size ≤ 41 ∧ m.text.size ≤ 41 := by
  obtain ⟨hv, hk⟩ := h
  rcases hk with ⟨-, hn, -, -, ht⟩ | ⟨-, -, -, -, hn, ht⟩ | ⟨-, hn, -, -, ht⟩ | ⟨-, ⟨-, -, ht⟩, hn⟩ | ⟨-, -, hn, ht⟩ | ⟨-, -, -, hn, ht⟩
  · exact ⟨Nat.le_trans hn.2.2 (by omega), empty_size ht⟩
  · exact ⟨empty_size hn, empty_size ht⟩
  · exact ⟨Nat.le_trans hn.2.2 (by omega), empty_size ht⟩
  · exact ⟨empty_size hn, by omega⟩
  · exact ⟨empty_size hn, empty_size ht⟩
  · exact ⟨empty_size hn, empty_size ht⟩
theorem storeP_smL {s : DStore} (h : StoreP s) : SmL s.log := fun y hy => by
  obtain ⟨i, hi, rfl⟩ := List.mem_iff_getElem.1 hy
  have h1 := all_step (log := s.log) (l := []) (by rw [h.1]) i hi
  exact commit_small h1.1.2.1
theorem storeP_small {s : DStore} {zs : List PBox} (h : StoreP s) (hz : zs.map PBox.box = s.boxes) : zs.length ≤ 5 ∧ SmB 6 zs := by
  have hq := (boxes_iff _).1 (storeP_boxes h)
  refine ⟨by have h1 := map_len hz; have := hq.2.2.2; omega, smD_map.1 (by rw [hz]; intro y hy; obtain ⟨q1, q2, q3, q4, q5⟩ := hq.1 y hy; exact ⟨Nat.le_trans q1.2.2 (by omega), q4, fun t ht => Nat.le_trans (q5.1 t ht).2.2 (by omega)⟩)⟩
theorem OwnSt.sq {w w0 : World} {B E EM EC q q2 : Nat} {g g2 : Option Addr} {z2 : List PBox} {rs : DStore} (h : OwnSt w B E EM EC g q z2 g2 q2 rs.log) (hz : z2.map PBox.box = rs.boxes) {zs : List PBox} {ba la : Option Addr} {bc lc : Nat} {lg : List DCommit} {gv : Int} (h0 : Sq w0 ba bc zs la lc lg) (hr : rs = ⟨zs.map PBox.box, lg, gv⟩ ∨ StoreP rs) : Sq w g q z2 g2 q2 rs.log := by
  rcases hr with rfl | hr
  · have h1 : z2.length = zs.length := by have := congrArg List.length hz; simpa using this
    exact ⟨h.box.rd, h.box.rdm, Rd.of_Own h.log, by have := h0.len; omega, smD_map.1 (by rw [hz]; exact smD_map.2 h0.sm), h0.ll, h0.sl⟩
  · obtain ⟨h1, h2⟩ := storeP_small hr hz
    exact ⟨h.box.rd, h.box.rdm, Rd.of_Own h.log, h1, h2, Nat.le_trans hr.2.1 (by omega), storeP_smL hr⟩
theorem specStoreOk_sq (zs : List PBox) (ba : Option Addr) (bc : Nat) (lg : List DCommit) (la : Option Addr) (lc : Nat) (gv : Int) (w : World) (h : Sq w ba bc zs la lc lg) (r : Bool) (Hr : Hid (Tells r (StoreP ⟨zs.map PBox.box, lg, gv⟩))) : Calls Tryz.prog 19 #[.agg #[.slice ba zs.length bc, .slice la lg.length lc, .int .i64 gv]] w fun e w' => e = .returned (.bool r) ∧ Ext w w' :=
  specStoreOk_any zs ba bc lg la lc gv w h.rd h.rdm h.rl (by have := h.len; omega) (fun y hy => by have := (h.sm y hy).2.1; omega) (by have := h.ll; omega) (fun y hy => by have := (h.sm y hy).1; omega) (fun y hy t ht => by have := (h.sm y hy).2.2 t ht; omega) (fun y hy => by have := h.sl y hy; exact ⟨by omega, by omega⟩) r Hr
theorem specSameStore_sq (zs : List PBox) (ba : Option Addr) (bc : Nat) (lg : List DCommit) (la : Option Addr) (lc : Nat) (gv : Int) (z2 : List PBox) (b2 : Option Addr) (c2 : Nat) (l2 : List DCommit) (a2 : Option Addr) (d2 : Nat) (v2 : Int) (w : World) (h : Sq w ba bc zs la lc lg) (k : Sq w b2 c2 z2 a2 d2 l2) (r : Bool) (Hr : Hid (decide (zs.map PBox.box = z2.map PBox.box ∧ lg = l2 ∧ gv = v2) = r)) : Calls Tryz.prog 16 #[.agg #[.slice ba zs.length bc, .slice la lg.length lc, .int .i64 gv], .agg #[.slice b2 z2.length c2, .slice a2 l2.length d2, .int .i64 v2]] w fun e w' => e = .returned (.bool r) ∧ Ext w w' :=
  specSameStore_any zs ba bc lg la lc gv z2 b2 c2 l2 a2 d2 v2 w h.rd h.rdm h.rl k.rd k.rdm k.rl r Hr
end Go.Proofs.YtjcnhkmhcfmoeaaGreat
