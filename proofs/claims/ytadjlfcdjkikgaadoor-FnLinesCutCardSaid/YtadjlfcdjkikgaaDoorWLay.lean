/-
  The reference's mailboxes without one, and with one more at its place.
-/
import Derived.Test.YtadjlfcdjkikgaaDoorXSort
import Derived.Test.YtadjlfcdjkikgaaDoorWCopies
import Derived.Test.YtadjlfcdjkikgaaDoorXOwn
import Derived.IntWalk
namespace Go.Proofs.YtadjlfcdjkikgaaDoor
open Go.RowKit
set_option linter.unusedVariables false
set_option linter.unusedSimpArgs false

/-- mailboxes of the call's own in a new row -/
theorem OwnBs.make {w w2 : World} {B E EM q : Nat} {g : Option Addr} {m : List PBox} (hm : ∀ z ∈ m, Own w B EM 3 (.slice z.ma z.msgs.length z.mc) z.msgs.length (z.msgs.flatMap DMsg.cells)) (hp : (m.map PBox.key).Pairwise Off2) (hb : Ext w w2)
    (hrow : Own w2 w.heap.size E 4 (.slice g m.length q) m.length (m.flatMap PBox.cells)) (hB : B ≤ w.heap.size) : OwnBs w2 B E EM g q m := by
  refine ⟨hrow.le hB, fun z hz => (hm z hz).ext hb, fun v hv => ?_, hp⟩
  obtain ⟨z, hz, rfl⟩ := List.mem_map.1 hv
  exact Off2.of (hm z hz) hrow (Nat.le_refl _)
set_option maxRecDepth 100000 in
set_option maxHeartbeats 4000000 in
theorem without_any (l : List PBox) (a : Option Addr) (c i : Nat) (w : World) (R : Rd w a c 4 l.length (l.flatMap PBox.cells)) (hi : i < l.length) (hl : l.length ≤ 1048576) :
    Calls Tryd.prog 100 #[.slice a l.length c, .int .i64 i] w fun e w' => ∃ g q, e = .returned (.slice g (l.eraseIdx i).length q) ∧ Own w' w.heap.size 85 4 (.slice g (l.eraseIdx i).length q) (l.eraseIdx i).length ((l.eraseIdx i).flatMap PBox.cells) ∧ Ext w w' := by
  obtain ⟨i0, hi0, hz0, hz1, hz2⟩ := info_parts info_Box
  have HR := Lib.hid R
  clear R
  obtain ⟨b, o, rfl, hbb, -⟩ := HR.out.ptr (by omega)
  have HR1 := Lib.hid (HR.out.takeAt PBox.cells_len i (by omega))
  have HR2 := Lib.hid (Rd.dropAt (A := if c = i + 1 then some ⟨b, o, none⟩ else some ⟨b, o + (i + 1) * 4, none⟩) PBox.cells_len HR.out (i + 1) (by omega) (fun hlt => by rw [if_neg (by have := HR.out.nc; omega)]) _ _ rfl rfl)
  have hnc := HR.out.nc
  have hcm := HR.out.cm
  have hr : (l.take i).flatMap PBox.cells ++ (l.drop (i + 1)).flatMap PBox.cells = (l.eraseIdx i).flatMap PBox.cells := by
    rw [List.eraseIdx_eq_take_drop_succ, List.flatMap_append]
  have HRR := Lib.hid hr
  have hl2 : i + (l.length - (i + 1)) = (l.eraseIdx i).length := by rw [List.length_eraseIdx, if_pos hi]; omega
  have HLL := Lib.hid hl2
  clear hr hl2
  have h1 : (0 : Int) ≤ (i : Int) := by omega
  have h2 : (0 : Int) ≤ (i : Int) + 1 := by omega
  have h3 : ((i : Int) + 1).toNat = i + 1 := by omega
  have h4 : (i : Int) + 1 ≤ (l.length : Int) := by omega
  have h5 : (i : Int) ≤ (l.length : Int) := by omega
  have h6 : (i : Int) ≤ (c : Int) := by omega
  have h7 : (l.length : Int) ≤ (c : Int) := by omega
  have h10 : IntKind.i64.wrap ((i : Int) + 1) = (i : Int) + 1 := IntWalk.i64_in _ (by omega)
  go_enter Tryd.func100, Tryd.ntmps100
  go_wp2_with fail
  go_region_held3 (fun w' => SK w.heap.size w w') (first | exact SK.beg _ _ (Nat.le_refl _) | exact SK.alloc (by assumption) _ | (refine SK.foot (by assumption) (Own.none0 (B := w.heap.size) (s := 4) (E := 85) _) (by omega) (by assumption)) | (refine SK.foot (by assumption) (by assumption) (by omega) (by assumption))) ((first | (refine step_app (B := w.heap.size) (n := 0) (xs := []) (v := .slice (some ⟨w.heap.size, 0, none⟩) 0 0) rfl (.tmp 5) (.tmp 8) 95 rfl 85 i0 _ _ Tryd.underlying95 hi0 hz0 hz1 hz2 rfl (by decide) (by simp [Act.eval, Act.put]) (Own.none0 _) (some ⟨b, o, none⟩) i c _ (by simp [Act.eval, Act.put]) (HR1.out.ext bxt) (one_flat PBox.one _) (by omega) (by omega) (by simp) ?_; intro g3 q3 w5 hown3 hg3; simp only [Nat.zero_add, List.nil_append] at hown3; have hb5 := grown_below (show World.grownBy _ w5 none from hg3); have hz5 := hb5.size; (try simp at hz5)) | (refine step_app (B := w.heap.size) (v := .slice g3 i q3) rfl (.tmp 9) (.tmp 13) 95 rfl 85 i0 _ _ Tryd.underlying95 hi0 hz0 hz1 hz2 rfl (by decide) (by simp [Act.eval, Act.put]) hown3 (if c = i + 1 then (some ⟨b, o, none⟩) else some ⟨b, o + (i + 1) * 4, none⟩) (l.length - (i + 1)) (c - (i + 1)) _ (by simp [Act.eval, Act.put]) (HR2.out.ext bxt) (one_flat PBox.one _) (by omega) (by omega) (by omega) ?_; intro g2 q2 w6 hown4 hg4)))
  have hbel : Below w.heap.size w w6 := below_foot (B := w.heap.size) (show Below w.heap.size w w5 from bxt) hown3 (by omega) (by omega) hg4
  rw [HRR.out, HLL.out] at hown4
  rw [HLL.out]
  have H4 := Lib.hid hown4
  clear hown3 hown4 hg4
  generalize (if c = i + 1 then (some ⟨b, o, none⟩ : Option Addr) else some ⟨b, o + (i + 1) * 4, none⟩) = AD
  go_wp2_with fail
  go_ret
  exact ⟨g2, q2, rfl, H4.out, hbel⟩

def layAt (l : List PBox) (n : ByteArray) : Nat := (l.takeWhile fun x => nameLt x.name n).length
def layP (l : List PBox) (x : PBox) : List PBox := l.take (layAt l x.name) ++ [x] ++ l.drop (layAt l x.name)
theorem layAt_eq {l : List PBox} {n : ByteArray} {k : Nat} (hk : k ≤ l.length) (h1 : ∀ j (hj : j < l.length), j < k → nameLt l[j].name n = true) (h2 : ∀ hl : k < l.length, nameLt l[k].name n = false) : layAt l n = k := by
  unfold layAt
  induction l generalizing k with
  | nil => simp at hk; simp [hk]
  | cons y l ih =>
    cases k with
    | zero =>
      have := h2 (by simp)
      simp only [List.getElem_cons_zero] at this
      rw [List.takeWhile_cons_of_neg (by simp [this])]; rfl
    | succ k =>
      have h3 := h1 0 (by simp) (by omega)
      simp only [List.getElem_cons_zero] at h3
      rw [List.takeWhile_cons_of_pos (by simp [h3]), List.length_cons]
      rw [ih (k := k) (by simpa using hk) (fun j hj hjk => by have := h1 (j + 1) (by simp; omega) (by omega); simpa using this) (fun hl => by have := h2 (by simp; omega); simpa using this)]
set_option maxRecDepth 100000 in
set_option maxHeartbeats 8000000 in
theorem lay_any (l : List PBox) (b o c : Nat) (x : PBox) (w : World) (R : Rd w (some ⟨b, o, none⟩) c 4 l.length (l.flatMap PBox.cells)) (hl : l.length ≤ 1048576) :
    Calls Tryd.prog 99 #[.slice (some ⟨b, o, none⟩) l.length c, .agg #[.string x.name, .int .i64 x.validity, .int .i64 x.next, .slice x.ma x.msgs.length x.mc]] w fun e w' => ∃ g q, e = .returned (.slice g (layP l x).length q) ∧ Own w' w.heap.size 85 4 (.slice g (layP l x).length q) (layP l x).length ((layP l x).flatMap PBox.cells) ∧ Ext w w' := by
  obtain ⟨i0, hi0, hz0, hz1, hz2⟩ := info_parts info_Box
  have hnc := R.nc
  have hcm := R.cm
  have HR := Lib.hid R
  clear R
  go_enter Tryd.func99, Tryd.ntmps99
  go_wp2_with fail
  go_loopw [5] (fun i wr => ∃ k : Nat, k ≤ l.length ∧ i = .int .i64 k ∧ Hid (∀ j (hj : j < l.length), j < k → nameLt l[j].name x.name = true) ∧ Hid (∃ n, wr = (w.alloc (.cells #[.string x.name, .int .i64 x.validity, .int .i64 x.next, .slice x.ma x.msgs.length x.mc] 85)).drewN n)) (fun i _ => l.length - (intOf i).toNat)
  case atStart => exact ⟨0, Nat.zero_le _, rfl, fun _ _ h => by omega, ⟨0, rfl⟩⟩
  case round =>
    obtain ⟨k, hk, rfl, HP, HB⟩ := hrel
    obtain ⟨nq0, hw0⟩ := HB.out
    subst hw0
    by_cases hgo : ∃ h : k < l.length, nameLt l[k].name x.name = true
    · obtain ⟨hlt, hless⟩ := hgo
      obtain ⟨b', o', hbo, hbb, hat⟩ := HR.out.ptr (by omega)
      cases hbo
      obtain ⟨x0, x1, x2, x3⟩ := PBox.at hat k hlt
      have HA := Lib.hid hat
      have hl1 : Op.bytesLess l[k].name.toList x.name.toList = true := hless
      have HLS := Lib.hid hless
      clear hat hless
      go_wp2_with fail
      go_quiet (fail)
      go_wp2_with fail
      go_roundw
      case rel => exact ⟨k + 1, by omega, by go_num, fun j hj hjk => (Nat.lt_or_ge j k).elim (fun h => HP.out j hj h) (fun h => by (obtain rfl : j = k := by omega); exact HLS.out), ⟨_, rfl⟩⟩
      case measure => simp [intOf]; omega
    · have hat0 : layAt l x.name = k := layAt_eq hk HP.out (fun hl => by
        cases hv : nameLt l[k].name x.name with
        | false => rfl
        | true => exact absurd ⟨hl, hv⟩ hgo)
      have HLA := Lib.hid hat0
      clear hat0
      have HR1 := Lib.hid (HR.out.takeAt PBox.cells_len k hk)
      have h1 : (0 : Int) ≤ (k : Int) := by omega
      have h5 : (k : Int) ≤ (l.length : Int) := by omega
      have h6 : (k : Int) ≤ (c : Int) := by omega
      have h7 : (l.length : Int) ≤ (c : Int) := by omega
      have HR2 := Lib.hid (Rd.dropAt (A := if c = k then (some ⟨b, o, none⟩ : Option Addr) else some ⟨b, o + k * 4, none⟩) PBox.cells_len HR.out k hk (fun hlt => by rw [if_neg (by omega)]) _ _ rfl rfl)
      by_cases hlt : k < l.length
      · have hless : Op.bytesLess l[k].name.toList x.name.toList = false := by
          cases hv : nameLt l[k].name x.name with
          | false => exact hv
          | true => exact absurd ⟨hlt, hv⟩ hgo
        clear hgo
        have HR3 := Lib.hid (Rd.dropAt (A := some ⟨b, o + k * 4, none⟩) PBox.cells_len HR.out k hk (fun hlt => rfl) _ _ rfl rfl)
        obtain ⟨b', o', hbo, hbb, hat⟩ := HR.out.ptr (by omega)
        cases hbo
        obtain ⟨x0, x1, x2, x3⟩ := PBox.at hat k hlt
        have HA := Lib.hid hat
        clear hat
        go_wp2_with fail
        go_quiet (fail)
        go_upto_region 4 with fail
        refine wp_world (fun W hW => ?_)
        have hwW : Ext w W := by (rw [hW]; exact bxt)
        have bx0 : W.cell? ⟨w.heap.size, 0, none⟩ = some (.string x.name) := by (rw [hW]; simp [go_sem])
        have bx1 : W.cell? ⟨w.heap.size, 1, none⟩ = some (.int .i64 x.validity) := by (rw [hW]; simp [go_sem])
        have bx2 : W.cell? ⟨w.heap.size, 2, none⟩ = some (.int .i64 x.next) := by (rw [hW]; simp [go_sem])
        have bx3 : W.cell? ⟨w.heap.size, 3, none⟩ = some (.slice x.ma x.msgs.length x.mc) := by (rw [hW]; simp [go_sem])
        have sW : w.heap.size < W.heap.size := by (rw [hW]; simp)
        clear hW
        first
          | go_region_law (first | (refine step_app (B := w.heap.size) (n := 0) (xs := []) (v := _) rfl (.tmp 23) (.tmp 26) 95 rfl 85 i0 _ _ Tryd.underlying95 hi0 hz0 hz1 hz2 rfl (by decide) rfl (Own.none0 _) (some ⟨b, o, none⟩) k c _ rfl (HR1.out.ext bxt) (one_flat PBox.one _) (by omega) (by omega) smx ?_; intro g3 q3 w5 hown3 hg3; simp only [Nat.zero_add, List.nil_append] at hown3; have hb5 := grown_below (show World.grownBy _ w5 none from hg3); have hz5 := hb5.size; (try simp at hz5); have ce0_0 : w5.cell? ⟨w.heap.size, 0, none⟩ = some (.string x.name) := (hb5.cell (p := ⟨w.heap.size, 0, none⟩) smx).trans kpx; have ce0_1 : w5.cell? ⟨w.heap.size, 1, none⟩ = some (.int .i64 x.validity) := (hb5.cell (p := ⟨w.heap.size, 1, none⟩) smx).trans kpx; have ce0_2 : w5.cell? ⟨w.heap.size, 2, none⟩ = some (.int .i64 x.next) := (hb5.cell (p := ⟨w.heap.size, 2, none⟩) smx).trans kpx; have ce0_3 : w5.cell? ⟨w.heap.size, 3, none⟩ = some (.slice x.ma x.msgs.length x.mc) := (hb5.cell (p := ⟨w.heap.size, 3, none⟩) smx).trans kpx; have se0 : w.heap.size < w5.heap.size := (by have hss := hb5.size; first | omega | (simp at hss; omega))) | (refine step_app (B := w.heap.size) (v := .slice g3 k q3) (n := k) (xs := (l.take k).flatMap PBox.cells) (s := 4) rfl (.tmp 27) (.tmp 29) 95 rfl 85 i0 _ _ Tryd.underlying95 hi0 hz0 hz1 hz2 rfl (by decide) rfl (by repeat' (first | with_reducible exact hown3 | with_reducible refine Own.set_below ?_ smx _ | with_reducible refine Own.alloc1 ?_ _ | with_reducible refine Own.drew1 ?_ | with_reducible refine Own.drewN1 ?_ | with_reducible refine Own.ext ?_ (by assumption))) _ 1 1 [.string x.name, .int .i64 x.validity, .int .i64 x.next, .slice x.ma x.msgs.length x.mc] rfl (by first | exact (Rd.lit w5 #[.string x.name, .int .i64 x.validity, .int .i64 x.next, .slice x.ma x.msgs.length x.mc] 85 1 4 w5.heap.size rfl rfl (by omega)) | exact ((Rd.lit (W.drew.alloc (.cells #[] 85)) #[.string x.name, .int .i64 x.validity, .int .i64 x.next, .slice x.ma x.msgs.length x.mc] 85 1 4 (W.heap.size + 1) (by simp) rfl (by omega)).ext hb5) | exact (((Rd.lit W.drew #[.string x.name, .int .i64 x.validity, .int .i64 x.next, .slice x.ma x.msgs.length x.mc] 85 1 4 W.heap.size rfl rfl (by omega)).ext ((Below.refl _ _).alloc (Nat.le_refl _) _)).ext hb5)) (by simp [Value.oneCell']) (by omega) (by omega) smx ?_; intro g2 q2 w6 hown4 hg4; have hb6 : Below w.heap.size w w6 := below_foot (B := w.heap.size) (show Below w.heap.size w _ from bxt) (show Own _ w.heap.size 85 4 (.slice g3 k q3) k ((l.take k).flatMap PBox.cells) from (by repeat' (first | with_reducible exact hown3 | with_reducible refine Own.set_below ?_ smx _ | with_reducible refine Own.alloc1 ?_ _ | with_reducible refine Own.drew1 ?_ | with_reducible refine Own.drewN1 ?_ | with_reducible refine Own.ext ?_ (by assumption)))) (Nat.le_refl _) smx hg4; have hz6 : w.heap.size ≤ w6.heap.size := hb6.size))
          | fail
        all_goals
          have HO6 := Lib.hid hown4
          clear hown3 hown4 hg4
          go_wp2_with (go_loud (at_builtin; refine wpList_app (B := w.heap.size) (v := .slice g2 (k + 1) q2) (n := k + 1) (s := 4) rfl _ _ _ rfl 85 i0 _ _ Tryd.underlying95 hi0 hz0 hz1 hz2 rfl (by decide) rfl HO6.out (some ⟨b, o + k * 4, none⟩) (l.length - k) (c - k) _ rfl (HR3.out.ext bxt) (one_flat PBox.one _) (by omega) (by omega) smx ?_; intro g7 q7 w7 hown7 hg7; have hb7 : Below w.heap.size w w7 := below_foot (B := w.heap.size) (show Below w.heap.size w _ from bxt) HO6.out (Nat.le_refl _) smx hg7; have H7 := Lib.hid hown7; clear hown7 hg7))
          all_goals have HL : k + 1 + (l.length - k) = (layP l x).length := by (unfold layP; rw [HLA.out]; simp [Nat.min_eq_left hk]; omega)
          all_goals have HC : (l.take k).flatMap PBox.cells ++ [.string x.name, .int .i64 x.validity, .int .i64 x.next, .slice x.ma x.msgs.length x.mc] ++ (l.drop k).flatMap PBox.cells = (layP l x).flatMap PBox.cells := by (unfold layP; rw [HLA.out]; simp [PBox.cells])
          all_goals go_ret
          all_goals (have h9 := H7.out; rw [HL, HC] at h9)
          all_goals exact ⟨g7, q7, by (rw [HL]; try rfl), h9, hb7⟩
      · have hlt2 : decide ((k : Int) < (l.length : Int)) = false := decide_eq_false (by omega)
        have hlt3 : decide (k < l.length) = false := decide_eq_false hlt
        clear hgo hlt
        go_wp2_with fail
        go_quiet (fail)
        go_upto_region 4 with fail
        refine wp_world (fun W hW => ?_)
        have hwW : Ext w W := by (rw [hW]; exact bxt)
        have bx0 : W.cell? ⟨w.heap.size, 0, none⟩ = some (.string x.name) := by (rw [hW]; simp [go_sem])
        have bx1 : W.cell? ⟨w.heap.size, 1, none⟩ = some (.int .i64 x.validity) := by (rw [hW]; simp [go_sem])
        have bx2 : W.cell? ⟨w.heap.size, 2, none⟩ = some (.int .i64 x.next) := by (rw [hW]; simp [go_sem])
        have bx3 : W.cell? ⟨w.heap.size, 3, none⟩ = some (.slice x.ma x.msgs.length x.mc) := by (rw [hW]; simp [go_sem])
        have sW : w.heap.size < W.heap.size := by (rw [hW]; simp)
        clear hW
        first
          | go_region_law (first | (refine step_app (B := w.heap.size) (n := 0) (xs := []) (v := _) rfl (.tmp 23) (.tmp 26) 95 rfl 85 i0 _ _ Tryd.underlying95 hi0 hz0 hz1 hz2 rfl (by decide) rfl (Own.none0 _) (some ⟨b, o, none⟩) k c _ rfl (HR1.out.ext bxt) (one_flat PBox.one _) (by omega) (by omega) smx ?_; intro g3 q3 w5 hown3 hg3; simp only [Nat.zero_add, List.nil_append] at hown3; have hb5 := grown_below (show World.grownBy _ w5 none from hg3); have hz5 := hb5.size; (try simp at hz5); have ce0_0 : w5.cell? ⟨w.heap.size, 0, none⟩ = some (.string x.name) := (hb5.cell (p := ⟨w.heap.size, 0, none⟩) smx).trans kpx; have ce0_1 : w5.cell? ⟨w.heap.size, 1, none⟩ = some (.int .i64 x.validity) := (hb5.cell (p := ⟨w.heap.size, 1, none⟩) smx).trans kpx; have ce0_2 : w5.cell? ⟨w.heap.size, 2, none⟩ = some (.int .i64 x.next) := (hb5.cell (p := ⟨w.heap.size, 2, none⟩) smx).trans kpx; have ce0_3 : w5.cell? ⟨w.heap.size, 3, none⟩ = some (.slice x.ma x.msgs.length x.mc) := (hb5.cell (p := ⟨w.heap.size, 3, none⟩) smx).trans kpx; have se0 : w.heap.size < w5.heap.size := (by have hss := hb5.size; first | omega | (simp at hss; omega))) | (refine step_app (B := w.heap.size) (v := .slice g3 k q3) (n := k) (xs := (l.take k).flatMap PBox.cells) (s := 4) rfl (.tmp 27) (.tmp 29) 95 rfl 85 i0 _ _ Tryd.underlying95 hi0 hz0 hz1 hz2 rfl (by decide) rfl (by repeat' (first | with_reducible exact hown3 | with_reducible refine Own.set_below ?_ smx _ | with_reducible refine Own.alloc1 ?_ _ | with_reducible refine Own.drew1 ?_ | with_reducible refine Own.drewN1 ?_ | with_reducible refine Own.ext ?_ (by assumption))) _ 1 1 [.string x.name, .int .i64 x.validity, .int .i64 x.next, .slice x.ma x.msgs.length x.mc] rfl (by first | exact (Rd.lit w5 #[.string x.name, .int .i64 x.validity, .int .i64 x.next, .slice x.ma x.msgs.length x.mc] 85 1 4 w5.heap.size rfl rfl (by omega)) | exact ((Rd.lit (W.drew.alloc (.cells #[] 85)) #[.string x.name, .int .i64 x.validity, .int .i64 x.next, .slice x.ma x.msgs.length x.mc] 85 1 4 (W.heap.size + 1) (by simp) rfl (by omega)).ext hb5) | exact (((Rd.lit W.drew #[.string x.name, .int .i64 x.validity, .int .i64 x.next, .slice x.ma x.msgs.length x.mc] 85 1 4 W.heap.size rfl rfl (by omega)).ext ((Below.refl _ _).alloc (Nat.le_refl _) _)).ext hb5)) (by simp [Value.oneCell']) (by omega) (by omega) smx ?_; intro g2 q2 w6 hown4 hg4; have hb6 : Below w.heap.size w w6 := below_foot (B := w.heap.size) (show Below w.heap.size w _ from bxt) (show Own _ w.heap.size 85 4 (.slice g3 k q3) k ((l.take k).flatMap PBox.cells) from (by repeat' (first | with_reducible exact hown3 | with_reducible refine Own.set_below ?_ smx _ | with_reducible refine Own.alloc1 ?_ _ | with_reducible refine Own.drew1 ?_ | with_reducible refine Own.drewN1 ?_ | with_reducible refine Own.ext ?_ (by assumption)))) (Nat.le_refl _) smx hg4; have hz6 : w.heap.size ≤ w6.heap.size := hb6.size))
          | fail
        all_goals
          have HO6 := Lib.hid hown4
          clear hown3 hown4 hg4
          go_wp2_with (go_loud (at_builtin; refine wpList_app (B := w.heap.size) (v := .slice g2 (k + 1) q2) (n := k + 1) (s := 4) rfl _ _ _ rfl 85 i0 _ _ Tryd.underlying95 hi0 hz0 hz1 hz2 rfl (by decide) rfl HO6.out (if c = k then (some ⟨b, o, none⟩ : Option Addr) else some ⟨b, o + k * 4, none⟩) (l.length - k) (c - k) _ rfl (HR2.out.ext bxt) (one_flat PBox.one _) (by omega) (by omega) smx ?_; intro g7 q7 w7 hown7 hg7; have hb7 : Below w.heap.size w w7 := below_foot (B := w.heap.size) (show Below w.heap.size w _ from bxt) HO6.out (Nat.le_refl _) smx hg7; have H7 := Lib.hid hown7; clear hown7 hg7))
          all_goals have HL : k + 1 + (l.length - k) = (layP l x).length := by (unfold layP; rw [HLA.out]; simp [Nat.min_eq_left hk]; omega)
          all_goals have HC : (l.take k).flatMap PBox.cells ++ [.string x.name, .int .i64 x.validity, .int .i64 x.next, .slice x.ma x.msgs.length x.mc] ++ (l.drop k).flatMap PBox.cells = (layP l x).flatMap PBox.cells := by (unfold layP; rw [HLA.out]; simp [PBox.cells])
          all_goals go_ret
          all_goals (have h9 := H7.out; rw [HL, HC] at h9)
          all_goals exact ⟨g7, q7, by (rw [HL]; try rfl), h9, hb7⟩
end Go.Proofs.YtadjlfcdjkikgaaDoor
