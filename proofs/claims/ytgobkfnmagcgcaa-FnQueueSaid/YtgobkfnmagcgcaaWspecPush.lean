/-
  A note pushed into a queue: the reference's function.
-/
import Derived.Test.YtgobkfnmagcgcaaWOnly
import Derived.Test.YtgobkfnmagcgcaaWCopyQueue
import Derived.Test.YtgobkfnmagcgcaaWQueueOk
namespace Go.Proofs.Ytgobkfnmagcgcaa
open Go.RowKit
set_option linter.unusedVariables false
set_option linter.unusedSimpArgs false

instance (s : ByteArray) : Decidable (NameP s) := by unfold NameP LetterP; infer_instance
instance (n : DNote) : Decidable (NoteP n) := by unfold NoteP; infer_instance
instance (rb rc : Bool) (l : List DNote) (i : Nat) : Decidable (NoteAt rb rc l i) := by unfold NoteAt; infer_instance
instance (l : List DNote) (rb rc : Bool) : Decidable (QueueP l rb rc) := by unfold QueueP; infer_instance
structure DQueue where
  notes : List DNote
  resync : Bool
  lost : Bool
def lastIs (l : List DNote) (n : DNote) : Prop := ∃ h : 0 < l.length, l[l.length - 1].kind = 1 ∧ l[l.length - 1].uid = n.uid ∧ n.uid ≠ 0
instance (l : List DNote) (n : DNote) : Decidable (lastIs l n) := by unfold lastIs; infer_instance
/-- a queue behind a note -/
def pushQ (l : List DNote) (rb rc : Bool) (n : DNote) : DQueue :=
  if ¬ QueueP l rb rc then ⟨l, rb, rc⟩
  else if ¬ NoteP n then ⟨l, rb, rc⟩
  else if n.kind = 1 then
    if l.any (boxIn n.n) = true then ⟨l, rb, rc⟩
    else if rb = true then ⟨l, rb, rc⟩
    else if lastIs l n then ⟨l.set (l.length - 1) n, rb, rc⟩
    else if l.length = 6 then ⟨l.filter (onlyIs false), true, rc⟩
    else ⟨l ++ [n], rb, rc⟩
  else if rc = true then ⟨l, rb, rc⟩
  else if n.kind = 2 ∧ l.any (statusIn n.name) = true then ⟨l, rb, rc⟩
  else if l.length = 6 then ⟨l.filter (onlyIs true), rb, true⟩
  else ⟨l ++ [n], rb, rc⟩
theorem pushQ_len (l : List DNote) (rb rc : Bool) (n : DNote) : (pushQ l rb rc n).notes.length ≤ l.length + 1 := by
  unfold pushQ
  repeat' split
  all_goals simp
  all_goals (first | (have := List.length_filter_le (onlyIs false) l; omega) | (have := List.length_filter_le (onlyIs true) l; omega))
def PushPost (E : Nat) (d : DQueue) (w : World) (e : Ending) (w' : World) : Prop :=
  ∃ g q, e = .returned (.agg #[.slice g d.notes.length q, .bool d.resync, .bool d.lost]) ∧ Own w' w.heap.size E 4 (.slice g d.notes.length q) d.notes.length (d.notes.flatMap DNote.cells) ∧ Ext w w'

theorem lastIs_iff {l : List DNote} {n : DNote} {K : Nat} (hKl : K < l.length) (hK : l.length = K + 1) : lastIs l n ↔ (l[K].kind = 1 ∧ l[K].uid = n.uid ∧ n.uid ≠ 0) := by
  obtain rfl : K = l.length - 1 := by omega
  unfold lastIs
  exact ⟨fun ⟨_, h⟩ => h, fun h => ⟨by omega, h⟩⟩

set_option maxRecDepth 100000 in
set_option maxHeartbeats 4000000 in
theorem specPush_q (l : List DNote) (a : Option Addr) (c : Nat) (rb rc : Bool) (n : DNote) (w : World) (R : Rd w a c 4 l.length (l.flatMap DNote.cells)) (hl : l.length ≤ 1048576) (hn : ∀ y ∈ l, y.name.size ≤ 9223372036854775807) (hs : n.name.size ≤ 9223372036854775807) (hq : ¬ QueueP l rb rc) :
    Calls Try.prog 18 #[.agg #[.slice a l.length c, .bool rb, .bool rc], .agg #[.int .i64 n.kind, .int .i64 n.n, .int .i64 n.uid, .string n.name]] w (PushPost 36 ⟨l, rb, rc⟩ w) := by
  have hcm := R.cm
  have hnc := R.nc
  have HR := Lib.hid R
  clear R
  have CL := fun W (hW : Ext w W) => l16Copy_any l a c rb rc W (HR.out.ext hW) (by omega)
  have HC := Lib.hid CL
  clear CL
  have Hsz := Lib.hid hn
  clear hn
  have HQ : Hid (Tells false (QueueP l rb rc)) := ⟨(fun h => by cases h), fun h => (hq h).elim⟩
  clear hq
  obtain ⟨dk, hdk⟩ : ∃ d, (n.kind == 1) = d := ⟨_, rfl⟩
  go_enter Try.func18, Try.ntmps18
  go_wp2_with (first | (go_at_call 56; refine (HC.out _ bxt).mono ?_; rintro e w1 ⟨g, q, rfl, hown, hb1⟩; have HO := Lib.hid (hown.le (by first | (simp; done) | (simp; omega) | omega : w.heap.size + 3 ≤ _)); clear hown; obtain ⟨hc1, hf1⟩ := bcell hb1; have hz1 := hb1.size; (try simp at hz1); have s1_0 : w.heap.size < w1.heap.size := (by omega); have s1_1 : w.heap.size + 1 < w1.heap.size := (by omega); have s1_2 : w.heap.size + 2 < w1.heap.size := (by omega)) | (go_at_call 20; refine (specQueueOk_any l a c rb rc _ (HR.out.ext bxt) Hsz.out false HQ).mono ?_; rintro e w2 ⟨rfl, hb2⟩; obtain ⟨hc2, hf2⟩ := bcell hb2; have hz2 := hb2.size; (try simp at hz2); have s2_0 : w.heap.size < w2.heap.size := (by omega); have s2_1 : w.heap.size + 1 < w2.heap.size := (by omega); have s2_2 : w.heap.size + 2 < w2.heap.size := (by omega); have s2_3 : w1.heap.size < w2.heap.size := (by omega)) | (go_at_call 21; refine (specNoteOk_any n _ hs true HQ).mono ?_; rintro e w3 ⟨rfl, hb3⟩; obtain ⟨hc3, hf3⟩ := bcell hb3; have hz3 := hb3.size; (try simp at hz3); have s3_0 : w.heap.size < w3.heap.size := (by omega); have s3_1 : w.heap.size + 1 < w3.heap.size := (by omega); have s3_2 : w.heap.size + 2 < w3.heap.size := (by omega); have s3_3 : w1.heap.size < w3.heap.size := (by omega)))
  unfold PushPost
  refine bodyPost_ret (v := .agg #[.slice g l.length q, .bool rb, .bool rc]) (by simp [results, Try.results18, go_sem, *]) rfl ⟨g, q, rfl, ?_, ?_⟩
  · refine Own.le (B := w.heap.size + 3) ?_ (by omega)
    try dsimp only
    exact (by repeat' (first | with_reducible exact HO.out | with_reducible refine Own.set_below ?_ smx _ | with_reducible refine Own.alloc1 ?_ _ | with_reducible refine Own.drew1 ?_ | with_reducible refine Own.drewN1 ?_ | with_reducible refine Own.ext ?_ (by assumption)))
  · exact bxt

set_option maxRecDepth 100000 in
set_option maxHeartbeats 4000000 in
theorem specPush_n (l : List DNote) (a : Option Addr) (c : Nat) (rb rc : Bool) (n : DNote) (w : World) (R : Rd w a c 4 l.length (l.flatMap DNote.cells)) (hl : l.length ≤ 1048576) (hn : ∀ y ∈ l, y.name.size ≤ 9223372036854775807) (hs : n.name.size ≤ 9223372036854775807) (hq : QueueP l rb rc) (hp : ¬ NoteP n) :
    Calls Try.prog 18 #[.agg #[.slice a l.length c, .bool rb, .bool rc], .agg #[.int .i64 n.kind, .int .i64 n.n, .int .i64 n.uid, .string n.name]] w (PushPost 36 ⟨l, rb, rc⟩ w) := by
  have hcm := R.cm
  have hnc := R.nc
  have HR := Lib.hid R
  clear R
  have CL := fun W (hW : Ext w W) => l16Copy_any l a c rb rc W (HR.out.ext hW) (by omega)
  have HC := Lib.hid CL
  clear CL
  have Hsz := Lib.hid hn
  clear hn
  have HQ : Hid (Tells true (QueueP l rb rc)) := ⟨fun _ => hq, fun _ => rfl⟩
  have HN : Hid (Tells false (NoteP n)) := ⟨(fun h => by cases h), fun h => (hp h).elim⟩
  clear hq hp
  go_enter Try.func18, Try.ntmps18
  go_wp2_with (first | (go_at_call 56; refine (HC.out _ bxt).mono ?_; rintro e w1 ⟨g, q, rfl, hown, hb1⟩; have HO := Lib.hid (hown.le (by first | (simp; done) | (simp; omega) | omega : w.heap.size + 3 ≤ _)); clear hown; obtain ⟨hc1, hf1⟩ := bcell hb1; have hz1 := hb1.size; (try simp at hz1); have s1_0 : w.heap.size < w1.heap.size := (by omega); have s1_1 : w.heap.size + 1 < w1.heap.size := (by omega); have s1_2 : w.heap.size + 2 < w1.heap.size := (by omega)) | (go_at_call 20; refine (specQueueOk_any l a c rb rc _ (HR.out.ext bxt) Hsz.out true HQ).mono ?_; rintro e w2 ⟨rfl, hb2⟩; obtain ⟨hc2, hf2⟩ := bcell hb2; have hz2 := hb2.size; (try simp at hz2); have s2_0 : w.heap.size < w2.heap.size := (by omega); have s2_1 : w.heap.size + 1 < w2.heap.size := (by omega); have s2_2 : w.heap.size + 2 < w2.heap.size := (by omega); have s2_3 : w1.heap.size < w2.heap.size := (by omega)) | (go_at_call 21; refine (specNoteOk_any n _ hs false HN).mono ?_; rintro e w3 ⟨rfl, hb3⟩; obtain ⟨hc3, hf3⟩ := bcell hb3; have hz3 := hb3.size; (try simp at hz3); have s3_0 : w.heap.size < w3.heap.size := (by omega); have s3_1 : w.heap.size + 1 < w3.heap.size := (by omega); have s3_2 : w.heap.size + 2 < w3.heap.size := (by omega); have s3_3 : w1.heap.size < w3.heap.size := (by omega)))
  unfold PushPost
  refine bodyPost_ret (v := .agg #[.slice g l.length q, .bool rb, .bool rc]) (by simp [results, Try.results18, go_sem, *]) rfl ⟨g, q, rfl, ?_, ?_⟩
  · refine Own.le (B := w.heap.size + 3) ?_ (by omega)
    try dsimp only
    exact (by repeat' (first | with_reducible exact HO.out | with_reducible refine Own.set_below ?_ smx _ | with_reducible refine Own.alloc1 ?_ _ | with_reducible refine Own.drew1 ?_ | with_reducible refine Own.drewN1 ?_ | with_reducible refine Own.ext ?_ (by assumption)))
  · exact bxt

set_option maxRecDepth 100000 in
set_option maxHeartbeats 4000000 in
theorem specPush_ab (l : List DNote) (a : Option Addr) (c : Nat) (rb rc : Bool) (n : DNote) (w : World) (R : Rd w a c 4 l.length (l.flatMap DNote.cells)) (hl : l.length ≤ 1048576) (hn : ∀ y ∈ l, y.name.size ≤ 9223372036854775807) (hs : n.name.size ≤ 9223372036854775807) (hq : QueueP l rb rc) (hp : NoteP n) (hk : n.kind = 1) (ha : l.any (boxIn n.n) = true) :
    Calls Try.prog 18 #[.agg #[.slice a l.length c, .bool rb, .bool rc], .agg #[.int .i64 n.kind, .int .i64 n.n, .int .i64 n.uid, .string n.name]] w (PushPost 36 ⟨l, rb, rc⟩ w) := by
  have hcm := R.cm
  have hnc := R.nc
  have HR := Lib.hid R
  clear R
  have CL := fun W (hW : Ext w W) => l16Copy_any l a c rb rc W (HR.out.ext hW) (by omega)
  have HC := Lib.hid CL
  clear CL
  have Hsz := Lib.hid hn
  clear hn
  have HQ : Hid (Tells true (QueueP l rb rc)) := ⟨fun _ => hq, fun _ => rfl⟩
  have HN : Hid (Tells true (NoteP n)) := ⟨fun _ => hp, fun _ => rfl⟩
  clear hq hp
  have k1 : (n.kind == 1) = true := by simp [hk]
  clear hk
  have HA : Hid (l.any (boxIn n.n) = !false) := ha
  clear ha
  go_enter Try.func18, Try.ntmps18
  go_wp2_with (first | (go_at_call 56; refine (HC.out _ bxt).mono ?_; rintro e w1 ⟨g, q, rfl, hown, hb1⟩; have HO := Lib.hid (hown.le (by first | (simp; done) | (simp; omega) | omega : w.heap.size + 3 ≤ _)); clear hown; obtain ⟨hc1, hf1⟩ := bcell hb1; have hz1 := hb1.size; (try simp at hz1); have s1_0 : w.heap.size < w1.heap.size := (by omega); have s1_1 : w.heap.size + 1 < w1.heap.size := (by omega); have s1_2 : w.heap.size + 2 < w1.heap.size := (by omega)) | (go_at_call 20; refine (specQueueOk_any l a c rb rc _ (HR.out.ext bxt) Hsz.out true HQ).mono ?_; rintro e w2 ⟨rfl, hb2⟩; obtain ⟨hc2, hf2⟩ := bcell hb2; have hz2 := hb2.size; (try simp at hz2); have s2_0 : w.heap.size < w2.heap.size := (by omega); have s2_1 : w.heap.size + 1 < w2.heap.size := (by omega); have s2_2 : w.heap.size + 2 < w2.heap.size := (by omega); have s2_3 : w1.heap.size < w2.heap.size := (by omega)) | (go_at_call 21; refine (specNoteOk_any n _ hs true HN).mono ?_; rintro e w3 ⟨rfl, hb3⟩; obtain ⟨hc3, hf3⟩ := bcell hb3; have hz3 := hb3.size; (try simp at hz3); have s3_0 : w.heap.size < w3.heap.size := (by omega); have s3_1 : w.heap.size + 1 < w3.heap.size := (by omega); have s3_2 : w.heap.size + 2 < w3.heap.size := (by omega); have s3_3 : w1.heap.size < w3.heap.size := (by omega)) | (go_at_call 57; refine (l16Above_any l a c rb rc n.n _ (HR.out.ext bxt) false HA).mono ?_; rintro e w4 ⟨rfl, hb4⟩; obtain ⟨hc4, hf4⟩ := bcell hb4; have hz4 := hb4.size; (try simp at hz4); have s4_0 : w.heap.size < w4.heap.size := (by omega); have s4_1 : w.heap.size + 1 < w4.heap.size := (by omega); have s4_2 : w.heap.size + 2 < w4.heap.size := (by omega); have s4_3 : w1.heap.size < w4.heap.size := (by omega)))
  unfold PushPost
  refine bodyPost_ret (v := .agg #[.slice g l.length q, .bool rb, .bool rc]) (by simp [results, Try.results18, go_sem, *]) rfl ⟨g, q, rfl, ?_, ?_⟩
  · refine Own.le (B := w.heap.size + 3) ?_ (by omega)
    try dsimp only
    exact (by repeat' (first | with_reducible exact HO.out | with_reducible refine Own.set_below ?_ smx _ | with_reducible refine Own.alloc1 ?_ _ | with_reducible refine Own.drew1 ?_ | with_reducible refine Own.drewN1 ?_ | with_reducible refine Own.ext ?_ (by assumption)))
  · exact bxt

set_option maxRecDepth 100000 in
set_option maxHeartbeats 4000000 in
theorem specPush_rs (l : List DNote) (a : Option Addr) (c : Nat) (rb rc : Bool) (n : DNote) (w : World) (R : Rd w a c 4 l.length (l.flatMap DNote.cells)) (hl : l.length ≤ 1048576) (hn : ∀ y ∈ l, y.name.size ≤ 9223372036854775807) (hs : n.name.size ≤ 9223372036854775807) (hq : QueueP l rb rc) (hp : NoteP n) (hk : n.kind = 1) (ha : l.any (boxIn n.n) = false) (hb : rb = true) :
    Calls Try.prog 18 #[.agg #[.slice a l.length c, .bool rb, .bool rc], .agg #[.int .i64 n.kind, .int .i64 n.n, .int .i64 n.uid, .string n.name]] w (PushPost 36 ⟨l, rb, rc⟩ w) := by
  have hcm := R.cm
  have hnc := R.nc
  have HR := Lib.hid R
  clear R
  have CL := fun W (hW : Ext w W) => l16Copy_any l a c rb rc W (HR.out.ext hW) (by omega)
  have HC := Lib.hid CL
  clear CL
  have Hsz := Lib.hid hn
  clear hn
  subst hb
  have HQ : Hid (Tells true (QueueP l true rc)) := ⟨fun _ => hq, fun _ => rfl⟩
  have HN : Hid (Tells true (NoteP n)) := ⟨fun _ => hp, fun _ => rfl⟩
  clear hq hp
  have k1 : (n.kind == 1) = true := by simp [hk]
  clear hk
  have HA : Hid (l.any (boxIn n.n) = !true) := ha
  clear ha
  go_enter Try.func18, Try.ntmps18
  go_wp2_with (first | (go_at_call 56; refine (HC.out _ bxt).mono ?_; rintro e w1 ⟨g, q, rfl, hown, hb1⟩; have HO := Lib.hid (hown.le (by first | (simp; done) | (simp; omega) | omega : w.heap.size + 3 ≤ _)); clear hown; obtain ⟨hc1, hf1⟩ := bcell hb1; have hz1 := hb1.size; (try simp at hz1); have s1_0 : w.heap.size < w1.heap.size := (by omega); have s1_1 : w.heap.size + 1 < w1.heap.size := (by omega); have s1_2 : w.heap.size + 2 < w1.heap.size := (by omega)) | (go_at_call 20; refine (specQueueOk_any l a c true rc _ (HR.out.ext bxt) Hsz.out true HQ).mono ?_; rintro e w2 ⟨rfl, hb2⟩; obtain ⟨hc2, hf2⟩ := bcell hb2; have hz2 := hb2.size; (try simp at hz2); have s2_0 : w.heap.size < w2.heap.size := (by omega); have s2_1 : w.heap.size + 1 < w2.heap.size := (by omega); have s2_2 : w.heap.size + 2 < w2.heap.size := (by omega); have s2_3 : w1.heap.size < w2.heap.size := (by omega)) | (go_at_call 21; refine (specNoteOk_any n _ hs true HN).mono ?_; rintro e w3 ⟨rfl, hb3⟩; obtain ⟨hc3, hf3⟩ := bcell hb3; have hz3 := hb3.size; (try simp at hz3); have s3_0 : w.heap.size < w3.heap.size := (by omega); have s3_1 : w.heap.size + 1 < w3.heap.size := (by omega); have s3_2 : w.heap.size + 2 < w3.heap.size := (by omega); have s3_3 : w1.heap.size < w3.heap.size := (by omega)) | (go_at_call 57; refine (l16Above_any l a c true rc n.n _ (HR.out.ext bxt) true HA).mono ?_; rintro e w4 ⟨rfl, hb4⟩; obtain ⟨hc4, hf4⟩ := bcell hb4; have hz4 := hb4.size; (try simp at hz4); have s4_0 : w.heap.size < w4.heap.size := (by omega); have s4_1 : w.heap.size + 1 < w4.heap.size := (by omega); have s4_2 : w.heap.size + 2 < w4.heap.size := (by omega); have s4_3 : w1.heap.size < w4.heap.size := (by omega)))
  unfold PushPost
  refine bodyPost_ret (v := .agg #[.slice g l.length q, .bool true, .bool rc]) (by simp [results, Try.results18, go_sem, *]) rfl ⟨g, q, rfl, ?_, ?_⟩
  · refine Own.le (B := w.heap.size + 3) ?_ (by omega)
    try dsimp only
    exact (by repeat' (first | with_reducible exact HO.out | with_reducible refine Own.set_below ?_ smx _ | with_reducible refine Own.alloc1 ?_ _ | with_reducible refine Own.drew1 ?_ | with_reducible refine Own.drewN1 ?_ | with_reducible refine Own.ext ?_ (by assumption)))
  · exact bxt

set_option maxRecDepth 100000 in
set_option maxHeartbeats 4000000 in
theorem specPush_lo (l : List DNote) (a : Option Addr) (c : Nat) (rb rc : Bool) (n : DNote) (w : World) (R : Rd w a c 4 l.length (l.flatMap DNote.cells)) (hl : l.length ≤ 1048576) (hn : ∀ y ∈ l, y.name.size ≤ 9223372036854775807) (hs : n.name.size ≤ 9223372036854775807) (hq : QueueP l rb rc) (hp : NoteP n) (hk : n.kind ≠ 1) (hb : rc = true) :
    Calls Try.prog 18 #[.agg #[.slice a l.length c, .bool rb, .bool rc], .agg #[.int .i64 n.kind, .int .i64 n.n, .int .i64 n.uid, .string n.name]] w (PushPost 36 ⟨l, rb, rc⟩ w) := by
  have hcm := R.cm
  have hnc := R.nc
  have HR := Lib.hid R
  clear R
  have CL := fun W (hW : Ext w W) => l16Copy_any l a c rb rc W (HR.out.ext hW) (by omega)
  have HC := Lib.hid CL
  clear CL
  have Hsz := Lib.hid hn
  clear hn
  subst hb
  have HQ : Hid (Tells true (QueueP l rb true)) := ⟨fun _ => hq, fun _ => rfl⟩
  have HN : Hid (Tells true (NoteP n)) := ⟨fun _ => hp, fun _ => rfl⟩
  clear hq hp
  have k1 : (n.kind == 1) = false := by simp [hk]
  clear hk
  go_enter Try.func18, Try.ntmps18
  go_wp2_with (first | (go_at_call 56; refine (HC.out _ bxt).mono ?_; rintro e w1 ⟨g, q, rfl, hown, hb1⟩; have HO := Lib.hid (hown.le (by first | (simp; done) | (simp; omega) | omega : w.heap.size + 3 ≤ _)); clear hown; obtain ⟨hc1, hf1⟩ := bcell hb1; have hz1 := hb1.size; (try simp at hz1); have s1_0 : w.heap.size < w1.heap.size := (by omega); have s1_1 : w.heap.size + 1 < w1.heap.size := (by omega); have s1_2 : w.heap.size + 2 < w1.heap.size := (by omega)) | (go_at_call 20; refine (specQueueOk_any l a c rb true _ (HR.out.ext bxt) Hsz.out true HQ).mono ?_; rintro e w2 ⟨rfl, hb2⟩; obtain ⟨hc2, hf2⟩ := bcell hb2; have hz2 := hb2.size; (try simp at hz2); have s2_0 : w.heap.size < w2.heap.size := (by omega); have s2_1 : w.heap.size + 1 < w2.heap.size := (by omega); have s2_2 : w.heap.size + 2 < w2.heap.size := (by omega); have s2_3 : w1.heap.size < w2.heap.size := (by omega)) | (go_at_call 21; refine (specNoteOk_any n _ hs true HN).mono ?_; rintro e w3 ⟨rfl, hb3⟩; obtain ⟨hc3, hf3⟩ := bcell hb3; have hz3 := hb3.size; (try simp at hz3); have s3_0 : w.heap.size < w3.heap.size := (by omega); have s3_1 : w.heap.size + 1 < w3.heap.size := (by omega); have s3_2 : w.heap.size + 2 < w3.heap.size := (by omega); have s3_3 : w1.heap.size < w3.heap.size := (by omega)))
  unfold PushPost
  refine bodyPost_ret (v := .agg #[.slice g l.length q, .bool rb, .bool true]) (by simp [results, Try.results18, go_sem, *]) rfl ⟨g, q, rfl, ?_, ?_⟩
  · refine Own.le (B := w.heap.size + 3) ?_ (by omega)
    try dsimp only
    exact (by repeat' (first | with_reducible exact HO.out | with_reducible refine Own.set_below ?_ smx _ | with_reducible refine Own.alloc1 ?_ _ | with_reducible refine Own.drew1 ?_ | with_reducible refine Own.drewN1 ?_ | with_reducible refine Own.ext ?_ (by assumption)))
  · exact bxt

set_option maxRecDepth 100000 in
set_option maxHeartbeats 4000000 in
theorem specPush_st (l : List DNote) (a : Option Addr) (c : Nat) (rb rc : Bool) (n : DNote) (w : World) (R : Rd w a c 4 l.length (l.flatMap DNote.cells)) (hl : l.length ≤ 1048576) (hn : ∀ y ∈ l, y.name.size ≤ 9223372036854775807) (hs : n.name.size ≤ 9223372036854775807) (hq : QueueP l rb rc) (hp : NoteP n) (hk : n.kind ≠ 1) (hb : rc = false) (h2 : n.kind = 2) (ha : l.any (statusIn n.name) = true) :
    Calls Try.prog 18 #[.agg #[.slice a l.length c, .bool rb, .bool rc], .agg #[.int .i64 n.kind, .int .i64 n.n, .int .i64 n.uid, .string n.name]] w (PushPost 36 ⟨l, rb, rc⟩ w) := by
  have hcm := R.cm
  have hnc := R.nc
  have HR := Lib.hid R
  clear R
  have CL := fun W (hW : Ext w W) => l16Copy_any l a c rb rc W (HR.out.ext hW) (by omega)
  have HC := Lib.hid CL
  clear CL
  have Hsz := Lib.hid hn
  clear hn
  subst hb
  have HQ : Hid (Tells true (QueueP l rb false)) := ⟨fun _ => hq, fun _ => rfl⟩
  have HN : Hid (Tells true (NoteP n)) := ⟨fun _ => hp, fun _ => rfl⟩
  clear hq hp
  have k1 : (n.kind == 1) = false := by simp [hk]
  have k2 : (n.kind == 2) = true := by simp [h2]
  have HS : Hid (l.any (statusIn n.name) = true) := ha
  clear hk h2 ha
  go_enter Try.func18, Try.ntmps18
  go_wp2_with (first | (go_at_call 56; refine (HC.out _ bxt).mono ?_; rintro e w1 ⟨g, q, rfl, hown, hb1⟩; have HO := Lib.hid (hown.le (by first | (simp; done) | (simp; omega) | omega : w.heap.size + 3 ≤ _)); clear hown; obtain ⟨hc1, hf1⟩ := bcell hb1; have hz1 := hb1.size; (try simp at hz1); have s1_0 : w.heap.size < w1.heap.size := (by omega); have s1_1 : w.heap.size + 1 < w1.heap.size := (by omega); have s1_2 : w.heap.size + 2 < w1.heap.size := (by omega)) | (go_at_call 20; refine (specQueueOk_any l a c rb false _ (HR.out.ext bxt) Hsz.out true HQ).mono ?_; rintro e w2 ⟨rfl, hb2⟩; obtain ⟨hc2, hf2⟩ := bcell hb2; have hz2 := hb2.size; (try simp at hz2); have s2_0 : w.heap.size < w2.heap.size := (by omega); have s2_1 : w.heap.size + 1 < w2.heap.size := (by omega); have s2_2 : w.heap.size + 2 < w2.heap.size := (by omega); have s2_3 : w1.heap.size < w2.heap.size := (by omega)) | (go_at_call 21; refine (specNoteOk_any n _ hs true HN).mono ?_; rintro e w3 ⟨rfl, hb3⟩; obtain ⟨hc3, hf3⟩ := bcell hb3; have hz3 := hb3.size; (try simp at hz3); have s3_0 : w.heap.size < w3.heap.size := (by omega); have s3_1 : w.heap.size + 1 < w3.heap.size := (by omega); have s3_2 : w.heap.size + 2 < w3.heap.size := (by omega); have s3_3 : w1.heap.size < w3.heap.size := (by omega)) | (go_at_call 59; refine (l16Status_any l a c rb false n.name _ (HR.out.ext bxt) true HS).mono ?_; rintro e w5 ⟨rfl, hb5⟩; obtain ⟨hc5, hf5⟩ := bcell hb5; have hz5 := hb5.size; (try simp at hz5); have s5_0 : w.heap.size < w5.heap.size := (by omega); have s5_1 : w.heap.size + 1 < w5.heap.size := (by omega); have s5_2 : w.heap.size + 2 < w5.heap.size := (by omega); have s5_3 : w1.heap.size < w5.heap.size := (by omega)))
  unfold PushPost
  refine bodyPost_ret (v := .agg #[.slice g l.length q, .bool rb, .bool false]) (by simp [results, Try.results18, go_sem, *]) rfl ⟨g, q, rfl, ?_, ?_⟩
  · refine Own.le (B := w.heap.size + 3) ?_ (by omega)
    try dsimp only
    exact (by repeat' (first | with_reducible exact HO.out | with_reducible refine Own.set_below ?_ smx _ | with_reducible refine Own.alloc1 ?_ _ | with_reducible refine Own.drew1 ?_ | with_reducible refine Own.drewN1 ?_ | with_reducible refine Own.ext ?_ (by assumption)))
  · exact bxt

set_option maxRecDepth 100000 in
set_option maxHeartbeats 4000000 in
theorem specPush_ko (l : List DNote) (a : Option Addr) (c : Nat) (rb rc : Bool) (n : DNote) (w : World) (R : Rd w a c 4 l.length (l.flatMap DNote.cells)) (hl : l.length ≤ 1048576) (hn : ∀ y ∈ l, y.name.size ≤ 9223372036854775807) (hs : n.name.size ≤ 9223372036854775807) (hq : QueueP l rb rc) (hp : NoteP n) (hk : n.kind ≠ 1) (hb : rc = false) (h2 : ¬ (n.kind = 2 ∧ l.any (statusIn n.name) = true)) (h6 : ¬ l.length = 6) :
    Calls Try.prog 18 #[.agg #[.slice a l.length c, .bool rb, .bool rc], .agg #[.int .i64 n.kind, .int .i64 n.n, .int .i64 n.uid, .string n.name]] w (PushPost 36 ⟨l ++ [n], rb, rc⟩ w) := by
  have hcm := R.cm
  have hnc := R.nc
  have HR := Lib.hid R
  clear R
  have CL := fun W (hW : Ext w W) => l16Copy_any l a c rb rc W (HR.out.ext hW) (by omega)
  have HC := Lib.hid CL
  clear CL
  have Hsz := Lib.hid hn
  clear hn
  subst hb
  have HQ : Hid (Tells true (QueueP l rb false)) := ⟨fun _ => hq, fun _ => rfl⟩
  have HN : Hid (Tells true (NoteP n)) := ⟨fun _ => hp, fun _ => rfl⟩
  clear hq hp
  have k1 : (n.kind == 1) = false := by simp [hk]
  clear hk
  have m6 : ((l.length : Int) == 6) = false := by (simp; omega)
  by_cases hk2 : n.kind = 2
  · skip
    have k2 : (n.kind == 2) = true := by simp [hk2]
    have HS : Hid (l.any (statusIn n.name) = false) := by (unfold Hid; cases hh : l.any (statusIn n.name); rfl; exact (h2 ⟨hk2, hh⟩).elim)
    clear hk2 h2 h6
    go_enter Try.func18, Try.ntmps18
    go_upto_region 18 with (first | (go_at_call 56; refine (HC.out _ bxt).mono ?_; rintro e w1 ⟨g, q, rfl, hown, hb1⟩; have HO := Lib.hid (hown.le (by first | (simp; done) | (simp; omega) | omega : w.heap.size + 3 ≤ _)); clear hown; obtain ⟨hc1, hf1⟩ := bcell hb1; have hz1 := hb1.size; (try simp at hz1); have s1_0 : w.heap.size < w1.heap.size := (by omega); have s1_1 : w.heap.size + 1 < w1.heap.size := (by omega); have s1_2 : w.heap.size + 2 < w1.heap.size := (by omega)) | (go_at_call 20; refine (specQueueOk_any l a c rb false _ (HR.out.ext bxt) Hsz.out true HQ).mono ?_; rintro e w2 ⟨rfl, hb2⟩; obtain ⟨hc2, hf2⟩ := bcell hb2; have hz2 := hb2.size; (try simp at hz2); have s2_0 : w.heap.size < w2.heap.size := (by omega); have s2_1 : w.heap.size + 1 < w2.heap.size := (by omega); have s2_2 : w.heap.size + 2 < w2.heap.size := (by omega); have s2_3 : w1.heap.size < w2.heap.size := (by omega)) | (go_at_call 21; refine (specNoteOk_any n _ hs true HN).mono ?_; rintro e w3 ⟨rfl, hb3⟩; obtain ⟨hc3, hf3⟩ := bcell hb3; have hz3 := hb3.size; (try simp at hz3); have s3_0 : w.heap.size < w3.heap.size := (by omega); have s3_1 : w.heap.size + 1 < w3.heap.size := (by omega); have s3_2 : w.heap.size + 2 < w3.heap.size := (by omega); have s3_3 : w1.heap.size < w3.heap.size := (by omega)) | (go_at_call 59; refine (l16Status_any l a c rb false n.name _ (HR.out.ext bxt) false HS).mono ?_; rintro e w5 ⟨rfl, hb5⟩; obtain ⟨hc5, hf5⟩ := bcell hb5; have hz5 := hb5.size; (try simp at hz5); have s5_0 : w.heap.size < w5.heap.size := (by omega); have s5_1 : w.heap.size + 1 < w5.heap.size := (by omega); have s5_2 : w.heap.size + 2 < w5.heap.size := (by omega); have s5_3 : w1.heap.size < w5.heap.size := (by omega)))
    refine wp_world (fun W hW => ?_)
    have hbW : Ext w1 W := by (rw [hW]; exact bxt)
    have Wq0 : W.cell? ⟨w.heap.size, 0, none⟩ = some (.slice a l.length c) := by (rw [hW]; simp [go_sem, *])
    have Wq1 : W.cell? ⟨w.heap.size, 1, none⟩ = some (.bool rb) := by (rw [hW]; simp [go_sem, *])
    have Wq2 : W.cell? ⟨w.heap.size, 2, none⟩ = some (.bool false) := by (rw [hW]; simp [go_sem, *])
    have Wn0 : W.cell? ⟨w.heap.size + 1, 0, none⟩ = some (.int .i64 n.kind) := by (rw [hW]; simp [go_sem, *])
    have Wn1 : W.cell? ⟨w.heap.size + 1, 1, none⟩ = some (.int .i64 n.n) := by (rw [hW]; simp [go_sem, *])
    have Wn2 : W.cell? ⟨w.heap.size + 1, 2, none⟩ = some (.int .i64 n.uid) := by (rw [hW]; simp [go_sem, *])
    have Wn3 : W.cell? ⟨w.heap.size + 1, 3, none⟩ = some (.string n.name) := by (rw [hW]; simp [go_sem, *])
    have Wr0 : W.cell? ⟨w.heap.size + 2, 0, none⟩ = some (.slice none 0 0) := by (rw [hW]; simp [go_sem, *])
    have Wfr0 : W.frozen? ⟨w.heap.size + 2, 0, none⟩ = false := by (rw [hW]; simp [go_sem, *])
    have Wr1 : W.cell? ⟨w.heap.size + 2, 1, none⟩ = some (.bool false) := by (rw [hW]; simp [go_sem, *])
    have Wfr1 : W.frozen? ⟨w.heap.size + 2, 1, none⟩ = false := by (rw [hW]; simp [go_sem, *])
    have Wr2 : W.cell? ⟨w.heap.size + 2, 2, none⟩ = some (.bool false) := by (rw [hW]; simp [go_sem, *])
    have Wfr2 : W.frozen? ⟨w.heap.size + 2, 2, none⟩ = false := by (rw [hW]; simp [go_sem, *])
    have Wo0 : W.cell? ⟨w1.heap.size, 0, none⟩ = some (.slice g l.length q) := by (rw [hW]; simp [go_sem, *])
    have Wfo0 : W.frozen? ⟨w1.heap.size, 0, none⟩ = false := by (rw [hW]; simp [go_sem, *])
    have Wo1 : W.cell? ⟨w1.heap.size, 1, none⟩ = some (.bool rb) := by (rw [hW]; simp [go_sem, *])
    have Wfo1 : W.frozen? ⟨w1.heap.size, 1, none⟩ = false := by (rw [hW]; simp [go_sem, *])
    have Wo2 : W.cell? ⟨w1.heap.size, 2, none⟩ = some (.bool false) := by (rw [hW]; simp [go_sem, *])
    have Wfo2 : W.frozen? ⟨w1.heap.size, 2, none⟩ = false := by (rw [hW]; simp [go_sem, *])
    have Ws3 : w1.heap.size < W.heap.size := by (rw [hW]; first | omega | (simp; omega))
    have Ws2 : w.heap.size + 2 < W.heap.size := by omega
    have Ws1 : w.heap.size + 1 < W.heap.size := by omega
    have Ws0 : w.heap.size < W.heap.size := by omega
    have HW : Hid (Own W (w.heap.size + 3) 36 4 (.slice g l.length q) l.length (l.flatMap DNote.cells)) := HO.out.ext (by (rw [hW]; exact bxt))
    have hwW : Ext w W := by (rw [hW]; exact bxt)
    clear hW
    have hne := HO.out.ne_ge (b := w1.heap.size) (Nat.le_refl _)
    have HNE := Lib.hid hne
    clear hne
    have fo0 : FOff (w.heap.size) (.slice g l.length q) := FOff.lt HW.out (by omega)
    have fo1 : FOff (w.heap.size + 1) (.slice g l.length q) := FOff.lt HW.out (by omega)
    have fo2 : FOff (w.heap.size + 2) (.slice g l.length q) := FOff.lt HW.out (by omega)
    have fo3 : FOff (w1.heap.size) (.slice g l.length q) := HNE.out
    obtain ⟨i0, hi0, hz0, hz1, hz2⟩ := info_parts info_Note
    go_wp2_with (go_loud (at_builtin; refine wpList_appL (v := .slice g l.length q) (n := l.length) (xs := l.flatMap DNote.cells) (s := 4) (B := w.heap.size + 3) rfl _ _ _ rfl 36 i0 _ _ Try.underlying32 hi0 hz0 hz1 hz2 rfl (by decide) rfl (HW.out.ext bxt) (some ⟨W.heap.size, 0, none⟩) 1 1 n.cells rfl (Rd.lit _ _ _ 1 4 _ (by first | rfl | simp) rfl (by omega)) (DNote.one _) (by omega) (by omega) (by simp; omega) ?_; intro g2 q2 w7 hown2 hg2 hp2; obtain ⟨hc7, hf7⟩ := grown_foff hg2; have dr0 := (hc7 _ 0 (by simp; omega) fo2).trans (keep_alloc Wr0); have er0 := (hf7 _ 0 (by simp; omega) fo2).trans (keepf_alloc Wfr0 Ws2); have dr1 := (hc7 _ 1 (by simp; omega) fo2).trans (keep_alloc Wr1); have er1 := (hf7 _ 1 (by simp; omega) fo2).trans (keepf_alloc Wfr1 Ws2); have dr2 := (hc7 _ 2 (by simp; omega) fo2).trans (keep_alloc Wr2); have er2 := (hf7 _ 2 (by simp; omega) fo2).trans (keepf_alloc Wfr2 Ws2); have do0 := (hc7 _ 0 (by simp; omega) fo3).trans (keep_alloc Wo0); have eo0 := (hf7 _ 0 (by simp; omega) fo3).trans (keepf_alloc Wfo0 Ws3); have do1 := (hc7 _ 1 (by simp; omega) fo3).trans (keep_alloc Wo1); have eo1 := (hf7 _ 1 (by simp; omega) fo3).trans (keepf_alloc Wfo1 Ws3); have do2 := (hc7 _ 2 (by simp; omega) fo3).trans (keep_alloc Wo2); have eo2 := (hf7 _ 2 (by simp; omega) fo3).trans (keepf_alloc Wfo2 Ws3); clear hc7 hf7; have hz7 := hg2.size; (try simp at hz7); have s70 : w1.heap.size < w7.heap.size := (by omega); have s71 : w.heap.size + 2 < w7.heap.size := (by omega); have s72 : w.heap.size + 1 < w7.heap.size := (by omega); have s73 : w.heap.size < w7.heap.size := (by omega); have hbel : Ext w w7 := below_foot (B := w.heap.size + 3) (show Ext w _ from bxt) (show Own _ (w.heap.size + 3) 36 4 (.slice g l.length q) l.length (l.flatMap DNote.cells) from HW.out.ext bxt) (by omega) (by simp; omega) hg2; have hno : foot (.slice g2 (l.length + 1) q2) ≠ some w1.heap.size := (fun e => by rcases hp2 _ e with h | h; exact HNE.out h; simp at h; omega); have HNO := Lib.hid hno; have H2 := Lib.hid hown2; clear hown2 hg2 hp2 hno))
    have H3 : Hid (Own w7 (w.heap.size + 3) 36 4 (.slice g2 (l ++ [n]).length q2) (l ++ [n]).length ((l ++ [n]).flatMap DNote.cells)) := by simpa [DNote.cells, Hid] using H2.out
    unfold PushPost
    refine bodyPost_ret (v := .agg #[.slice g2 (l ++ [n]).length q2, .bool rb, .bool false]) (by simp [results, Try.results18, go_sem, *]) rfl ⟨g2, q2, rfl, ?_, ?_⟩
    · refine Own.le (B := w.heap.size + 3) ?_ (by omega)
      try dsimp only
      exact (by repeat' (first | with_reducible exact H3.out | with_reducible refine Own.set_below ?_ smx _ | with_reducible refine Own.set_off ?_ (by with_reducible exact by simpa using HNO.out) _ | with_reducible refine Own.alloc1 ?_ _ | with_reducible refine Own.drew1 ?_ | with_reducible refine Own.drewN1 ?_ | with_reducible refine Own.ext ?_ (by assumption)))
    · exact bxt
  · skip
    have k2 : (n.kind == 2) = false := by simp [hk2]
    clear hk2 h2 h6
    go_enter Try.func18, Try.ntmps18
    go_upto_region 18 with (first | (go_at_call 56; refine (HC.out _ bxt).mono ?_; rintro e w1 ⟨g, q, rfl, hown, hb1⟩; have HO := Lib.hid (hown.le (by first | (simp; done) | (simp; omega) | omega : w.heap.size + 3 ≤ _)); clear hown; obtain ⟨hc1, hf1⟩ := bcell hb1; have hz1 := hb1.size; (try simp at hz1); have s1_0 : w.heap.size < w1.heap.size := (by omega); have s1_1 : w.heap.size + 1 < w1.heap.size := (by omega); have s1_2 : w.heap.size + 2 < w1.heap.size := (by omega)) | (go_at_call 20; refine (specQueueOk_any l a c rb false _ (HR.out.ext bxt) Hsz.out true HQ).mono ?_; rintro e w2 ⟨rfl, hb2⟩; obtain ⟨hc2, hf2⟩ := bcell hb2; have hz2 := hb2.size; (try simp at hz2); have s2_0 : w.heap.size < w2.heap.size := (by omega); have s2_1 : w.heap.size + 1 < w2.heap.size := (by omega); have s2_2 : w.heap.size + 2 < w2.heap.size := (by omega); have s2_3 : w1.heap.size < w2.heap.size := (by omega)) | (go_at_call 21; refine (specNoteOk_any n _ hs true HN).mono ?_; rintro e w3 ⟨rfl, hb3⟩; obtain ⟨hc3, hf3⟩ := bcell hb3; have hz3 := hb3.size; (try simp at hz3); have s3_0 : w.heap.size < w3.heap.size := (by omega); have s3_1 : w.heap.size + 1 < w3.heap.size := (by omega); have s3_2 : w.heap.size + 2 < w3.heap.size := (by omega); have s3_3 : w1.heap.size < w3.heap.size := (by omega)))
    refine wp_world (fun W hW => ?_)
    have hbW : Ext w1 W := by (rw [hW]; exact bxt)
    have Wq0 : W.cell? ⟨w.heap.size, 0, none⟩ = some (.slice a l.length c) := by (rw [hW]; simp [go_sem, *])
    have Wq1 : W.cell? ⟨w.heap.size, 1, none⟩ = some (.bool rb) := by (rw [hW]; simp [go_sem, *])
    have Wq2 : W.cell? ⟨w.heap.size, 2, none⟩ = some (.bool false) := by (rw [hW]; simp [go_sem, *])
    have Wn0 : W.cell? ⟨w.heap.size + 1, 0, none⟩ = some (.int .i64 n.kind) := by (rw [hW]; simp [go_sem, *])
    have Wn1 : W.cell? ⟨w.heap.size + 1, 1, none⟩ = some (.int .i64 n.n) := by (rw [hW]; simp [go_sem, *])
    have Wn2 : W.cell? ⟨w.heap.size + 1, 2, none⟩ = some (.int .i64 n.uid) := by (rw [hW]; simp [go_sem, *])
    have Wn3 : W.cell? ⟨w.heap.size + 1, 3, none⟩ = some (.string n.name) := by (rw [hW]; simp [go_sem, *])
    have Wr0 : W.cell? ⟨w.heap.size + 2, 0, none⟩ = some (.slice none 0 0) := by (rw [hW]; simp [go_sem, *])
    have Wfr0 : W.frozen? ⟨w.heap.size + 2, 0, none⟩ = false := by (rw [hW]; simp [go_sem, *])
    have Wr1 : W.cell? ⟨w.heap.size + 2, 1, none⟩ = some (.bool false) := by (rw [hW]; simp [go_sem, *])
    have Wfr1 : W.frozen? ⟨w.heap.size + 2, 1, none⟩ = false := by (rw [hW]; simp [go_sem, *])
    have Wr2 : W.cell? ⟨w.heap.size + 2, 2, none⟩ = some (.bool false) := by (rw [hW]; simp [go_sem, *])
    have Wfr2 : W.frozen? ⟨w.heap.size + 2, 2, none⟩ = false := by (rw [hW]; simp [go_sem, *])
    have Wo0 : W.cell? ⟨w1.heap.size, 0, none⟩ = some (.slice g l.length q) := by (rw [hW]; simp [go_sem, *])
    have Wfo0 : W.frozen? ⟨w1.heap.size, 0, none⟩ = false := by (rw [hW]; simp [go_sem, *])
    have Wo1 : W.cell? ⟨w1.heap.size, 1, none⟩ = some (.bool rb) := by (rw [hW]; simp [go_sem, *])
    have Wfo1 : W.frozen? ⟨w1.heap.size, 1, none⟩ = false := by (rw [hW]; simp [go_sem, *])
    have Wo2 : W.cell? ⟨w1.heap.size, 2, none⟩ = some (.bool false) := by (rw [hW]; simp [go_sem, *])
    have Wfo2 : W.frozen? ⟨w1.heap.size, 2, none⟩ = false := by (rw [hW]; simp [go_sem, *])
    have Ws3 : w1.heap.size < W.heap.size := by (rw [hW]; first | omega | (simp; omega))
    have Ws2 : w.heap.size + 2 < W.heap.size := by omega
    have Ws1 : w.heap.size + 1 < W.heap.size := by omega
    have Ws0 : w.heap.size < W.heap.size := by omega
    have HW : Hid (Own W (w.heap.size + 3) 36 4 (.slice g l.length q) l.length (l.flatMap DNote.cells)) := HO.out.ext (by (rw [hW]; exact bxt))
    have hwW : Ext w W := by (rw [hW]; exact bxt)
    clear hW
    have hne := HO.out.ne_ge (b := w1.heap.size) (Nat.le_refl _)
    have HNE := Lib.hid hne
    clear hne
    have fo0 : FOff (w.heap.size) (.slice g l.length q) := FOff.lt HW.out (by omega)
    have fo1 : FOff (w.heap.size + 1) (.slice g l.length q) := FOff.lt HW.out (by omega)
    have fo2 : FOff (w.heap.size + 2) (.slice g l.length q) := FOff.lt HW.out (by omega)
    have fo3 : FOff (w1.heap.size) (.slice g l.length q) := HNE.out
    obtain ⟨i0, hi0, hz0, hz1, hz2⟩ := info_parts info_Note
    go_wp2_with (go_loud (at_builtin; refine wpList_appL (v := .slice g l.length q) (n := l.length) (xs := l.flatMap DNote.cells) (s := 4) (B := w.heap.size + 3) rfl _ _ _ rfl 36 i0 _ _ Try.underlying32 hi0 hz0 hz1 hz2 rfl (by decide) rfl (HW.out.ext bxt) (some ⟨W.heap.size, 0, none⟩) 1 1 n.cells rfl (Rd.lit _ _ _ 1 4 _ (by first | rfl | simp) rfl (by omega)) (DNote.one _) (by omega) (by omega) (by simp; omega) ?_; intro g2 q2 w7 hown2 hg2 hp2; obtain ⟨hc7, hf7⟩ := grown_foff hg2; have dr0 := (hc7 _ 0 (by simp; omega) fo2).trans (keep_alloc Wr0); have er0 := (hf7 _ 0 (by simp; omega) fo2).trans (keepf_alloc Wfr0 Ws2); have dr1 := (hc7 _ 1 (by simp; omega) fo2).trans (keep_alloc Wr1); have er1 := (hf7 _ 1 (by simp; omega) fo2).trans (keepf_alloc Wfr1 Ws2); have dr2 := (hc7 _ 2 (by simp; omega) fo2).trans (keep_alloc Wr2); have er2 := (hf7 _ 2 (by simp; omega) fo2).trans (keepf_alloc Wfr2 Ws2); have do0 := (hc7 _ 0 (by simp; omega) fo3).trans (keep_alloc Wo0); have eo0 := (hf7 _ 0 (by simp; omega) fo3).trans (keepf_alloc Wfo0 Ws3); have do1 := (hc7 _ 1 (by simp; omega) fo3).trans (keep_alloc Wo1); have eo1 := (hf7 _ 1 (by simp; omega) fo3).trans (keepf_alloc Wfo1 Ws3); have do2 := (hc7 _ 2 (by simp; omega) fo3).trans (keep_alloc Wo2); have eo2 := (hf7 _ 2 (by simp; omega) fo3).trans (keepf_alloc Wfo2 Ws3); clear hc7 hf7; have hz7 := hg2.size; (try simp at hz7); have s70 : w1.heap.size < w7.heap.size := (by omega); have s71 : w.heap.size + 2 < w7.heap.size := (by omega); have s72 : w.heap.size + 1 < w7.heap.size := (by omega); have s73 : w.heap.size < w7.heap.size := (by omega); have hbel : Ext w w7 := below_foot (B := w.heap.size + 3) (show Ext w _ from bxt) (show Own _ (w.heap.size + 3) 36 4 (.slice g l.length q) l.length (l.flatMap DNote.cells) from HW.out.ext bxt) (by omega) (by simp; omega) hg2; have hno : foot (.slice g2 (l.length + 1) q2) ≠ some w1.heap.size := (fun e => by rcases hp2 _ e with h | h; exact HNE.out h; simp at h; omega); have HNO := Lib.hid hno; have H2 := Lib.hid hown2; clear hown2 hg2 hp2 hno))
    have H3 : Hid (Own w7 (w.heap.size + 3) 36 4 (.slice g2 (l ++ [n]).length q2) (l ++ [n]).length ((l ++ [n]).flatMap DNote.cells)) := by simpa [DNote.cells, Hid] using H2.out
    unfold PushPost
    refine bodyPost_ret (v := .agg #[.slice g2 (l ++ [n]).length q2, .bool rb, .bool false]) (by simp [results, Try.results18, go_sem, *]) rfl ⟨g2, q2, rfl, ?_, ?_⟩
    · refine Own.le (B := w.heap.size + 3) ?_ (by omega)
      try dsimp only
      exact (by repeat' (first | with_reducible exact H3.out | with_reducible refine Own.set_below ?_ smx _ | with_reducible refine Own.set_off ?_ (by with_reducible exact by simpa using HNO.out) _ | with_reducible refine Own.alloc1 ?_ _ | with_reducible refine Own.drew1 ?_ | with_reducible refine Own.drewN1 ?_ | with_reducible refine Own.ext ?_ (by assumption)))
    · exact bxt

set_option maxRecDepth 100000 in
set_option maxHeartbeats 4000000 in
theorem specPush_ks (l : List DNote) (a : Option Addr) (c : Nat) (rb rc : Bool) (n : DNote) (w : World) (R : Rd w a c 4 l.length (l.flatMap DNote.cells)) (hl : l.length ≤ 1048576) (hn : ∀ y ∈ l, y.name.size ≤ 9223372036854775807) (hs : n.name.size ≤ 9223372036854775807) (r : List DNote) (HF : Hid (l.filter (onlyIs true) = r)) (hq : QueueP l rb rc) (hp : NoteP n) (hk : n.kind ≠ 1) (hb : rc = false) (h2 : ¬ (n.kind = 2 ∧ l.any (statusIn n.name) = true)) (h6 : l.length = 6) :
    Calls Try.prog 18 #[.agg #[.slice a l.length c, .bool rb, .bool rc], .agg #[.int .i64 n.kind, .int .i64 n.n, .int .i64 n.uid, .string n.name]] w (PushPost 36 ⟨r, rb, true⟩ w) := by
  have hcm := R.cm
  have hnc := R.nc
  have HR := Lib.hid R
  clear R
  have CL := fun W (hW : Ext w W) => l16Copy_any l a c rb rc W (HR.out.ext hW) (by omega)
  have HC := Lib.hid CL
  clear CL
  have Hsz := Lib.hid hn
  clear hn
  subst hb
  have HQ : Hid (Tells true (QueueP l rb false)) := ⟨fun _ => hq, fun _ => rfl⟩
  have HN : Hid (Tells true (NoteP n)) := ⟨fun _ => hp, fun _ => rfl⟩
  clear hq hp
  have k1 : (n.kind == 1) = false := by simp [hk]
  clear hk
  have m6 : ((l.length : Int) == 6) = true := by (simp; omega)
  by_cases hk2 : n.kind = 2
  · skip
    have k2 : (n.kind == 2) = true := by simp [hk2]
    have HS : Hid (l.any (statusIn n.name) = false) := by (unfold Hid; cases hh : l.any (statusIn n.name); rfl; exact (h2 ⟨hk2, hh⟩).elim)
    clear hk2 h2 h6
    go_enter Try.func18, Try.ntmps18
    go_upto_region 17 with (first | (go_at_call 56; refine (HC.out _ bxt).mono ?_; rintro e w1 ⟨g, q, rfl, hown, hb1⟩; have HO := Lib.hid (hown.le (by first | (simp; done) | (simp; omega) | omega : w.heap.size + 3 ≤ _)); clear hown; obtain ⟨hc1, hf1⟩ := bcell hb1; have hz1 := hb1.size; (try simp at hz1); have s1_0 : w.heap.size < w1.heap.size := (by omega); have s1_1 : w.heap.size + 1 < w1.heap.size := (by omega); have s1_2 : w.heap.size + 2 < w1.heap.size := (by omega)) | (go_at_call 20; refine (specQueueOk_any l a c rb false _ (HR.out.ext bxt) Hsz.out true HQ).mono ?_; rintro e w2 ⟨rfl, hb2⟩; obtain ⟨hc2, hf2⟩ := bcell hb2; have hz2 := hb2.size; (try simp at hz2); have s2_0 : w.heap.size < w2.heap.size := (by omega); have s2_1 : w.heap.size + 1 < w2.heap.size := (by omega); have s2_2 : w.heap.size + 2 < w2.heap.size := (by omega); have s2_3 : w1.heap.size < w2.heap.size := (by omega)) | (go_at_call 21; refine (specNoteOk_any n _ hs true HN).mono ?_; rintro e w3 ⟨rfl, hb3⟩; obtain ⟨hc3, hf3⟩ := bcell hb3; have hz3 := hb3.size; (try simp at hz3); have s3_0 : w.heap.size < w3.heap.size := (by omega); have s3_1 : w.heap.size + 1 < w3.heap.size := (by omega); have s3_2 : w.heap.size + 2 < w3.heap.size := (by omega); have s3_3 : w1.heap.size < w3.heap.size := (by omega)) | (go_at_call 59; refine (l16Status_any l a c rb false n.name _ (HR.out.ext bxt) false HS).mono ?_; rintro e w5 ⟨rfl, hb5⟩; obtain ⟨hc5, hf5⟩ := bcell hb5; have hz5 := hb5.size; (try simp at hz5); have s5_0 : w.heap.size < w5.heap.size := (by omega); have s5_1 : w.heap.size + 1 < w5.heap.size := (by omega); have s5_2 : w.heap.size + 2 < w5.heap.size := (by omega); have s5_3 : w1.heap.size < w5.heap.size := (by omega)))
    refine wp_world (fun W hW => ?_)
    have hbW : Ext w1 W := by (rw [hW]; exact bxt)
    have Wq0 : W.cell? ⟨w.heap.size, 0, none⟩ = some (.slice a l.length c) := by (rw [hW]; simp [go_sem, *])
    have Wq1 : W.cell? ⟨w.heap.size, 1, none⟩ = some (.bool rb) := by (rw [hW]; simp [go_sem, *])
    have Wq2 : W.cell? ⟨w.heap.size, 2, none⟩ = some (.bool false) := by (rw [hW]; simp [go_sem, *])
    have Wn0 : W.cell? ⟨w.heap.size + 1, 0, none⟩ = some (.int .i64 n.kind) := by (rw [hW]; simp [go_sem, *])
    have Wn1 : W.cell? ⟨w.heap.size + 1, 1, none⟩ = some (.int .i64 n.n) := by (rw [hW]; simp [go_sem, *])
    have Wn2 : W.cell? ⟨w.heap.size + 1, 2, none⟩ = some (.int .i64 n.uid) := by (rw [hW]; simp [go_sem, *])
    have Wn3 : W.cell? ⟨w.heap.size + 1, 3, none⟩ = some (.string n.name) := by (rw [hW]; simp [go_sem, *])
    have Wr0 : W.cell? ⟨w.heap.size + 2, 0, none⟩ = some (.slice none 0 0) := by (rw [hW]; simp [go_sem, *])
    have Wfr0 : W.frozen? ⟨w.heap.size + 2, 0, none⟩ = false := by (rw [hW]; simp [go_sem, *])
    have Wr1 : W.cell? ⟨w.heap.size + 2, 1, none⟩ = some (.bool false) := by (rw [hW]; simp [go_sem, *])
    have Wfr1 : W.frozen? ⟨w.heap.size + 2, 1, none⟩ = false := by (rw [hW]; simp [go_sem, *])
    have Wr2 : W.cell? ⟨w.heap.size + 2, 2, none⟩ = some (.bool false) := by (rw [hW]; simp [go_sem, *])
    have Wfr2 : W.frozen? ⟨w.heap.size + 2, 2, none⟩ = false := by (rw [hW]; simp [go_sem, *])
    have Wo0 : W.cell? ⟨w1.heap.size, 0, none⟩ = some (.slice g l.length q) := by (rw [hW]; simp [go_sem, *])
    have Wfo0 : W.frozen? ⟨w1.heap.size, 0, none⟩ = false := by (rw [hW]; simp [go_sem, *])
    have Wo1 : W.cell? ⟨w1.heap.size, 1, none⟩ = some (.bool rb) := by (rw [hW]; simp [go_sem, *])
    have Wfo1 : W.frozen? ⟨w1.heap.size, 1, none⟩ = false := by (rw [hW]; simp [go_sem, *])
    have Wo2 : W.cell? ⟨w1.heap.size, 2, none⟩ = some (.bool false) := by (rw [hW]; simp [go_sem, *])
    have Wfo2 : W.frozen? ⟨w1.heap.size, 2, none⟩ = false := by (rw [hW]; simp [go_sem, *])
    have Ws3 : w1.heap.size < W.heap.size := by (rw [hW]; first | omega | (simp; omega))
    have Ws2 : w.heap.size + 2 < W.heap.size := by omega
    have Ws1 : w.heap.size + 1 < W.heap.size := by omega
    have Ws0 : w.heap.size < W.heap.size := by omega
    have HW : Hid (Own W (w.heap.size + 3) 36 4 (.slice g l.length q) l.length (l.flatMap DNote.cells)) := HO.out.ext (by (rw [hW]; exact bxt))
    have hwW : Ext w W := by (rw [hW]; exact bxt)
    clear hW
    go_region_held3 (fun w' => w'.cell? ⟨w.heap.size, 0, none⟩ = some (.slice a l.length c) ∧ w'.cell? ⟨w.heap.size, 1, none⟩ = some (.bool rb) ∧ w'.cell? ⟨w.heap.size, 2, none⟩ = some (.bool false)) (refine ⟨?_, ?_, ?_⟩ <;> (repeat (first | with_reducible exact Wq0 | with_reducible exact Wq1 | with_reducible exact Wq2 | with_reducible assumption | with_reducible refine keep_set ?_ (by omega) | with_reducible refine keep_drew ?_))) ((go_at_call 58; refine (l16Only_any l a c rb false true _ (HR.out.ext (show Ext w _ from bxt)) hl r HF).mono ?_; rintro e w6 ⟨g6, q6, rfl, hown6, hb6⟩; have p0 := (hb6.cell (p := ⟨w.heap.size, 0, none⟩) Ws0).trans Wq0; have dr0 := (hb6.cell (p := ⟨w.heap.size + 2, 0, none⟩) Ws2).trans Wr0; have er0 := (hb6.frozen (p := ⟨w.heap.size + 2, 0, none⟩) Ws2).trans Wfr0; have p1 := (hb6.cell (p := ⟨w.heap.size, 1, none⟩) Ws0).trans Wq1; have dr1 := (hb6.cell (p := ⟨w.heap.size + 2, 1, none⟩) Ws2).trans Wr1; have er1 := (hb6.frozen (p := ⟨w.heap.size + 2, 1, none⟩) Ws2).trans Wfr1; have p2 := (hb6.cell (p := ⟨w.heap.size, 2, none⟩) Ws0).trans Wq2; have dr2 := (hb6.cell (p := ⟨w.heap.size + 2, 2, none⟩) Ws2).trans Wr2; have er2 := (hb6.frozen (p := ⟨w.heap.size + 2, 2, none⟩) Ws2).trans Wfr2; have s60 : w.heap.size + 2 < w6.heap.size := (by have hss := hb6.size; simp at hss; omega); have H6 := Lib.hid (hown6.le (by simp; omega : w.heap.size + 3 ≤ _)); clear hown6))
    all_goals go_wp2_with fail
    unfold PushPost
    refine bodyPost_ret (v := .agg #[.slice g6 r.length q6, .bool rb, .bool true]) (by simp [results, Try.results18, go_sem, *]) rfl ⟨g6, q6, rfl, ?_, ?_⟩
    · refine Own.le (B := w.heap.size + 3) ?_ (by omega)
      try dsimp only
      exact (by repeat' (first | with_reducible exact H6.out | with_reducible refine Own.set_below ?_ smx _ | with_reducible refine Own.alloc1 ?_ _ | with_reducible refine Own.drew1 ?_ | with_reducible refine Own.drewN1 ?_ | with_reducible refine Own.ext ?_ (by assumption)))
    · exact bxt
  · skip
    have k2 : (n.kind == 2) = false := by simp [hk2]
    clear hk2 h2 h6
    go_enter Try.func18, Try.ntmps18
    go_upto_region 17 with (first | (go_at_call 56; refine (HC.out _ bxt).mono ?_; rintro e w1 ⟨g, q, rfl, hown, hb1⟩; have HO := Lib.hid (hown.le (by first | (simp; done) | (simp; omega) | omega : w.heap.size + 3 ≤ _)); clear hown; obtain ⟨hc1, hf1⟩ := bcell hb1; have hz1 := hb1.size; (try simp at hz1); have s1_0 : w.heap.size < w1.heap.size := (by omega); have s1_1 : w.heap.size + 1 < w1.heap.size := (by omega); have s1_2 : w.heap.size + 2 < w1.heap.size := (by omega)) | (go_at_call 20; refine (specQueueOk_any l a c rb false _ (HR.out.ext bxt) Hsz.out true HQ).mono ?_; rintro e w2 ⟨rfl, hb2⟩; obtain ⟨hc2, hf2⟩ := bcell hb2; have hz2 := hb2.size; (try simp at hz2); have s2_0 : w.heap.size < w2.heap.size := (by omega); have s2_1 : w.heap.size + 1 < w2.heap.size := (by omega); have s2_2 : w.heap.size + 2 < w2.heap.size := (by omega); have s2_3 : w1.heap.size < w2.heap.size := (by omega)) | (go_at_call 21; refine (specNoteOk_any n _ hs true HN).mono ?_; rintro e w3 ⟨rfl, hb3⟩; obtain ⟨hc3, hf3⟩ := bcell hb3; have hz3 := hb3.size; (try simp at hz3); have s3_0 : w.heap.size < w3.heap.size := (by omega); have s3_1 : w.heap.size + 1 < w3.heap.size := (by omega); have s3_2 : w.heap.size + 2 < w3.heap.size := (by omega); have s3_3 : w1.heap.size < w3.heap.size := (by omega)))
    refine wp_world (fun W hW => ?_)
    have hbW : Ext w1 W := by (rw [hW]; exact bxt)
    have Wq0 : W.cell? ⟨w.heap.size, 0, none⟩ = some (.slice a l.length c) := by (rw [hW]; simp [go_sem, *])
    have Wq1 : W.cell? ⟨w.heap.size, 1, none⟩ = some (.bool rb) := by (rw [hW]; simp [go_sem, *])
    have Wq2 : W.cell? ⟨w.heap.size, 2, none⟩ = some (.bool false) := by (rw [hW]; simp [go_sem, *])
    have Wn0 : W.cell? ⟨w.heap.size + 1, 0, none⟩ = some (.int .i64 n.kind) := by (rw [hW]; simp [go_sem, *])
    have Wn1 : W.cell? ⟨w.heap.size + 1, 1, none⟩ = some (.int .i64 n.n) := by (rw [hW]; simp [go_sem, *])
    have Wn2 : W.cell? ⟨w.heap.size + 1, 2, none⟩ = some (.int .i64 n.uid) := by (rw [hW]; simp [go_sem, *])
    have Wn3 : W.cell? ⟨w.heap.size + 1, 3, none⟩ = some (.string n.name) := by (rw [hW]; simp [go_sem, *])
    have Wr0 : W.cell? ⟨w.heap.size + 2, 0, none⟩ = some (.slice none 0 0) := by (rw [hW]; simp [go_sem, *])
    have Wfr0 : W.frozen? ⟨w.heap.size + 2, 0, none⟩ = false := by (rw [hW]; simp [go_sem, *])
    have Wr1 : W.cell? ⟨w.heap.size + 2, 1, none⟩ = some (.bool false) := by (rw [hW]; simp [go_sem, *])
    have Wfr1 : W.frozen? ⟨w.heap.size + 2, 1, none⟩ = false := by (rw [hW]; simp [go_sem, *])
    have Wr2 : W.cell? ⟨w.heap.size + 2, 2, none⟩ = some (.bool false) := by (rw [hW]; simp [go_sem, *])
    have Wfr2 : W.frozen? ⟨w.heap.size + 2, 2, none⟩ = false := by (rw [hW]; simp [go_sem, *])
    have Wo0 : W.cell? ⟨w1.heap.size, 0, none⟩ = some (.slice g l.length q) := by (rw [hW]; simp [go_sem, *])
    have Wfo0 : W.frozen? ⟨w1.heap.size, 0, none⟩ = false := by (rw [hW]; simp [go_sem, *])
    have Wo1 : W.cell? ⟨w1.heap.size, 1, none⟩ = some (.bool rb) := by (rw [hW]; simp [go_sem, *])
    have Wfo1 : W.frozen? ⟨w1.heap.size, 1, none⟩ = false := by (rw [hW]; simp [go_sem, *])
    have Wo2 : W.cell? ⟨w1.heap.size, 2, none⟩ = some (.bool false) := by (rw [hW]; simp [go_sem, *])
    have Wfo2 : W.frozen? ⟨w1.heap.size, 2, none⟩ = false := by (rw [hW]; simp [go_sem, *])
    have Ws3 : w1.heap.size < W.heap.size := by (rw [hW]; first | omega | (simp; omega))
    have Ws2 : w.heap.size + 2 < W.heap.size := by omega
    have Ws1 : w.heap.size + 1 < W.heap.size := by omega
    have Ws0 : w.heap.size < W.heap.size := by omega
    have HW : Hid (Own W (w.heap.size + 3) 36 4 (.slice g l.length q) l.length (l.flatMap DNote.cells)) := HO.out.ext (by (rw [hW]; exact bxt))
    have hwW : Ext w W := by (rw [hW]; exact bxt)
    clear hW
    go_region_held3 (fun w' => w'.cell? ⟨w.heap.size, 0, none⟩ = some (.slice a l.length c) ∧ w'.cell? ⟨w.heap.size, 1, none⟩ = some (.bool rb) ∧ w'.cell? ⟨w.heap.size, 2, none⟩ = some (.bool false)) (refine ⟨?_, ?_, ?_⟩ <;> (repeat (first | with_reducible exact Wq0 | with_reducible exact Wq1 | with_reducible exact Wq2 | with_reducible assumption | with_reducible refine keep_set ?_ (by omega) | with_reducible refine keep_drew ?_))) ((go_at_call 58; refine (l16Only_any l a c rb false true _ (HR.out.ext (show Ext w _ from bxt)) hl r HF).mono ?_; rintro e w6 ⟨g6, q6, rfl, hown6, hb6⟩; have p0 := (hb6.cell (p := ⟨w.heap.size, 0, none⟩) Ws0).trans Wq0; have dr0 := (hb6.cell (p := ⟨w.heap.size + 2, 0, none⟩) Ws2).trans Wr0; have er0 := (hb6.frozen (p := ⟨w.heap.size + 2, 0, none⟩) Ws2).trans Wfr0; have p1 := (hb6.cell (p := ⟨w.heap.size, 1, none⟩) Ws0).trans Wq1; have dr1 := (hb6.cell (p := ⟨w.heap.size + 2, 1, none⟩) Ws2).trans Wr1; have er1 := (hb6.frozen (p := ⟨w.heap.size + 2, 1, none⟩) Ws2).trans Wfr1; have p2 := (hb6.cell (p := ⟨w.heap.size, 2, none⟩) Ws0).trans Wq2; have dr2 := (hb6.cell (p := ⟨w.heap.size + 2, 2, none⟩) Ws2).trans Wr2; have er2 := (hb6.frozen (p := ⟨w.heap.size + 2, 2, none⟩) Ws2).trans Wfr2; have s60 : w.heap.size + 2 < w6.heap.size := (by have hss := hb6.size; simp at hss; omega); have H6 := Lib.hid (hown6.le (by simp; omega : w.heap.size + 3 ≤ _)); clear hown6))
    all_goals go_wp2_with fail
    unfold PushPost
    refine bodyPost_ret (v := .agg #[.slice g6 r.length q6, .bool rb, .bool true]) (by simp [results, Try.results18, go_sem, *]) rfl ⟨g6, q6, rfl, ?_, ?_⟩
    · refine Own.le (B := w.heap.size + 3) ?_ (by omega)
      try dsimp only
      exact (by repeat' (first | with_reducible exact H6.out | with_reducible refine Own.set_below ?_ smx _ | with_reducible refine Own.alloc1 ?_ _ | with_reducible refine Own.drew1 ?_ | with_reducible refine Own.drewN1 ?_ | with_reducible refine Own.ext ?_ (by assumption)))
    · exact bxt

set_option maxRecDepth 100000 in
set_option maxHeartbeats 4000000 in
theorem specPush_g0 (l : List DNote) (a : Option Addr) (c : Nat) (rb rc : Bool) (n : DNote) (w : World) (R : Rd w a c 4 l.length (l.flatMap DNote.cells)) (hl : l.length ≤ 1048576) (hn : ∀ y ∈ l, y.name.size ≤ 9223372036854775807) (hs : n.name.size ≤ 9223372036854775807) (t0 : l.length = 0) (hq : QueueP l rb rc) (hp : NoteP n) (hk : n.kind = 1) (ha : l.any (boxIn n.n) = false) (hb : rb = false) (h6 : ¬ l.length = 6) :
    Calls Try.prog 18 #[.agg #[.slice a l.length c, .bool rb, .bool rc], .agg #[.int .i64 n.kind, .int .i64 n.n, .int .i64 n.uid, .string n.name]] w (PushPost 36 ⟨l ++ [n], false, rc⟩ w) := by
  have hcm := R.cm
  have hnc := R.nc
  have HR := Lib.hid R
  clear R
  have CL := fun W (hW : Ext w W) => l16Copy_any l a c rb rc W (HR.out.ext hW) (by omega)
  have HC := Lib.hid CL
  clear CL
  have Hsz := Lib.hid hn
  clear hn
  subst hb
  have HQ : Hid (Tells true (QueueP l false rc)) := ⟨fun _ => hq, fun _ => rfl⟩
  have HN : Hid (Tells true (NoteP n)) := ⟨fun _ => hp, fun _ => rfl⟩
  clear hq hp
  have k1 : (n.kind == 1) = true := by simp [hk]
  clear hk
  have HA : Hid (l.any (boxIn n.n) = !true) := ha
  clear ha
  have u0 : decide ((0 : Int) < (l.length : Int)) = false := decide_eq_false (by omega)
  have u7 : decide (0 < l.length) = false := decide_eq_false (by omega)
  clear t0
  have m6 : ((l.length : Int) == 6) = false := by (simp; omega)
  clear h6
  go_enter Try.func18, Try.ntmps18
  go_upto_region 9 with (first | (go_at_call 56; refine (HC.out _ bxt).mono ?_; rintro e w1 ⟨g, q, rfl, hown, hb1⟩; have HO := Lib.hid (hown.le (by first | (simp; done) | (simp; omega) | omega : w.heap.size + 3 ≤ _)); clear hown; obtain ⟨hc1, hf1⟩ := bcell hb1; have hz1 := hb1.size; (try simp at hz1); have s1_0 : w.heap.size < w1.heap.size := (by omega); have s1_1 : w.heap.size + 1 < w1.heap.size := (by omega); have s1_2 : w.heap.size + 2 < w1.heap.size := (by omega)) | (go_at_call 20; refine (specQueueOk_any l a c false rc _ (HR.out.ext bxt) Hsz.out true HQ).mono ?_; rintro e w2 ⟨rfl, hb2⟩; obtain ⟨hc2, hf2⟩ := bcell hb2; have hz2 := hb2.size; (try simp at hz2); have s2_0 : w.heap.size < w2.heap.size := (by omega); have s2_1 : w.heap.size + 1 < w2.heap.size := (by omega); have s2_2 : w.heap.size + 2 < w2.heap.size := (by omega); have s2_3 : w1.heap.size < w2.heap.size := (by omega)) | (go_at_call 21; refine (specNoteOk_any n _ hs true HN).mono ?_; rintro e w3 ⟨rfl, hb3⟩; obtain ⟨hc3, hf3⟩ := bcell hb3; have hz3 := hb3.size; (try simp at hz3); have s3_0 : w.heap.size < w3.heap.size := (by omega); have s3_1 : w.heap.size + 1 < w3.heap.size := (by omega); have s3_2 : w.heap.size + 2 < w3.heap.size := (by omega); have s3_3 : w1.heap.size < w3.heap.size := (by omega)) | (go_at_call 57; refine (l16Above_any l a c false rc n.n _ (HR.out.ext bxt) true HA).mono ?_; rintro e w4 ⟨rfl, hb4⟩; obtain ⟨hc4, hf4⟩ := bcell hb4; have hz4 := hb4.size; (try simp at hz4); have s4_0 : w.heap.size < w4.heap.size := (by omega); have s4_1 : w.heap.size + 1 < w4.heap.size := (by omega); have s4_2 : w.heap.size + 2 < w4.heap.size := (by omega); have s4_3 : w1.heap.size < w4.heap.size := (by omega)))
  refine wp_world (fun V hV => ?_)
  have hbV : Ext w1 V := by (rw [hV]; exact bxt)
  have Vq0 : V.cell? ⟨w.heap.size, 0, none⟩ = some (.slice a l.length c) := by (rw [hV]; simp [go_sem, *])
  have Vq1 : V.cell? ⟨w.heap.size, 1, none⟩ = some (.bool false) := by (rw [hV]; simp [go_sem, *])
  have Vq2 : V.cell? ⟨w.heap.size, 2, none⟩ = some (.bool rc) := by (rw [hV]; simp [go_sem, *])
  have Vn0 : V.cell? ⟨w.heap.size + 1, 0, none⟩ = some (.int .i64 n.kind) := by (rw [hV]; simp [go_sem, *])
  have Vn1 : V.cell? ⟨w.heap.size + 1, 1, none⟩ = some (.int .i64 n.n) := by (rw [hV]; simp [go_sem, *])
  have Vn2 : V.cell? ⟨w.heap.size + 1, 2, none⟩ = some (.int .i64 n.uid) := by (rw [hV]; simp [go_sem, *])
  have Vn3 : V.cell? ⟨w.heap.size + 1, 3, none⟩ = some (.string n.name) := by (rw [hV]; simp [go_sem, *])
  have Vr0 : V.cell? ⟨w.heap.size + 2, 0, none⟩ = some (.slice none 0 0) := by (rw [hV]; simp [go_sem, *])
  have Vfr0 : V.frozen? ⟨w.heap.size + 2, 0, none⟩ = false := by (rw [hV]; simp [go_sem, *])
  have Vr1 : V.cell? ⟨w.heap.size + 2, 1, none⟩ = some (.bool false) := by (rw [hV]; simp [go_sem, *])
  have Vfr1 : V.frozen? ⟨w.heap.size + 2, 1, none⟩ = false := by (rw [hV]; simp [go_sem, *])
  have Vr2 : V.cell? ⟨w.heap.size + 2, 2, none⟩ = some (.bool false) := by (rw [hV]; simp [go_sem, *])
  have Vfr2 : V.frozen? ⟨w.heap.size + 2, 2, none⟩ = false := by (rw [hV]; simp [go_sem, *])
  have Vo0 : V.cell? ⟨w1.heap.size, 0, none⟩ = some (.slice g l.length q) := by (rw [hV]; simp [go_sem, *])
  have Vfo0 : V.frozen? ⟨w1.heap.size, 0, none⟩ = false := by (rw [hV]; simp [go_sem, *])
  have Vo1 : V.cell? ⟨w1.heap.size, 1, none⟩ = some (.bool false) := by (rw [hV]; simp [go_sem, *])
  have Vfo1 : V.frozen? ⟨w1.heap.size, 1, none⟩ = false := by (rw [hV]; simp [go_sem, *])
  have Vo2 : V.cell? ⟨w1.heap.size, 2, none⟩ = some (.bool rc) := by (rw [hV]; simp [go_sem, *])
  have Vfo2 : V.frozen? ⟨w1.heap.size, 2, none⟩ = false := by (rw [hV]; simp [go_sem, *])
  have Vs3 : w1.heap.size < V.heap.size := by (rw [hV]; first | omega | (simp; omega))
  have Vs2 : w.heap.size + 2 < V.heap.size := by omega
  have Vs1 : w.heap.size + 1 < V.heap.size := by omega
  have Vs0 : w.heap.size < V.heap.size := by omega
  have HV : Hid (Own V (w.heap.size + 3) 36 4 (.slice g l.length q) l.length (l.flatMap DNote.cells)) := HO.out.ext (by (rw [hV]; exact bxt))
  have hwV : Ext w V := by (rw [hV]; exact bxt)
  clear hV
  have xq := fun y : ExtW V => (y.h.cell (p := ⟨w.heap.size, 0, none⟩) Vs0).trans Vq0
  have xn := fun y : ExtW V => (y.h.cell (p := ⟨w.heap.size + 1, 2, none⟩) Vs1).trans Vn2
  refine wp_region_ext (by kernel_rfl) (by kernel_rfl) ?_
  repeat (go_big_quiet_step (fail))
  refine wpQuiet_nil ?_
  rintro _ ⟨⟨wq, hwq⟩, rfl⟩
  obtain ⟨hcq, hfq⟩ := bcell hwq
  have sq0 := Nat.lt_of_lt_of_le Vs0 hwq.size
  have sq1 := Nat.lt_of_lt_of_le Vs1 hwq.size
  have sq2 := Nat.lt_of_lt_of_le Vs2 hwq.size
  have sq3 := Nat.lt_of_lt_of_le Vs3 hwq.size
  go_upto_region 18 with fail
  refine wp_world (fun W hW => ?_)
  have hbW : Ext w1 W := by (rw [hW]; exact bxt)
  have Wq0 : W.cell? ⟨w.heap.size, 0, none⟩ = some (.slice a l.length c) := by (rw [hW]; simp [go_sem, *])
  have Wq1 : W.cell? ⟨w.heap.size, 1, none⟩ = some (.bool false) := by (rw [hW]; simp [go_sem, *])
  have Wq2 : W.cell? ⟨w.heap.size, 2, none⟩ = some (.bool rc) := by (rw [hW]; simp [go_sem, *])
  have Wn0 : W.cell? ⟨w.heap.size + 1, 0, none⟩ = some (.int .i64 n.kind) := by (rw [hW]; simp [go_sem, *])
  have Wn1 : W.cell? ⟨w.heap.size + 1, 1, none⟩ = some (.int .i64 n.n) := by (rw [hW]; simp [go_sem, *])
  have Wn2 : W.cell? ⟨w.heap.size + 1, 2, none⟩ = some (.int .i64 n.uid) := by (rw [hW]; simp [go_sem, *])
  have Wn3 : W.cell? ⟨w.heap.size + 1, 3, none⟩ = some (.string n.name) := by (rw [hW]; simp [go_sem, *])
  have Wr0 : W.cell? ⟨w.heap.size + 2, 0, none⟩ = some (.slice none 0 0) := by (rw [hW]; simp [go_sem, *])
  have Wfr0 : W.frozen? ⟨w.heap.size + 2, 0, none⟩ = false := by (rw [hW]; simp [go_sem, *])
  have Wr1 : W.cell? ⟨w.heap.size + 2, 1, none⟩ = some (.bool false) := by (rw [hW]; simp [go_sem, *])
  have Wfr1 : W.frozen? ⟨w.heap.size + 2, 1, none⟩ = false := by (rw [hW]; simp [go_sem, *])
  have Wr2 : W.cell? ⟨w.heap.size + 2, 2, none⟩ = some (.bool false) := by (rw [hW]; simp [go_sem, *])
  have Wfr2 : W.frozen? ⟨w.heap.size + 2, 2, none⟩ = false := by (rw [hW]; simp [go_sem, *])
  have Wo0 : W.cell? ⟨w1.heap.size, 0, none⟩ = some (.slice g l.length q) := by (rw [hW]; simp [go_sem, *])
  have Wfo0 : W.frozen? ⟨w1.heap.size, 0, none⟩ = false := by (rw [hW]; simp [go_sem, *])
  have Wo1 : W.cell? ⟨w1.heap.size, 1, none⟩ = some (.bool false) := by (rw [hW]; simp [go_sem, *])
  have Wfo1 : W.frozen? ⟨w1.heap.size, 1, none⟩ = false := by (rw [hW]; simp [go_sem, *])
  have Wo2 : W.cell? ⟨w1.heap.size, 2, none⟩ = some (.bool rc) := by (rw [hW]; simp [go_sem, *])
  have Wfo2 : W.frozen? ⟨w1.heap.size, 2, none⟩ = false := by (rw [hW]; simp [go_sem, *])
  have Ws3 : w1.heap.size < W.heap.size := by (rw [hW]; first | omega | (simp; omega))
  have Ws2 : w.heap.size + 2 < W.heap.size := by omega
  have Ws1 : w.heap.size + 1 < W.heap.size := by omega
  have Ws0 : w.heap.size < W.heap.size := by omega
  have HW : Hid (Own W (w.heap.size + 3) 36 4 (.slice g l.length q) l.length (l.flatMap DNote.cells)) := HO.out.ext (by (rw [hW]; exact bxt))
  have hwW : Ext w W := by (rw [hW]; exact bxt)
  clear hW
  have hne := HO.out.ne_ge (b := w1.heap.size) (Nat.le_refl _)
  have HNE := Lib.hid hne
  clear hne
  have fo0 : FOff (w.heap.size) (.slice g l.length q) := FOff.lt HW.out (by omega)
  have fo1 : FOff (w.heap.size + 1) (.slice g l.length q) := FOff.lt HW.out (by omega)
  have fo2 : FOff (w.heap.size + 2) (.slice g l.length q) := FOff.lt HW.out (by omega)
  have fo3 : FOff (w1.heap.size) (.slice g l.length q) := HNE.out
  obtain ⟨i0, hi0, hz0, hz1, hz2⟩ := info_parts info_Note
  go_wp2_with (go_loud (at_builtin; refine wpList_appL (v := .slice g l.length q) (n := l.length) (xs := l.flatMap DNote.cells) (s := 4) (B := w.heap.size + 3) rfl _ _ _ rfl 36 i0 _ _ Try.underlying32 hi0 hz0 hz1 hz2 rfl (by decide) rfl (HW.out.ext bxt) (some ⟨W.heap.size, 0, none⟩) 1 1 n.cells rfl (Rd.lit _ _ _ 1 4 _ (by first | rfl | simp) rfl (by omega)) (DNote.one _) (by omega) (by omega) (by simp; omega) ?_; intro g2 q2 w7 hown2 hg2 hp2; obtain ⟨hc7, hf7⟩ := grown_foff hg2; have dr0 := (hc7 _ 0 (by simp; omega) fo2).trans (keep_alloc Wr0); have er0 := (hf7 _ 0 (by simp; omega) fo2).trans (keepf_alloc Wfr0 Ws2); have dr1 := (hc7 _ 1 (by simp; omega) fo2).trans (keep_alloc Wr1); have er1 := (hf7 _ 1 (by simp; omega) fo2).trans (keepf_alloc Wfr1 Ws2); have dr2 := (hc7 _ 2 (by simp; omega) fo2).trans (keep_alloc Wr2); have er2 := (hf7 _ 2 (by simp; omega) fo2).trans (keepf_alloc Wfr2 Ws2); have do0 := (hc7 _ 0 (by simp; omega) fo3).trans (keep_alloc Wo0); have eo0 := (hf7 _ 0 (by simp; omega) fo3).trans (keepf_alloc Wfo0 Ws3); have do1 := (hc7 _ 1 (by simp; omega) fo3).trans (keep_alloc Wo1); have eo1 := (hf7 _ 1 (by simp; omega) fo3).trans (keepf_alloc Wfo1 Ws3); have do2 := (hc7 _ 2 (by simp; omega) fo3).trans (keep_alloc Wo2); have eo2 := (hf7 _ 2 (by simp; omega) fo3).trans (keepf_alloc Wfo2 Ws3); clear hc7 hf7; have hz7 := hg2.size; (try simp at hz7); have s70 : w1.heap.size < w7.heap.size := (by omega); have s71 : w.heap.size + 2 < w7.heap.size := (by omega); have s72 : w.heap.size + 1 < w7.heap.size := (by omega); have s73 : w.heap.size < w7.heap.size := (by omega); have hbel : Ext w w7 := below_foot (B := w.heap.size + 3) (show Ext w _ from bxt) (show Own _ (w.heap.size + 3) 36 4 (.slice g l.length q) l.length (l.flatMap DNote.cells) from HW.out.ext bxt) (by omega) (by simp; omega) hg2; have hno : foot (.slice g2 (l.length + 1) q2) ≠ some w1.heap.size := (fun e => by rcases hp2 _ e with h | h; exact HNE.out h; simp at h; omega); have HNO := Lib.hid hno; have H2 := Lib.hid hown2; clear hown2 hg2 hp2 hno))
  have H3 : Hid (Own w7 (w.heap.size + 3) 36 4 (.slice g2 (l ++ [n]).length q2) (l ++ [n]).length ((l ++ [n]).flatMap DNote.cells)) := by simpa [DNote.cells, Hid] using H2.out
  unfold PushPost
  refine bodyPost_ret (v := .agg #[.slice g2 (l ++ [n]).length q2, .bool false, .bool rc]) (by simp [results, Try.results18, go_sem, *]) rfl ⟨g2, q2, rfl, ?_, ?_⟩
  · refine Own.le (B := w.heap.size + 3) ?_ (by omega)
    try dsimp only
    exact (by repeat' (first | with_reducible exact H3.out | with_reducible refine Own.set_below ?_ smx _ | with_reducible refine Own.set_off ?_ (by with_reducible exact by simpa using HNO.out) _ | with_reducible refine Own.alloc1 ?_ _ | with_reducible refine Own.drew1 ?_ | with_reducible refine Own.drewN1 ?_ | with_reducible refine Own.ext ?_ (by assumption)))
  · exact bxt

set_option maxRecDepth 100000 in
set_option maxHeartbeats 4000000 in
theorem specPush_g1 (l : List DNote) (a : Option Addr) (c : Nat) (rb rc : Bool) (n : DNote) (w : World) (R : Rd w a c 4 l.length (l.flatMap DNote.cells)) (hl : l.length ≤ 1048576) (hn : ∀ y ∈ l, y.name.size ≤ 9223372036854775807) (hs : n.name.size ≤ 9223372036854775807) (K : Nat) (hKl : K < l.length) (hK : l.length = K + 1) (t1 : l[K].kind ≠ 1) (hq : QueueP l rb rc) (hp : NoteP n) (hk : n.kind = 1) (ha : l.any (boxIn n.n) = false) (hb : rb = false) (h6 : ¬ l.length = 6) :
    Calls Try.prog 18 #[.agg #[.slice a l.length c, .bool rb, .bool rc], .agg #[.int .i64 n.kind, .int .i64 n.n, .int .i64 n.uid, .string n.name]] w (PushPost 36 ⟨l ++ [n], false, rc⟩ w) := by
  have hcm := R.cm
  have hnc := R.nc
  have HR := Lib.hid R
  clear R
  have CL := fun W (hW : Ext w W) => l16Copy_any l a c rb rc W (HR.out.ext hW) (by omega)
  have HC := Lib.hid CL
  clear CL
  have Hsz := Lib.hid hn
  clear hn
  subst hb
  have HQ : Hid (Tells true (QueueP l false rc)) := ⟨fun _ => hq, fun _ => rfl⟩
  have HN : Hid (Tells true (NoteP n)) := ⟨fun _ => hp, fun _ => rfl⟩
  clear hq hp
  have k1 : (n.kind == 1) = true := by simp [hk]
  clear hk
  have HA : Hid (l.any (boxIn n.n) = !true) := ha
  clear ha
  have u0 : decide ((0 : Int) < (l.length : Int)) = true := decide_eq_true (by omega)
  have u7 : decide (0 < l.length) = true := decide_eq_true (by omega)
  have u4 : IntKind.i64.wrap ((l.length : Int) - 1) = (K : Int) := by rw [IntWalk.i64_in _ (by omega)]; omega
  have u5 : (0 : Int) ≤ (K : Int) := by omega
  have u6 : (K : Int) < (l.length : Int) := by omega
  have u1 : (l[K].kind == 1) = false := by simpa using t1
  have HK := Lib.hid hK
  clear hK
  clear t1
  have m6 : ((l.length : Int) == 6) = false := by (simp; omega)
  clear h6
  go_enter Try.func18, Try.ntmps18
  go_upto_region 9 with (first | (go_at_call 56; refine (HC.out _ bxt).mono ?_; rintro e w1 ⟨g, q, rfl, hown, hb1⟩; have HO := Lib.hid (hown.le (by first | (simp; done) | (simp; omega) | omega : w.heap.size + 3 ≤ _)); clear hown; obtain ⟨hc1, hf1⟩ := bcell hb1; have hz1 := hb1.size; (try simp at hz1); have s1_0 : w.heap.size < w1.heap.size := (by omega); have s1_1 : w.heap.size + 1 < w1.heap.size := (by omega); have s1_2 : w.heap.size + 2 < w1.heap.size := (by omega)) | (go_at_call 20; refine (specQueueOk_any l a c false rc _ (HR.out.ext bxt) Hsz.out true HQ).mono ?_; rintro e w2 ⟨rfl, hb2⟩; obtain ⟨hc2, hf2⟩ := bcell hb2; have hz2 := hb2.size; (try simp at hz2); have s2_0 : w.heap.size < w2.heap.size := (by omega); have s2_1 : w.heap.size + 1 < w2.heap.size := (by omega); have s2_2 : w.heap.size + 2 < w2.heap.size := (by omega); have s2_3 : w1.heap.size < w2.heap.size := (by omega)) | (go_at_call 21; refine (specNoteOk_any n _ hs true HN).mono ?_; rintro e w3 ⟨rfl, hb3⟩; obtain ⟨hc3, hf3⟩ := bcell hb3; have hz3 := hb3.size; (try simp at hz3); have s3_0 : w.heap.size < w3.heap.size := (by omega); have s3_1 : w.heap.size + 1 < w3.heap.size := (by omega); have s3_2 : w.heap.size + 2 < w3.heap.size := (by omega); have s3_3 : w1.heap.size < w3.heap.size := (by omega)) | (go_at_call 57; refine (l16Above_any l a c false rc n.n _ (HR.out.ext bxt) true HA).mono ?_; rintro e w4 ⟨rfl, hb4⟩; obtain ⟨hc4, hf4⟩ := bcell hb4; have hz4 := hb4.size; (try simp at hz4); have s4_0 : w.heap.size < w4.heap.size := (by omega); have s4_1 : w.heap.size + 1 < w4.heap.size := (by omega); have s4_2 : w.heap.size + 2 < w4.heap.size := (by omega); have s4_3 : w1.heap.size < w4.heap.size := (by omega)))
  refine wp_world (fun V hV => ?_)
  have hbV : Ext w1 V := by (rw [hV]; exact bxt)
  have Vq0 : V.cell? ⟨w.heap.size, 0, none⟩ = some (.slice a l.length c) := by (rw [hV]; simp [go_sem, *])
  have Vq1 : V.cell? ⟨w.heap.size, 1, none⟩ = some (.bool false) := by (rw [hV]; simp [go_sem, *])
  have Vq2 : V.cell? ⟨w.heap.size, 2, none⟩ = some (.bool rc) := by (rw [hV]; simp [go_sem, *])
  have Vn0 : V.cell? ⟨w.heap.size + 1, 0, none⟩ = some (.int .i64 n.kind) := by (rw [hV]; simp [go_sem, *])
  have Vn1 : V.cell? ⟨w.heap.size + 1, 1, none⟩ = some (.int .i64 n.n) := by (rw [hV]; simp [go_sem, *])
  have Vn2 : V.cell? ⟨w.heap.size + 1, 2, none⟩ = some (.int .i64 n.uid) := by (rw [hV]; simp [go_sem, *])
  have Vn3 : V.cell? ⟨w.heap.size + 1, 3, none⟩ = some (.string n.name) := by (rw [hV]; simp [go_sem, *])
  have Vr0 : V.cell? ⟨w.heap.size + 2, 0, none⟩ = some (.slice none 0 0) := by (rw [hV]; simp [go_sem, *])
  have Vfr0 : V.frozen? ⟨w.heap.size + 2, 0, none⟩ = false := by (rw [hV]; simp [go_sem, *])
  have Vr1 : V.cell? ⟨w.heap.size + 2, 1, none⟩ = some (.bool false) := by (rw [hV]; simp [go_sem, *])
  have Vfr1 : V.frozen? ⟨w.heap.size + 2, 1, none⟩ = false := by (rw [hV]; simp [go_sem, *])
  have Vr2 : V.cell? ⟨w.heap.size + 2, 2, none⟩ = some (.bool false) := by (rw [hV]; simp [go_sem, *])
  have Vfr2 : V.frozen? ⟨w.heap.size + 2, 2, none⟩ = false := by (rw [hV]; simp [go_sem, *])
  have Vo0 : V.cell? ⟨w1.heap.size, 0, none⟩ = some (.slice g l.length q) := by (rw [hV]; simp [go_sem, *])
  have Vfo0 : V.frozen? ⟨w1.heap.size, 0, none⟩ = false := by (rw [hV]; simp [go_sem, *])
  have Vo1 : V.cell? ⟨w1.heap.size, 1, none⟩ = some (.bool false) := by (rw [hV]; simp [go_sem, *])
  have Vfo1 : V.frozen? ⟨w1.heap.size, 1, none⟩ = false := by (rw [hV]; simp [go_sem, *])
  have Vo2 : V.cell? ⟨w1.heap.size, 2, none⟩ = some (.bool rc) := by (rw [hV]; simp [go_sem, *])
  have Vfo2 : V.frozen? ⟨w1.heap.size, 2, none⟩ = false := by (rw [hV]; simp [go_sem, *])
  have Vs3 : w1.heap.size < V.heap.size := by (rw [hV]; first | omega | (simp; omega))
  have Vs2 : w.heap.size + 2 < V.heap.size := by omega
  have Vs1 : w.heap.size + 1 < V.heap.size := by omega
  have Vs0 : w.heap.size < V.heap.size := by omega
  have HV : Hid (Own V (w.heap.size + 3) 36 4 (.slice g l.length q) l.length (l.flatMap DNote.cells)) := HO.out.ext (by (rw [hV]; exact bxt))
  have hwV : Ext w V := by (rw [hV]; exact bxt)
  clear hV
  obtain ⟨b, o, rfl, hb, hat⟩ := HR.out.ptr (by omega)
  obtain ⟨y0, y1, y2, y3⟩ := DNote.at (hat.ext hb hwV) K hKl
  have hbV2 : b < V.heap.size := by omega
  have HA9 := Lib.hid hat
  clear hat
  have x0 := fun y : ExtW V => (y.h.cell (p := ⟨b, o + K * 4, none⟩) hbV2).trans y0
  have x2 := fun y : ExtW V => (y.h.cell (p := ⟨b, o + K * 4 + 2, none⟩) hbV2).trans y2
  have xq := fun y : ExtW V => (y.h.cell (p := ⟨w.heap.size, 0, none⟩) Vs0).trans Vq0
  have xn := fun y : ExtW V => (y.h.cell (p := ⟨w.heap.size + 1, 2, none⟩) Vs1).trans Vn2
  refine wp_region_ext (by kernel_rfl) (by kernel_rfl) ?_
  repeat (go_big_quiet_step (fail))
  refine wpQuiet_nil ?_
  rintro _ ⟨⟨wq, hwq⟩, rfl⟩
  obtain ⟨hcq, hfq⟩ := bcell hwq
  have sq0 := Nat.lt_of_lt_of_le Vs0 hwq.size
  have sq1 := Nat.lt_of_lt_of_le Vs1 hwq.size
  have sq2 := Nat.lt_of_lt_of_le Vs2 hwq.size
  have sq3 := Nat.lt_of_lt_of_le Vs3 hwq.size
  go_upto_region 18 with fail
  refine wp_world (fun W hW => ?_)
  have hbW : Ext w1 W := by (rw [hW]; exact bxt)
  have Wq0 : W.cell? ⟨w.heap.size, 0, none⟩ = some (.slice (some ⟨b, o, none⟩) l.length c) := by (rw [hW]; simp [go_sem, *])
  have Wq1 : W.cell? ⟨w.heap.size, 1, none⟩ = some (.bool false) := by (rw [hW]; simp [go_sem, *])
  have Wq2 : W.cell? ⟨w.heap.size, 2, none⟩ = some (.bool rc) := by (rw [hW]; simp [go_sem, *])
  have Wn0 : W.cell? ⟨w.heap.size + 1, 0, none⟩ = some (.int .i64 n.kind) := by (rw [hW]; simp [go_sem, *])
  have Wn1 : W.cell? ⟨w.heap.size + 1, 1, none⟩ = some (.int .i64 n.n) := by (rw [hW]; simp [go_sem, *])
  have Wn2 : W.cell? ⟨w.heap.size + 1, 2, none⟩ = some (.int .i64 n.uid) := by (rw [hW]; simp [go_sem, *])
  have Wn3 : W.cell? ⟨w.heap.size + 1, 3, none⟩ = some (.string n.name) := by (rw [hW]; simp [go_sem, *])
  have Wr0 : W.cell? ⟨w.heap.size + 2, 0, none⟩ = some (.slice none 0 0) := by (rw [hW]; simp [go_sem, *])
  have Wfr0 : W.frozen? ⟨w.heap.size + 2, 0, none⟩ = false := by (rw [hW]; simp [go_sem, *])
  have Wr1 : W.cell? ⟨w.heap.size + 2, 1, none⟩ = some (.bool false) := by (rw [hW]; simp [go_sem, *])
  have Wfr1 : W.frozen? ⟨w.heap.size + 2, 1, none⟩ = false := by (rw [hW]; simp [go_sem, *])
  have Wr2 : W.cell? ⟨w.heap.size + 2, 2, none⟩ = some (.bool false) := by (rw [hW]; simp [go_sem, *])
  have Wfr2 : W.frozen? ⟨w.heap.size + 2, 2, none⟩ = false := by (rw [hW]; simp [go_sem, *])
  have Wo0 : W.cell? ⟨w1.heap.size, 0, none⟩ = some (.slice g l.length q) := by (rw [hW]; simp [go_sem, *])
  have Wfo0 : W.frozen? ⟨w1.heap.size, 0, none⟩ = false := by (rw [hW]; simp [go_sem, *])
  have Wo1 : W.cell? ⟨w1.heap.size, 1, none⟩ = some (.bool false) := by (rw [hW]; simp [go_sem, *])
  have Wfo1 : W.frozen? ⟨w1.heap.size, 1, none⟩ = false := by (rw [hW]; simp [go_sem, *])
  have Wo2 : W.cell? ⟨w1.heap.size, 2, none⟩ = some (.bool rc) := by (rw [hW]; simp [go_sem, *])
  have Wfo2 : W.frozen? ⟨w1.heap.size, 2, none⟩ = false := by (rw [hW]; simp [go_sem, *])
  have Ws3 : w1.heap.size < W.heap.size := by (rw [hW]; first | omega | (simp; omega))
  have Ws2 : w.heap.size + 2 < W.heap.size := by omega
  have Ws1 : w.heap.size + 1 < W.heap.size := by omega
  have Ws0 : w.heap.size < W.heap.size := by omega
  have HW : Hid (Own W (w.heap.size + 3) 36 4 (.slice g l.length q) l.length (l.flatMap DNote.cells)) := HO.out.ext (by (rw [hW]; exact bxt))
  have hwW : Ext w W := by (rw [hW]; exact bxt)
  clear hW
  have hne := HO.out.ne_ge (b := w1.heap.size) (Nat.le_refl _)
  have HNE := Lib.hid hne
  clear hne
  have fo0 : FOff (w.heap.size) (.slice g l.length q) := FOff.lt HW.out (by omega)
  have fo1 : FOff (w.heap.size + 1) (.slice g l.length q) := FOff.lt HW.out (by omega)
  have fo2 : FOff (w.heap.size + 2) (.slice g l.length q) := FOff.lt HW.out (by omega)
  have fo3 : FOff (w1.heap.size) (.slice g l.length q) := HNE.out
  obtain ⟨i0, hi0, hz0, hz1, hz2⟩ := info_parts info_Note
  go_wp2_with (go_loud (at_builtin; refine wpList_appL (v := .slice g l.length q) (n := l.length) (xs := l.flatMap DNote.cells) (s := 4) (B := w.heap.size + 3) rfl _ _ _ rfl 36 i0 _ _ Try.underlying32 hi0 hz0 hz1 hz2 rfl (by decide) rfl (HW.out.ext bxt) (some ⟨W.heap.size, 0, none⟩) 1 1 n.cells rfl (Rd.lit _ _ _ 1 4 _ (by first | rfl | simp) rfl (by omega)) (DNote.one _) (by omega) (by omega) (by simp; omega) ?_; intro g2 q2 w7 hown2 hg2 hp2; obtain ⟨hc7, hf7⟩ := grown_foff hg2; have dr0 := (hc7 _ 0 (by simp; omega) fo2).trans (keep_alloc Wr0); have er0 := (hf7 _ 0 (by simp; omega) fo2).trans (keepf_alloc Wfr0 Ws2); have dr1 := (hc7 _ 1 (by simp; omega) fo2).trans (keep_alloc Wr1); have er1 := (hf7 _ 1 (by simp; omega) fo2).trans (keepf_alloc Wfr1 Ws2); have dr2 := (hc7 _ 2 (by simp; omega) fo2).trans (keep_alloc Wr2); have er2 := (hf7 _ 2 (by simp; omega) fo2).trans (keepf_alloc Wfr2 Ws2); have do0 := (hc7 _ 0 (by simp; omega) fo3).trans (keep_alloc Wo0); have eo0 := (hf7 _ 0 (by simp; omega) fo3).trans (keepf_alloc Wfo0 Ws3); have do1 := (hc7 _ 1 (by simp; omega) fo3).trans (keep_alloc Wo1); have eo1 := (hf7 _ 1 (by simp; omega) fo3).trans (keepf_alloc Wfo1 Ws3); have do2 := (hc7 _ 2 (by simp; omega) fo3).trans (keep_alloc Wo2); have eo2 := (hf7 _ 2 (by simp; omega) fo3).trans (keepf_alloc Wfo2 Ws3); clear hc7 hf7; have hz7 := hg2.size; (try simp at hz7); have s70 : w1.heap.size < w7.heap.size := (by omega); have s71 : w.heap.size + 2 < w7.heap.size := (by omega); have s72 : w.heap.size + 1 < w7.heap.size := (by omega); have s73 : w.heap.size < w7.heap.size := (by omega); have hbel : Ext w w7 := below_foot (B := w.heap.size + 3) (show Ext w _ from bxt) (show Own _ (w.heap.size + 3) 36 4 (.slice g l.length q) l.length (l.flatMap DNote.cells) from HW.out.ext bxt) (by omega) (by simp; omega) hg2; have hno : foot (.slice g2 (l.length + 1) q2) ≠ some w1.heap.size := (fun e => by rcases hp2 _ e with h | h; exact HNE.out h; simp at h; omega); have HNO := Lib.hid hno; have H2 := Lib.hid hown2; clear hown2 hg2 hp2 hno))
  have H3 : Hid (Own w7 (w.heap.size + 3) 36 4 (.slice g2 (l ++ [n]).length q2) (l ++ [n]).length ((l ++ [n]).flatMap DNote.cells)) := by simpa [DNote.cells, Hid] using H2.out
  unfold PushPost
  refine bodyPost_ret (v := .agg #[.slice g2 (l ++ [n]).length q2, .bool false, .bool rc]) (by simp [results, Try.results18, go_sem, *]) rfl ⟨g2, q2, rfl, ?_, ?_⟩
  · refine Own.le (B := w.heap.size + 3) ?_ (by omega)
    try dsimp only
    exact (by repeat' (first | with_reducible exact H3.out | with_reducible refine Own.set_below ?_ smx _ | with_reducible refine Own.set_off ?_ (by with_reducible exact by simpa using HNO.out) _ | with_reducible refine Own.alloc1 ?_ _ | with_reducible refine Own.drew1 ?_ | with_reducible refine Own.drewN1 ?_ | with_reducible refine Own.ext ?_ (by assumption)))
  · exact bxt

set_option maxRecDepth 100000 in
set_option maxHeartbeats 4000000 in
theorem specPush_f1 (l : List DNote) (a : Option Addr) (c : Nat) (rb rc : Bool) (n : DNote) (w : World) (R : Rd w a c 4 l.length (l.flatMap DNote.cells)) (hl : l.length ≤ 1048576) (hn : ∀ y ∈ l, y.name.size ≤ 9223372036854775807) (hs : n.name.size ≤ 9223372036854775807) (r : List DNote) (HF : Hid (l.filter (onlyIs false) = r)) (K : Nat) (hKl : K < l.length) (hK : l.length = K + 1) (t1 : l[K].kind ≠ 1) (hq : QueueP l rb rc) (hp : NoteP n) (hk : n.kind = 1) (ha : l.any (boxIn n.n) = false) (hb : rb = false) (h6 : l.length = 6) :
    Calls Try.prog 18 #[.agg #[.slice a l.length c, .bool rb, .bool rc], .agg #[.int .i64 n.kind, .int .i64 n.n, .int .i64 n.uid, .string n.name]] w (PushPost 36 ⟨r, true, rc⟩ w) := by
  have hcm := R.cm
  have hnc := R.nc
  have HR := Lib.hid R
  clear R
  have CL := fun W (hW : Ext w W) => l16Copy_any l a c rb rc W (HR.out.ext hW) (by omega)
  have HC := Lib.hid CL
  clear CL
  have Hsz := Lib.hid hn
  clear hn
  subst hb
  have HQ : Hid (Tells true (QueueP l false rc)) := ⟨fun _ => hq, fun _ => rfl⟩
  have HN : Hid (Tells true (NoteP n)) := ⟨fun _ => hp, fun _ => rfl⟩
  clear hq hp
  have k1 : (n.kind == 1) = true := by simp [hk]
  clear hk
  have HA : Hid (l.any (boxIn n.n) = !true) := ha
  clear ha
  have u0 : decide ((0 : Int) < (l.length : Int)) = true := decide_eq_true (by omega)
  have u7 : decide (0 < l.length) = true := decide_eq_true (by omega)
  have u4 : IntKind.i64.wrap ((l.length : Int) - 1) = (K : Int) := by rw [IntWalk.i64_in _ (by omega)]; omega
  have u5 : (0 : Int) ≤ (K : Int) := by omega
  have u6 : (K : Int) < (l.length : Int) := by omega
  have u1 : (l[K].kind == 1) = false := by simpa using t1
  have HK := Lib.hid hK
  clear hK
  clear t1
  have m6 : ((l.length : Int) == 6) = true := by (simp; omega)
  clear h6
  go_enter Try.func18, Try.ntmps18
  go_upto_region 9 with (first | (go_at_call 56; refine (HC.out _ bxt).mono ?_; rintro e w1 ⟨g, q, rfl, hown, hb1⟩; have HO := Lib.hid (hown.le (by first | (simp; done) | (simp; omega) | omega : w.heap.size + 3 ≤ _)); clear hown; obtain ⟨hc1, hf1⟩ := bcell hb1; have hz1 := hb1.size; (try simp at hz1); have s1_0 : w.heap.size < w1.heap.size := (by omega); have s1_1 : w.heap.size + 1 < w1.heap.size := (by omega); have s1_2 : w.heap.size + 2 < w1.heap.size := (by omega)) | (go_at_call 20; refine (specQueueOk_any l a c false rc _ (HR.out.ext bxt) Hsz.out true HQ).mono ?_; rintro e w2 ⟨rfl, hb2⟩; obtain ⟨hc2, hf2⟩ := bcell hb2; have hz2 := hb2.size; (try simp at hz2); have s2_0 : w.heap.size < w2.heap.size := (by omega); have s2_1 : w.heap.size + 1 < w2.heap.size := (by omega); have s2_2 : w.heap.size + 2 < w2.heap.size := (by omega); have s2_3 : w1.heap.size < w2.heap.size := (by omega)) | (go_at_call 21; refine (specNoteOk_any n _ hs true HN).mono ?_; rintro e w3 ⟨rfl, hb3⟩; obtain ⟨hc3, hf3⟩ := bcell hb3; have hz3 := hb3.size; (try simp at hz3); have s3_0 : w.heap.size < w3.heap.size := (by omega); have s3_1 : w.heap.size + 1 < w3.heap.size := (by omega); have s3_2 : w.heap.size + 2 < w3.heap.size := (by omega); have s3_3 : w1.heap.size < w3.heap.size := (by omega)) | (go_at_call 57; refine (l16Above_any l a c false rc n.n _ (HR.out.ext bxt) true HA).mono ?_; rintro e w4 ⟨rfl, hb4⟩; obtain ⟨hc4, hf4⟩ := bcell hb4; have hz4 := hb4.size; (try simp at hz4); have s4_0 : w.heap.size < w4.heap.size := (by omega); have s4_1 : w.heap.size + 1 < w4.heap.size := (by omega); have s4_2 : w.heap.size + 2 < w4.heap.size := (by omega); have s4_3 : w1.heap.size < w4.heap.size := (by omega)))
  refine wp_world (fun V hV => ?_)
  have hbV : Ext w1 V := by (rw [hV]; exact bxt)
  have Vq0 : V.cell? ⟨w.heap.size, 0, none⟩ = some (.slice a l.length c) := by (rw [hV]; simp [go_sem, *])
  have Vq1 : V.cell? ⟨w.heap.size, 1, none⟩ = some (.bool false) := by (rw [hV]; simp [go_sem, *])
  have Vq2 : V.cell? ⟨w.heap.size, 2, none⟩ = some (.bool rc) := by (rw [hV]; simp [go_sem, *])
  have Vn0 : V.cell? ⟨w.heap.size + 1, 0, none⟩ = some (.int .i64 n.kind) := by (rw [hV]; simp [go_sem, *])
  have Vn1 : V.cell? ⟨w.heap.size + 1, 1, none⟩ = some (.int .i64 n.n) := by (rw [hV]; simp [go_sem, *])
  have Vn2 : V.cell? ⟨w.heap.size + 1, 2, none⟩ = some (.int .i64 n.uid) := by (rw [hV]; simp [go_sem, *])
  have Vn3 : V.cell? ⟨w.heap.size + 1, 3, none⟩ = some (.string n.name) := by (rw [hV]; simp [go_sem, *])
  have Vr0 : V.cell? ⟨w.heap.size + 2, 0, none⟩ = some (.slice none 0 0) := by (rw [hV]; simp [go_sem, *])
  have Vfr0 : V.frozen? ⟨w.heap.size + 2, 0, none⟩ = false := by (rw [hV]; simp [go_sem, *])
  have Vr1 : V.cell? ⟨w.heap.size + 2, 1, none⟩ = some (.bool false) := by (rw [hV]; simp [go_sem, *])
  have Vfr1 : V.frozen? ⟨w.heap.size + 2, 1, none⟩ = false := by (rw [hV]; simp [go_sem, *])
  have Vr2 : V.cell? ⟨w.heap.size + 2, 2, none⟩ = some (.bool false) := by (rw [hV]; simp [go_sem, *])
  have Vfr2 : V.frozen? ⟨w.heap.size + 2, 2, none⟩ = false := by (rw [hV]; simp [go_sem, *])
  have Vo0 : V.cell? ⟨w1.heap.size, 0, none⟩ = some (.slice g l.length q) := by (rw [hV]; simp [go_sem, *])
  have Vfo0 : V.frozen? ⟨w1.heap.size, 0, none⟩ = false := by (rw [hV]; simp [go_sem, *])
  have Vo1 : V.cell? ⟨w1.heap.size, 1, none⟩ = some (.bool false) := by (rw [hV]; simp [go_sem, *])
  have Vfo1 : V.frozen? ⟨w1.heap.size, 1, none⟩ = false := by (rw [hV]; simp [go_sem, *])
  have Vo2 : V.cell? ⟨w1.heap.size, 2, none⟩ = some (.bool rc) := by (rw [hV]; simp [go_sem, *])
  have Vfo2 : V.frozen? ⟨w1.heap.size, 2, none⟩ = false := by (rw [hV]; simp [go_sem, *])
  have Vs3 : w1.heap.size < V.heap.size := by (rw [hV]; first | omega | (simp; omega))
  have Vs2 : w.heap.size + 2 < V.heap.size := by omega
  have Vs1 : w.heap.size + 1 < V.heap.size := by omega
  have Vs0 : w.heap.size < V.heap.size := by omega
  have HV : Hid (Own V (w.heap.size + 3) 36 4 (.slice g l.length q) l.length (l.flatMap DNote.cells)) := HO.out.ext (by (rw [hV]; exact bxt))
  have hwV : Ext w V := by (rw [hV]; exact bxt)
  clear hV
  obtain ⟨b, o, rfl, hb, hat⟩ := HR.out.ptr (by omega)
  obtain ⟨y0, y1, y2, y3⟩ := DNote.at (hat.ext hb hwV) K hKl
  have hbV2 : b < V.heap.size := by omega
  have HA9 := Lib.hid hat
  clear hat
  have x0 := fun y : ExtW V => (y.h.cell (p := ⟨b, o + K * 4, none⟩) hbV2).trans y0
  have x2 := fun y : ExtW V => (y.h.cell (p := ⟨b, o + K * 4 + 2, none⟩) hbV2).trans y2
  have xq := fun y : ExtW V => (y.h.cell (p := ⟨w.heap.size, 0, none⟩) Vs0).trans Vq0
  have xn := fun y : ExtW V => (y.h.cell (p := ⟨w.heap.size + 1, 2, none⟩) Vs1).trans Vn2
  refine wp_region_ext (by kernel_rfl) (by kernel_rfl) ?_
  repeat (go_big_quiet_step (fail))
  refine wpQuiet_nil ?_
  rintro _ ⟨⟨wq, hwq⟩, rfl⟩
  obtain ⟨hcq, hfq⟩ := bcell hwq
  have sq0 := Nat.lt_of_lt_of_le Vs0 hwq.size
  have sq1 := Nat.lt_of_lt_of_le Vs1 hwq.size
  have sq2 := Nat.lt_of_lt_of_le Vs2 hwq.size
  have sq3 := Nat.lt_of_lt_of_le Vs3 hwq.size
  go_upto_region 13 with fail
  refine wp_world (fun W hW => ?_)
  have hbW : Ext w1 W := by (rw [hW]; exact bxt)
  have Wq0 : W.cell? ⟨w.heap.size, 0, none⟩ = some (.slice (some ⟨b, o, none⟩) l.length c) := by (rw [hW]; simp [go_sem, *])
  have Wq1 : W.cell? ⟨w.heap.size, 1, none⟩ = some (.bool false) := by (rw [hW]; simp [go_sem, *])
  have Wq2 : W.cell? ⟨w.heap.size, 2, none⟩ = some (.bool rc) := by (rw [hW]; simp [go_sem, *])
  have Wn0 : W.cell? ⟨w.heap.size + 1, 0, none⟩ = some (.int .i64 n.kind) := by (rw [hW]; simp [go_sem, *])
  have Wn1 : W.cell? ⟨w.heap.size + 1, 1, none⟩ = some (.int .i64 n.n) := by (rw [hW]; simp [go_sem, *])
  have Wn2 : W.cell? ⟨w.heap.size + 1, 2, none⟩ = some (.int .i64 n.uid) := by (rw [hW]; simp [go_sem, *])
  have Wn3 : W.cell? ⟨w.heap.size + 1, 3, none⟩ = some (.string n.name) := by (rw [hW]; simp [go_sem, *])
  have Wr0 : W.cell? ⟨w.heap.size + 2, 0, none⟩ = some (.slice none 0 0) := by (rw [hW]; simp [go_sem, *])
  have Wfr0 : W.frozen? ⟨w.heap.size + 2, 0, none⟩ = false := by (rw [hW]; simp [go_sem, *])
  have Wr1 : W.cell? ⟨w.heap.size + 2, 1, none⟩ = some (.bool false) := by (rw [hW]; simp [go_sem, *])
  have Wfr1 : W.frozen? ⟨w.heap.size + 2, 1, none⟩ = false := by (rw [hW]; simp [go_sem, *])
  have Wr2 : W.cell? ⟨w.heap.size + 2, 2, none⟩ = some (.bool false) := by (rw [hW]; simp [go_sem, *])
  have Wfr2 : W.frozen? ⟨w.heap.size + 2, 2, none⟩ = false := by (rw [hW]; simp [go_sem, *])
  have Wo0 : W.cell? ⟨w1.heap.size, 0, none⟩ = some (.slice g l.length q) := by (rw [hW]; simp [go_sem, *])
  have Wfo0 : W.frozen? ⟨w1.heap.size, 0, none⟩ = false := by (rw [hW]; simp [go_sem, *])
  have Wo1 : W.cell? ⟨w1.heap.size, 1, none⟩ = some (.bool false) := by (rw [hW]; simp [go_sem, *])
  have Wfo1 : W.frozen? ⟨w1.heap.size, 1, none⟩ = false := by (rw [hW]; simp [go_sem, *])
  have Wo2 : W.cell? ⟨w1.heap.size, 2, none⟩ = some (.bool rc) := by (rw [hW]; simp [go_sem, *])
  have Wfo2 : W.frozen? ⟨w1.heap.size, 2, none⟩ = false := by (rw [hW]; simp [go_sem, *])
  have Ws3 : w1.heap.size < W.heap.size := by (rw [hW]; first | omega | (simp; omega))
  have Ws2 : w.heap.size + 2 < W.heap.size := by omega
  have Ws1 : w.heap.size + 1 < W.heap.size := by omega
  have Ws0 : w.heap.size < W.heap.size := by omega
  have HW : Hid (Own W (w.heap.size + 3) 36 4 (.slice g l.length q) l.length (l.flatMap DNote.cells)) := HO.out.ext (by (rw [hW]; exact bxt))
  have hwW : Ext w W := by (rw [hW]; exact bxt)
  clear hW
  go_region_held3 (fun w' => w'.cell? ⟨w.heap.size, 0, none⟩ = some (.slice (some ⟨b, o, none⟩) l.length c) ∧ w'.cell? ⟨w.heap.size, 1, none⟩ = some (.bool false) ∧ w'.cell? ⟨w.heap.size, 2, none⟩ = some (.bool rc)) (refine ⟨?_, ?_, ?_⟩ <;> (repeat (first | with_reducible exact Wq0 | with_reducible exact Wq1 | with_reducible exact Wq2 | with_reducible assumption | with_reducible refine keep_set ?_ (by omega) | with_reducible refine keep_drew ?_))) ((go_at_call 58; refine (l16Only_any l (some ⟨b, o, none⟩) c false rc false _ (HR.out.ext (show Ext w _ from bxt)) hl r HF).mono ?_; rintro e w6 ⟨g6, q6, rfl, hown6, hb6⟩; have p0 := (hb6.cell (p := ⟨w.heap.size, 0, none⟩) Ws0).trans Wq0; have dr0 := (hb6.cell (p := ⟨w.heap.size + 2, 0, none⟩) Ws2).trans Wr0; have er0 := (hb6.frozen (p := ⟨w.heap.size + 2, 0, none⟩) Ws2).trans Wfr0; have p1 := (hb6.cell (p := ⟨w.heap.size, 1, none⟩) Ws0).trans Wq1; have dr1 := (hb6.cell (p := ⟨w.heap.size + 2, 1, none⟩) Ws2).trans Wr1; have er1 := (hb6.frozen (p := ⟨w.heap.size + 2, 1, none⟩) Ws2).trans Wfr1; have p2 := (hb6.cell (p := ⟨w.heap.size, 2, none⟩) Ws0).trans Wq2; have dr2 := (hb6.cell (p := ⟨w.heap.size + 2, 2, none⟩) Ws2).trans Wr2; have er2 := (hb6.frozen (p := ⟨w.heap.size + 2, 2, none⟩) Ws2).trans Wfr2; have s60 : w.heap.size + 2 < w6.heap.size := (by have hss := hb6.size; simp at hss; omega); have H6 := Lib.hid (hown6.le (by simp; omega : w.heap.size + 3 ≤ _)); clear hown6))
  all_goals go_wp2_with fail
  unfold PushPost
  refine bodyPost_ret (v := .agg #[.slice g6 r.length q6, .bool true, .bool rc]) (by simp [results, Try.results18, go_sem, *]) rfl ⟨g6, q6, rfl, ?_, ?_⟩
  · refine Own.le (B := w.heap.size + 3) ?_ (by omega)
    try dsimp only
    exact (by repeat' (first | with_reducible exact H6.out | with_reducible refine Own.set_below ?_ smx _ | with_reducible refine Own.alloc1 ?_ _ | with_reducible refine Own.drew1 ?_ | with_reducible refine Own.drewN1 ?_ | with_reducible refine Own.ext ?_ (by assumption)))
  · exact bxt

set_option maxRecDepth 100000 in
set_option maxHeartbeats 4000000 in
theorem specPush_g2 (l : List DNote) (a : Option Addr) (c : Nat) (rb rc : Bool) (n : DNote) (w : World) (R : Rd w a c 4 l.length (l.flatMap DNote.cells)) (hl : l.length ≤ 1048576) (hn : ∀ y ∈ l, y.name.size ≤ 9223372036854775807) (hs : n.name.size ≤ 9223372036854775807) (K : Nat) (hKl : K < l.length) (hK : l.length = K + 1) (t1 : l[K].kind = 1) (t2 : l[K].uid ≠ n.uid) (hq : QueueP l rb rc) (hp : NoteP n) (hk : n.kind = 1) (ha : l.any (boxIn n.n) = false) (hb : rb = false) (h6 : ¬ l.length = 6) :
    Calls Try.prog 18 #[.agg #[.slice a l.length c, .bool rb, .bool rc], .agg #[.int .i64 n.kind, .int .i64 n.n, .int .i64 n.uid, .string n.name]] w (PushPost 36 ⟨l ++ [n], false, rc⟩ w) := by
  have hcm := R.cm
  have hnc := R.nc
  have HR := Lib.hid R
  clear R
  have CL := fun W (hW : Ext w W) => l16Copy_any l a c rb rc W (HR.out.ext hW) (by omega)
  have HC := Lib.hid CL
  clear CL
  have Hsz := Lib.hid hn
  clear hn
  subst hb
  have HQ : Hid (Tells true (QueueP l false rc)) := ⟨fun _ => hq, fun _ => rfl⟩
  have HN : Hid (Tells true (NoteP n)) := ⟨fun _ => hp, fun _ => rfl⟩
  clear hq hp
  have k1 : (n.kind == 1) = true := by simp [hk]
  clear hk
  have HA : Hid (l.any (boxIn n.n) = !true) := ha
  clear ha
  have u0 : decide ((0 : Int) < (l.length : Int)) = true := decide_eq_true (by omega)
  have u7 : decide (0 < l.length) = true := decide_eq_true (by omega)
  have u4 : IntKind.i64.wrap ((l.length : Int) - 1) = (K : Int) := by rw [IntWalk.i64_in _ (by omega)]; omega
  have u5 : (0 : Int) ≤ (K : Int) := by omega
  have u6 : (K : Int) < (l.length : Int) := by omega
  have u1 : (l[K].kind == 1) = true := by simpa using t1
  have u2 : (l[K].uid == n.uid) = false := by simpa using t2
  have HK := Lib.hid hK
  clear hK
  clear t1 t2
  have m6 : ((l.length : Int) == 6) = false := by (simp; omega)
  clear h6
  go_enter Try.func18, Try.ntmps18
  go_upto_region 9 with (first | (go_at_call 56; refine (HC.out _ bxt).mono ?_; rintro e w1 ⟨g, q, rfl, hown, hb1⟩; have HO := Lib.hid (hown.le (by first | (simp; done) | (simp; omega) | omega : w.heap.size + 3 ≤ _)); clear hown; obtain ⟨hc1, hf1⟩ := bcell hb1; have hz1 := hb1.size; (try simp at hz1); have s1_0 : w.heap.size < w1.heap.size := (by omega); have s1_1 : w.heap.size + 1 < w1.heap.size := (by omega); have s1_2 : w.heap.size + 2 < w1.heap.size := (by omega)) | (go_at_call 20; refine (specQueueOk_any l a c false rc _ (HR.out.ext bxt) Hsz.out true HQ).mono ?_; rintro e w2 ⟨rfl, hb2⟩; obtain ⟨hc2, hf2⟩ := bcell hb2; have hz2 := hb2.size; (try simp at hz2); have s2_0 : w.heap.size < w2.heap.size := (by omega); have s2_1 : w.heap.size + 1 < w2.heap.size := (by omega); have s2_2 : w.heap.size + 2 < w2.heap.size := (by omega); have s2_3 : w1.heap.size < w2.heap.size := (by omega)) | (go_at_call 21; refine (specNoteOk_any n _ hs true HN).mono ?_; rintro e w3 ⟨rfl, hb3⟩; obtain ⟨hc3, hf3⟩ := bcell hb3; have hz3 := hb3.size; (try simp at hz3); have s3_0 : w.heap.size < w3.heap.size := (by omega); have s3_1 : w.heap.size + 1 < w3.heap.size := (by omega); have s3_2 : w.heap.size + 2 < w3.heap.size := (by omega); have s3_3 : w1.heap.size < w3.heap.size := (by omega)) | (go_at_call 57; refine (l16Above_any l a c false rc n.n _ (HR.out.ext bxt) true HA).mono ?_; rintro e w4 ⟨rfl, hb4⟩; obtain ⟨hc4, hf4⟩ := bcell hb4; have hz4 := hb4.size; (try simp at hz4); have s4_0 : w.heap.size < w4.heap.size := (by omega); have s4_1 : w.heap.size + 1 < w4.heap.size := (by omega); have s4_2 : w.heap.size + 2 < w4.heap.size := (by omega); have s4_3 : w1.heap.size < w4.heap.size := (by omega)))
  refine wp_world (fun V hV => ?_)
  have hbV : Ext w1 V := by (rw [hV]; exact bxt)
  have Vq0 : V.cell? ⟨w.heap.size, 0, none⟩ = some (.slice a l.length c) := by (rw [hV]; simp [go_sem, *])
  have Vq1 : V.cell? ⟨w.heap.size, 1, none⟩ = some (.bool false) := by (rw [hV]; simp [go_sem, *])
  have Vq2 : V.cell? ⟨w.heap.size, 2, none⟩ = some (.bool rc) := by (rw [hV]; simp [go_sem, *])
  have Vn0 : V.cell? ⟨w.heap.size + 1, 0, none⟩ = some (.int .i64 n.kind) := by (rw [hV]; simp [go_sem, *])
  have Vn1 : V.cell? ⟨w.heap.size + 1, 1, none⟩ = some (.int .i64 n.n) := by (rw [hV]; simp [go_sem, *])
  have Vn2 : V.cell? ⟨w.heap.size + 1, 2, none⟩ = some (.int .i64 n.uid) := by (rw [hV]; simp [go_sem, *])
  have Vn3 : V.cell? ⟨w.heap.size + 1, 3, none⟩ = some (.string n.name) := by (rw [hV]; simp [go_sem, *])
  have Vr0 : V.cell? ⟨w.heap.size + 2, 0, none⟩ = some (.slice none 0 0) := by (rw [hV]; simp [go_sem, *])
  have Vfr0 : V.frozen? ⟨w.heap.size + 2, 0, none⟩ = false := by (rw [hV]; simp [go_sem, *])
  have Vr1 : V.cell? ⟨w.heap.size + 2, 1, none⟩ = some (.bool false) := by (rw [hV]; simp [go_sem, *])
  have Vfr1 : V.frozen? ⟨w.heap.size + 2, 1, none⟩ = false := by (rw [hV]; simp [go_sem, *])
  have Vr2 : V.cell? ⟨w.heap.size + 2, 2, none⟩ = some (.bool false) := by (rw [hV]; simp [go_sem, *])
  have Vfr2 : V.frozen? ⟨w.heap.size + 2, 2, none⟩ = false := by (rw [hV]; simp [go_sem, *])
  have Vo0 : V.cell? ⟨w1.heap.size, 0, none⟩ = some (.slice g l.length q) := by (rw [hV]; simp [go_sem, *])
  have Vfo0 : V.frozen? ⟨w1.heap.size, 0, none⟩ = false := by (rw [hV]; simp [go_sem, *])
  have Vo1 : V.cell? ⟨w1.heap.size, 1, none⟩ = some (.bool false) := by (rw [hV]; simp [go_sem, *])
  have Vfo1 : V.frozen? ⟨w1.heap.size, 1, none⟩ = false := by (rw [hV]; simp [go_sem, *])
  have Vo2 : V.cell? ⟨w1.heap.size, 2, none⟩ = some (.bool rc) := by (rw [hV]; simp [go_sem, *])
  have Vfo2 : V.frozen? ⟨w1.heap.size, 2, none⟩ = false := by (rw [hV]; simp [go_sem, *])
  have Vs3 : w1.heap.size < V.heap.size := by (rw [hV]; first | omega | (simp; omega))
  have Vs2 : w.heap.size + 2 < V.heap.size := by omega
  have Vs1 : w.heap.size + 1 < V.heap.size := by omega
  have Vs0 : w.heap.size < V.heap.size := by omega
  have HV : Hid (Own V (w.heap.size + 3) 36 4 (.slice g l.length q) l.length (l.flatMap DNote.cells)) := HO.out.ext (by (rw [hV]; exact bxt))
  have hwV : Ext w V := by (rw [hV]; exact bxt)
  clear hV
  obtain ⟨b, o, rfl, hb, hat⟩ := HR.out.ptr (by omega)
  obtain ⟨y0, y1, y2, y3⟩ := DNote.at (hat.ext hb hwV) K hKl
  have hbV2 : b < V.heap.size := by omega
  have HA9 := Lib.hid hat
  clear hat
  have x0 := fun y : ExtW V => (y.h.cell (p := ⟨b, o + K * 4, none⟩) hbV2).trans y0
  have x2 := fun y : ExtW V => (y.h.cell (p := ⟨b, o + K * 4 + 2, none⟩) hbV2).trans y2
  have xq := fun y : ExtW V => (y.h.cell (p := ⟨w.heap.size, 0, none⟩) Vs0).trans Vq0
  have xn := fun y : ExtW V => (y.h.cell (p := ⟨w.heap.size + 1, 2, none⟩) Vs1).trans Vn2
  refine wp_region_ext (by kernel_rfl) (by kernel_rfl) ?_
  repeat (go_big_quiet_step (fail))
  refine wpQuiet_nil ?_
  rintro _ ⟨⟨wq, hwq⟩, rfl⟩
  obtain ⟨hcq, hfq⟩ := bcell hwq
  have sq0 := Nat.lt_of_lt_of_le Vs0 hwq.size
  have sq1 := Nat.lt_of_lt_of_le Vs1 hwq.size
  have sq2 := Nat.lt_of_lt_of_le Vs2 hwq.size
  have sq3 := Nat.lt_of_lt_of_le Vs3 hwq.size
  go_upto_region 18 with fail
  refine wp_world (fun W hW => ?_)
  have hbW : Ext w1 W := by (rw [hW]; exact bxt)
  have Wq0 : W.cell? ⟨w.heap.size, 0, none⟩ = some (.slice (some ⟨b, o, none⟩) l.length c) := by (rw [hW]; simp [go_sem, *])
  have Wq1 : W.cell? ⟨w.heap.size, 1, none⟩ = some (.bool false) := by (rw [hW]; simp [go_sem, *])
  have Wq2 : W.cell? ⟨w.heap.size, 2, none⟩ = some (.bool rc) := by (rw [hW]; simp [go_sem, *])
  have Wn0 : W.cell? ⟨w.heap.size + 1, 0, none⟩ = some (.int .i64 n.kind) := by (rw [hW]; simp [go_sem, *])
  have Wn1 : W.cell? ⟨w.heap.size + 1, 1, none⟩ = some (.int .i64 n.n) := by (rw [hW]; simp [go_sem, *])
  have Wn2 : W.cell? ⟨w.heap.size + 1, 2, none⟩ = some (.int .i64 n.uid) := by (rw [hW]; simp [go_sem, *])
  have Wn3 : W.cell? ⟨w.heap.size + 1, 3, none⟩ = some (.string n.name) := by (rw [hW]; simp [go_sem, *])
  have Wr0 : W.cell? ⟨w.heap.size + 2, 0, none⟩ = some (.slice none 0 0) := by (rw [hW]; simp [go_sem, *])
  have Wfr0 : W.frozen? ⟨w.heap.size + 2, 0, none⟩ = false := by (rw [hW]; simp [go_sem, *])
  have Wr1 : W.cell? ⟨w.heap.size + 2, 1, none⟩ = some (.bool false) := by (rw [hW]; simp [go_sem, *])
  have Wfr1 : W.frozen? ⟨w.heap.size + 2, 1, none⟩ = false := by (rw [hW]; simp [go_sem, *])
  have Wr2 : W.cell? ⟨w.heap.size + 2, 2, none⟩ = some (.bool false) := by (rw [hW]; simp [go_sem, *])
  have Wfr2 : W.frozen? ⟨w.heap.size + 2, 2, none⟩ = false := by (rw [hW]; simp [go_sem, *])
  have Wo0 : W.cell? ⟨w1.heap.size, 0, none⟩ = some (.slice g l.length q) := by (rw [hW]; simp [go_sem, *])
  have Wfo0 : W.frozen? ⟨w1.heap.size, 0, none⟩ = false := by (rw [hW]; simp [go_sem, *])
  have Wo1 : W.cell? ⟨w1.heap.size, 1, none⟩ = some (.bool false) := by (rw [hW]; simp [go_sem, *])
  have Wfo1 : W.frozen? ⟨w1.heap.size, 1, none⟩ = false := by (rw [hW]; simp [go_sem, *])
  have Wo2 : W.cell? ⟨w1.heap.size, 2, none⟩ = some (.bool rc) := by (rw [hW]; simp [go_sem, *])
  have Wfo2 : W.frozen? ⟨w1.heap.size, 2, none⟩ = false := by (rw [hW]; simp [go_sem, *])
  have Ws3 : w1.heap.size < W.heap.size := by (rw [hW]; first | omega | (simp; omega))
  have Ws2 : w.heap.size + 2 < W.heap.size := by omega
  have Ws1 : w.heap.size + 1 < W.heap.size := by omega
  have Ws0 : w.heap.size < W.heap.size := by omega
  have HW : Hid (Own W (w.heap.size + 3) 36 4 (.slice g l.length q) l.length (l.flatMap DNote.cells)) := HO.out.ext (by (rw [hW]; exact bxt))
  have hwW : Ext w W := by (rw [hW]; exact bxt)
  clear hW
  have hne := HO.out.ne_ge (b := w1.heap.size) (Nat.le_refl _)
  have HNE := Lib.hid hne
  clear hne
  have fo0 : FOff (w.heap.size) (.slice g l.length q) := FOff.lt HW.out (by omega)
  have fo1 : FOff (w.heap.size + 1) (.slice g l.length q) := FOff.lt HW.out (by omega)
  have fo2 : FOff (w.heap.size + 2) (.slice g l.length q) := FOff.lt HW.out (by omega)
  have fo3 : FOff (w1.heap.size) (.slice g l.length q) := HNE.out
  obtain ⟨i0, hi0, hz0, hz1, hz2⟩ := info_parts info_Note
  go_wp2_with (go_loud (at_builtin; refine wpList_appL (v := .slice g l.length q) (n := l.length) (xs := l.flatMap DNote.cells) (s := 4) (B := w.heap.size + 3) rfl _ _ _ rfl 36 i0 _ _ Try.underlying32 hi0 hz0 hz1 hz2 rfl (by decide) rfl (HW.out.ext bxt) (some ⟨W.heap.size, 0, none⟩) 1 1 n.cells rfl (Rd.lit _ _ _ 1 4 _ (by first | rfl | simp) rfl (by omega)) (DNote.one _) (by omega) (by omega) (by simp; omega) ?_; intro g2 q2 w7 hown2 hg2 hp2; obtain ⟨hc7, hf7⟩ := grown_foff hg2; have dr0 := (hc7 _ 0 (by simp; omega) fo2).trans (keep_alloc Wr0); have er0 := (hf7 _ 0 (by simp; omega) fo2).trans (keepf_alloc Wfr0 Ws2); have dr1 := (hc7 _ 1 (by simp; omega) fo2).trans (keep_alloc Wr1); have er1 := (hf7 _ 1 (by simp; omega) fo2).trans (keepf_alloc Wfr1 Ws2); have dr2 := (hc7 _ 2 (by simp; omega) fo2).trans (keep_alloc Wr2); have er2 := (hf7 _ 2 (by simp; omega) fo2).trans (keepf_alloc Wfr2 Ws2); have do0 := (hc7 _ 0 (by simp; omega) fo3).trans (keep_alloc Wo0); have eo0 := (hf7 _ 0 (by simp; omega) fo3).trans (keepf_alloc Wfo0 Ws3); have do1 := (hc7 _ 1 (by simp; omega) fo3).trans (keep_alloc Wo1); have eo1 := (hf7 _ 1 (by simp; omega) fo3).trans (keepf_alloc Wfo1 Ws3); have do2 := (hc7 _ 2 (by simp; omega) fo3).trans (keep_alloc Wo2); have eo2 := (hf7 _ 2 (by simp; omega) fo3).trans (keepf_alloc Wfo2 Ws3); clear hc7 hf7; have hz7 := hg2.size; (try simp at hz7); have s70 : w1.heap.size < w7.heap.size := (by omega); have s71 : w.heap.size + 2 < w7.heap.size := (by omega); have s72 : w.heap.size + 1 < w7.heap.size := (by omega); have s73 : w.heap.size < w7.heap.size := (by omega); have hbel : Ext w w7 := below_foot (B := w.heap.size + 3) (show Ext w _ from bxt) (show Own _ (w.heap.size + 3) 36 4 (.slice g l.length q) l.length (l.flatMap DNote.cells) from HW.out.ext bxt) (by omega) (by simp; omega) hg2; have hno : foot (.slice g2 (l.length + 1) q2) ≠ some w1.heap.size := (fun e => by rcases hp2 _ e with h | h; exact HNE.out h; simp at h; omega); have HNO := Lib.hid hno; have H2 := Lib.hid hown2; clear hown2 hg2 hp2 hno))
  have H3 : Hid (Own w7 (w.heap.size + 3) 36 4 (.slice g2 (l ++ [n]).length q2) (l ++ [n]).length ((l ++ [n]).flatMap DNote.cells)) := by simpa [DNote.cells, Hid] using H2.out
  unfold PushPost
  refine bodyPost_ret (v := .agg #[.slice g2 (l ++ [n]).length q2, .bool false, .bool rc]) (by simp [results, Try.results18, go_sem, *]) rfl ⟨g2, q2, rfl, ?_, ?_⟩
  · refine Own.le (B := w.heap.size + 3) ?_ (by omega)
    try dsimp only
    exact (by repeat' (first | with_reducible exact H3.out | with_reducible refine Own.set_below ?_ smx _ | with_reducible refine Own.set_off ?_ (by with_reducible exact by simpa using HNO.out) _ | with_reducible refine Own.alloc1 ?_ _ | with_reducible refine Own.drew1 ?_ | with_reducible refine Own.drewN1 ?_ | with_reducible refine Own.ext ?_ (by assumption)))
  · exact bxt

set_option maxRecDepth 100000 in
set_option maxHeartbeats 4000000 in
theorem specPush_f2 (l : List DNote) (a : Option Addr) (c : Nat) (rb rc : Bool) (n : DNote) (w : World) (R : Rd w a c 4 l.length (l.flatMap DNote.cells)) (hl : l.length ≤ 1048576) (hn : ∀ y ∈ l, y.name.size ≤ 9223372036854775807) (hs : n.name.size ≤ 9223372036854775807) (r : List DNote) (HF : Hid (l.filter (onlyIs false) = r)) (K : Nat) (hKl : K < l.length) (hK : l.length = K + 1) (t1 : l[K].kind = 1) (t2 : l[K].uid ≠ n.uid) (hq : QueueP l rb rc) (hp : NoteP n) (hk : n.kind = 1) (ha : l.any (boxIn n.n) = false) (hb : rb = false) (h6 : l.length = 6) :
    Calls Try.prog 18 #[.agg #[.slice a l.length c, .bool rb, .bool rc], .agg #[.int .i64 n.kind, .int .i64 n.n, .int .i64 n.uid, .string n.name]] w (PushPost 36 ⟨r, true, rc⟩ w) := by
  have hcm := R.cm
  have hnc := R.nc
  have HR := Lib.hid R
  clear R
  have CL := fun W (hW : Ext w W) => l16Copy_any l a c rb rc W (HR.out.ext hW) (by omega)
  have HC := Lib.hid CL
  clear CL
  have Hsz := Lib.hid hn
  clear hn
  subst hb
  have HQ : Hid (Tells true (QueueP l false rc)) := ⟨fun _ => hq, fun _ => rfl⟩
  have HN : Hid (Tells true (NoteP n)) := ⟨fun _ => hp, fun _ => rfl⟩
  clear hq hp
  have k1 : (n.kind == 1) = true := by simp [hk]
  clear hk
  have HA : Hid (l.any (boxIn n.n) = !true) := ha
  clear ha
  have u0 : decide ((0 : Int) < (l.length : Int)) = true := decide_eq_true (by omega)
  have u7 : decide (0 < l.length) = true := decide_eq_true (by omega)
  have u4 : IntKind.i64.wrap ((l.length : Int) - 1) = (K : Int) := by rw [IntWalk.i64_in _ (by omega)]; omega
  have u5 : (0 : Int) ≤ (K : Int) := by omega
  have u6 : (K : Int) < (l.length : Int) := by omega
  have u1 : (l[K].kind == 1) = true := by simpa using t1
  have u2 : (l[K].uid == n.uid) = false := by simpa using t2
  have HK := Lib.hid hK
  clear hK
  clear t1 t2
  have m6 : ((l.length : Int) == 6) = true := by (simp; omega)
  clear h6
  go_enter Try.func18, Try.ntmps18
  go_upto_region 9 with (first | (go_at_call 56; refine (HC.out _ bxt).mono ?_; rintro e w1 ⟨g, q, rfl, hown, hb1⟩; have HO := Lib.hid (hown.le (by first | (simp; done) | (simp; omega) | omega : w.heap.size + 3 ≤ _)); clear hown; obtain ⟨hc1, hf1⟩ := bcell hb1; have hz1 := hb1.size; (try simp at hz1); have s1_0 : w.heap.size < w1.heap.size := (by omega); have s1_1 : w.heap.size + 1 < w1.heap.size := (by omega); have s1_2 : w.heap.size + 2 < w1.heap.size := (by omega)) | (go_at_call 20; refine (specQueueOk_any l a c false rc _ (HR.out.ext bxt) Hsz.out true HQ).mono ?_; rintro e w2 ⟨rfl, hb2⟩; obtain ⟨hc2, hf2⟩ := bcell hb2; have hz2 := hb2.size; (try simp at hz2); have s2_0 : w.heap.size < w2.heap.size := (by omega); have s2_1 : w.heap.size + 1 < w2.heap.size := (by omega); have s2_2 : w.heap.size + 2 < w2.heap.size := (by omega); have s2_3 : w1.heap.size < w2.heap.size := (by omega)) | (go_at_call 21; refine (specNoteOk_any n _ hs true HN).mono ?_; rintro e w3 ⟨rfl, hb3⟩; obtain ⟨hc3, hf3⟩ := bcell hb3; have hz3 := hb3.size; (try simp at hz3); have s3_0 : w.heap.size < w3.heap.size := (by omega); have s3_1 : w.heap.size + 1 < w3.heap.size := (by omega); have s3_2 : w.heap.size + 2 < w3.heap.size := (by omega); have s3_3 : w1.heap.size < w3.heap.size := (by omega)) | (go_at_call 57; refine (l16Above_any l a c false rc n.n _ (HR.out.ext bxt) true HA).mono ?_; rintro e w4 ⟨rfl, hb4⟩; obtain ⟨hc4, hf4⟩ := bcell hb4; have hz4 := hb4.size; (try simp at hz4); have s4_0 : w.heap.size < w4.heap.size := (by omega); have s4_1 : w.heap.size + 1 < w4.heap.size := (by omega); have s4_2 : w.heap.size + 2 < w4.heap.size := (by omega); have s4_3 : w1.heap.size < w4.heap.size := (by omega)))
  refine wp_world (fun V hV => ?_)
  have hbV : Ext w1 V := by (rw [hV]; exact bxt)
  have Vq0 : V.cell? ⟨w.heap.size, 0, none⟩ = some (.slice a l.length c) := by (rw [hV]; simp [go_sem, *])
  have Vq1 : V.cell? ⟨w.heap.size, 1, none⟩ = some (.bool false) := by (rw [hV]; simp [go_sem, *])
  have Vq2 : V.cell? ⟨w.heap.size, 2, none⟩ = some (.bool rc) := by (rw [hV]; simp [go_sem, *])
  have Vn0 : V.cell? ⟨w.heap.size + 1, 0, none⟩ = some (.int .i64 n.kind) := by (rw [hV]; simp [go_sem, *])
  have Vn1 : V.cell? ⟨w.heap.size + 1, 1, none⟩ = some (.int .i64 n.n) := by (rw [hV]; simp [go_sem, *])
  have Vn2 : V.cell? ⟨w.heap.size + 1, 2, none⟩ = some (.int .i64 n.uid) := by (rw [hV]; simp [go_sem, *])
  have Vn3 : V.cell? ⟨w.heap.size + 1, 3, none⟩ = some (.string n.name) := by (rw [hV]; simp [go_sem, *])
  have Vr0 : V.cell? ⟨w.heap.size + 2, 0, none⟩ = some (.slice none 0 0) := by (rw [hV]; simp [go_sem, *])
  have Vfr0 : V.frozen? ⟨w.heap.size + 2, 0, none⟩ = false := by (rw [hV]; simp [go_sem, *])
  have Vr1 : V.cell? ⟨w.heap.size + 2, 1, none⟩ = some (.bool false) := by (rw [hV]; simp [go_sem, *])
  have Vfr1 : V.frozen? ⟨w.heap.size + 2, 1, none⟩ = false := by (rw [hV]; simp [go_sem, *])
  have Vr2 : V.cell? ⟨w.heap.size + 2, 2, none⟩ = some (.bool false) := by (rw [hV]; simp [go_sem, *])
  have Vfr2 : V.frozen? ⟨w.heap.size + 2, 2, none⟩ = false := by (rw [hV]; simp [go_sem, *])
  have Vo0 : V.cell? ⟨w1.heap.size, 0, none⟩ = some (.slice g l.length q) := by (rw [hV]; simp [go_sem, *])
  have Vfo0 : V.frozen? ⟨w1.heap.size, 0, none⟩ = false := by (rw [hV]; simp [go_sem, *])
  have Vo1 : V.cell? ⟨w1.heap.size, 1, none⟩ = some (.bool false) := by (rw [hV]; simp [go_sem, *])
  have Vfo1 : V.frozen? ⟨w1.heap.size, 1, none⟩ = false := by (rw [hV]; simp [go_sem, *])
  have Vo2 : V.cell? ⟨w1.heap.size, 2, none⟩ = some (.bool rc) := by (rw [hV]; simp [go_sem, *])
  have Vfo2 : V.frozen? ⟨w1.heap.size, 2, none⟩ = false := by (rw [hV]; simp [go_sem, *])
  have Vs3 : w1.heap.size < V.heap.size := by (rw [hV]; first | omega | (simp; omega))
  have Vs2 : w.heap.size + 2 < V.heap.size := by omega
  have Vs1 : w.heap.size + 1 < V.heap.size := by omega
  have Vs0 : w.heap.size < V.heap.size := by omega
  have HV : Hid (Own V (w.heap.size + 3) 36 4 (.slice g l.length q) l.length (l.flatMap DNote.cells)) := HO.out.ext (by (rw [hV]; exact bxt))
  have hwV : Ext w V := by (rw [hV]; exact bxt)
  clear hV
  obtain ⟨b, o, rfl, hb, hat⟩ := HR.out.ptr (by omega)
  obtain ⟨y0, y1, y2, y3⟩ := DNote.at (hat.ext hb hwV) K hKl
  have hbV2 : b < V.heap.size := by omega
  have HA9 := Lib.hid hat
  clear hat
  have x0 := fun y : ExtW V => (y.h.cell (p := ⟨b, o + K * 4, none⟩) hbV2).trans y0
  have x2 := fun y : ExtW V => (y.h.cell (p := ⟨b, o + K * 4 + 2, none⟩) hbV2).trans y2
  have xq := fun y : ExtW V => (y.h.cell (p := ⟨w.heap.size, 0, none⟩) Vs0).trans Vq0
  have xn := fun y : ExtW V => (y.h.cell (p := ⟨w.heap.size + 1, 2, none⟩) Vs1).trans Vn2
  refine wp_region_ext (by kernel_rfl) (by kernel_rfl) ?_
  repeat (go_big_quiet_step (fail))
  refine wpQuiet_nil ?_
  rintro _ ⟨⟨wq, hwq⟩, rfl⟩
  obtain ⟨hcq, hfq⟩ := bcell hwq
  have sq0 := Nat.lt_of_lt_of_le Vs0 hwq.size
  have sq1 := Nat.lt_of_lt_of_le Vs1 hwq.size
  have sq2 := Nat.lt_of_lt_of_le Vs2 hwq.size
  have sq3 := Nat.lt_of_lt_of_le Vs3 hwq.size
  go_upto_region 13 with fail
  refine wp_world (fun W hW => ?_)
  have hbW : Ext w1 W := by (rw [hW]; exact bxt)
  have Wq0 : W.cell? ⟨w.heap.size, 0, none⟩ = some (.slice (some ⟨b, o, none⟩) l.length c) := by (rw [hW]; simp [go_sem, *])
  have Wq1 : W.cell? ⟨w.heap.size, 1, none⟩ = some (.bool false) := by (rw [hW]; simp [go_sem, *])
  have Wq2 : W.cell? ⟨w.heap.size, 2, none⟩ = some (.bool rc) := by (rw [hW]; simp [go_sem, *])
  have Wn0 : W.cell? ⟨w.heap.size + 1, 0, none⟩ = some (.int .i64 n.kind) := by (rw [hW]; simp [go_sem, *])
  have Wn1 : W.cell? ⟨w.heap.size + 1, 1, none⟩ = some (.int .i64 n.n) := by (rw [hW]; simp [go_sem, *])
  have Wn2 : W.cell? ⟨w.heap.size + 1, 2, none⟩ = some (.int .i64 n.uid) := by (rw [hW]; simp [go_sem, *])
  have Wn3 : W.cell? ⟨w.heap.size + 1, 3, none⟩ = some (.string n.name) := by (rw [hW]; simp [go_sem, *])
  have Wr0 : W.cell? ⟨w.heap.size + 2, 0, none⟩ = some (.slice none 0 0) := by (rw [hW]; simp [go_sem, *])
  have Wfr0 : W.frozen? ⟨w.heap.size + 2, 0, none⟩ = false := by (rw [hW]; simp [go_sem, *])
  have Wr1 : W.cell? ⟨w.heap.size + 2, 1, none⟩ = some (.bool false) := by (rw [hW]; simp [go_sem, *])
  have Wfr1 : W.frozen? ⟨w.heap.size + 2, 1, none⟩ = false := by (rw [hW]; simp [go_sem, *])
  have Wr2 : W.cell? ⟨w.heap.size + 2, 2, none⟩ = some (.bool false) := by (rw [hW]; simp [go_sem, *])
  have Wfr2 : W.frozen? ⟨w.heap.size + 2, 2, none⟩ = false := by (rw [hW]; simp [go_sem, *])
  have Wo0 : W.cell? ⟨w1.heap.size, 0, none⟩ = some (.slice g l.length q) := by (rw [hW]; simp [go_sem, *])
  have Wfo0 : W.frozen? ⟨w1.heap.size, 0, none⟩ = false := by (rw [hW]; simp [go_sem, *])
  have Wo1 : W.cell? ⟨w1.heap.size, 1, none⟩ = some (.bool false) := by (rw [hW]; simp [go_sem, *])
  have Wfo1 : W.frozen? ⟨w1.heap.size, 1, none⟩ = false := by (rw [hW]; simp [go_sem, *])
  have Wo2 : W.cell? ⟨w1.heap.size, 2, none⟩ = some (.bool rc) := by (rw [hW]; simp [go_sem, *])
  have Wfo2 : W.frozen? ⟨w1.heap.size, 2, none⟩ = false := by (rw [hW]; simp [go_sem, *])
  have Ws3 : w1.heap.size < W.heap.size := by (rw [hW]; first | omega | (simp; omega))
  have Ws2 : w.heap.size + 2 < W.heap.size := by omega
  have Ws1 : w.heap.size + 1 < W.heap.size := by omega
  have Ws0 : w.heap.size < W.heap.size := by omega
  have HW : Hid (Own W (w.heap.size + 3) 36 4 (.slice g l.length q) l.length (l.flatMap DNote.cells)) := HO.out.ext (by (rw [hW]; exact bxt))
  have hwW : Ext w W := by (rw [hW]; exact bxt)
  clear hW
  go_region_held3 (fun w' => w'.cell? ⟨w.heap.size, 0, none⟩ = some (.slice (some ⟨b, o, none⟩) l.length c) ∧ w'.cell? ⟨w.heap.size, 1, none⟩ = some (.bool false) ∧ w'.cell? ⟨w.heap.size, 2, none⟩ = some (.bool rc)) (refine ⟨?_, ?_, ?_⟩ <;> (repeat (first | with_reducible exact Wq0 | with_reducible exact Wq1 | with_reducible exact Wq2 | with_reducible assumption | with_reducible refine keep_set ?_ (by omega) | with_reducible refine keep_drew ?_))) ((go_at_call 58; refine (l16Only_any l (some ⟨b, o, none⟩) c false rc false _ (HR.out.ext (show Ext w _ from bxt)) hl r HF).mono ?_; rintro e w6 ⟨g6, q6, rfl, hown6, hb6⟩; have p0 := (hb6.cell (p := ⟨w.heap.size, 0, none⟩) Ws0).trans Wq0; have dr0 := (hb6.cell (p := ⟨w.heap.size + 2, 0, none⟩) Ws2).trans Wr0; have er0 := (hb6.frozen (p := ⟨w.heap.size + 2, 0, none⟩) Ws2).trans Wfr0; have p1 := (hb6.cell (p := ⟨w.heap.size, 1, none⟩) Ws0).trans Wq1; have dr1 := (hb6.cell (p := ⟨w.heap.size + 2, 1, none⟩) Ws2).trans Wr1; have er1 := (hb6.frozen (p := ⟨w.heap.size + 2, 1, none⟩) Ws2).trans Wfr1; have p2 := (hb6.cell (p := ⟨w.heap.size, 2, none⟩) Ws0).trans Wq2; have dr2 := (hb6.cell (p := ⟨w.heap.size + 2, 2, none⟩) Ws2).trans Wr2; have er2 := (hb6.frozen (p := ⟨w.heap.size + 2, 2, none⟩) Ws2).trans Wfr2; have s60 : w.heap.size + 2 < w6.heap.size := (by have hss := hb6.size; simp at hss; omega); have H6 := Lib.hid (hown6.le (by simp; omega : w.heap.size + 3 ≤ _)); clear hown6))
  all_goals go_wp2_with fail
  unfold PushPost
  refine bodyPost_ret (v := .agg #[.slice g6 r.length q6, .bool true, .bool rc]) (by simp [results, Try.results18, go_sem, *]) rfl ⟨g6, q6, rfl, ?_, ?_⟩
  · refine Own.le (B := w.heap.size + 3) ?_ (by omega)
    try dsimp only
    exact (by repeat' (first | with_reducible exact H6.out | with_reducible refine Own.set_below ?_ smx _ | with_reducible refine Own.alloc1 ?_ _ | with_reducible refine Own.drew1 ?_ | with_reducible refine Own.drewN1 ?_ | with_reducible refine Own.ext ?_ (by assumption)))
  · exact bxt

set_option maxRecDepth 100000 in
set_option maxHeartbeats 4000000 in
theorem specPush_g3 (l : List DNote) (a : Option Addr) (c : Nat) (rb rc : Bool) (n : DNote) (w : World) (R : Rd w a c 4 l.length (l.flatMap DNote.cells)) (hl : l.length ≤ 1048576) (hn : ∀ y ∈ l, y.name.size ≤ 9223372036854775807) (hs : n.name.size ≤ 9223372036854775807) (K : Nat) (hKl : K < l.length) (hK : l.length = K + 1) (t1 : l[K].kind = 1) (t2 : l[K].uid = n.uid) (t3 : n.uid = 0) (hq : QueueP l rb rc) (hp : NoteP n) (hk : n.kind = 1) (ha : l.any (boxIn n.n) = false) (hb : rb = false) (h6 : ¬ l.length = 6) :
    Calls Try.prog 18 #[.agg #[.slice a l.length c, .bool rb, .bool rc], .agg #[.int .i64 n.kind, .int .i64 n.n, .int .i64 n.uid, .string n.name]] w (PushPost 36 ⟨l ++ [n], false, rc⟩ w) := by
  have hcm := R.cm
  have hnc := R.nc
  have HR := Lib.hid R
  clear R
  have CL := fun W (hW : Ext w W) => l16Copy_any l a c rb rc W (HR.out.ext hW) (by omega)
  have HC := Lib.hid CL
  clear CL
  have Hsz := Lib.hid hn
  clear hn
  subst hb
  have HQ : Hid (Tells true (QueueP l false rc)) := ⟨fun _ => hq, fun _ => rfl⟩
  have HN : Hid (Tells true (NoteP n)) := ⟨fun _ => hp, fun _ => rfl⟩
  clear hq hp
  have k1 : (n.kind == 1) = true := by simp [hk]
  clear hk
  have HA : Hid (l.any (boxIn n.n) = !true) := ha
  clear ha
  have u0 : decide ((0 : Int) < (l.length : Int)) = true := decide_eq_true (by omega)
  have u7 : decide (0 < l.length) = true := decide_eq_true (by omega)
  have u4 : IntKind.i64.wrap ((l.length : Int) - 1) = (K : Int) := by rw [IntWalk.i64_in _ (by omega)]; omega
  have u5 : (0 : Int) ≤ (K : Int) := by omega
  have u6 : (K : Int) < (l.length : Int) := by omega
  have u1 : (l[K].kind == 1) = true := by simpa using t1
  have u2 : (l[K].uid == n.uid) = true := by simpa using t2
  have u3 : (n.uid != 0) = false := by simpa using t3
  have HK := Lib.hid hK
  clear hK
  clear t1 t2 t3
  have m6 : ((l.length : Int) == 6) = false := by (simp; omega)
  clear h6
  go_enter Try.func18, Try.ntmps18
  go_upto_region 9 with (first | (go_at_call 56; refine (HC.out _ bxt).mono ?_; rintro e w1 ⟨g, q, rfl, hown, hb1⟩; have HO := Lib.hid (hown.le (by first | (simp; done) | (simp; omega) | omega : w.heap.size + 3 ≤ _)); clear hown; obtain ⟨hc1, hf1⟩ := bcell hb1; have hz1 := hb1.size; (try simp at hz1); have s1_0 : w.heap.size < w1.heap.size := (by omega); have s1_1 : w.heap.size + 1 < w1.heap.size := (by omega); have s1_2 : w.heap.size + 2 < w1.heap.size := (by omega)) | (go_at_call 20; refine (specQueueOk_any l a c false rc _ (HR.out.ext bxt) Hsz.out true HQ).mono ?_; rintro e w2 ⟨rfl, hb2⟩; obtain ⟨hc2, hf2⟩ := bcell hb2; have hz2 := hb2.size; (try simp at hz2); have s2_0 : w.heap.size < w2.heap.size := (by omega); have s2_1 : w.heap.size + 1 < w2.heap.size := (by omega); have s2_2 : w.heap.size + 2 < w2.heap.size := (by omega); have s2_3 : w1.heap.size < w2.heap.size := (by omega)) | (go_at_call 21; refine (specNoteOk_any n _ hs true HN).mono ?_; rintro e w3 ⟨rfl, hb3⟩; obtain ⟨hc3, hf3⟩ := bcell hb3; have hz3 := hb3.size; (try simp at hz3); have s3_0 : w.heap.size < w3.heap.size := (by omega); have s3_1 : w.heap.size + 1 < w3.heap.size := (by omega); have s3_2 : w.heap.size + 2 < w3.heap.size := (by omega); have s3_3 : w1.heap.size < w3.heap.size := (by omega)) | (go_at_call 57; refine (l16Above_any l a c false rc n.n _ (HR.out.ext bxt) true HA).mono ?_; rintro e w4 ⟨rfl, hb4⟩; obtain ⟨hc4, hf4⟩ := bcell hb4; have hz4 := hb4.size; (try simp at hz4); have s4_0 : w.heap.size < w4.heap.size := (by omega); have s4_1 : w.heap.size + 1 < w4.heap.size := (by omega); have s4_2 : w.heap.size + 2 < w4.heap.size := (by omega); have s4_3 : w1.heap.size < w4.heap.size := (by omega)))
  refine wp_world (fun V hV => ?_)
  have hbV : Ext w1 V := by (rw [hV]; exact bxt)
  have Vq0 : V.cell? ⟨w.heap.size, 0, none⟩ = some (.slice a l.length c) := by (rw [hV]; simp [go_sem, *])
  have Vq1 : V.cell? ⟨w.heap.size, 1, none⟩ = some (.bool false) := by (rw [hV]; simp [go_sem, *])
  have Vq2 : V.cell? ⟨w.heap.size, 2, none⟩ = some (.bool rc) := by (rw [hV]; simp [go_sem, *])
  have Vn0 : V.cell? ⟨w.heap.size + 1, 0, none⟩ = some (.int .i64 n.kind) := by (rw [hV]; simp [go_sem, *])
  have Vn1 : V.cell? ⟨w.heap.size + 1, 1, none⟩ = some (.int .i64 n.n) := by (rw [hV]; simp [go_sem, *])
  have Vn2 : V.cell? ⟨w.heap.size + 1, 2, none⟩ = some (.int .i64 n.uid) := by (rw [hV]; simp [go_sem, *])
  have Vn3 : V.cell? ⟨w.heap.size + 1, 3, none⟩ = some (.string n.name) := by (rw [hV]; simp [go_sem, *])
  have Vr0 : V.cell? ⟨w.heap.size + 2, 0, none⟩ = some (.slice none 0 0) := by (rw [hV]; simp [go_sem, *])
  have Vfr0 : V.frozen? ⟨w.heap.size + 2, 0, none⟩ = false := by (rw [hV]; simp [go_sem, *])
  have Vr1 : V.cell? ⟨w.heap.size + 2, 1, none⟩ = some (.bool false) := by (rw [hV]; simp [go_sem, *])
  have Vfr1 : V.frozen? ⟨w.heap.size + 2, 1, none⟩ = false := by (rw [hV]; simp [go_sem, *])
  have Vr2 : V.cell? ⟨w.heap.size + 2, 2, none⟩ = some (.bool false) := by (rw [hV]; simp [go_sem, *])
  have Vfr2 : V.frozen? ⟨w.heap.size + 2, 2, none⟩ = false := by (rw [hV]; simp [go_sem, *])
  have Vo0 : V.cell? ⟨w1.heap.size, 0, none⟩ = some (.slice g l.length q) := by (rw [hV]; simp [go_sem, *])
  have Vfo0 : V.frozen? ⟨w1.heap.size, 0, none⟩ = false := by (rw [hV]; simp [go_sem, *])
  have Vo1 : V.cell? ⟨w1.heap.size, 1, none⟩ = some (.bool false) := by (rw [hV]; simp [go_sem, *])
  have Vfo1 : V.frozen? ⟨w1.heap.size, 1, none⟩ = false := by (rw [hV]; simp [go_sem, *])
  have Vo2 : V.cell? ⟨w1.heap.size, 2, none⟩ = some (.bool rc) := by (rw [hV]; simp [go_sem, *])
  have Vfo2 : V.frozen? ⟨w1.heap.size, 2, none⟩ = false := by (rw [hV]; simp [go_sem, *])
  have Vs3 : w1.heap.size < V.heap.size := by (rw [hV]; first | omega | (simp; omega))
  have Vs2 : w.heap.size + 2 < V.heap.size := by omega
  have Vs1 : w.heap.size + 1 < V.heap.size := by omega
  have Vs0 : w.heap.size < V.heap.size := by omega
  have HV : Hid (Own V (w.heap.size + 3) 36 4 (.slice g l.length q) l.length (l.flatMap DNote.cells)) := HO.out.ext (by (rw [hV]; exact bxt))
  have hwV : Ext w V := by (rw [hV]; exact bxt)
  clear hV
  obtain ⟨b, o, rfl, hb, hat⟩ := HR.out.ptr (by omega)
  obtain ⟨y0, y1, y2, y3⟩ := DNote.at (hat.ext hb hwV) K hKl
  have hbV2 : b < V.heap.size := by omega
  have HA9 := Lib.hid hat
  clear hat
  have x0 := fun y : ExtW V => (y.h.cell (p := ⟨b, o + K * 4, none⟩) hbV2).trans y0
  have x2 := fun y : ExtW V => (y.h.cell (p := ⟨b, o + K * 4 + 2, none⟩) hbV2).trans y2
  have xq := fun y : ExtW V => (y.h.cell (p := ⟨w.heap.size, 0, none⟩) Vs0).trans Vq0
  have xn := fun y : ExtW V => (y.h.cell (p := ⟨w.heap.size + 1, 2, none⟩) Vs1).trans Vn2
  refine wp_region_ext (by kernel_rfl) (by kernel_rfl) ?_
  repeat (go_big_quiet_step (fail))
  refine wpQuiet_nil ?_
  rintro _ ⟨⟨wq, hwq⟩, rfl⟩
  obtain ⟨hcq, hfq⟩ := bcell hwq
  have sq0 := Nat.lt_of_lt_of_le Vs0 hwq.size
  have sq1 := Nat.lt_of_lt_of_le Vs1 hwq.size
  have sq2 := Nat.lt_of_lt_of_le Vs2 hwq.size
  have sq3 := Nat.lt_of_lt_of_le Vs3 hwq.size
  go_upto_region 18 with fail
  refine wp_world (fun W hW => ?_)
  have hbW : Ext w1 W := by (rw [hW]; exact bxt)
  have Wq0 : W.cell? ⟨w.heap.size, 0, none⟩ = some (.slice (some ⟨b, o, none⟩) l.length c) := by (rw [hW]; simp [go_sem, *])
  have Wq1 : W.cell? ⟨w.heap.size, 1, none⟩ = some (.bool false) := by (rw [hW]; simp [go_sem, *])
  have Wq2 : W.cell? ⟨w.heap.size, 2, none⟩ = some (.bool rc) := by (rw [hW]; simp [go_sem, *])
  have Wn0 : W.cell? ⟨w.heap.size + 1, 0, none⟩ = some (.int .i64 n.kind) := by (rw [hW]; simp [go_sem, *])
  have Wn1 : W.cell? ⟨w.heap.size + 1, 1, none⟩ = some (.int .i64 n.n) := by (rw [hW]; simp [go_sem, *])
  have Wn2 : W.cell? ⟨w.heap.size + 1, 2, none⟩ = some (.int .i64 n.uid) := by (rw [hW]; simp [go_sem, *])
  have Wn3 : W.cell? ⟨w.heap.size + 1, 3, none⟩ = some (.string n.name) := by (rw [hW]; simp [go_sem, *])
  have Wr0 : W.cell? ⟨w.heap.size + 2, 0, none⟩ = some (.slice none 0 0) := by (rw [hW]; simp [go_sem, *])
  have Wfr0 : W.frozen? ⟨w.heap.size + 2, 0, none⟩ = false := by (rw [hW]; simp [go_sem, *])
  have Wr1 : W.cell? ⟨w.heap.size + 2, 1, none⟩ = some (.bool false) := by (rw [hW]; simp [go_sem, *])
  have Wfr1 : W.frozen? ⟨w.heap.size + 2, 1, none⟩ = false := by (rw [hW]; simp [go_sem, *])
  have Wr2 : W.cell? ⟨w.heap.size + 2, 2, none⟩ = some (.bool false) := by (rw [hW]; simp [go_sem, *])
  have Wfr2 : W.frozen? ⟨w.heap.size + 2, 2, none⟩ = false := by (rw [hW]; simp [go_sem, *])
  have Wo0 : W.cell? ⟨w1.heap.size, 0, none⟩ = some (.slice g l.length q) := by (rw [hW]; simp [go_sem, *])
  have Wfo0 : W.frozen? ⟨w1.heap.size, 0, none⟩ = false := by (rw [hW]; simp [go_sem, *])
  have Wo1 : W.cell? ⟨w1.heap.size, 1, none⟩ = some (.bool false) := by (rw [hW]; simp [go_sem, *])
  have Wfo1 : W.frozen? ⟨w1.heap.size, 1, none⟩ = false := by (rw [hW]; simp [go_sem, *])
  have Wo2 : W.cell? ⟨w1.heap.size, 2, none⟩ = some (.bool rc) := by (rw [hW]; simp [go_sem, *])
  have Wfo2 : W.frozen? ⟨w1.heap.size, 2, none⟩ = false := by (rw [hW]; simp [go_sem, *])
  have Ws3 : w1.heap.size < W.heap.size := by (rw [hW]; first | omega | (simp; omega))
  have Ws2 : w.heap.size + 2 < W.heap.size := by omega
  have Ws1 : w.heap.size + 1 < W.heap.size := by omega
  have Ws0 : w.heap.size < W.heap.size := by omega
  have HW : Hid (Own W (w.heap.size + 3) 36 4 (.slice g l.length q) l.length (l.flatMap DNote.cells)) := HO.out.ext (by (rw [hW]; exact bxt))
  have hwW : Ext w W := by (rw [hW]; exact bxt)
  clear hW
  have hne := HO.out.ne_ge (b := w1.heap.size) (Nat.le_refl _)
  have HNE := Lib.hid hne
  clear hne
  have fo0 : FOff (w.heap.size) (.slice g l.length q) := FOff.lt HW.out (by omega)
  have fo1 : FOff (w.heap.size + 1) (.slice g l.length q) := FOff.lt HW.out (by omega)
  have fo2 : FOff (w.heap.size + 2) (.slice g l.length q) := FOff.lt HW.out (by omega)
  have fo3 : FOff (w1.heap.size) (.slice g l.length q) := HNE.out
  obtain ⟨i0, hi0, hz0, hz1, hz2⟩ := info_parts info_Note
  go_wp2_with (go_loud (at_builtin; refine wpList_appL (v := .slice g l.length q) (n := l.length) (xs := l.flatMap DNote.cells) (s := 4) (B := w.heap.size + 3) rfl _ _ _ rfl 36 i0 _ _ Try.underlying32 hi0 hz0 hz1 hz2 rfl (by decide) rfl (HW.out.ext bxt) (some ⟨W.heap.size, 0, none⟩) 1 1 n.cells rfl (Rd.lit _ _ _ 1 4 _ (by first | rfl | simp) rfl (by omega)) (DNote.one _) (by omega) (by omega) (by simp; omega) ?_; intro g2 q2 w7 hown2 hg2 hp2; obtain ⟨hc7, hf7⟩ := grown_foff hg2; have dr0 := (hc7 _ 0 (by simp; omega) fo2).trans (keep_alloc Wr0); have er0 := (hf7 _ 0 (by simp; omega) fo2).trans (keepf_alloc Wfr0 Ws2); have dr1 := (hc7 _ 1 (by simp; omega) fo2).trans (keep_alloc Wr1); have er1 := (hf7 _ 1 (by simp; omega) fo2).trans (keepf_alloc Wfr1 Ws2); have dr2 := (hc7 _ 2 (by simp; omega) fo2).trans (keep_alloc Wr2); have er2 := (hf7 _ 2 (by simp; omega) fo2).trans (keepf_alloc Wfr2 Ws2); have do0 := (hc7 _ 0 (by simp; omega) fo3).trans (keep_alloc Wo0); have eo0 := (hf7 _ 0 (by simp; omega) fo3).trans (keepf_alloc Wfo0 Ws3); have do1 := (hc7 _ 1 (by simp; omega) fo3).trans (keep_alloc Wo1); have eo1 := (hf7 _ 1 (by simp; omega) fo3).trans (keepf_alloc Wfo1 Ws3); have do2 := (hc7 _ 2 (by simp; omega) fo3).trans (keep_alloc Wo2); have eo2 := (hf7 _ 2 (by simp; omega) fo3).trans (keepf_alloc Wfo2 Ws3); clear hc7 hf7; have hz7 := hg2.size; (try simp at hz7); have s70 : w1.heap.size < w7.heap.size := (by omega); have s71 : w.heap.size + 2 < w7.heap.size := (by omega); have s72 : w.heap.size + 1 < w7.heap.size := (by omega); have s73 : w.heap.size < w7.heap.size := (by omega); have hbel : Ext w w7 := below_foot (B := w.heap.size + 3) (show Ext w _ from bxt) (show Own _ (w.heap.size + 3) 36 4 (.slice g l.length q) l.length (l.flatMap DNote.cells) from HW.out.ext bxt) (by omega) (by simp; omega) hg2; have hno : foot (.slice g2 (l.length + 1) q2) ≠ some w1.heap.size := (fun e => by rcases hp2 _ e with h | h; exact HNE.out h; simp at h; omega); have HNO := Lib.hid hno; have H2 := Lib.hid hown2; clear hown2 hg2 hp2 hno))
  have H3 : Hid (Own w7 (w.heap.size + 3) 36 4 (.slice g2 (l ++ [n]).length q2) (l ++ [n]).length ((l ++ [n]).flatMap DNote.cells)) := by simpa [DNote.cells, Hid] using H2.out
  unfold PushPost
  refine bodyPost_ret (v := .agg #[.slice g2 (l ++ [n]).length q2, .bool false, .bool rc]) (by simp [results, Try.results18, go_sem, *]) rfl ⟨g2, q2, rfl, ?_, ?_⟩
  · refine Own.le (B := w.heap.size + 3) ?_ (by omega)
    try dsimp only
    exact (by repeat' (first | with_reducible exact H3.out | with_reducible refine Own.set_below ?_ smx _ | with_reducible refine Own.set_off ?_ (by with_reducible exact by simpa using HNO.out) _ | with_reducible refine Own.alloc1 ?_ _ | with_reducible refine Own.drew1 ?_ | with_reducible refine Own.drewN1 ?_ | with_reducible refine Own.ext ?_ (by assumption)))
  · exact bxt

set_option maxRecDepth 100000 in
set_option maxHeartbeats 4000000 in
theorem specPush_f3 (l : List DNote) (a : Option Addr) (c : Nat) (rb rc : Bool) (n : DNote) (w : World) (R : Rd w a c 4 l.length (l.flatMap DNote.cells)) (hl : l.length ≤ 1048576) (hn : ∀ y ∈ l, y.name.size ≤ 9223372036854775807) (hs : n.name.size ≤ 9223372036854775807) (r : List DNote) (HF : Hid (l.filter (onlyIs false) = r)) (K : Nat) (hKl : K < l.length) (hK : l.length = K + 1) (t1 : l[K].kind = 1) (t2 : l[K].uid = n.uid) (t3 : n.uid = 0) (hq : QueueP l rb rc) (hp : NoteP n) (hk : n.kind = 1) (ha : l.any (boxIn n.n) = false) (hb : rb = false) (h6 : l.length = 6) :
    Calls Try.prog 18 #[.agg #[.slice a l.length c, .bool rb, .bool rc], .agg #[.int .i64 n.kind, .int .i64 n.n, .int .i64 n.uid, .string n.name]] w (PushPost 36 ⟨r, true, rc⟩ w) := by
  have hcm := R.cm
  have hnc := R.nc
  have HR := Lib.hid R
  clear R
  have CL := fun W (hW : Ext w W) => l16Copy_any l a c rb rc W (HR.out.ext hW) (by omega)
  have HC := Lib.hid CL
  clear CL
  have Hsz := Lib.hid hn
  clear hn
  subst hb
  have HQ : Hid (Tells true (QueueP l false rc)) := ⟨fun _ => hq, fun _ => rfl⟩
  have HN : Hid (Tells true (NoteP n)) := ⟨fun _ => hp, fun _ => rfl⟩
  clear hq hp
  have k1 : (n.kind == 1) = true := by simp [hk]
  clear hk
  have HA : Hid (l.any (boxIn n.n) = !true) := ha
  clear ha
  have u0 : decide ((0 : Int) < (l.length : Int)) = true := decide_eq_true (by omega)
  have u7 : decide (0 < l.length) = true := decide_eq_true (by omega)
  have u4 : IntKind.i64.wrap ((l.length : Int) - 1) = (K : Int) := by rw [IntWalk.i64_in _ (by omega)]; omega
  have u5 : (0 : Int) ≤ (K : Int) := by omega
  have u6 : (K : Int) < (l.length : Int) := by omega
  have u1 : (l[K].kind == 1) = true := by simpa using t1
  have u2 : (l[K].uid == n.uid) = true := by simpa using t2
  have u3 : (n.uid != 0) = false := by simpa using t3
  have HK := Lib.hid hK
  clear hK
  clear t1 t2 t3
  have m6 : ((l.length : Int) == 6) = true := by (simp; omega)
  clear h6
  go_enter Try.func18, Try.ntmps18
  go_upto_region 9 with (first | (go_at_call 56; refine (HC.out _ bxt).mono ?_; rintro e w1 ⟨g, q, rfl, hown, hb1⟩; have HO := Lib.hid (hown.le (by first | (simp; done) | (simp; omega) | omega : w.heap.size + 3 ≤ _)); clear hown; obtain ⟨hc1, hf1⟩ := bcell hb1; have hz1 := hb1.size; (try simp at hz1); have s1_0 : w.heap.size < w1.heap.size := (by omega); have s1_1 : w.heap.size + 1 < w1.heap.size := (by omega); have s1_2 : w.heap.size + 2 < w1.heap.size := (by omega)) | (go_at_call 20; refine (specQueueOk_any l a c false rc _ (HR.out.ext bxt) Hsz.out true HQ).mono ?_; rintro e w2 ⟨rfl, hb2⟩; obtain ⟨hc2, hf2⟩ := bcell hb2; have hz2 := hb2.size; (try simp at hz2); have s2_0 : w.heap.size < w2.heap.size := (by omega); have s2_1 : w.heap.size + 1 < w2.heap.size := (by omega); have s2_2 : w.heap.size + 2 < w2.heap.size := (by omega); have s2_3 : w1.heap.size < w2.heap.size := (by omega)) | (go_at_call 21; refine (specNoteOk_any n _ hs true HN).mono ?_; rintro e w3 ⟨rfl, hb3⟩; obtain ⟨hc3, hf3⟩ := bcell hb3; have hz3 := hb3.size; (try simp at hz3); have s3_0 : w.heap.size < w3.heap.size := (by omega); have s3_1 : w.heap.size + 1 < w3.heap.size := (by omega); have s3_2 : w.heap.size + 2 < w3.heap.size := (by omega); have s3_3 : w1.heap.size < w3.heap.size := (by omega)) | (go_at_call 57; refine (l16Above_any l a c false rc n.n _ (HR.out.ext bxt) true HA).mono ?_; rintro e w4 ⟨rfl, hb4⟩; obtain ⟨hc4, hf4⟩ := bcell hb4; have hz4 := hb4.size; (try simp at hz4); have s4_0 : w.heap.size < w4.heap.size := (by omega); have s4_1 : w.heap.size + 1 < w4.heap.size := (by omega); have s4_2 : w.heap.size + 2 < w4.heap.size := (by omega); have s4_3 : w1.heap.size < w4.heap.size := (by omega)))
  refine wp_world (fun V hV => ?_)
  have hbV : Ext w1 V := by (rw [hV]; exact bxt)
  have Vq0 : V.cell? ⟨w.heap.size, 0, none⟩ = some (.slice a l.length c) := by (rw [hV]; simp [go_sem, *])
  have Vq1 : V.cell? ⟨w.heap.size, 1, none⟩ = some (.bool false) := by (rw [hV]; simp [go_sem, *])
  have Vq2 : V.cell? ⟨w.heap.size, 2, none⟩ = some (.bool rc) := by (rw [hV]; simp [go_sem, *])
  have Vn0 : V.cell? ⟨w.heap.size + 1, 0, none⟩ = some (.int .i64 n.kind) := by (rw [hV]; simp [go_sem, *])
  have Vn1 : V.cell? ⟨w.heap.size + 1, 1, none⟩ = some (.int .i64 n.n) := by (rw [hV]; simp [go_sem, *])
  have Vn2 : V.cell? ⟨w.heap.size + 1, 2, none⟩ = some (.int .i64 n.uid) := by (rw [hV]; simp [go_sem, *])
  have Vn3 : V.cell? ⟨w.heap.size + 1, 3, none⟩ = some (.string n.name) := by (rw [hV]; simp [go_sem, *])
  have Vr0 : V.cell? ⟨w.heap.size + 2, 0, none⟩ = some (.slice none 0 0) := by (rw [hV]; simp [go_sem, *])
  have Vfr0 : V.frozen? ⟨w.heap.size + 2, 0, none⟩ = false := by (rw [hV]; simp [go_sem, *])
  have Vr1 : V.cell? ⟨w.heap.size + 2, 1, none⟩ = some (.bool false) := by (rw [hV]; simp [go_sem, *])
  have Vfr1 : V.frozen? ⟨w.heap.size + 2, 1, none⟩ = false := by (rw [hV]; simp [go_sem, *])
  have Vr2 : V.cell? ⟨w.heap.size + 2, 2, none⟩ = some (.bool false) := by (rw [hV]; simp [go_sem, *])
  have Vfr2 : V.frozen? ⟨w.heap.size + 2, 2, none⟩ = false := by (rw [hV]; simp [go_sem, *])
  have Vo0 : V.cell? ⟨w1.heap.size, 0, none⟩ = some (.slice g l.length q) := by (rw [hV]; simp [go_sem, *])
  have Vfo0 : V.frozen? ⟨w1.heap.size, 0, none⟩ = false := by (rw [hV]; simp [go_sem, *])
  have Vo1 : V.cell? ⟨w1.heap.size, 1, none⟩ = some (.bool false) := by (rw [hV]; simp [go_sem, *])
  have Vfo1 : V.frozen? ⟨w1.heap.size, 1, none⟩ = false := by (rw [hV]; simp [go_sem, *])
  have Vo2 : V.cell? ⟨w1.heap.size, 2, none⟩ = some (.bool rc) := by (rw [hV]; simp [go_sem, *])
  have Vfo2 : V.frozen? ⟨w1.heap.size, 2, none⟩ = false := by (rw [hV]; simp [go_sem, *])
  have Vs3 : w1.heap.size < V.heap.size := by (rw [hV]; first | omega | (simp; omega))
  have Vs2 : w.heap.size + 2 < V.heap.size := by omega
  have Vs1 : w.heap.size + 1 < V.heap.size := by omega
  have Vs0 : w.heap.size < V.heap.size := by omega
  have HV : Hid (Own V (w.heap.size + 3) 36 4 (.slice g l.length q) l.length (l.flatMap DNote.cells)) := HO.out.ext (by (rw [hV]; exact bxt))
  have hwV : Ext w V := by (rw [hV]; exact bxt)
  clear hV
  obtain ⟨b, o, rfl, hb, hat⟩ := HR.out.ptr (by omega)
  obtain ⟨y0, y1, y2, y3⟩ := DNote.at (hat.ext hb hwV) K hKl
  have hbV2 : b < V.heap.size := by omega
  have HA9 := Lib.hid hat
  clear hat
  have x0 := fun y : ExtW V => (y.h.cell (p := ⟨b, o + K * 4, none⟩) hbV2).trans y0
  have x2 := fun y : ExtW V => (y.h.cell (p := ⟨b, o + K * 4 + 2, none⟩) hbV2).trans y2
  have xq := fun y : ExtW V => (y.h.cell (p := ⟨w.heap.size, 0, none⟩) Vs0).trans Vq0
  have xn := fun y : ExtW V => (y.h.cell (p := ⟨w.heap.size + 1, 2, none⟩) Vs1).trans Vn2
  refine wp_region_ext (by kernel_rfl) (by kernel_rfl) ?_
  repeat (go_big_quiet_step (fail))
  refine wpQuiet_nil ?_
  rintro _ ⟨⟨wq, hwq⟩, rfl⟩
  obtain ⟨hcq, hfq⟩ := bcell hwq
  have sq0 := Nat.lt_of_lt_of_le Vs0 hwq.size
  have sq1 := Nat.lt_of_lt_of_le Vs1 hwq.size
  have sq2 := Nat.lt_of_lt_of_le Vs2 hwq.size
  have sq3 := Nat.lt_of_lt_of_le Vs3 hwq.size
  go_upto_region 13 with fail
  refine wp_world (fun W hW => ?_)
  have hbW : Ext w1 W := by (rw [hW]; exact bxt)
  have Wq0 : W.cell? ⟨w.heap.size, 0, none⟩ = some (.slice (some ⟨b, o, none⟩) l.length c) := by (rw [hW]; simp [go_sem, *])
  have Wq1 : W.cell? ⟨w.heap.size, 1, none⟩ = some (.bool false) := by (rw [hW]; simp [go_sem, *])
  have Wq2 : W.cell? ⟨w.heap.size, 2, none⟩ = some (.bool rc) := by (rw [hW]; simp [go_sem, *])
  have Wn0 : W.cell? ⟨w.heap.size + 1, 0, none⟩ = some (.int .i64 n.kind) := by (rw [hW]; simp [go_sem, *])
  have Wn1 : W.cell? ⟨w.heap.size + 1, 1, none⟩ = some (.int .i64 n.n) := by (rw [hW]; simp [go_sem, *])
  have Wn2 : W.cell? ⟨w.heap.size + 1, 2, none⟩ = some (.int .i64 n.uid) := by (rw [hW]; simp [go_sem, *])
  have Wn3 : W.cell? ⟨w.heap.size + 1, 3, none⟩ = some (.string n.name) := by (rw [hW]; simp [go_sem, *])
  have Wr0 : W.cell? ⟨w.heap.size + 2, 0, none⟩ = some (.slice none 0 0) := by (rw [hW]; simp [go_sem, *])
  have Wfr0 : W.frozen? ⟨w.heap.size + 2, 0, none⟩ = false := by (rw [hW]; simp [go_sem, *])
  have Wr1 : W.cell? ⟨w.heap.size + 2, 1, none⟩ = some (.bool false) := by (rw [hW]; simp [go_sem, *])
  have Wfr1 : W.frozen? ⟨w.heap.size + 2, 1, none⟩ = false := by (rw [hW]; simp [go_sem, *])
  have Wr2 : W.cell? ⟨w.heap.size + 2, 2, none⟩ = some (.bool false) := by (rw [hW]; simp [go_sem, *])
  have Wfr2 : W.frozen? ⟨w.heap.size + 2, 2, none⟩ = false := by (rw [hW]; simp [go_sem, *])
  have Wo0 : W.cell? ⟨w1.heap.size, 0, none⟩ = some (.slice g l.length q) := by (rw [hW]; simp [go_sem, *])
  have Wfo0 : W.frozen? ⟨w1.heap.size, 0, none⟩ = false := by (rw [hW]; simp [go_sem, *])
  have Wo1 : W.cell? ⟨w1.heap.size, 1, none⟩ = some (.bool false) := by (rw [hW]; simp [go_sem, *])
  have Wfo1 : W.frozen? ⟨w1.heap.size, 1, none⟩ = false := by (rw [hW]; simp [go_sem, *])
  have Wo2 : W.cell? ⟨w1.heap.size, 2, none⟩ = some (.bool rc) := by (rw [hW]; simp [go_sem, *])
  have Wfo2 : W.frozen? ⟨w1.heap.size, 2, none⟩ = false := by (rw [hW]; simp [go_sem, *])
  have Ws3 : w1.heap.size < W.heap.size := by (rw [hW]; first | omega | (simp; omega))
  have Ws2 : w.heap.size + 2 < W.heap.size := by omega
  have Ws1 : w.heap.size + 1 < W.heap.size := by omega
  have Ws0 : w.heap.size < W.heap.size := by omega
  have HW : Hid (Own W (w.heap.size + 3) 36 4 (.slice g l.length q) l.length (l.flatMap DNote.cells)) := HO.out.ext (by (rw [hW]; exact bxt))
  have hwW : Ext w W := by (rw [hW]; exact bxt)
  clear hW
  go_region_held3 (fun w' => w'.cell? ⟨w.heap.size, 0, none⟩ = some (.slice (some ⟨b, o, none⟩) l.length c) ∧ w'.cell? ⟨w.heap.size, 1, none⟩ = some (.bool false) ∧ w'.cell? ⟨w.heap.size, 2, none⟩ = some (.bool rc)) (refine ⟨?_, ?_, ?_⟩ <;> (repeat (first | with_reducible exact Wq0 | with_reducible exact Wq1 | with_reducible exact Wq2 | with_reducible assumption | with_reducible refine keep_set ?_ (by omega) | with_reducible refine keep_drew ?_))) ((go_at_call 58; refine (l16Only_any l (some ⟨b, o, none⟩) c false rc false _ (HR.out.ext (show Ext w _ from bxt)) hl r HF).mono ?_; rintro e w6 ⟨g6, q6, rfl, hown6, hb6⟩; have p0 := (hb6.cell (p := ⟨w.heap.size, 0, none⟩) Ws0).trans Wq0; have dr0 := (hb6.cell (p := ⟨w.heap.size + 2, 0, none⟩) Ws2).trans Wr0; have er0 := (hb6.frozen (p := ⟨w.heap.size + 2, 0, none⟩) Ws2).trans Wfr0; have p1 := (hb6.cell (p := ⟨w.heap.size, 1, none⟩) Ws0).trans Wq1; have dr1 := (hb6.cell (p := ⟨w.heap.size + 2, 1, none⟩) Ws2).trans Wr1; have er1 := (hb6.frozen (p := ⟨w.heap.size + 2, 1, none⟩) Ws2).trans Wfr1; have p2 := (hb6.cell (p := ⟨w.heap.size, 2, none⟩) Ws0).trans Wq2; have dr2 := (hb6.cell (p := ⟨w.heap.size + 2, 2, none⟩) Ws2).trans Wr2; have er2 := (hb6.frozen (p := ⟨w.heap.size + 2, 2, none⟩) Ws2).trans Wfr2; have s60 : w.heap.size + 2 < w6.heap.size := (by have hss := hb6.size; simp at hss; omega); have H6 := Lib.hid (hown6.le (by simp; omega : w.heap.size + 3 ≤ _)); clear hown6))
  all_goals go_wp2_with fail
  unfold PushPost
  refine bodyPost_ret (v := .agg #[.slice g6 r.length q6, .bool true, .bool rc]) (by simp [results, Try.results18, go_sem, *]) rfl ⟨g6, q6, rfl, ?_, ?_⟩
  · refine Own.le (B := w.heap.size + 3) ?_ (by omega)
    try dsimp only
    exact (by repeat' (first | with_reducible exact H6.out | with_reducible refine Own.set_below ?_ smx _ | with_reducible refine Own.alloc1 ?_ _ | with_reducible refine Own.drew1 ?_ | with_reducible refine Own.drewN1 ?_ | with_reducible refine Own.ext ?_ (by assumption)))
  · exact bxt

set_option maxRecDepth 100000 in
set_option maxHeartbeats 4000000 in
theorem specPush_e (l : List DNote) (a : Option Addr) (c : Nat) (rb rc : Bool) (n : DNote) (w : World) (R : Rd w a c 4 l.length (l.flatMap DNote.cells)) (hl : l.length ≤ 1048576) (hn : ∀ y ∈ l, y.name.size ≤ 9223372036854775807) (hs : n.name.size ≤ 9223372036854775807) (K : Nat) (hKl : K < l.length) (hK : l.length = K + 1) (t1 : l[K].kind = 1) (t2 : l[K].uid = n.uid) (t3 : n.uid ≠ 0) (hq : QueueP l rb rc) (hp : NoteP n) (hk : n.kind = 1) (ha : l.any (boxIn n.n) = false) (hb : rb = false) :
    Calls Try.prog 18 #[.agg #[.slice a l.length c, .bool rb, .bool rc], .agg #[.int .i64 n.kind, .int .i64 n.n, .int .i64 n.uid, .string n.name]] w (PushPost 36 ⟨l.set K n, false, rc⟩ w) := by
  have hcm := R.cm
  have hnc := R.nc
  have HR := Lib.hid R
  clear R
  have CL := fun W (hW : Ext w W) => l16Copy_any l a c rb rc W (HR.out.ext hW) (by omega)
  have HC := Lib.hid CL
  clear CL
  have Hsz := Lib.hid hn
  clear hn
  subst hb
  have HQ : Hid (Tells true (QueueP l false rc)) := ⟨fun _ => hq, fun _ => rfl⟩
  have HN : Hid (Tells true (NoteP n)) := ⟨fun _ => hp, fun _ => rfl⟩
  clear hq hp
  have k1 : (n.kind == 1) = true := by simp [hk]
  clear hk
  have HA : Hid (l.any (boxIn n.n) = !true) := ha
  clear ha
  have u0 : decide ((0 : Int) < (l.length : Int)) = true := decide_eq_true (by omega)
  have u7 : decide (0 < l.length) = true := decide_eq_true (by omega)
  have u4 : IntKind.i64.wrap ((l.length : Int) - 1) = (K : Int) := by rw [IntWalk.i64_in _ (by omega)]; omega
  have u5 : (0 : Int) ≤ (K : Int) := by omega
  have u6 : (K : Int) < (l.length : Int) := by omega
  have u1 : (l[K].kind == 1) = true := by simpa using t1
  have u2 : (l[K].uid == n.uid) = true := by simpa using t2
  have u3 : (n.uid != 0) = true := by simpa using t3
  have HK := Lib.hid hK
  clear hK
  clear t1 t2 t3
  have P0 : Hid ((l.flatMap DNote.cells).set (K * 4) (.int .i64 n.kind) = (l.set K ⟨n.kind, l[K].n, l[K].uid, l[K].name⟩).flatMap DNote.cells) := by
    have := flat_set1 DNote.cells_len l K 0 (by first | omega | (simp; omega)) (by omega) (.int .i64 n.kind) (⟨n.kind, l[K].n, l[K].uid, l[K].name⟩ : DNote) (by simp [DNote.cells])
    simpa [Hid, List.set_set] using this
  have P1 : Hid (((l.set K ⟨n.kind, l[K].n, l[K].uid, l[K].name⟩).flatMap DNote.cells).set (K * 4 + 1) (.int .i64 n.n) = (l.set K ⟨n.kind, n.n, l[K].uid, l[K].name⟩).flatMap DNote.cells) := by
    have := flat_set1 DNote.cells_len (l.set K ⟨n.kind, l[K].n, l[K].uid, l[K].name⟩) K 1 (by first | omega | (simp; omega)) (by omega) (.int .i64 n.n) (⟨n.kind, n.n, l[K].uid, l[K].name⟩ : DNote) (by simp [DNote.cells])
    simpa [Hid, List.set_set] using this
  have P2 : Hid (((l.set K ⟨n.kind, n.n, l[K].uid, l[K].name⟩).flatMap DNote.cells).set (K * 4 + 2) (.int .i64 n.uid) = (l.set K ⟨n.kind, n.n, n.uid, l[K].name⟩).flatMap DNote.cells) := by
    have := flat_set1 DNote.cells_len (l.set K ⟨n.kind, n.n, l[K].uid, l[K].name⟩) K 2 (by first | omega | (simp; omega)) (by omega) (.int .i64 n.uid) (⟨n.kind, n.n, n.uid, l[K].name⟩ : DNote) (by simp [DNote.cells])
    simpa [Hid, List.set_set] using this
  have P3 : Hid (((l.set K ⟨n.kind, n.n, n.uid, l[K].name⟩).flatMap DNote.cells).set (K * 4 + 3) (.string n.name) = (l.set K n).flatMap DNote.cells) := by
    have := flat_set1 DNote.cells_len (l.set K ⟨n.kind, n.n, n.uid, l[K].name⟩) K 3 (by first | omega | (simp; omega)) (by omega) (.string n.name) (n : DNote) (by simp [DNote.cells])
    simpa [Hid, List.set_set] using this
  go_enter Try.func18, Try.ntmps18
  go_upto_region 9 with (first | (go_at_call 56; refine (HC.out _ bxt).mono ?_; rintro e w1 ⟨g, q, rfl, hown, hb1⟩; obtain ⟨gb, rfl, -⟩ := hown.row (by have := hown.cap; omega); have HO := Lib.hid (hown.le (by first | (simp; done) | (simp; omega) | omega : w.heap.size + 3 ≤ _)); clear hown; obtain ⟨hc1, hf1⟩ := bcell hb1; have hz1 := hb1.size; (try simp at hz1); have s1_0 : w.heap.size < w1.heap.size := (by omega); have s1_1 : w.heap.size + 1 < w1.heap.size := (by omega); have s1_2 : w.heap.size + 2 < w1.heap.size := (by omega)) | (go_at_call 20; refine (specQueueOk_any l a c false rc _ (HR.out.ext bxt) Hsz.out true HQ).mono ?_; rintro e w2 ⟨rfl, hb2⟩; obtain ⟨hc2, hf2⟩ := bcell hb2; have hz2 := hb2.size; (try simp at hz2); have s2_0 : w.heap.size < w2.heap.size := (by omega); have s2_1 : w.heap.size + 1 < w2.heap.size := (by omega); have s2_2 : w.heap.size + 2 < w2.heap.size := (by omega); have s2_3 : w1.heap.size < w2.heap.size := (by omega)) | (go_at_call 21; refine (specNoteOk_any n _ hs true HN).mono ?_; rintro e w3 ⟨rfl, hb3⟩; obtain ⟨hc3, hf3⟩ := bcell hb3; have hz3 := hb3.size; (try simp at hz3); have s3_0 : w.heap.size < w3.heap.size := (by omega); have s3_1 : w.heap.size + 1 < w3.heap.size := (by omega); have s3_2 : w.heap.size + 2 < w3.heap.size := (by omega); have s3_3 : w1.heap.size < w3.heap.size := (by omega)) | (go_at_call 57; refine (l16Above_any l a c false rc n.n _ (HR.out.ext bxt) true HA).mono ?_; rintro e w4 ⟨rfl, hb4⟩; obtain ⟨hc4, hf4⟩ := bcell hb4; have hz4 := hb4.size; (try simp at hz4); have s4_0 : w.heap.size < w4.heap.size := (by omega); have s4_1 : w.heap.size + 1 < w4.heap.size := (by omega); have s4_2 : w.heap.size + 2 < w4.heap.size := (by omega); have s4_3 : w1.heap.size < w4.heap.size := (by omega)))
  refine wp_world (fun V hV => ?_)
  have hbV : Ext w1 V := by (rw [hV]; exact bxt)
  have Vq0 : V.cell? ⟨w.heap.size, 0, none⟩ = some (.slice a l.length c) := by (rw [hV]; simp [go_sem, *])
  have Vq1 : V.cell? ⟨w.heap.size, 1, none⟩ = some (.bool false) := by (rw [hV]; simp [go_sem, *])
  have Vq2 : V.cell? ⟨w.heap.size, 2, none⟩ = some (.bool rc) := by (rw [hV]; simp [go_sem, *])
  have Vn0 : V.cell? ⟨w.heap.size + 1, 0, none⟩ = some (.int .i64 n.kind) := by (rw [hV]; simp [go_sem, *])
  have Vn1 : V.cell? ⟨w.heap.size + 1, 1, none⟩ = some (.int .i64 n.n) := by (rw [hV]; simp [go_sem, *])
  have Vn2 : V.cell? ⟨w.heap.size + 1, 2, none⟩ = some (.int .i64 n.uid) := by (rw [hV]; simp [go_sem, *])
  have Vn3 : V.cell? ⟨w.heap.size + 1, 3, none⟩ = some (.string n.name) := by (rw [hV]; simp [go_sem, *])
  have Vr0 : V.cell? ⟨w.heap.size + 2, 0, none⟩ = some (.slice none 0 0) := by (rw [hV]; simp [go_sem, *])
  have Vfr0 : V.frozen? ⟨w.heap.size + 2, 0, none⟩ = false := by (rw [hV]; simp [go_sem, *])
  have Vr1 : V.cell? ⟨w.heap.size + 2, 1, none⟩ = some (.bool false) := by (rw [hV]; simp [go_sem, *])
  have Vfr1 : V.frozen? ⟨w.heap.size + 2, 1, none⟩ = false := by (rw [hV]; simp [go_sem, *])
  have Vr2 : V.cell? ⟨w.heap.size + 2, 2, none⟩ = some (.bool false) := by (rw [hV]; simp [go_sem, *])
  have Vfr2 : V.frozen? ⟨w.heap.size + 2, 2, none⟩ = false := by (rw [hV]; simp [go_sem, *])
  have Vo0 : V.cell? ⟨w1.heap.size, 0, none⟩ = some (.slice (some ⟨gb, 0, none⟩) l.length q) := by (rw [hV]; simp [go_sem, *])
  have Vfo0 : V.frozen? ⟨w1.heap.size, 0, none⟩ = false := by (rw [hV]; simp [go_sem, *])
  have Vo1 : V.cell? ⟨w1.heap.size, 1, none⟩ = some (.bool false) := by (rw [hV]; simp [go_sem, *])
  have Vfo1 : V.frozen? ⟨w1.heap.size, 1, none⟩ = false := by (rw [hV]; simp [go_sem, *])
  have Vo2 : V.cell? ⟨w1.heap.size, 2, none⟩ = some (.bool rc) := by (rw [hV]; simp [go_sem, *])
  have Vfo2 : V.frozen? ⟨w1.heap.size, 2, none⟩ = false := by (rw [hV]; simp [go_sem, *])
  have Vs3 : w1.heap.size < V.heap.size := by (rw [hV]; first | omega | (simp; omega))
  have Vs2 : w.heap.size + 2 < V.heap.size := by omega
  have Vs1 : w.heap.size + 1 < V.heap.size := by omega
  have Vs0 : w.heap.size < V.heap.size := by omega
  have HV : Hid (Own V (w.heap.size + 3) 36 4 (.slice (some ⟨gb, 0, none⟩) l.length q) l.length (l.flatMap DNote.cells)) := HO.out.ext (by (rw [hV]; exact bxt))
  have hwV : Ext w V := by (rw [hV]; exact bxt)
  clear hV
  obtain ⟨b, o, rfl, hb, hat⟩ := HR.out.ptr (by omega)
  obtain ⟨y0, y1, y2, y3⟩ := DNote.at (hat.ext hb hwV) K hKl
  have hbV2 : b < V.heap.size := by omega
  have HA9 := Lib.hid hat
  clear hat
  have x0 := fun y : ExtW V => (y.h.cell (p := ⟨b, o + K * 4, none⟩) hbV2).trans y0
  have x2 := fun y : ExtW V => (y.h.cell (p := ⟨b, o + K * 4 + 2, none⟩) hbV2).trans y2
  have xq := fun y : ExtW V => (y.h.cell (p := ⟨w.heap.size, 0, none⟩) Vs0).trans Vq0
  have xn := fun y : ExtW V => (y.h.cell (p := ⟨w.heap.size + 1, 2, none⟩) Vs1).trans Vn2
  refine wp_region_ext (by kernel_rfl) (by kernel_rfl) ?_
  repeat (go_big_quiet_step (fail))
  refine wpQuiet_nil ?_
  rintro _ ⟨⟨wq, hwq⟩, rfl⟩
  obtain ⟨hcq, hfq⟩ := bcell hwq
  have sq0 := Nat.lt_of_lt_of_le Vs0 hwq.size
  have sq1 := Nat.lt_of_lt_of_le Vs1 hwq.size
  have sq2 := Nat.lt_of_lt_of_le Vs2 hwq.size
  have sq3 := Nat.lt_of_lt_of_le Vs3 hwq.size
  go_upto_region 10 with fail
  refine wp_world (fun W hW => ?_)
  have hbW : Ext w1 W := by (rw [hW]; exact bxt)
  have Wq0 : W.cell? ⟨w.heap.size, 0, none⟩ = some (.slice (some ⟨b, o, none⟩) l.length c) := by (rw [hW]; simp [go_sem, *])
  have Wq1 : W.cell? ⟨w.heap.size, 1, none⟩ = some (.bool false) := by (rw [hW]; simp [go_sem, *])
  have Wq2 : W.cell? ⟨w.heap.size, 2, none⟩ = some (.bool rc) := by (rw [hW]; simp [go_sem, *])
  have Wn0 : W.cell? ⟨w.heap.size + 1, 0, none⟩ = some (.int .i64 n.kind) := by (rw [hW]; simp [go_sem, *])
  have Wn1 : W.cell? ⟨w.heap.size + 1, 1, none⟩ = some (.int .i64 n.n) := by (rw [hW]; simp [go_sem, *])
  have Wn2 : W.cell? ⟨w.heap.size + 1, 2, none⟩ = some (.int .i64 n.uid) := by (rw [hW]; simp [go_sem, *])
  have Wn3 : W.cell? ⟨w.heap.size + 1, 3, none⟩ = some (.string n.name) := by (rw [hW]; simp [go_sem, *])
  have Wr0 : W.cell? ⟨w.heap.size + 2, 0, none⟩ = some (.slice none 0 0) := by (rw [hW]; simp [go_sem, *])
  have Wfr0 : W.frozen? ⟨w.heap.size + 2, 0, none⟩ = false := by (rw [hW]; simp [go_sem, *])
  have Wr1 : W.cell? ⟨w.heap.size + 2, 1, none⟩ = some (.bool false) := by (rw [hW]; simp [go_sem, *])
  have Wfr1 : W.frozen? ⟨w.heap.size + 2, 1, none⟩ = false := by (rw [hW]; simp [go_sem, *])
  have Wr2 : W.cell? ⟨w.heap.size + 2, 2, none⟩ = some (.bool false) := by (rw [hW]; simp [go_sem, *])
  have Wfr2 : W.frozen? ⟨w.heap.size + 2, 2, none⟩ = false := by (rw [hW]; simp [go_sem, *])
  have Wo0 : W.cell? ⟨w1.heap.size, 0, none⟩ = some (.slice (some ⟨gb, 0, none⟩) l.length q) := by (rw [hW]; simp [go_sem, *])
  have Wfo0 : W.frozen? ⟨w1.heap.size, 0, none⟩ = false := by (rw [hW]; simp [go_sem, *])
  have Wo1 : W.cell? ⟨w1.heap.size, 1, none⟩ = some (.bool false) := by (rw [hW]; simp [go_sem, *])
  have Wfo1 : W.frozen? ⟨w1.heap.size, 1, none⟩ = false := by (rw [hW]; simp [go_sem, *])
  have Wo2 : W.cell? ⟨w1.heap.size, 2, none⟩ = some (.bool rc) := by (rw [hW]; simp [go_sem, *])
  have Wfo2 : W.frozen? ⟨w1.heap.size, 2, none⟩ = false := by (rw [hW]; simp [go_sem, *])
  have Ws3 : w1.heap.size < W.heap.size := by (rw [hW]; first | omega | (simp; omega))
  have Ws2 : w.heap.size + 2 < W.heap.size := by omega
  have Ws1 : w.heap.size + 1 < W.heap.size := by omega
  have Ws0 : w.heap.size < W.heap.size := by omega
  have HW : Hid (Own W (w.heap.size + 3) 36 4 (.slice (some ⟨gb, 0, none⟩) l.length q) l.length (l.flatMap DNote.cells)) := HO.out.ext (by (rw [hW]; exact bxt))
  have hwW : Ext w W := by (rw [hW]; exact bxt)
  clear hW
  have hgb := HW.out.lt gb ((foot_slice _ _ _ _).2 ⟨by have := HW.out.cap; omega, _, rfl, rfl⟩)
  have HQ0 : Hid (q ≠ 0) := by (have := HW.out.cap; unfold Hid; omega)
  have hgb1 : w.heap.size + 3 ≤ gb := hgb.1
  have hgb2 : gb < w1.heap.size := (HO.out.lt gb ((foot_slice _ _ _ _).2 ⟨HQ0.out, _, rfl, rfl⟩)).2
  clear hgb
  obtain ⟨⟨z0, hz0⟩, hy0⟩ := HW.out.slot (K * 4) (by omega)
  obtain ⟨⟨z1, hz1⟩, hy1⟩ := HW.out.slot (K * 4 + 1) (by omega)
  obtain ⟨⟨z2, hz2⟩, hy2⟩ := HW.out.slot (K * 4 + 2) (by omega)
  obtain ⟨⟨z3, hz3⟩, hy3⟩ := HW.out.slot (K * 4 + 3) (by omega)
  go_wp2_with fail
  unfold PushPost
  refine bodyPost_ret (v := .agg #[.slice (some ⟨gb, 0, none⟩) (l.set K n).length q, .bool false, .bool rc]) (by simp [results, Try.results18, go_sem, *]) rfl ⟨(some ⟨gb, 0, none⟩), q, rfl, ?_, ?_⟩
  · refine Own.le (B := w.heap.size + 3) ?_ (by omega)
    try dsimp only
    rw [List.length_set]
    exact (by repeat' (first | with_reducible exact HW.out | with_reducible refine Own.set_below ?_ smx _ | with_reducible refine Own.put1 ?_ HQ0.out P0.out | with_reducible refine Own.put1 ?_ HQ0.out P1.out | with_reducible refine Own.put1 ?_ HQ0.out P2.out | with_reducible refine Own.put1 ?_ HQ0.out P3.out | with_reducible refine Own.alloc1 ?_ _ | with_reducible refine Own.drew1 ?_ | with_reducible refine Own.drewN1 ?_ | with_reducible refine Own.ext ?_ (by assumption)))
  · exact bxt

theorem specPushNote_any (l : List DNote) (a : Option Addr) (c : Nat) (rb rc : Bool) (n : DNote) (w : World) (R : Rd w a c 4 l.length (l.flatMap DNote.cells)) (hl : l.length ≤ 1048576) (hn : ∀ y ∈ l, y.name.size ≤ 9223372036854775807) (hs : n.name.size ≤ 9223372036854775807) (r : List DNote) (Hr : Hid ((pushQ l rb rc n).notes = r)) (b : Bool) (Hb : Hid ((pushQ l rb rc n).resync = b)) (d : Bool) (Hd : Hid ((pushQ l rb rc n).lost = d)) :
    Calls Try.prog 18 #[.agg #[.slice a l.length c, .bool rb, .bool rc], .agg #[.int .i64 n.kind, .int .i64 n.n, .int .i64 n.uid, .string n.name]] w fun e w' => ∃ g q, e = .returned (.agg #[.slice g r.length q, .bool b, .bool d]) ∧ Own w' w.heap.size 36 4 (.slice g r.length q) r.length (r.flatMap DNote.cells) ∧ Ext w w' := by
  obtain rfl := Hr.out
  obtain rfl := Hb.out
  obtain rfl := Hd.out
  clear Hr Hb Hd
  show Calls Try.prog 18 #[.agg #[.slice a l.length c, .bool rb, .bool rc], .agg #[.int .i64 n.kind, .int .i64 n.n, .int .i64 n.uid, .string n.name]] w (PushPost 36 (pushQ l rb rc n) w)
  by_cases hq : QueueP l rb rc
  rotate_left
  · rw [show pushQ l rb rc n = ⟨l, rb, rc⟩ from by (unfold pushQ; simp [hq])]
    exact specPush_q l a c rb rc n w R hl hn hs hq
  by_cases hp : NoteP n
  rotate_left
  · rw [show pushQ l rb rc n = ⟨l, rb, rc⟩ from by (unfold pushQ; simp [hq, hp])]
    exact specPush_n l a c rb rc n w R hl hn hs hq hp
  by_cases hk : n.kind = 1
  · cases ha : l.any (boxIn n.n) with
    | true =>
      rw [show pushQ l rb rc n = ⟨l, rb, rc⟩ from by (unfold pushQ; simp [hq, hp, hk, ha])]
      exact specPush_ab l a c rb rc n w R hl hn hs hq hp hk ha
    | false =>
      cases rb with
      | true =>
        rw [show pushQ l true rc n = ⟨l, true, rc⟩ from by (unfold pushQ; simp [hq, hp, hk, ha])]
        exact specPush_rs l a c true rc n w R hl hn hs hq hp hk ha rfl
      | false =>
        rcases Nat.eq_zero_or_pos l.length with h0 | h0
        · have hL : ¬ lastIs l n := fun ⟨h, _⟩ => by omega
          have h6 : ¬ l.length = 6 := by omega
          rw [show pushQ l false rc n = ⟨l ++ [n], false, rc⟩ from by (unfold pushQ; simp [hq, hp, hk, ha, hL, h6])]
          exact specPush_g0 l a c false rc n w R hl hn hs h0 hq hp hk ha rfl h6
        · obtain ⟨K, hK⟩ : ∃ K, l.length = K + 1 := ⟨l.length - 1, by omega⟩
          have hKl : K < l.length := by omega
          have hLi := lastIs_iff (n := n) hKl hK
          by_cases t1 : l[K].kind = 1
          · by_cases t2 : l[K].uid = n.uid
            · by_cases t3 : n.uid = 0
              · have hL : ¬ lastIs l n := fun h => (hLi.1 h).2.2 t3
                by_cases h6 : l.length = 6
                · rw [show pushQ l false rc n = ⟨l.filter (onlyIs false), true, rc⟩ from by (unfold pushQ; simp [hq, hp, hk, ha, hL, h6])]
                  exact specPush_f3 l a c false rc n w R hl hn hs _ (Lib.hid rfl) K hKl hK t1 t2 t3 hq hp hk ha rfl h6
                · rw [show pushQ l false rc n = ⟨l ++ [n], false, rc⟩ from by (unfold pushQ; simp [hq, hp, hk, ha, hL, h6])]
                  exact specPush_g3 l a c false rc n w R hl hn hs K hKl hK t1 t2 t3 hq hp hk ha rfl h6
              · have hL : lastIs l n := hLi.2 ⟨t1, t2, t3⟩
                have hs1 : l.length - 1 = K := by omega
                rw [show pushQ l false rc n = ⟨l.set K n, false, rc⟩ from by (unfold pushQ; simp [hq, hp, hk, ha, hL, hs1])]
                exact specPush_e l a c false rc n w R hl hn hs K hKl hK t1 t2 t3 hq hp hk ha rfl
            · have hL : ¬ lastIs l n := fun h => t2 (hLi.1 h).2.1
              by_cases h6 : l.length = 6
              · rw [show pushQ l false rc n = ⟨l.filter (onlyIs false), true, rc⟩ from by (unfold pushQ; simp [hq, hp, hk, ha, hL, h6])]
                exact specPush_f2 l a c false rc n w R hl hn hs _ (Lib.hid rfl) K hKl hK t1 t2 hq hp hk ha rfl h6
              · rw [show pushQ l false rc n = ⟨l ++ [n], false, rc⟩ from by (unfold pushQ; simp [hq, hp, hk, ha, hL, h6])]
                exact specPush_g2 l a c false rc n w R hl hn hs K hKl hK t1 t2 hq hp hk ha rfl h6
          · have hL : ¬ lastIs l n := fun h => t1 (hLi.1 h).1
            by_cases h6 : l.length = 6
            · rw [show pushQ l false rc n = ⟨l.filter (onlyIs false), true, rc⟩ from by (unfold pushQ; simp [hq, hp, hk, ha, hL, h6])]
              exact specPush_f1 l a c false rc n w R hl hn hs _ (Lib.hid rfl) K hKl hK t1 hq hp hk ha rfl h6
            · rw [show pushQ l false rc n = ⟨l ++ [n], false, rc⟩ from by (unfold pushQ; simp [hq, hp, hk, ha, hL, h6])]
              exact specPush_g1 l a c false rc n w R hl hn hs K hKl hK t1 hq hp hk ha rfl h6
  · cases rc with
    | true =>
      rw [show pushQ l rb true n = ⟨l, rb, true⟩ from by (unfold pushQ; simp [hq, hp, hk])]
      exact specPush_lo l a c rb true n w R hl hn hs hq hp hk rfl
    | false =>
      by_cases h2 : n.kind = 2 ∧ l.any (statusIn n.name) = true
      · rw [show pushQ l rb false n = ⟨l, rb, false⟩ from by (unfold pushQ; simp [hq, hp, hk, h2])]
        exact specPush_st l a c rb false n w R hl hn hs hq hp hk rfl h2.1 h2.2
      · by_cases h6 : l.length = 6
        · rw [show pushQ l rb false n = ⟨l.filter (onlyIs true), rb, true⟩ from (by unfold pushQ; simp only [hq, hp, hk, h6, not_true_eq_false, reduceIte, Bool.false_eq_true, if_neg h2])]
          exact specPush_ks l a c rb false n w R hl hn hs _ (Lib.hid rfl) hq hp hk rfl h2 h6
        · rw [show pushQ l rb false n = ⟨l ++ [n], rb, false⟩ from (by unfold pushQ; simp only [hq, hp, hk, h6, not_true_eq_false, reduceIte, Bool.false_eq_true, if_neg h2])]
          exact specPush_ko l a c rb false n w R hl hn hs hq hp hk rfl h2 h6

end Go.Proofs.Ytgobkfnmagcgcaa
