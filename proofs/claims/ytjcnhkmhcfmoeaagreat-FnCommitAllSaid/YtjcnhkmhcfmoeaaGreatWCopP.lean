/-
  CopyMsgs: the plain law.
-/
import Derived.Test.YtjcnhkmhcfmoeaaGreatXEach
import Derived.Test.YtjcnhkmhcfmoeaaGreatXKeep
import Derived.Test.YtjcnhkmhcfmoeaaGreatWComAllP
namespace Go.Proofs.YtjcnhkmhcfmoeaaGreat
open Go.RowKit
set_option linter.unusedVariables false
set_option linter.unusedSimpArgs false

/-- the messages that the numbers mean, in order -/
def hitsOf (l : List DMsg) : List Int → List DMsg
  | [] => []
  | u :: us => if placeOf u l < 0 then hitsOf l us else theM l (pl u l) :: hitsOf l us
/-- the commits that copy them: the mailbox's number, the first new number -/
def cpLog (tv : Int) : Int → List DMsg → List DCommit
  | _, [] => []
  | x, m :: ms => ⟨4, tv, x, m.flags, ⟨#[]⟩, m.text⟩ :: cpLog tv (x + 1) ms
def fromD (s : DStore) (v : Int) : DBox := theD s.boxes (boxWith v s.boxes).toNat
def toD (s : DStore) (n : ByteArray) : DBox := theD s.boxes (boxNamed n s.boxes).toNat
noncomputable def copyB (s : DStore) (v : Int) (us : List Int) (n : ByteArray) : DStore × Int :=
  if boxWith v s.boxes < 0 ∨ boxNamed n s.boxes < 0 then (s, 1) else
    if (cmtAll s (cpLog (toD s n).validity (toD s n).next (hitsOf (fromD s v).msgs us))).2 = true then ((cmtAll s (cpLog (toD s n).validity (toD s n).next (hitsOf (fromD s v).msgs us))).1, 0) else (s, 2)
noncomputable def copyD (s : DStore) (v : Int) (us : List Int) (n : ByteArray) : DStore × Int := opD s True (copyB s v us n)
theorem copyB_cnt (s : DStore) (v : Int) (us : List Int) (n : ByteArray) (h1 : cntD s.boxes ≤ 3145728) (h2 : s.log.length ≤ 1048576) : cntD (copyB s v us n).1.boxes ≤ 3145728 ∧ (copyB s v us n).1.log.length ≤ 1048576 := by
  unfold copyB
  split
  · exact ⟨h1, h2⟩
  · split
    · exact cmtAll_cnt _ s _ _ rfl h1 h2
    · exact ⟨h1, h2⟩
theorem copy_cnt (s : DStore) (v : Int) (us : List Int) (n : ByteArray) (h1 : cntD s.boxes ≤ 3145728) (h2 : s.log.length ≤ 1048576) : cntD (copyD s v us n).1.boxes ≤ 3145728 ∧ (copyD s v us n).1.log.length ≤ 1048576 := op_cnt h1 h2 (copyB_cnt s v us n h1 h2)
theorem hits_miss {l : List DMsg} {u : Int} {us : List Int} (h : placeOf u l < 0) : hitsOf l (u :: us) = hitsOf l us := if_pos h
theorem hits_hit {l : List DMsg} {u : Int} {us : List Int} {j : Nat} (hj : j < l.length) (h : placeOf u l = j) : hitsOf l (u :: us) = l[j] :: hitsOf l us := by
  rw [hitsOf, if_neg (by omega)]
  unfold pl
  rw [h, Int.toNat_natCast, theM_of hj]
theorem hits_len (l : List DMsg) : ∀ us, (hitsOf l us).length ≤ us.length
  | [] => Nat.le_refl _
  | u :: us => by
    rw [hitsOf]
    have := hits_len l us
    split <;> simp <;> omega
theorem cp_append (tv : Int) : ∀ (x : Int) (a b : List DMsg), cpLog tv x (a ++ b) = cpLog tv x a ++ cpLog tv (x + a.length) b
  | x, [], b => by simp [cpLog]
  | x, m :: a, b => by
    rw [List.cons_append, cpLog, cpLog, cp_append tv (x + 1) a b, List.cons_append]
    congr 3
    simp only [List.length_cons]
    omega
theorem cp_len (tv : Int) : ∀ (x : Int) (a : List DMsg), (cpLog tv x a).length = a.length
  | _, [] => rfl
  | x, m :: a => by rw [cpLog, List.length_cons, cp_len tv (x + 1) a]; rfl
/-- a message that was put: its mailbox's next number is greater by one -/
theorem put_next {s : DStore} {tv x f : Int} {t : ByteArray} {i : Nat} (hi : i < s.boxes.length) (hv : s.boxes[i].validity = tv) (h : ComP s ⟨4, tv, x, f, ⟨#[]⟩, t⟩) :
    ∃ hi2 : i < (comD s ⟨4, tv, x, f, ⟨#[]⟩, t⟩).boxes.length, (comD s ⟨4, tv, x, f, ⟨#[]⟩, t⟩).boxes[i].validity = tv ∧ (comD s ⟨4, tv, x, f, ⟨#[]⟩, t⟩).boxes[i].next = x + 1 ∧ (comD s ⟨4, tv, x, f, ⟨#[]⟩, t⟩).boxes.length = s.boxes.length := by
  obtain ⟨⟨hb, -, hf⟩, -, -⟩ := h
  obtain ⟨j, hj, hz, -, h4, -⟩ := hf.2 (show ¬ (4 : Int) = 1 by decide)
  obtain ⟨h0, -, -, hw⟩ := hb.1 i hi
  have hji : j = i := by
    have e : boxWith tv s.boxes = j := hz
    rw [hv] at hw
    omega
  subst hji
  have ha : atD s.boxes ⟨4, tv, x, f, ⟨#[]⟩, t⟩ = j := by unfold atD; rw [hz]; rfl
  have he : (comD s ⟨4, tv, x, f, ⟨#[]⟩, t⟩).boxes = s.boxes.set j (newD s.boxes[j] ⟨4, tv, x, f, ⟨#[]⟩, t⟩) := by
    show appD s.boxes ⟨4, tv, x, f, ⟨#[]⟩, t⟩ = _
    unfold appD
    rw [if_neg (show ¬ (4 : Int) = 1 by decide), if_neg (show ¬ (4 : Int) = 2 by decide), if_neg (show ¬ (4 : Int) = 3 by decide), ha, theD_of hj]
  have hx : x = s.boxes[j].next := (h4 rfl).1
  refine ⟨by rw [he]; simpa using hj, ?_, ?_, by rw [he]; simp⟩
  · simp only [he, List.getElem_set_self]
    rw [newD_valid, hv]
  · simp only [he, List.getElem_set_self]
    show s.boxes[j].next + 1 = x + 1
    rw [hx]
/-- a cell of a block that has not turned -/
theorem Rd.same {X wr : World} {a : Option Addr} {c s n : Nat} {xs : List Value} (h : Rd X a c s n xs) (hs : X.heap.size ≤ wr.heap.size) (hc : ∀ x o, x < X.heap.size → wr.cell? ⟨x, o, none⟩ = X.cell? ⟨x, o, none⟩) : Rd wr a c s n xs :=
  ⟨h.len, h.nc, h.cm, fun hn => let ⟨b, o, ha, hb, hat⟩ := h.ptr hn; ⟨b, o, ha, Nat.lt_of_lt_of_le hb hs, fun j u hu => (hc b (o + j) hb).trans (hat j u hu)⟩⟩
end Go.Proofs.YtjcnhkmhcfmoeaaGreat
