/-
  The text of a reply and its words: the plain law of ReplyText and ReadReply.
-/
import Derived.Test.YtidfhkdonhjgaaaGreatDoorWNumP
import Derived.Test.YtidfhkdonhjgaaaGreatDoorReplyP
import Derived.Lib.Join
namespace Go.Proofs.YtidfhkdonhjgaaaGreatDoor
open Go Go.Lib
set_option linter.unusedVariables false
set_option linter.unusedSimpArgs false

/-- a text of these bytes -/
def bs (l : List UInt8) : ByteArray := ⟨l.toArray⟩
theorem bs_data (l : List UInt8) : (bs l).data.toList = l := by simp [bs]
theorem bs_of (s : ByteArray) : bs s.data.toList = s := by simp [bs]
theorem bs_inj {a b : List UInt8} (h : bs a = bs b) : a = b := by rw [← bs_data a, h, bs_data]
theorem bs_app (a b : List UInt8) : bs a ++ bs b = bs (a ++ b) := by
  apply ByteArray.ext; apply Array.ext'; simp [bs]
theorem bs_size (l : List UInt8) : (bs l).size = l.length := by simp [bs, ByteArray.size]

def wEXISTS : List UInt8 := [69, 88, 73, 83, 84, 83]
def wEXPUNGE : List UInt8 := [69, 88, 80, 85, 78, 71, 69]
def wFETCH : List UInt8 := [70, 69, 84, 67, 72]
def wBODY : List UInt8 := [66, 79, 68, 89]
def wSTATUS : List UInt8 := [83, 84, 65, 84, 85, 83]
def wLIST : List UInt8 := [76, 73, 83, 84]
def wGONE : List UInt8 := [71, 79, 78, 69]
def wSELECTED : List UInt8 := [83, 69, 76, 69, 67, 84, 69, 68]
def wCLOSED : List UInt8 := [67, 76, 79, 83, 69, 68]
def wOVERFLOW : List UInt8 := [79, 86, 69, 82, 70, 76, 79, 87]
def wBYE : List UInt8 := [66, 89, 69]
def wHELLO : List UInt8 := [72, 69, 76, 76, 79]
def wOK : List UInt8 := [79, 75]
def wNO : List UInt8 := [78, 79]
def wBAD : List UInt8 := [66, 65, 68]
def wIdle : List UInt8 := [105, 100, 108, 101]
/-- the flags' names -/
def flNames (f : Nat) : List (List UInt8) := (if f / 1 % 2 = 1 then [[115, 101, 101, 110]] else []) ++ (if f / 2 % 2 = 1 then [[97, 110, 115, 119, 101, 114, 101, 100]] else []) ++ (if f / 4 % 2 = 1 then [[102, 108, 97, 103, 103, 101, 100]] else []) ++ (if f / 8 % 2 = 1 then [[100, 101, 108, 101, 116, 101, 100]] else []) ++ (if f / 16 % 2 = 1 then [[100, 114, 97, 102, 116]] else [])
def flText (f : Nat) : List UInt8 := join (flNames f) [32]
def hexL (l : List UInt8) : List UInt8 := if l = [] then [45] else Hx.encode l
/-- the text of a reply of these fields -/
def txtL (k n u f : Int) (nm tx : ByteArray) : List UInt8 :=
  if k = 1 then 42 :: 32 :: (decDigits n.toNat ++ 32 :: wEXISTS) else
  if k = 2 then 42 :: 32 :: (decDigits n.toNat ++ 32 :: wEXPUNGE) else
  if k = 3 then 42 :: 32 :: (decDigits n.toNat ++ 32 :: (wFETCH ++ 32 :: (decDigits u.toNat ++ 32 :: 40 :: (flText f.toNat ++ [41])))) else
  if k = 4 then 42 :: 32 :: (decDigits n.toNat ++ 32 :: (wBODY ++ 32 :: hexL tx.data.toList)) else
  if k = 5 then 42 :: 32 :: (wSTATUS ++ 32 :: (nm.data.toList ++ 32 :: (decDigits n.toNat ++ 32 :: decDigits u.toNat))) else
  if k = 6 then 42 :: 32 :: (wLIST ++ 32 :: nm.data.toList) else
  if k = 7 then 42 :: 32 :: (wGONE ++ 32 :: nm.data.toList) else
  if k = 8 then 42 :: 32 :: (wSELECTED ++ 32 :: (nm.data.toList ++ 32 :: decDigits n.toNat)) else
  if k = 9 then 42 :: 32 :: wCLOSED else
  if k = 10 then 42 :: 32 :: wOVERFLOW else
  if k = 11 then 42 :: 32 :: wBYE else
  if k = 12 then nm.data.toList ++ 32 :: wOK else
  if k = 13 then nm.data.toList ++ 32 :: wNO else
  if k = 14 then nm.data.toList ++ 32 :: wBAD else
  if k = 15 then 43 :: 32 :: wIdle else
  42 :: 32 :: wHELLO
theorem txt_1 (n u f : Int) (nm tx : ByteArray) : txtL 1 n u f nm tx = 42 :: 32 :: (decDigits n.toNat ++ 32 :: wEXISTS) := by simp [txtL]
theorem txt_2 (n u f : Int) (nm tx : ByteArray) : txtL 2 n u f nm tx = 42 :: 32 :: (decDigits n.toNat ++ 32 :: wEXPUNGE) := by simp [txtL]
theorem txt_3 (n u f : Int) (nm tx : ByteArray) : txtL 3 n u f nm tx = 42 :: 32 :: (decDigits n.toNat ++ 32 :: (wFETCH ++ 32 :: (decDigits u.toNat ++ 32 :: 40 :: (flText f.toNat ++ [41])))) := by simp [txtL]
theorem txt_4 (n u f : Int) (nm tx : ByteArray) : txtL 4 n u f nm tx = 42 :: 32 :: (decDigits n.toNat ++ 32 :: (wBODY ++ 32 :: hexL tx.data.toList)) := by simp [txtL]
theorem txt_5 (n u f : Int) (nm tx : ByteArray) : txtL 5 n u f nm tx = 42 :: 32 :: (wSTATUS ++ 32 :: (nm.data.toList ++ 32 :: (decDigits n.toNat ++ 32 :: decDigits u.toNat))) := by simp [txtL]
theorem txt_6 (n u f : Int) (nm tx : ByteArray) : txtL 6 n u f nm tx = 42 :: 32 :: (wLIST ++ 32 :: nm.data.toList) := by simp [txtL]
theorem txt_7 (n u f : Int) (nm tx : ByteArray) : txtL 7 n u f nm tx = 42 :: 32 :: (wGONE ++ 32 :: nm.data.toList) := by simp [txtL]
theorem txt_8 (n u f : Int) (nm tx : ByteArray) : txtL 8 n u f nm tx = 42 :: 32 :: (wSELECTED ++ 32 :: (nm.data.toList ++ 32 :: decDigits n.toNat)) := by simp [txtL]
theorem txt_9 (n u f : Int) (nm tx : ByteArray) : txtL 9 n u f nm tx = 42 :: 32 :: wCLOSED := by simp [txtL]
theorem txt_10 (n u f : Int) (nm tx : ByteArray) : txtL 10 n u f nm tx = 42 :: 32 :: wOVERFLOW := by simp [txtL]
theorem txt_11 (n u f : Int) (nm tx : ByteArray) : txtL 11 n u f nm tx = 42 :: 32 :: wBYE := by simp [txtL]
theorem txt_12 (n u f : Int) (nm tx : ByteArray) : txtL 12 n u f nm tx = nm.data.toList ++ 32 :: wOK := by simp [txtL]
theorem txt_13 (n u f : Int) (nm tx : ByteArray) : txtL 13 n u f nm tx = nm.data.toList ++ 32 :: wNO := by simp [txtL]
theorem txt_14 (n u f : Int) (nm tx : ByteArray) : txtL 14 n u f nm tx = nm.data.toList ++ 32 :: wBAD := by simp [txtL]
theorem txt_15 (n u f : Int) (nm tx : ByteArray) : txtL 15 n u f nm tx = 43 :: 32 :: wIdle := by simp [txtL]
theorem txt_16 (n u f : Int) (nm tx : ByteArray) : txtL 16 n u f nm tx = 42 :: 32 :: wHELLO := by simp [txtL]
def txt (a : DReply) : ByteArray := bs (txtL a.kind a.n a.uid a.flags a.name a.text)
/-- what ReplyText returns -/
def txtOf (r : Bool) (a : DReply) : ByteArray := if r = true then txt a else ⟨#[]⟩
/-- a text cut at a byte; acc: what of the part is read -/
def partsL (by_ : UInt8) (acc : List UInt8) : List UInt8 → List (List UInt8)
  | [] => [acc]
  | b :: t => if b = by_ then acc :: partsL by_ [] t else partsL by_ (acc ++ [b]) t
theorem parts_go (c : UInt8) : ∀ (a acc t : List UInt8), c ∉ a → partsL c acc (a ++ c :: t) = (acc ++ a) :: partsL c [] t
  | [], acc, t, _ => by simp [partsL]
  | b :: a, acc, t, h => by
    have hb : b ≠ c := fun e => h (by simp [e])
    rw [List.cons_append, partsL, if_neg hb, parts_go c a _ t (fun x => h (by simp [x]))]
    simp
theorem parts_end (c : UInt8) : ∀ (a acc : List UInt8), c ∉ a → partsL c acc a = [acc ++ a]
  | [], acc, _ => by simp [partsL]
  | b :: a, acc, h => by
    have hb : b ≠ c := fun e => h (by simp [e])
    rw [partsL, if_neg hb, parts_end c a _ (fun x => h (by simp [x]))]
    simp
theorem parts_len (c : UInt8) : ∀ (l acc : List UInt8), (partsL c acc l).length ≤ l.length + 1
  | [], acc => by simp [partsL]
  | b :: t, acc => by
    unfold partsL
    split
    · have := parts_len c t []; simp; omega
    · have := parts_len c t (acc ++ [b]); simp; omega
theorem parts_pos (c : UInt8) : ∀ (l acc : List UInt8), 1 ≤ (partsL c acc l).length
  | [], acc => by simp [partsL]
  | b :: t, acc => by
    unfold partsL
    split
    · simp
    · exact parts_pos c t _
/-- the words of a text -/
def wordsL (l : List UInt8) : List (List UInt8) := partsL 32 [] l
theorem words_cons (a t : List UInt8) (h : (32 : UInt8) ∉ a) : wordsL (a ++ 32 :: t) = a :: wordsL t := by unfold wordsL; rw [parts_go 32 a [] t h, List.nil_append]
theorem words_end (a : List UInt8) (h : (32 : UInt8) ∉ a) : wordsL a = [a] := by unfold wordsL; rw [parts_end 32 a [] h, List.nil_append]
theorem words_star (t : List UInt8) : wordsL (42 :: 32 :: t) = [42] :: wordsL t := words_cons [42] t (by decide)
/-- no space -/
theorem nosp_dec (n : Nat) : (32 : UInt8) ∉ decDigits n := fun h => by have := dec_digit n 32 h; revert this; decide
theorem nosp_hex (l : List UInt8) : (32 : UInt8) ∉ hexL l := by
  unfold hexL
  split
  · decide
  · intro h
    unfold Hx.encode at h
    rw [List.mem_flatMap] at h
    obtain ⟨b, _, h2⟩ := h
    have hb : b.toNat < 256 := b.toNat_lt
    simp only [List.mem_cons, List.not_mem_nil, or_false] at h2
    have k : ∀ d : Fin 16, (32 : UInt8) ≠ Hx.digit d.val := by decide +kernel
    rcases h2 with h2 | h2
    · exact k ⟨b.toNat / 16, by omega⟩ h2
    · exact k ⟨b.toNat % 16, by omega⟩ h2

theorem name_bytes {nm : ByteArray} (h : NameP nm) : ∀ b ∈ nm.data.toList, b.toNat = 47 ∨ (97 ≤ b.toNat ∧ b.toNat ≤ 122) := by
  intro b hb
  obtain ⟨i, hi, rfl⟩ := List.getElem_of_mem hb
  have hi' : i < nm.size := by simpa using hi
  have h1 := h.1 i hi'
  have h2 := cat_eq nm i hi'
  have e : (nm.data.toList[i]'hi) = nm[i] := by simp; rfl
  rw [e]
  unfold LetterP at h1
  rw [h2] at h1
  by_cases h3 : nm[i].toNat = 47
  · exact Or.inl h3
  · exact Or.inr (h1.2 h3)
theorem name_ne {nm : ByteArray} (h : NameP nm) : nm.data.toList ≠ [] := by
  intro e
  have h1 := h.2.1
  have : nm.data.toList.length = nm.size := by simp
  rw [e] at this; simp at this; omega
theorem tag_bytes {nm : ByteArray} (h : TagP nm ∨ nm = ⟨#[42]⟩) : ∀ b ∈ nm.data.toList, 33 ≤ b.toNat ∧ b.toNat ≠ 43 := by
  rcases h with h | rfl
  · intro b hb
    obtain ⟨i, hi, rfl⟩ := List.getElem_of_mem hb
    have hi' : i < nm.size := by simpa using hi
    have h1 := h.1 i hi'
    have h2 := cat_eq nm i hi'
    have e : (nm.data.toList[i]'hi) = nm[i] := by simp; rfl
    rw [e]
    unfold TagL at h1
    rw [h2] at h1
    omega
  · intro b hb
    simp only [List.mem_cons, List.not_mem_nil, or_false] at hb
    subst hb; decide
theorem nosp_name {nm : ByteArray} (h : NameP nm) : (32 : UInt8) ∉ nm.data.toList := fun hb => by have := name_bytes h 32 hb; revert this; decide
theorem nosp_tag {nm : ByteArray} (h : TagP nm ∨ nm = ⟨#[42]⟩) : (32 : UInt8) ∉ nm.data.toList := fun hb => by have := tag_bytes h 32 hb; revert this; decide
/-- a name begins with no upper-case letter -/
theorem name_up {nm : ByteArray} (h : NameP nm) (c : UInt8) (t : List UInt8) (hc : c.toNat < 97 ∧ c.toNat ≠ 47) : nm.data.toList ≠ c :: t := fun e => by
  have := name_bytes h c (by rw [e]; simp)
  omega
theorem tag_len {nm : ByteArray} (h : TagP nm ∨ nm = ⟨#[42]⟩) : nm.data.toList.length ≤ 8 := by
  rcases h with h | rfl
  · have := h.2.2; simpa using this
  · decide
theorem name_len {nm : ByteArray} (h : NameP nm) : nm.data.toList.length ≤ 12 := by have := h.2.2; simpa using this
theorem flText_len (f : Nat) (h : f ≤ 31) : (flText f).length ≤ 40 := by
  have : ∀ f : Fin 32, (flText f.val).length ≤ 40 := by decide +kernel
  exact this ⟨f, by omega⟩
theorem hexL_len (l : List UInt8) (h : l.length ≤ 40) : (hexL l).length ≤ 80 := by
  unfold hexL
  split
  · simp
  · rw [Hx.encode_length]; omega
/-- the words of a valid reply's text, kind by kind -/
def WdK (a : DReply) (s : List UInt8) : Nat → Prop
  | 1 => ∃ (n : Int), a = ⟨1, n, 0, 0, ⟨#[]⟩, ⟨#[]⟩⟩ ∧ wordsL s = [[42], decDigits n.toNat, wEXISTS] ∧ 0 ≤ n ∧ n ≤ 999999999
  | 2 => ∃ (n : Int), a = ⟨2, n, 0, 0, ⟨#[]⟩, ⟨#[]⟩⟩ ∧ wordsL s = [[42], decDigits n.toNat, wEXPUNGE] ∧ 0 ≤ n ∧ n ≤ 999999999
  | 3 => ∃ (n u f : Int), a = ⟨3, n, u, f, ⟨#[]⟩, ⟨#[]⟩⟩ ∧ wordsL s = [42] :: decDigits n.toNat :: wFETCH :: decDigits u.toNat :: wordsL (40 :: (flText f.toNat ++ [41])) ∧ (0 ≤ n ∧ n ≤ 999999999) ∧ (0 ≤ u ∧ u ≤ 999999999) ∧ (0 ≤ f ∧ f ≤ 31) ∧ s = (42 :: 32 :: (decDigits n.toNat ++ 32 :: (wFETCH ++ 32 :: (decDigits u.toNat ++ [32])))) ++ 40 :: (flText f.toNat ++ [41])
  | 4 => ∃ (n : Int), ∃ (tx : ByteArray), a = ⟨4, n, 0, 0, ⟨#[]⟩, tx⟩ ∧ wordsL s = [[42], decDigits n.toNat, wBODY, hexL tx.data.toList] ∧ (0 ≤ n ∧ n ≤ 999999999) ∧ tx.size ≤ 40
  | 5 => ∃ (n u : Int), ∃ (nm : ByteArray), a = ⟨5, n, u, 0, nm, ⟨#[]⟩⟩ ∧ wordsL s = [[42], wSTATUS, nm.data.toList, decDigits n.toNat, decDigits u.toNat] ∧ (0 ≤ n ∧ n ≤ 999999999) ∧ (0 ≤ u ∧ u ≤ 999999999) ∧ NameP nm
  | 6 => ∃ (nm : ByteArray), a = ⟨6, 0, 0, 0, nm, ⟨#[]⟩⟩ ∧ wordsL s = [[42], wLIST, nm.data.toList] ∧ NameP nm
  | 7 => ∃ (nm : ByteArray), a = ⟨7, 0, 0, 0, nm, ⟨#[]⟩⟩ ∧ wordsL s = [[42], wGONE, nm.data.toList] ∧ NameP nm
  | 8 => ∃ (n : Int), ∃ (nm : ByteArray), a = ⟨8, n, 0, 0, nm, ⟨#[]⟩⟩ ∧ wordsL s = [[42], wSELECTED, nm.data.toList, decDigits n.toNat] ∧ (0 ≤ n ∧ n ≤ 999999999) ∧ NameP nm
  | 9 => a = ⟨9, 0, 0, 0, ⟨#[]⟩, ⟨#[]⟩⟩ ∧ wordsL s = [[42], wCLOSED] ∧ True
  | 10 => a = ⟨10, 0, 0, 0, ⟨#[]⟩, ⟨#[]⟩⟩ ∧ wordsL s = [[42], wOVERFLOW] ∧ True
  | 11 => a = ⟨11, 0, 0, 0, ⟨#[]⟩, ⟨#[]⟩⟩ ∧ wordsL s = [[42], wBYE] ∧ True
  | 12 => ∃ (nm : ByteArray), a = ⟨12, 0, 0, 0, nm, ⟨#[]⟩⟩ ∧ wordsL s = [nm.data.toList, wOK] ∧ (TagP nm ∨ nm = ⟨#[42]⟩)
  | 13 => ∃ (nm : ByteArray), a = ⟨13, 0, 0, 0, nm, ⟨#[]⟩⟩ ∧ wordsL s = [nm.data.toList, wNO] ∧ (TagP nm ∨ nm = ⟨#[42]⟩)
  | 14 => ∃ (nm : ByteArray), a = ⟨14, 0, 0, 0, nm, ⟨#[]⟩⟩ ∧ wordsL s = [nm.data.toList, wBAD] ∧ (TagP nm ∨ nm = ⟨#[42]⟩)
  | 15 => a = ⟨15, 0, 0, 0, ⟨#[]⟩, ⟨#[]⟩⟩ ∧ wordsL s = [[43], wIdle] ∧ True
  | 16 => a = ⟨16, 0, 0, 0, ⟨#[]⟩, ⟨#[]⟩⟩ ∧ wordsL s = [[42], wHELLO] ∧ True
  | _ => False
theorem wd_of {a : DReply} {s : List UInt8} (ha : ReplyP a) (hs : txtL a.kind a.n a.uid a.flags a.name a.text = s) : ∃ k, WdK a s k := by
  obtain ⟨k, n, u, f, nm, tx⟩ := a
  unfold ReplyP ReplyK at ha
  simp only at ha hs
  subst hs
  rcases ha with ⟨rfl, h1, rfl, rfl, rfl, rfl⟩ | ⟨rfl, h1, rfl, rfl, rfl, rfl⟩ | ⟨rfl, h1, h2, h3, rfl, rfl⟩ | ⟨rfl, h1, h2, rfl, rfl, rfl⟩ | ⟨rfl, h1, h2, h3, rfl, rfl⟩ | ⟨rfl, h1, rfl, rfl, rfl, rfl⟩ | ⟨rfl, h1, rfl, rfl, rfl, rfl⟩ | ⟨rfl, h1, h2, rfl, rfl, rfl⟩ | ⟨rfl, rfl, rfl, rfl, rfl, rfl⟩ | ⟨rfl, rfl, rfl, rfl, rfl, rfl⟩ | ⟨rfl, rfl, rfl, rfl, rfl, rfl⟩ | ⟨rfl, h1, rfl, rfl, rfl, rfl⟩ | ⟨rfl, h1, rfl, rfl, rfl, rfl⟩ | ⟨rfl, h1, rfl, rfl, rfl, rfl⟩ | ⟨rfl, rfl, rfl, rfl, rfl, rfl⟩ | ⟨rfl, rfl, rfl, rfl, rfl, rfl⟩
  · exact ⟨1, n, rfl, by rw [txt_1, words_star, words_cons _ _ (nosp_dec _), words_end _ (by decide)], by omega, by omega⟩
  · exact ⟨2, n, rfl, by rw [txt_2, words_star, words_cons _ _ (nosp_dec _), words_end _ (by decide)], by omega, by omega⟩
  · exact ⟨3, n, u, f, rfl, by rw [txt_3, words_star, words_cons _ _ (nosp_dec _), words_cons _ _ (by decide), words_cons _ _ (nosp_dec _)], ⟨by omega, by omega⟩, ⟨by omega, by omega⟩, h3, by rw [txt_3]; simp⟩
  · exact ⟨4, n, tx, rfl, by rw [txt_4, words_star, words_cons _ _ (nosp_dec _), words_cons _ _ (by decide), words_end _ (nosp_hex _)], ⟨by omega, by omega⟩, h2⟩
  · exact ⟨5, n, u, nm, rfl, by rw [txt_5, words_star, words_cons _ _ (by decide), words_cons _ _ (nosp_name h3), words_cons _ _ (nosp_dec _), words_end _ (nosp_dec _)], ⟨by omega, by omega⟩, ⟨by omega, by omega⟩, h3⟩
  · exact ⟨6, nm, rfl, by rw [txt_6, words_star, words_cons _ _ (by decide), words_end _ (nosp_name h1)], h1⟩
  · exact ⟨7, nm, rfl, by rw [txt_7, words_star, words_cons _ _ (by decide), words_end _ (nosp_name h1)], h1⟩
  · exact ⟨8, n, nm, rfl, by rw [txt_8, words_star, words_cons _ _ (by decide), words_cons _ _ (nosp_name h2), words_end _ (nosp_dec _)], h1, h2⟩
  · exact ⟨9, rfl, by rw [txt_9, words_star, words_end _ (by decide)], trivial⟩
  · exact ⟨10, rfl, by rw [txt_10, words_star, words_end _ (by decide)], trivial⟩
  · exact ⟨11, rfl, by rw [txt_11, words_star, words_end _ (by decide)], trivial⟩
  · exact ⟨12, nm, rfl, by rw [txt_12, words_cons _ _ (nosp_tag h1), words_end _ (by decide)], h1⟩
  · exact ⟨13, nm, rfl, by rw [txt_13, words_cons _ _ (nosp_tag h1), words_end _ (by decide)], h1⟩
  · exact ⟨14, nm, rfl, by rw [txt_14, words_cons _ _ (nosp_tag h1), words_end _ (by decide)], h1⟩
  · exact ⟨15, rfl, by rw [txt_15]; exact (words_cons [43] _ (by decide)).trans (by rw [words_end _ (by decide)]), trivial⟩
  · exact ⟨16, rfl, by rw [txt_16, words_star, words_end _ (by decide)], trivial⟩end Go.Proofs.YtidfhkdonhjgaaaGreatDoor
