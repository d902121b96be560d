/-
  Decimal numerals and hexadecimal texts as lists of bytes: the plain law.
  Bytes and strings: a row of bytes read as a string.
  The text of a reply and its words: the plain law of ReplyText and ReadReply.
  What a text may be read as: the program's guess, the reference's candidates: the plain law of ReadReply.
  The texts of replies as they are put together.
  DERIVED: THE SHELF's CONTRACTS AT THIS DUMP, IN PLAIN WORDS (tools/lay-plain.mjs out of 'TrydShelf.lean', which tools/lay-shelf.mjs wrote): THE SAME DECLARATIONS UNDER THE SAME NAMES: 'import', 'namespace', 'open', 'def', 'theorem' AND NOTHING ELSE: no command of the shelf's: FOR A HAND-IN. Each laying: the table of numbers ('.._ren') and one theorem, a field a fact of the dump's own or the kernel's comparison; each contract: ONE APPLICATION.
  The numeral of a number: the program's Digits (strconv.Itoa) and the reference's loop.
  The hexadecimal text of bytes: the program's Hex (encoding/hex) and the reference's loop.
  The lines of a text: cut at CR LF, what is whole: the plain law.
  The lines of a text: the program's function (strings.Split) and the reference's loop.
  The text of flags: the program's FlagsText (strings.Join) and the reference's.
  The text of a reply: the reference's function.
  The text of a reply: the program's function.
  A builder of strings: WriteString as this dump spells it (the shelf's proof, turned to it), and String.
  The text of replies, line by line: the program's LinesText (a builder) and the reference's.
-/
import Derived.Lib.ItoaNum
import Derived.Lib.AtoiAll
import Derived.Lib.HexFns2
import Derived.Test.YtadjlfcdjkikgaaDoorXOwn
import Derived.Lib.ConvBytes
import Derived.Lib.AppendStr
import Derived.Laws.IdiomStrings
import Derived.IntWalk
import Derived.WalkSmall
import Derived.Test.YtadjlfcdjkikgaaDoorReplyP
import Derived.Lib.Join
import Derived.Lib.SpaceU
import Derived.Lib.IndexMore
import Derived.Lib.Strings
import Derived.Shelf.Strings.Builder1
import Derived.Shelf.Strings.Builder2
import Derived.Shelf.Strings.OnBuilder
import Derived.Shelf.Strings.BuilderF
import Derived.Shelf.Strings.BuilderK
import Derived.Ground.PaProg
import Derived.Shelf.Hex.Tagged
import Derived.Shelf.Strings.Builder2Cap
import Derived.Shelf.Strconv.Itoa0
import Derived.Shelf.Strconv.Itoa1
import Derived.Shelf.LaysM
import Derived.Shelf.Strconv.Itoa2
import Derived.Shelf.Strconv.Itoa3
import Derived.Shelf.Strings.Search1
import Derived.Shelf.Strings.Search2
import Derived.Shelf.Strings.Search3
import Derived.Shelf.Strings.Count
import Derived.Shelf.Strings.Shaped
import Derived.Shelf.Strings.Split
import Derived.Shelf.Strings.SplitShaped
import Derived.Shelf.Unicode.Decode
import Derived.Shelf.Strings.RuneCount
import Derived.Shelf.Strings.Explode
import Derived.Shelf.Unicode.DecodeSlow
import Derived.Shelf.Unicode.DecodeAny
import Derived.Shelf.Strings.BuilderCap
import Derived.Shelf.Hex.Lens
import Derived.Shelf.Hex.Encode
import Derived.Shelf.Hex.More
import Derived.Test.YtadjlfcdjkikgaaDoorProg
import Derived.Lib.LaidTab
import Derived.Test.YtadjlfcdjkikgaaDoorWNameOk
import Derived.Lib.Split
import Derived.Test.YtadjlfcdjkikgaaDoorStrs
import Derived.Test.YtadjlfcdjkikgaaDoorCSmall
import Derived.Test.YtadjlfcdjkikgaaDoorWspecReplyOk
import Derived.Test.YtadjlfcdjkikgaaDoorWimplReplyOk
import Derived.Test.YtadjlfcdjkikgaaDoorFamReply
namespace Go.Proofs.YtadjlfcdjkikgaaDoor
open Go Go.Lib
set_option linter.unusedVariables false
set_option linter.unusedSimpArgs false

theorem dec_small {n : Nat} (h : n < 10) : decDigits n = [UInt8.ofNat (48 + n)] := by rw [decDigits, dif_pos h]
theorem dec_big {n : Nat} (h : ¬ n < 10) : decDigits n = decDigits (n / 10) ++ [UInt8.ofNat (48 + n % 10)] := by rw [decDigits, dif_neg h]
/-- the loop of the reference's Digits: m is left, out is told -/
def DgSt (n m : Nat) (out : List UInt8) : Prop := if m = 0 then out = decDigits n else decDigits n = decDigits m ++ out
theorem dgSt_start {n : Nat} (h : n ≠ 0) : DgSt n n [] := by unfold DgSt; rw [if_neg h]; simp
theorem DgSt.next {n m : Nat} {out : List UInt8} (h : DgSt n m out) (hm : m ≠ 0) : DgSt n (m / 10) (UInt8.ofNat (48 + m % 10) :: out) := by
  unfold DgSt at h ⊢
  rw [if_neg hm] at h
  by_cases h1 : m < 10
  · rw [if_pos (by omega), h, dec_small h1, Nat.mod_eq_of_lt h1]; rfl
  · rw [if_neg (by omega), h, dec_big h1]; simp
theorem DgSt.stop {n : Nat} {out : List UInt8} (h : DgSt n 0 out) : out = decDigits n := by unfold DgSt at h; simpa using h
theorem DgSt.len {n m : Nat} {out : List UInt8} (h : DgSt n m out) : out.length ≤ (decDigits n).length := by
  unfold DgSt at h
  split at h
  · rw [h]; exact Nat.le_refl _
  · rw [h, List.length_append]; omega
theorem dec_byte {d : Nat} (h : d < 10) : (UInt8.ofNat (48 + d)).toNat = 48 + d := by rw [UInt8.toNat_ofNat']; omega
theorem dec_len_le : ∀ (k n : Nat), n < 10 ^ (k + 1) → (decDigits n).length ≤ k + 1
  | 0, n, h => by rw [dec_small (by simpa using h)]; simp
  | k + 1, n, h => by
    by_cases h1 : n < 10
    · rw [dec_small h1]; simp
    · rw [dec_big h1, List.length_append]
      have := dec_len_le k (n / 10) (by rw [Nat.pow_succ] at h; omega)
      simp; omega
theorem dec_len9 {n : Nat} (h : n ≤ 999999999) : (decDigits n).length ≤ 9 := dec_len_le 8 n (by omega)
/-- hexadecimal -/
theorem hx_digit (d : Nat) (h : d < 16) : (Hx.digit d).toNat = if d < 10 then 48 + d else 87 + d := by
  have : ∀ d : Fin 16, (Hx.digit d.val).toNat = if d.val < 10 then 48 + d.val else 87 + d.val := by decide +kernel
  exact this ⟨d, h⟩
/-- the loop of the reference's Hex: k bytes are told -/
theorem encode_take {l : List UInt8} {k : Nat} (hk : k < l.length) : Hx.encode (l.take (k + 1)) = Hx.encode (l.take k) ++ [Hx.digit (l[k].toNat / 16), Hx.digit (l[k].toNat % 16)] := by
  rw [List.take_add_one, List.getElem?_eq_getElem hk]
  unfold Hx.encode
  rw [List.flatMap_append]
  simp
end Go.Proofs.YtadjlfcdjkikgaaDoor

namespace Go.Proofs.YtadjlfcdjkikgaaDoor
open Go.RowKit
set_option linter.unusedVariables false
set_option linter.unusedSimpArgs false

/-- the cells of bytes -/
def bv (l : List UInt8) : List Value := l.map fun b => Value.int .u8 (b.toNat : Int)
theorem bv_app (a b : List UInt8) : bv (a ++ b) = bv a ++ bv b := by simp [bv]
theorem bv_len (l : List UInt8) : (bv l).length = l.length := by simp [bv]
theorem str_bv (s : ByteArray) : Lib.strCells s = bv s.data.toList := by simp [Lib.strCells, bv]
theorem conv_at {P : Program} (w : World) (src dst e : TypeId) (b o cap : Nat) (l : List UInt8) (hs : P.underlying src = some (.slice e)) (he : P.underlying e = some (.int .u8)) (hd : P.underlying dst = some .string)
    (h : At w b o (bv l)) : (convert src dst (.slice (some ⟨b, o, none⟩) l.length cap)).run P w = .ok (.string ⟨l.toArray⟩) w := by
  refine run_convert_bytes_back w src dst e _ cap l hs he hd (fun j hj => ?_)
  have e1 : (⟨b, o, none⟩ : Addr).add j = ⟨b, o + j, none⟩ := by unfold Addr.add; split <;> simp_all
  rw [e1]
  exact h j _ (by simp [bv, List.getElem?_eq_getElem hj])
theorem conv_own {P : Program} {w : World} {B E : Nat} {g : Option Addr} {n c : Nat} {l : List UInt8} (src dst e : TypeId) (hs : P.underlying src = some (.slice e)) (he : P.underlying e = some (.int .u8)) (hd : P.underlying dst = some .string)
    (h : Own w B E 1 (.slice g n c) n (bv l)) : (convert src dst (.slice g n c)).run P w = .ok (.string ⟨l.toArray⟩) w := by
  have hn : l.length = n := by have := h.1; rw [bv_len] at this; omega
  subst hn
  have hr := Rd.of_Own h
  by_cases h0 : l = []
  · subst h0
    cases g with
    | none => exact run_convert_bytes_nil w src e hs he _ _ dst hd
    | some a => exact run_convert_bytes_back w src dst e a c [] hs he hd (fun j hj => absurd hj (Nat.not_lt_zero _))
  · obtain ⟨b, o, rfl, _, hat⟩ := hr.ptr (List.length_pos_iff.2 h0)
    exact conv_at w src dst e b o c l hs he hd hat
end Go.Proofs.YtadjlfcdjkikgaaDoor

namespace Go.Proofs.YtadjlfcdjkikgaaDoor
open Go Go.Lib
set_option linter.unusedVariables false
set_option linter.unusedSimpArgs false

/-- a text of these bytes -/
def bs (l : List UInt8) : ByteArray := ⟨l.toArray⟩
theorem bs_data (l : List UInt8) : (bs l).data.toList = l := by simp [bs]
theorem bs_app (a b : List UInt8) : bs a ++ bs b = bs (a ++ b) := by
  apply ByteArray.ext; apply Array.ext'; simp [bs]
theorem bs_size (l : List UInt8) : (bs l).size = l.length := by simp [bs, ByteArray.size]

def wEXISTS : List UInt8 := [69, 88, 73, 83, 84, 83]
def wEXPUNGE : List UInt8 := [69, 88, 80, 85, 78, 71, 69]
def wFETCH : List UInt8 := [70, 69, 84, 67, 72]
def wBODY : List UInt8 := [66, 79, 68, 89]
def wSTATUS : List UInt8 := [83, 84, 65, 84, 85, 83]
def wLIST : List UInt8 := [76, 73, 83, 84]
def wGONE : List UInt8 := [71, 79, 78, 69]
def wSELECTED : List UInt8 := [83, 69, 76, 69, 67, 84, 69, 68]
def wCLOSED : List UInt8 := [67, 76, 79, 83, 69, 68]
def wOVERFLOW : List UInt8 := [79, 86, 69, 82, 70, 76, 79, 87]
def wBYE : List UInt8 := [66, 89, 69]
def wHELLO : List UInt8 := [72, 69, 76, 76, 79]
def wOK : List UInt8 := [79, 75]
def wNO : List UInt8 := [78, 79]
def wBAD : List UInt8 := [66, 65, 68]
def wIdle : List UInt8 := [105, 100, 108, 101]
/-- the flags' names -/
def flNames (f : Nat) : List (List UInt8) := (if f / 1 % 2 = 1 then [[115, 101, 101, 110]] else []) ++ (if f / 2 % 2 = 1 then [[97, 110, 115, 119, 101, 114, 101, 100]] else []) ++ (if f / 4 % 2 = 1 then [[102, 108, 97, 103, 103, 101, 100]] else []) ++ (if f / 8 % 2 = 1 then [[100, 101, 108, 101, 116, 101, 100]] else []) ++ (if f / 16 % 2 = 1 then [[100, 114, 97, 102, 116]] else [])
def flText (f : Nat) : List UInt8 := join (flNames f) [32]
def hexL (l : List UInt8) : List UInt8 := if l = [] then [45] else Hx.encode l
/-- the text of a reply of these fields -/
def txtL (k n u f : Int) (nm tx : ByteArray) : List UInt8 :=
  if k = 1 then 42 :: 32 :: (decDigits n.toNat ++ 32 :: wEXISTS) else
  if k = 2 then 42 :: 32 :: (decDigits n.toNat ++ 32 :: wEXPUNGE) else
  if k = 3 then 42 :: 32 :: (decDigits n.toNat ++ 32 :: (wFETCH ++ 32 :: (decDigits u.toNat ++ 32 :: 40 :: (flText f.toNat ++ [41])))) else
  if k = 4 then 42 :: 32 :: (decDigits n.toNat ++ 32 :: (wBODY ++ 32 :: hexL tx.data.toList)) else
  if k = 5 then 42 :: 32 :: (wSTATUS ++ 32 :: (nm.data.toList ++ 32 :: (decDigits n.toNat ++ 32 :: decDigits u.toNat))) else
  if k = 6 then 42 :: 32 :: (wLIST ++ 32 :: nm.data.toList) else
  if k = 7 then 42 :: 32 :: (wGONE ++ 32 :: nm.data.toList) else
  if k = 8 then 42 :: 32 :: (wSELECTED ++ 32 :: (nm.data.toList ++ 32 :: decDigits n.toNat)) else
  if k = 9 then 42 :: 32 :: wCLOSED else
  if k = 10 then 42 :: 32 :: wOVERFLOW else
  if k = 11 then 42 :: 32 :: wBYE else
  if k = 12 then nm.data.toList ++ 32 :: wOK else
  if k = 13 then nm.data.toList ++ 32 :: wNO else
  if k = 14 then nm.data.toList ++ 32 :: wBAD else
  if k = 15 then 43 :: 32 :: wIdle else
  42 :: 32 :: wHELLO
theorem txt_1 (n u f : Int) (nm tx : ByteArray) : txtL 1 n u f nm tx = 42 :: 32 :: (decDigits n.toNat ++ 32 :: wEXISTS) := by simp [txtL]
theorem txt_2 (n u f : Int) (nm tx : ByteArray) : txtL 2 n u f nm tx = 42 :: 32 :: (decDigits n.toNat ++ 32 :: wEXPUNGE) := by simp [txtL]
theorem txt_3 (n u f : Int) (nm tx : ByteArray) : txtL 3 n u f nm tx = 42 :: 32 :: (decDigits n.toNat ++ 32 :: (wFETCH ++ 32 :: (decDigits u.toNat ++ 32 :: 40 :: (flText f.toNat ++ [41])))) := by simp [txtL]
theorem txt_4 (n u f : Int) (nm tx : ByteArray) : txtL 4 n u f nm tx = 42 :: 32 :: (decDigits n.toNat ++ 32 :: (wBODY ++ 32 :: hexL tx.data.toList)) := by simp [txtL]
theorem txt_5 (n u f : Int) (nm tx : ByteArray) : txtL 5 n u f nm tx = 42 :: 32 :: (wSTATUS ++ 32 :: (nm.data.toList ++ 32 :: (decDigits n.toNat ++ 32 :: decDigits u.toNat))) := by simp [txtL]
theorem txt_6 (n u f : Int) (nm tx : ByteArray) : txtL 6 n u f nm tx = 42 :: 32 :: (wLIST ++ 32 :: nm.data.toList) := by simp [txtL]
theorem txt_7 (n u f : Int) (nm tx : ByteArray) : txtL 7 n u f nm tx = 42 :: 32 :: (wGONE ++ 32 :: nm.data.toList) := by simp [txtL]
theorem txt_8 (n u f : Int) (nm tx : ByteArray) : txtL 8 n u f nm tx = 42 :: 32 :: (wSELECTED ++ 32 :: (nm.data.toList ++ 32 :: decDigits n.toNat)) := by simp [txtL]
theorem txt_9 (n u f : Int) (nm tx : ByteArray) : txtL 9 n u f nm tx = 42 :: 32 :: wCLOSED := by simp [txtL]
theorem txt_10 (n u f : Int) (nm tx : ByteArray) : txtL 10 n u f nm tx = 42 :: 32 :: wOVERFLOW := by simp [txtL]
theorem txt_11 (n u f : Int) (nm tx : ByteArray) : txtL 11 n u f nm tx = 42 :: 32 :: wBYE := by simp [txtL]
theorem txt_12 (n u f : Int) (nm tx : ByteArray) : txtL 12 n u f nm tx = nm.data.toList ++ 32 :: wOK := by simp [txtL]
theorem txt_13 (n u f : Int) (nm tx : ByteArray) : txtL 13 n u f nm tx = nm.data.toList ++ 32 :: wNO := by simp [txtL]
theorem txt_14 (n u f : Int) (nm tx : ByteArray) : txtL 14 n u f nm tx = nm.data.toList ++ 32 :: wBAD := by simp [txtL]
theorem txt_15 (n u f : Int) (nm tx : ByteArray) : txtL 15 n u f nm tx = 43 :: 32 :: wIdle := by simp [txtL]
theorem txt_16 (n u f : Int) (nm tx : ByteArray) : txtL 16 n u f nm tx = 42 :: 32 :: wHELLO := by simp [txtL]
def txt (a : DReply) : ByteArray := bs (txtL a.kind a.n a.uid a.flags a.name a.text)
/-- what ReplyText returns -/
def txtOf (r : Bool) (a : DReply) : ByteArray := if r = true then txt a else ⟨#[]⟩
theorem tag_len {nm : ByteArray} (h : TagP nm ∨ nm = ⟨#[42]⟩) : nm.data.toList.length ≤ 8 := by
  rcases h with h | rfl
  · have := h.2.2; simpa using this
  · decide
theorem name_len {nm : ByteArray} (h : NameP nm) : nm.data.toList.length ≤ 12 := by have := h.2.2; simpa using this
theorem flText_len (f : Nat) (h : f ≤ 31) : (flText f).length ≤ 40 := by
  have : ∀ f : Fin 32, (flText f.val).length ≤ 40 := by decide +kernel
  exact this ⟨f, by omega⟩
theorem hexL_len (l : List UInt8) (h : l.length ≤ 40) : (hexL l).length ≤ 80 := by
  unfold hexL
  split
  · simp
  · rw [Hx.encode_length]; omega
end Go.Proofs.YtadjlfcdjkikgaaDoor

namespace Go.Proofs.YtadjlfcdjkikgaaDoor
open Go Go.Lib
set_option linter.unusedVariables false
set_option linter.unusedSimpArgs false

def txA (a : DReply) : List UInt8 := txtL a.kind a.n a.uid a.flags a.name a.text
theorem len_app (a b : List UInt8) : (a ++ b).length = a.length + b.length := List.length_append
theorem txt_len {a : DReply} (ha : ReplyP a) : (txA a).length ≤ 200 := by
  obtain ⟨k, n, u, f, nm, tx⟩ := a
  unfold ReplyP ReplyK at ha
  simp only at ha
  have key : ∀ x : Int, 0 ≤ x ∧ x ≤ 999999999 → (decDigits x.toNat).length ≤ 9 := fun x hx => dec_len9 (by omega)
  have kn : ∀ b : ByteArray, b.data.toList.length = b.size := fun b => by simp
  unfold txA
  simp only
  rcases ha with ⟨rfl, h1, rfl, rfl, rfl, rfl⟩ | ⟨rfl, h1, rfl, rfl, rfl, rfl⟩ | ⟨rfl, h1, h2, h3, rfl, rfl⟩ | ⟨rfl, h1, h2, rfl, rfl, rfl⟩ | ⟨rfl, h1, h2, h3, rfl, rfl⟩ | ⟨rfl, h1, rfl, rfl, rfl, rfl⟩ | ⟨rfl, h1, rfl, rfl, rfl, rfl⟩ | ⟨rfl, h1, h2, rfl, rfl, rfl⟩ | ⟨rfl, rfl, rfl, rfl, rfl, rfl⟩ | ⟨rfl, rfl, rfl, rfl, rfl, rfl⟩ | ⟨rfl, rfl, rfl, rfl, rfl, rfl⟩ | ⟨rfl, h1, rfl, rfl, rfl, rfl⟩ | ⟨rfl, h1, rfl, rfl, rfl, rfl⟩ | ⟨rfl, h1, rfl, rfl, rfl, rfl⟩ | ⟨rfl, rfl, rfl, rfl, rfl, rfl⟩ | ⟨rfl, rfl, rfl, rfl, rfl, rfl⟩
  · rw [txt_1]; (have := key n (by omega)); simp only [List.length_cons, len_app, List.length_nil, wEXISTS, wEXPUNGE, wFETCH, wBODY, wSTATUS, wLIST, wGONE, wSELECTED, wCLOSED, wOVERFLOW, wBYE, wHELLO, wOK, wNO, wBAD, wIdle]; omega
  · rw [txt_2]; (have := key n (by omega)); simp only [List.length_cons, len_app, List.length_nil, wEXISTS, wEXPUNGE, wFETCH, wBODY, wSTATUS, wLIST, wGONE, wSELECTED, wCLOSED, wOVERFLOW, wBYE, wHELLO, wOK, wNO, wBAD, wIdle]; omega
  · rw [txt_3]; (have := key n (by omega)); (have := key u (by omega)); (have := flText_len f.toNat (by omega)); simp only [List.length_cons, len_app, List.length_nil, wEXISTS, wEXPUNGE, wFETCH, wBODY, wSTATUS, wLIST, wGONE, wSELECTED, wCLOSED, wOVERFLOW, wBYE, wHELLO, wOK, wNO, wBAD, wIdle]; omega
  · rw [txt_4]; (have := key n (by omega)); (have := hexL_len tx.data.toList (by rw [kn]; exact h2)); simp only [List.length_cons, len_app, List.length_nil, wEXISTS, wEXPUNGE, wFETCH, wBODY, wSTATUS, wLIST, wGONE, wSELECTED, wCLOSED, wOVERFLOW, wBYE, wHELLO, wOK, wNO, wBAD, wIdle]; omega
  · rw [txt_5]; (have := key n (by omega)); (have := key u (by omega)); (have := name_len h3); simp only [List.length_cons, len_app, List.length_nil, wEXISTS, wEXPUNGE, wFETCH, wBODY, wSTATUS, wLIST, wGONE, wSELECTED, wCLOSED, wOVERFLOW, wBYE, wHELLO, wOK, wNO, wBAD, wIdle]; omega
  · rw [txt_6]; (have := name_len h1); simp only [List.length_cons, len_app, List.length_nil, wEXISTS, wEXPUNGE, wFETCH, wBODY, wSTATUS, wLIST, wGONE, wSELECTED, wCLOSED, wOVERFLOW, wBYE, wHELLO, wOK, wNO, wBAD, wIdle]; omega
  · rw [txt_7]; (have := name_len h1); simp only [List.length_cons, len_app, List.length_nil, wEXISTS, wEXPUNGE, wFETCH, wBODY, wSTATUS, wLIST, wGONE, wSELECTED, wCLOSED, wOVERFLOW, wBYE, wHELLO, wOK, wNO, wBAD, wIdle]; omega
  · rw [txt_8]; (have := key n (by omega)); (have := name_len h2); simp only [List.length_cons, len_app, List.length_nil, wEXISTS, wEXPUNGE, wFETCH, wBODY, wSTATUS, wLIST, wGONE, wSELECTED, wCLOSED, wOVERFLOW, wBYE, wHELLO, wOK, wNO, wBAD, wIdle]; omega
  · rw [txt_9]; decide
  · rw [txt_10]; decide
  · rw [txt_11]; decide
  · rw [txt_12]; (have := tag_len h1); simp only [List.length_cons, len_app, List.length_nil, wEXISTS, wEXPUNGE, wFETCH, wBODY, wSTATUS, wLIST, wGONE, wSELECTED, wCLOSED, wOVERFLOW, wBYE, wHELLO, wOK, wNO, wBAD, wIdle]; omega
  · rw [txt_13]; (have := tag_len h1); simp only [List.length_cons, len_app, List.length_nil, wEXISTS, wEXPUNGE, wFETCH, wBODY, wSTATUS, wLIST, wGONE, wSELECTED, wCLOSED, wOVERFLOW, wBYE, wHELLO, wOK, wNO, wBAD, wIdle]; omega
  · rw [txt_14]; (have := tag_len h1); simp only [List.length_cons, len_app, List.length_nil, wEXISTS, wEXPUNGE, wFETCH, wBODY, wSTATUS, wLIST, wGONE, wSELECTED, wCLOSED, wOVERFLOW, wBYE, wHELLO, wOK, wNO, wBAD, wIdle]; omega
  · rw [txt_15]; decide
  · rw [txt_16]; decide
def ReadU (s : List UInt8) (r : DReply) (ok : Bool) : Prop := ((ok = true ∧ ReplyP r ∧ txA r = s) ∨ (ok = false ∧ r = ⟨0, 0, 0, 0, ⟨#[]⟩, ⟨#[]⟩⟩)) ∧ ∀ a, ReplyP a → txA a = s → a = r ∧ ok = true
theorem ReadU.zero {s : List UInt8} {r : DReply} {ok : Bool} (h : ReadU s r ok) (ho : ok = false) (a : DReply) (ha : ReplyP a) : txA a ≠ s := fun e => by
  have := (h.2 a ha e).2
  rw [ho] at this; cases this
end Go.Proofs.YtadjlfcdjkikgaaDoor

namespace Go.Proofs.YtadjlfcdjkikgaaDoor
open Go.RowKit
set_option linter.unusedVariables false
set_option linter.unusedSimpArgs false

/-- the numeral as a string -/
def dgB (n : Int) : ByteArray := bs (Lib.decDigits n.toNat)
theorem dgB_size (n : Int) (h : 0 ≤ n ∧ n ≤ 999999999) : (dgB n).size ≤ 9 := by unfold dgB; rw [bs_size]; exact dec_len9 (by omega)
theorem flB_size (f : Int) (h : 0 ≤ f ∧ f ≤ 31) : (bs (flText f.toNat)).size ≤ 40 := by rw [bs_size]; exact flText_len _ (by omega)
theorem hexB_size (t : ByteArray) (h : t.size ≤ 40) : (bs (hexL t.data.toList)).size ≤ 80 := by rw [bs_size]; exact hexL_len _ (by simpa using h)

theorem cat_1 (n : Int) : txt (⟨1, n, 0, 0, ⟨#[]⟩, ⟨#[]⟩⟩ : DReply) = (⟨#[42, 32]⟩ : ByteArray) ++ dgB n ++ (⟨#[32, 69, 88, 73, 83, 84, 83]⟩ : ByteArray) := by
  unfold txt
  simp only
  rw [txt_1]
  apply ByteArray.ext; apply Array.ext'
  simp [bs, dgB, wEXISTS, wEXPUNGE, wFETCH, wBODY, wSTATUS, wLIST, wGONE, wSELECTED, wCLOSED, wOVERFLOW, wBYE, wHELLO, wOK, wNO, wBAD, wIdle]
theorem cat_2 (n : Int) : txt (⟨2, n, 0, 0, ⟨#[]⟩, ⟨#[]⟩⟩ : DReply) = (⟨#[42, 32]⟩ : ByteArray) ++ dgB n ++ (⟨#[32, 69, 88, 80, 85, 78, 71, 69]⟩ : ByteArray) := by
  unfold txt
  simp only
  rw [txt_2]
  apply ByteArray.ext; apply Array.ext'
  simp [bs, dgB, wEXISTS, wEXPUNGE, wFETCH, wBODY, wSTATUS, wLIST, wGONE, wSELECTED, wCLOSED, wOVERFLOW, wBYE, wHELLO, wOK, wNO, wBAD, wIdle]
theorem cat_3 (n u f : Int) : txt (⟨3, n, u, f, ⟨#[]⟩, ⟨#[]⟩⟩ : DReply) = (⟨#[42, 32]⟩ : ByteArray) ++ dgB n ++ (⟨#[32, 70, 69, 84, 67, 72, 32]⟩ : ByteArray) ++ dgB u ++ (⟨#[32, 40]⟩ : ByteArray) ++ bs (flText f.toNat) ++ (⟨#[41]⟩ : ByteArray) := by
  unfold txt
  simp only
  rw [txt_3]
  apply ByteArray.ext; apply Array.ext'
  simp [bs, dgB, wEXISTS, wEXPUNGE, wFETCH, wBODY, wSTATUS, wLIST, wGONE, wSELECTED, wCLOSED, wOVERFLOW, wBYE, wHELLO, wOK, wNO, wBAD, wIdle]
theorem cat_4 (n : Int) (tx : ByteArray) : txt (⟨4, n, 0, 0, ⟨#[]⟩, tx⟩ : DReply) = (⟨#[42, 32]⟩ : ByteArray) ++ dgB n ++ (⟨#[32, 66, 79, 68, 89, 32]⟩ : ByteArray) ++ bs (hexL tx.data.toList) := by
  unfold txt
  simp only
  rw [txt_4]
  apply ByteArray.ext; apply Array.ext'
  simp [bs, dgB, wEXISTS, wEXPUNGE, wFETCH, wBODY, wSTATUS, wLIST, wGONE, wSELECTED, wCLOSED, wOVERFLOW, wBYE, wHELLO, wOK, wNO, wBAD, wIdle]
theorem cat_5 (n u : Int) (nm : ByteArray) : txt (⟨5, n, u, 0, nm, ⟨#[]⟩⟩ : DReply) = (⟨#[42, 32, 83, 84, 65, 84, 85, 83, 32]⟩ : ByteArray) ++ nm ++ (⟨#[32]⟩ : ByteArray) ++ dgB n ++ (⟨#[32]⟩ : ByteArray) ++ dgB u := by
  unfold txt
  simp only
  rw [txt_5]
  apply ByteArray.ext; apply Array.ext'
  simp [bs, dgB, wEXISTS, wEXPUNGE, wFETCH, wBODY, wSTATUS, wLIST, wGONE, wSELECTED, wCLOSED, wOVERFLOW, wBYE, wHELLO, wOK, wNO, wBAD, wIdle]
theorem cat_6 (nm : ByteArray) : txt (⟨6, 0, 0, 0, nm, ⟨#[]⟩⟩ : DReply) = (⟨#[42, 32, 76, 73, 83, 84, 32]⟩ : ByteArray) ++ nm := by
  unfold txt
  simp only
  rw [txt_6]
  apply ByteArray.ext; apply Array.ext'
  simp [bs, dgB, wEXISTS, wEXPUNGE, wFETCH, wBODY, wSTATUS, wLIST, wGONE, wSELECTED, wCLOSED, wOVERFLOW, wBYE, wHELLO, wOK, wNO, wBAD, wIdle]
theorem cat_7 (nm : ByteArray) : txt (⟨7, 0, 0, 0, nm, ⟨#[]⟩⟩ : DReply) = (⟨#[42, 32, 71, 79, 78, 69, 32]⟩ : ByteArray) ++ nm := by
  unfold txt
  simp only
  rw [txt_7]
  apply ByteArray.ext; apply Array.ext'
  simp [bs, dgB, wEXISTS, wEXPUNGE, wFETCH, wBODY, wSTATUS, wLIST, wGONE, wSELECTED, wCLOSED, wOVERFLOW, wBYE, wHELLO, wOK, wNO, wBAD, wIdle]
theorem cat_8 (n : Int) (nm : ByteArray) : txt (⟨8, n, 0, 0, nm, ⟨#[]⟩⟩ : DReply) = (⟨#[42, 32, 83, 69, 76, 69, 67, 84, 69, 68, 32]⟩ : ByteArray) ++ nm ++ (⟨#[32]⟩ : ByteArray) ++ dgB n := by
  unfold txt
  simp only
  rw [txt_8]
  apply ByteArray.ext; apply Array.ext'
  simp [bs, dgB, wEXISTS, wEXPUNGE, wFETCH, wBODY, wSTATUS, wLIST, wGONE, wSELECTED, wCLOSED, wOVERFLOW, wBYE, wHELLO, wOK, wNO, wBAD, wIdle]
theorem cat_9 : txt (⟨9, 0, 0, 0, ⟨#[]⟩, ⟨#[]⟩⟩ : DReply) = (⟨#[42, 32, 67, 76, 79, 83, 69, 68]⟩ : ByteArray) := by
  unfold txt
  simp only
  rw [txt_9]
  apply ByteArray.ext; apply Array.ext'
  simp [bs, dgB, wEXISTS, wEXPUNGE, wFETCH, wBODY, wSTATUS, wLIST, wGONE, wSELECTED, wCLOSED, wOVERFLOW, wBYE, wHELLO, wOK, wNO, wBAD, wIdle]
theorem cat_10 : txt (⟨10, 0, 0, 0, ⟨#[]⟩, ⟨#[]⟩⟩ : DReply) = (⟨#[42, 32, 79, 86, 69, 82, 70, 76, 79, 87]⟩ : ByteArray) := by
  unfold txt
  simp only
  rw [txt_10]
  apply ByteArray.ext; apply Array.ext'
  simp [bs, dgB, wEXISTS, wEXPUNGE, wFETCH, wBODY, wSTATUS, wLIST, wGONE, wSELECTED, wCLOSED, wOVERFLOW, wBYE, wHELLO, wOK, wNO, wBAD, wIdle]
theorem cat_11 : txt (⟨11, 0, 0, 0, ⟨#[]⟩, ⟨#[]⟩⟩ : DReply) = (⟨#[42, 32, 66, 89, 69]⟩ : ByteArray) := by
  unfold txt
  simp only
  rw [txt_11]
  apply ByteArray.ext; apply Array.ext'
  simp [bs, dgB, wEXISTS, wEXPUNGE, wFETCH, wBODY, wSTATUS, wLIST, wGONE, wSELECTED, wCLOSED, wOVERFLOW, wBYE, wHELLO, wOK, wNO, wBAD, wIdle]
theorem cat_12 (nm : ByteArray) : txt (⟨12, 0, 0, 0, nm, ⟨#[]⟩⟩ : DReply) = nm ++ (⟨#[32, 79, 75]⟩ : ByteArray) := by
  unfold txt
  simp only
  rw [txt_12]
  apply ByteArray.ext; apply Array.ext'
  simp [bs, dgB, wEXISTS, wEXPUNGE, wFETCH, wBODY, wSTATUS, wLIST, wGONE, wSELECTED, wCLOSED, wOVERFLOW, wBYE, wHELLO, wOK, wNO, wBAD, wIdle]
theorem cat_13 (nm : ByteArray) : txt (⟨13, 0, 0, 0, nm, ⟨#[]⟩⟩ : DReply) = nm ++ (⟨#[32, 78, 79]⟩ : ByteArray) := by
  unfold txt
  simp only
  rw [txt_13]
  apply ByteArray.ext; apply Array.ext'
  simp [bs, dgB, wEXISTS, wEXPUNGE, wFETCH, wBODY, wSTATUS, wLIST, wGONE, wSELECTED, wCLOSED, wOVERFLOW, wBYE, wHELLO, wOK, wNO, wBAD, wIdle]
theorem cat_14 (nm : ByteArray) : txt (⟨14, 0, 0, 0, nm, ⟨#[]⟩⟩ : DReply) = nm ++ (⟨#[32, 66, 65, 68]⟩ : ByteArray) := by
  unfold txt
  simp only
  rw [txt_14]
  apply ByteArray.ext; apply Array.ext'
  simp [bs, dgB, wEXISTS, wEXPUNGE, wFETCH, wBODY, wSTATUS, wLIST, wGONE, wSELECTED, wCLOSED, wOVERFLOW, wBYE, wHELLO, wOK, wNO, wBAD, wIdle]
theorem cat_15 : txt (⟨15, 0, 0, 0, ⟨#[]⟩, ⟨#[]⟩⟩ : DReply) = (⟨#[43, 32, 105, 100, 108, 101]⟩ : ByteArray) := by
  unfold txt
  simp only
  rw [txt_15]
  apply ByteArray.ext; apply Array.ext'
  simp [bs, dgB, wEXISTS, wEXPUNGE, wFETCH, wBODY, wSTATUS, wLIST, wGONE, wSELECTED, wCLOSED, wOVERFLOW, wBYE, wHELLO, wOK, wNO, wBAD, wIdle]
theorem cat_16 : txt (⟨16, 0, 0, 0, ⟨#[]⟩, ⟨#[]⟩⟩ : DReply) = (⟨#[42, 32, 72, 69, 76, 76, 79]⟩ : ByteArray) := by
  unfold txt
  simp only
  rw [txt_16]
  apply ByteArray.ext; apply Array.ext'
  simp [bs, dgB, wEXISTS, wEXPUNGE, wFETCH, wBODY, wSTATUS, wLIST, wGONE, wSELECTED, wCLOSED, wOVERFLOW, wBYE, wHELLO, wOK, wNO, wBAD, wIdle]
theorem cat_4e (n : Int) (tx : ByteArray) (h : tx = ⟨#[]⟩) : txt (⟨4, n, 0, 0, ⟨#[]⟩, tx⟩ : DReply) = (⟨#[42, 32]⟩ : ByteArray) ++ dgB n ++ (⟨#[32, 66, 79, 68, 89, 32, 45]⟩ : ByteArray) := by
  subst h
  unfold txt
  simp only
  rw [txt_4]
  apply ByteArray.ext; apply Array.ext'
  simp [bs, dgB, wBODY, hexL]
end Go.Proofs.YtadjlfcdjkikgaaDoor

namespace Go.Proofs
open Go.Shelf
def Tryd.lays146_ren : Go.Shelf.Ren := ⟨fun | 146 => 24 | 221 => 42 | 268 => 67 | 138 => 68 | 143 => 69 | 195 => 85 | 197 => 86 | 218 => 87 | 219 => 88 | 260 => 106 | 217 => 107 | 225 => 108 | 224 => 109 | 267 => 110 | 266 => 119 | 314 => 120 | n => n, fun | 9 => 9 | 31 => 22 | 3 => 3 | 4 => 4 | 0 => 0 | 105 => 103 | 21 => 21 | 5 => 5 | 46 => 66 | 119 => 134 | 139 => 137 | 138 => 136 | 146 => 139 | 51 => 138 | n => n, fun | 1 => 0 | 3 => 1 | 4 => 2 | n => n⟩
theorem Tryd.lays146 : Go.Proofs.Lays.n146 Tryd.prog Tryd.lays146_ren := {
  mixed := by kernel_rfl
  f138 := Tryd.func68.trans (congrArg some (by kernel_rfl))
  f143 := Tryd.func69.trans (congrArg some (by kernel_rfl))
  f146 := Tryd.func24.trans (congrArg some (by kernel_rfl))
  f195 := Tryd.func85.trans (congrArg some (by kernel_rfl))
  f197 := Tryd.func86.trans (congrArg some (by kernel_rfl))
  f217 := Tryd.func107.trans (congrArg some (by kernel_rfl))
  f218 := Tryd.func87.trans (congrArg some (by kernel_rfl))
  f219 := Tryd.func88.trans (congrArg some (by kernel_rfl))
  f221 := Tryd.func42.trans (congrArg some (by kernel_rfl))
  f224 := Tryd.func109.trans (congrArg some (by kernel_rfl))
  f225 := Tryd.func108.trans (congrArg some (by kernel_rfl))
  f260 := Tryd.func106.trans (congrArg some (by kernel_rfl))
  f266 := Tryd.func119.trans (congrArg some (by kernel_rfl))
  f267 := Tryd.func110.trans (congrArg some (by kernel_rfl))
  f268 := Tryd.func67.trans (congrArg some (by kernel_rfl))
  f314 := Tryd.func120.trans (congrArg some (by kernel_rfl))
  t0 := Tryd.underlying0
  a0 := Tryd.isAgg0
  z0 := Tryd.sizeOf0
  v0 := Tryd.zeroValue0
  t3 := Tryd.underlying3
  a3 := Tryd.isAgg3
  z3 := Tryd.sizeOf3
  v3 := Tryd.zeroValue3
  t4 := Tryd.underlying4
  a4 := Tryd.isAgg4
  z4 := Tryd.sizeOf4
  v4 := Tryd.zeroValue4
  t5 := Tryd.underlying5
  a5 := Tryd.isAgg5
  z5 := Tryd.sizeOf5
  v5 := Tryd.zeroValue5
  t9 := Tryd.underlying9
  a9 := Tryd.isAgg9
  z9 := Tryd.sizeOf9
  v9 := Tryd.zeroValue9
  t21 := Tryd.underlying21
  a21 := Tryd.isAgg21
  z21 := Tryd.sizeOf21
  v21 := Tryd.zeroValue21
  t31 := Tryd.underlying22
  a31 := Tryd.isAgg22
  z31 := Tryd.sizeOf22
  v31 := Tryd.zeroValue22
  t46 := Tryd.underlying66
  a46 := Tryd.isAgg66
  z46 := Tryd.sizeOf66
  v46 := Tryd.zeroValue66
  t51 := Tryd.underlying138
  a51 := Tryd.isAgg138
  z51 := Tryd.sizeOf138
  v51 := Tryd.zeroValue138
  t105 := Tryd.underlying103
  a105 := Tryd.isAgg103
  z105 := Tryd.sizeOf103
  v105 := Tryd.zeroValue103
  t119 := Tryd.underlying134
  a119 := Tryd.isAgg134
  z119 := Tryd.sizeOf134
  t138 := Tryd.underlying136
  a138 := Tryd.isAgg136
  z138 := Tryd.sizeOf136
  v138 := Tryd.zeroValue136
  t139 := Tryd.underlying137
  a139 := Tryd.isAgg137
  z139 := Tryd.sizeOf137
  v139 := Tryd.zeroValue137
  t146 := Tryd.underlying139
  a146 := Tryd.isAgg139
  z146 := Tryd.sizeOf139
  v146 := Tryd.zeroValue139
  g1 := by kernel_rfl
  g3 := by kernel_rfl
  g4 := by kernel_rfl }
open Go.RowKit Go.Lib in
/-- strings.Split. (LAID: no walk: one application.) -/
theorem Tryd.strings_Split (s sep : ByteArray) (m : Int) (w : World) (hs : s.size < 4294967281) (hm : w.cell? ⟨0, 0, none⟩ = some (.int .i64 m)) (h1 : 1 ≤ sep.size) :
    Calls Tryd.prog 24 #[.string s, .string sep] w fun e w' =>
      e = .returned (.slice (some ⟨w.heap.size, 0, none⟩) (Lib.countB s sep + 1) (Lib.countB s sep + 1)) ∧ w' = w.alloc (.cells ((Lib.splitB sep 0 (Lib.countB s sep) s).map Value.string).toArray 9) := Any.strings_Split Tryd.lays146 (by kernel_rfl) s sep m w hs hm h1
end Go.Proofs

namespace Go.Proofs.YtadjlfcdjkikgaaDoor
open Go.RowKit
set_option linter.unusedVariables false
set_option linter.unusedSimpArgs false

/-- the table of the powers of ten -/
def Pw (w : World) : Prop := Lib.TabIs Tryd.prog w "internal/strconv.uint64pow10" .u64 Lib.pow10Tab
theorem Pw.ext {w w' : World} (h : Pw w) (hb : Ext w w') : Pw w' := by
  have hg : Tryd.prog.globalNamed "internal/strconv.uint64pow10" = some 3 := by kernel_rfl
  have hc := Lib.TabIs.cell h hg 0 (by decide)
  exact var?_below hb hg (cell_lt hc) h
theorem bs_dig (d : Nat) (out : List UInt8) : bs (UInt8.ofNat (48 + d) :: out) = ⟨#[48 + UInt8.ofNat d]⟩ ++ bs out := by
  rw [show UInt8.ofNat (48 + d) :: out = [UInt8.ofNat (48 + d)] ++ out from rfl, ← bs_app]
  congr 1
  simp [bs]
def DigRel (n : Nat) (W : World) (v0 v4 : Value) (wr : World) : Prop :=
  ∃ (m : Nat) (out : List UInt8), m ≤ n ∧ v0 = .int .i64 m ∧ v4 = .string (bs out) ∧ Hid (DgSt n m out) ∧ Ext W wr
set_option maxRecDepth 100000 in
set_option maxHeartbeats 2000000 in
theorem specDigits_any (n : Int) (w : World) (h0 : 0 ≤ n) (h1 : n ≤ 999999999) :
    Calls Tryd.prog 27 #[.int .i64 n] w fun e w' => e = .returned (.string (dgB n)) ∧ Ext w w' := by
  obtain ⟨k, rfl⟩ : ∃ k : Nat, n = k := ⟨n.toNat, by omega⟩
  have hk : k ≤ 999999999 := by omega
  clear h0 h1
  by_cases hz : k = 0
  · subst hz
    go_enter Tryd.func27, Tryd.ntmps27
    go_wp2_with fail
    go_ret
    exact ⟨by simp [dgB, bs, dec_small], bxt⟩
  have hz1 : ((k : Int) == 0) = false := by rw [beq_eq_false_iff_ne]; omega
  have hz2 : decide ((k : Int) < 0) = false := decide_eq_false (by omega)
  go_enter Tryd.func27, Tryd.ntmps27
  go_wp2_with fail
  go_loopw [0, 4, 5] (fun a b _ wr => DigRel k w a b wr) (fun a _ _ _ => (intOf a).toNat)
  case atStart => exact ⟨k, [], Nat.le_refl _, rfl, rfl, Lib.hid (dgSt_start hz), bxt⟩
  case round =>
    obtain ⟨m, out, hm, rfl, rfl, HS, hb⟩ := hrel
    by_cases hm0 : m = 0
    · subst hm0
      have HE := Lib.hid HS.out.stop
      go_wp2_with fail
      go_ret
      refine ⟨?_, hb⟩
      rw [HE.out]; rfl
    · have e0 : ((m : Int) != 0) = true := by rw [bne_iff_ne]; omega
      have HN := Lib.hid (HS.out.next hm0)
      have hv : ((UInt8.ofNat (48 + m % 10)).toNat : Int) = 48 + (m : Int) % 10 := by rw [dec_byte (by omega)]; omega
      have d0 : decide ((m : Int) % 10 < 0) = false := decide_eq_false (by omega)
      have hk : (convert 41 9 (.slice (some ⟨wr.heap.size, 0, none⟩) 1 1)).run Tryd.prog (wr.alloc (.cells #[.int .u8 (48 + (m : Int) % 10)] 5)) = .ok (.string ⟨#[UInt8.ofNat (48 + m % 10)]⟩) (wr.alloc (.cells #[.int .u8 (48 + (m : Int) % 10)] 5)) :=
        conv_at _ _ _ 5 wr.heap.size 0 1 [UInt8.ofNat (48 + m % 10)] Tryd.underlying41 Tryd.underlying5 Tryd.underlying9 (at_alloc rfl (by simp only [bv, List.map_cons, List.map_nil, hv]))
      have HV := Lib.hid hv
      have hbs := hb.size
      have hcat : ¬ 9223372036854775807 < 1 + (bs out).size := by (have h1 := HS.out.len; have h2 := dec_len9 (n := k) (by omega); rw [bs_size]; omega)
      clear hv
      go_wp2_with fail
      go_roundw
      case rel => exact ⟨m / 10, UInt8.ofNat (48 + m % 10) :: out, by omega, by go_num, by rw [bs_dig], HN, bxt⟩
      case measure => simp [intOf]; omega
end Go.Proofs.YtadjlfcdjkikgaaDoor

namespace Go.Proofs.YtadjlfcdjkikgaaDoor
open Go.RowKit
set_option linter.unusedVariables false
set_option linter.unusedSimpArgs false

theorem l1Hex_any (x : Int) (w : World) (h0 : 0 ≤ x) (h1 : x < 16) :
    Calls Tryd.prog 52 #[.int .u8 x] w fun e w' => e = .returned (.int .u8 ((Lib.Hx.digit x.toNat).toNat : Int)) ∧ w' = w := by
  have hd := hx_digit x.toNat (by omega)
  by_cases h : x < 10
  · have d : decide (x < 10) = true := decide_eq_true h
    have e1 : IntKind.u8.wrap (x + 48) = x + 48 := IntWalk.u8_in _ (by omega)
    rw [if_pos (by omega)] at hd
    have HD := Lib.hid hd
    clear hd
    go_enter Tryd.func52, Tryd.ntmps52
    go_wp2_with fail
    go_ret
    refine ⟨?_, rfl⟩
    rw [HD.out]
    refine congrArg (fun z => Ending.returned (Value.int .u8 z)) ?_
    first | (rw [e1]; omega) | (rw [e2]; omega) | omega
  · have d : decide (x < 10) = false := decide_eq_false h
    have e1 : IntKind.u8.wrap (x - 10) = x - 10 := IntWalk.u8_in _ (by omega)
    have e2 : IntKind.u8.wrap (x - 10 + 97) = x - 10 + 97 := IntWalk.u8_in _ (by omega)
    rw [if_neg (by omega)] at hd
    have HD := Lib.hid hd
    clear hd
    go_enter Tryd.func52, Tryd.ntmps52
    go_wp2_with fail
    go_ret
    refine ⟨?_, rfl⟩
    rw [HD.out]
    refine congrArg (fun z => Ending.returned (Value.int .u8 z)) ?_
    first | (rw [e1]; omega) | (rw [e2]; omega) | omega
theorem info_u8h : (Tryd.prog.info? 5).map (fun i => (i.zero, i.size, i.bytes)) = some (some (.int .u8 0), 1, 1) := by kernel_rfl
def HexRel (l : List UInt8) (W : World) (B : Nat) (v3 v4 : Value) (wr : World) : Prop :=
  ∃ (k : Nat) (g : Option Addr) (q : Nat), k ≤ l.length ∧ v4 = .int .i64 k ∧ v3 = .slice g (2 * k) q ∧ Hid (Own wr B 5 1 (.slice g (2 * k) q) (2 * k) (bv (Lib.Hx.encode (l.take k)))) ∧ Below B W wr
set_option maxRecDepth 100000 in
set_option maxHeartbeats 4000000 in
theorem specHex_any (s : ByteArray) (w : World) (hs : s.size ≤ 1048576) :
    Calls Tryd.prog 29 #[.string s] w fun e w' => e = .returned (.string (bs (Lib.Hx.encode s.data.toList))) ∧ Ext w w' := by
  obtain ⟨i0, hi, hz0, hz1, hz2⟩ := info_parts info_u8h
  have hsz : s.data.toList.length = s.size := by simp
  go_enter Tryd.func29, Tryd.ntmps29
  go_wp2_with fail
  go_loopw [3, 4] (HexRel s.data.toList w w.heap.size) (fun _ i _ => s.size - (intOf i).toNat)
  case atStart => exact ⟨0, some ⟨w.heap.size, 0, none⟩, 0, Nat.zero_le _, rfl, rfl, Own.none0 _, bxt⟩
  case round =>
    obtain ⟨k, g, q, hk, rfl, rfl, HO, hb⟩ := hrel
    by_cases hlt : k < s.size
    · have k1 : (k : Int) < (s.size : Int) := by omega
      have k3 : (0 : Int) ≤ (k : Int) := by omega
      have k5 : decide ((k : Int) < (s.size : Int)) = true := decide_eq_true k1
      have hb8 : s[k].toNat < 256 := s[k].toNat_lt
      have hbs := hb.size
      have hnx := encode_take (l := s.data.toList) (k := k) (by omega)
      have e1 : (s.data.toList[k]'(by omega)) = s[k] := by simp; rfl
      rw [e1] at hnx
      have HNX := Lib.hid hnx
      clear hnx e1
      obtain ⟨x, hx⟩ : ∃ x : Nat, s[k].toNat = x := ⟨_, rfl⟩
      have hx2 := hx
      rw [hx2] at hb8
      go_wp2_with fail
      have m1 : IntKind.u8.wrap ((x : Int) / 16) = (x : Int) / 16 := IntWalk.u8_in _ (by omega)
      have m2 : Int.tmod (x : Int) 16 = (x : Int) % 16 := Int.tmod_eq_emod_of_nonneg (by omega)
      go_wp2_with fail
      first
        | go_region_law (first
            | (go_simp; go_at_call 52; refine (l1Hex_any _ _ (by omega) (by omega)).mono ?_; rintro e w' ⟨rfl, rfl⟩)
            | (refine step_app (B := w.heap.size) (n := 2 * k) (xs := bv (Lib.Hx.encode (s.data.toList.take k))) (s := 1) (v := .slice g (2 * k) q) rfl (.tmp 12) (.tmp 23) 41 rfl 5 i0 _ _ Tryd.underlying41 hi hz0 hz1 hz2 rfl (by decide) (by simp [Act.eval, Act.put]) (by repeat' (first | with_reducible exact HO.out | with_reducible refine Own.alloc1 ?_ _ | with_reducible refine Own.drew1 ?_ | with_reducible refine Own.drewN1 ?_)) (some ⟨wr.heap.size, 0, none⟩) 2 2 [.int .u8 ((Lib.Hx.digit ((x : Int) / 16).toNat).toNat : Int), .int .u8 ((Lib.Hx.digit ((x : Int) % 16).toNat).toNat : Int)] (by simp [Act.eval, Act.put]) ⟨rfl, Nat.le_refl _, (by decide), fun _ => ⟨wr.heap.size, 0, rfl, (by simp), at_cons (by repeat' (first | with_reducible refine keep_drew ?_ | with_reducible refine keep_drewN ?_ | (simp [go_sem]; done))) (at_cons (by repeat' (first | with_reducible refine keep_drew ?_ | with_reducible refine keep_drewN ?_ | (simp [go_sem]; done))) (at_nil))⟩⟩ (by simp [Value.oneCell']) (by omega) (by decide) (by simp; omega) ?_; intro g2 q2 w6 hown2 hg2; have H2 := Lib.hid hown2; have hbel : Below w.heap.size w w6 := below_foot (B := w.heap.size) (Below.extB hb (show Ext wr _ from bxt) hbs) (show Own _ w.heap.size 5 1 (.slice g (2 * k) q) (2 * k) (bv (Lib.Hx.encode (s.data.toList.take k))) from (by repeat' (first | with_reducible exact HO.out | with_reducible refine Own.alloc1 ?_ _ | with_reducible refine Own.drew1 ?_ | with_reducible refine Own.drewN1 ?_))) (Nat.le_refl _) (by simp; omega) hg2; clear hown2 hg2))
        | fail
      all_goals
        have HN : Hid (Own w6 w.heap.size 5 1 (.slice g2 (2 * (k + 1)) q2) (2 * (k + 1)) (bv (Lib.Hx.encode (s.data.toList.take (k + 1))))) := by
          have h := H2.out
          rw [show 2 * k + 2 = 2 * (k + 1) by omega] at h
          rw [HNX.out, bv_app, hx]
          have q1 : ((x : Int) / 16).toNat = x / 16 := by omega
          have q2 : ((x : Int) % 16).toNat = x % 16 := by omega
          rw [q1, q2] at h
          exact h
        clear H2
        go_wp2_with fail
        go_roundw
        case rel => exact ⟨k + 1, g2, q2, by omega, by go_num, by rw [show 2 * k + 2 = 2 * (k + 1) by omega], HN, hbel⟩
        case measure => simp [intOf]; omega
    · have k5 : decide ((k : Int) < (s.size : Int)) = false := decide_eq_false (by omega)
      obtain rfl : k = s.size := by omega
      have hcv := conv_own 41 9 5 Tryd.underlying41 Tryd.underlying5 Tryd.underlying9 HO.out
      rw [← hsz, List.take_length] at hcv
      rw [hsz] at hcv
      go_wp2_with fail
      go_ret
      exact ⟨rfl, hb⟩
end Go.Proofs.YtadjlfcdjkikgaaDoor

namespace Go.Proofs.YtadjlfcdjkikgaaDoor
open Go Go.Lib
set_option linter.unusedVariables false
set_option linter.unusedSimpArgs false

def crlfL : List UInt8 := [13, 10]
/-- the lines that are whole; acc: what of the line is read -/
def lnsL (acc : List UInt8) : List UInt8 → List (List UInt8)
  | [] => []
  | [_] => []
  | x :: y :: t => if x = 13 ∧ y = 10 then acc :: lnsL [] t else lnsL (acc ++ [x]) (y :: t)
theorem splitK_ne (sep : List UInt8) (save k : Nat) (s : List UInt8) : splitK sep save k s ≠ [] := by
  cases k with
  | zero => simp [splitK]
  | succ k => unfold splitK; split <;> simp
theorem split_miss {s : List UInt8} (h : index s crlfL = -1) : (split s crlfL).dropLast = [] := by
  unfold split; rw [count_miss h]; rfl
theorem split_hit {s : List UInt8} {i : Nat} (h : index s crlfL = i) : (split s crlfL).dropLast = s.take i :: (split (s.drop (i + 2)) crlfL).dropLast := by
  unfold split
  rw [count_hit (by decide) h, Nat.add_comm, splitK, h, if_neg (by simp)]
  rw [List.dropLast_cons_of_ne_nil (splitK_ne _ _ _ _)]
  simp [crlfL]
theorem split_lns : ∀ (n : Nat) (acc s : List UInt8), s.length ≤ n → NoOcc (acc ++ s) crlfL acc.length → (split (acc ++ s) crlfL).dropLast = lnsL acc s
  | _, acc, [], _, h => by
    rw [split_miss (index_past (by decide) h (by simp [crlfL]))]; rfl
  | _, acc, [x], _, h => by
    rw [split_miss (index_past (by decide) h (by simp [crlfL]))]; rfl
  | 0, acc, x :: y :: t, hn, h => by simp at hn
  | n + 1, acc, x :: y :: t, hn, h => by
    have hn' : t.length + 1 ≤ n := by simpa using hn
    unfold lnsL
    by_cases hxy : x = 13 ∧ y = 10
    · rw [if_pos hxy]
      obtain ⟨rfl, rfl⟩ := hxy
      rw [split_hit (i := acc.length) (index_hit h (by simp) (by simp [occAt, crlfL])), ← split_lns n [] t (by omega) (NoOcc.zero _ _)]
      have e : (acc ++ 13 :: 10 :: t).drop (acc.length + 2) = t := by rw [List.drop_append]; simp
      rw [e]; simp
    · rw [if_neg hxy]
      have e : acc ++ x :: y :: t = (acc ++ [x]) ++ (y :: t) := by simp
      rw [e]
      refine split_lns n (acc ++ [x]) (y :: t) (by simpa using hn') ?_
      have ho : occAt (acc ++ x :: y :: t) crlfL acc.length = false := by
        simp only [occAt, crlfL, List.drop_left, List.isPrefixOf, Bool.and_true]
        simp only [Bool.and_eq_false_iff, beq_eq_false_iff_ne]
        by_cases hx : x = 13
        · right; exact fun e => hxy ⟨hx, e.symm⟩
        · left; exact fun e => hx e.symm
      have := NoOcc.succ h ho
      rw [← e]; simpa using this
/-- the whole lines of a text -/
def lnB (s : ByteArray) : List ByteArray := (lnsL [] s.data.toList).map (fun l => ⟨l.toArray⟩)
def crlfB : ByteArray := ⟨#[13, 10]⟩
theorem splitB_lnB (s : ByteArray) : (splitB crlfB 0 (countB s crlfB) s).dropLast = lnB s := by
  have h1 := splitB_data crlfB 0 (countB s crlfB) s
  have h2 := split_lns _ [] s.data.toList (Nat.le_refl _) (NoOcc.zero _ _)
  rw [List.nil_append] at h2
  unfold lnB
  rw [← h2]
  have h3 : split s.data.toList crlfL = splitK crlfB.data.toList 0 (countB s crlfB) s.data.toList := rfl
  rw [h3, ← h1, ← List.map_dropLast, List.map_map]
  symm
  rw [show ((fun l => (⟨l.toArray⟩ : ByteArray)) ∘ fun x : ByteArray => x.data.toList) = id from by funext x; simp]
  simp
/-- lines of what is cut off are the first ones -/
theorem lnsL_append : ∀ (n : Nat) (acc a b : List UInt8), a.length ≤ n → lnsL acc a <+: lnsL acc (a ++ b)
  | _, acc, [], b, _ => by simp [lnsL]
  | _, acc, [x], b, _ => by simp [lnsL]
  | 0, acc, x :: y :: t, b, hn => by simp at hn
  | n + 1, acc, x :: y :: t, b, hn => by
    have hn' : t.length + 1 ≤ n := by simpa using hn
    simp only [List.cons_append]
    unfold lnsL
    by_cases hxy : x = 13 ∧ y = 10
    · rw [if_pos hxy, if_pos hxy]
      exact (List.prefix_cons_inj acc).2 (lnsL_append n [] t b (by omega))
    · rw [if_neg hxy, if_neg hxy]
      exact lnsL_append n (acc ++ [x]) (y :: t) b (by simpa using hn')
theorem lnB_take (s : ByteArray) (k : Nat) : lnB (s.extract 0 k) <+: lnB s := by
  have h := lnsL_append _ [] (s.data.toList.take k) (s.data.toList.drop k) (Nat.le_refl _)
  rw [List.take_append_drop] at h
  unfold lnB
  rw [extract_from_zero]
  exact h.map _
theorem lnsL_len : ∀ (n : Nat) (acc s : List UInt8), s.length ≤ n → (lnsL acc s).length ≤ s.length
  | _, acc, [], _ => by simp [lnsL]
  | _, acc, [x], _ => by simp [lnsL]
  | 0, acc, x :: y :: t, hn => by simp at hn
  | n + 1, acc, x :: y :: t, hn => by
    have hn' : t.length + 1 ≤ n := by simpa using hn
    unfold lnsL
    by_cases hxy : x = 13 ∧ y = 10
    · rw [if_pos hxy]; have := lnsL_len n [] t (by omega); simp; omega
    · rw [if_neg hxy]; have := lnsL_len n (acc ++ [x]) (y :: t) (by simpa using hn'); simp at this ⊢; omega
theorem lnB_len (s : ByteArray) : (lnB s).length ≤ s.size := by
  unfold lnB
  have h := lnsL_len _ [] s.data.toList (Nat.le_refl _)
  rw [List.length_map, size_eq]
  exact h
/-- the loop of the reference's LinesIn: out is done, the line that is being read began at f -/
def LnSt (s : ByteArray) (f k : Nat) (out : List ByteArray) : Prop := lnB s = out ++ (lnsL ((s.data.toList.take k).drop f) (s.data.toList.drop k)).map (fun l => (⟨l.toArray⟩ : ByteArray))
theorem lnSt_start (s : ByteArray) : LnSt s 0 0 [] := by simp [LnSt, lnB]
theorem drop_two {S : List UInt8} {k : Nat} (hk : k + 1 < S.length) : S.drop k = S[k] :: S[k + 1] :: S.drop (k + 2) := by
  rw [List.drop_eq_getElem_cons (by omega), List.drop_eq_getElem_cons hk]
theorem LnSt.hit {s : ByteArray} {f k : Nat} {out : List ByteArray} (h : LnSt s f k out) (hk : k + 1 < s.data.toList.length) (h1 : s.data.toList[k] = 13) (h2 : s.data.toList[k + 1] = 10) : LnSt s (k + 2) (k + 2) (out ++ [s.extract f k]) := by
  unfold LnSt at h ⊢
  rw [drop_two hk, lnsL, if_pos ⟨h1, h2⟩, List.map_cons] at h
  rw [h, List.append_assoc, List.singleton_append]
  have e : (⟨((s.data.toList.take k).drop f).toArray⟩ : ByteArray) = s.extract f k := by
    apply ByteArray.ext; apply Array.ext'; rw [extract_data]
    first | rfl | simp [List.drop_take]
  rw [e]
  have e2 : (s.data.toList.take (k + 2)).drop (k + 2) = [] := by simp
  rw [e2]
theorem LnSt.miss {s : ByteArray} {f k : Nat} {out : List ByteArray} (h : LnSt s f k out) (hf : f ≤ k) (hk : k + 1 < s.data.toList.length) (h1 : ¬ (s.data.toList[k] = 13 ∧ s.data.toList[k + 1] = 10)) : LnSt s f (k + 1) out := by
  unfold LnSt at h ⊢
  rw [drop_two hk, lnsL, if_neg h1] at h
  have e : (s.data.toList.take (k + 1)).drop f = (s.data.toList.take k).drop f ++ [s.data.toList[k]] := by
    rw [List.take_succ_eq_append_getElem (by omega), List.drop_append_of_le_length (by rw [List.length_take]; omega)]
  rw [e, List.drop_eq_getElem_cons hk]
  exact h
theorem LnSt.stop {s : ByteArray} {f k : Nat} {out : List ByteArray} (h : LnSt s f k out) (hk : s.data.toList.length ≤ k + 1) : lnB s = out := by
  unfold LnSt at h
  have : lnsL ((s.data.toList.take k).drop f) (s.data.toList.drop k) = [] := by
    match hd : s.data.toList.drop k with
    | [] => rfl
    | [_] => rfl
    | x :: y :: t => exact absurd (congrArg List.length hd) (by simp only [List.length_drop, List.length_cons]; omega)
  rw [this] at h; simpa using h
end Go.Proofs.YtadjlfcdjkikgaaDoor

namespace Go.Proofs.YtadjlfcdjkikgaaDoor
open Go.RowKit
set_option linter.unusedVariables false
set_option linter.unusedSimpArgs false

theorem flat_strs (l : List ByteArray) : l.flatMap strCells = l.map Value.string := by
  induction l with
  | nil => rfl
  | cons x l ih => simp [strCells, ih]
/-- a literal's head -/
theorem own_head {w : World} {cs : Array Value} {E n c g : Nat} {xs : List Value} (hg : w.heap.size = g) (hc : cs.size = c) (hn : n ≤ c) (hm : c ≤ 4194304) (hx : cs.toList.take n = xs) : Own (w.alloc (.cells cs E)) w.heap.size E 1 (.slice (some ⟨g, 0, none⟩) n c) n xs := by
  subst hg
  refine ⟨by rw [← hx, List.length_take, Array.length_toList]; omega, _, _, rfl, hn, Or.inr ⟨w.heap.size, cs, rfl, Nat.le_refl _, heap_alloc_new w _, by unfold maxLen; omega, by omega, by simpa using hx⟩⟩
theorem split_count (s : ByteArray) : (Lib.splitB crlfB 0 (Lib.countB s crlfB) s).length = Lib.countB s crlfB + 1 := Lib.splitB_all crlfB (by decide) 0 _ s rfl
set_option maxHeartbeats 2000000 in
theorem implLinesIn_any (s : ByteArray) (w : World) (hm : MaxLen w) (hs : s.size ≤ 1048576) (L : List ByteArray) (hL : Hid (lnB s = L)) :
    Calls Tryd.prog 8 #[.string s] w fun e w' => ∃ g q, e = .returned (.slice g L.length q) ∧ Own w' w.heap.size 9 1 (.slice g L.length q) L.length (L.flatMap strCells) ∧ Ext w w' := by
  obtain ⟨m, hm1, hm2⟩ := hm
  have hsp := split_count s
  have hdl := splitB_lnB s
  obtain ⟨n, hn⟩ : ∃ n, Lib.countB s crlfB = n := ⟨_, rfl⟩
  rw [hn] at hsp hdl
  obtain ⟨P, hP⟩ : ∃ P, Lib.splitB crlfB 0 n s = P := ⟨_, rfl⟩
  rw [hP] at hsp hdl
  have hll : L.length = n := by rw [← hL.out, ← hdl, List.length_dropLast, hsp]; rfl
  have hlen : (lnB s).length ≤ s.size := lnB_len s
  have hn2 : n ≤ 1048576 := by rw [← hll, ← hL.out]; omega
  have HD := Lib.hid hdl; have HSP := Lib.hid hsp; have HLL := Lib.hid hll; have HLE := Lib.hid hL.out; have HPP := Lib.hid hP; have HNN := Lib.hid hn
  clear hdl hsp hll hP hlen hn
  go_enter Tryd.func8, Tryd.ntmps8
  go_wp2_with fail
  refine (Tryd.strings_Split s ⟨#[13, 10]⟩ m _ (by omega) hm1 (by decide)).mono ?_
  rintro e w1 ⟨rfl, rfl⟩
  rw [show Lib.countB s ⟨#[13, 10]⟩ = n from HNN.out, show Lib.splitB ⟨#[13, 10]⟩ 0 n s = P from HPP.out]
  have h1 : (n : Int) ≤ (n : Int) + 1 := by omega
  have h2 : (0 : Int) ≤ (n : Int) := by omega
  have hw : IntKind.i64.wrap (n : Int) = (n : Int) := IntWalk.i64_in _ (by omega)
  go_wp2_with fail
  refine bodyPost_ret (v := .slice (some ⟨w.heap.size, 0, none⟩) n (n + 1)) (by simp [results, Tryd.results8, go_sem, *]) rfl ?_
  refine ⟨some ⟨w.heap.size, 0, none⟩, n + 1, by rw [HLL.out], ?_, bxt⟩
  rw [HLL.out]
  refine own_head rfl (by simp [HSP.out]) (by omega) (by omega) ?_
  rw [flat_strs, ← HLE.out, ← HD.out, List.dropLast_eq_take, HSP.out]
  simp
theorem info_strL : (Tryd.prog.info? 9).map (fun i => (i.zero, i.size, i.bytes)) = some (some (.string ByteArray.empty), 1, 16) := by kernel_rfl
def LinRel (s : ByteArray) (W : World) (B : Nat) (v3 v4 v5 : Value) (wr : World) : Prop :=
  ∃ (k f : Nat) (out : List ByteArray) (g : Option Addr) (q : Nat), k ≤ s.size ∧ f ≤ k ∧ out.length ≤ k ∧ v5 = .int .i64 k ∧ v4 = .int .i64 f ∧ v3 = .slice g out.length q ∧ Hid (LnSt s f k out) ∧ Hid (Own wr B 9 1 (.slice g out.length q) out.length (out.flatMap strCells)) ∧ Below B W wr
theorem byte_13 {s : ByteArray} {k : Nat} (hk : k < s.size) {n : Nat} (hn : n < 256) : s[k].toNat = n ↔ (s.data.toList[k]'(by simpa using hk)) = UInt8.ofNat n := by
  have e : (s.data.toList[k]'(by simpa using hk)) = s[k] := by simp; rfl
  rw [e]
  constructor
  · intro h; apply UInt8.toNat_inj.1; rw [h]; simp; omega
  · intro h; rw [h]; simp; omega
set_option maxRecDepth 100000 in
set_option maxHeartbeats 4000000 in
theorem specLinesIn_any (s : ByteArray) (w : World) (hs : s.size ≤ 1048576) (L : List ByteArray) (hL : Hid (lnB s = L)) :
    Calls Tryd.prog 7 #[.string s] w fun e w' => ∃ g q, e = .returned (.slice g L.length q) ∧ Own w' w.heap.size 9 1 (.slice g L.length q) L.length (L.flatMap strCells) ∧ Ext w w' := by
  obtain ⟨i0, hi, hz0, hz1, hz2⟩ := info_parts info_strL
  have hsz : s.data.toList.length = s.size := by simp
  go_enter Tryd.func7, Tryd.ntmps7
  go_wp2_with fail
  go_loopw [3, 4, 5] (LinRel s w w.heap.size) (fun _ _ i _ => s.size - (intOf i).toNat)
  case atStart => exact ⟨0, 0, [], some ⟨w.heap.size, 0, none⟩, 0, Nat.zero_le _, Nat.le_refl _, Nat.le_refl _, rfl, rfl, rfl, lnSt_start s, Own.none0 _, bxt⟩
  case round =>
    obtain ⟨k, f, out, g, q, hk, hf, hol, rfl, rfl, rfl, HS, HO, hb⟩ := hrel
    have hw1 : IntKind.i64.wrap ((k : Int) + 1) = (k : Int) + 1 := IntWalk.i64_in _ (by omega)
    have HW1 := Lib.hid hw1
    clear hw1
    by_cases hlt : k + 1 < s.size
    · have k1 : (k : Int) + 1 < (s.size : Int) := by omega
      have k2 : (k : Int) < (s.size : Int) := by omega
      have k3 : (0 : Int) ≤ (k : Int) := by omega
      have k4 : (0 : Int) ≤ (k : Int) + 1 := by omega
      have k5 : decide ((k : Int) + 1 < (s.size : Int)) = true := decide_eq_true k1
      have b1 := byte_13 (s := s) (k := k) (by omega) (n := 13) (by omega)
      have b2 := byte_13 (s := s) (k := k + 1) (by omega) (n := 10) (by omega)
      have HB1 := Lib.hid b1
      have HB2 := Lib.hid b2
      clear b1 b2
      by_cases h13 : s[k].toNat = 13
      · by_cases h10 : s[k + 1].toNat = 10
        · have HNX := Lib.hid (HS.out.hit (by omega) (HB1.out.1 h13) (HB2.out.1 h10))
          have e13 : ((s[k].toNat : Int) == 13) = true := by (rw [beq_iff_eq]; omega)
          have e10 : ((s[k + 1].toNat : Int) == 10) = true := by (rw [beq_iff_eq]; omega)
          have q1 : (0 : Int) ≤ (f : Int) := by omega
          have q2 : (f : Int) ≤ (k : Int) := by omega
          have q3 : (k : Int) ≤ (s.size : Int) := by omega
          go_wp2_with ((at_builtin; refine wpList_appL (B := w.heap.size) (v := .slice g out.length q) rfl _ _ 22 rfl 9 i0 _ _ Tryd.underlying22 hi hz0 hz1 hz2 rfl (by decide) rfl (HO.out.ext bxt) (some ⟨wr.heap.size, 0, none⟩) 1 1 (strCells (s.extract f k)) rfl (Rd.lit _ _ _ _ 1 _ rfl rfl (by omega)) (by simp [strCells, Value.oneCell']) (by omega) (by omega) (by have := hb.size; simp; omega) ?_))
          intro g2 q2' w2 hown hg hwl
          have hb2 : Below w.heap.size w w2 := Below.grown (Below.ext hb (show Ext wr _ from bxt)) hg (by have := hb.size; simp; omega) (fun x hx => (HO.out.lt x hx).1)
          have HO2 : Hid (Own w2 w.heap.size 9 1 (.slice g2 (out ++ [s.extract f k]).length q2') (out ++ [s.extract f k]).length ((out ++ [s.extract f k]).flatMap strCells)) := Lib.hid (by simpa using hown)
          clear hown hg hwl
          go_wp2_with fail
          go_roundw
          case rel => exact ⟨k + 2, k + 2, out ++ [s.extract f k], g2, q2', by omega, by omega, by simp; omega, by go_num, by go_num, by simp, HNX, HO2, hb2⟩
          case measure => simp [intOf]; omega
        · have HNX := Lib.hid (HS.out.miss hf (by omega) (fun h => h10 (HB2.out.2 h.2)))
          have e13 : ((s[k].toNat : Int) == 13) = true := by (rw [beq_iff_eq]; omega)
          have e10 : ((s[k + 1].toNat : Int) == 10) = false := by (rw [beq_eq_false_iff_ne]; omega)
          go_wp2_with fail
          go_roundw
          case rel => exact ⟨k + 1, f, out, g, q, by omega, by omega, by omega, by go_num, rfl, rfl, HNX, HO, hb⟩
          case measure => simp [intOf]; omega
      · have HNX := Lib.hid (HS.out.miss hf (by omega) (fun h => h13 (HB1.out.2 h.1)))
        have e13 : ((s[k].toNat : Int) == 13) = false := by (rw [beq_eq_false_iff_ne]; omega)
        have hU : (undef : Value) = .tuple #[] := rfl
        go_wp2_with fail
        go_roundw
        case rel => exact ⟨k + 1, f, out, g, q, by omega, by omega, by omega, by go_num, rfl, rfl, HNX, HO, hb⟩
        case measure => simp [intOf]; omega
    · have k5 : decide ((k : Int) + 1 < (s.size : Int)) = false := decide_eq_false (by omega)
      have hst := Lib.hid (HS.out.stop (by omega))
      obtain rfl : out = L := by rw [← hst.out]; exact hL.out
      go_wp2_with fail
      refine bodyPost_ret (v := .slice g out.length q) (by simp [results, Tryd.results7, go_sem, *]) rfl ?_
      exact ⟨g, q, rfl, HO.out, hb⟩
end Go.Proofs.YtadjlfcdjkikgaaDoor

namespace Go.Proofs.YtadjlfcdjkikgaaDoor
open Go.RowKit
set_option linter.unusedVariables false
set_option linter.unusedSimpArgs false

/-- the flags' names, one by one -/
def fnm : Nat → List UInt8
  | 0 => [115, 101, 101, 110]
  | 1 => [97, 110, 115, 119, 101, 114, 101, 100]
  | 2 => [102, 108, 97, 103, 103, 101, 100]
  | 3 => [100, 101, 108, 101, 116, 101, 100]
  | _ => [100, 114, 97, 102, 116]
def fnms : List ByteArray := [bs (fnm 0), bs (fnm 1), bs (fnm 2), bs (fnm 3), bs (fnm 4)]
/-- the names of the first k flags that are set -/
def flK (f : Nat) : Nat → List ByteArray
  | 0 => []
  | k + 1 => flK f k ++ (if f / 2 ^ k % 2 = 1 then [bs (fnm k)] else [])
theorem flK_len (f : Nat) : ∀ k, (flK f k).length ≤ k
  | 0 => by simp [flK]
  | k + 1 => by
    have := flK_len f k
    unfold flK
    rw [List.length_append]
    split <;> simp <;> omega
theorem flK_names (f : Nat) : (flK f 5).map (fun s => s.data.toList) = flNames f := by
  unfold flNames
  simp only [flK, List.map_append, List.nil_append]
  have e : ∀ (p : Prop) [Decidable p] (l : List UInt8), (if p then [bs l] else []).map (fun s : ByteArray => s.data.toList) = if p then [l] else [] := by
    intro p _ l; split <;> simp [bs]
  simp only [e]
  rfl
theorem bit_one (f k : Nat) (hf : f ≤ 31) (r : Bool) (hr : r = decide (f / 2 ^ k % 2 = 1)) : (bits BinOp.and IntKind.i64 ((f : Int) / 2 ^ k) 1 == 1) = r := by
  have h1 : ∀ x : Fin 32, bits BinOp.and IntKind.i64 (x.val : Int) 1 = ((x.val % 2 : Nat) : Int) := by decide +kernel
  have h2 : f / 2 ^ k ≤ 31 := Nat.le_trans (Nat.div_le_self _ _) hf
  have h4 : ((f / 2 ^ k : Nat) : Int) = (f : Int) / 2 ^ k := by simp
  rw [← h4, hr]
  generalize f / 2 ^ k = x at h2 ⊢
  rw [h1 ⟨x, by omega⟩]
  rcases Nat.mod_two_eq_zero_or_one x with h | h <;> rw [h] <;> rfl
theorem info_u8j : (Tryd.prog.info? 5).map (fun i => (i.zero, i.size, i.bytes)) = some (some (.int .u8 0), 1, 1) := by kernel_rfl
/-- what is joined of the first k -/
def jnK (xs : List (List UInt8)) (sep : List UInt8) (k : Nat) : List UInt8 := Lib.join (xs.take k) sep
theorem jnK_next (xs : List (List UInt8)) (sep : List UInt8) (k : Nat) (hk : k < xs.length) : jnK xs sep (k + 1) = jnK xs sep k ++ (if 0 < k then sep else []) ++ xs[k] := by
  unfold jnK
  cases k with
  | zero =>
    cases xs with
    | nil => simp at hk
    | cons x r => simp [Lib.join_one, Lib.join_nil]
  | succ k =>
    cases xs with
    | nil => simp at hk
    | cons x r =>
      have hk' : k < r.length := by simpa using hk
      rw [List.take_succ_cons, List.take_succ_cons, Lib.join_cons, Lib.join_cons, Lib.joinTail_take_succ sep r k r[k] (List.getElem?_eq_getElem hk')]
      simp
theorem jnK_le (xs : List (List UInt8)) (sep : List UInt8) (k : Nat) : (jnK xs sep k).length ≤ (Lib.join xs sep).length := by
  unfold jnK
  cases xs with
  | nil => simp
  | cons x r =>
    cases k with
    | zero => simp [Lib.join_nil]
    | succ k =>
      rw [List.take_succ_cons, Lib.join_cons, Lib.join_cons, List.length_append, List.length_append]
      have := Lib.joinTail_take_le sep r k
      omega
def JnRel (xs : List ByteArray) (sep : ByteArray) (W : World) (B : Nat) (v5 v6 : Value) (wr : World) : Prop :=
  ∃ (k n : Nat) (g : Option Addr) (q : Nat), k ≤ xs.length ∧ v6 = .int .i64 k ∧ v5 = .slice g n q ∧ Hid ((jnK (xs.map (·.data.toList)) sep.data.toList k).length = n) ∧ Hid (wr.ownsRow B 5 1 (.slice g n q) n (bv (jnK (xs.map (·.data.toList)) sep.data.toList k))) ∧ Below B W wr
theorem row_shape {w : World} {B E s n : Nat} {v : Value} {xs : List Value} (h : w.ownsRow B E s v n xs) : ∃ g q, v = .slice g n q := by
  rcases h.2 with ⟨rfl, h0⟩ | ⟨g, c, cur, rfl, _⟩
  · exact ⟨none, 0, by rw [h0]⟩
  · exact ⟨_, _, rfl⟩
set_option maxRecDepth 100000 in
set_option maxHeartbeats 4000000 in
theorem specJoined_any (xs : List ByteArray) (sep : ByteArray) (a : Option Addr) (c : Nat) (w : World) (R : Rd w a c 1 xs.length (xs.flatMap strCells)) (hl : (Lib.join (xs.map (·.data.toList)) sep.data.toList).length ≤ 1048576) (hn : xs.length ≤ 1048576) :
    Calls Tryd.prog 51 #[.slice a xs.length c, .string sep] w fun e w' => e = .returned (.string (bs (Lib.join (xs.map (·.data.toList)) sep.data.toList))) ∧ Ext w w' := by
  obtain ⟨i0, hi, hz0, hz1, hz2⟩ := info_parts info_u8j
  obtain ⟨J, hJ⟩ : ∃ J, J = Lib.join (xs.map (·.data.toList)) sep.data.toList := ⟨_, rfl⟩
  rw [← hJ] at hl ⊢
  have HJ := Lib.hid hJ
  clear hJ
  go_enter Tryd.func51, Tryd.ntmps51
  go_wp2_with fail
  go_loopw [5, 6] (JnRel xs sep w w.heap.size) (fun _ i _ => xs.length - (intOf i).toNat)
  case atStart => exact ⟨0, 0, some ⟨w.heap.size, 0, none⟩, 0, Nat.zero_le _, rfl, rfl, rfl, World.ownsRow_lit w #[] 0 (Nat.le_refl _) (Nat.zero_le _) (by simp [bv, jnK, Lib.join_nil]), bxt⟩
  case round =>
    obtain ⟨k, n, g, q, hk, rfl, rfl, HL, HO, hb⟩ := hrel
    have hbs := hb.size
    have hle : Hid (∀ k, (jnK (xs.map (·.data.toList)) sep.data.toList k).length ≤ 1048576) := fun k => by
      have := jnK_le (xs.map (·.data.toList)) sep.data.toList k
      rw [← HJ.out] at this
      omega
    by_cases hlt : k < xs.length
    · have k1 : (k : Int) < (xs.length : Int) := by omega
      have k3 : (0 : Int) ≤ (k : Int) := by omega
      have k5 : decide ((k : Int) < (xs.length : Int)) = true := decide_eq_true k1
      obtain ⟨b, o, rfl, hb0, hat⟩ := R.ptr (by omega)
      have hc1 : wr.cell? ⟨b, o + k, none⟩ = some (.string xs[k]) := by
        have h := strCells_at hat k hlt
        rw [hb.cell (p := ⟨b, o + k, none⟩) hb0, h]
      have hnx := jnK_next (xs.map (·.data.toList)) sep.data.toList k (by simpa using hlt)
      simp only [List.getElem_map] at hnx
      have HNX := Lib.hid hnx
      obtain ⟨x, hx⟩ : ∃ x, xs[k] = x := ⟨_, rfl⟩
      rw [hx] at hc1
      have hxl : (jnK (xs.map (·.data.toList)) sep.data.toList (k + 1)).length = n + (if 0 < k then sep.data.toList else []).length + x.size := by
        rw [hnx, List.length_append, List.length_append, HL.out, hx]; simp
      have HXL := Lib.hid hxl
      have hl1 := hle.out (k + 1)
      rw [hxl] at hl1
      have HX := Lib.hid hx
      clear hat hnx hxl hx
      by_cases hk0 : k = 0
      · subst hk0
        simp only [Nat.add_zero] at hc1
        simp at hl1
        go_wp2_with ((at_builtin; refine Lib.wpList_append_own_string _ rfl _ _ 41 9 rfl w.heap.size 5 i0 Tryd.underlying41 Tryd.underlying9 hi hz0 hz1 hz2 (.slice g n q) n _ rfl HO.out x rfl (by unfold maxLen; omega) (by omega) (by omega) ?_))
        intro v2 w2 hown hg hnil
        obtain ⟨g2, q2, rfl⟩ := row_shape hown
        have hb2 : Below w.heap.size w w2 := below_app hb HO.out (Nat.le_refl _) hbs hg
        have HN : Hid (JnRel xs sep w w.heap.size (.slice g2 (n + x.size) q2) (.int .i64 ((0 : Nat) + 1 : Nat)) w2) := by
          refine ⟨1, n + x.size, g2, q2, by omega, by simp, rfl, ?_, ?_, hb2⟩
          · have h := HXL.out; unfold Hid; simpa using h
          · unfold Hid; rw [HNX.out, HX.out]
            simp only [Nat.lt_irrefl, if_false, List.append_nil]
            rw [bv_app, ← str_bv]; exact hown
        clear hown hg hnil
        go_wp2_with fail
        go_roundw
        case rel => simpa using HN.out
        case measure => simp [intOf]; omega
      · have hkp : 0 < k := by omega
        have d0 : decide ((0 : Int) < (k : Int)) = true := decide_eq_true (by omega)
        rw [if_pos hkp] at hl1
        simp at hl1
        go_wp2_with ((at_builtin; refine Lib.wpList_append_own_string _ rfl _ _ 41 9 rfl w.heap.size 5 i0 Tryd.underlying41 Tryd.underlying9 hi hz0 hz1 hz2 (.slice g n q) n _ rfl HO.out sep rfl (by unfold maxLen; omega) (by omega) (by omega) ?_))
        intro v2 w2 hown hg hnil
        obtain ⟨g2, q2, rfl⟩ := row_shape hown
        have hb2 : Below w.heap.size w w2 := below_app hb HO.out (Nat.le_refl _) hbs hg
        have hbs2 := hb2.size
        have hc2 : w2.cell? ⟨b, o + k, none⟩ = some (.string x) := by
          rw [← hc1]
          exact (grown_off hg).1 b (o + k) (by omega) (fun e => by have := (HO.out.lt b e).1; omega)
        have HO2 := Lib.hid hown
        clear hown hg hnil
        go_wp2_with ((at_builtin; refine Lib.wpList_append_own_string _ rfl _ _ 41 9 rfl w.heap.size 5 i0 Tryd.underlying41 Tryd.underlying9 hi hz0 hz1 hz2 (.slice g2 (n + sep.size) q2) (n + sep.size) _ rfl HO2.out x rfl (by unfold maxLen; omega) (by omega) (by omega) ?_))
        intro v3 w3 hown hg hnil
        obtain ⟨g3, q3, rfl⟩ := row_shape hown
        have hb3 : Below w.heap.size w w3 := below_app hb2 HO2.out (Nat.le_refl _) hbs2 hg
        have HN : Hid (JnRel xs sep w w.heap.size (.slice g3 (n + sep.size + x.size) q3) (.int .i64 ((k : Int) + 1)) w3) := by
          refine ⟨k + 1, n + sep.size + x.size, g3, q3, by omega, by simp, rfl, ?_, ?_, hb3⟩
          · have h := HXL.out; rw [if_pos hkp] at h; unfold Hid; simpa using h
          · unfold Hid; rw [HNX.out, HX.out, if_pos hkp]
            rw [bv_app, bv_app, ← str_bv, ← str_bv]; simpa only [List.append_assoc] using hown
        clear hown hg hnil
        go_wp2_with fail
        go_roundw
        case rel => simpa using HN.out
        case measure => simp [intOf]; omega
    · have k5 : decide ((k : Int) < (xs.length : Int)) = false := decide_eq_false (by omega)
      obtain rfl : k = xs.length := by omega
      have hj : jnK (xs.map (·.data.toList)) sep.data.toList xs.length = J := by
        unfold jnK; rw [List.take_of_length_le (by simp), HJ.out]
      have hO := HO.out
      rw [hj] at hO
      have hcv := conv_own 41 9 5 Tryd.underlying41 Tryd.underlying5 Tryd.underlying9 (Own.of_row hO)
      clear hO
      go_wp2_with fail
      go_ret
      exact ⟨rfl, hb⟩
set_option maxRecDepth 100000 in
theorem l5Words_any (w : World) :
    Calls Tryd.prog 50 #[] w fun e w' => e = .returned (.slice (some ⟨w.heap.size, 0, none⟩) 5 5) ∧ At w' w.heap.size 0 (fnms.flatMap strCells) ∧ w.heap.size < w'.heap.size ∧ Ext w w' := by
  go_enter Tryd.func50, Tryd.ntmps50
  go_wp2_with fail
  go_ret
  exact ⟨rfl, at_alloc rfl rfl, by simp, bxt⟩
def FlRel (f : Nat) (W : World) (B : Nat) (v3 v4 : Value) (wr : World) : Prop :=
  ∃ (k : Nat) (g : Option Addr) (q : Nat), k ≤ 5 ∧ v4 = .int .i64 k ∧ v3 = .slice g (flK f k).length q ∧ Hid (Own wr B 9 1 (.slice g (flK f k).length q) (flK f k).length ((flK f k).flatMap strCells)) ∧ Below B W wr
set_option maxRecDepth 100000 in
set_option maxHeartbeats 4000000 in
theorem specFlagsText_any (f : Int) (w : World) (h0 : 0 ≤ f) (h1 : f ≤ 31) :
    Calls Tryd.prog 28 #[.int .i64 f] w fun e w' => e = .returned (.string (bs (flText f.toNat))) ∧ Ext w w' := by
  obtain ⟨i0, hi, hz0, hz1, hz2⟩ := info_parts info_strL
  obtain ⟨n, rfl⟩ : ∃ n : Nat, f = n := ⟨f.toNat, by omega⟩
  have hf : n ≤ 31 := by omega
  have ht : Lib.join ((flK n 5).map (·.data.toList)) [32] = flText n := by unfold flText; rw [← flK_names]
  have hl := flText_len n hf
  have HT := Lib.hid ht
  have HL := Lib.hid hl
  clear ht hl
  go_enter Tryd.func28, Tryd.ntmps28
  go_wp2_with fail
  go_loopw [3, 4] (FlRel n w w.heap.size) (fun _ i _ => 5 - (intOf i).toNat)
  case atStart => exact ⟨0, some ⟨w.heap.size, 0, none⟩, 0, Nat.zero_le _, rfl, rfl, Own.none0 _, bxt⟩
  case round =>
    obtain ⟨k, g, q, hk, rfl, rfl, HO, hb⟩ := hrel
    have hkl := flK_len n k
    have hbs := hb.size
    by_cases hlt : k < 5
    · have k1 : (k : Int) < 5 := by omega
      have k3 : (0 : Int) ≤ (k : Int) := by omega
      have k5 : decide ((k : Int) < 5) = true := decide_eq_true k1
      have HNX : Hid (flK n (k + 1) = flK n k ++ (if n / 2 ^ k % 2 = 1 then [bs (fnm k)] else [])) := rfl
      go_wp2_with fail
      refine (sFlagsOk_any _ _ true (Lib.hid ⟨fun _ => ⟨h0, h1⟩, fun _ => rfl⟩)).mono ?_
      rintro e w1 ⟨rfl, rfl⟩
      by_cases hbit : n / 2 ^ k % 2 = 1
      · have hbt := bit_one n k hf true (by simp [hbit])
        have HNX : Hid (flK n (k + 1) = flK n k ++ [bs (fnm k)]) := by have h := HNX.out; rw [if_pos hbit] at h; exact h
        have HBT := Lib.hid hbit
        clear hbit
        go_wp2_with fail
        refine (l5Words_any _).mono ?_
        rintro e w2 ⟨rfl, hat, hs2, hb2⟩
        have hc1 : w2.cell? ⟨w1.heap.size, 0 + k, none⟩ = some (.string (bs (fnm k))) := by
          have h := strCells_at hat k (by simpa [fnms] using hlt)
          rw [h]
          have : k = 0 ∨ k = 1 ∨ k = 2 ∨ k = 3 ∨ k = 4 := by omega
          rcases this with rfl | rfl | rfl | rfl | rfl <;> rfl
        have hc2 : w2.cell? ⟨w1.heap.size, k, none⟩ = some (.string (bs (fnm k))) := by rw [Nat.zero_add] at hc1; exact hc1
        have HO1 := Lib.hid (HO.out.ext hb2)
        have hbl := hb2.size
        clear hat
        go_wp2_with ((at_builtin; refine wpList_appL (B := w.heap.size) (v := .slice g (flK n k).length q) rfl _ _ 22 rfl 9 i0 _ _ Tryd.underlying22 hi hz0 hz1 hz2 rfl (by decide) rfl (HO1.out.ext bxt) (some ⟨w2.heap.size, 0, none⟩) 1 1 (strCells (bs (fnm k))) rfl (Rd.lit _ _ _ _ 1 _ rfl rfl (by omega)) (by simp [strCells, Value.oneCell']) (by omega) (by omega) (by simp; omega) ?_))
        intro g2 q2 w3 hown hg hwl
        have hb3 : Below w.heap.size w w3 := Below.grown (Below.ext (Below.ext hb hb2) (show Ext w2 _ from bxt)) hg (by simp; omega) (fun x hx => (HO1.out.lt x hx).1)
        have HO2 : Hid (Own w3 w.heap.size 9 1 (.slice g2 (flK n (k + 1)).length q2) (flK n (k + 1)).length ((flK n (k + 1)).flatMap strCells)) := by
          unfold Hid
          rw [HNX.out]
          simpa using hown
        have HV : Hid ((Value.slice g2 ((flK n k).length + 1) q2) = .slice g2 (flK n (k + 1)).length q2) := by unfold Hid; rw [HNX.out]; simp
        clear hown hg hwl
        go_wp2_with fail
        go_roundw
        case rel => exact ⟨k + 1, g2, q2, by omega, by go_num, HV.out, HO2, hb3⟩
        case measure => simp [intOf]; omega
      · have hbt := bit_one n k hf false (by simp; omega)
        have HNX : Hid (flK n (k + 1) = flK n k) := by have h := HNX.out; rw [if_neg hbit, List.append_nil] at h; exact h
        clear hbit
        have HN : Hid (FlRel n w w.heap.size (.slice g (flK n k).length q) (.int .i64 ((k : Int) + 1)) w1) := ⟨k + 1, g, q, by omega, by go_num, by rw [HNX.out], by rw [HNX.out]; exact HO, hb⟩
        go_wp2_with fail
        go_roundw
        case rel => exact HN.out
        case measure => simp [intOf]; omega
    · have k5 : decide ((k : Int) < 5) = false := decide_eq_false (by omega)
      obtain rfl : k = 5 := by omega
      have hU : (undef : Value) = .tuple #[] := rfl
      go_wp2_with fail
      refine (specJoined_any (flK n 5) ⟨#[32]⟩ g q _ (Rd.of_Own HO.out) (by have h := HL.out; rw [← HT.out] at h; show (Lib.join _ [32]).length ≤ _; omega) (by omega)).mono ?_
      rintro e w4 ⟨rfl, hb4⟩
      go_wp2_with fail
      go_ret
      refine ⟨?_, bxt⟩
      have h := HT.out
      rw [h]
      rfl
end Go.Proofs.YtadjlfcdjkikgaaDoor

namespace Go.Proofs.YtadjlfcdjkikgaaDoor
open Go.RowKit
set_option linter.unusedVariables false
set_option linter.unusedSimpArgs false

theorem hexL_of {t : ByteArray} (h : ¬ t = ⟨#[]⟩) : hexL t.data.toList = Lib.Hx.encode t.data.toList := by
  unfold hexL
  rw [if_neg]
  intro e
  apply h
  obtain ⟨⟨l⟩⟩ := t
  simp at e
  subst e; rfl
theorem l14Word_any (k : Int) (w : World) (s : ByteArray) (h : (k = 9 ∧ s = bs wCLOSED) ∨ (k = 10 ∧ s = bs wOVERFLOW) ∨ (k = 11 ∧ s = bs wBYE) ∨ (k = 16 ∧ s = bs wHELLO)) :
    Calls Tryd.prog 30 #[.int .i64 k] w fun e w' => e = .returned (.string s) ∧ w' = w := by
  rcases h with ⟨rfl, rfl⟩ | ⟨rfl, rfl⟩ | ⟨rfl, rfl⟩ | ⟨rfl, rfl⟩
  all_goals
    go_enter Tryd.func30, Tryd.ntmps30
    go_wp2_with fail
    go_ret
    exact ⟨rfl, rfl⟩

set_option maxRecDepth 100000 in
set_option maxHeartbeats 4000000 in
theorem specText_1 (n : Int) (w : World) (hp : ReplyP (⟨1, n, 0, 0, ⟨#[]⟩, ⟨#[]⟩⟩ : DReply)) (h1 : 0 ≤ n ∧ n ≤ 999999999) :
    Calls Tryd.prog 13 #[.agg #[.int .i64 1, .int .i64 n, .int .i64 0, .int .i64 0, .string ⟨#[]⟩, .string ⟨#[]⟩]] w fun e w' => e = .returned (.string (txt (⟨1, n, 0, 0, ⟨#[]⟩, ⟨#[]⟩⟩ : DReply))) ∧ Ext w w' := by
  have sN := dgB_size n h1
  have HP := Lib.hid hp
  clear hp
  have HC := Lib.hid (cat_1 n )
  go_enter Tryd.func13, Tryd.ntmps13
  go_wp2_with fail
  refine (specReplyOk_any (⟨1, n, 0, 0, ⟨#[]⟩, ⟨#[]⟩⟩ : DReply) _ (show (⟨#[]⟩ : ByteArray).size ≤ 9223372036854775807 by decide) (show (⟨#[]⟩ : ByteArray).size ≤ 9223372036854775807 by decide) true (Lib.hid ⟨fun _ => HP.out, fun _ => rfl⟩)).mono ?_
  rintro e w1 ⟨rfl, b1⟩
  have c0w1 : w1.cell? ⟨w.heap.size, 0, none⟩ = some (.int .i64 1) := (b1.cell (p := ⟨w.heap.size, 0, none⟩) (by simp)).trans (by simp [go_sem])
  have c1w1 : w1.cell? ⟨w.heap.size, 1, none⟩ = some (.int .i64 n) := (b1.cell (p := ⟨w.heap.size, 1, none⟩) (by simp)).trans (by simp [go_sem])
  have hzw1 : w.heap.size < w1.heap.size := by (have := b1.size; simp at this; omega)
  go_wp2_with fail
  refine (specDigits_any n _ (by omega) (by omega)).mono ?_
  rintro e w2 ⟨rfl, b2⟩
  have c0w2 : w2.cell? ⟨w.heap.size, 0, none⟩ = some (.int .i64 1) := (b2.cell (p := ⟨w.heap.size, 0, none⟩) hzw1).trans c0w1
  have hzw2 : w.heap.size < w2.heap.size := by (have := b2.size; omega)
  have q0 : ¬ 9223372036854775807 < 2 + (dgB n).size := by omega
  have q1 : ¬ 9223372036854775807 < 2 + (dgB n).size + 7 := by omega
  go_wp2_with fail
  all_goals (first | (exfalso; omega) | skip)
  go_ret
  exact ⟨by rw [HC.out]; rfl, bxt⟩
set_option maxRecDepth 100000 in
set_option maxHeartbeats 4000000 in
theorem specText_2 (n : Int) (w : World) (hp : ReplyP (⟨2, n, 0, 0, ⟨#[]⟩, ⟨#[]⟩⟩ : DReply)) (h1 : 0 ≤ n ∧ n ≤ 999999999) :
    Calls Tryd.prog 13 #[.agg #[.int .i64 2, .int .i64 n, .int .i64 0, .int .i64 0, .string ⟨#[]⟩, .string ⟨#[]⟩]] w fun e w' => e = .returned (.string (txt (⟨2, n, 0, 0, ⟨#[]⟩, ⟨#[]⟩⟩ : DReply))) ∧ Ext w w' := by
  have sN := dgB_size n h1
  have HP := Lib.hid hp
  clear hp
  have HC := Lib.hid (cat_2 n )
  go_enter Tryd.func13, Tryd.ntmps13
  go_wp2_with fail
  refine (specReplyOk_any (⟨2, n, 0, 0, ⟨#[]⟩, ⟨#[]⟩⟩ : DReply) _ (show (⟨#[]⟩ : ByteArray).size ≤ 9223372036854775807 by decide) (show (⟨#[]⟩ : ByteArray).size ≤ 9223372036854775807 by decide) true (Lib.hid ⟨fun _ => HP.out, fun _ => rfl⟩)).mono ?_
  rintro e w1 ⟨rfl, b1⟩
  have c0w1 : w1.cell? ⟨w.heap.size, 0, none⟩ = some (.int .i64 2) := (b1.cell (p := ⟨w.heap.size, 0, none⟩) (by simp)).trans (by simp [go_sem])
  have c1w1 : w1.cell? ⟨w.heap.size, 1, none⟩ = some (.int .i64 n) := (b1.cell (p := ⟨w.heap.size, 1, none⟩) (by simp)).trans (by simp [go_sem])
  have hzw1 : w.heap.size < w1.heap.size := by (have := b1.size; simp at this; omega)
  go_wp2_with fail
  refine (specDigits_any n _ (by omega) (by omega)).mono ?_
  rintro e w2 ⟨rfl, b2⟩
  have c0w2 : w2.cell? ⟨w.heap.size, 0, none⟩ = some (.int .i64 2) := (b2.cell (p := ⟨w.heap.size, 0, none⟩) hzw1).trans c0w1
  have hzw2 : w.heap.size < w2.heap.size := by (have := b2.size; omega)
  have q0 : ¬ 9223372036854775807 < 2 + (dgB n).size := by omega
  have q1 : ¬ 9223372036854775807 < 2 + (dgB n).size + 8 := by omega
  go_wp2_with fail
  all_goals (first | (exfalso; omega) | skip)
  go_ret
  exact ⟨by rw [HC.out]; rfl, bxt⟩
set_option maxRecDepth 100000 in
set_option maxHeartbeats 4000000 in
theorem specText_3 (n u f : Int) (w : World) (hp : ReplyP (⟨3, n, u, f, ⟨#[]⟩, ⟨#[]⟩⟩ : DReply)) (h1 : 0 ≤ n ∧ n ≤ 999999999) (h2 : 0 ≤ u ∧ u ≤ 999999999) (h3 : 0 ≤ f ∧ f ≤ 31) :
    Calls Tryd.prog 13 #[.agg #[.int .i64 3, .int .i64 n, .int .i64 u, .int .i64 f, .string ⟨#[]⟩, .string ⟨#[]⟩]] w fun e w' => e = .returned (.string (txt (⟨3, n, u, f, ⟨#[]⟩, ⟨#[]⟩⟩ : DReply))) ∧ Ext w w' := by
  have sN := dgB_size n h1
  have sU := dgB_size u h2
  have sF := flB_size f h3
  have HP := Lib.hid hp
  clear hp
  have HC := Lib.hid (cat_3 n u f )
  go_enter Tryd.func13, Tryd.ntmps13
  go_wp2_with fail
  refine (specReplyOk_any (⟨3, n, u, f, ⟨#[]⟩, ⟨#[]⟩⟩ : DReply) _ (show (⟨#[]⟩ : ByteArray).size ≤ 9223372036854775807 by decide) (show (⟨#[]⟩ : ByteArray).size ≤ 9223372036854775807 by decide) true (Lib.hid ⟨fun _ => HP.out, fun _ => rfl⟩)).mono ?_
  rintro e w1 ⟨rfl, b1⟩
  have c0w1 : w1.cell? ⟨w.heap.size, 0, none⟩ = some (.int .i64 3) := (b1.cell (p := ⟨w.heap.size, 0, none⟩) (by simp)).trans (by simp [go_sem])
  have c1w1 : w1.cell? ⟨w.heap.size, 1, none⟩ = some (.int .i64 n) := (b1.cell (p := ⟨w.heap.size, 1, none⟩) (by simp)).trans (by simp [go_sem])
  have c2w1 : w1.cell? ⟨w.heap.size, 2, none⟩ = some (.int .i64 u) := (b1.cell (p := ⟨w.heap.size, 2, none⟩) (by simp)).trans (by simp [go_sem])
  have c3w1 : w1.cell? ⟨w.heap.size, 3, none⟩ = some (.int .i64 f) := (b1.cell (p := ⟨w.heap.size, 3, none⟩) (by simp)).trans (by simp [go_sem])
  have hzw1 : w.heap.size < w1.heap.size := by (have := b1.size; simp at this; omega)
  go_wp2_with fail
  refine (specDigits_any n _ (by omega) (by omega)).mono ?_
  rintro e w2 ⟨rfl, b2⟩
  have c0w2 : w2.cell? ⟨w.heap.size, 0, none⟩ = some (.int .i64 3) := (b2.cell (p := ⟨w.heap.size, 0, none⟩) hzw1).trans c0w1
  have c2w2 : w2.cell? ⟨w.heap.size, 2, none⟩ = some (.int .i64 u) := (b2.cell (p := ⟨w.heap.size, 2, none⟩) hzw1).trans c2w1
  have c3w2 : w2.cell? ⟨w.heap.size, 3, none⟩ = some (.int .i64 f) := (b2.cell (p := ⟨w.heap.size, 3, none⟩) hzw1).trans c3w1
  have hzw2 : w.heap.size < w2.heap.size := by (have := b2.size; omega)
  have q0 : ¬ 9223372036854775807 < 2 + (dgB n).size := by omega
  have q1 : ¬ 9223372036854775807 < 2 + (dgB n).size + 7 := by omega
  have q2 : ¬ 9223372036854775807 < 2 + (dgB n).size + 7 + (dgB u).size := by omega
  have q3 : ¬ 9223372036854775807 < 2 + (dgB n).size + 7 + (dgB u).size + 2 := by omega
  have q4 : ¬ 9223372036854775807 < 2 + (dgB n).size + 7 + (dgB u).size + 2 + (bs (flText f.toNat)).size := by omega
  have q5 : ¬ 9223372036854775807 < 2 + (dgB n).size + 7 + (dgB u).size + 2 + (bs (flText f.toNat)).size + 1 := by omega
  go_wp2_with fail
  have y2 := fun y : ExtW w2 => (y.h.cell (p := ⟨w.heap.size, 2, none⟩) hzw2).trans c2w2
  have y3 := fun y : ExtW w2 => (y.h.cell (p := ⟨w.heap.size, 3, none⟩) hzw2).trans c3w2
  clear c2w2 c3w2
  refine wp_region_ext (by kernel_rfl) (by kernel_rfl) ?_
  repeat (go_big_quiet_step (first | (go_at_call 27; refine (specDigits_any _ _ (by omega) (by omega)).mono ?_; rintro e w' ⟨rfl, hb⟩; exact ⟨rfl, ExtW.on _ hb⟩) | (go_at_call 28; refine (specFlagsText_any _ _ (by omega) (by omega)).mono ?_; rintro e w' ⟨rfl, hb⟩; exact ⟨rfl, ExtW.on _ hb⟩)))
  refine wpQuiet_nil ?_
  rintro wq ⟨⟨w3, hw3⟩, hxw3⟩
  have hyw3 : wq = w3 := hxw3
  subst hyw3
  clear hxw3
  have c2wq : wq.cell? ⟨w.heap.size, 2, none⟩ = some (.int .i64 u) := y2 ⟨wq, hw3⟩
  have c3wq : wq.cell? ⟨w.heap.size, 3, none⟩ = some (.int .i64 f) := y3 ⟨wq, hw3⟩
  clear y2 y3
  have hzwq : w.heap.size < wq.heap.size := by (have := hw3.size; omega)
  go_wp2_with fail
  all_goals (first | (exfalso; omega) | skip)
  go_ret
  exact ⟨by rw [HC.out]; rfl, bxt⟩
set_option maxRecDepth 100000 in
set_option maxHeartbeats 4000000 in
theorem specText_4 (n : Int) (tx : ByteArray) (w : World) (hp : ReplyP (⟨4, n, 0, 0, ⟨#[]⟩, tx⟩ : DReply)) (h1 : 0 ≤ n ∧ n ≤ 999999999) (ht : tx.size ≤ 40) :
    Calls Tryd.prog 13 #[.agg #[.int .i64 4, .int .i64 n, .int .i64 0, .int .i64 0, .string ⟨#[]⟩, .string tx]] w fun e w' => e = .returned (.string (txt (⟨4, n, 0, 0, ⟨#[]⟩, tx⟩ : DReply))) ∧ Ext w w' := by
  have sN := dgB_size n h1
  have sX := hexB_size tx ht
  have HP := Lib.hid hp
  clear hp
  have HC := Lib.hid (cat_4 n tx )
  go_enter Tryd.func13, Tryd.ntmps13
  go_wp2_with fail
  refine (specReplyOk_any (⟨4, n, 0, 0, ⟨#[]⟩, tx⟩ : DReply) _ (show (⟨#[]⟩ : ByteArray).size ≤ 9223372036854775807 by decide) (show (tx : ByteArray).size ≤ 9223372036854775807 by omega) true (Lib.hid ⟨fun _ => HP.out, fun _ => rfl⟩)).mono ?_
  rintro e w1 ⟨rfl, b1⟩
  have c0w1 : w1.cell? ⟨w.heap.size, 0, none⟩ = some (.int .i64 4) := (b1.cell (p := ⟨w.heap.size, 0, none⟩) (by simp)).trans (by simp [go_sem])
  have c1w1 : w1.cell? ⟨w.heap.size, 1, none⟩ = some (.int .i64 n) := (b1.cell (p := ⟨w.heap.size, 1, none⟩) (by simp)).trans (by simp [go_sem])
  have c5w1 : w1.cell? ⟨w.heap.size, 5, none⟩ = some (.string tx) := (b1.cell (p := ⟨w.heap.size, 5, none⟩) (by simp)).trans (by simp [go_sem])
  have hzw1 : w.heap.size < w1.heap.size := by (have := b1.size; simp at this; omega)
  go_wp2_with fail
  refine (specDigits_any n _ (by omega) (by omega)).mono ?_
  rintro e w2 ⟨rfl, b2⟩
  have c0w2 : w2.cell? ⟨w.heap.size, 0, none⟩ = some (.int .i64 4) := (b2.cell (p := ⟨w.heap.size, 0, none⟩) hzw1).trans c0w1
  have c5w2 : w2.cell? ⟨w.heap.size, 5, none⟩ = some (.string tx) := (b2.cell (p := ⟨w.heap.size, 5, none⟩) hzw1).trans c5w1
  have hzw2 : w.heap.size < w2.heap.size := by (have := b2.size; omega)
  by_cases he : tx = ⟨#[]⟩
  · have e1 : tx.toList.isEmpty = true := by (rw [str_empty]; exact decide_eq_true he)
    have HC := Lib.hid (cat_4e n tx he)
    clear he
    have q0 : ¬ 9223372036854775807 < 2 + (dgB n).size := by omega
    have q1 : ¬ 9223372036854775807 < 2 + (dgB n).size + 7 := by omega
    go_wp2_with fail
    all_goals (first | (exfalso; omega) | skip)
    go_ret
    exact ⟨by rw [HC.out]; rfl, bxt⟩
  · have e1 : tx.toList.isEmpty = false := by (rw [str_empty]; exact decide_eq_false he)
    have hh := hexL_of he
    have HH := Lib.hid hh
    clear hh he
    have q0 : ¬ 9223372036854775807 < 2 + (dgB n).size := by omega
    have q1 : ¬ 9223372036854775807 < 2 + (dgB n).size + 6 := by omega
    have q2 : ¬ 9223372036854775807 < 2 + (dgB n).size + 6 + (bs (hexL tx.data.toList)).size := by omega
    go_wp2_with fail
    all_goals (first | (exfalso; omega) | skip)
    refine (specHex_any tx _ (by omega)).mono ?_
    rintro e w3 ⟨rfl, b3⟩
    rw [← HH.out]
    go_wp2_with fail
    all_goals (first | (exfalso; omega) | skip)
    go_ret
    exact ⟨by rw [HC.out]; rfl, bxt⟩
set_option maxRecDepth 100000 in
set_option maxHeartbeats 4000000 in
theorem specText_5 (n u : Int) (nm : ByteArray) (w : World) (hp : ReplyP (⟨5, n, u, 0, nm, ⟨#[]⟩⟩ : DReply)) (h1 : 0 ≤ n ∧ n ≤ 999999999) (h2 : 0 ≤ u ∧ u ≤ 999999999) (hn : nm.size ≤ 12) :
    Calls Tryd.prog 13 #[.agg #[.int .i64 5, .int .i64 n, .int .i64 u, .int .i64 0, .string nm, .string ⟨#[]⟩]] w fun e w' => e = .returned (.string (txt (⟨5, n, u, 0, nm, ⟨#[]⟩⟩ : DReply))) ∧ Ext w w' := by
  have sN := dgB_size n h1
  have sU := dgB_size u h2
  have HP := Lib.hid hp
  clear hp
  have HC := Lib.hid (cat_5 n u nm )
  go_enter Tryd.func13, Tryd.ntmps13
  go_wp2_with fail
  refine (specReplyOk_any (⟨5, n, u, 0, nm, ⟨#[]⟩⟩ : DReply) _ (show (nm : ByteArray).size ≤ 9223372036854775807 by omega) (show (⟨#[]⟩ : ByteArray).size ≤ 9223372036854775807 by decide) true (Lib.hid ⟨fun _ => HP.out, fun _ => rfl⟩)).mono ?_
  rintro e w1 ⟨rfl, b1⟩
  have c0w1 : w1.cell? ⟨w.heap.size, 0, none⟩ = some (.int .i64 5) := (b1.cell (p := ⟨w.heap.size, 0, none⟩) (by simp)).trans (by simp [go_sem])
  have c1w1 : w1.cell? ⟨w.heap.size, 1, none⟩ = some (.int .i64 n) := (b1.cell (p := ⟨w.heap.size, 1, none⟩) (by simp)).trans (by simp [go_sem])
  have c2w1 : w1.cell? ⟨w.heap.size, 2, none⟩ = some (.int .i64 u) := (b1.cell (p := ⟨w.heap.size, 2, none⟩) (by simp)).trans (by simp [go_sem])
  have c4w1 : w1.cell? ⟨w.heap.size, 4, none⟩ = some (.string nm) := (b1.cell (p := ⟨w.heap.size, 4, none⟩) (by simp)).trans (by simp [go_sem])
  have hzw1 : w.heap.size < w1.heap.size := by (have := b1.size; simp at this; omega)
  go_wp2_with fail
  refine (specDigits_any n _ (by omega) (by omega)).mono ?_
  rintro e w2 ⟨rfl, b2⟩
  have c0w2 : w2.cell? ⟨w.heap.size, 0, none⟩ = some (.int .i64 5) := (b2.cell (p := ⟨w.heap.size, 0, none⟩) hzw1).trans c0w1
  have c2w2 : w2.cell? ⟨w.heap.size, 2, none⟩ = some (.int .i64 u) := (b2.cell (p := ⟨w.heap.size, 2, none⟩) hzw1).trans c2w1
  have c4w2 : w2.cell? ⟨w.heap.size, 4, none⟩ = some (.string nm) := (b2.cell (p := ⟨w.heap.size, 4, none⟩) hzw1).trans c4w1
  have hzw2 : w.heap.size < w2.heap.size := by (have := b2.size; omega)
  have q0 : ¬ 9223372036854775807 < 9 + nm.size := by omega
  have q1 : ¬ 9223372036854775807 < 9 + nm.size + 1 := by omega
  have q2 : ¬ 9223372036854775807 < 9 + nm.size + 1 + (dgB n).size := by omega
  have q3 : ¬ 9223372036854775807 < 9 + nm.size + 1 + (dgB n).size + 1 := by omega
  have q4 : ¬ 9223372036854775807 < 9 + nm.size + 1 + (dgB n).size + 1 + (dgB u).size := by omega
  go_wp2_with fail
  have y2 := fun y : ExtW w2 => (y.h.cell (p := ⟨w.heap.size, 2, none⟩) hzw2).trans c2w2
  have y4 := fun y : ExtW w2 => (y.h.cell (p := ⟨w.heap.size, 4, none⟩) hzw2).trans c4w2
  clear c2w2 c4w2
  refine wp_region_ext (by kernel_rfl) (by kernel_rfl) ?_
  repeat (go_big_quiet_step (first | (go_at_call 27; refine (specDigits_any _ _ (by omega) (by omega)).mono ?_; rintro e w' ⟨rfl, hb⟩; exact ⟨rfl, ExtW.on _ hb⟩)))
  refine wpQuiet_nil ?_
  rintro wq ⟨⟨w3, hw3⟩, hxw3⟩
  have hyw3 : wq = w3 := hxw3
  subst hyw3
  clear hxw3
  have c2wq : wq.cell? ⟨w.heap.size, 2, none⟩ = some (.int .i64 u) := y2 ⟨wq, hw3⟩
  have c4wq : wq.cell? ⟨w.heap.size, 4, none⟩ = some (.string nm) := y4 ⟨wq, hw3⟩
  clear y2 y4
  have hzwq : w.heap.size < wq.heap.size := by (have := hw3.size; omega)
  go_wp2_with fail
  all_goals (first | (exfalso; omega) | skip)
  go_ret
  exact ⟨by rw [HC.out]; rfl, bxt⟩
set_option maxRecDepth 100000 in
set_option maxHeartbeats 4000000 in
theorem specText_6 (nm : ByteArray) (w : World) (hp : ReplyP (⟨6, 0, 0, 0, nm, ⟨#[]⟩⟩ : DReply)) (hn : nm.size ≤ 12) :
    Calls Tryd.prog 13 #[.agg #[.int .i64 6, .int .i64 0, .int .i64 0, .int .i64 0, .string nm, .string ⟨#[]⟩]] w fun e w' => e = .returned (.string (txt (⟨6, 0, 0, 0, nm, ⟨#[]⟩⟩ : DReply))) ∧ Ext w w' := by
  have HP := Lib.hid hp
  clear hp
  have HC := Lib.hid (cat_6 nm )
  go_enter Tryd.func13, Tryd.ntmps13
  go_wp2_with fail
  refine (specReplyOk_any (⟨6, 0, 0, 0, nm, ⟨#[]⟩⟩ : DReply) _ (show (nm : ByteArray).size ≤ 9223372036854775807 by omega) (show (⟨#[]⟩ : ByteArray).size ≤ 9223372036854775807 by decide) true (Lib.hid ⟨fun _ => HP.out, fun _ => rfl⟩)).mono ?_
  rintro e w1 ⟨rfl, b1⟩
  have c0w1 : w1.cell? ⟨w.heap.size, 0, none⟩ = some (.int .i64 6) := (b1.cell (p := ⟨w.heap.size, 0, none⟩) (by simp)).trans (by simp [go_sem])
  have c1w1 : w1.cell? ⟨w.heap.size, 1, none⟩ = some (.int .i64 0) := (b1.cell (p := ⟨w.heap.size, 1, none⟩) (by simp)).trans (by simp [go_sem])
  have c4w1 : w1.cell? ⟨w.heap.size, 4, none⟩ = some (.string nm) := (b1.cell (p := ⟨w.heap.size, 4, none⟩) (by simp)).trans (by simp [go_sem])
  have hzw1 : w.heap.size < w1.heap.size := by (have := b1.size; simp at this; omega)
  go_wp2_with fail
  refine (specDigits_any 0 _ (by omega) (by omega)).mono ?_
  rintro e w2 ⟨rfl, b2⟩
  have c0w2 : w2.cell? ⟨w.heap.size, 0, none⟩ = some (.int .i64 6) := (b2.cell (p := ⟨w.heap.size, 0, none⟩) hzw1).trans c0w1
  have c4w2 : w2.cell? ⟨w.heap.size, 4, none⟩ = some (.string nm) := (b2.cell (p := ⟨w.heap.size, 4, none⟩) hzw1).trans c4w1
  have hzw2 : w.heap.size < w2.heap.size := by (have := b2.size; omega)
  have q0 : ¬ 9223372036854775807 < 7 + nm.size := by omega
  go_wp2_with fail
  all_goals (first | (exfalso; omega) | skip)
  go_ret
  exact ⟨by rw [HC.out]; rfl, bxt⟩
set_option maxRecDepth 100000 in
set_option maxHeartbeats 4000000 in
theorem specText_7 (nm : ByteArray) (w : World) (hp : ReplyP (⟨7, 0, 0, 0, nm, ⟨#[]⟩⟩ : DReply)) (hn : nm.size ≤ 12) :
    Calls Tryd.prog 13 #[.agg #[.int .i64 7, .int .i64 0, .int .i64 0, .int .i64 0, .string nm, .string ⟨#[]⟩]] w fun e w' => e = .returned (.string (txt (⟨7, 0, 0, 0, nm, ⟨#[]⟩⟩ : DReply))) ∧ Ext w w' := by
  have HP := Lib.hid hp
  clear hp
  have HC := Lib.hid (cat_7 nm )
  go_enter Tryd.func13, Tryd.ntmps13
  go_wp2_with fail
  refine (specReplyOk_any (⟨7, 0, 0, 0, nm, ⟨#[]⟩⟩ : DReply) _ (show (nm : ByteArray).size ≤ 9223372036854775807 by omega) (show (⟨#[]⟩ : ByteArray).size ≤ 9223372036854775807 by decide) true (Lib.hid ⟨fun _ => HP.out, fun _ => rfl⟩)).mono ?_
  rintro e w1 ⟨rfl, b1⟩
  have c0w1 : w1.cell? ⟨w.heap.size, 0, none⟩ = some (.int .i64 7) := (b1.cell (p := ⟨w.heap.size, 0, none⟩) (by simp)).trans (by simp [go_sem])
  have c1w1 : w1.cell? ⟨w.heap.size, 1, none⟩ = some (.int .i64 0) := (b1.cell (p := ⟨w.heap.size, 1, none⟩) (by simp)).trans (by simp [go_sem])
  have c4w1 : w1.cell? ⟨w.heap.size, 4, none⟩ = some (.string nm) := (b1.cell (p := ⟨w.heap.size, 4, none⟩) (by simp)).trans (by simp [go_sem])
  have hzw1 : w.heap.size < w1.heap.size := by (have := b1.size; simp at this; omega)
  go_wp2_with fail
  refine (specDigits_any 0 _ (by omega) (by omega)).mono ?_
  rintro e w2 ⟨rfl, b2⟩
  have c0w2 : w2.cell? ⟨w.heap.size, 0, none⟩ = some (.int .i64 7) := (b2.cell (p := ⟨w.heap.size, 0, none⟩) hzw1).trans c0w1
  have c4w2 : w2.cell? ⟨w.heap.size, 4, none⟩ = some (.string nm) := (b2.cell (p := ⟨w.heap.size, 4, none⟩) hzw1).trans c4w1
  have hzw2 : w.heap.size < w2.heap.size := by (have := b2.size; omega)
  have q0 : ¬ 9223372036854775807 < 7 + nm.size := by omega
  go_wp2_with fail
  all_goals (first | (exfalso; omega) | skip)
  go_ret
  exact ⟨by rw [HC.out]; rfl, bxt⟩
set_option maxRecDepth 100000 in
set_option maxHeartbeats 4000000 in
theorem specText_8 (n : Int) (nm : ByteArray) (w : World) (hp : ReplyP (⟨8, n, 0, 0, nm, ⟨#[]⟩⟩ : DReply)) (h1 : 0 ≤ n ∧ n ≤ 999999999) (hn : nm.size ≤ 12) :
    Calls Tryd.prog 13 #[.agg #[.int .i64 8, .int .i64 n, .int .i64 0, .int .i64 0, .string nm, .string ⟨#[]⟩]] w fun e w' => e = .returned (.string (txt (⟨8, n, 0, 0, nm, ⟨#[]⟩⟩ : DReply))) ∧ Ext w w' := by
  have sN := dgB_size n h1
  have HP := Lib.hid hp
  clear hp
  have HC := Lib.hid (cat_8 n nm )
  go_enter Tryd.func13, Tryd.ntmps13
  go_wp2_with fail
  refine (specReplyOk_any (⟨8, n, 0, 0, nm, ⟨#[]⟩⟩ : DReply) _ (show (nm : ByteArray).size ≤ 9223372036854775807 by omega) (show (⟨#[]⟩ : ByteArray).size ≤ 9223372036854775807 by decide) true (Lib.hid ⟨fun _ => HP.out, fun _ => rfl⟩)).mono ?_
  rintro e w1 ⟨rfl, b1⟩
  have c0w1 : w1.cell? ⟨w.heap.size, 0, none⟩ = some (.int .i64 8) := (b1.cell (p := ⟨w.heap.size, 0, none⟩) (by simp)).trans (by simp [go_sem])
  have c1w1 : w1.cell? ⟨w.heap.size, 1, none⟩ = some (.int .i64 n) := (b1.cell (p := ⟨w.heap.size, 1, none⟩) (by simp)).trans (by simp [go_sem])
  have c4w1 : w1.cell? ⟨w.heap.size, 4, none⟩ = some (.string nm) := (b1.cell (p := ⟨w.heap.size, 4, none⟩) (by simp)).trans (by simp [go_sem])
  have hzw1 : w.heap.size < w1.heap.size := by (have := b1.size; simp at this; omega)
  go_wp2_with fail
  refine (specDigits_any n _ (by omega) (by omega)).mono ?_
  rintro e w2 ⟨rfl, b2⟩
  have c0w2 : w2.cell? ⟨w.heap.size, 0, none⟩ = some (.int .i64 8) := (b2.cell (p := ⟨w.heap.size, 0, none⟩) hzw1).trans c0w1
  have c4w2 : w2.cell? ⟨w.heap.size, 4, none⟩ = some (.string nm) := (b2.cell (p := ⟨w.heap.size, 4, none⟩) hzw1).trans c4w1
  have hzw2 : w.heap.size < w2.heap.size := by (have := b2.size; omega)
  have q0 : ¬ 9223372036854775807 < 11 + nm.size := by omega
  have q1 : ¬ 9223372036854775807 < 11 + nm.size + 1 := by omega
  have q2 : ¬ 9223372036854775807 < 11 + nm.size + 1 + (dgB n).size := by omega
  go_wp2_with fail
  all_goals (first | (exfalso; omega) | skip)
  go_ret
  exact ⟨by rw [HC.out]; rfl, bxt⟩
set_option maxRecDepth 100000 in
set_option maxHeartbeats 4000000 in
theorem specText_9 (w : World) (hp : ReplyP (⟨9, 0, 0, 0, ⟨#[]⟩, ⟨#[]⟩⟩ : DReply))  :
    Calls Tryd.prog 13 #[.agg #[.int .i64 9, .int .i64 0, .int .i64 0, .int .i64 0, .string ⟨#[]⟩, .string ⟨#[]⟩]] w fun e w' => e = .returned (.string (txt (⟨9, 0, 0, 0, ⟨#[]⟩, ⟨#[]⟩⟩ : DReply))) ∧ Ext w w' := by
  have HP := Lib.hid hp
  clear hp
  have HC := Lib.hid (cat_9 )
  go_enter Tryd.func13, Tryd.ntmps13
  go_wp2_with fail
  refine (specReplyOk_any (⟨9, 0, 0, 0, ⟨#[]⟩, ⟨#[]⟩⟩ : DReply) _ (show (⟨#[]⟩ : ByteArray).size ≤ 9223372036854775807 by decide) (show (⟨#[]⟩ : ByteArray).size ≤ 9223372036854775807 by decide) true (Lib.hid ⟨fun _ => HP.out, fun _ => rfl⟩)).mono ?_
  rintro e w1 ⟨rfl, b1⟩
  have c0w1 : w1.cell? ⟨w.heap.size, 0, none⟩ = some (.int .i64 9) := (b1.cell (p := ⟨w.heap.size, 0, none⟩) (by simp)).trans (by simp [go_sem])
  have c1w1 : w1.cell? ⟨w.heap.size, 1, none⟩ = some (.int .i64 0) := (b1.cell (p := ⟨w.heap.size, 1, none⟩) (by simp)).trans (by simp [go_sem])
  have hzw1 : w.heap.size < w1.heap.size := by (have := b1.size; simp at this; omega)
  go_wp2_with fail
  refine (specDigits_any 0 _ (by omega) (by omega)).mono ?_
  rintro e w2 ⟨rfl, b2⟩
  have c0w2 : w2.cell? ⟨w.heap.size, 0, none⟩ = some (.int .i64 9) := (b2.cell (p := ⟨w.heap.size, 0, none⟩) hzw1).trans c0w1
  have hzw2 : w.heap.size < w2.heap.size := by (have := b2.size; omega)
  go_wp2_with fail
  refine (l14Word_any 9 _ (bs wCLOSED) (Or.inl ⟨rfl, rfl⟩)).mono ?_
  rintro e w3 ⟨rfl, rfl⟩
  go_wp2_with fail
  go_ret
  exact ⟨by rw [HC.out]; first | rfl | decide, bxt⟩
set_option maxRecDepth 100000 in
set_option maxHeartbeats 4000000 in
theorem specText_10 (w : World) (hp : ReplyP (⟨10, 0, 0, 0, ⟨#[]⟩, ⟨#[]⟩⟩ : DReply))  :
    Calls Tryd.prog 13 #[.agg #[.int .i64 10, .int .i64 0, .int .i64 0, .int .i64 0, .string ⟨#[]⟩, .string ⟨#[]⟩]] w fun e w' => e = .returned (.string (txt (⟨10, 0, 0, 0, ⟨#[]⟩, ⟨#[]⟩⟩ : DReply))) ∧ Ext w w' := by
  have HP := Lib.hid hp
  clear hp
  have HC := Lib.hid (cat_10 )
  go_enter Tryd.func13, Tryd.ntmps13
  go_wp2_with fail
  refine (specReplyOk_any (⟨10, 0, 0, 0, ⟨#[]⟩, ⟨#[]⟩⟩ : DReply) _ (show (⟨#[]⟩ : ByteArray).size ≤ 9223372036854775807 by decide) (show (⟨#[]⟩ : ByteArray).size ≤ 9223372036854775807 by decide) true (Lib.hid ⟨fun _ => HP.out, fun _ => rfl⟩)).mono ?_
  rintro e w1 ⟨rfl, b1⟩
  have c0w1 : w1.cell? ⟨w.heap.size, 0, none⟩ = some (.int .i64 10) := (b1.cell (p := ⟨w.heap.size, 0, none⟩) (by simp)).trans (by simp [go_sem])
  have c1w1 : w1.cell? ⟨w.heap.size, 1, none⟩ = some (.int .i64 0) := (b1.cell (p := ⟨w.heap.size, 1, none⟩) (by simp)).trans (by simp [go_sem])
  have hzw1 : w.heap.size < w1.heap.size := by (have := b1.size; simp at this; omega)
  go_wp2_with fail
  refine (specDigits_any 0 _ (by omega) (by omega)).mono ?_
  rintro e w2 ⟨rfl, b2⟩
  have c0w2 : w2.cell? ⟨w.heap.size, 0, none⟩ = some (.int .i64 10) := (b2.cell (p := ⟨w.heap.size, 0, none⟩) hzw1).trans c0w1
  have hzw2 : w.heap.size < w2.heap.size := by (have := b2.size; omega)
  go_wp2_with fail
  refine (l14Word_any 10 _ (bs wOVERFLOW) (Or.inr (Or.inl ⟨rfl, rfl⟩))).mono ?_
  rintro e w3 ⟨rfl, rfl⟩
  go_wp2_with fail
  go_ret
  exact ⟨by rw [HC.out]; first | rfl | decide, bxt⟩
set_option maxRecDepth 100000 in
set_option maxHeartbeats 4000000 in
theorem specText_11 (w : World) (hp : ReplyP (⟨11, 0, 0, 0, ⟨#[]⟩, ⟨#[]⟩⟩ : DReply))  :
    Calls Tryd.prog 13 #[.agg #[.int .i64 11, .int .i64 0, .int .i64 0, .int .i64 0, .string ⟨#[]⟩, .string ⟨#[]⟩]] w fun e w' => e = .returned (.string (txt (⟨11, 0, 0, 0, ⟨#[]⟩, ⟨#[]⟩⟩ : DReply))) ∧ Ext w w' := by
  have HP := Lib.hid hp
  clear hp
  have HC := Lib.hid (cat_11 )
  go_enter Tryd.func13, Tryd.ntmps13
  go_wp2_with fail
  refine (specReplyOk_any (⟨11, 0, 0, 0, ⟨#[]⟩, ⟨#[]⟩⟩ : DReply) _ (show (⟨#[]⟩ : ByteArray).size ≤ 9223372036854775807 by decide) (show (⟨#[]⟩ : ByteArray).size ≤ 9223372036854775807 by decide) true (Lib.hid ⟨fun _ => HP.out, fun _ => rfl⟩)).mono ?_
  rintro e w1 ⟨rfl, b1⟩
  have c0w1 : w1.cell? ⟨w.heap.size, 0, none⟩ = some (.int .i64 11) := (b1.cell (p := ⟨w.heap.size, 0, none⟩) (by simp)).trans (by simp [go_sem])
  have c1w1 : w1.cell? ⟨w.heap.size, 1, none⟩ = some (.int .i64 0) := (b1.cell (p := ⟨w.heap.size, 1, none⟩) (by simp)).trans (by simp [go_sem])
  have hzw1 : w.heap.size < w1.heap.size := by (have := b1.size; simp at this; omega)
  go_wp2_with fail
  refine (specDigits_any 0 _ (by omega) (by omega)).mono ?_
  rintro e w2 ⟨rfl, b2⟩
  have c0w2 : w2.cell? ⟨w.heap.size, 0, none⟩ = some (.int .i64 11) := (b2.cell (p := ⟨w.heap.size, 0, none⟩) hzw1).trans c0w1
  have hzw2 : w.heap.size < w2.heap.size := by (have := b2.size; omega)
  go_wp2_with fail
  refine (l14Word_any 11 _ (bs wBYE) (Or.inr (Or.inr (Or.inl ⟨rfl, rfl⟩)))).mono ?_
  rintro e w3 ⟨rfl, rfl⟩
  go_wp2_with fail
  go_ret
  exact ⟨by rw [HC.out]; first | rfl | decide, bxt⟩
set_option maxRecDepth 100000 in
set_option maxHeartbeats 4000000 in
theorem specText_12 (nm : ByteArray) (w : World) (hp : ReplyP (⟨12, 0, 0, 0, nm, ⟨#[]⟩⟩ : DReply)) (hn : nm.size ≤ 12) :
    Calls Tryd.prog 13 #[.agg #[.int .i64 12, .int .i64 0, .int .i64 0, .int .i64 0, .string nm, .string ⟨#[]⟩]] w fun e w' => e = .returned (.string (txt (⟨12, 0, 0, 0, nm, ⟨#[]⟩⟩ : DReply))) ∧ Ext w w' := by
  have HP := Lib.hid hp
  clear hp
  have HC := Lib.hid (cat_12 nm )
  go_enter Tryd.func13, Tryd.ntmps13
  go_wp2_with fail
  refine (specReplyOk_any (⟨12, 0, 0, 0, nm, ⟨#[]⟩⟩ : DReply) _ (show (nm : ByteArray).size ≤ 9223372036854775807 by omega) (show (⟨#[]⟩ : ByteArray).size ≤ 9223372036854775807 by decide) true (Lib.hid ⟨fun _ => HP.out, fun _ => rfl⟩)).mono ?_
  rintro e w1 ⟨rfl, b1⟩
  have c0w1 : w1.cell? ⟨w.heap.size, 0, none⟩ = some (.int .i64 12) := (b1.cell (p := ⟨w.heap.size, 0, none⟩) (by simp)).trans (by simp [go_sem])
  have c1w1 : w1.cell? ⟨w.heap.size, 1, none⟩ = some (.int .i64 0) := (b1.cell (p := ⟨w.heap.size, 1, none⟩) (by simp)).trans (by simp [go_sem])
  have c4w1 : w1.cell? ⟨w.heap.size, 4, none⟩ = some (.string nm) := (b1.cell (p := ⟨w.heap.size, 4, none⟩) (by simp)).trans (by simp [go_sem])
  have hzw1 : w.heap.size < w1.heap.size := by (have := b1.size; simp at this; omega)
  go_wp2_with fail
  refine (specDigits_any 0 _ (by omega) (by omega)).mono ?_
  rintro e w2 ⟨rfl, b2⟩
  have c0w2 : w2.cell? ⟨w.heap.size, 0, none⟩ = some (.int .i64 12) := (b2.cell (p := ⟨w.heap.size, 0, none⟩) hzw1).trans c0w1
  have c4w2 : w2.cell? ⟨w.heap.size, 4, none⟩ = some (.string nm) := (b2.cell (p := ⟨w.heap.size, 4, none⟩) hzw1).trans c4w1
  have hzw2 : w.heap.size < w2.heap.size := by (have := b2.size; omega)
  have q0 : ¬ 9223372036854775807 < nm.size + 3 := by omega
  go_wp2_with fail
  all_goals (first | (exfalso; omega) | skip)
  go_ret
  exact ⟨by rw [HC.out]; rfl, bxt⟩
set_option maxRecDepth 100000 in
set_option maxHeartbeats 4000000 in
theorem specText_13 (nm : ByteArray) (w : World) (hp : ReplyP (⟨13, 0, 0, 0, nm, ⟨#[]⟩⟩ : DReply)) (hn : nm.size ≤ 12) :
    Calls Tryd.prog 13 #[.agg #[.int .i64 13, .int .i64 0, .int .i64 0, .int .i64 0, .string nm, .string ⟨#[]⟩]] w fun e w' => e = .returned (.string (txt (⟨13, 0, 0, 0, nm, ⟨#[]⟩⟩ : DReply))) ∧ Ext w w' := by
  have HP := Lib.hid hp
  clear hp
  have HC := Lib.hid (cat_13 nm )
  go_enter Tryd.func13, Tryd.ntmps13
  go_wp2_with fail
  refine (specReplyOk_any (⟨13, 0, 0, 0, nm, ⟨#[]⟩⟩ : DReply) _ (show (nm : ByteArray).size ≤ 9223372036854775807 by omega) (show (⟨#[]⟩ : ByteArray).size ≤ 9223372036854775807 by decide) true (Lib.hid ⟨fun _ => HP.out, fun _ => rfl⟩)).mono ?_
  rintro e w1 ⟨rfl, b1⟩
  have c0w1 : w1.cell? ⟨w.heap.size, 0, none⟩ = some (.int .i64 13) := (b1.cell (p := ⟨w.heap.size, 0, none⟩) (by simp)).trans (by simp [go_sem])
  have c1w1 : w1.cell? ⟨w.heap.size, 1, none⟩ = some (.int .i64 0) := (b1.cell (p := ⟨w.heap.size, 1, none⟩) (by simp)).trans (by simp [go_sem])
  have c4w1 : w1.cell? ⟨w.heap.size, 4, none⟩ = some (.string nm) := (b1.cell (p := ⟨w.heap.size, 4, none⟩) (by simp)).trans (by simp [go_sem])
  have hzw1 : w.heap.size < w1.heap.size := by (have := b1.size; simp at this; omega)
  go_wp2_with fail
  refine (specDigits_any 0 _ (by omega) (by omega)).mono ?_
  rintro e w2 ⟨rfl, b2⟩
  have c0w2 : w2.cell? ⟨w.heap.size, 0, none⟩ = some (.int .i64 13) := (b2.cell (p := ⟨w.heap.size, 0, none⟩) hzw1).trans c0w1
  have c4w2 : w2.cell? ⟨w.heap.size, 4, none⟩ = some (.string nm) := (b2.cell (p := ⟨w.heap.size, 4, none⟩) hzw1).trans c4w1
  have hzw2 : w.heap.size < w2.heap.size := by (have := b2.size; omega)
  have q0 : ¬ 9223372036854775807 < nm.size + 3 := by omega
  go_wp2_with fail
  all_goals (first | (exfalso; omega) | skip)
  go_ret
  exact ⟨by rw [HC.out]; rfl, bxt⟩
set_option maxRecDepth 100000 in
set_option maxHeartbeats 4000000 in
theorem specText_14 (nm : ByteArray) (w : World) (hp : ReplyP (⟨14, 0, 0, 0, nm, ⟨#[]⟩⟩ : DReply)) (hn : nm.size ≤ 12) :
    Calls Tryd.prog 13 #[.agg #[.int .i64 14, .int .i64 0, .int .i64 0, .int .i64 0, .string nm, .string ⟨#[]⟩]] w fun e w' => e = .returned (.string (txt (⟨14, 0, 0, 0, nm, ⟨#[]⟩⟩ : DReply))) ∧ Ext w w' := by
  have HP := Lib.hid hp
  clear hp
  have HC := Lib.hid (cat_14 nm )
  go_enter Tryd.func13, Tryd.ntmps13
  go_wp2_with fail
  refine (specReplyOk_any (⟨14, 0, 0, 0, nm, ⟨#[]⟩⟩ : DReply) _ (show (nm : ByteArray).size ≤ 9223372036854775807 by omega) (show (⟨#[]⟩ : ByteArray).size ≤ 9223372036854775807 by decide) true (Lib.hid ⟨fun _ => HP.out, fun _ => rfl⟩)).mono ?_
  rintro e w1 ⟨rfl, b1⟩
  have c0w1 : w1.cell? ⟨w.heap.size, 0, none⟩ = some (.int .i64 14) := (b1.cell (p := ⟨w.heap.size, 0, none⟩) (by simp)).trans (by simp [go_sem])
  have c1w1 : w1.cell? ⟨w.heap.size, 1, none⟩ = some (.int .i64 0) := (b1.cell (p := ⟨w.heap.size, 1, none⟩) (by simp)).trans (by simp [go_sem])
  have c4w1 : w1.cell? ⟨w.heap.size, 4, none⟩ = some (.string nm) := (b1.cell (p := ⟨w.heap.size, 4, none⟩) (by simp)).trans (by simp [go_sem])
  have hzw1 : w.heap.size < w1.heap.size := by (have := b1.size; simp at this; omega)
  go_wp2_with fail
  refine (specDigits_any 0 _ (by omega) (by omega)).mono ?_
  rintro e w2 ⟨rfl, b2⟩
  have c0w2 : w2.cell? ⟨w.heap.size, 0, none⟩ = some (.int .i64 14) := (b2.cell (p := ⟨w.heap.size, 0, none⟩) hzw1).trans c0w1
  have c4w2 : w2.cell? ⟨w.heap.size, 4, none⟩ = some (.string nm) := (b2.cell (p := ⟨w.heap.size, 4, none⟩) hzw1).trans c4w1
  have hzw2 : w.heap.size < w2.heap.size := by (have := b2.size; omega)
  have q0 : ¬ 9223372036854775807 < nm.size + 4 := by omega
  go_wp2_with fail
  all_goals (first | (exfalso; omega) | skip)
  go_ret
  exact ⟨by rw [HC.out]; rfl, bxt⟩
set_option maxRecDepth 100000 in
set_option maxHeartbeats 4000000 in
theorem specText_15 (w : World) (hp : ReplyP (⟨15, 0, 0, 0, ⟨#[]⟩, ⟨#[]⟩⟩ : DReply))  :
    Calls Tryd.prog 13 #[.agg #[.int .i64 15, .int .i64 0, .int .i64 0, .int .i64 0, .string ⟨#[]⟩, .string ⟨#[]⟩]] w fun e w' => e = .returned (.string (txt (⟨15, 0, 0, 0, ⟨#[]⟩, ⟨#[]⟩⟩ : DReply))) ∧ Ext w w' := by
  have HP := Lib.hid hp
  clear hp
  have HC := Lib.hid (cat_15 )
  go_enter Tryd.func13, Tryd.ntmps13
  go_wp2_with fail
  refine (specReplyOk_any (⟨15, 0, 0, 0, ⟨#[]⟩, ⟨#[]⟩⟩ : DReply) _ (show (⟨#[]⟩ : ByteArray).size ≤ 9223372036854775807 by decide) (show (⟨#[]⟩ : ByteArray).size ≤ 9223372036854775807 by decide) true (Lib.hid ⟨fun _ => HP.out, fun _ => rfl⟩)).mono ?_
  rintro e w1 ⟨rfl, b1⟩
  have c0w1 : w1.cell? ⟨w.heap.size, 0, none⟩ = some (.int .i64 15) := (b1.cell (p := ⟨w.heap.size, 0, none⟩) (by simp)).trans (by simp [go_sem])
  have c1w1 : w1.cell? ⟨w.heap.size, 1, none⟩ = some (.int .i64 0) := (b1.cell (p := ⟨w.heap.size, 1, none⟩) (by simp)).trans (by simp [go_sem])
  have hzw1 : w.heap.size < w1.heap.size := by (have := b1.size; simp at this; omega)
  go_wp2_with fail
  refine (specDigits_any 0 _ (by omega) (by omega)).mono ?_
  rintro e w2 ⟨rfl, b2⟩
  have c0w2 : w2.cell? ⟨w.heap.size, 0, none⟩ = some (.int .i64 15) := (b2.cell (p := ⟨w.heap.size, 0, none⟩) hzw1).trans c0w1
  have hzw2 : w.heap.size < w2.heap.size := by (have := b2.size; omega)
  go_wp2_with fail
  all_goals (first | (exfalso; omega) | skip)
  go_ret
  exact ⟨by rw [HC.out]; rfl, bxt⟩
set_option maxRecDepth 100000 in
set_option maxHeartbeats 4000000 in
theorem specText_16 (w : World) (hp : ReplyP (⟨16, 0, 0, 0, ⟨#[]⟩, ⟨#[]⟩⟩ : DReply))  :
    Calls Tryd.prog 13 #[.agg #[.int .i64 16, .int .i64 0, .int .i64 0, .int .i64 0, .string ⟨#[]⟩, .string ⟨#[]⟩]] w fun e w' => e = .returned (.string (txt (⟨16, 0, 0, 0, ⟨#[]⟩, ⟨#[]⟩⟩ : DReply))) ∧ Ext w w' := by
  have HP := Lib.hid hp
  clear hp
  have HC := Lib.hid (cat_16 )
  go_enter Tryd.func13, Tryd.ntmps13
  go_wp2_with fail
  refine (specReplyOk_any (⟨16, 0, 0, 0, ⟨#[]⟩, ⟨#[]⟩⟩ : DReply) _ (show (⟨#[]⟩ : ByteArray).size ≤ 9223372036854775807 by decide) (show (⟨#[]⟩ : ByteArray).size ≤ 9223372036854775807 by decide) true (Lib.hid ⟨fun _ => HP.out, fun _ => rfl⟩)).mono ?_
  rintro e w1 ⟨rfl, b1⟩
  have c0w1 : w1.cell? ⟨w.heap.size, 0, none⟩ = some (.int .i64 16) := (b1.cell (p := ⟨w.heap.size, 0, none⟩) (by simp)).trans (by simp [go_sem])
  have c1w1 : w1.cell? ⟨w.heap.size, 1, none⟩ = some (.int .i64 0) := (b1.cell (p := ⟨w.heap.size, 1, none⟩) (by simp)).trans (by simp [go_sem])
  have hzw1 : w.heap.size < w1.heap.size := by (have := b1.size; simp at this; omega)
  go_wp2_with fail
  refine (specDigits_any 0 _ (by omega) (by omega)).mono ?_
  rintro e w2 ⟨rfl, b2⟩
  have c0w2 : w2.cell? ⟨w.heap.size, 0, none⟩ = some (.int .i64 16) := (b2.cell (p := ⟨w.heap.size, 0, none⟩) hzw1).trans c0w1
  have hzw2 : w.heap.size < w2.heap.size := by (have := b2.size; omega)
  go_wp2_with fail
  refine (l14Word_any 16 _ (bs wHELLO) (Or.inr (Or.inr (Or.inr ⟨rfl, rfl⟩)))).mono ?_
  rintro e w3 ⟨rfl, rfl⟩
  go_wp2_with fail
  go_ret
  exact ⟨by rw [HC.out]; first | rfl | decide, bxt⟩
theorem tag_size {nm : ByteArray} (h : TagP nm ∨ nm = ⟨#[42]⟩) : nm.size ≤ 12 := by
  have h1 := tag_len h
  have h2 : nm.data.toList.length = nm.size := by simp
  omega
set_option maxHeartbeats 1000000 in
theorem specReplyText_any (a : DReply) (w : World) (g1 : a.name.size ≤ 9223372036854775807) (g2 : a.text.size ≤ 9223372036854775807) (r : Bool) (Hr : Hid (Tells r (ReplyP a))) :
    Calls Tryd.prog 13 #[.agg #[.int .i64 a.kind, .int .i64 a.n, .int .i64 a.uid, .int .i64 a.flags, .string a.name, .string a.text]] w fun e w' => e = .returned (.string (txtOf r a)) ∧ Ext w w' := by
  cases r
  · go_enter Tryd.func13, Tryd.ntmps13
    go_wp2_with fail
    refine (specReplyOk_any a _ g1 g2 false Hr).mono ?_
    rintro e w1 ⟨rfl, b1⟩
    go_wp2_with fail
    go_ret
    exact ⟨rfl, bxt⟩
  · have hp : ReplyP a := Hr.out.1 rfl
    have hp0 := hp
    obtain ⟨k, n, u, f, nm, tx⟩ := a
    show Calls _ _ _ w fun e w' => e = .returned (.string (txt _)) ∧ Ext w w'
    unfold ReplyP ReplyK at hp
    simp only at hp
    rcases hp with ⟨rfl, h1, rfl, rfl, rfl, rfl⟩ | ⟨rfl, h1, rfl, rfl, rfl, rfl⟩ | ⟨rfl, h1, h2, h3, rfl, rfl⟩ | ⟨rfl, h1, h2, rfl, rfl, rfl⟩ | ⟨rfl, h1, h2, h3, rfl, rfl⟩ | ⟨rfl, h1, rfl, rfl, rfl, rfl⟩ | ⟨rfl, h1, rfl, rfl, rfl, rfl⟩ | ⟨rfl, h1, h2, rfl, rfl, rfl⟩ | ⟨rfl, rfl, rfl, rfl, rfl, rfl⟩ | ⟨rfl, rfl, rfl, rfl, rfl, rfl⟩ | ⟨rfl, rfl, rfl, rfl, rfl, rfl⟩ | ⟨rfl, h1, rfl, rfl, rfl, rfl⟩ | ⟨rfl, h1, rfl, rfl, rfl, rfl⟩ | ⟨rfl, h1, rfl, rfl, rfl, rfl⟩ | ⟨rfl, rfl, rfl, rfl, rfl, rfl⟩ | ⟨rfl, rfl, rfl, rfl, rfl, rfl⟩
    · exact specText_1 n w hp0 ⟨by omega, by omega⟩
    · exact specText_2 n w hp0 ⟨by omega, by omega⟩
    · exact specText_3 n u f w hp0 ⟨by omega, by omega⟩ ⟨by omega, by omega⟩ h3
    · exact specText_4 n tx w hp0 ⟨by omega, by omega⟩ h2
    · exact specText_5 n u nm w hp0 ⟨by omega, by omega⟩ ⟨by omega, by omega⟩ h3.2.2
    · exact specText_6 nm w hp0 h1.2.2
    · exact specText_7 nm w hp0 h1.2.2
    · exact specText_8 n nm w hp0 ⟨by omega, by omega⟩ h2.2.2
    · exact specText_9 w hp0 
    · exact specText_10 w hp0 
    · exact specText_11 w hp0 
    · exact specText_12 nm w hp0 (tag_size h1)
    · exact specText_13 nm w hp0 (tag_size h1)
    · exact specText_14 nm w hp0 (tag_size h1)
    · exact specText_15 w hp0 
    · exact specText_16 w hp0 
end Go.Proofs.YtadjlfcdjkikgaaDoor

namespace Go.Proofs.YtadjlfcdjkikgaaDoor
open Go.RowKit
set_option linter.unusedVariables false
set_option linter.unusedSimpArgs false

end Go.Proofs.YtadjlfcdjkikgaaDoor

namespace Go.Proofs.YtadjlfcdjkikgaaDoor
open Go.RowKit
set_option linter.unusedVariables false
set_option linter.unusedSimpArgs false

end Go.Proofs.YtadjlfcdjkikgaaDoor

namespace Go.Proofs.YtadjlfcdjkikgaaDoor
open Go.RowKit
set_option linter.unusedVariables false
set_option linter.unusedSimpArgs false

open Classical in
/-- the text of a reply, whatever it is -/
noncomputable def tx1 (a : DReply) : List UInt8 := if ReplyP a then txA a else []
noncomputable def ltL (rs : List DReply) : List UInt8 := rs.flatMap fun a => tx1 a ++ [13, 10]
theorem tx1_of {a : DReply} {r : Bool} (h : Tells r (ReplyP a)) : txtOf r a = bs (tx1 a) := by
  unfold tx1
  cases r with
  | true => rw [if_pos (h.1 rfl)]; rfl
  | false => rw [if_neg (fun hp => by have := h.2 hp; cases this)]; rfl
theorem tx1_len (a : DReply) : (tx1 a).length ≤ 200 := by
  unfold tx1
  split
  · rename_i h; exact txt_len h
  · simp
theorem ltL_len (rs : List DReply) : (ltL rs).length ≤ 202 * rs.length := by
  induction rs with
  | nil => simp [ltL]
  | cons a t ih =>
    have := tx1_len a
    simp only [ltL, List.flatMap_cons, List.length_append, List.length_cons, List.length_nil] at ih ⊢
    omega
theorem ltL_take {rs : List DReply} {k : Nat} (hk : k < rs.length) : ltL (rs.take (k + 1)) = ltL (rs.take k) ++ tx1 rs[k] ++ [13, 10] := by
  unfold ltL
  rw [List.take_add_one, List.getElem?_eq_getElem hk, List.flatMap_append]
  simp [Option.toList]
theorem boolR (a : DReply) : ∃ r : Bool, Tells r (ReplyP a) := boolOf (ReplyP a)
theorem info_u8l : (Tryd.prog.info? 5).map (fun i => (i.zero, i.size, i.bytes)) = some (some (.int .u8 0), 1, 1) := by kernel_rfl
theorem row_shape2 {w : World} {B E s n : Nat} {v : Value} {xs : List Value} (h : w.ownsRow B E s v n xs) : ∃ g q, v = .slice g n q := by
  rcases h.2 with ⟨rfl, h0⟩ | ⟨g, c, cur, rfl, _⟩
  · exact ⟨none, 0, by rw [h0]⟩
  · exact ⟨_, _, rfl⟩
def LtRel (rs : List DReply) (W : World) (B : Nat) (v3 v4 : Value) (wr : World) : Prop :=
  ∃ (k n : Nat) (g : Option Addr) (q : Nat), k ≤ rs.length ∧ v4 = .int .i64 k ∧ v3 = .slice g n q ∧ Hid ((ltL (rs.take k)).length = n) ∧ Hid (wr.ownsRow B 5 1 (.slice g n q) n (bv (ltL (rs.take k)))) ∧ Below B W wr
set_option maxRecDepth 100000 in
set_option maxHeartbeats 4000000 in
theorem specLinesText_any (rs : List DReply) (a : Option Addr) (c : Nat) (w : World) (R : Rd w a c 6 rs.length (rs.flatMap DReply.cells)) (hl : rs.length ≤ 1048576) (g1 : ∀ x ∈ rs, x.name.size ≤ 9223372036854775807) (g2 : ∀ x ∈ rs, x.text.size ≤ 9223372036854775807) :
    Calls Tryd.prog 17 #[.slice a rs.length c] w fun e w' => e = .returned (.string (bs (ltL rs))) ∧ Ext w w' := by
  obtain ⟨i0, hi, hz0, hz1, hz2⟩ := info_parts info_u8l
  have G1 := Lib.hid g1
  have G2 := Lib.hid g2
  clear g1 g2
  go_enter Tryd.func17, Tryd.ntmps17
  go_wp2_with fail
  go_loopw [3, 4] (LtRel rs w w.heap.size) (fun _ i _ => rs.length - (intOf i).toNat)
  case atStart => exact ⟨0, 0, some ⟨w.heap.size, 0, none⟩, 0, Nat.zero_le _, rfl, rfl, rfl, World.ownsRow_lit w #[] 0 (Nat.le_refl _) (Nat.zero_le _) (by simp [bv, ltL]), bxt⟩
  case round =>
    obtain ⟨k, n, g, q, hk, rfl, rfl, HL, HO, hb⟩ := hrel
    have hbs := hb.size
    by_cases hlt : k < rs.length
    · have k1 : (k : Int) < (rs.length : Int) := by omega
      have k3 : (0 : Int) ≤ (k : Int) := by omega
      have k5 : decide ((k : Int) < (rs.length : Int)) = true := decide_eq_true k1
      obtain ⟨b, o, rfl, hb0, hat⟩ := R.ptr (by omega)
      have hat2 := hat.ext hb0 hb
      obtain ⟨c0, c1, c2, c3, c4, c5⟩ := DReply.at hat2 k hlt
      have hnl : n ≤ 202 * k := by
        have h := ltL_len (rs.take k)
        rw [HL.out] at h
        simp at h
        have : min k rs.length = k := by omega
        rw [this] at h
        exact h
      have hnx := ltL_take hlt
      have q1 := G1.out rs[k] (List.getElem_mem hlt)
      have q2 := G2.out rs[k] (List.getElem_mem hlt)
      obtain ⟨x, hx⟩ : ∃ x, rs[k] = x := ⟨_, rfl⟩
      rw [hx] at c0 c1 c2 c3 c4 c5 hnx q1 q2
      have HNX := Lib.hid hnx
      have hxl := tx1_len x
      obtain ⟨r, hr⟩ := boolR x
      have Hr := Lib.hid hr
      have HT := Lib.hid (tx1_of hr)
      clear hat hat2 hnx hx hr
      go_wp2_with fail
      refine (specReplyText_any x _ q1 q2 r Hr).mono ?_
      rintro e w1 ⟨rfl, hb1⟩
      have hbs1 := hb1.size
      have HO1 : Hid (w1.ownsRow w.heap.size 5 1 (.slice g n q) n (bv (ltL (rs.take k)))) := own_ext HO.out hb1
      rw [HT.out]
      have hsz : (bs (tx1 x)).size = (tx1 x).length := bs_size _
      go_wp2_with ((at_builtin; refine Lib.wpList_append_own_string _ rfl _ _ 41 9 rfl w.heap.size 5 i0 Tryd.underlying41 Tryd.underlying9 hi hz0 hz1 hz2 (.slice g n q) n _ rfl HO1.out (bs (tx1 x)) rfl (by unfold maxLen; omega) (by omega) (by omega) ?_))
      intro v2 w2 hown hg hnil
      obtain ⟨g2, q2', rfl⟩ := row_shape2 hown
      have hb2 : Below w.heap.size w w2 := below_app (hb.trans (hb1.mono hbs)) HO1.out (Nat.le_refl _) (by omega) hg
      have hbs2 := hb2.size
      have HO2 := Lib.hid hown
      clear hown hg hnil
      go_wp2_with ((at_builtin; refine wpList_append_own _ rfl _ _ 41 rfl w.heap.size 5 i0 (.int .u8 0) 1 1 Tryd.underlying41 hi hz0 hz1 hz2 rfl (by decide) _ _ _ rfl (own_ext HO2.out bxt) ⟨w2.heap.size, 0, none⟩ 2 2 [.int .u8 13, .int .u8 10] rfl rfl ?c1 ?c2 ?c3 ?c4 ?c5 ?_))
      case c1 =>
        intro j u hj
        match j, hj with
        | 0, hj => simp at hj; subst hj; simp [Addr.add]
        | 1, hj => simp at hj; subst hj; simp [Addr.add]
      case c2 => intro u hu; simp at hu; rcases hu with rfl | rfl <;> rfl
      case c3 => unfold maxLen; omega
      case c4 => omega
      case c5 => simp; omega
      intro v3 w3 hown hg hnil
      obtain ⟨g3, q3, rfl⟩ := row_shape2 hown
      have hb3 : Below w.heap.size w w3 := below_app (Below.ext hb2 (show Ext w2 _ from bxt)) (own_ext HO2.out (show Ext w2 _ from bxt)) (Nat.le_refl _) (by simp; omega) hg
      have HN : Hid (LtRel rs w w.heap.size (.slice g3 (n + (tx1 x).length + 2) q3) (.int .i64 ((k : Int) + 1)) w3) := by
        refine ⟨k + 1, n + (tx1 x).length + 2, g3, q3, by omega, by simp, rfl, ?_, ?_, hb3⟩
        · unfold Hid; rw [HNX.out, List.length_append, List.length_append, HL.out]; rfl
        · unfold Hid; rw [HNX.out, bv_app, bv_app]
          rw [str_bv, bs_data] at hown
          have e : bv [13, 10] = [Value.int .u8 13, Value.int .u8 10] := rfl
          rw [e]
          simpa only [List.append_assoc] using hown
      clear hown hg hnil
      go_wp2_with fail
      go_roundw
      case rel => exact HN.out
      case measure => simp [intOf]; omega
    · have k5 : decide ((k : Int) < (rs.length : Int)) = false := decide_eq_false (by omega)
      obtain rfl : k = rs.length := by omega
      have hO := HO.out
      rw [List.take_length] at hO
      have hcv := conv_own 41 9 5 Tryd.underlying41 Tryd.underlying5 Tryd.underlying9 (Own.of_row hO)
      clear hO
      go_wp2_with fail
      go_ret
      exact ⟨rfl, hb⟩
end Go.Proofs.YtadjlfcdjkikgaaDoor
