/-
  The texts of replies as they are put together.
-/
import Derived.Test.YtidfhkdonhjgaaaGreatDoorWTxtP
import Derived.Test.YtidfhkdonhjgaaaGreatDoorWGsP
namespace Go.Proofs.YtidfhkdonhjgaaaGreatDoor
open Go.RowKit
set_option linter.unusedVariables false
set_option linter.unusedSimpArgs false

/-- the numeral as a string -/
def dgB (n : Int) : ByteArray := bs (Lib.decDigits n.toNat)
theorem dgB_size (n : Int) (h : 0 ≤ n ∧ n ≤ 999999999) : (dgB n).size ≤ 9 := by unfold dgB; rw [bs_size]; exact dec_len9 (by omega)
theorem flB_size (f : Int) (h : 0 ≤ f ∧ f ≤ 31) : (bs (flText f.toNat)).size ≤ 40 := by rw [bs_size]; exact flText_len _ (by omega)
theorem hexB_size (t : ByteArray) (h : t.size ≤ 40) : (bs (hexL t.data.toList)).size ≤ 80 := by rw [bs_size]; exact hexL_len _ (by simpa using h)

theorem cat_1 (n : Int) : txt (⟨1, n, 0, 0, ⟨#[]⟩, ⟨#[]⟩⟩ : DReply) = (⟨#[42, 32]⟩ : ByteArray) ++ dgB n ++ (⟨#[32, 69, 88, 73, 83, 84, 83]⟩ : ByteArray) := by
  unfold txt
  simp only
  rw [txt_1]
  apply ByteArray.ext; apply Array.ext'
  simp [bs, dgB, wEXISTS, wEXPUNGE, wFETCH, wBODY, wSTATUS, wLIST, wGONE, wSELECTED, wCLOSED, wOVERFLOW, wBYE, wHELLO, wOK, wNO, wBAD, wIdle]
theorem cat_2 (n : Int) : txt (⟨2, n, 0, 0, ⟨#[]⟩, ⟨#[]⟩⟩ : DReply) = (⟨#[42, 32]⟩ : ByteArray) ++ dgB n ++ (⟨#[32, 69, 88, 80, 85, 78, 71, 69]⟩ : ByteArray) := by
  unfold txt
  simp only
  rw [txt_2]
  apply ByteArray.ext; apply Array.ext'
  simp [bs, dgB, wEXISTS, wEXPUNGE, wFETCH, wBODY, wSTATUS, wLIST, wGONE, wSELECTED, wCLOSED, wOVERFLOW, wBYE, wHELLO, wOK, wNO, wBAD, wIdle]
theorem cat_3 (n u f : Int) : txt (⟨3, n, u, f, ⟨#[]⟩, ⟨#[]⟩⟩ : DReply) = (⟨#[42, 32]⟩ : ByteArray) ++ dgB n ++ (⟨#[32, 70, 69, 84, 67, 72, 32]⟩ : ByteArray) ++ dgB u ++ (⟨#[32, 40]⟩ : ByteArray) ++ bs (flText f.toNat) ++ (⟨#[41]⟩ : ByteArray) := by
  unfold txt
  simp only
  rw [txt_3]
  apply ByteArray.ext; apply Array.ext'
  simp [bs, dgB, wEXISTS, wEXPUNGE, wFETCH, wBODY, wSTATUS, wLIST, wGONE, wSELECTED, wCLOSED, wOVERFLOW, wBYE, wHELLO, wOK, wNO, wBAD, wIdle]
theorem cat_4 (n : Int) (tx : ByteArray) : txt (⟨4, n, 0, 0, ⟨#[]⟩, tx⟩ : DReply) = (⟨#[42, 32]⟩ : ByteArray) ++ dgB n ++ (⟨#[32, 66, 79, 68, 89, 32]⟩ : ByteArray) ++ bs (hexL tx.data.toList) := by
  unfold txt
  simp only
  rw [txt_4]
  apply ByteArray.ext; apply Array.ext'
  simp [bs, dgB, wEXISTS, wEXPUNGE, wFETCH, wBODY, wSTATUS, wLIST, wGONE, wSELECTED, wCLOSED, wOVERFLOW, wBYE, wHELLO, wOK, wNO, wBAD, wIdle]
theorem cat_5 (n u : Int) (nm : ByteArray) : txt (⟨5, n, u, 0, nm, ⟨#[]⟩⟩ : DReply) = (⟨#[42, 32, 83, 84, 65, 84, 85, 83, 32]⟩ : ByteArray) ++ nm ++ (⟨#[32]⟩ : ByteArray) ++ dgB n ++ (⟨#[32]⟩ : ByteArray) ++ dgB u := by
  unfold txt
  simp only
  rw [txt_5]
  apply ByteArray.ext; apply Array.ext'
  simp [bs, dgB, wEXISTS, wEXPUNGE, wFETCH, wBODY, wSTATUS, wLIST, wGONE, wSELECTED, wCLOSED, wOVERFLOW, wBYE, wHELLO, wOK, wNO, wBAD, wIdle]
theorem cat_6 (nm : ByteArray) : txt (⟨6, 0, 0, 0, nm, ⟨#[]⟩⟩ : DReply) = (⟨#[42, 32, 76, 73, 83, 84, 32]⟩ : ByteArray) ++ nm := by
  unfold txt
  simp only
  rw [txt_6]
  apply ByteArray.ext; apply Array.ext'
  simp [bs, dgB, wEXISTS, wEXPUNGE, wFETCH, wBODY, wSTATUS, wLIST, wGONE, wSELECTED, wCLOSED, wOVERFLOW, wBYE, wHELLO, wOK, wNO, wBAD, wIdle]
theorem cat_7 (nm : ByteArray) : txt (⟨7, 0, 0, 0, nm, ⟨#[]⟩⟩ : DReply) = (⟨#[42, 32, 71, 79, 78, 69, 32]⟩ : ByteArray) ++ nm := by
  unfold txt
  simp only
  rw [txt_7]
  apply ByteArray.ext; apply Array.ext'
  simp [bs, dgB, wEXISTS, wEXPUNGE, wFETCH, wBODY, wSTATUS, wLIST, wGONE, wSELECTED, wCLOSED, wOVERFLOW, wBYE, wHELLO, wOK, wNO, wBAD, wIdle]
theorem cat_8 (n : Int) (nm : ByteArray) : txt (⟨8, n, 0, 0, nm, ⟨#[]⟩⟩ : DReply) = (⟨#[42, 32, 83, 69, 76, 69, 67, 84, 69, 68, 32]⟩ : ByteArray) ++ nm ++ (⟨#[32]⟩ : ByteArray) ++ dgB n := by
  unfold txt
  simp only
  rw [txt_8]
  apply ByteArray.ext; apply Array.ext'
  simp [bs, dgB, wEXISTS, wEXPUNGE, wFETCH, wBODY, wSTATUS, wLIST, wGONE, wSELECTED, wCLOSED, wOVERFLOW, wBYE, wHELLO, wOK, wNO, wBAD, wIdle]
theorem cat_9 : txt (⟨9, 0, 0, 0, ⟨#[]⟩, ⟨#[]⟩⟩ : DReply) = (⟨#[42, 32, 67, 76, 79, 83, 69, 68]⟩ : ByteArray) := by
  unfold txt
  simp only
  rw [txt_9]
  apply ByteArray.ext; apply Array.ext'
  simp [bs, dgB, wEXISTS, wEXPUNGE, wFETCH, wBODY, wSTATUS, wLIST, wGONE, wSELECTED, wCLOSED, wOVERFLOW, wBYE, wHELLO, wOK, wNO, wBAD, wIdle]
theorem cat_10 : txt (⟨10, 0, 0, 0, ⟨#[]⟩, ⟨#[]⟩⟩ : DReply) = (⟨#[42, 32, 79, 86, 69, 82, 70, 76, 79, 87]⟩ : ByteArray) := by
  unfold txt
  simp only
  rw [txt_10]
  apply ByteArray.ext; apply Array.ext'
  simp [bs, dgB, wEXISTS, wEXPUNGE, wFETCH, wBODY, wSTATUS, wLIST, wGONE, wSELECTED, wCLOSED, wOVERFLOW, wBYE, wHELLO, wOK, wNO, wBAD, wIdle]
theorem cat_11 : txt (⟨11, 0, 0, 0, ⟨#[]⟩, ⟨#[]⟩⟩ : DReply) = (⟨#[42, 32, 66, 89, 69]⟩ : ByteArray) := by
  unfold txt
  simp only
  rw [txt_11]
  apply ByteArray.ext; apply Array.ext'
  simp [bs, dgB, wEXISTS, wEXPUNGE, wFETCH, wBODY, wSTATUS, wLIST, wGONE, wSELECTED, wCLOSED, wOVERFLOW, wBYE, wHELLO, wOK, wNO, wBAD, wIdle]
theorem cat_12 (nm : ByteArray) : txt (⟨12, 0, 0, 0, nm, ⟨#[]⟩⟩ : DReply) = nm ++ (⟨#[32, 79, 75]⟩ : ByteArray) := by
  unfold txt
  simp only
  rw [txt_12]
  apply ByteArray.ext; apply Array.ext'
  simp [bs, dgB, wEXISTS, wEXPUNGE, wFETCH, wBODY, wSTATUS, wLIST, wGONE, wSELECTED, wCLOSED, wOVERFLOW, wBYE, wHELLO, wOK, wNO, wBAD, wIdle]
theorem cat_13 (nm : ByteArray) : txt (⟨13, 0, 0, 0, nm, ⟨#[]⟩⟩ : DReply) = nm ++ (⟨#[32, 78, 79]⟩ : ByteArray) := by
  unfold txt
  simp only
  rw [txt_13]
  apply ByteArray.ext; apply Array.ext'
  simp [bs, dgB, wEXISTS, wEXPUNGE, wFETCH, wBODY, wSTATUS, wLIST, wGONE, wSELECTED, wCLOSED, wOVERFLOW, wBYE, wHELLO, wOK, wNO, wBAD, wIdle]
theorem cat_14 (nm : ByteArray) : txt (⟨14, 0, 0, 0, nm, ⟨#[]⟩⟩ : DReply) = nm ++ (⟨#[32, 66, 65, 68]⟩ : ByteArray) := by
  unfold txt
  simp only
  rw [txt_14]
  apply ByteArray.ext; apply Array.ext'
  simp [bs, dgB, wEXISTS, wEXPUNGE, wFETCH, wBODY, wSTATUS, wLIST, wGONE, wSELECTED, wCLOSED, wOVERFLOW, wBYE, wHELLO, wOK, wNO, wBAD, wIdle]
theorem cat_15 : txt (⟨15, 0, 0, 0, ⟨#[]⟩, ⟨#[]⟩⟩ : DReply) = (⟨#[43, 32, 105, 100, 108, 101]⟩ : ByteArray) := by
  unfold txt
  simp only
  rw [txt_15]
  apply ByteArray.ext; apply Array.ext'
  simp [bs, dgB, wEXISTS, wEXPUNGE, wFETCH, wBODY, wSTATUS, wLIST, wGONE, wSELECTED, wCLOSED, wOVERFLOW, wBYE, wHELLO, wOK, wNO, wBAD, wIdle]
theorem cat_16 : txt (⟨16, 0, 0, 0, ⟨#[]⟩, ⟨#[]⟩⟩ : DReply) = (⟨#[42, 32, 72, 69, 76, 76, 79]⟩ : ByteArray) := by
  unfold txt
  simp only
  rw [txt_16]
  apply ByteArray.ext; apply Array.ext'
  simp [bs, dgB, wEXISTS, wEXPUNGE, wFETCH, wBODY, wSTATUS, wLIST, wGONE, wSELECTED, wCLOSED, wOVERFLOW, wBYE, wHELLO, wOK, wNO, wBAD, wIdle]
theorem cat_4e (n : Int) (tx : ByteArray) (h : tx = ⟨#[]⟩) : txt (⟨4, n, 0, 0, ⟨#[]⟩, tx⟩ : DReply) = (⟨#[42, 32]⟩ : ByteArray) ++ dgB n ++ (⟨#[32, 66, 79, 68, 89, 32, 45]⟩ : ByteArray) := by
  subst h
  unfold txt
  simp only
  rw [txt_4]
  apply ByteArray.ext; apply Array.ext'
  simp [bs, dgB, wBODY, hexL]
end Go.Proofs.YtidfhkdonhjgaaaGreatDoor
