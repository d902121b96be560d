/-
  What a text may be read as: the program's guess, the reference's candidates: the plain law of ReadReply.
-/
import Derived.Test.YtidfhkdonhjgaaaGreatDoorWTxtP
import Derived.Lib.SpaceU
import Derived.Lib.IndexMore
import Derived.Lib.Strings
namespace Go.Proofs.YtidfhkdonhjgaaaGreatDoor
open Go Go.Lib
set_option linter.unusedVariables false
set_option linter.unusedSimpArgs false

def wAt (s : List UInt8) (i : Nat) : List UInt8 := (wordsL s).getD i []
def NumIs (w : List UInt8) (n : Int) : Prop := ∀ m : Nat, m ≤ 999999999 → w = decDigits m → n = m
def TxIs (w : List UInt8) (t : ByteArray) : Prop := ∀ x : List UInt8, w = hexL x → t = bs x
def FlIs (s : List UInt8) (b : Int) : Prop := ∀ (f : Nat) (p : List UInt8), f ≤ 31 → (40 : UInt8) ∉ p → s = p ++ 40 :: (flText f ++ [41]) → b = f
def FlIs2 (ws : List (List UInt8)) (b : Int) : Prop := ∀ f : Nat, f ≤ 31 → ws = wordsL (40 :: (flText f ++ [41])) → b = f
def txA (a : DReply) : List UInt8 := txtL a.kind a.n a.uid a.flags a.name a.text
/-- r is what a valid reply of this text must be -/
def GuessOf (s : List UInt8) (r : DReply) : Prop := ∀ a, ReplyP a → txA a = s → r = a
theorem dec_up (n : Nat) (c : UInt8) (t : List UInt8) (hc : 57 < c.toNat) : decDigits n ≠ c :: t := fun e => by
  have := dec_digit n c (by rw [e]; simp)
  omega
theorem num_of {w : List UInt8} {n m : Int} (h : NumIs w n) (hm : 0 ≤ m ∧ m ≤ 999999999) (e : w = decDigits m.toNat) : n = m := by
  have := h m.toNat (by omega) e
  omega
theorem nopar_head (n u : Nat) : (40 : UInt8) ∉ (42 :: 32 :: (decDigits n ++ 32 :: (wFETCH ++ 32 :: (decDigits u ++ [32])))) := by
  intro h
  simp only [List.mem_cons, List.mem_append, List.not_mem_nil, or_false] at h
  have e : ∀ k, (40 : UInt8) ∉ decDigits k := fun k hk => by have := dec_digit k 40 hk; revert this; decide
  rcases h with h | h | h | h | h | h | h | h
  · revert h; decide
  · revert h; decide
  · exact e _ h
  · revert h; decide
  · revert h; decide
  · revert h; decide
  · exact e _ h
  · revert h; decide

theorem wAt_of {s : List UInt8} {l : List (List UInt8)} (h : wordsL s = l) (i : Nat) : wAt s i = l.getD i [] := by rw [wAt, h]
structure Ne2 (w : List UInt8) : Prop where
  nexists : w ≠ wEXISTS
  nexpunge : w ≠ wEXPUNGE
  nfetch : w ≠ wFETCH
  nbody : w ≠ wBODY
structure Ne1 (w : List UInt8) : Prop where
  nstatus : w ≠ wSTATUS
  nlist : w ≠ wLIST
  ngone : w ≠ wGONE
  nselected : w ≠ wSELECTED
  nclosed : w ≠ wCLOSED
  noverflow : w ≠ wOVERFLOW
  nbye : w ≠ wBYE
  nok : w ≠ wOK
  nno : w ≠ wNO
  nbad : w ≠ wBAD
  nhello : w ≠ wHELLO
theorem gs_1 {s : List UInt8} {n : Int} (h2 : wAt s 2 = wEXISTS) (hn : NumIs (wAt s 1) n) : GuessOf s ⟨1, n, 0, 0, ⟨#[]⟩, ⟨#[]⟩⟩ := by
  intro a ha ht
  obtain ⟨k, hk⟩ := wd_of ha ht
  match k, hk with
  | 1, ⟨n', ea, hw, hr⟩ => subst ea; obtain rfl := num_of hn hr (wAt_of hw 1); rfl
  | 2, ⟨n', ea, hw, hr⟩ => subst ea; exact absurd (show wEXPUNGE = wEXISTS from (wAt_of hw 2).symm.trans h2) (by decide)
  | 3, ⟨n', u', f', ea, hw, hr, hr2, hr3, hs3⟩ => subst ea; exact absurd (show wFETCH = wEXISTS from (wAt_of hw 2).symm.trans h2) (by decide)
  | 4, ⟨n', tx', ea, hw, hr, hr2⟩ => subst ea; exact absurd (show wBODY = wEXISTS from (wAt_of hw 2).symm.trans h2) (by decide)
  | 5, ⟨n', u', nm', ea, hw, hr, hr2, hnm⟩ => subst ea; exact absurd ((wAt_of hw 2).symm.trans h2) (name_up hnm _ _ (by decide))
  | 6, ⟨nm', ea, hw, hnm⟩ => subst ea; exact absurd ((wAt_of hw 2).symm.trans h2) (name_up hnm _ _ (by decide))
  | 7, ⟨nm', ea, hw, hnm⟩ => subst ea; exact absurd ((wAt_of hw 2).symm.trans h2) (name_up hnm _ _ (by decide))
  | 8, ⟨n', nm', ea, hw, hr, hnm⟩ => subst ea; exact absurd ((wAt_of hw 2).symm.trans h2) (name_up hnm _ _ (by decide))
  | 9, ⟨ea, hw, _⟩ => subst ea; exact absurd (show ([] : List UInt8) = wEXISTS from (wAt_of hw 2).symm.trans h2) (by decide)
  | 10, ⟨ea, hw, _⟩ => subst ea; exact absurd (show ([] : List UInt8) = wEXISTS from (wAt_of hw 2).symm.trans h2) (by decide)
  | 11, ⟨ea, hw, _⟩ => subst ea; exact absurd (show ([] : List UInt8) = wEXISTS from (wAt_of hw 2).symm.trans h2) (by decide)
  | 12, ⟨nm', ea, hw, hnm⟩ => subst ea; exact absurd (show ([] : List UInt8) = wEXISTS from (wAt_of hw 2).symm.trans h2) (by decide)
  | 13, ⟨nm', ea, hw, hnm⟩ => subst ea; exact absurd (show ([] : List UInt8) = wEXISTS from (wAt_of hw 2).symm.trans h2) (by decide)
  | 14, ⟨nm', ea, hw, hnm⟩ => subst ea; exact absurd (show ([] : List UInt8) = wEXISTS from (wAt_of hw 2).symm.trans h2) (by decide)
  | 15, ⟨ea, hw, _⟩ => subst ea; exact absurd (show ([] : List UInt8) = wEXISTS from (wAt_of hw 2).symm.trans h2) (by decide)
  | 16, ⟨ea, hw, _⟩ => subst ea; exact absurd (show ([] : List UInt8) = wEXISTS from (wAt_of hw 2).symm.trans h2) (by decide)
  | 0, hk => exact hk.elim
  | _ + 17, hk => exact hk.elim
theorem gs_2 {s : List UInt8} {n : Int} (h2 : wAt s 2 = wEXPUNGE) (hn : NumIs (wAt s 1) n) : GuessOf s ⟨2, n, 0, 0, ⟨#[]⟩, ⟨#[]⟩⟩ := by
  intro a ha ht
  obtain ⟨k, hk⟩ := wd_of ha ht
  match k, hk with
  | 1, ⟨n', ea, hw, hr⟩ => subst ea; exact absurd (show wEXISTS = wEXPUNGE from (wAt_of hw 2).symm.trans h2) (by decide)
  | 2, ⟨n', ea, hw, hr⟩ => subst ea; obtain rfl := num_of hn hr (wAt_of hw 1); rfl
  | 3, ⟨n', u', f', ea, hw, hr, hr2, hr3, hs3⟩ => subst ea; exact absurd (show wFETCH = wEXPUNGE from (wAt_of hw 2).symm.trans h2) (by decide)
  | 4, ⟨n', tx', ea, hw, hr, hr2⟩ => subst ea; exact absurd (show wBODY = wEXPUNGE from (wAt_of hw 2).symm.trans h2) (by decide)
  | 5, ⟨n', u', nm', ea, hw, hr, hr2, hnm⟩ => subst ea; exact absurd ((wAt_of hw 2).symm.trans h2) (name_up hnm _ _ (by decide))
  | 6, ⟨nm', ea, hw, hnm⟩ => subst ea; exact absurd ((wAt_of hw 2).symm.trans h2) (name_up hnm _ _ (by decide))
  | 7, ⟨nm', ea, hw, hnm⟩ => subst ea; exact absurd ((wAt_of hw 2).symm.trans h2) (name_up hnm _ _ (by decide))
  | 8, ⟨n', nm', ea, hw, hr, hnm⟩ => subst ea; exact absurd ((wAt_of hw 2).symm.trans h2) (name_up hnm _ _ (by decide))
  | 9, ⟨ea, hw, _⟩ => subst ea; exact absurd (show ([] : List UInt8) = wEXPUNGE from (wAt_of hw 2).symm.trans h2) (by decide)
  | 10, ⟨ea, hw, _⟩ => subst ea; exact absurd (show ([] : List UInt8) = wEXPUNGE from (wAt_of hw 2).symm.trans h2) (by decide)
  | 11, ⟨ea, hw, _⟩ => subst ea; exact absurd (show ([] : List UInt8) = wEXPUNGE from (wAt_of hw 2).symm.trans h2) (by decide)
  | 12, ⟨nm', ea, hw, hnm⟩ => subst ea; exact absurd (show ([] : List UInt8) = wEXPUNGE from (wAt_of hw 2).symm.trans h2) (by decide)
  | 13, ⟨nm', ea, hw, hnm⟩ => subst ea; exact absurd (show ([] : List UInt8) = wEXPUNGE from (wAt_of hw 2).symm.trans h2) (by decide)
  | 14, ⟨nm', ea, hw, hnm⟩ => subst ea; exact absurd (show ([] : List UInt8) = wEXPUNGE from (wAt_of hw 2).symm.trans h2) (by decide)
  | 15, ⟨ea, hw, _⟩ => subst ea; exact absurd (show ([] : List UInt8) = wEXPUNGE from (wAt_of hw 2).symm.trans h2) (by decide)
  | 16, ⟨ea, hw, _⟩ => subst ea; exact absurd (show ([] : List UInt8) = wEXPUNGE from (wAt_of hw 2).symm.trans h2) (by decide)
  | 0, hk => exact hk.elim
  | _ + 17, hk => exact hk.elim
theorem gs_3 {s : List UInt8} {n u f : Int} (h2 : wAt s 2 = wFETCH) (hn : NumIs (wAt s 1) n) (h3 : NumIs (wAt s 3) u) (hf : FlIs s f) : GuessOf s ⟨3, n, u, f, ⟨#[]⟩, ⟨#[]⟩⟩ := by
  intro a ha ht
  obtain ⟨k, hk⟩ := wd_of ha ht
  match k, hk with
  | 1, ⟨n', ea, hw, hr⟩ => subst ea; exact absurd (show wEXISTS = wFETCH from (wAt_of hw 2).symm.trans h2) (by decide)
  | 2, ⟨n', ea, hw, hr⟩ => subst ea; exact absurd (show wEXPUNGE = wFETCH from (wAt_of hw 2).symm.trans h2) (by decide)
  | 3, ⟨n', u', f', ea, hw, hr, hr2, hr3, hs3⟩ => subst ea; (obtain rfl := num_of hn hr (wAt_of hw 1); obtain rfl := num_of h3 hr2 (wAt_of hw 3); have e := hf f'.toNat _ (by omega) (nopar_head _ _) hs3; (obtain rfl : f = f' := by omega); rfl)
  | 4, ⟨n', tx', ea, hw, hr, hr2⟩ => subst ea; exact absurd (show wBODY = wFETCH from (wAt_of hw 2).symm.trans h2) (by decide)
  | 5, ⟨n', u', nm', ea, hw, hr, hr2, hnm⟩ => subst ea; exact absurd ((wAt_of hw 2).symm.trans h2) (name_up hnm _ _ (by decide))
  | 6, ⟨nm', ea, hw, hnm⟩ => subst ea; exact absurd ((wAt_of hw 2).symm.trans h2) (name_up hnm _ _ (by decide))
  | 7, ⟨nm', ea, hw, hnm⟩ => subst ea; exact absurd ((wAt_of hw 2).symm.trans h2) (name_up hnm _ _ (by decide))
  | 8, ⟨n', nm', ea, hw, hr, hnm⟩ => subst ea; exact absurd ((wAt_of hw 2).symm.trans h2) (name_up hnm _ _ (by decide))
  | 9, ⟨ea, hw, _⟩ => subst ea; exact absurd (show ([] : List UInt8) = wFETCH from (wAt_of hw 2).symm.trans h2) (by decide)
  | 10, ⟨ea, hw, _⟩ => subst ea; exact absurd (show ([] : List UInt8) = wFETCH from (wAt_of hw 2).symm.trans h2) (by decide)
  | 11, ⟨ea, hw, _⟩ => subst ea; exact absurd (show ([] : List UInt8) = wFETCH from (wAt_of hw 2).symm.trans h2) (by decide)
  | 12, ⟨nm', ea, hw, hnm⟩ => subst ea; exact absurd (show ([] : List UInt8) = wFETCH from (wAt_of hw 2).symm.trans h2) (by decide)
  | 13, ⟨nm', ea, hw, hnm⟩ => subst ea; exact absurd (show ([] : List UInt8) = wFETCH from (wAt_of hw 2).symm.trans h2) (by decide)
  | 14, ⟨nm', ea, hw, hnm⟩ => subst ea; exact absurd (show ([] : List UInt8) = wFETCH from (wAt_of hw 2).symm.trans h2) (by decide)
  | 15, ⟨ea, hw, _⟩ => subst ea; exact absurd (show ([] : List UInt8) = wFETCH from (wAt_of hw 2).symm.trans h2) (by decide)
  | 16, ⟨ea, hw, _⟩ => subst ea; exact absurd (show ([] : List UInt8) = wFETCH from (wAt_of hw 2).symm.trans h2) (by decide)
  | 0, hk => exact hk.elim
  | _ + 17, hk => exact hk.elim
theorem gs_4 {s : List UInt8} {n : Int} {t : ByteArray} (h2 : wAt s 2 = wBODY) (hn : NumIs (wAt s 1) n) (h3 : TxIs (wAt s 3) t) : GuessOf s ⟨4, n, 0, 0, ⟨#[]⟩, t⟩ := by
  intro a ha ht
  obtain ⟨k, hk⟩ := wd_of ha ht
  match k, hk with
  | 1, ⟨n', ea, hw, hr⟩ => subst ea; exact absurd (show wEXISTS = wBODY from (wAt_of hw 2).symm.trans h2) (by decide)
  | 2, ⟨n', ea, hw, hr⟩ => subst ea; exact absurd (show wEXPUNGE = wBODY from (wAt_of hw 2).symm.trans h2) (by decide)
  | 3, ⟨n', u', f', ea, hw, hr, hr2, hr3, hs3⟩ => subst ea; exact absurd (show wFETCH = wBODY from (wAt_of hw 2).symm.trans h2) (by decide)
  | 4, ⟨n', tx', ea, hw, hr, hr2⟩ => subst ea; obtain rfl := num_of hn hr (wAt_of hw 1); (obtain rfl : t = tx' := (h3 tx'.data.toList (wAt_of hw 3)).trans (bs_of _)); rfl
  | 5, ⟨n', u', nm', ea, hw, hr, hr2, hnm⟩ => subst ea; exact absurd ((wAt_of hw 2).symm.trans h2) (name_up hnm _ _ (by decide))
  | 6, ⟨nm', ea, hw, hnm⟩ => subst ea; exact absurd ((wAt_of hw 2).symm.trans h2) (name_up hnm _ _ (by decide))
  | 7, ⟨nm', ea, hw, hnm⟩ => subst ea; exact absurd ((wAt_of hw 2).symm.trans h2) (name_up hnm _ _ (by decide))
  | 8, ⟨n', nm', ea, hw, hr, hnm⟩ => subst ea; exact absurd ((wAt_of hw 2).symm.trans h2) (name_up hnm _ _ (by decide))
  | 9, ⟨ea, hw, _⟩ => subst ea; exact absurd (show ([] : List UInt8) = wBODY from (wAt_of hw 2).symm.trans h2) (by decide)
  | 10, ⟨ea, hw, _⟩ => subst ea; exact absurd (show ([] : List UInt8) = wBODY from (wAt_of hw 2).symm.trans h2) (by decide)
  | 11, ⟨ea, hw, _⟩ => subst ea; exact absurd (show ([] : List UInt8) = wBODY from (wAt_of hw 2).symm.trans h2) (by decide)
  | 12, ⟨nm', ea, hw, hnm⟩ => subst ea; exact absurd (show ([] : List UInt8) = wBODY from (wAt_of hw 2).symm.trans h2) (by decide)
  | 13, ⟨nm', ea, hw, hnm⟩ => subst ea; exact absurd (show ([] : List UInt8) = wBODY from (wAt_of hw 2).symm.trans h2) (by decide)
  | 14, ⟨nm', ea, hw, hnm⟩ => subst ea; exact absurd (show ([] : List UInt8) = wBODY from (wAt_of hw 2).symm.trans h2) (by decide)
  | 15, ⟨ea, hw, _⟩ => subst ea; exact absurd (show ([] : List UInt8) = wBODY from (wAt_of hw 2).symm.trans h2) (by decide)
  | 16, ⟨ea, hw, _⟩ => subst ea; exact absurd (show ([] : List UInt8) = wBODY from (wAt_of hw 2).symm.trans h2) (by decide)
  | 0, hk => exact hk.elim
  | _ + 17, hk => exact hk.elim
theorem gs_5 {s : List UInt8} {n u : Int} (h1 : wAt s 1 = wSTATUS) (h3 : NumIs (wAt s 3) n) (h4 : NumIs (wAt s 4) u) : GuessOf s ⟨5, n, u, 0, bs (wAt s 2), ⟨#[]⟩⟩ := by
  intro a ha ht
  obtain ⟨k, hk⟩ := wd_of ha ht
  match k, hk with
  | 1, ⟨n', ea, hw, hr⟩ => subst ea; exact absurd ((wAt_of hw 1).symm.trans h1) (dec_up _ _ _ (by decide))
  | 2, ⟨n', ea, hw, hr⟩ => subst ea; exact absurd ((wAt_of hw 1).symm.trans h1) (dec_up _ _ _ (by decide))
  | 3, ⟨n', u', f', ea, hw, hr, hr2, hr3, hs3⟩ => subst ea; exact absurd ((wAt_of hw 1).symm.trans h1) (dec_up _ _ _ (by decide))
  | 4, ⟨n', tx', ea, hw, hr, hr2⟩ => subst ea; exact absurd ((wAt_of hw 1).symm.trans h1) (dec_up _ _ _ (by decide))
  | 5, ⟨n', u', nm', ea, hw, hr, hr2, hnm⟩ => subst ea; obtain rfl := num_of h3 hr (wAt_of hw 3); obtain rfl := num_of h4 hr2 (wAt_of hw 4); rw [(congrArg bs (wAt_of hw 2)).trans (bs_of nm')]
  | 6, ⟨nm', ea, hw, hnm⟩ => subst ea; exact absurd (show wLIST = wSTATUS from (wAt_of hw 1).symm.trans h1) (by decide)
  | 7, ⟨nm', ea, hw, hnm⟩ => subst ea; exact absurd (show wGONE = wSTATUS from (wAt_of hw 1).symm.trans h1) (by decide)
  | 8, ⟨n', nm', ea, hw, hr, hnm⟩ => subst ea; exact absurd (show wSELECTED = wSTATUS from (wAt_of hw 1).symm.trans h1) (by decide)
  | 9, ⟨ea, hw, _⟩ => subst ea; exact absurd (show wCLOSED = wSTATUS from (wAt_of hw 1).symm.trans h1) (by decide)
  | 10, ⟨ea, hw, _⟩ => subst ea; exact absurd (show wOVERFLOW = wSTATUS from (wAt_of hw 1).symm.trans h1) (by decide)
  | 11, ⟨ea, hw, _⟩ => subst ea; exact absurd (show wBYE = wSTATUS from (wAt_of hw 1).symm.trans h1) (by decide)
  | 12, ⟨nm', ea, hw, hnm⟩ => subst ea; exact absurd (show wOK = wSTATUS from (wAt_of hw 1).symm.trans h1) (by decide)
  | 13, ⟨nm', ea, hw, hnm⟩ => subst ea; exact absurd (show wNO = wSTATUS from (wAt_of hw 1).symm.trans h1) (by decide)
  | 14, ⟨nm', ea, hw, hnm⟩ => subst ea; exact absurd (show wBAD = wSTATUS from (wAt_of hw 1).symm.trans h1) (by decide)
  | 15, ⟨ea, hw, _⟩ => subst ea; exact absurd (show wIdle = wSTATUS from (wAt_of hw 1).symm.trans h1) (by decide)
  | 16, ⟨ea, hw, _⟩ => subst ea; exact absurd (show wHELLO = wSTATUS from (wAt_of hw 1).symm.trans h1) (by decide)
  | 0, hk => exact hk.elim
  | _ + 17, hk => exact hk.elim
theorem gs_6 {s : List UInt8} (h1 : wAt s 1 = wLIST) : GuessOf s ⟨6, 0, 0, 0, bs (wAt s 2), ⟨#[]⟩⟩ := by
  intro a ha ht
  obtain ⟨k, hk⟩ := wd_of ha ht
  match k, hk with
  | 1, ⟨n', ea, hw, hr⟩ => subst ea; exact absurd ((wAt_of hw 1).symm.trans h1) (dec_up _ _ _ (by decide))
  | 2, ⟨n', ea, hw, hr⟩ => subst ea; exact absurd ((wAt_of hw 1).symm.trans h1) (dec_up _ _ _ (by decide))
  | 3, ⟨n', u', f', ea, hw, hr, hr2, hr3, hs3⟩ => subst ea; exact absurd ((wAt_of hw 1).symm.trans h1) (dec_up _ _ _ (by decide))
  | 4, ⟨n', tx', ea, hw, hr, hr2⟩ => subst ea; exact absurd ((wAt_of hw 1).symm.trans h1) (dec_up _ _ _ (by decide))
  | 5, ⟨n', u', nm', ea, hw, hr, hr2, hnm⟩ => subst ea; exact absurd (show wSTATUS = wLIST from (wAt_of hw 1).symm.trans h1) (by decide)
  | 6, ⟨nm', ea, hw, hnm⟩ => subst ea; rw [(congrArg bs (wAt_of hw 2)).trans (bs_of nm')]
  | 7, ⟨nm', ea, hw, hnm⟩ => subst ea; exact absurd (show wGONE = wLIST from (wAt_of hw 1).symm.trans h1) (by decide)
  | 8, ⟨n', nm', ea, hw, hr, hnm⟩ => subst ea; exact absurd (show wSELECTED = wLIST from (wAt_of hw 1).symm.trans h1) (by decide)
  | 9, ⟨ea, hw, _⟩ => subst ea; exact absurd (show wCLOSED = wLIST from (wAt_of hw 1).symm.trans h1) (by decide)
  | 10, ⟨ea, hw, _⟩ => subst ea; exact absurd (show wOVERFLOW = wLIST from (wAt_of hw 1).symm.trans h1) (by decide)
  | 11, ⟨ea, hw, _⟩ => subst ea; exact absurd (show wBYE = wLIST from (wAt_of hw 1).symm.trans h1) (by decide)
  | 12, ⟨nm', ea, hw, hnm⟩ => subst ea; exact absurd (show wOK = wLIST from (wAt_of hw 1).symm.trans h1) (by decide)
  | 13, ⟨nm', ea, hw, hnm⟩ => subst ea; exact absurd (show wNO = wLIST from (wAt_of hw 1).symm.trans h1) (by decide)
  | 14, ⟨nm', ea, hw, hnm⟩ => subst ea; exact absurd (show wBAD = wLIST from (wAt_of hw 1).symm.trans h1) (by decide)
  | 15, ⟨ea, hw, _⟩ => subst ea; exact absurd (show wIdle = wLIST from (wAt_of hw 1).symm.trans h1) (by decide)
  | 16, ⟨ea, hw, _⟩ => subst ea; exact absurd (show wHELLO = wLIST from (wAt_of hw 1).symm.trans h1) (by decide)
  | 0, hk => exact hk.elim
  | _ + 17, hk => exact hk.elim
theorem gs_7 {s : List UInt8} (h1 : wAt s 1 = wGONE) : GuessOf s ⟨7, 0, 0, 0, bs (wAt s 2), ⟨#[]⟩⟩ := by
  intro a ha ht
  obtain ⟨k, hk⟩ := wd_of ha ht
  match k, hk with
  | 1, ⟨n', ea, hw, hr⟩ => subst ea; exact absurd ((wAt_of hw 1).symm.trans h1) (dec_up _ _ _ (by decide))
  | 2, ⟨n', ea, hw, hr⟩ => subst ea; exact absurd ((wAt_of hw 1).symm.trans h1) (dec_up _ _ _ (by decide))
  | 3, ⟨n', u', f', ea, hw, hr, hr2, hr3, hs3⟩ => subst ea; exact absurd ((wAt_of hw 1).symm.trans h1) (dec_up _ _ _ (by decide))
  | 4, ⟨n', tx', ea, hw, hr, hr2⟩ => subst ea; exact absurd ((wAt_of hw 1).symm.trans h1) (dec_up _ _ _ (by decide))
  | 5, ⟨n', u', nm', ea, hw, hr, hr2, hnm⟩ => subst ea; exact absurd (show wSTATUS = wGONE from (wAt_of hw 1).symm.trans h1) (by decide)
  | 6, ⟨nm', ea, hw, hnm⟩ => subst ea; exact absurd (show wLIST = wGONE from (wAt_of hw 1).symm.trans h1) (by decide)
  | 7, ⟨nm', ea, hw, hnm⟩ => subst ea; rw [(congrArg bs (wAt_of hw 2)).trans (bs_of nm')]
  | 8, ⟨n', nm', ea, hw, hr, hnm⟩ => subst ea; exact absurd (show wSELECTED = wGONE from (wAt_of hw 1).symm.trans h1) (by decide)
  | 9, ⟨ea, hw, _⟩ => subst ea; exact absurd (show wCLOSED = wGONE from (wAt_of hw 1).symm.trans h1) (by decide)
  | 10, ⟨ea, hw, _⟩ => subst ea; exact absurd (show wOVERFLOW = wGONE from (wAt_of hw 1).symm.trans h1) (by decide)
  | 11, ⟨ea, hw, _⟩ => subst ea; exact absurd (show wBYE = wGONE from (wAt_of hw 1).symm.trans h1) (by decide)
  | 12, ⟨nm', ea, hw, hnm⟩ => subst ea; exact absurd (show wOK = wGONE from (wAt_of hw 1).symm.trans h1) (by decide)
  | 13, ⟨nm', ea, hw, hnm⟩ => subst ea; exact absurd (show wNO = wGONE from (wAt_of hw 1).symm.trans h1) (by decide)
  | 14, ⟨nm', ea, hw, hnm⟩ => subst ea; exact absurd (show wBAD = wGONE from (wAt_of hw 1).symm.trans h1) (by decide)
  | 15, ⟨ea, hw, _⟩ => subst ea; exact absurd (show wIdle = wGONE from (wAt_of hw 1).symm.trans h1) (by decide)
  | 16, ⟨ea, hw, _⟩ => subst ea; exact absurd (show wHELLO = wGONE from (wAt_of hw 1).symm.trans h1) (by decide)
  | 0, hk => exact hk.elim
  | _ + 17, hk => exact hk.elim
theorem gs_8 {s : List UInt8} {n : Int} (h1 : wAt s 1 = wSELECTED) (h3 : NumIs (wAt s 3) n) : GuessOf s ⟨8, n, 0, 0, bs (wAt s 2), ⟨#[]⟩⟩ := by
  intro a ha ht
  obtain ⟨k, hk⟩ := wd_of ha ht
  match k, hk with
  | 1, ⟨n', ea, hw, hr⟩ => subst ea; exact absurd ((wAt_of hw 1).symm.trans h1) (dec_up _ _ _ (by decide))
  | 2, ⟨n', ea, hw, hr⟩ => subst ea; exact absurd ((wAt_of hw 1).symm.trans h1) (dec_up _ _ _ (by decide))
  | 3, ⟨n', u', f', ea, hw, hr, hr2, hr3, hs3⟩ => subst ea; exact absurd ((wAt_of hw 1).symm.trans h1) (dec_up _ _ _ (by decide))
  | 4, ⟨n', tx', ea, hw, hr, hr2⟩ => subst ea; exact absurd ((wAt_of hw 1).symm.trans h1) (dec_up _ _ _ (by decide))
  | 5, ⟨n', u', nm', ea, hw, hr, hr2, hnm⟩ => subst ea; exact absurd (show wSTATUS = wSELECTED from (wAt_of hw 1).symm.trans h1) (by decide)
  | 6, ⟨nm', ea, hw, hnm⟩ => subst ea; exact absurd (show wLIST = wSELECTED from (wAt_of hw 1).symm.trans h1) (by decide)
  | 7, ⟨nm', ea, hw, hnm⟩ => subst ea; exact absurd (show wGONE = wSELECTED from (wAt_of hw 1).symm.trans h1) (by decide)
  | 8, ⟨n', nm', ea, hw, hr, hnm⟩ => subst ea; obtain rfl := num_of h3 hr (wAt_of hw 3); rw [(congrArg bs (wAt_of hw 2)).trans (bs_of nm')]
  | 9, ⟨ea, hw, _⟩ => subst ea; exact absurd (show wCLOSED = wSELECTED from (wAt_of hw 1).symm.trans h1) (by decide)
  | 10, ⟨ea, hw, _⟩ => subst ea; exact absurd (show wOVERFLOW = wSELECTED from (wAt_of hw 1).symm.trans h1) (by decide)
  | 11, ⟨ea, hw, _⟩ => subst ea; exact absurd (show wBYE = wSELECTED from (wAt_of hw 1).symm.trans h1) (by decide)
  | 12, ⟨nm', ea, hw, hnm⟩ => subst ea; exact absurd (show wOK = wSELECTED from (wAt_of hw 1).symm.trans h1) (by decide)
  | 13, ⟨nm', ea, hw, hnm⟩ => subst ea; exact absurd (show wNO = wSELECTED from (wAt_of hw 1).symm.trans h1) (by decide)
  | 14, ⟨nm', ea, hw, hnm⟩ => subst ea; exact absurd (show wBAD = wSELECTED from (wAt_of hw 1).symm.trans h1) (by decide)
  | 15, ⟨ea, hw, _⟩ => subst ea; exact absurd (show wIdle = wSELECTED from (wAt_of hw 1).symm.trans h1) (by decide)
  | 16, ⟨ea, hw, _⟩ => subst ea; exact absurd (show wHELLO = wSELECTED from (wAt_of hw 1).symm.trans h1) (by decide)
  | 0, hk => exact hk.elim
  | _ + 17, hk => exact hk.elim
theorem gs_9 {s : List UInt8} (h1 : wAt s 1 = wCLOSED) : GuessOf s ⟨9, 0, 0, 0, ⟨#[]⟩, ⟨#[]⟩⟩ := by
  intro a ha ht
  obtain ⟨k, hk⟩ := wd_of ha ht
  match k, hk with
  | 1, ⟨n', ea, hw, hr⟩ => subst ea; exact absurd ((wAt_of hw 1).symm.trans h1) (dec_up _ _ _ (by decide))
  | 2, ⟨n', ea, hw, hr⟩ => subst ea; exact absurd ((wAt_of hw 1).symm.trans h1) (dec_up _ _ _ (by decide))
  | 3, ⟨n', u', f', ea, hw, hr, hr2, hr3, hs3⟩ => subst ea; exact absurd ((wAt_of hw 1).symm.trans h1) (dec_up _ _ _ (by decide))
  | 4, ⟨n', tx', ea, hw, hr, hr2⟩ => subst ea; exact absurd ((wAt_of hw 1).symm.trans h1) (dec_up _ _ _ (by decide))
  | 5, ⟨n', u', nm', ea, hw, hr, hr2, hnm⟩ => subst ea; exact absurd (show wSTATUS = wCLOSED from (wAt_of hw 1).symm.trans h1) (by decide)
  | 6, ⟨nm', ea, hw, hnm⟩ => subst ea; exact absurd (show wLIST = wCLOSED from (wAt_of hw 1).symm.trans h1) (by decide)
  | 7, ⟨nm', ea, hw, hnm⟩ => subst ea; exact absurd (show wGONE = wCLOSED from (wAt_of hw 1).symm.trans h1) (by decide)
  | 8, ⟨n', nm', ea, hw, hr, hnm⟩ => subst ea; exact absurd (show wSELECTED = wCLOSED from (wAt_of hw 1).symm.trans h1) (by decide)
  | 9, ⟨ea, hw, _⟩ => subst ea; rfl
  | 10, ⟨ea, hw, _⟩ => subst ea; exact absurd (show wOVERFLOW = wCLOSED from (wAt_of hw 1).symm.trans h1) (by decide)
  | 11, ⟨ea, hw, _⟩ => subst ea; exact absurd (show wBYE = wCLOSED from (wAt_of hw 1).symm.trans h1) (by decide)
  | 12, ⟨nm', ea, hw, hnm⟩ => subst ea; exact absurd (show wOK = wCLOSED from (wAt_of hw 1).symm.trans h1) (by decide)
  | 13, ⟨nm', ea, hw, hnm⟩ => subst ea; exact absurd (show wNO = wCLOSED from (wAt_of hw 1).symm.trans h1) (by decide)
  | 14, ⟨nm', ea, hw, hnm⟩ => subst ea; exact absurd (show wBAD = wCLOSED from (wAt_of hw 1).symm.trans h1) (by decide)
  | 15, ⟨ea, hw, _⟩ => subst ea; exact absurd (show wIdle = wCLOSED from (wAt_of hw 1).symm.trans h1) (by decide)
  | 16, ⟨ea, hw, _⟩ => subst ea; exact absurd (show wHELLO = wCLOSED from (wAt_of hw 1).symm.trans h1) (by decide)
  | 0, hk => exact hk.elim
  | _ + 17, hk => exact hk.elim
theorem gs_10 {s : List UInt8} (h1 : wAt s 1 = wOVERFLOW) : GuessOf s ⟨10, 0, 0, 0, ⟨#[]⟩, ⟨#[]⟩⟩ := by
  intro a ha ht
  obtain ⟨k, hk⟩ := wd_of ha ht
  match k, hk with
  | 1, ⟨n', ea, hw, hr⟩ => subst ea; exact absurd ((wAt_of hw 1).symm.trans h1) (dec_up _ _ _ (by decide))
  | 2, ⟨n', ea, hw, hr⟩ => subst ea; exact absurd ((wAt_of hw 1).symm.trans h1) (dec_up _ _ _ (by decide))
  | 3, ⟨n', u', f', ea, hw, hr, hr2, hr3, hs3⟩ => subst ea; exact absurd ((wAt_of hw 1).symm.trans h1) (dec_up _ _ _ (by decide))
  | 4, ⟨n', tx', ea, hw, hr, hr2⟩ => subst ea; exact absurd ((wAt_of hw 1).symm.trans h1) (dec_up _ _ _ (by decide))
  | 5, ⟨n', u', nm', ea, hw, hr, hr2, hnm⟩ => subst ea; exact absurd (show wSTATUS = wOVERFLOW from (wAt_of hw 1).symm.trans h1) (by decide)
  | 6, ⟨nm', ea, hw, hnm⟩ => subst ea; exact absurd (show wLIST = wOVERFLOW from (wAt_of hw 1).symm.trans h1) (by decide)
  | 7, ⟨nm', ea, hw, hnm⟩ => subst ea; exact absurd (show wGONE = wOVERFLOW from (wAt_of hw 1).symm.trans h1) (by decide)
  | 8, ⟨n', nm', ea, hw, hr, hnm⟩ => subst ea; exact absurd (show wSELECTED = wOVERFLOW from (wAt_of hw 1).symm.trans h1) (by decide)
  | 9, ⟨ea, hw, _⟩ => subst ea; exact absurd (show wCLOSED = wOVERFLOW from (wAt_of hw 1).symm.trans h1) (by decide)
  | 10, ⟨ea, hw, _⟩ => subst ea; rfl
  | 11, ⟨ea, hw, _⟩ => subst ea; exact absurd (show wBYE = wOVERFLOW from (wAt_of hw 1).symm.trans h1) (by decide)
  | 12, ⟨nm', ea, hw, hnm⟩ => subst ea; exact absurd (show wOK = wOVERFLOW from (wAt_of hw 1).symm.trans h1) (by decide)
  | 13, ⟨nm', ea, hw, hnm⟩ => subst ea; exact absurd (show wNO = wOVERFLOW from (wAt_of hw 1).symm.trans h1) (by decide)
  | 14, ⟨nm', ea, hw, hnm⟩ => subst ea; exact absurd (show wBAD = wOVERFLOW from (wAt_of hw 1).symm.trans h1) (by decide)
  | 15, ⟨ea, hw, _⟩ => subst ea; exact absurd (show wIdle = wOVERFLOW from (wAt_of hw 1).symm.trans h1) (by decide)
  | 16, ⟨ea, hw, _⟩ => subst ea; exact absurd (show wHELLO = wOVERFLOW from (wAt_of hw 1).symm.trans h1) (by decide)
  | 0, hk => exact hk.elim
  | _ + 17, hk => exact hk.elim
theorem gs_11 {s : List UInt8} (h1 : wAt s 1 = wBYE) : GuessOf s ⟨11, 0, 0, 0, ⟨#[]⟩, ⟨#[]⟩⟩ := by
  intro a ha ht
  obtain ⟨k, hk⟩ := wd_of ha ht
  match k, hk with
  | 1, ⟨n', ea, hw, hr⟩ => subst ea; exact absurd ((wAt_of hw 1).symm.trans h1) (dec_up _ _ _ (by decide))
  | 2, ⟨n', ea, hw, hr⟩ => subst ea; exact absurd ((wAt_of hw 1).symm.trans h1) (dec_up _ _ _ (by decide))
  | 3, ⟨n', u', f', ea, hw, hr, hr2, hr3, hs3⟩ => subst ea; exact absurd ((wAt_of hw 1).symm.trans h1) (dec_up _ _ _ (by decide))
  | 4, ⟨n', tx', ea, hw, hr, hr2⟩ => subst ea; exact absurd ((wAt_of hw 1).symm.trans h1) (dec_up _ _ _ (by decide))
  | 5, ⟨n', u', nm', ea, hw, hr, hr2, hnm⟩ => subst ea; exact absurd (show wSTATUS = wBYE from (wAt_of hw 1).symm.trans h1) (by decide)
  | 6, ⟨nm', ea, hw, hnm⟩ => subst ea; exact absurd (show wLIST = wBYE from (wAt_of hw 1).symm.trans h1) (by decide)
  | 7, ⟨nm', ea, hw, hnm⟩ => subst ea; exact absurd (show wGONE = wBYE from (wAt_of hw 1).symm.trans h1) (by decide)
  | 8, ⟨n', nm', ea, hw, hr, hnm⟩ => subst ea; exact absurd (show wSELECTED = wBYE from (wAt_of hw 1).symm.trans h1) (by decide)
  | 9, ⟨ea, hw, _⟩ => subst ea; exact absurd (show wCLOSED = wBYE from (wAt_of hw 1).symm.trans h1) (by decide)
  | 10, ⟨ea, hw, _⟩ => subst ea; exact absurd (show wOVERFLOW = wBYE from (wAt_of hw 1).symm.trans h1) (by decide)
  | 11, ⟨ea, hw, _⟩ => subst ea; rfl
  | 12, ⟨nm', ea, hw, hnm⟩ => subst ea; exact absurd (show wOK = wBYE from (wAt_of hw 1).symm.trans h1) (by decide)
  | 13, ⟨nm', ea, hw, hnm⟩ => subst ea; exact absurd (show wNO = wBYE from (wAt_of hw 1).symm.trans h1) (by decide)
  | 14, ⟨nm', ea, hw, hnm⟩ => subst ea; exact absurd (show wBAD = wBYE from (wAt_of hw 1).symm.trans h1) (by decide)
  | 15, ⟨ea, hw, _⟩ => subst ea; exact absurd (show wIdle = wBYE from (wAt_of hw 1).symm.trans h1) (by decide)
  | 16, ⟨ea, hw, _⟩ => subst ea; exact absurd (show wHELLO = wBYE from (wAt_of hw 1).symm.trans h1) (by decide)
  | 0, hk => exact hk.elim
  | _ + 17, hk => exact hk.elim
theorem gs_16 {s : List UInt8} (h1 : wAt s 1 = wHELLO) : GuessOf s ⟨16, 0, 0, 0, ⟨#[]⟩, ⟨#[]⟩⟩ := by
  intro a ha ht
  obtain ⟨k, hk⟩ := wd_of ha ht
  match k, hk with
  | 1, ⟨n', ea, hw, hr⟩ => subst ea; exact absurd ((wAt_of hw 1).symm.trans h1) (dec_up _ _ _ (by decide))
  | 2, ⟨n', ea, hw, hr⟩ => subst ea; exact absurd ((wAt_of hw 1).symm.trans h1) (dec_up _ _ _ (by decide))
  | 3, ⟨n', u', f', ea, hw, hr, hr2, hr3, hs3⟩ => subst ea; exact absurd ((wAt_of hw 1).symm.trans h1) (dec_up _ _ _ (by decide))
  | 4, ⟨n', tx', ea, hw, hr, hr2⟩ => subst ea; exact absurd ((wAt_of hw 1).symm.trans h1) (dec_up _ _ _ (by decide))
  | 5, ⟨n', u', nm', ea, hw, hr, hr2, hnm⟩ => subst ea; exact absurd (show wSTATUS = wHELLO from (wAt_of hw 1).symm.trans h1) (by decide)
  | 6, ⟨nm', ea, hw, hnm⟩ => subst ea; exact absurd (show wLIST = wHELLO from (wAt_of hw 1).symm.trans h1) (by decide)
  | 7, ⟨nm', ea, hw, hnm⟩ => subst ea; exact absurd (show wGONE = wHELLO from (wAt_of hw 1).symm.trans h1) (by decide)
  | 8, ⟨n', nm', ea, hw, hr, hnm⟩ => subst ea; exact absurd (show wSELECTED = wHELLO from (wAt_of hw 1).symm.trans h1) (by decide)
  | 9, ⟨ea, hw, _⟩ => subst ea; exact absurd (show wCLOSED = wHELLO from (wAt_of hw 1).symm.trans h1) (by decide)
  | 10, ⟨ea, hw, _⟩ => subst ea; exact absurd (show wOVERFLOW = wHELLO from (wAt_of hw 1).symm.trans h1) (by decide)
  | 11, ⟨ea, hw, _⟩ => subst ea; exact absurd (show wBYE = wHELLO from (wAt_of hw 1).symm.trans h1) (by decide)
  | 12, ⟨nm', ea, hw, hnm⟩ => subst ea; exact absurd (show wOK = wHELLO from (wAt_of hw 1).symm.trans h1) (by decide)
  | 13, ⟨nm', ea, hw, hnm⟩ => subst ea; exact absurd (show wNO = wHELLO from (wAt_of hw 1).symm.trans h1) (by decide)
  | 14, ⟨nm', ea, hw, hnm⟩ => subst ea; exact absurd (show wBAD = wHELLO from (wAt_of hw 1).symm.trans h1) (by decide)
  | 15, ⟨ea, hw, _⟩ => subst ea; exact absurd (show wIdle = wHELLO from (wAt_of hw 1).symm.trans h1) (by decide)
  | 16, ⟨ea, hw, _⟩ => subst ea; rfl
  | 0, hk => exact hk.elim
  | _ + 17, hk => exact hk.elim
theorem gs_12 {s : List UInt8} (h1 : wAt s 1 = wOK) : GuessOf s ⟨12, 0, 0, 0, bs (wAt s 0), ⟨#[]⟩⟩ := by
  intro a ha ht
  obtain ⟨k, hk⟩ := wd_of ha ht
  match k, hk with
  | 1, ⟨n', ea, hw, hr⟩ => subst ea; exact absurd ((wAt_of hw 1).symm.trans h1) (dec_up _ _ _ (by decide))
  | 2, ⟨n', ea, hw, hr⟩ => subst ea; exact absurd ((wAt_of hw 1).symm.trans h1) (dec_up _ _ _ (by decide))
  | 3, ⟨n', u', f', ea, hw, hr, hr2, hr3, hs3⟩ => subst ea; exact absurd ((wAt_of hw 1).symm.trans h1) (dec_up _ _ _ (by decide))
  | 4, ⟨n', tx', ea, hw, hr, hr2⟩ => subst ea; exact absurd ((wAt_of hw 1).symm.trans h1) (dec_up _ _ _ (by decide))
  | 5, ⟨n', u', nm', ea, hw, hr, hr2, hnm⟩ => subst ea; exact absurd (show wSTATUS = wOK from (wAt_of hw 1).symm.trans h1) (by decide)
  | 6, ⟨nm', ea, hw, hnm⟩ => subst ea; exact absurd (show wLIST = wOK from (wAt_of hw 1).symm.trans h1) (by decide)
  | 7, ⟨nm', ea, hw, hnm⟩ => subst ea; exact absurd (show wGONE = wOK from (wAt_of hw 1).symm.trans h1) (by decide)
  | 8, ⟨n', nm', ea, hw, hr, hnm⟩ => subst ea; exact absurd (show wSELECTED = wOK from (wAt_of hw 1).symm.trans h1) (by decide)
  | 9, ⟨ea, hw, _⟩ => subst ea; exact absurd (show wCLOSED = wOK from (wAt_of hw 1).symm.trans h1) (by decide)
  | 10, ⟨ea, hw, _⟩ => subst ea; exact absurd (show wOVERFLOW = wOK from (wAt_of hw 1).symm.trans h1) (by decide)
  | 11, ⟨ea, hw, _⟩ => subst ea; exact absurd (show wBYE = wOK from (wAt_of hw 1).symm.trans h1) (by decide)
  | 12, ⟨nm', ea, hw, hnm⟩ => subst ea; rw [(congrArg bs (wAt_of hw 0)).trans (bs_of nm')]
  | 13, ⟨nm', ea, hw, hnm⟩ => subst ea; exact absurd (show wNO = wOK from (wAt_of hw 1).symm.trans h1) (by decide)
  | 14, ⟨nm', ea, hw, hnm⟩ => subst ea; exact absurd (show wBAD = wOK from (wAt_of hw 1).symm.trans h1) (by decide)
  | 15, ⟨ea, hw, _⟩ => subst ea; exact absurd (show wIdle = wOK from (wAt_of hw 1).symm.trans h1) (by decide)
  | 16, ⟨ea, hw, _⟩ => subst ea; exact absurd (show wHELLO = wOK from (wAt_of hw 1).symm.trans h1) (by decide)
  | 0, hk => exact hk.elim
  | _ + 17, hk => exact hk.elim
theorem gs_13 {s : List UInt8} (h1 : wAt s 1 = wNO) : GuessOf s ⟨13, 0, 0, 0, bs (wAt s 0), ⟨#[]⟩⟩ := by
  intro a ha ht
  obtain ⟨k, hk⟩ := wd_of ha ht
  match k, hk with
  | 1, ⟨n', ea, hw, hr⟩ => subst ea; exact absurd ((wAt_of hw 1).symm.trans h1) (dec_up _ _ _ (by decide))
  | 2, ⟨n', ea, hw, hr⟩ => subst ea; exact absurd ((wAt_of hw 1).symm.trans h1) (dec_up _ _ _ (by decide))
  | 3, ⟨n', u', f', ea, hw, hr, hr2, hr3, hs3⟩ => subst ea; exact absurd ((wAt_of hw 1).symm.trans h1) (dec_up _ _ _ (by decide))
  | 4, ⟨n', tx', ea, hw, hr, hr2⟩ => subst ea; exact absurd ((wAt_of hw 1).symm.trans h1) (dec_up _ _ _ (by decide))
  | 5, ⟨n', u', nm', ea, hw, hr, hr2, hnm⟩ => subst ea; exact absurd (show wSTATUS = wNO from (wAt_of hw 1).symm.trans h1) (by decide)
  | 6, ⟨nm', ea, hw, hnm⟩ => subst ea; exact absurd (show wLIST = wNO from (wAt_of hw 1).symm.trans h1) (by decide)
  | 7, ⟨nm', ea, hw, hnm⟩ => subst ea; exact absurd (show wGONE = wNO from (wAt_of hw 1).symm.trans h1) (by decide)
  | 8, ⟨n', nm', ea, hw, hr, hnm⟩ => subst ea; exact absurd (show wSELECTED = wNO from (wAt_of hw 1).symm.trans h1) (by decide)
  | 9, ⟨ea, hw, _⟩ => subst ea; exact absurd (show wCLOSED = wNO from (wAt_of hw 1).symm.trans h1) (by decide)
  | 10, ⟨ea, hw, _⟩ => subst ea; exact absurd (show wOVERFLOW = wNO from (wAt_of hw 1).symm.trans h1) (by decide)
  | 11, ⟨ea, hw, _⟩ => subst ea; exact absurd (show wBYE = wNO from (wAt_of hw 1).symm.trans h1) (by decide)
  | 12, ⟨nm', ea, hw, hnm⟩ => subst ea; exact absurd (show wOK = wNO from (wAt_of hw 1).symm.trans h1) (by decide)
  | 13, ⟨nm', ea, hw, hnm⟩ => subst ea; rw [(congrArg bs (wAt_of hw 0)).trans (bs_of nm')]
  | 14, ⟨nm', ea, hw, hnm⟩ => subst ea; exact absurd (show wBAD = wNO from (wAt_of hw 1).symm.trans h1) (by decide)
  | 15, ⟨ea, hw, _⟩ => subst ea; exact absurd (show wIdle = wNO from (wAt_of hw 1).symm.trans h1) (by decide)
  | 16, ⟨ea, hw, _⟩ => subst ea; exact absurd (show wHELLO = wNO from (wAt_of hw 1).symm.trans h1) (by decide)
  | 0, hk => exact hk.elim
  | _ + 17, hk => exact hk.elim
theorem gs_14 {s : List UInt8} (h1 : wAt s 1 = wBAD) : GuessOf s ⟨14, 0, 0, 0, bs (wAt s 0), ⟨#[]⟩⟩ := by
  intro a ha ht
  obtain ⟨k, hk⟩ := wd_of ha ht
  match k, hk with
  | 1, ⟨n', ea, hw, hr⟩ => subst ea; exact absurd ((wAt_of hw 1).symm.trans h1) (dec_up _ _ _ (by decide))
  | 2, ⟨n', ea, hw, hr⟩ => subst ea; exact absurd ((wAt_of hw 1).symm.trans h1) (dec_up _ _ _ (by decide))
  | 3, ⟨n', u', f', ea, hw, hr, hr2, hr3, hs3⟩ => subst ea; exact absurd ((wAt_of hw 1).symm.trans h1) (dec_up _ _ _ (by decide))
  | 4, ⟨n', tx', ea, hw, hr, hr2⟩ => subst ea; exact absurd ((wAt_of hw 1).symm.trans h1) (dec_up _ _ _ (by decide))
  | 5, ⟨n', u', nm', ea, hw, hr, hr2, hnm⟩ => subst ea; exact absurd (show wSTATUS = wBAD from (wAt_of hw 1).symm.trans h1) (by decide)
  | 6, ⟨nm', ea, hw, hnm⟩ => subst ea; exact absurd (show wLIST = wBAD from (wAt_of hw 1).symm.trans h1) (by decide)
  | 7, ⟨nm', ea, hw, hnm⟩ => subst ea; exact absurd (show wGONE = wBAD from (wAt_of hw 1).symm.trans h1) (by decide)
  | 8, ⟨n', nm', ea, hw, hr, hnm⟩ => subst ea; exact absurd (show wSELECTED = wBAD from (wAt_of hw 1).symm.trans h1) (by decide)
  | 9, ⟨ea, hw, _⟩ => subst ea; exact absurd (show wCLOSED = wBAD from (wAt_of hw 1).symm.trans h1) (by decide)
  | 10, ⟨ea, hw, _⟩ => subst ea; exact absurd (show wOVERFLOW = wBAD from (wAt_of hw 1).symm.trans h1) (by decide)
  | 11, ⟨ea, hw, _⟩ => subst ea; exact absurd (show wBYE = wBAD from (wAt_of hw 1).symm.trans h1) (by decide)
  | 12, ⟨nm', ea, hw, hnm⟩ => subst ea; exact absurd (show wOK = wBAD from (wAt_of hw 1).symm.trans h1) (by decide)
  | 13, ⟨nm', ea, hw, hnm⟩ => subst ea; exact absurd (show wNO = wBAD from (wAt_of hw 1).symm.trans h1) (by decide)
  | 14, ⟨nm', ea, hw, hnm⟩ => subst ea; rw [(congrArg bs (wAt_of hw 0)).trans (bs_of nm')]
  | 15, ⟨ea, hw, _⟩ => subst ea; exact absurd (show wIdle = wBAD from (wAt_of hw 1).symm.trans h1) (by decide)
  | 16, ⟨ea, hw, _⟩ => subst ea; exact absurd (show wHELLO = wBAD from (wAt_of hw 1).symm.trans h1) (by decide)
  | 0, hk => exact hk.elim
  | _ + 17, hk => exact hk.elim
theorem gs_15 {s : List UInt8} (h2 : Ne2 (wAt s 2)) (h1 : Ne1 (wAt s 1)) : GuessOf s ⟨15, 0, 0, 0, ⟨#[]⟩, ⟨#[]⟩⟩ := by
  intro a ha ht
  obtain ⟨k, hk⟩ := wd_of ha ht
  match k, hk with
  | 1, ⟨n', ea, hw, hr⟩ => subst ea; exact absurd (wAt_of hw 2) (h2.nexists)
  | 2, ⟨n', ea, hw, hr⟩ => subst ea; exact absurd (wAt_of hw 2) (h2.nexpunge)
  | 3, ⟨n', u', f', ea, hw, hr, hr2, hr3, hs3⟩ => subst ea; exact absurd (wAt_of hw 2) (h2.nfetch)
  | 4, ⟨n', tx', ea, hw, hr, hr2⟩ => subst ea; exact absurd (wAt_of hw 2) (h2.nbody)
  | 5, ⟨n', u', nm', ea, hw, hr, hr2, hnm⟩ => subst ea; exact absurd (wAt_of hw 1) (h1.nstatus)
  | 6, ⟨nm', ea, hw, hnm⟩ => subst ea; exact absurd (wAt_of hw 1) (h1.nlist)
  | 7, ⟨nm', ea, hw, hnm⟩ => subst ea; exact absurd (wAt_of hw 1) (h1.ngone)
  | 8, ⟨n', nm', ea, hw, hr, hnm⟩ => subst ea; exact absurd (wAt_of hw 1) (h1.nselected)
  | 9, ⟨ea, hw, _⟩ => subst ea; exact absurd (wAt_of hw 1) (h1.nclosed)
  | 10, ⟨ea, hw, _⟩ => subst ea; exact absurd (wAt_of hw 1) (h1.noverflow)
  | 11, ⟨ea, hw, _⟩ => subst ea; exact absurd (wAt_of hw 1) (h1.nbye)
  | 12, ⟨nm', ea, hw, hnm⟩ => subst ea; exact absurd (wAt_of hw 1) (h1.nok)
  | 13, ⟨nm', ea, hw, hnm⟩ => subst ea; exact absurd (wAt_of hw 1) (h1.nno)
  | 14, ⟨nm', ea, hw, hnm⟩ => subst ea; exact absurd (wAt_of hw 1) (h1.nbad)
  | 15, ⟨ea, hw, _⟩ => subst ea; rfl
  | 16, ⟨ea, hw, _⟩ => subst ea; exact absurd (wAt_of hw 1) (h1.nhello)
  | 0, hk => exact hk.elim
  | _ + 17, hk => exact hk.elim
/-- the reference's candidates -/
def candsL (s : List UInt8) (a c d f : Int) (t : ByteArray) : List DReply :=
  [⟨15, 0, 0, 0, ⟨#[]⟩, ⟨#[]⟩⟩, ⟨12, 0, 0, 0, bs (wAt s 0), ⟨#[]⟩⟩, ⟨13, 0, 0, 0, bs (wAt s 0), ⟨#[]⟩⟩, ⟨14, 0, 0, 0, bs (wAt s 0), ⟨#[]⟩⟩, ⟨9, 0, 0, 0, ⟨#[]⟩, ⟨#[]⟩⟩, ⟨10, 0, 0, 0, ⟨#[]⟩, ⟨#[]⟩⟩, ⟨11, 0, 0, 0, ⟨#[]⟩, ⟨#[]⟩⟩, ⟨16, 0, 0, 0, ⟨#[]⟩, ⟨#[]⟩⟩, ⟨1, a, 0, 0, ⟨#[]⟩, ⟨#[]⟩⟩, ⟨2, a, 0, 0, ⟨#[]⟩, ⟨#[]⟩⟩, ⟨6, 0, 0, 0, bs (wAt s 2), ⟨#[]⟩⟩, ⟨7, 0, 0, 0, bs (wAt s 2), ⟨#[]⟩⟩]
  ++ if 3 < (wordsL s).length then [⟨4, a, 0, 0, ⟨#[]⟩, t⟩, ⟨8, c, 0, 0, bs (wAt s 2), ⟨#[]⟩⟩, ⟨3, a, c, f, ⟨#[]⟩, ⟨#[]⟩⟩, ⟨5, c, d, 0, bs (wAt s 2), ⟨#[]⟩⟩] else []
theorem cand_in {s : List UInt8} {na nc nd f : Int} {t : ByteArray} (hn : NumIs (wAt s 1) na) (h : 3 < (wordsL s).length → NumIs (wAt s 3) nc ∧ NumIs (wAt s 4) nd ∧ TxIs (wAt s 3) t ∧ FlIs2 ((wordsL s).drop 4) f) {a : DReply} (ha : ReplyP a) (ht : txA a = s) : a ∈ candsL s na nc nd f t := by
  obtain ⟨k, hk⟩ := wd_of ha ht
  match k, hk with
  | 1, ⟨n', ea, hw, hr⟩ =>
    subst ea
    obtain rfl := num_of hn hr (wAt_of hw 1)
    simp [candsL]
  | 2, ⟨n', ea, hw, hr⟩ =>
    subst ea
    obtain rfl := num_of hn hr (wAt_of hw 1)
    simp [candsL]
  | 3, ⟨n', u', f', ea, hw, hr, hr2, hr3, hs3⟩ =>
    subst ea
    have h4 : 3 < (wordsL s).length := by (rw [hw]; have := parts_pos 32 (40 :: (flText f'.toNat ++ [41])) []; unfold wordsL; simp)
    obtain ⟨h3, h5, h6, h7⟩ := h h4
    obtain rfl := num_of hn hr (wAt_of hw 1)
    obtain rfl := num_of h3 hr2 (wAt_of hw 3)
    have e := h7 f'.toNat (by omega) (by rw [hw]; rfl)
    obtain rfl : f = f' := by omega
    unfold candsL
    rw [if_pos h4]
    simp
  | 4, ⟨n', tx', ea, hw, hr, hr2⟩ =>
    subst ea
    have h4 : 3 < (wordsL s).length := by (rw [hw]; simp)
    obtain ⟨h3, h5, h6, h7⟩ := h h4
    obtain rfl := num_of hn hr (wAt_of hw 1)
    obtain rfl : t = tx' := (h6 tx'.data.toList (wAt_of hw 3)).trans (bs_of _)
    unfold candsL
    rw [if_pos h4]
    simp
  | 5, ⟨n', u', nm', ea, hw, hr, hr2, hnm⟩ =>
    subst ea
    have h4 : 3 < (wordsL s).length := by (rw [hw]; simp)
    obtain ⟨h3, h5, h6, h7⟩ := h h4
    obtain rfl := num_of h3 hr (wAt_of hw 3)
    obtain rfl := num_of h5 hr2 (wAt_of hw 4)
    unfold candsL
    rw [if_pos h4, (congrArg bs (wAt_of hw 2)).trans (bs_of nm')]
    simp
  | 6, ⟨nm', ea, hw, hnm⟩ =>
    subst ea
    unfold candsL
    rw [(congrArg bs (wAt_of hw 2)).trans (bs_of nm')]
    simp
  | 7, ⟨nm', ea, hw, hnm⟩ =>
    subst ea
    unfold candsL
    rw [(congrArg bs (wAt_of hw 2)).trans (bs_of nm')]
    simp
  | 8, ⟨n', nm', ea, hw, hr, hnm⟩ =>
    subst ea
    have h4 : 3 < (wordsL s).length := by (rw [hw]; simp)
    obtain ⟨h3, h5, h6, h7⟩ := h h4
    obtain rfl := num_of h3 hr (wAt_of hw 3)
    unfold candsL
    rw [if_pos h4, (congrArg bs (wAt_of hw 2)).trans (bs_of nm')]
    simp
  | 9, ⟨ea, hw, _⟩ =>
    subst ea
    simp [candsL]
  | 10, ⟨ea, hw, _⟩ =>
    subst ea
    simp [candsL]
  | 11, ⟨ea, hw, _⟩ =>
    subst ea
    simp [candsL]
  | 12, ⟨nm', ea, hw, hnm⟩ =>
    subst ea
    unfold candsL
    rw [(congrArg bs (wAt_of hw 0)).trans (bs_of nm')]
    simp
  | 13, ⟨nm', ea, hw, hnm⟩ =>
    subst ea
    unfold candsL
    rw [(congrArg bs (wAt_of hw 0)).trans (bs_of nm')]
    simp
  | 14, ⟨nm', ea, hw, hnm⟩ =>
    subst ea
    unfold candsL
    rw [(congrArg bs (wAt_of hw 0)).trans (bs_of nm')]
    simp
  | 15, ⟨ea, hw, _⟩ =>
    subst ea
    simp [candsL]
  | 16, ⟨ea, hw, _⟩ =>
    subst ea
    simp [candsL]
  | 0, hk => exact hk.elim
  | _ + 17, hk => exact hk.elim
theorem words_two {s : List UInt8} {a : DReply} (ha : ReplyP a) (ht : txA a = s) : 2 ≤ (wordsL s).length := by
  obtain ⟨k, hk⟩ := wd_of ha ht
  match k, hk with
  | 1, ⟨n', ea, hw, hr⟩ => rw [hw]; simp
  | 2, ⟨n', ea, hw, hr⟩ => rw [hw]; simp
  | 3, ⟨n', u', f', ea, hw, hr, hr2, hr3, hs3⟩ => rw [hw]; simp
  | 4, ⟨n', tx', ea, hw, hr, hr2⟩ => rw [hw]; simp
  | 5, ⟨n', u', nm', ea, hw, hr, hr2, hnm⟩ => rw [hw]; simp
  | 6, ⟨nm', ea, hw, hnm⟩ => rw [hw]; simp
  | 7, ⟨nm', ea, hw, hnm⟩ => rw [hw]; simp
  | 8, ⟨n', nm', ea, hw, hr, hnm⟩ => rw [hw]; simp
  | 9, ⟨ea, hw, _⟩ => rw [hw]; simp
  | 10, ⟨ea, hw, _⟩ => rw [hw]; simp
  | 11, ⟨ea, hw, _⟩ => rw [hw]; simp
  | 12, ⟨nm', ea, hw, hnm⟩ => rw [hw]; simp
  | 13, ⟨nm', ea, hw, hnm⟩ => rw [hw]; simp
  | 14, ⟨nm', ea, hw, hnm⟩ => rw [hw]; simp
  | 15, ⟨ea, hw, _⟩ => rw [hw]; simp
  | 16, ⟨ea, hw, _⟩ => rw [hw]; simp
  | 0, hk => exact hk.elim
  | _ + 17, hk => exact hk.elim
theorem len_app (a b : List UInt8) : (a ++ b).length = a.length + b.length := List.length_append
theorem txt_len {a : DReply} (ha : ReplyP a) : (txA a).length ≤ 200 := by
  obtain ⟨k, n, u, f, nm, tx⟩ := a
  unfold ReplyP ReplyK at ha
  simp only at ha
  have key : ∀ x : Int, 0 ≤ x ∧ x ≤ 999999999 → (decDigits x.toNat).length ≤ 9 := fun x hx => dec_len9 (by omega)
  have kn : ∀ b : ByteArray, b.data.toList.length = b.size := fun b => by simp
  unfold txA
  simp only
  rcases ha with ⟨rfl, h1, rfl, rfl, rfl, rfl⟩ | ⟨rfl, h1, rfl, rfl, rfl, rfl⟩ | ⟨rfl, h1, h2, h3, rfl, rfl⟩ | ⟨rfl, h1, h2, rfl, rfl, rfl⟩ | ⟨rfl, h1, h2, h3, rfl, rfl⟩ | ⟨rfl, h1, rfl, rfl, rfl, rfl⟩ | ⟨rfl, h1, rfl, rfl, rfl, rfl⟩ | ⟨rfl, h1, h2, rfl, rfl, rfl⟩ | ⟨rfl, rfl, rfl, rfl, rfl, rfl⟩ | ⟨rfl, rfl, rfl, rfl, rfl, rfl⟩ | ⟨rfl, rfl, rfl, rfl, rfl, rfl⟩ | ⟨rfl, h1, rfl, rfl, rfl, rfl⟩ | ⟨rfl, h1, rfl, rfl, rfl, rfl⟩ | ⟨rfl, h1, rfl, rfl, rfl, rfl⟩ | ⟨rfl, rfl, rfl, rfl, rfl, rfl⟩ | ⟨rfl, rfl, rfl, rfl, rfl, rfl⟩
  · rw [txt_1]; (have := key n (by omega)); simp only [List.length_cons, len_app, List.length_nil, wEXISTS, wEXPUNGE, wFETCH, wBODY, wSTATUS, wLIST, wGONE, wSELECTED, wCLOSED, wOVERFLOW, wBYE, wHELLO, wOK, wNO, wBAD, wIdle]; omega
  · rw [txt_2]; (have := key n (by omega)); simp only [List.length_cons, len_app, List.length_nil, wEXISTS, wEXPUNGE, wFETCH, wBODY, wSTATUS, wLIST, wGONE, wSELECTED, wCLOSED, wOVERFLOW, wBYE, wHELLO, wOK, wNO, wBAD, wIdle]; omega
  · rw [txt_3]; (have := key n (by omega)); (have := key u (by omega)); (have := flText_len f.toNat (by omega)); simp only [List.length_cons, len_app, List.length_nil, wEXISTS, wEXPUNGE, wFETCH, wBODY, wSTATUS, wLIST, wGONE, wSELECTED, wCLOSED, wOVERFLOW, wBYE, wHELLO, wOK, wNO, wBAD, wIdle]; omega
  · rw [txt_4]; (have := key n (by omega)); (have := hexL_len tx.data.toList (by rw [kn]; exact h2)); simp only [List.length_cons, len_app, List.length_nil, wEXISTS, wEXPUNGE, wFETCH, wBODY, wSTATUS, wLIST, wGONE, wSELECTED, wCLOSED, wOVERFLOW, wBYE, wHELLO, wOK, wNO, wBAD, wIdle]; omega
  · rw [txt_5]; (have := key n (by omega)); (have := key u (by omega)); (have := name_len h3); simp only [List.length_cons, len_app, List.length_nil, wEXISTS, wEXPUNGE, wFETCH, wBODY, wSTATUS, wLIST, wGONE, wSELECTED, wCLOSED, wOVERFLOW, wBYE, wHELLO, wOK, wNO, wBAD, wIdle]; omega
  · rw [txt_6]; (have := name_len h1); simp only [List.length_cons, len_app, List.length_nil, wEXISTS, wEXPUNGE, wFETCH, wBODY, wSTATUS, wLIST, wGONE, wSELECTED, wCLOSED, wOVERFLOW, wBYE, wHELLO, wOK, wNO, wBAD, wIdle]; omega
  · rw [txt_7]; (have := name_len h1); simp only [List.length_cons, len_app, List.length_nil, wEXISTS, wEXPUNGE, wFETCH, wBODY, wSTATUS, wLIST, wGONE, wSELECTED, wCLOSED, wOVERFLOW, wBYE, wHELLO, wOK, wNO, wBAD, wIdle]; omega
  · rw [txt_8]; (have := key n (by omega)); (have := name_len h2); simp only [List.length_cons, len_app, List.length_nil, wEXISTS, wEXPUNGE, wFETCH, wBODY, wSTATUS, wLIST, wGONE, wSELECTED, wCLOSED, wOVERFLOW, wBYE, wHELLO, wOK, wNO, wBAD, wIdle]; omega
  · rw [txt_9]; decide
  · rw [txt_10]; decide
  · rw [txt_11]; decide
  · rw [txt_12]; (have := tag_len h1); simp only [List.length_cons, len_app, List.length_nil, wEXISTS, wEXPUNGE, wFETCH, wBODY, wSTATUS, wLIST, wGONE, wSELECTED, wCLOSED, wOVERFLOW, wBYE, wHELLO, wOK, wNO, wBAD, wIdle]; omega
  · rw [txt_13]; (have := tag_len h1); simp only [List.length_cons, len_app, List.length_nil, wEXISTS, wEXPUNGE, wFETCH, wBODY, wSTATUS, wLIST, wGONE, wSELECTED, wCLOSED, wOVERFLOW, wBYE, wHELLO, wOK, wNO, wBAD, wIdle]; omega
  · rw [txt_14]; (have := tag_len h1); simp only [List.length_cons, len_app, List.length_nil, wEXISTS, wEXPUNGE, wFETCH, wBODY, wSTATUS, wLIST, wGONE, wSELECTED, wCLOSED, wOVERFLOW, wBYE, wHELLO, wOK, wNO, wBAD, wIdle]; omega
  · rw [txt_15]; decide
  · rw [txt_16]; decide
theorem txt_ne {a : DReply} (ha : ReplyP a) : txA a ≠ [] := fun h => by
  have h1 := words_two ha h
  revert h1; decide
/-- how a text is read: the reply, whether there is one -/
def Read0 (s : List UInt8) (r : DReply) (ok : Bool) : Prop := (ok = true ∧ ReplyP r ∧ txA r = s) ∨ (ok = false ∧ r = ⟨0, 0, 0, 0, ⟨#[]⟩, ⟨#[]⟩⟩ ∧ ∀ a, ReplyP a → txA a ≠ s)
def ReadU (s : List UInt8) (r : DReply) (ok : Bool) : Prop := ((ok = true ∧ ReplyP r ∧ txA r = s) ∨ (ok = false ∧ r = ⟨0, 0, 0, 0, ⟨#[]⟩, ⟨#[]⟩⟩)) ∧ ∀ a, ReplyP a → txA a = s → a = r ∧ ok = true
theorem read_eq {s : List UInt8} {r r' : DReply} {ok ok' : Bool} (h : ReadU s r ok) (h' : Read0 s r' ok') : r' = r ∧ ok' = ok := by
  rcases h' with ⟨h1, h2, h3⟩ | ⟨h1, h2, h3⟩
  · obtain ⟨e1, e2⟩ := h.2 r' h2 h3
    exact ⟨e1, by rw [h1, e2]⟩
  · rcases h.1 with ⟨g1, g2, g3⟩ | ⟨g1, g2⟩
    · exact absurd g3 (h3 r g2)
    · exact ⟨by rw [h2, g2], by rw [h1, g1]⟩
theorem ReadU.zero {s : List UInt8} {r : DReply} {ok : Bool} (h : ReadU s r ok) (ho : ok = false) (a : DReply) (ha : ReplyP a) : txA a ≠ s := fun e => by
  have := (h.2 a ha e).2
  rw [ho] at this; cases this
theorem read_guess {s : List UInt8} {r : DReply} (h : GuessOf s r) (h1 : ReplyP r) (h2 : txA r = s) : ReadU s r true := ⟨Or.inl ⟨rfl, h1, h2⟩, fun a ha e => ⟨(h a ha e).symm, rfl⟩⟩
theorem read_not {s : List UInt8} {r : DReply} (h : GuessOf s r) (h1 : ¬ (ReplyP r ∧ txA r = s)) : ReadU s ⟨0, 0, 0, 0, ⟨#[]⟩, ⟨#[]⟩⟩ false :=
  ⟨Or.inr ⟨rfl, rfl⟩, fun a ha e => absurd ⟨(h a ha e) ▸ ha, (h a ha e) ▸ e⟩ h1⟩
/-- the words, put together again -/
theorem partsL_ne (c : UInt8) (l acc : List UInt8) : partsL c acc l ≠ [] := fun h => by have := parts_pos c l acc; rw [h] at this; simp at this
theorem join_parts (c : UInt8) : ∀ (l acc : List UInt8), join (partsL c acc l) [c] = acc ++ l
  | [], acc => by simp [partsL, join_one]
  | b :: t, acc => by
    unfold partsL
    split
    · rename_i h
      subst h
      have ih := join_parts b t []
      cases hp : partsL b [] t with
      | nil => exact absurd hp (partsL_ne _ _ _)
      | cons x r =>
        rw [hp] at ih
        rw [join_cons]
        rw [join_cons] at ih
        simp only [joinTail, List.map_cons, List.flatten_cons, List.nil_append] at ih ⊢
        rw [List.append_assoc, ih]; simp
    · rw [join_parts c t]; simp
theorem join_words (l : List UInt8) : join (wordsL l) [32] = l := join_parts 32 l []
/-- flags by their names -/
def upU (b : UInt8) : UInt8 := if 97 ≤ b.toNat ∧ b.toNat ≤ 122 then UInt8.ofNat (b.toNat - 32) else b
def upW (l : List UInt8) : List UInt8 := l.map upU
def upNames : List (List UInt8) := [[83, 69, 69, 78], [65, 78, 83, 87, 69, 82, 69, 68], [70, 76, 65, 71, 71, 69, 68], [68, 69, 76, 69, 84, 69, 68], [68, 82, 65, 70, 84]]
def fIdx (w : List UInt8) : List (List UInt8) → Nat → Option Nat
  | [], _ => none
  | x :: t, i => if x = upW w then some i else fIdx w t (i + 1)
/-- reading names of flags, one by one -/
def rfK (bits : Nat) : List (List UInt8) → Option Nat
  | [] => some bits
  | w :: t => match fIdx w upNames 0 with
    | none => none
    | some i => if bits / 2 ^ i % 2 = 1 then none else rfK (bits + 2 ^ i) t
def rfV (ws : List (List UInt8)) : Int := match rfK 0 ws with | some b => (b : Int) | none => 0
theorem rf_names : ∀ f : Fin 32, rfV (flNames f.val) = (f.val : Int) := by decide +kernel
theorem rf_words : ∀ f : Fin 32, f.val ≠ 0 → rfV (wordsL (flText f.val)) = (f.val : Int) := by decide +kernel
theorem fl_fields : ∀ f : Fin 32, fieldsD (flText f.val) = flNames f.val := by decide +kernel
theorem cut_par (p t : List UInt8) (h : (40 : UInt8) ∉ p) : (cut (p ++ 40 :: t) [40]).2.1 = t := by
  have hno : NoOcc (p ++ 40 :: t) [40] p.length := by
    intro j hj
    unfold occAt
    rw [List.drop_append_of_le_length (by omega), List.drop_eq_getElem_cons hj]
    have : p[j] ≠ 40 := fun e => h (by rw [← e]; exact List.getElem_mem hj)
    rw [List.cons_append]
    show ((40 : UInt8) == p[j] && _) = false
    rw [beq_false_of_ne (Ne.symm this)]
    rfl
  have hi : index (p ++ 40 :: t) [40] = p.length := index_hit hno (by simp) (by simp [occAt])
  unfold cut
  rw [hi, if_pos (by omega)]
  simp
theorem trim_par (t : List UInt8) : trimSuffix (t ++ [41]) [41] = t := by
  unfold trimSuffix hasSuffix
  rw [if_pos (by simp)]
  simp
theorem fl_is {s : List UInt8} : FlIs s (rfV (fieldsD (trimSuffix (cut s [40]).2.1 [41]))) := by
  intro f p hf hp hs
  rw [hs, cut_par _ _ hp, trim_par, fl_fields ⟨f, by omega⟩]
  exact rf_names ⟨f, by omega⟩
/-- what the reference reads between the parentheses -/
def fl2 (ws : List (List UInt8)) : Int := if (join ws [32]).length < 3 then 0 else rfV (wordsL (((join ws [32]).take ((join ws [32]).length - 1)).drop 1))
theorem fl_is2 {ws : List (List UInt8)} : FlIs2 ws (fl2 ws) := by
  intro f hf hs
  unfold fl2
  rw [hs, join_words]
  have h0 := rf_words ⟨f, by omega⟩
  by_cases h : f = 0
  · subst h; decide +kernel
  · have e : ((40 :: (flText f ++ [41])).take ((40 :: (flText f ++ [41])).length - 1)).drop 1 = flText f := by simp
    have hl : ¬ (40 :: (flText f ++ [41])).length < 3 := by
      have : ∀ f : Fin 32, f.val ≠ 0 → ¬ (40 :: (flText f.val ++ [41])).length < 3 := by decide +kernel
      exact this ⟨f, by omega⟩ h
    rw [if_neg hl, e]
    exact h0 h
end Go.Proofs.YtidfhkdonhjgaaaGreatDoor
