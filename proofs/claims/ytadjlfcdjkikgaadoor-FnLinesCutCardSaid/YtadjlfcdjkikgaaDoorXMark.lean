/-
  The marks of the laws: the letter m and a number's digits, a function of the number alone.
  The laws' functions over slices of Msg: marks laid and looked at.
-/
import Derived.Test.YtadjlfcdjkikgaaDoorTy
import Derived.Test.YtadjlfcdjkikgaaDoorXOwn
namespace Go.Proofs.YtadjlfcdjkikgaaDoor
open Go.RowKit
set_option linter.unusedVariables false

theorem conv1 {P : Program} (w : World) (S E ST : TypeId) (hs : P.underlying S = some (.slice E)) (he : P.underlying E = some (.int .u8)) (hd : P.underlying ST = some .string) (x : Int) :
    (convert S ST (.slice (some ⟨w.heap.size, 0, none⟩) 1 1)).run P (w.alloc (.cells #[.int .u8 x] E)) = .ok (.string (strOfNums [x])) (w.alloc (.cells #[.int .u8 x] E)) :=
  run_convert_bytes_arg _ S E hs he w.heap.size 0 1 1 [x] rfl (fun i hi => by
    have h : i = 0 := by omega
    subst h
    simp [go_sem]) ST hd

def mtGo : Nat → Nat → List UInt8 → List UInt8
  | 0, _, acc => acc
  | f + 1, q, acc => if q = 0 then acc else mtGo f (q / 10) (UInt8.ofNat (48 + q % 10) :: acc)
/-- the mark of a number above 0 -/
def mtext (k : Int) : ByteArray := ⟨(109 :: mtGo k.toNat k.toNat []).toArray⟩

set_option maxRecDepth 10000 in
set_option maxHeartbeats 1000000 in
theorem markText_any (k : Int) (w : World) (h0 : 1 ≤ k) (h1 : k ≤ 1000000000) :
    Calls Tryd.prog 25 #[.int .i64 k] w fun e w' => e = .returned (.string (mtext k)) ∧ Ext w w' := by
  go_enter Tryd.func25, Tryd.ntmps25
  go_wp2_with fail
  go_loopw [0, 3] (fun kk o wr => ∃ (f q : Nat) (acc : List UInt8), acc.length ≤ 1000000000 ∧ Hid (f + acc.length = k.toNat) ∧ q ≤ f ∧ q ≤ 1000000000 ∧ kk = .int .i64 q ∧ o = .string ⟨acc.toArray⟩ ∧ Hid (mtGo f q acc = mtGo k.toNat k.toNat []) ∧ Below w.heap.size w wr) (fun kk _ _ => (intOf kk).toNat)
  case atStart => exact ⟨k.toNat, k.toNat, [], by simp, by simp [Hid], Nat.le_refl _, by omega, by simp; omega, rfl, rfl, Below.refl _ _⟩
  case round =>
    obtain ⟨f, q, acc, hal, HL, hqf, hq, rfl, rfl, HG, hb⟩ := hrel
    by_cases hq0 : 0 < q
    · have hcv := conv1 wr 41 5 9 Tryd.underlying41 Tryd.underlying5 Tryd.underlying9 (48 + (q : Int) % 10)
      have hst : strOfNums [48 + (q : Int) % 10] ++ (⟨acc.toArray⟩ : ByteArray) = ⟨(UInt8.ofNat (48 + q % 10) :: acc).toArray⟩ := by
        have h2 : (48 + (q : Int) % 10).toNat = 48 + q % 10 := by omega
        apply WideShapes.bytes_inj
        simp [strOfNums, h2]
      have hsz : (strOfNums [48 + (q : Int) % 10]).size = 1 := rfl
      have HS := Lib.hid hst
      clear hst
      go_wp2_with fail
      go_roundw
      case rel =>
        have hf : f = (f - 1) + 1 := by omega
        refine ⟨f - 1, q / 10, UInt8.ofNat (48 + q % 10) :: acc, ?_, ?_, by omega, by omega, by simp, by rw [HS.out], ?_, ?_⟩
        · have := HL.out; simp; omega
        · have := HL.out; unfold Hid; simp; omega
        · unfold Hid
          rw [← HG.out]
          conv => rhs; rw [hf]
          simp only [mtGo]
          rw [if_neg (by omega)]
        · exact hb.alloc hb.size _
      case measure => simp [intOf]; omega
    · go_wp2_with fail
      go_ret
      have hq1 : q = 0 := by omega
      subst hq1
      have hm : mtGo f 0 acc = acc := by cases f <;> simp [mtGo]
      have hg := HG.out
      rw [hm] at hg
      refine ⟨?_, hb⟩
      unfold mtext
      rw [← hg]
      rfl
end Go.Proofs.YtadjlfcdjkikgaaDoor

namespace Go.Proofs.YtadjlfcdjkikgaaDoor
open Go.RowKit
set_option linter.unusedVariables false
set_option linter.unusedSimpArgs false
def DMsg.mark (K : Int) : DMsg := ⟨K, K + 1, mtext (K + 1 + 1)⟩

end Go.Proofs.YtadjlfcdjkikgaaDoor
