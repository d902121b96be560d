/-
  The cursor of the draws: a block of three cells; what a draw may change of the world.
  The draws of a byte, of a number below another, of a truth.
  The draws that pick out of a row: texts, numbers; bytes; names.
  A new cursor over the bytes of a draw.
  The laws' own small functions: whether the bytes are too many; one of them.
-/
import Derived.Test.YtadjlfcdjkikgaaDoorXOwn
import Derived.Deep.DrawnRows
import Derived.IntWalk
import Derived.RegionTactic
import Derived.ChangeAlike
import Derived.Laws.BytesArg
namespace Go.Proofs.YtadjlfcdjkikgaaDoor
open Go.RowKit
set_option linter.unusedVariables false
set_option linter.unusedSimpArgs false

def byteCells (x : Int) : List Value := [.int .u8 x]
theorem byteCells_len (x : Int) : (byteCells x).length = 1 := rfl
theorem byteCells_at {w : World} {b o : Nat} {l : List Int} (h : At w b o (l.flatMap byteCells)) (k : Nat) (hk : k < l.length) : w.cell? ⟨b, o + k, none⟩ = some (.int .u8 l[k]) := by
  have := At.el byteCells_len h k hk 0 _ rfl
  simpa using this
theorem At.chg {S : Nat → Prop} {w w' : World} {b o : Nat} {xs : List Value} (h : At w b o xs) (hb : b < w.heap.size) (hw : Chg S w w') (hn : ¬ S b) : At w' b o xs := fun j u hu => (hw.cell hb hn).trans (h j u hu)
theorem Rd.chg {S : Nat → Prop} {w w' : World} {a : Option Addr} {c s n : Nat} {xs : List Value} (h : Rd w a c s n xs) (hw : Chg S w w') (hn : 0 < n → ∀ b o, a = some ⟨b, o, none⟩ → ¬ S b) : Rd w' a c s n xs :=
  ⟨h.len, h.nc, h.cm, fun h0 => let ⟨b, o, ha, hb, hat⟩ := h.ptr h0; ⟨b, o, ha, Nat.lt_of_lt_of_le hb hw.size, hat.chg hb hw (hn h0 b o ha)⟩⟩
/-- the cursor at block cb: the bytes, how many are read, the number that is mixed in -/
structure Cur (w : World) (cb : Nat) : Prop where
  lt : cb < w.heap.size
  frz : w.frozen? ⟨cb, 0, none⟩ = false ∧ w.frozen? ⟨cb, 1, none⟩ = false ∧ w.frozen? ⟨cb, 2, none⟩ = false
  row : ∃ (a : Option Addr) (c : Nat) (l : List Int) (i : Nat) (h : Int), w.cell? ⟨cb, 0, none⟩ = some (.slice a l.length c) ∧ w.cell? ⟨cb, 1, none⟩ = some (.int .i64 i) ∧ w.cell? ⟨cb, 2, none⟩ = some (.int .i64 h) ∧ i ≤ l.length ∧ l.length ≤ 1048576 ∧ (∀ y ∈ l, 0 ≤ y ∧ y ≤ 255) ∧ Rd w a c 1 l.length (l.flatMap byteCells) ∧ (0 < l.length → ∀ b o, a = some ⟨b, o, none⟩ → b < cb)
theorem Cur.chg {S : Nat → Prop} {w w' : World} {cb : Nat} (h : Cur w cb) (hw : Chg S w w') (hS : ∀ k, S k → cb < k) : Cur w' cb := by
  have hn : ¬ S cb := fun h => by have := hS cb h; omega
  obtain ⟨a, c, l, i, x, h0, h1, h2, h3, h4, h5, h6, h7⟩ := h.row
  refine ⟨Nat.lt_of_lt_of_le h.lt hw.size, ⟨(hw.frozen h.lt hn).trans h.frz.1, (hw.frozen h.lt hn).trans h.frz.2.1, (hw.frozen h.lt hn).trans h.frz.2.2⟩, a, c, l, i, x, (hw.cell h.lt hn).trans h0, (hw.cell h.lt hn).trans h1, (hw.cell h.lt hn).trans h2, h3, h4, h5, h6.chg hw (fun h0 b o e hb => ?_), h7⟩
  have := h7 h0 b o e
  have := hS b hb
  omega
theorem Cur.ext {w w' : World} {cb : Nat} (h : Cur w cb) (hw : Ext w w') : Cur w' cb := h.chg (S := fun _ => False) (Chg.ext hw) (fun _ h => h.elim)
/-- what a draw leaves: the cursor, and all else as it was -/
structure Dr (cb : Nat) (w w' : World) : Prop where
  cur : Cur w' cb
  chg : Chg (· = cb) w w'
  lt : cb < w.heap.size
theorem Dr.refl {w : World} {cb : Nat} (h : Cur w cb) : Dr cb w w := ⟨h, Chg.refl _ _, h.lt⟩
theorem Dr.trans {a b c : World} {cb : Nat} (h : Dr cb a b) (k : Dr cb b c) : Dr cb a c := ⟨k.cur, h.chg.trans k.chg, h.lt⟩
theorem Dr.on {S : Nat → Prop} {a b c : World} {cb : Nat} (h : Dr cb a b) (k : Chg S b c) (hS : ∀ x, S x → a.heap.size ≤ x) : Dr cb a c := by
  refine ⟨h.cur.chg k (fun x hx => Nat.lt_of_lt_of_le h.lt (hS x hx)), ⟨k.os.trans h.chg.os, k.tape.trans h.chg.tape, k.output.trans h.chg.output, Nat.le_trans h.chg.size k.size, fun x hx hn => (k.block x (Nat.lt_of_lt_of_le hx h.chg.size) (fun hs => ?_)).trans (h.chg.block x hx hn)⟩, h.lt⟩
  have := hS x hs
  omega
theorem Dr.ext {a b c : World} {cb : Nat} (h : Dr cb a b) (k : Ext b c) : Dr cb a c := h.on (S := fun _ => False) (Chg.ext k) (fun _ h => h.elim)
theorem Dr.alloc {a b : World} {cb : Nat} (h : Dr cb a b) (o : Obj) : Dr cb a (b.alloc o) := h.ext ((Below.refl _ _).alloc (Nat.le_refl _) _)
theorem Dr.drew {a b : World} {cb : Nat} (h : Dr cb a b) : Dr cb a b.drew := h.ext (Below.refl _ _).drew
theorem Dr.drewN {a b : World} {cb n : Nat} (h : Dr cb a b) : Dr cb a (b.drewN n) := h.ext (below_drewN (Below.refl _ _) _)
theorem Dr.setCell {a b : World} {cb : Nat} (h : Dr cb a b) {p : Addr} (hp : a.heap.size ≤ p.block) (u : Value) : Dr cb a (b.setCell p u) :=
  h.on (S := (· = p.block)) (Chg.grown (grown_so (World.grownBy.refl b (some p.block)) rfl u) (fun g e => (Option.some.inj e).symm)) (fun x hx => hx ▸ hp)
theorem Dr.grown {a b c : World} {cb : Nat} {row : Option Nat} (h : Dr cb a b) (k : b.grownBy c row) (hr : ∀ g, row = some g → a.heap.size ≤ g) : Dr cb a c :=
  h.on (S := fun x => row = some x) (Chg.grown k (fun _ e => e)) hr
theorem Dr.foot {B E s n : Nat} {v : Value} {xs : List Value} {a b c : World} {cb : Nat} (h : Dr cb a b) (ho : Own b B E s v n xs) (hB : a.heap.size ≤ B) (k : b.grownBy c (foot v)) : Dr cb a c :=
  h.grown k (fun g e => Nat.le_trans hB (ho.lt g e).1)
theorem Dr.size {a b : World} {cb : Nat} (h : Dr cb a b) : a.heap.size ≤ b.heap.size := h.chg.size
theorem Dr.cell {a b : World} {cb x o : Nat} (h : Dr cb a b) (hx : x < a.heap.size) (hn : x ≠ cb) : b.cell? ⟨x, o, none⟩ = a.cell? ⟨x, o, none⟩ := h.chg.cell hx hn
theorem Dr.frozen {a b : World} {cb x o : Nat} (h : Dr cb a b) (hx : x < a.heap.size) (hn : x ≠ cb) : b.frozen? ⟨x, o, none⟩ = a.frozen? ⟨x, o, none⟩ := h.chg.frozen hx hn
theorem dcell {W w1 : World} {cb : Nat} (h : Dr cb W w1) : (∀ b o, b < W.heap.size → b ≠ cb → w1.cell? ⟨b, o, none⟩ = W.cell? ⟨b, o, none⟩) ∧ (∀ b o, b < W.heap.size → b ≠ cb → w1.frozen? ⟨b, o, none⟩ = W.frozen? ⟨b, o, none⟩) :=
  ⟨fun b o hb hn => h.cell hb hn, fun b o hb hn => h.frozen hb hn⟩
theorem Own.dr {B E s n cb : Nat} {a b : World} {v : Value} {xs : List Value} (h : Own a B E s v n xs) (hd : Dr cb a b) (hB : cb < B) : Own b B E s v n xs :=
  h.chg hd.chg (fun k hk e => by have := (h.lt k hk).1; omega)
theorem Rd.dr {s n cb c : Nat} {a b : World} {x : Option Addr} {xs : List Value} (h : Rd a x c s n xs) (hd : Dr cb a b) (hB : 0 < n → ∀ k o, x = some ⟨k, o, none⟩ → k ≠ cb) : Rd b x c s n xs := h.chg hd.chg hB
theorem own_dr {B E s n cb : Nat} {a b : World} {v : Value} {xs : List Value} (h : a.ownsRow B E s v n xs) (hd : Dr cb a b) (hB : cb < B) : b.ownsRow B E s v n xs := by
  refine h.kept (row := some cb) ⟨hd.chg.os, hd.chg.tape, hd.chg.output, hd.chg.size, fun k hk hn => hd.chg.block k hk (fun e => hn (by rw [e]))⟩ ?_
  cases hv : v.ownBlock with
  | none => exact Or.inl rfl
  | some g => exact Or.inr (fun e => by have := (h.lt g hv).1; have : g = cb := Option.some.inj e; omega)
/-- the same over a region that draws -/
abbrev DrS (cb : Nat) (W w' : World) : Prop := Dr cb W w' ∧ (∀ b o, b < W.heap.size → b ≠ cb → w'.cell? ⟨b, o, none⟩ = W.cell? ⟨b, o, none⟩)
theorem DrS.of {cb : Nat} {W w' : World} (h : Dr cb W w') : DrS cb W w' := ⟨h, fun b o hb hn => h.cell hb hn⟩
theorem DrS.beg {cb : Nat} {W : World} (h : Cur W cb) : DrS cb W W.drew := .of (Dr.refl h).drew
theorem chg_set (w : World) (b o : Nat) (u : Value) : Chg (· = b) w (w.setCell ⟨b, o, none⟩ u) := Chg.grown (grown_so (World.grownBy.refl w (some b)) rfl u) (fun g e => (Option.some.inj e).symm)
theorem cell_set_ne {w : World} {b o p : Nat} {u v : Value} (h : w.cell? ⟨b, o, none⟩ = some v) (hne : p ≠ o) : (w.setCell ⟨b, p, none⟩ u).cell? ⟨b, o, none⟩ = some v := by simp [go_sem, h, hne]
theorem cell_set_eq {w : World} {b o : Nat} {u v : Value} (h : w.cell? ⟨b, o, none⟩ = some v) : (w.setCell ⟨b, o, none⟩ u).cell? ⟨b, o, none⟩ = some u := by simp [go_sem, h]
theorem frz_set {w : World} {b o p : Nat} {u : Value} (h : w.frozen? ⟨b, o, none⟩ = false) : (w.setCell ⟨b, p, none⟩ u).frozen? ⟨b, o, none⟩ = false := by simp [go_sem, h]
/-- the cursor's own writes -/
theorem Dr.setH {a b : World} {cb : Nat} (h : Dr cb a b) (z : Int) : Dr cb a (b.setCell ⟨cb, 2, none⟩ (.int .i64 z)) := by
  obtain ⟨x, c, l, i, y, h0, h1, h2, h3, h4, h5, h6, h7⟩ := h.cur.row
  refine ⟨⟨by have := h.cur.lt; simpa using this, ⟨frz_set h.cur.frz.1, frz_set h.cur.frz.2.1, frz_set h.cur.frz.2.2⟩, x, c, l, i, z, cell_set_ne h0 (by omega), cell_set_ne h1 (by omega), cell_set_eq h2, h3, h4, h5, h6.chg (chg_set b cb 2 _) (fun h0 k o e hk => ?_), h7⟩, h.chg.trans (chg_set b cb 2 _), h.lt⟩
  have := h7 h0 k o e
  have : k = cb := hk
  omega
theorem Dr.setI {a b : World} {cb : Nat} (h : Dr cb a b) (x : Option Addr) (n c i : Nat) (hc : b.cell? ⟨cb, 0, none⟩ = some (.slice x n c)) (hi : i ≤ n) (z : Int) (hz : z = i) : Dr cb a (b.setCell ⟨cb, 1, none⟩ (.int .i64 z)) := by
  subst hz
  obtain ⟨x', c', l, i', y, h0, h1, h2, h3, h4, h5, h6, h7⟩ := h.cur.row
  rw [hc] at h0
  obtain ⟨rfl, rfl, rfl⟩ : x = x' ∧ n = l.length ∧ c = c' := by simpa using h0
  refine ⟨⟨by have := h.cur.lt; simpa using this, ⟨frz_set h.cur.frz.1, frz_set h.cur.frz.2.1, frz_set h.cur.frz.2.2⟩, x, c, l, i, y, cell_set_ne hc (by omega), cell_set_eq h1, cell_set_ne h2 (by omega), hi, h4, h5, h6.chg (chg_set b cb 1 _) (fun h0 k o e hk => ?_), h7⟩, h.chg.trans (chg_set b cb 1 _), h.lt⟩
  have := h7 h0 k o e
  have : k = cb := hk
  omega
theorem and255 (x : Int) : 0 ≤ bits .and .i64 x 255 ∧ bits .and .i64 x 255 ≤ 255 := by
  have h : (BitVec.ofInt 64 x &&& BitVec.ofInt 64 255).toNat ≤ 255 := by
    rw [BitVec.toNat_and]
    exact Nat.le_trans Nat.and_le_right (by decide)
  have h2 : bits .and .i64 x 255 = IntKind.i64.wrap ((BitVec.ofInt 64 x &&& BitVec.ofInt 64 255).toNat : Int) := rfl
  rw [h2, IntWalk.i64_in _ (by omega)]
  omega
/-- a number, a truth, a text that is drawn -/
def DrI (P : Int → Prop) (cb : Nat) (w : World) (e : Ending) (w' : World) : Prop := ∃ v : Int, P v ∧ e = .returned (.int .i64 v) ∧ Dr cb w w'
def DrB (cb : Nat) (w : World) (e : Ending) (w' : World) : Prop := ∃ v : Bool, e = .returned (.bool v) ∧ Dr cb w w'
def DrT (n : Nat) (cb : Nat) (w : World) (e : Ending) (w' : World) : Prop := ∃ v : ByteArray, v.size ≤ n ∧ e = .returned (.string v) ∧ Dr cb w w'
theorem Own.dr0 {B E s n cb : Nat} {a b : World} {v : Value} {xs : List Value} (h : Own a B E s v n xs) (hd : Dr cb a b) (hB : cb < B) (b' : Nat) (hb : b' ≤ B) : Own b b' E s v n xs := (h.dr hd hB).le hb
theorem Dr.of_cur {cb : Nat} {a b : World} (h : Dr cb a b) : Cur b cb := h.cur
/-- a box: its cells, none of them frozen -/
def Bx (w : World) (b : Nat) (cs : List Value) : Prop := b < w.heap.size ∧ ∀ j u, cs[j]? = some u → w.cell? ⟨b, j, none⟩ = some u ∧ w.frozen? ⟨b, j, none⟩ = false
theorem Bx.lt {w : World} {b : Nat} {cs : List Value} (h : Bx w b cs) : b < w.heap.size := h.1
theorem Bx.at {w : World} {b : Nat} {cs : List Value} (h : Bx w b cs) (j : Nat) (u : Value) (hu : cs[j]? = some u) : w.cell? ⟨b, j, none⟩ = some u ∧ w.frozen? ⟨b, j, none⟩ = false := h.2 j u hu
theorem Bx.chg {S : Nat → Prop} {w w' : World} {b : Nat} {cs : List Value} (h : Bx w b cs) (hw : Chg S w w') (hn : ¬ S b) : Bx w' b cs :=
  ⟨Nat.lt_of_lt_of_le h.1 hw.size, fun j u hu => ⟨(hw.cell h.1 hn).trans (h.2 j u hu).1, (hw.frozen h.1 hn).trans (h.2 j u hu).2⟩⟩
theorem Bx.ext {w w' : World} {b : Nat} {cs : List Value} (h : Bx w b cs) (hw : Ext w w') : Bx w' b cs := h.chg (S := fun _ => False) (Chg.ext hw) (fun h => h)
theorem Bx.dr {cb : Nat} {w w' : World} {b : Nat} {cs : List Value} (h : Bx w b cs) (hd : Dr cb w w') (hn : b ≠ cb) : Bx w' b cs := h.chg hd.chg hn
theorem Bx.set {w : World} {b : Nat} {cs : List Value} (h : Bx w b cs) {p : Addr} (hp : p.block ≠ b) (u : Value) : Bx (w.setCell p u) b cs :=
  h.chg (S := (· = p.block)) (Chg.grown (grown_so (World.grownBy.refl w (some p.block)) rfl u) (fun g e => (Option.some.inj e).symm)) (fun e => hp e.symm)
theorem Bx.grown {w w' : World} {b : Nat} {cs : List Value} {row : Option Nat} (h : Bx w b cs) (hg : w.grownBy w' row) (hn : row ≠ some b) : Bx w' b cs := h.chg (S := fun x => row = some x) (Chg.grown hg (fun _ e => e)) hn
theorem Bx.put {w : World} {b : Nat} {cs : List Value} (h : Bx w b cs) (us : List Value) (hl : us.length = cs.length) : Bx (putW w b 0 us) b us := by
  have hs : ∀ j, j < us.length → ∃ v, w.cell? ⟨b, 0 + j, none⟩ = some v := fun j hj => ⟨cs[j]'(by omega), by rw [Nat.zero_add]; exact (h.2 j _ (List.getElem?_eq_getElem (by omega))).1⟩
  refine ⟨by rw [putW_size]; exact h.1, fun j u hu => ⟨?_, ?_⟩⟩
  · have := putW_at us w 0 hs j u hu
    rwa [Nat.zero_add] at this
  · have hj : j < us.length := (List.getElem?_eq_some_iff.1 hu).1
    exact putW_frz us w 0 (h.2 j _ (List.getElem?_eq_getElem (by omega : j < cs.length))).2
theorem Bx.put1 {w : World} {b : Nat} {cs ds : List Value} (h : Bx w b cs) (p : Nat) (u : Value) (hs : cs.set p u = ds) : Bx (w.setCell ⟨b, p, none⟩ u) b ds := by
  subst hs
  refine ⟨by simpa using h.1, fun j v hv => ?_⟩
  rw [List.getElem?_set] at hv
  split at hv
  · rename_i e
    subst e
    split at hv
    · rename_i hl
      obtain rfl : u = v := by simpa using hv
      obtain ⟨hc, hf⟩ := h.2 p _ (List.getElem?_eq_getElem hl)
      exact ⟨set_same hc, setf hf⟩
    · cases hv
  · rename_i e
    obtain ⟨hc, hf⟩ := h.2 j v hv
    exact ⟨set_other hc e, setf hf⟩
theorem Bx.putn {w : World} {b b' : Nat} {cs : List Value} (h : Bx w b cs) (us : List Value) (p : Nat) (hn : b' ≠ b) : Bx (putW w b' p us) b cs := by
  induction us generalizing w p with
  | nil => exact h
  | cons u us ih => exact ih (h.set hn u) (p + 1)
theorem at_alloc_nil {w : World} {cs : Array Value} {T : TypeId} {j : Nat} {u : Value} (h : cs.toList[j]? = some u) : (w.alloc (.cells cs T)).cell? ⟨w.heap.size, j, none⟩ = some u := by
  have := at_alloc (w := w) (cs := cs) (E := T) (p := (0, 0)) rfl rfl j u h
  rwa [Nat.zero_add] at this
theorem Bx.mk {w : World} {cs : Array Value} {T : TypeId} {g : Nat} (hg : w.heap.size = g) (l : List Value) (hl : cs.toList = l) : Bx (w.alloc (.cells cs T)) g l := by
  subst hg
  subst hl
  refine ⟨by simp, fun j u hu => ⟨at_alloc_nil hu, by simp [go_sem]⟩⟩
theorem Dr.putW {a : World} {cb b : Nat} (hb : a.heap.size ≤ b) : ∀ (us : List Value) (w : World) (p : Nat), Dr cb a w → Dr cb a (putW w b p us)
  | [], w, p, h => h
  | u :: us, w, p, h => Dr.putW hb us _ _ (h.setCell hb u)
theorem Own.putB {B E s n b : Nat} {v : Value} {xs : List Value} (hb : b < B) : ∀ (us : List Value) (w : World) (p : Nat), Own w B E s v n xs → Own (putW w b p us) B E s v n xs
  | [], w, p, h => h
  | u :: us, w, p, h => Own.putB hb us _ _ (h.set_below hb u)
/-- append in a region that draws, and where the new slice lies -/
theorem step_appD {P : Program} {w : World} {B e s n : Nat} {v : Value} {xs : List Value} {ops : Array Oper} {o : Oper} {a : Act} {K : Act → World → Prop} {Q : Exit → Act → World → Prop} {Els : Prop} (hgd : o.guard = none) (sl x : Operand) (t : TypeId)
    (ho : o.op = .call { callee := .builtin .append, args := #[sl, x], argTypes := #[t, t] })
    (i : TypeInfo) (z : Value) (bytes : Nat) (ht : P.underlying t = some (.slice e)) (hi : P.info? e = some i) (hz : i.zero = some z)
    (hsize : i.size = s) (hby : i.bytes = bytes) (hzs : z.cells.size = s) (hsz : 0 < s)
    (hs : a.eval sl = v) (hown : Own w B e s v n xs) (ra : Option Addr) (m c : Nat) (news : List Value) (hx : a.eval x = .slice ra m c) (R : Rd w ra c s m news) (h1 : ∀ u ∈ news, u.oneCell' = true)
    (hn : n + m ≤ 4194304) (hb2 : bytes ≤ 1024) (hbase : B ≤ w.heap.size)
    (h : ∀ g q w', Own w' B e s (.slice g (n + m) q) (n + m) (xs ++ news) → w.grownBy w' (foot v) → (∀ k, foot (.slice g (n + m) q) = some k → foot v = some k ∨ k = w.heap.size) → K (a.put o.dst (.slice g (n + m) q)) w') :
    if Region.wanted o (yielded ops a.tmps) = true then Oper.wp P o a w K Q else Els := by
  have hw : Region.wanted o (yielded ops a.tmps) = true := by simp [Region.wanted, hgd]
  rw [if_pos hw]
  obtain ⟨v', w', hr, h2, h3, h4⟩ := run_appL (P := P) t o.type e i z bytes ht hi hz hsize hby hzs hsz hown ra m c news R h1 (by unfold maxLen; omega)
    (Nat.le_trans (Nat.mul_le_mul hn hb2) (by omega)) hbase
  unfold Oper.wp execOp
  simp only [ho, resolve, invoke, builtin, Sem.run_bind, Sem.run_pure, Result.andThen_ok, List.map_toArray, List.map_cons, List.map_nil, hs, hx, hr]
  obtain ⟨g, q, rfl⟩ := h2.shape
  exact h g q w' h2 h3 h4
theorem Below.dr {B cb : Nat} {a b c : World} (h : Below B a b) (hd : Dr cb b c) (hB : B ≤ cb) (hs : B ≤ b.heap.size) : Below B a c :=
  h.trans (hd.chg.below (fun k hk => by have hk' : k = cb := hk; omega) hs)
theorem btx {B : Nat} {a b : World} (h : Below B a b := by repeat' (first | with_reducible exact Below.refl _ _ | with_reducible assumption | with_reducible refine Below.alloc ?_ ?_ _ | with_reducible refine Below.setCell ?_ ?_ _ | with_reducible refine Below.drew ?_ | with_reducible refine Below.drewN ?_ _ | with_reducible refine Below.dr ?_ (by assumption) (by omega) (by first | omega | (simp <;> omega)) | with_reducible refine Below.extB ?_ (by assumption) (by omega) | with_reducible refine Below.ext ?_ (by assumption) | (simp <;> omega) | omega)) : Below B a b := h
/-- short names of long proofs: the default value proves it where the name stands -/
theorem dtx {cb : Nat} {a b : World} (h : Dr cb a b := by repeat' (first | with_reducible assumption | with_reducible exact Dr.refl (Hid.out (by with_reducible assumption)) | with_reducible refine Dr.alloc ?_ _ | with_reducible refine Dr.setCell ?_ ?_ _ | with_reducible refine Dr.drew ?_ | with_reducible refine Dr.drewN ?_ | with_reducible refine Dr.ext ?_ (by assumption) | with_reducible refine Dr.trans ?_ (by assumption) | (simp <;> omega) | omega)) : Dr cb a b := h
end Go.Proofs.YtadjlfcdjkikgaaDoor

namespace Go.Proofs.YtadjlfcdjkikgaaDoor
open Go.RowKit
set_option linter.unusedVariables false
set_option linter.unusedSimpArgs false

set_option maxRecDepth 100000 in
set_option maxHeartbeats 1000000 in
theorem l1Byte_any (cb : Nat) (w : World) (hc : Cur w cb) :
    Calls Tryd.prog 76 #[.pointer (some ⟨cb, 0, none⟩)] w (DrI (fun v => 0 ≤ v ∧ v ≤ 255) cb w) := by
  obtain ⟨a, c, l, i, h, c0, c1, c2, hi, hl, hb, hr, hlt⟩ := hc.row
  obtain ⟨f0, f1, f2⟩ := hc.frz
  have hcl := hc.lt
  have HC := Lib.hid hc
  have HB := Lib.hid hb
  have HR := Lib.hid hr
  have HLT := Lib.hid hlt
  clear hc hb hr hlt
  by_cases hil : i < l.length
  · obtain ⟨b, o, rfl, hbb, hat⟩ := HR.out.ptr (by omega)
    have hx := byteCells_at hat i hil
    have hbc : b < cb := HLT.out (by omega) b o rfl
    have hy := HB.out _ (List.getElem_mem hil)
    have k1 : (0 : Int) ≤ (i : Int) := by omega
    have k2 : (i : Int) < (l.length : Int) := by omega
    have hne : cb ≠ b := by omega
    have hne2 : b ≠ cb := by omega
    have HAT := Lib.hid hat
    clear hat
    go_enter Tryd.func76, Tryd.ntmps76
    go_wp2_with fail
    go_quiet (fail)
    go_wp2_with fail
    go_quiet (fail)
    go_wp2_with fail
    go_quiet (fail)
    go_wp2_with fail
    go_ret
    exact ⟨_, and255 _, rfl, Dr.setI ((Dr.refl HC.out).setH _).drewN _ _ _ (i + 1) (cell_set_ne c0 (by omega)) (by omega) ((i : Int) + 1) (by simp)⟩
  · have k2 : decide ((i : Int) < (l.length : Int)) = false := by simp; omega
    go_enter Tryd.func76, Tryd.ntmps76
    go_wp2_with fail
    go_quiet (fail)
    go_wp2_with fail
    go_quiet (fail)
    go_wp2_with fail
    go_ret
    exact ⟨_, and255 _, rfl, ((Dr.refl HC.out).setH _).drewN.drewN⟩

set_option maxHeartbeats 1000000 in
theorem l1Below_any (cb : Nat) (n : Int) (w : World) (hc : Cur w cb) (h1 : n ≤ 9223372036854775807) :
    Calls Tryd.prog 64 #[.pointer (some ⟨cb, 0, none⟩), .int .i64 n] w (DrI (fun v => 0 ≤ v ∧ (0 < n → v < n) ∧ (n ≤ 0 → v = 0)) cb w) := by
  have HC := Lib.hid hc
  clear hc
  by_cases hn : n ≤ 0
  · go_enter Tryd.func64, Tryd.ntmps64
    go_wp2_with fail
    go_ret
    exact ⟨0, ⟨by omega, by omega, fun _ => rfl⟩, rfl, Dr.refl HC.out⟩
  · have hn0 : 0 < n := by omega
    have hn' : (n ≤ 0) = False := by simp; omega
    by_cases h2 : n ≤ 256
    · go_enter Tryd.func64, Tryd.ntmps64
      go_wp2_with ((refine (l1Byte_any cb _ HC.out).mono ?_; rintro e w1 ⟨v, ⟨hv0, hv1⟩, rfl, hd⟩))
      go_ret
      exact ⟨_, ⟨Int.emod_nonneg _ (by omega), fun _ => Int.emod_lt_of_pos _ hn0, fun h => by omega⟩, rfl, hd⟩
    · go_enter Tryd.func64, Tryd.ntmps64
      go_wp2_with fail
      refine (l1Byte_any cb _ HC.out).mono ?_
      rintro e w1 ⟨v1, ⟨hv1, hv1'⟩, rfl, hd1⟩
      go_wp2_with fail
      refine (l1Byte_any cb _ hd1.cur).mono ?_
      rintro e w2 ⟨v2, ⟨hv2, hv2'⟩, rfl, hd2⟩
      go_wp2_with fail
      refine (l1Byte_any cb _ hd2.cur).mono ?_
      rintro e w3 ⟨v3, ⟨hv3, hv3'⟩, rfl, hd3⟩
      go_wp2_with fail
      refine (l1Byte_any cb _ hd3.cur).mono ?_
      rintro e w4 ⟨v4, ⟨hv4, hv4'⟩, rfl, hd4⟩
      go_wp2_with fail
      go_ret
      exact ⟨_, ⟨Int.emod_nonneg _ (by omega), fun _ => Int.emod_lt_of_pos _ hn0, fun h => by omega⟩, rfl, ((hd1.trans hd2).trans hd3).trans hd4⟩
set_option maxHeartbeats 1000000 in
theorem l1Once_any (cb : Nat) (n : Int) (w : World) (hc : Cur w cb) (h1 : n ≤ 9223372036854775807) :
    Calls Tryd.prog 39 #[.pointer (some ⟨cb, 0, none⟩), .int .i64 n] w (DrB cb w) := by
  have HC := Lib.hid hc
  clear hc
  go_enter Tryd.func39, Tryd.ntmps39
  go_wp2_with ((refine (l1Below_any cb n _ HC.out h1).mono ?_; rintro e w1 ⟨v, hv, rfl, hd⟩; have HV := Lib.hid hv; clear hv))
  go_ret
  exact ⟨_, rfl, hd⟩
end Go.Proofs.YtadjlfcdjkikgaaDoor

namespace Go.Proofs.YtadjlfcdjkikgaaDoor
open Go.RowKit
set_option linter.unusedVariables false
set_option linter.unusedSimpArgs false

/-- all are texts of at most m bytes -/
def strMax (m : Nat) (l : List Value) : Bool := l.all fun u => match u with | .string s => decide (s.size ≤ m) | _ => false
theorem strMax_at {m : Nat} {l : List Value} (h : strMax m l = true) (k : Nat) (hk : k < l.length) : ∃ s : ByteArray, l[k] = .string s ∧ s.size ≤ m := by
  have h1 := (List.all_eq_true.1 h) _ (List.getElem_mem hk)
  revert h1
  cases l[k] <;> simp
/-- all are numbers of 64 bits -/
def intAll (l : List Value) : Bool := l.all fun u => match u with | .int .i64 n => decide (-9223372036854775808 ≤ n ∧ n ≤ 9223372036854775807) | _ => false
theorem intAll_at {l : List Value} (h : intAll l = true) (k : Nat) (hk : k < l.length) : ∃ n : Int, l[k] = .int .i64 n ∧ (-9223372036854775808 ≤ n ∧ n ≤ 9223372036854775807) := by
  have h1 := (List.all_eq_true.1 h) _ (List.getElem_mem hk)
  revert h1
  cases l[k] with
  | int k n => cases k <;> simp
  | _ => simp
theorem Rd.at1 {w : World} {a : Option Addr} {c n : Nat} {xs : List Value} (h : Rd w a c 1 n xs) (k : Nat) (hk : k < n) : ∃ b o, a = some ⟨b, o, none⟩ ∧ b < w.heap.size ∧ ∃ hx : k < xs.length, w.cell? ⟨b, o + k, none⟩ = some xs[k] := by
  obtain ⟨b, o, ha, hb, hat⟩ := h.ptr (by omega)
  have hl := h.len
  have hx : k < xs.length := by omega
  exact ⟨b, o, ha, hb, hx, hat k _ (List.getElem?_eq_getElem hx)⟩

set_option maxHeartbeats 1000000 in
theorem l1Pick_any (cb n m : Nat) (cs : List Value) (a : Option Addr) (c : Nat) (w : World) (hc : Cur w cb) (R : Rd w a c 1 n cs) (h0 : 0 < n) (hn : n ≤ 1000) (hs : strMax m cs = true) (hcb : ∀ b o, a = some ⟨b, o, none⟩ → b ≠ cb) :
    Calls Tryd.prog 40 #[.pointer (some ⟨cb, 0, none⟩), .slice a n c] w (DrT m cb w) := by
  have HC := Lib.hid hc
  have HR := Lib.hid R
  have HS := Lib.hid hs
  have HCB := Lib.hid hcb
  clear hc R hs hcb
  go_enter Tryd.func40, Tryd.ntmps40
  go_wp2_with fail
  refine (l1Below_any cb n _ HC.out (by omega)).mono ?_
  rintro e w1 ⟨v, ⟨hv0, hv1, _⟩, rfl, hd⟩
  have hv1 := hv1 (by omega)
  obtain ⟨k, rfl⟩ : ∃ k : Nat, v = k := ⟨v.toNat, by omega⟩
  obtain ⟨b, o, rfl, hb, hx, hcell⟩ := (HR.out.dr hd (fun _ => HCB.out)).at1 k (by omega)
  obtain ⟨s, hsk, hsm⟩ := strMax_at HS.out k hx
  rw [hsk] at hcell
  have hkl : k < n := by omega
  clear hv1 hsk
  go_wp2_with fail
  go_ret
  exact ⟨s, hsm, rfl, hd⟩
set_option maxHeartbeats 1000000 in
theorem l2Name_any (cb : Nat) (w : World) (hc : Cur w cb) :
    Calls Tryd.prog 95 #[.pointer (some ⟨cb, 0, none⟩)] w (DrT 7 cb w) := by
  have HC := Lib.hid hc
  clear hc
  go_enter Tryd.func95, Tryd.ntmps95
  go_wp2_with fail
  refine (l1Pick_any cb _ 7 _ _ _ _ (HC.out.ext ((Below.refl _ _).alloc (Nat.le_refl _) _)) (Rd.lit _ _ _ _ 1 _ rfl rfl (by omega)) (by omega) (by omega) (by rfl) (fun b o e => by have := HC.out.lt; simp at e; omega)).mono ?_
  rintro e w1 ⟨v, hv, rfl, hd⟩
  go_wp2_with fail
  go_ret
  exact ⟨v, hv, rfl, (((Dr.refl HC.out).alloc _).trans hd)⟩
set_option maxHeartbeats 1000000 in
theorem l7Body_any (cb : Nat) (w : World) (hc : Cur w cb) :
    Calls Tryd.prog 93 #[.pointer (some ⟨cb, 0, none⟩)] w (DrT 40 cb w) := by
  have HC := Lib.hid hc
  clear hc
  go_enter Tryd.func93, Tryd.ntmps93
  go_wp2_with fail
  refine (l1Pick_any cb _ 40 _ _ _ _ (HC.out.ext ((Below.refl _ _).alloc (Nat.le_refl _) _)) (Rd.lit _ _ _ _ 1 _ rfl rfl (by omega)) (by omega) (by omega) (by rfl) (fun b o e => by have := HC.out.lt; simp at e; omega)).mono ?_
  rintro e w1 ⟨v, hv, rfl, hd⟩
  go_wp2_with fail
  go_ret
  exact ⟨v, hv, rfl, (((Dr.refl HC.out).alloc _).trans hd)⟩
end Go.Proofs.YtadjlfcdjkikgaaDoor

namespace Go.Proofs.YtadjlfcdjkikgaaDoor
open Go.RowKit
set_option linter.unusedVariables false
set_option linter.unusedSimpArgs false

def DrNew (w : World) (e : Ending) (w' : World) : Prop := ∃ cb : Nat, w.heap.size ≤ cb ∧ e = .returned (.pointer (some ⟨cb, 0, none⟩)) ∧ Cur w' cb ∧ Ext w w'
theorem Cur.mk0 {w : World} {T g : Nat} (hg : w.heap.size = g) (l : List Int) (a : Option Addr) (c : Nat) (h : Int) (R : Rd w a c 1 l.length (l.flatMap byteCells)) (hb : ∀ y ∈ l, 0 ≤ y ∧ y ≤ 255) (hl : l.length ≤ 1048576) :
    Cur (w.alloc (.cells #[.slice a l.length c, .int .i64 0, .int .i64 h] T)) g := by
  subst hg
  refine ⟨by simp, ⟨by simp [go_sem], by simp [go_sem], by simp [go_sem]⟩, a, c, l, 0, h, by simp [go_sem], by simp [go_sem], by simp [go_sem], Nat.zero_le _, hl, hb, R.ext ((Below.refl _ _).alloc (Nat.le_refl _) _), fun h0 b o e => ?_⟩
  obtain ⟨b0, o0, rfl, hb0, -⟩ := R.ptr h0
  simp at e
  omega
set_option maxRecDepth 100000 in
set_option maxHeartbeats 1000000 in
theorem l1New_any (l : List Int) (a : Option Addr) (c : Nat) (w : World) (R : Rd w a c 1 l.length (l.flatMap byteCells)) (hb : ∀ y ∈ l, 0 ≤ y ∧ y ≤ 255) (hl : l.length ≤ 1048576) :
    Calls Tryd.prog 38 #[.slice a l.length c] w (DrNew w) := by
  have HR := Lib.hid R
  have HB := Lib.hid hb
  clear R hb
  go_enter Tryd.func38, Tryd.ntmps38
  go_wp2_with fail
  go_loop [3, 4] (fun x i => ∃ (k : Nat) (h : Int), k ≤ l.length ∧ i = .int .i64 k ∧ x = .int .i64 h) (fun _ i => l.length - (intOf i).toNat)
  case atStart => exact ⟨0, _, Nat.zero_le _, rfl, rfl⟩
  case round =>
    obtain ⟨k, h, hk, rfl, rfl⟩ := hrel
    by_cases hlt : k < l.length
    · have k1 : decide ((k : Int) < (l.length : Int)) = true := decide_eq_true (by omega)
      have k3 : (0 : Int) ≤ (k : Int) := by omega
      have k4 : (k : Int) < (l.length : Int) := by omega
      by_cases hlt2 : (k : Int) < 4000
      · obtain ⟨b, o, rfl, hbb, hat⟩ := HR.out.ptr (by omega)
        have hx := byteCells_at hat k hlt
        have hy := HB.out _ (List.getElem_mem hlt)
        have HAT := Lib.hid hat
        clear hat
        go_wp2_with fail
        go_round
        case rel => exact ⟨k + 1, _, by omega, by go_num, rfl⟩
        case measure => simp [intOf]; omega
      · have k2 : decide ((k : Int) < 4000) = false := decide_eq_false hlt2
        go_wp2_with fail
        go_ret
        exact ⟨w.heap.size, Nat.le_refl _, rfl, Cur.mk0 rfl l a c h HR.out HB.out hl, bxt⟩
    · have k1 : decide ((k : Int) < (l.length : Int)) = false := decide_eq_false (by omega)
      go_wp2_with fail
      go_ret
      exact ⟨w.heap.size, Nat.le_refl _, rfl, Cur.mk0 rfl l a c h HR.out HB.out hl, bxt⟩
end Go.Proofs.YtadjlfcdjkikgaaDoor

namespace Go.Proofs.YtadjlfcdjkikgaaDoor
open Go.RowKit
set_option linter.unusedVariables false
set_option linter.unusedSimpArgs false

set_option maxHeartbeats 1000000 in
theorem big_any (n : Nat) (a : Option Addr) (c : Nat) (w : World) (hn : n ≤ 9223372036854775807) (r : Bool) (Hr : Hid (Tells r (1048576 < n))) :
    Calls Tryd.prog 21 #[.slice a n c] w fun e w' => e = .returned (.bool r) ∧ w = w' := by
  by_cases h : 1048576 < n
  · have h1 : decide ((1048576 : Int) < (n : Int)) = true := decide_eq_true (by omega)
    have h2 : (1048576 : Int) < (n : Int) := by omega
    go_enter Tryd.func21, Tryd.ntmps21
    go_wp2_with fail
    go_ret
    exact ⟨ret_yes Hr.out h, rfl⟩
  · have h1 : decide ((1048576 : Int) < (n : Int)) = false := decide_eq_false (by omega)
    have h3 : decide (1048576 < n) = false := decide_eq_false h
    go_enter Tryd.func21, Tryd.ntmps21
    go_wp2_with fail
    go_ret
    exact ⟨ret_no Hr.out h, rfl⟩
set_option maxHeartbeats 1000000 in
theorem at0_any (l : List Int) (a : Option Addr) (c : Nat) (i : Nat) (w : World) (R : Rd w a c 1 l.length (l.flatMap byteCells)) (hb : ∀ y ∈ l, 0 ≤ y ∧ y ≤ 255) (hl : l.length ≤ 1048576) (hi : i ≤ 100) :
    Calls Tryd.prog 23 #[.slice a l.length c, .int .i64 i] w fun e w' => ∃ v : Int, (0 ≤ v ∧ v ≤ 255) ∧ e = .returned (.int .i64 v) ∧ w = w' := by
  by_cases h : i < l.length
  · obtain ⟨b, o, rfl, hbb, hat⟩ := R.ptr (by omega)
    have hx := byteCells_at hat i h
    have hy := hb _ (List.getElem_mem h)
    have h1 : decide ((i : Int) < (l.length : Int)) = true := decide_eq_true (by omega)
    have h2 : (i : Int) < (l.length : Int) := by omega
    have h3 : (0 : Int) ≤ (i : Int) := by omega
    have HAT := Lib.hid hat
    have HB := Lib.hid hb
    have HR := Lib.hid R
    clear hat hb R
    go_enter Tryd.func23, Tryd.ntmps23
    go_wp2_with fail
    go_ret
    exact ⟨_, hy, rfl, rfl⟩
  · have h1 : decide ((i : Int) < (l.length : Int)) = false := decide_eq_false (by omega)
    have h3 : decide (i < l.length) = false := decide_eq_false h
    have HB := Lib.hid hb
    have HR := Lib.hid R
    clear hb R
    go_enter Tryd.func23, Tryd.ntmps23
    go_wp2_with fail
    go_ret
    exact ⟨_, ⟨Int.emod_nonneg _ (by omega), by have := Int.emod_lt_of_pos ((i : Int) * 7 + (l.length : Int)) (show (0 : Int) < 256 by omega); omega⟩, rfl, rfl⟩
end Go.Proofs.YtadjlfcdjkikgaaDoor
