import Derived.Test.YtanjlgafjgoaaaaLnGw
namespace Go.Proofs.Ytanjlgafjgoaaaa
open Go.Mw
set_option linter.unusedVariables false
set_option linter.unusedSimpArgs false
set_option maxRecDepth 100000
attribute [local irreducible] M.val M.unit M.next M.pick M.new M.nilCheck M.load1 M.loadA M.store M.fieldAddr M.indexSl M.indexArr M.slice M.makeSlice M.buildSlice M.len M.lenS M.cap M.append M.extract M.conv M.not M.neg M.bin M.shift M.eqB M.eqNil M.scat M.call M.callv M.gd M.share M.cond M.loop M.draw pureW readW Ret
/-! ### devices -/
structure SP where
  b : Int
  v : Int
  e : Int
structure PD where
  b : Int
  v : W64
  e : Int
deriving DecidableEq
def SP.cells (x : SP) : List Value := [vi x.b, vi x.v, vi x.e]
def PD.cells (x : PD) : List Value := [vi x.b, vw x.v, vi x.e]
structure Dv where
  disk : List W64
  pend : List PD
  ep : Int
structure SDv where
  disk : List Int
  pend : List SP
  ep : Int
theorem sp_len (x : SP) : x.cells.length = 3 := rfl
theorem pd_len (x : PD) : x.cells.length = 3 := rfl
def SDvO (w : World) (D : Nat → Prop) (a b : Value) (d : SDv) : Prop := LV vi w D a d.disk ∧ LN SP.cells w D b d.pend
def DvO (w : World) (D : Nat → Prop) (a b : Value) (d : Dv) : Prop := LV vw w D a d.disk ∧ LN PD.cells w D b d.pend
theorem DvO.keep {w w' : World} {D S : Nat → Prop} {a b : Value} {d : Dv} (h : DvO w D a b d) (k : Keep w w' S) (hs : ∀ b, b < w.heap.size → D b → ¬ S b) : DvO w' D a b d := ⟨h.1.keep k hs, h.2.keep k hs⟩
theorem SDvO.keep {w w' : World} {D S : Nat → Prop} {a b : Value} {d : SDv} (h : SDvO w D a b d) (k : Keep w w' S) (hs : ∀ b, b < w.heap.size → D b → ¬ S b) : SDvO w' D a b d := ⟨h.1.keep k hs, h.2.keep k hs⟩
theorem DvO.mono {w : World} {D D' : Nat → Prop} {a b : Value} {d : Dv} (h : DvO w D a b d) (hd : ∀ b, b < w.heap.size → D b → D' b) : DvO w D' a b d := ⟨h.1.mono hd, h.2.mono hd⟩
theorem SDvO.mono {w : World} {D D' : Nat → Prop} {a b : Value} {d : SDv} (h : SDvO w D a b d) (hd : ∀ b, b < w.heap.size → D b → D' b) : SDvO w D' a b d := ⟨h.1.mono hd, h.2.mono hd⟩
def SDv.few (d : SDv) : Prop := d.disk.length ≤ 1000000 ∧ d.pend.length ≤ 1000000
theorem gc_ln {w : World} {L : Nat → Prop} {v : Value} {xs : List PD} {n : Nat} (hn : n = xs.length) (h : GC w L 3 v n (xs.flatMap PD.cells)) : LN PD.cells w L v xs := by
  subst hn
  obtain ⟨A, c, rfl, h2, h3⟩ := GC.row2 h (by omega)
  exact ⟨A, c, rfl, h2, h3⟩
end Go.Proofs.Ytanjlgafjgoaaaa
