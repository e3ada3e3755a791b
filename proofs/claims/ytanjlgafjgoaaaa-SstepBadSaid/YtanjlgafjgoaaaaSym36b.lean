import Derived.Test.YtanjlgafjgoaaaaSym36
import Derived.Test.YtanjlgafjgoaaaaRef15
import Derived.ChangeKeysEq
import Derived.Laws.StructEq
import Derived.Tactics
namespace Go.Proofs.Ytanjlgafjgoaaaa
open Go.Mw Go.Maps Go.MapKept
set_option linter.unusedVariables false
set_option linter.unusedSimpArgs false
set_option maxRecDepth 100000
attribute [local irreducible] M.val M.unit M.next M.pick M.new M.nilCheck M.load1 M.loadA M.store M.fieldAddr M.indexSl M.indexArr M.slice M.makeSlice M.buildSlice M.len M.lenS M.cap M.append M.extract M.conv M.not M.neg M.bin M.shift M.eqB M.eqNil M.scat M.call M.callv M.gd M.share M.cond M.loop M.draw pureW readW Ret

/-! ### states -/
structure St where
  regs : List W64
  cells : List W64
  pc : Int
  steps : Int
  calls : Int
  en : Int
  code : Int
  value : W64
  dev : Dv
structure Sy where
  regs : List Int
  cells : List Int
  pc : Int
  steps : Int
  calls : Int
  en : Int
  code : Int
  value : Int
  dev : SDv
  conds : List Int
def St.vals (s : St) (c a b : Value) : List Value := s.regs.map vw ++ [c, vi s.pc, vi s.steps, vi s.calls, vi s.en, vi s.code, vw s.value, a, b, vi s.dev.ep]
def Sy.vals (s : Sy) (c a b d : Value) : List Value := s.regs.map vi ++ [c, vi s.pc, vi s.steps, vi s.calls, vi s.en, vi s.code, vi s.value, a, b, vi s.dev.ep, d]
def StO (w : World) (D : Nat → Prop) (v : Value) (s : St) : Prop := s.regs.length = 8 ∧ ∃ c a b, v = .agg ⟨s.vals c a b⟩ ∧ LV vw w D c s.cells ∧ DvO w D a b s.dev
def SyO (w : World) (D : Nat → Prop) (v : Value) (s : Sy) : Prop := s.regs.length = 8 ∧ ∃ c a b d, v = .agg ⟨s.vals c a b d⟩ ∧ LV vi w D c s.cells ∧ SDvO w D a b s.dev ∧ LV vi w D d s.conds
theorem StO.keep {w w' : World} {D S : Nat → Prop} {v : Value} {s : St} (h : StO w D v s) (k : Keep w w' S) (hs : ∀ b, b < w.heap.size → D b → ¬ S b) : StO w' D v s := by
  obtain ⟨h1, c, a, b, h2, h3, h4⟩ := h
  exact ⟨h1, c, a, b, h2, h3.keep k hs, h4.keep k hs⟩
theorem StO.mono {w : World} {D D' : Nat → Prop} {v : Value} {s : St} (h : StO w D v s) (hd : ∀ b, b < w.heap.size → D b → D' b) : StO w D' v s := by
  obtain ⟨h1, c, a, b, h2, h3, h4⟩ := h
  exact ⟨h1, c, a, b, h2, h3.mono hd, h4.mono hd⟩
theorem SyO.keep {w w' : World} {D S : Nat → Prop} {v : Value} {s : Sy} (h : SyO w D v s) (k : Keep w w' S) (hs : ∀ b, b < w.heap.size → D b → ¬ S b) : SyO w' D v s := by
  obtain ⟨h1, c, a, b, d, h2, h3, h4, h5⟩ := h
  exact ⟨h1, c, a, b, d, h2, h3.keep k hs, h4.keep k hs, h5.keep k hs⟩
theorem SyO.mono {w : World} {D D' : Nat → Prop} {v : Value} {s : Sy} (h : SyO w D v s) (hd : ∀ b, b < w.heap.size → D b → D' b) : SyO w D' v s := by
  obtain ⟨h1, c, a, b, d, h2, h3, h4, h5⟩ := h
  exact ⟨h1, c, a, b, d, h2, h3.mono hd, h4.mono hd, h5.mono hd⟩
theorem eight {α : Type} {l : List α} (h : l.length = 8) : ∃ a0 a1 a2 a3 a4 a5 a6 a7, l = [a0, a1, a2, a3, a4, a5, a6, a7] := by
  match l, h with
  | [a0, a1, a2, a3, a4, a5, a6, a7], _ => exact ⟨_, _, _, _, _, _, _, _, rfl⟩
def Dv.few (d : Dv) : Prop := d.disk.length ≤ 1000000 ∧ d.pend.length ≤ 1000000
def St.few (s : St) : Prop := s.cells.length ≤ 1000000 ∧ s.dev.few
/-! ### few -/
/-! ### a start -/
def cellsOk (n : Int) : Nat := if n < 0 ∨ 255 < n then 0 else n.toNat
end Go.Proofs.Ytanjlgafjgoaaaa
