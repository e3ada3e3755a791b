import Derived.Test.YtanjlgafjgoaaaaDev36
import Derived.Test.YtanjlgafjgoaaaaSem16d
namespace Go.Proofs.Ytanjlgafjgoaaaa
open Go.Mw Go.Maps Go.MapKept
set_option linter.unusedVariables false
set_option linter.unusedSimpArgs false
set_option maxRecDepth 100000
attribute [local irreducible] M.val M.unit M.next M.pick M.new M.nilCheck M.load1 M.loadA M.store M.fieldAddr M.indexSl M.indexArr M.slice M.makeSlice M.buildSlice M.len M.lenS M.cap M.append M.extract M.conv M.not M.neg M.bin M.shift M.eqB M.eqNil M.scat M.call M.callv M.gd M.share M.cond M.loop M.draw pureW readW Ret

/-! ### the reader -/
structure Rdr (w : World) (F : Nat → Prop) (p : Nat) (N : List Nd) (most : Int) (De : Nat → Prop) (ev : Value) (env : List W64) (rb : Nat) (bad : Bool) : Prop where
  dag : DagO w F p N most
  words : LV vw w De ev env
  blk : Blk w rb [ptr p, ev, .bool bad]
  nF : ¬ F rb
  nD : ¬ De rb
  small : env.length ≤ 1000000
theorem Rdr.keep {w w' : World} {F De : Nat → Prop} {p rb : Nat} {N : List Nd} {most : Int} {ev : Value} {env : List W64} {bad : Bool} (h : Rdr w F p N most De ev env rb bad) (k : Keep w w' No) : Rdr w' F p N most De ev env rb bad :=
  ⟨h.dag.keepN k, h.words.keep k (fun _ _ _ h => h), h.blk.keep k (fun h => h), h.nF, h.nD, h.small⟩
theorem Rdr.set {w w' : World} {F De : Nat → Prop} {p rb : Nat} {N : List Nd} {most : Int} {ev : Value} {env : List W64} {bad bad' : Bool} (h : Rdr w F p N most De ev env rb bad) (k : Keep w w' (· = rb)) (b : Blk w' rb [ptr p, ev, .bool bad']) : Rdr w' F p N most De ev env rb bad' :=
  ⟨h.dag.keep k (fun b hb h' => h.nF (h' ▸ hb)), h.words.keep k (fun b _ hb h' => h.nD (h' ▸ hb)), b, h.nF, h.nD, h.small⟩
section
variable {w : World} {F De : Nat → Prop} {p rb : Nat} {N : List Nd} {most : Int} {ev : Value} {env : List W64} {bad : Bool}
/-! ### writes that wait -/
def pdOf (N : List Nd) (env : List W64) (x : SP) : PD := ⟨x.b, valW N env x.v, x.e⟩
/-! ### the device -/
def devOf (N : List Nd) (env : List W64) (d : SDv) : Dv := ⟨d.disk.map (valW N env), d.pend.map (pdOf N env), d.ep⟩
def devBad (N : List Nd) (d : SDv) : Bool := d.disk.any (fun i => !isN N i) || d.pend.any (fun i => !isN N i.v)
end
end Go.Proofs.Ytanjlgafjgoaaaa
