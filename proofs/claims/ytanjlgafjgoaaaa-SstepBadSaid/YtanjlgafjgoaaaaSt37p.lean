import Derived.Test.YtanjlgafjgoaaaaSym36b
import Derived.Test.YtanjlgafjgoaaaaFold37d
namespace Go.Proofs.Ytanjlgafjgoaaaa
open Go.Mw
set_option linter.unusedVariables false
set_option linter.unusedSimpArgs false
set_option maxRecDepth 100000
attribute [local irreducible] M.val M.unit M.next M.pick M.new M.nilCheck M.load1 M.loadA M.store M.fieldAddr M.indexSl M.indexArr M.slice M.makeSlice M.buildSlice M.len M.lenS M.cap M.append M.extract M.conv M.not M.neg M.bin M.shift M.eqB M.eqNil M.scat M.call M.callv M.gd M.share M.cond M.loop M.draw pureW readW Ret
/-! ### a step of states of terms: no program here -/
structure Ins where
  op : Int
  a : Int
  b : Int
  c : Int
  imm : W64
def Ins.cells (i : Ins) : List Value := [vi i.op, vi i.a, vi i.b, vi i.c, vw i.imm]
abbrev encI (i : Ins) : Value := .agg ⟨i.cells⟩
def hasA (op : Int) : Bool := decide (op = 1 ∨ op = 2 ∨ op = 3 ∨ op = 4 ∨ op = 6 ∨ op = 7 ∨ op = 8 ∨ op = 9 ∨ op = 10 ∨ op = 11 ∨ op = 14)
def hasB (op : Int) : Bool := decide (op = 2 ∨ op = 3 ∨ op = 4 ∨ op = 7 ∨ op = 8 ∨ op = 10 ∨ op = 11)
def hasC (op : Int) : Bool := decide (op = 3)
def hasI (op : Int) : Bool := decide (op = 1 ∨ op = 3 ∨ op = 4 ∨ op = 5 ∨ op = 6 ∨ op = 9 ∨ op = 15)
def regOk (has : Bool) (n : Int) : Bool := if has then decide (0 ≤ n ∧ n ≤ 7) else decide (n = 0)
/-- What an instruction's Imm may be. -/
def immOk (i : Ins) (len : Int) : Bool :=
  if i.op = 3 then decide (1 ≤ i.imm.toNat ∧ i.imm.toNat ≤ 14)
  else if i.op = 4 then decide (i.imm.toNat = 15 ∨ i.imm.toNat = 16)
  else if i.op = 5 ∨ i.op = 6 then decide (0 ≤ len ∧ (i.imm.toNat : Int) < len)
  else if i.op = 9 then decide (i.imm.toNat < 4)
  else if i.op = 15 then decide (1 ≤ i.imm.toNat ∧ i.imm.toNat ≤ 255)
  else true
def okI (i : Ins) (len : Int) : Bool :=
  decide (1 ≤ i.op ∧ i.op ≤ 15) && (regOk (hasA i.op) i.a && (regOk (hasB i.op) i.b && (regOk (hasC i.op) i.c && ((hasI i.op || decide (i.imm.toNat = 0)) && immOk i len))))
/-! a step -/
def kp (e : Int) (r : Rs) : Rs := (r.1, r.2.1, if e = 0 then r.2.2 else e)
def wordP (most : Int) (N : List Nd) (e : Int) (x : W64) : Rs := kp e (constN most N 64 x)
def isP (most : Int) (N : List Nd) (e id : Int) (x : W64) : Rs :=
  kp (wordP most N e x).2.2 (foldBin most (wordP most N e x).1 12 id (wordP most N e x).2.1)
def notP (most : Int) (N : List Nd) (e c : Int) : Rs := kp e (foldUn most N 15 c)
def addP (N : List Nd) (e : Int) (out : List Sy) (s : Sy) (c : Int) : List Sy :=
  if e ≠ 0 then out
  else if 0 ≤ c then match knownN N c with
    | some x => if x = 0 then out else out ++ [s]
    | none => out ++ [{ s with conds := s.conds ++ [c] }]
  else out ++ [s]
def Sy.next (s : Sy) : Sy := { s with pc := s.pc + 1 }
def Sy.set (s : Sy) (i : Ins) (id : Int) : Sy := { s.next with regs := s.regs.set i.a.toNat id }
def Sy.trap (s : Sy) (code : Int) : Sy := { s with en := 2, code := code }
def Sy.at (s : Sy) (i : Ins) : Sy := { s with pc := i.imm.toNat }
def Sy.call (s : Sy) (v : SDv) : Sy := { s.next with dev := v, calls := s.calls + 1 }
def Sy.reg (s : Sy) (r : Int) : Int := s.regs.getD r.toNat 0
abbrev Rp := List Nd × Int × List Sy
def addR (r : Rs) (out : List Sy) (s : Sy) : Rp := (r.1, r.2.2, addP r.1 r.2.2 out s r.2.1)
def plainR (N : List Nd) (e : Int) (s : Sy) : Rp := (N, e, addP N e [] s (-1))
def eachK (most : Int) (id : Int) (f : Nat → Sy) : Nat → Rp → Rp
  | 0, r => r
  | k + 1, r =>
    let r1 := eachK most id f k r
    addR (isP most r1.1 r1.2.1 id (BitVec.ofNat 64 k)) r1.2.2 (f k)
def eachP (most : Int) (N : List Nd) (e : Int) (s : Sy) (id : Int) (n : Nat) (code : Int) (f : Nat → Sy) : Rp :=
  match knownN N id with
  | some x => if x.toNat < n then plainR N e (f x.toNat) else plainR N e (s.trap code)
  | none =>
    let r := eachK most id f n (N, e, [])
    let w := wordP most r.1 r.2.1 (BitVec.ofNat 64 n)
    let l := kp w.2.2 (foldBin most w.1 13 id w.2.1)
    addR (notP most l.1 l.2.2 l.2.1) r.2.2 (s.trap code)
def Sy.load (s : Sy) (i : Ins) (k : Nat) : Sy := s.set i (s.cells.getD k 0)
def Sy.store (s : Sy) (i : Ins) (k : Nat) : Sy := { s.next with cells := s.cells.set k (s.reg i.b) }
def readN (s : Sy) (k : Nat) : Int := s.dev.pend.foldl (fun id w => if w.b = (k : Int) then w.v else id) (s.dev.disk.getD k 0)
def Sy.read (s : Sy) (i : Ins) (k : Nat) : Sy := s.set i (readN s k)
def Sy.write (s : Sy) (i : Ins) (mw : Int) (k : Nat) : Sy :=
  if mw ≤ (s.dev.pend.length : Int) then s.trap 259 else s.call { s.dev with pend := s.dev.pend ++ [⟨(k : Int), s.reg i.b, s.dev.ep⟩] }
def putN (disk : List Int) (pend : List SP) : List Int := pend.foldl (fun l w => if 0 ≤ w.b ∧ w.b < (l.length : Int) then l.set w.b.toNat w.v else l) disk
def Sy.flush (s : Sy) : Sy := s.call ⟨putN s.dev.disk s.dev.pend, [], 0⟩
def barN (d : SDv) : SDv := if d.pend.any (fun w => decide (w.e = d.ep)) then { d with ep := d.ep + 1 } else d
def inputP (most : Int) (N : List Nd) (e : Int) (i : Ins) (inputs : Int) : Rs :=
  if inputs < 0 ∨ inputs ≤ (i.imm.toNat : Int) then wordP most N e 0
  else
    let x := kp e (varN most N 8 (i.imm.toNat : Int))
    if x.2.2 ≠ 0 then (x.1, 0, x.2.2) else kp x.2.2 (foldExt most x.1 x.2.1 64)
def binP (most : Int) (N : List Nd) (e : Int) (s : Sy) (i : Ins) : Rs :=
  let x := kp e (foldBin most N (i.imm.toNat : Int) (s.reg i.b) (s.reg i.c))
  if x.2.2 = 0 ∧ (i.imm.toNat = 12 ∨ i.imm.toNat = 13 ∨ i.imm.toNat = 14) then kp x.2.2 (foldExt most x.1 x.2.1 64) else x
def setR (r : Rs) (s : Sy) (i : Ins) : Rp := plainR r.1 r.2.2 (s.set i r.2.1)
def branchP (most : Int) (N : List Nd) (e : Int) (s : Sy) (i : Ins) : Rp :=
  let z := isP most N e (s.reg i.a) 0
  let t := notP most z.1 z.2.2 z.2.1
  (t.1, t.2.2, addP t.1 t.2.2 (addP t.1 t.2.2 [] (s.at i) t.2.1) s.next z.2.1)
def stepI (most : Int) (N : List Nd) (s : Sy) (i : Ins) (inputs mw : Int) : Rp :=
  if i.op = 1 then setR (wordP most N 0 i.imm) s i
  else if i.op = 2 then plainR N 0 (s.set i (s.reg i.b))
  else if i.op = 3 then setR (binP most N 0 s i) s i
  else if i.op = 4 then setR (kp 0 (foldUn most N (i.imm.toNat : Int) (s.reg i.b))) s i
  else if i.op = 5 then plainR N 0 (s.at i)
  else if i.op = 6 then branchP most N 0 s i
  else if i.op = 7 then eachP most N 0 s (s.reg i.b) s.cells.length 257 (s.load i)
  else if i.op = 8 then eachP most N 0 s (s.reg i.a) s.cells.length 257 (s.store i)
  else if i.op = 9 then setR (inputP most N 0 i inputs) s i
  else if i.op = 10 then eachP most N 0 s (s.reg i.b) s.dev.disk.length 258 (s.read i)
  else if i.op = 11 then eachP most N 0 s (s.reg i.a) s.dev.disk.length 258 (s.write i mw)
  else if i.op = 12 then plainR N 0 s.flush
  else if i.op = 13 then plainR N 0 (s.call (barN s.dev))
  else if i.op = 14 then plainR N 0 { s with en := 1, value := s.reg i.a }
  else plainR N 0 (s.trap i.imm.toNat)
def fineN (N : List Nd) (s : Sy) : Bool := (s.regs ++ s.cells ++ s.dev.disk ++ s.dev.pend.map SP.v).all (fun id => decide (wdN N id = 64))
def insAt (code : List Ins) (pc : Int) : Option Ins := if 0 ≤ pc ∧ pc < (code.length : Int) then (match code[pc.toNat]? with
  | some i => if okI i code.length then some i else none
  | none => none) else none
def stepN (most : Int) (N : List Nd) (code : List Ins) (s : Sy) (inputs mw : Int) : Rp :=
  if s.en ≠ 0 then (N, 0, [])
  else if fineN N s = false then (N, 11, [])
  else match insAt code s.pc with
    | none => (N, 0, [({ s with steps := s.steps + 1 } : Sy).trap 256])
    | some i =>
      let r := stepI most N { s with steps := s.steps + 1 } i inputs mw
      if r.2.1 = 0 then r else (r.1, r.2.1, [])
end Go.Proofs.Ytanjlgafjgoaaaa
