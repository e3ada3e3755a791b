import Derived.ScopeJumps
import Derived.Tactics
import Derived.OrdersHeld
import Derived.Deep.LoopGhost
import Derived.KernelRfl
import Derived.Laws.Concat
set_option linter.unusedVariables false
set_option linter.unusedSimpArgs false
namespace Go.Mw

/-! ### environments -/
abbrev Env := List Value
abbrev Kt := Value → World → Prop

def ev (e : Env) : Operand → Value
  | .tmp t => e.getD t undef
  | .const v => v
  | .global g => .pointer (some ⟨g, 0, none⟩)
  | .func f => .func (.func f) #[] #[]

def put (e : Env) : Option Tmp → Value → Env
  | some d, v => e.set d v
  | none, _ => e

def mk (e : Env) : Act := { tmps := ⟨e⟩, defers := [] }

theorem mk_eval (e : Env) : (mk e).eval = ev e := by
  funext x
  cases x <;> simp [mk, Act.eval, ev]

theorem mk_put (e : Env) (d : Option Tmp) (v : Value) : (mk e).put d v = mk (put e d v) := by
  cases d <;> simp [mk, Act.put, put]

theorem put_length (e : Env) (d : Option Tmp) (v : Value) : (put e d v).length = e.length := by
  cases d <;> simp [put]

/-- The value that a guard looks at. -/
def gv (ops : List Oper) (e : Env) (j : Nat) : Value :=
  match ops[j]? with
  | some o => match o.dst with
    | some d => e.getD d undef
    | none => undef
  | none => undef

def gw (want : Bool) : Value → Bool
  | .bool b => b == want
  | _ => false

theorem wanted_none (o : Oper) (y : Nat → Option Bool) (h : o.guard = none) : Region.wanted o y = true := by simp [Region.wanted, h]

theorem yielded_mk (ops : List Oper) (e : Env) (j : Nat) (want : Bool) :
    (yielded ops.toArray (mk e).tmps j == some want) = gw want (gv ops e j) := by
  unfold yielded gv
  simp only [List.getElem?_toArray, mk]
  cases h : ops[j]? with
  | none => simp [undef, gw]
  | some o =>
    cases hd : o.dst with
    | none => simp [hd, undef, gw]
    | some d =>
      simp only [Option.bind_some, hd]
      rcases Nat.lt_or_ge d e.length with hl | hl
      · simp [hl]
        cases e[d] <;> simp [gw]
      · simp [hl, undef, gw]

/-! ### what an operation's run leaves -/
def execW (P : Program) (s : Sem Next) (k : Kt) (w : World) : Prop :=
  match s.run P w with
  | .ok (.value v) w' => k v w'
  | .ok .skip w' => k undef w'
  | .ok (.enter f args) w' => Calls P f args w' (fun e w'' => ∃ v, e = .returned v ∧ k v w'')
  | _ => False

theorem execW_wp {P : Program} {o : Oper} {a : Act} {k : Kt} {w : World} {Q : Exit → Act → World → Prop} (h : execW P (execOp a.eval o) k w) :
    o.wp P a w (fun a' w' => ∃ v, a' = a.put o.dst v ∧ k v w') Q := by
  unfold execW at h
  unfold Oper.wp
  split at h
  · rename_i v w' hr; rw [hr]; exact ⟨v, rfl, h⟩
  · rename_i w' hr; rw [hr]; exact ⟨undef, rfl, h⟩
  · rename_i f args w' hr
    rw [hr]
    refine Calls.mono h ?_
    rintro e w'' ⟨v, rfl, hk⟩
    exact ⟨v, rfl, hk⟩
  · exact h.elim

theorem execW_value {P : Program} {s : Sem Value} {v : Value} {w w' : World} {k : Kt} (h : s.run P w = .ok v w') (hk : k v w') :
    execW P (do pure (.value (← s))) k w := by
  have : (do pure (Next.value (← s)) : Sem Next).run P w = .ok (.value v) w' := by
    rw [Sem.run_bind, h]; rfl
  unfold execW; rw [this]; exact hk

theorem execW_unit {P : Program} {s : Sem Unit} {w w' : World} {k : Kt} (h : s.run P w = .ok () w') (hk : k undef w') :
    execW P (do s; pure .skip) k w := by
  have : (do s; pure Next.skip : Sem Next).run P w = .ok .skip w' := by
    rw [Sem.run_bind, h]; rfl
  unfold execW; rw [this]; exact hk

theorem execW_mono {P : Program} {s : Sem Next} {k k' : Kt} {w : World} (hk : ∀ v w, k v w → k' v w) (h : execW P s k w) : execW P s k' w := by
  unfold execW at *
  split at h
  · exact hk _ _ h
  · exact hk _ _ h
  · exact Calls.mono h (fun e w'' ⟨v, e1, e2⟩ => ⟨v, e1, hk _ _ e2⟩)
  · exact h.elim

end Go.Mw
namespace Go.Mw

/-! ### the operations, each by what it asks and leaves -/
def pureW (P : Program) (s : Sem Value) (k : Kt) (w : World) : Prop := ∃ v, (∀ w', s.run P w' = .ok v w') ∧ k v w
def readW (P : Program) (s : Sem Value) (k : Kt) (w : World) : Prop := ∃ v, s.run P w = .ok v w ∧ k v w
def M.val (P : Program) (s : Sem Value) (k : Kt) (w : World) : Prop := execW P (do pure (.value (← s))) k w
def M.unit (P : Program) (s : Sem Unit) (k : Kt) (w : World) : Prop := execW P (do s; pure .skip) k w
def M.next (P : Program) (s : Sem Next) (k : Kt) (w : World) : Prop := execW P s k w

def M.pick (c a b : Value) (k : Kt) (w : World) : Prop :=
  match c with
  | .bool true => k a w
  | .bool false => k b w
  | _ => False
def M.new (t : TypeId) (cells : Array Value) (k : Kt) (w : World) : Prop :=
  k (.pointer (some ⟨w.heap.size, 0, none⟩)) (w.alloc (.cells cells t))
def M.nilCheck (v : Value) (k : Kt) (w : World) : Prop :=
  match v with
  | .pointer (some a) => k (.pointer (some a)) w
  | .func (.func f) fi ca => k (.func (.func f) fi ca) w
  | _ => False
def M.load1 (a : Value) (k : Kt) (w : World) : Prop :=
  match a with
  | .pointer (some ad) => match w.cell? ad with
    | some v => k v w
    | none => False
  | _ => False
def rdL (w : World) (ad : Addr) : Nat → Nat → Option (List Value)
  | 0, _ => some []
  | n + 1, i => match w.cell? (ad.add i) with
    | some v => (rdL w ad n (i + 1)).map (v :: ·)
    | none => none
def M.loadA (n : Nat) (a : Value) (k : Kt) (w : World) : Prop :=
  match a with
  | .pointer (some ad) => match rdL w ad n 0 with
    | some l => k (.agg ⟨l⟩) w
    | none => False
  | _ => False
def wrL (ad : Addr) : List Value → Nat → World → Option World
  | [], _, w => some w
  | v :: vs, i, w =>
    if v.oneCell' then
      match w.cell? (ad.add i) with
      | some _ => if w.frozen? (ad.add i) then none else wrL ad vs (i + 1) (w.setCell (ad.add i) v)
      | none => none
    else none
def M.store (sz : Nat) (a v : Value) (k : Kt) (w : World) : Prop :=
  match a with
  | .pointer (some ad) => v.cells.size = sz ∧ match wrL ad v.cells.toList 0 w with
    | some w' => k undef w'
    | none => False
  | _ => False
def M.fieldAddr (off : Nat) (x : Value) (k : Kt) (w : World) : Prop :=
  match x with
  | .pointer (some ad) => k (.pointer (some (ad.add off))) w
  | _ => False
def M.indexSl (sz : Nat) (x i : Value) (k : Kt) (w : World) : Prop :=
  match x, i with
  | .slice (some ad) n _, .int _ i => (0 ≤ i ∧ i < n) ∧ k (.pointer (some (ad.add (i.toNat * sz)))) w
  | _, _ => False
/-- An element's address in an array variable. -/
def M.indexArr (len sz : Nat) (x i : Value) (k : Kt) (w : World) : Prop :=
  match x, i with
  | .pointer (some ad), .int _ i => (0 ≤ i ∧ i < len) ∧ k (.pointer (some (ad.add (i.toNat * sz)))) w
  | _, _ => False
def sb (y : Nat) : Value → Option Nat
  | .int _ i => if 0 ≤ i ∧ i ≤ y then some i.toNat else none
  | _ => none
def sl3 (len cap : Nat) (lo hi mx : Option Value) : Option (Nat × Nat × Nat) :=
  match (match mx with | some v => sb cap v | none => some cap) with
  | none => none
  | some m => match (match hi, mx with | some v, some _ => sb m v | some v, none => sb cap v | none, none => some len | none, some _ => none) with
    | none => none
    | some h => match (match lo with | some v => sb h v | none => some 0) with
      | none => none
      | some l => some (l, h, m)
def M.slice (sz : Nat) (x : Value) (lo hi mx : Option Value) (k : Kt) (w : World) : Prop :=
  match x with
  | .slice A n c => match sl3 n c lo hi mx with
    | some (l, h, m) => k (.slice (if m = l then A else A.map (·.add (l * sz))) (h - l) (m - l)) w
    | none => False
  | _ => False
def mkCells (zero : Array Value) (n : Nat) : Array Value := (Array.range n).map (zero[· % zero.size]!)
def M.makeSlice (el sz bytes : Nat) (zero : Array Value) (l c : Value) (k : Kt) (w : World) : Prop :=
  match l, c with
  | .int .i64 l, .int .i64 c => (0 ≤ l ∧ l ≤ c ∧ bytes * c ≤ 281474976710656 ∧ c < 9223372036854775808) ∧
      k (.slice (some ⟨w.heap.size, 0, none⟩) l.toNat c.toNat) (w.alloc (.cells (mkCells zero (c.toNat * sz)) el))
  | _, _ => False
def M.buildSlice (el sz : Nat) (zero : Array Value) (len : Nat) (parts : List (Nat × Value)) (k : Kt) (w : World) : Prop :=
  match Instr.fill (fun i => some (i * sz, sz)) (mkCells zero (len * sz)) parts with
  | some cells => k (.slice (some ⟨w.heap.size, 0, none⟩) len len) (w.alloc (.cells cells el))
  | none => False
def M.len (x : Value) (k : Kt) (w : World) : Prop :=
  match x with
  | .slice _ n _ => k (.int .i64 n) w
  | _ => False
def M.lenS (x : Value) (k : Kt) (w : World) : Prop :=
  match x with
  | .string s => k (.int .i64 s.size) w
  | _ => False
def M.cap (x : Value) (k : Kt) (w : World) : Prop :=
  match x with
  | .slice _ _ c => k (.int .i64 c) w
  | _ => False
def srcL (w : World) (A : Option Addr) (n : Nat) : Option (List Value) :=
  match A with
  | some ad => rdL w ad n 0
  | none => some []
def M.append (el sz bytes : Nat) (zero : Array Value) (s x : Value) (k : Kt) (w : World) : Prop :=
  match s, x with
  | .slice A n c, .slice B m _ => ∃ xs, srcL w B (m * sz) = some xs ∧
      if n + m ≤ c then
        match A with
        | some ad => match wrL (ad.add (n * sz)) xs 0 w with
          | some w' => k (.slice (some ad) (n + m) c) w'
          | none => False
        | none => k (.slice none (n + m) c) w
      else
        (Builtin.nextslicecap (n + m) c * bytes ≤ 281474976710656 ∧ 0 < bytes) ∧ ∃ old, srcL w A (n * sz) = some old ∧
          ∀ c', n + m ≤ c' → c' < 9223372036854775808 → k (.slice (some ⟨w.heap.size, 0, none⟩) (n + m) c')
            (w.drew.alloc (.cells (old ++ xs ++ (Builtin.zeroCells zero (c' - (n + m))).toList).toArray el))
  | _, _ => False
def M.extract (i : Nat) (x : Value) (k : Kt) (w : World) : Prop :=
  match x with
  | .tuple vs => match vs[i]? with
    | some v => k v w
    | none => False
  | _ => False
def M.conv (d : IntKind) (x : Value) (k : Kt) (w : World) : Prop :=
  match x with
  | .int _ n => k (.int d (d.wrap n)) w
  | _ => False
def M.not (x : Value) (k : Kt) (w : World) : Prop :=
  match x with
  | .bool b => k (.bool !b) w
  | _ => False
def M.neg (x : Value) (k : Kt) (w : World) : Prop :=
  match x with
  | .int d n => k (.int d (d.wrap (0 - n))) w
  | _ => False
/-- An operation on two whole numbers of one kind. -/
def ibin (op : BinOp) (d : IntKind) (a b : Int) : Option Value :=
  match op with
  | .add => some (.int d (d.wrap (a + b)))
  | .sub => some (.int d (d.wrap (a - b)))
  | .mul => some (.int d (d.wrap (a * b)))
  | .quo => if b = 0 then none else some (.int d (d.wrap (a.tdiv b)))
  | .rem => if b = 0 then none else some (.int d (a.tmod b))
  | .and => some (.int d (d.wrap (BitVec.ofInt d.bits a &&& BitVec.ofInt d.bits b).toNat))
  | .or => some (.int d (d.wrap (BitVec.ofInt d.bits a ||| BitVec.ofInt d.bits b).toNat))
  | .xor => some (.int d (d.wrap (BitVec.ofInt d.bits a ^^^ BitVec.ofInt d.bits b).toNat))
  | .andNot => some (.int d (d.wrap (BitVec.ofInt d.bits a &&& ~~~ BitVec.ofInt d.bits b).toNat))
  | .eql => some (.bool (a == b))
  | .neq => some (.bool (a != b))
  | .lss => some (.bool (a < b))
  | .leq => some (.bool (a ≤ b))
  | .gtr => some (.bool (a > b))
  | .geq => some (.bool (a ≥ b))
  | _ => none
def ishift (op : BinOp) (d : IntKind) (a b : Int) : Option Value :=
  if b < 0 then none else
  match op with
  | .shl => some (.int d (d.wrap (a * 2 ^ (min b.toNat d.bits))))
  | .shr => some (.int d (a.fdiv (2 ^ (min b.toNat d.bits))))
  | _ => none
def M.bin (op : BinOp) (x y : Value) (k : Kt) (w : World) : Prop :=
  match x, y with
  | .int d a, .int d' b => d = d' ∧ match ibin op d a b with
    | some v => k v w
    | none => False
  | _, _ => False
def M.shift (op : BinOp) (x y : Value) (k : Kt) (w : World) : Prop :=
  match x, y with
  | .int d a, .int _ b => match ishift op d a b with
    | some v => k v w
    | none => False
  | _, _ => False
/-- A panic: no way goes on. -/
def M.panic (k : Kt) (w : World) : Prop := False
/-- Texts, one behind the other. -/
def M.scat (x y : Value) (k : Kt) (w : World) : Prop :=
  match x, y with
  | .string a, .string b => a.size + b.size ≤ 9223372036854775807 ∧ k (.string (a ++ b)) w
  | _, _ => False
/-- '==', '!=' of bools. -/
def M.eqB (neq : Bool) (x y : Value) (k : Kt) (w : World) : Prop :=
  match x, y with
  | .bool a, .bool b => k (.bool (xor neq (a == b))) w
  | _, _ => False
/-- '== nil', '!= nil' of a pointer or a slice or a map. -/
def isNilV : Nat → Value → Option Bool
  | 0, .pointer a => some a.isNone
  | 1, .slice a _ _ => some a.isNone
  | 2, .map r => some r.isNone
  | _, _ => none
def M.eqNil (kd : Nat) (neq : Bool) (x : Value) (k : Kt) (w : World) : Prop :=
  match isNilV kd x with
  | some b => k (.bool (xor neq b)) w
  | none => False
def M.call (P : Program) (f : FuncId) (args : Array Value) (k : Kt) (w : World) : Prop :=
  Calls P f args w (fun e w' => ∃ v, e = .returned v ∧ k v w')
def M.callv (P : Program) (v : Value) (args : Array Value) (k : Kt) (w : World) : Prop :=
  execW P (do let d ← Deferred.ofValue v args; invoke d.target d.args) k w
def M.gd (v : Value) (want : Bool) (A : Kt → World → Prop) (R : Kt) (w : World) : Prop :=
  if gw want v then A R w else R undef w

end Go.Mw
namespace Go.Mw

def TypeDesc.agg : TypeDesc → Bool
  | .struct _ | .array _ _ => true
  | _ => false
def zeroOf (P : Program) (t : TypeId) : Option Value := (P.info? t).bind (·.zero)

def opLoad (P : Program) (t : TypeId) (a : Value) (k : Kt) (w : World) : Prop :=
  match P.underlying t, P.info? t with
  | some d, some i => if TypeDesc.agg d then M.loadA i.size a k w else M.load1 a k w
  | _, _ => False
def opStore (P : Program) (t : TypeId) (a v : Value) (k : Kt) (w : World) : Prop :=
  match P.info? t with
  | some i => M.store i.size a v k w
  | _ => False
def opNew (P : Program) (t : TypeId) (k : Kt) (w : World) : Prop :=
  match zeroOf P t with
  | some z => M.new t z.cells k w
  | none => False
def opFieldAddr (P : Program) (s : TypeId) (x : Value) (f : Nat) (k : Kt) (w : World) : Prop :=
  match P.underlying s with
  | some (.struct fs) => match fs[f]? with
    | some fd => match P.info? fd.type with
      | some i => if i.size = 0 then False else M.fieldAddr fd.offset x k w
      | none => False
    | none => False
  | _ => False
def opIndexAddr (P : Program) (t : TypeId) (x i : Value) (k : Kt) (w : World) : Prop :=
  match P.underlying t with
  | some (.slice el) => match P.info? el with
    | some inf => M.indexSl inf.size x i k w
    | none => False
  | some (.array n el) => match P.info? el with
    | some inf => M.indexArr n inf.size x i k w
    | none => False
  | _ => False
def opSlice (P : Program) (t : TypeId) (x : Value) (lo hi mx : Option Value) (k : Kt) (w : World) : Prop :=
  match P.underlying t with
  | some (.slice el) => match P.info? el with
    | some inf => M.slice inf.size x lo hi mx k w
    | none => False
  | _ => M.val P (Instr.sliceAt t x lo hi mx) k w
def opMakeSlice (P : Program) (t : TypeId) (l c : Value) (k : Kt) (w : World) : Prop :=
  match P.underlying t with
  | some (.slice el) => match P.info? el, zeroOf P el with
    | some inf, some z => M.makeSlice el inf.size inf.bytes z.cells l c k w
    | _, _ => False
  | _ => False
def opBuildSlice (P : Program) (t : TypeId) (len : Nat) (parts : List (Nat × Value)) (k : Kt) (w : World) : Prop :=
  match P.underlying t with
  | some (.slice el) => match P.info? el, zeroOf P el with
    | some inf, some z => if len * inf.size ≤ 2 ^ 24 then M.buildSlice el inf.size z.cells len parts k w else False
    | _, _ => False
  | _ => False
def opConv (P : Program) (s d : TypeId) (x : Value) (k : Kt) (w : World) : Prop :=
  match P.underlying s, P.underlying d with
  | some (.int _), some (.int kd) => M.conv kd x k w
  | _, _ => M.val P (convert s d x) k w
/-- Which kind of nil a value is held against (0 a pointer's, 1 a slice's, 2 a map's). -/
def nilKd (d : TypeDesc) (y : Operand) : Option Nat :=
  match d, y with
  | .pointer _, .const (.pointer none) => some 0
  | .slice _, .const (.slice none _ _) => some 1
  | .map _ _, .const (.map none) => some 2
  | _, _ => none
def opBin (P : Program) (op : BinOp) (t : TypeId) (x y : Operand) (a b : Value) (k : Kt) (w : World) : Prop :=
  match P.underlying t with
  | some (.int _) => match op with
    | .shl | .shr => M.shift op a b k w
    | _ => M.bin op a b k w
  | some .bool => match op with
    | .eql => M.eqB false a b k w
    | .neq => M.eqB true a b k w
    | _ => False
  | some .string => match op with
    | .add => M.scat a b k w
    | _ => M.val P (do eqGuard op t x y a b; binOp op t a b) k w
  | some d => match op, nilKd d y with
    | .eql, some kd => M.eqNil kd false a k w
    | .neq, some kd => M.eqNil kd true a k w
    | _, _ => M.val P (do eqGuard op t x y a b; binOp op t a b) k w
  | none => False
def opBuiltin (P : Program) (b : Builtin) (ts : Array TypeId) (t : TypeId) (cs : Array Bool) (args : Array Value) (k : Kt) (w : World) : Prop :=
  match b, ts.toList, args.toList with
  | .len, [t0], [x] => match P.underlying t0 with
    | some (.slice _) => M.len x k w
    | some .string => M.lenS x k w
    | _ => M.next P (builtin b ts t cs args) k w
  | .cap, [t0], [x] => match P.underlying t0 with
    | some (.slice _) => M.cap x k w
    | _ => M.next P (builtin b ts t cs args) k w
  | .append, [t0, t1], [s, x] => match P.underlying t0, P.underlying t1 with
    | some (.slice el), some (.slice _) => match P.info? el, zeroOf P el with
      | some inf, some z => M.append el inf.size inf.bytes z.cells s x k w
      | _, _ => False
    | _, _ => M.next P (builtin b ts t cs args) k w
  | _, _, _ => M.next P (builtin b ts t cs args) k w
def opCall (P : Program) (f : FuncId) (args : Array Value) (k : Kt) (w : World) : Prop :=
  match P.funcs[f]? with
  | some fn => if fn.body.isSome && (fn.name != "runtime.NumGoroutine") then M.call P f args k w else M.next P (callFunc f args) k w
  | none => False

/-- One operation: what it asks, and what it leaves for what follows. -/
def opW (P : Program) (o : Oper) (e : Env) (k : Kt) (w : World) : Prop :=
  match o.op with
  | .move x | .assign x => k (ev e x) w
  | .pick c a b => M.pick (ev e c) (ev e a) (ev e b) k w
  | .alloc t => opNew P t k w
  | .box t x => M.new t (ev e x).cells k w
  | .build t parts => pureW P (Instr.build t (parts.map fun (i, x) => (i, ev e x))) k w
  | .buildSlice t len parts => opBuildSlice P t len (parts.toList.map fun (i, x) => (i, ev e x)) k w
  | .load t a => opLoad P t (ev e a) k w
  | .store t a x => opStore P t (ev e a) (ev e x) k w
  | .nilCheck x => M.nilCheck (ev e x) k w
  | .binOp op t x y _ => opBin P op t x y (ev e x) (ev e y) k w
  | .unOp .not _ x => M.not (ev e x) k w
  | .unOp .neg _ x => M.neg (ev e x) k w
  | .unOp op _ x => M.val P (Op.unary op (ev e x)) k w
  | .convert s d x => opConv P s d (ev e x) k w
  | .sliceToArrayPointer t x => M.val P (Instr.arrayAt t (ev e x)) k w
  | .makeInterface t x => M.val P (Instr.makeInterface t (ev e x)) k w
  | .makeFunc fn first captured => k (.func fn (first.map (ev e)) (captured.map (ev e))) w
  | .makeMap t r => M.val P (Instr.makeMap t (r.map (ev e))) k w
  | .makeSlice t l c => opMakeSlice P t (ev e l) (ev e c) k w
  | .slice t x lo hi mx => opSlice P t (ev e x) (lo.map (ev e)) (hi.map (ev e)) (mx.map (ev e)) k w
  | .fieldAddr s x f => opFieldAddr P s (ev e x) f k w
  | .field t x f => pureW P (Instr.field t (ev e x) f) k w
  | .indexAddr t x i => opIndexAddr P t (ev e x) (ev e i) k w
  | .index t x i => pureW P (Instr.index t (ev e x) (ev e i)) k w
  | .lookup t x i ok => readW P (Instr.lookup t (ev e x) (ev e i) ok) k w
  | .mapUpdate t m key x | .insert t m key x => M.unit P (Instr.mapUpdate t (ev e m) (ev e key) (ev e x)) k w
  | .mapEntry t m key => M.val P (Instr.mapEntry t (ev e m) (ev e key)) k w
  | .entryStore t m s x => M.unit P (Instr.entryStore t (ev e m) (ev e s) (ev e x)) k w
  | .range t x => M.val P (Instr.range t (ev e x)) k w
  | .next it isString => M.val P (Instr.next (ev e it) isString o.type) k w
  | .entry it => M.val P (Instr.entry (ev e it)) k w
  | .typeAssert x xt t ok => M.val P (Instr.typeAssert (ev e x) xt t ok) k w
  | .extract t i => M.extract i (ev e t) k w
  | .call { callee := .value (.func f), args, argTypes := _ } => opCall P f (args.map (ev e)) k w
  | .call { callee := .value f, args, argTypes := _ } => M.callv P (ev e f) (args.map (ev e)) k w
  | .call { callee := .builtin b, args, argTypes } => opBuiltin P b argTypes o.type (args.map fun | .const _ => true | _ => false) (args.map (ev e)) k w
  | _ => False

/-- Operations that leave the world as it is, whatever it is. -/
def pureOp (P : Program) (o : Oper) : Bool :=
  match o.op with
  | .move _ | .assign _ | .pick .. | .build .. | .nilCheck _ | .fieldAddr .. | .field .. | .indexAddr .. | .index .. | .extract .. | .makeFunc .. => true
  | .unOp .not _ _ | .unOp .neg _ _ => true
  | .binOp op t _ y _ => match P.underlying t with
    | some (.int _) => true
    | some .bool => (op == .eql || op == .neq)
    | some .string => op == .add
    | some d => (op == .eql || op == .neq) && (nilKd d y).isSome
    | none => false
  | .convert s d _ => match P.underlying s, P.underlying d with
    | some (.int _), some (.int _) => true
    | _, _ => false
  | .slice t .. => match P.underlying t with
    | some (.slice _) => true
    | _ => false
  | .call { callee := .builtin .len, args, argTypes } | .call { callee := .builtin .cap, args, argTypes } => args.size == 1 && match argTypes.toList with
    | [t0] => match P.underlying t0 with
      | some (.slice _) => true
      | _ => false
    | _ => false
  | _ => false
/-- Operations that leave the world as it is, and look at it. -/
def readOp (o : Oper) : Bool :=
  match o.op with
  | .load .. | .lookup .. => true
  | _ => false

end Go.Mw
namespace Go.Mw
section
variable {P : Program} {k : Kt} {w : World}

theorem pureW_exec {s : Sem Value} (h : pureW P s k w) : execW P (do pure (.value (← s))) k w := by
  obtain ⟨v, hv, hk⟩ := h
  exact execW_value (hv w) hk
theorem pureW_mk {s : Sem Value} {v : Value} (hv : ∀ w', s.run P w' = .ok v w') (hk : k v w) : pureW P s k w := ⟨v, hv, hk⟩
theorem readW_exec {s : Sem Value} (h : readW P s k w) : execW P (do pure (.value (← s))) k w := by
  obtain ⟨v, hv, hk⟩ := h
  exact execW_value hv hk

theorem rdL_run (ad : Addr) : ∀ (n i : Nat) (acc : Array Value) (l : List Value), rdL w ad n i = some l →
    (loadCellsFrom ad i n acc).run P w = .ok (acc ++ l.toArray) w
  | 0, i, acc, l, h => by simp [rdL] at h; subst h; simp [loadCellsFrom]
  | n + 1, i, acc, l, h => by
    unfold rdL at h
    split at h
    · rename_i v hv
      cases hr : rdL w ad n (i + 1) with
      | none => simp [hr] at h
      | some l' =>
        simp [hr] at h
        subst h
        have ih := rdL_run ad n (i + 1) (acc.push v) l' hr
        simp only [loadCellsFrom, Sem.run_bind, run_load, hv, Result.andThen, ih]
        simp
    · cases h
theorem rdL_len (ad : Addr) : ∀ (n i : Nat) (l : List Value), rdL w ad n i = some l → l.length = n
  | 0, i, l, h => by simp [rdL] at h; subst h; rfl
  | n + 1, i, l, h => by
    unfold rdL at h
    split at h
    · cases hr : rdL w ad n (i + 1) with
      | none => simp [hr] at h
      | some l' => simp [hr] at h; subst h; simp [rdL_len ad n (i + 1) l' hr]
    · cases h
theorem wrL_run (ad : Addr) : ∀ (vs : List Value) (i : Nat) (w w' : World), wrL ad vs i w = some w' → (storeCells ad vs i).run P w = .ok () w'
  | [], i, w, w', h => by simp [wrL] at h; subst h; simp [storeCells]
  | v :: vs, i, w, w', h => by
    unfold wrL at h
    split at h
    · rename_i hv
      split at h
      · rename_i u hu
        split at h
        · cases h
        · rename_i hf
          have ih := wrL_run ad vs (i + 1) _ w' h
          simp only [storeCells, Sem.run_bind, run_store P w (ad.add i) v .plain hv, hu, hf]
          simpa using ih
      · cases h
    · cases h

theorem pure_value {s : Sem Value} {v : Value} {w w' : World} (h : s.run P w = .ok v w') : (do pure (Next.value (← s)) : Sem Next).run P w = .ok (.value v) w' := by
  rw [Sem.run_bind, h]; rfl

theorem run_und {t : TypeId} {d : TypeDesc} (h : P.underlying t = some d) (w : World) : (underlying t).run P w = .ok d w := by
  simp [underlying, h]
theorem run_inf {t : TypeId} {i : TypeInfo} (h : P.info? t = some i) (w : World) : (typeInfo t).run P w = .ok i w := by
  simp [typeInfo, h]
theorem run_sz {t : TypeId} {i : TypeInfo} (h : P.info? t = some i) (w : World) : (sizeOf t).run P w = .ok i.size w := by
  simp [sizeOf, run_inf h]
theorem run_zero {t : TypeId} {z : Value} (h : zeroOf P t = some z) (w : World) : (zeroValue t).run P w = .ok z w := by
  unfold zeroOf at h
  cases hi : P.info? t with
  | none => simp [hi] at h
  | some i => simp [hi] at h; simp [zeroValue, run_inf hi, h]
theorem run_isAgg {t : TypeId} {d : TypeDesc} (h : P.underlying t = some d) (w : World) : (isAgg t).run P w = .ok (TypeDesc.agg d) w := by
  cases d <;> simp [isAgg, run_und h, TypeDesc.agg]

theorem range_map_zero {α : Type} (f : Nat → α) : (Array.range 0).map f = #[] := by
  apply Array.eq_empty_of_size_eq_zero; simp
theorem rdL_drew (ad : Addr) : ∀ (n i : Nat), rdL w.drew ad n i = rdL w ad n i
  | 0, i => rfl
  | n + 1, i => by simp only [rdL, World.cell?_drew, rdL_drew ad n (i + 1)]
theorem srcL_drew (A : Option Addr) (n : Nat) : srcL w.drew A n = srcL w A n := by
  cases A <;> simp [srcL, rdL_drew]
theorem nextslicecap_ge {n c : Nat} (h : c < n) : n ≤ Builtin.nextslicecap n c := by
  unfold Builtin.nextslicecap
  split
  · exact Nat.le_refl _
  · split
    · omega
    · simp only [Builtin.growBy]
      repeat' split
      all_goals omega
theorem wrap_i64 {n : Int} (h0 : -9223372036854775808 ≤ n) (h1 : n < 9223372036854775808) : IntKind.i64.wrap n = n := by
  have e : IntKind.i64.wrap n = if n % 18446744073709551616 ≥ 9223372036854775808 then n % 18446744073709551616 - 18446744073709551616 else n % 18446744073709551616 := by
    unfold IntKind.wrap
    simp [IntKind.bits, IntKind.signed]
  rw [e]
  omega

theorem opLoad_read {t : TypeId} {a : Value} (h : opLoad P t a k w) : readW P (Instr.loadAt t a) k w := by
  unfold opLoad at h
  split at h
  · rename_i d i hd hi
    split at h
    · rename_i hag
      unfold M.loadA at h
      split at h
      · rename_i ad
        split at h
        · rename_i l hl
          refine ⟨_, ?_, h⟩
          have := rdL_run (P := P) ad i.size 0 #[] l hl
          simp [Instr.loadAt, Instr.sureAddr, loadVar, run_isAgg hd, hag, run_sz hi, loadCells, this]
        · exact h.elim
      · exact h.elim
    · rename_i hag
      unfold M.load1 at h
      split at h
      · rename_i ad
        split at h
        · rename_i v hv
          refine ⟨_, ?_, h⟩
          simp [Instr.loadAt, Instr.sureAddr, loadVar, run_isAgg hd, hag, run_load, hv]
        · exact h.elim
      · exact h.elim
  · exact h.elim

theorem opStore_exec {t : TypeId} {a v : Value} (h : opStore P t a v k w) : execW P (do Instr.storeAt t a v; pure .skip) k w := by
  unfold opStore at h
  split at h
  · rename_i i hi
    unfold M.store at h
    split at h
    · rename_i ad
      obtain ⟨hs, h⟩ := h
      split at h
      · rename_i w' hw
        refine execW_unit (w' := w') ?_ h
        have := wrL_run (P := P) ad _ 0 w w' hw
        simp [Instr.storeAt, Instr.sureAddr, storeVar, run_sz hi, hs, this]
      · exact h.elim
    · exact h.elim
  · exact h.elim

theorem opNew_exec {t : TypeId} (h : opNew P t k w) : execW P (do pure (.value (← Instr.alloc t true (.tuple #[])))) k w := by
  unfold opNew at h
  split at h
  · rename_i z hz
    refine execW_value ?_ h
    simp [Instr.alloc, run_zero hz, newVar, newRow]
  · exact h.elim

theorem new_exec {t : TypeId} {v : Value} (h : M.new t v.cells k w) : execW P (do pure (.value (← Instr.box t v))) k w := by
  refine execW_value ?_ h
  simp [Instr.box, newVar, newRow]

theorem opFieldAddr_pure {s : TypeId} {x : Value} {f : Nat} (h : opFieldAddr P s x f k w) : pureW P (Instr.fieldAt s x f) k w := by
  unfold opFieldAddr at h
  split at h
  · rename_i fs hs
    split at h
    · rename_i fd hf
      split at h
      · rename_i i hi
        split at h
        · exact h.elim
        · rename_i hz
          unfold M.fieldAddr at h
          split at h
          · rename_i ad
            refine ⟨_, fun w' => ?_, h⟩
            simp [Instr.fieldAt, Instr.sureAddr, run_und hs, hf, fieldPlace, run_sz hi, hz]
          · exact h.elim
      · exact h.elim
    · exact h.elim
  · exact h.elim

theorem opIndexAddr_pure {t : TypeId} {x i : Value} (h : opIndexAddr P t x i k w) : pureW P (Instr.indexAt t x i) k w := by
  unfold opIndexAddr at h
  split at h
  · rename_i el ht
    split at h
    · rename_i inf hi
      unfold M.indexSl at h
      split at h
      · rename_i ad n c kk ii
        obtain ⟨⟨h0, h1⟩, h⟩ := h
        refine ⟨_, fun w' => ?_, h⟩
        simp [Instr.indexAt, asIntOf, run_und ht, run_sz hi, h0, h1]
      · exact h.elim
    · exact h.elim
  · rename_i n el ht
    split at h
    · rename_i inf hi
      unfold M.indexArr at h
      split at h
      · rename_i ad kk ii
        obtain ⟨⟨h0, h1⟩, h⟩ := h
        refine ⟨_, fun w' => ?_, h⟩
        simp [Instr.indexAt, asIntOf, run_und ht, run_sz hi, h0, h1, Instr.sureAddr]
      · exact h.elim
    · exact h.elim
  · exact h.elim

theorem sb_run {v : Value} {y n : Nat} {c : BoundsCode} (h : sb y v = some n) (w : World) : (Instr.sliceBound v y c).run P w = .ok n w := by
  unfold sb at h
  split at h
  · rename_i kk i
    split at h
    · rename_i hi
      simp at h
      subst h
      simp [Instr.sliceBound, asIntOf, hi]
    · cases h
  · cases h

theorem sl3_run {n c : Nat} {lo hi mx : Option Value} {r : Nat × Nat × Nat} (h : sl3 n c lo hi mx = some r) (w : World) :
    (Instr.sliceBounds true n c lo hi mx).run P w = .ok r w := by
  unfold sl3 at h
  cases mx with
  | none =>
    simp only at h
    cases hi with
    | none =>
      cases lo with
      | none => simp at h; subst h; simp [Instr.sliceBounds]
      | some l =>
        simp only at h
        cases hl : sb n l with
        | none => simp [hl] at h
        | some l' => simp [hl] at h; subst h; simp [Instr.sliceBounds, sb_run hl]
    | some hh =>
      simp only at h
      cases hb : sb c hh with
      | none => simp [hb] at h
      | some h' =>
        simp only [hb] at h
        cases lo with
        | none => simp at h; subst h; simp [Instr.sliceBounds, sb_run hb]
        | some l =>
          simp only at h
          cases hl : sb h' l with
          | none => simp [hl] at h
          | some l' => simp [hl] at h; subst h; simp [Instr.sliceBounds, sb_run hl, sb_run hb]
  | some m =>
    simp only at h
    cases hm : sb c m with
    | none => simp [hm] at h
    | some m' =>
      simp only [hm] at h
      cases hi with
      | none => simp at h
      | some hh =>
        simp only at h
        cases hb : sb m' hh with
        | none => simp [hb] at h
        | some h' =>
          simp only [hb] at h
          cases lo with
          | none => simp at h; subst h; simp [Instr.sliceBounds, sb_run hb, sb_run hm]
          | some l =>
            simp only at h
            cases hl : sb h' l with
            | none => simp [hl] at h
            | some l' => simp [hl] at h; subst h; simp [Instr.sliceBounds, sb_run hl, sb_run hb, sb_run hm]

theorem slice_pure {t el : TypeId} {inf : TypeInfo} {x : Value} {lo hi mx : Option Value} (ht : P.underlying t = some (.slice el)) (hi' : P.info? el = some inf)
    (h : M.slice inf.size x lo hi mx k w) : pureW P (Instr.sliceAt t x lo hi mx) k w := by
  unfold M.slice at h
  split at h
  · rename_i A n c
    split at h
    · rename_i l hh m hs
      refine ⟨_, fun w' => ?_, h⟩
      simp [Instr.sliceAt, Instr.slice, run_und ht, sl3_run hs, run_sz hi']
    · exact h.elim
  · exact h.elim

theorem opMakeSlice_exec {t : TypeId} {l c : Value} (h : opMakeSlice P t l c k w) : execW P (do pure (.value (← Instr.makeSlice t l c))) k w := by
  unfold opMakeSlice at h
  split at h
  · rename_i el ht
    split at h
    · rename_i inf z hi hz
      unfold M.makeSlice at h
      split at h
      · rename_i l c
        obtain ⟨⟨h0, h1, h2, h3⟩, h⟩ := h
        refine execW_value ?_ h
        have hl : IntKind.i64.wrap l = l := wrap_i64 (by omega) (by omega)
        have hc : IntKind.i64.wrap c = c := wrap_i64 (by omega) (by omega)
        have e1 : ¬ (c < 0) := by omega
        have e2 : ¬ (l < 0) := by omega
        have e3 : ¬ (l > c) := by omega
        have e4 : ¬ (281474976710656 < (inf.bytes : Int) * c) := by omega
        have e5 : ¬ (c < l) := by omega
        by_cases hn : c.toNat * inf.size = 0
        · simp only [Instr.makeSlice, Sem.run_bind, run_und ht, Result.andThen_ok, asInt, asIntOf, run_inf hi, Sem.run_pure, hl, hc]
          simp [e1, e2, e5, e4, run_sz hi, hn, newRow, range_map_zero, mkCells]
        · simp only [Instr.makeSlice, Sem.run_bind, run_und ht, Result.andThen_ok, asInt, asIntOf, run_inf hi, Sem.run_pure, hl, hc]
          simp [e1, e2, e5, e4, run_sz hi, run_zero hz, hn, newRow, mkCells]
      · exact h.elim
    · exact h.elim
  · exact h.elim

theorem opBuildSlice_exec {t : TypeId} {len : Nat} {parts : Array (Nat × Value)} (h : opBuildSlice P t len parts.toList k w) :
    execW P (do pure (.value (← Instr.buildSlice t len parts))) k w := by
  unfold opBuildSlice at h
  split at h
  · rename_i el ht
    split at h
    · rename_i inf z hi hz
      split at h
      · rename_i hle
        unfold M.buildSlice at h
        split at h
        · rename_i cells hf
          refine execW_value ?_ h
          have hle' : ¬ (len * inf.size > 2 ^ 24) := by omega
          by_cases hn : len * inf.size = 0
          · have e0 : mkCells z.cells (len * inf.size) = (Array.range (len * inf.size)).map ((#[] : Array Value)[· % (#[] : Array Value).size]!) := by
              rw [hn]; simp only [mkCells, range_map_zero]
            rw [e0] at hf
            simp only [Instr.buildSlice, Sem.run_bind, run_und ht, Result.andThen_ok, run_sz hi, hle', if_false, Sem.run_ite, hn, if_true, Sem.run_pure]
            rw [hn] at hf
            simp only [hf]
            simp [newRow]
          · simp only [Instr.buildSlice, Sem.run_bind, run_und ht, Result.andThen_ok, run_sz hi, hle', if_false, Sem.run_ite, hn, Sem.run_pure, run_zero hz]
            unfold mkCells at hf
            simp only [hf]
            simp [newRow]
        · exact h.elim
      · exact h.elim
    · exact h.elim
  · exact h.elim

theorem len_pure {ts : Array TypeId} {t t0 el : TypeId} {x : Value} (hts : ts.toList = [t0]) (ht : P.underlying t0 = some (.slice el)) (h : M.len x k w) :
    pureW P (Builtin.len_ ts t #[x]) k w := by
  unfold M.len at h
  split at h
  · rename_i A n c
    refine ⟨_, fun w' => ?_, h⟩
    obtain rfl : ts = #[t0] := by cases ts; simp_all
    simp [Builtin.len_, run_und ht, goInt]
  · exact h.elim
theorem lenS_pure {ts : Array TypeId} {t t0 : TypeId} {x : Value} (hts : ts.toList = [t0]) (ht : P.underlying t0 = some .string) (h : M.lenS x k w) :
    pureW P (Builtin.len_ ts t #[x]) k w := by
  unfold M.lenS at h
  split at h
  · rename_i s
    refine ⟨_, fun w' => ?_, h⟩
    obtain rfl : ts = #[t0] := by cases ts; simp_all
    simp [Builtin.len_, run_und ht, goInt]
  · exact h.elim
theorem cap_pure {ts : Array TypeId} {t t0 el : TypeId} {x : Value} (hts : ts.toList = [t0]) (ht : P.underlying t0 = some (.slice el)) (h : M.cap x k w) :
    pureW P (Builtin.cap_ ts t #[x]) k w := by
  unfold M.cap at h
  split at h
  · rename_i A n c
    refine ⟨_, fun w' => ?_, h⟩
    obtain rfl : ts = #[t0] := by cases ts; simp_all
    simp [Builtin.cap_, run_und ht, goInt]
  · exact h.elim

theorem srcL_run {A : Option Addr} {sz n c : Nat} {l : List Value} (h : srcL w A (n * sz) = some l) :
    (Builtin.firstCells sz n (.slice A n c)).run P w = .ok l.toArray w := by
  unfold srcL at h
  cases A with
  | none => simp at h; subst h; simp [Builtin.firstCells]
  | some ad =>
    have := rdL_run (P := P) ad (n * sz) 0 #[] l h
    simp [Builtin.firstCells, loadCells, this]

theorem append_exec {ts : Array TypeId} {t t0 t1 el : TypeId} {inf : TypeInfo} {z s x : Value} (hts : ts.toList = [t0, t1])
    (ht : P.underlying t0 = some (.slice el)) {el1 : TypeId} (ht1 : P.underlying t1 = some (.slice el1)) (hi : P.info? el = some inf) (hz : zeroOf P el = some z)
    (h : M.append el inf.size inf.bytes z.cells s x k w) : execW P (do pure (.value (← Builtin.append_ ts t #[s, x]))) k w := by
  unfold M.append at h
  split at h
  · rename_i A n c B m c2
    obtain ⟨xs, hxs, h⟩ := h
    obtain rfl : ts = #[t0, t1] := by cases ts; simp_all
    have hx := srcL_run (P := P) (c := c2) hxs
    split at h
    · rename_i hle
      split at h
      · rename_i ad
        split at h
        · rename_i w' hw
          refine execW_value (w' := w') ?_ h
          have := wrL_run (P := P) _ _ 0 w w' hw
          simp [Builtin.append_, run_und ht, run_und ht1, run_sz hi, Builtin.lenOf, hle, hx, this]
        · exact h.elim
      · refine execW_value ?_ h
        simp [Builtin.append_, run_und ht, run_und ht1, run_sz hi, Builtin.lenOf, hle, hx]
    · rename_i hgt
      obtain ⟨⟨hcap, hb⟩, old, hold, h⟩ := h
      have hneed : n + m < 9223372036854775808 := by
        have h1 := nextslicecap_ge (n := n + m) (c := c) (by omega)
        have h2 : Builtin.nextslicecap (n + m) c * 1 ≤ Builtin.nextslicecap (n + m) c * inf.bytes := Nat.mul_le_mul_left _ hb
        omega
      have hlt : ¬ (Builtin.nextslicecap (n + m) c * inf.bytes > 2 ^ 48) := by omega
      have hq : n + m ≤ (Question.appendCap (n + m) c el).cut (w.tape w.drawn (Question.appendCap (n + m) c el)) ∧
          (Question.appendCap (n + m) c el).cut (w.tape w.drawn (Question.appendCap (n + m) c el)) < 9223372036854775808 := by
        simp only [Question.cut]
        have : (w.tape w.drawn (Question.appendCap (n + m) c el)) % (2 ^ 63 - (n + m)) < 2 ^ 63 - (n + m) := Nat.mod_lt _ (by omega)
        omega
      generalize hc' : (Question.appendCap (n + m) c el).cut (w.tape w.drawn (Question.appendCap (n + m) c el)) = c' at hq
      have hk := h c' hq.1 hq.2
      refine execW_value ?_ hk
      have hold2 := srcL_run (P := P) (w := w.drew) (c := c) (A := A) (sz := inf.size) (n := n) (l := old) (by rw [srcL_drew]; exact hold)
      have hx2 := srcL_run (P := P) (w := w.drew) (c := c2) (A := B) (sz := inf.size) (n := m) (l := xs) (by rw [srcL_drew]; exact hxs)
      have hb0 : ¬ inf.bytes = 0 := by omega
      have hlt' : ¬ (281474976710656 < Builtin.nextslicecap (n + m) c * inf.bytes) := by omega
      simp [Builtin.append_, run_und ht, run_und ht1, run_sz hi, run_inf hi, run_zero hz, Builtin.lenOf, hgt, hlt', hb0, Question.forced, hc', hold2, hx2, newRow]
      congr 2
      apply Array.ext'
      simp
  · exact h.elim

theorem extract_pure {i : Nat} {x : Value} (h : M.extract i x k w) : pureW P (Instr.extract x i) k w := by
  unfold M.extract at h
  split at h
  · rename_i vs
    split at h
    · rename_i v hv
      exact ⟨v, fun w' => by simp [Instr.extract, hv], h⟩
    · exact h.elim
  · exact h.elim

theorem bin_pure {op : BinOp} {t : TypeId} {x y : Operand} {a b : Value} (hs : ∀ d, op ≠ .shl ∧ op ≠ .shr ∨ d) (h : M.bin op a b k w) :
    pureW P (do eqGuard op t x y a b; binOp op t a b) k w := by
  have hs := (hs False).resolve_right id
  unfold M.bin at h
  split at h
  · rename_i d a d' b
    obtain ⟨rfl, h⟩ := h
    split at h
    · rename_i v hv
      refine ⟨v, fun w' => ?_, h⟩
      cases op <;> simp [ibin] at hv <;> first
        | (exact absurd rfl hs.1) | (exact absurd rfl hs.2)
        | (obtain ⟨hb, rfl⟩ := hv; simp [eqGuard, binOp, Op.intDiv, hb])
        | (subst hv; simp [eqGuard, binOp, Op.intArith, Op.intBits, Op.intCmp])
    · exact h.elim
  · exact h.elim

theorem shift_pure {op : BinOp} {t : TypeId} {x y : Operand} {a b : Value} (hs : op = .shl ∨ op = .shr) (h : M.shift op a b k w) :
    pureW P (do eqGuard op t x y a b; binOp op t a b) k w := by
  unfold M.shift at h
  split at h
  · rename_i d a d' b
    split at h
    · rename_i v hv
      refine ⟨v, fun w' => ?_, h⟩
      unfold ishift at hv
      split at hv
      · cases hv
      · rename_i hb
        have hb' : ¬ b < 0 := hb
        rcases hs with rfl | rfl
        · simp at hv; subst hv
          simp [eqGuard, binOp, Op.shift, hb']
        · simp at hv; subst hv
          simp [eqGuard, binOp, Op.shift, hb']
    · exact h.elim
  · exact h.elim

theorem equal_eq (t : TypeId) (x y : Value) : Op.equal t x y = Op.equalIn (9999 + 1) t x y := rfl
theorem equalIn_bool {d : Nat} {t : TypeId} {a b : Bool} (ht : P.underlying t = some .bool) (w : World) : (Op.equalIn (d + 1) t (.bool a) (.bool b)).run P w = .ok (a == b) w := by
  unfold Op.equalIn; simp [run_und ht]
theorem equalIn_ptr_nil {d : Nat} {t el : TypeId} {a : Option Addr} (ht : P.underlying t = some (.pointer el)) (w : World) :
    (Op.equalIn (d + 1) t (.pointer a) (.pointer none)).run P w = .ok a.isNone w := by
  unfold Op.equalIn; cases a <;> simp [run_und ht]
theorem equalIn_slice_nil {d : Nat} {t el : TypeId} {a : Option Addr} {n c n' c' : Nat} (ht : P.underlying t = some (.slice el)) (w : World) :
    (Op.equalIn (d + 1) t (.slice a n c) (.slice none n' c')).run P w = .ok a.isNone w := by
  unfold Op.equalIn; cases a <;> simp [run_und ht]
theorem equalIn_map_nil {d : Nat} {t ke el : TypeId} {a : Option Nat} (ht : P.underlying t = some (.map ke el)) (w : World) :
    (Op.equalIn (d + 1) t (.map a) (.map none)).run P w = .ok a.isNone w := by
  unfold Op.equalIn; cases a <;> simp [run_und ht]
theorem eqB_pure {neq : Bool} {t : TypeId} {x y : Operand} {a b : Value} (ht : P.underlying t = some .bool) (h : M.eqB neq a b k w) :
    pureW P (do eqGuard (if neq then .neq else .eql) t x y a b; binOp (if neq then .neq else .eql) t a b) k w := by
  unfold M.eqB at h
  split at h
  · rename_i a b
    refine ⟨_, fun w' => ?_, h⟩
    cases neq <;> simp [eqGuard, binOp, equal_eq, equalIn_bool ht]
  · exact h.elim

theorem eqNil_pure {neq : Bool} {kd : Nat} {t : TypeId} {d : TypeDesc} {x y : Operand} {a : Value} {e : Env} (ht : P.underlying t = some d)
    (hn : nilKd d y = some kd) (h : M.eqNil kd neq a k w) :
    pureW P (do eqGuard (if neq then .neq else .eql) t x y a (ev e y); binOp (if neq then .neq else .eql) t a (ev e y)) k w := by
  unfold M.eqNil at h
  split at h
  · rename_i v hv
    refine ⟨_, fun w' => ?_, h⟩
    unfold nilKd at hn
    split at hn <;> simp at hn <;> subst hn <;> cases a <;> simp [isNilV] at hv <;> subst hv
    · rename_i el pa
      cases neq <;> cases pa <;> simp [eqGuard, binOp, equal_eq, equalIn_ptr_nil ht, ev]
    · rename_i el sl1 sl2 pa n c
      cases neq <;> cases pa <;> simp [eqGuard, binOp, equal_eq, equalIn_slice_nil ht, ev]
    · rename_i k1 k2 r
      cases neq <;> cases r <;> simp [eqGuard, binOp, equal_eq, equalIn_map_nil ht, ev]
  · exact h.elim

end
end Go.Mw
namespace Go.Mw
section
variable {P : Program} {k : Kt} {w : World}

def PureRun (P : Program) (s : Sem Next) (k : Kt) (w : World) : Prop := ∃ v, (∀ w', s.run P w' = .ok (.value v) w') ∧ k v w
def ReadRun (P : Program) (s : Sem Next) (k : Kt) (w : World) : Prop := ∃ v, s.run P w = .ok (.value v) w ∧ k v w

theorem pureW_run {s : Sem Value} (h : pureW P s k w) : PureRun P (do pure (.value (← s))) k w := by
  obtain ⟨v, hv, hk⟩ := h
  exact ⟨v, fun w' => pure_value (hv w'), hk⟩
theorem readW_run {s : Sem Value} (h : readW P s k w) : ReadRun P (do pure (.value (← s))) k w := by
  obtain ⟨v, hv, hk⟩ := h
  exact ⟨v, pure_value hv, hk⟩
theorem PureRun.exec {s : Sem Next} (h : PureRun P s k w) : execW P s k w := by
  obtain ⟨v, hv, hk⟩ := h
  unfold execW; rw [hv w]; exact hk
theorem ReadRun.exec {s : Sem Next} (h : ReadRun P s k w) : execW P s k w := by
  obtain ⟨v, hv, hk⟩ := h
  unfold execW; rw [hv]; exact hk

theorem scat_pure {t : TypeId} {x y : Operand} {a b : Value} (h : M.scat a b k w) :
    pureW P (do eqGuard .add t x y a b; binOp .add t a b) k w := by
  unfold M.scat at h
  split at h
  · rename_i a b
    obtain ⟨h1, h2⟩ := h
    refine ⟨_, fun w' => ?_, h2⟩
    have e1 : (do eqGuard .add t x y (.string a) (.string b); binOp .add t (.string a) (.string b) : Sem Value).run P w' = (Op.stringOp .add a b).run P w' := rfl
    rw [e1]
    exact run_string_add_sum w' _ _ h1
  · exact h.elim
theorem opBin_pure {op : BinOp} {t : TypeId} {x y : Operand} {e : Env}
    (hp : (match P.underlying t with | some (.int _) => true | some .bool => (op == .eql || op == .neq) | some .string => op == .add | some d => (op == .eql || op == .neq) && (nilKd d y).isSome | none => false) = true)
    (h : opBin P op t x y (ev e x) (ev e y) k w) : pureW P (do eqGuard op t x y (ev e x) (ev e y); binOp op t (ev e x) (ev e y)) k w := by
  unfold opBin at h
  split at h
  · split at h
    · exact shift_pure (.inl rfl) h
    · exact shift_pure (.inr rfl) h
    · rename_i h1 h2
      exact bin_pure (fun d => .inl ⟨h1, h2⟩) h
  · rename_i ht
    split at h
    · exact eqB_pure (neq := false) ht h
    · exact eqB_pure (neq := true) ht h
    · exact h.elim
  · rename_i ht
    split at h
    · exact scat_pure h
    · rename_i h1
      rw [ht] at hp
      simp only [beq_iff_eq] at hp
      exact absurd hp h1
  · rename_i d hni hnb hns ht
    split at h
    · rename_i kd hk
      exact eqNil_pure (neq := false) ht hk h
    · rename_i kd hk
      exact eqNil_pure (neq := true) ht hk h
    · rename_i h1 h2
      rw [ht] at hp
      split at hp
      · rename_i he; exact absurd (Option.some.inj he) (hni _)
      · rename_i he; exact absurd (Option.some.inj he) hnb
      · rename_i he; exact absurd (Option.some.inj he) hns
      · rename_i dd _ _ he
        obtain rfl := Option.some.inj he
        simp only [Bool.and_eq_true, Bool.or_eq_true, beq_iff_eq] at hp
        obtain ⟨ho, hs⟩ := hp
        obtain ⟨kd, hkd⟩ := Option.isSome_iff_exists.1 hs
        rcases ho with rfl | rfl
        · exact absurd hkd (h1 kd rfl)
        · exact absurd hkd (h2 kd rfl)
      · cases hp
  · exact h.elim

theorem opConv_pure {s d : TypeId} {x : Value} (hp : (match P.underlying s, P.underlying d with | some (.int _), some (.int _) => true | _, _ => false) = true)
    (h : opConv P s d x k w) : pureW P (convert s d x) k w := by
  unfold opConv at h
  split at h
  · rename_i kd hs hd
    unfold M.conv at h
    split at h
    · exact ⟨_, fun w' => by simp [convert, run_und hs, run_und hd, Conv.intToInt], h⟩
    · exact h.elim
  · rename_i hno
    split at hp
    · rename_i h1 h2; exact absurd h2 (fun h2 => hno _ _ h1 h2)
    · cases hp

theorem opW_pure {o : Oper} {e : Env} (hp : pureOp P o = true) (h : opW P o e k w) : PureRun P (execOp (ev e) o) k w := by
  unfold execOp
  unfold opW at h
  unfold pureOp at hp
  cases ho : o.op <;> simp only [ho] at h hp ⊢ <;> try (cases hp; done)
  case move x => exact ⟨_, fun w' => rfl, h⟩
  case assign x => exact ⟨_, fun w' => rfl, h⟩
  case pick c a b =>
    unfold M.pick at h
    split at h
    · rename_i hb; exact ⟨_, fun w' => by simp [asBool, hb], h⟩
    · rename_i hb; exact ⟨_, fun w' => by simp [asBool, hb], h⟩
    · exact h.elim
  case build t parts => exact pureW_run h
  case nilCheck x =>
    unfold M.nilCheck at h
    split at h
    · rename_i hb; exact ⟨_, fun w' => by rw [hb]; rfl, h⟩
    · rename_i hb; exact ⟨_, fun w' => by rw [hb]; rfl, h⟩
    · exact h.elim
  case binOp op t x y ty => exact pureW_run (opBin_pure hp h)
  case unOp op t x =>
    cases op <;> simp only at h hp ⊢ <;> try (cases hp; done)
    · refine pureW_run ?_
      unfold M.neg at h
      split at h
      · rename_i hb; exact ⟨_, fun w' => by rw [hb]; simp [Op.unary, Op.intArith], h⟩
      · exact h.elim
    · refine pureW_run ?_
      unfold M.not at h
      split at h
      · rename_i hb; exact ⟨_, fun w' => by rw [hb]; simp [Op.unary], h⟩
      · exact h.elim
  case convert s d x => exact pureW_run (opConv_pure hp h)
  case makeFunc fn fi ca => exact ⟨_, fun w' => rfl, h⟩
  case slice t x lo hi mx =>
    unfold opSlice at h
    split at h
    · rename_i el ht
      split at h
      · rename_i inf hi
        exact pureW_run (slice_pure ht hi h)
      · exact h.elim
    · rename_i hno
      split at hp
      · rename_i el he; exact absurd he (hno _)
      · cases hp
  case fieldAddr s x f => exact pureW_run (opFieldAddr_pure h)
  case field t x f => exact pureW_run h
  case indexAddr t x i => exact pureW_run (opIndexAddr_pure h)
  case index t x i => exact pureW_run h
  case extract t i => exact pureW_run (extract_pure h)
  case call c =>
    obtain ⟨callee, args, ts⟩ := c
    cases callee with
    | value f => simp at hp
    | invoke r m => simp at hp
    | builtin b =>
      cases b <;> simp at hp
      case cap =>
        obtain ⟨h1, h2⟩ := hp
        split at h2
        · rename_i t0 hts
          split at h2
          · rename_i el ht
            match args, h1 with
            | ⟨[x]⟩, _ =>
              simp [opBuiltin, hts, ht] at h
              have := pureW_run (cap_pure (t := o.type) hts ht h)
              simpa [resolve, invoke, builtin, Result.andThen] using this
          · cases h2
        · cases h2
      case len =>
        obtain ⟨h1, h2⟩ := hp
        split at h2
        · rename_i t0 hts
          split at h2
          · rename_i el ht
            match args, h1 with
            | ⟨[x]⟩, _ =>
              simp [opBuiltin, hts, ht] at h
              have := pureW_run (len_pure (t := o.type) hts ht h)
              simpa [resolve, invoke, builtin, Result.andThen] using this
          · cases h2
        · cases h2

theorem opW_read {o : Oper} {e : Env} (hp : readOp o = true) (h : opW P o e k w) : ReadRun P (execOp (ev e) o) k w := by
  unfold execOp
  unfold opW at h
  unfold readOp at hp
  cases ho : o.op <;> simp only [ho] at h hp ⊢ <;> try (cases hp; done)
  case load t a => exact readW_run (opLoad_read h)
  case lookup t x i ok => exact readW_run h

theorem opCall_exec {f : FuncId} {args : Array Value} (h : opCall P f args k w) : execW P (callFunc f args) k w := by
  unfold opCall at h
  split at h
  · rename_i fn hf
    split at h
    · rename_i hb
      simp only [Bool.and_eq_true, bne_iff_ne, ne_eq] at hb
      obtain ⟨h1, h2⟩ := hb
      have h3 : fn.body ≠ none := by cases hbb : fn.body <;> simp_all
      have hr : (callFunc f args).run P w = .ok (.enter f args) w := by
        simp [callFunc, hf, h2, h3]
      unfold execW
      rw [hr]
      exact h
    · exact h
  · exact h.elim

theorem opW_sound {o : Oper} {e : Env} (h : opW P o e k w) : execW P (execOp (ev e) o) k w := by
  by_cases hp : pureOp P o = true
  · exact (opW_pure hp h).exec
  by_cases hr : readOp o = true
  · exact (opW_read hr h).exec
  unfold execOp
  unfold opW at h
  cases ho : o.op <;> simp only [ho] at h ⊢
  case move x => simp [pureOp, ho] at hp
  case assign x => simp [pureOp, ho] at hp
  case pick c a b => simp [pureOp, ho] at hp
  case build t parts => simp [pureOp, ho] at hp
  case load t a => simp [readOp, ho] at hr
  case nilCheck x => simp [pureOp, ho] at hp
  case makeFunc => simp [pureOp, ho] at hp
  case fieldAddr => simp [pureOp, ho] at hp
  case field => simp [pureOp, ho] at hp
  case indexAddr => simp [pureOp, ho] at hp
  case index => simp [pureOp, ho] at hp
  case extract => simp [pureOp, ho] at hp
  case lookup => simp [readOp, ho] at hr
  case alloc t => exact opNew_exec h
  case box t x => exact new_exec h
  case buildSlice t len parts =>
    refine opBuildSlice_exec ?_
    simpa using h
  case store t a x => exact opStore_exec h
  case binOp op t x y ty =>
    simp [pureOp, ho] at hp
    unfold opBin at h
    split at h
    · rename_i h1; simp [h1] at hp
    · rename_i h1
      simp [h1] at hp
      split at h
      · exact absurd rfl hp.1
      · exact absurd rfl hp.2
      · exact h.elim
    · rename_i h1
      simp [h1] at hp
      split at h
      · exact absurd rfl hp
      · exact h
    · rename_i d h0 h1 hns hd
      simp only [hd] at hp
      split at h
      · rename_i kd hk
        simp [hk] at hp
      · rename_i kd hk
        simp [hk] at hp
      · exact h
    · exact h.elim
  case unOp op t x =>
    cases op <;> simp only at h ⊢ <;> first | exact h | (simp [pureOp, ho] at hp; done)
  case convert s d x =>
    unfold opConv at h
    split at h
    · rename_i h1 h2; simp [pureOp, ho, h1, h2] at hp
    · exact h
  case makeSlice t l c => exact opMakeSlice_exec h
  case slice t x lo hi mx =>
    unfold opSlice at h
    split at h
    · rename_i h1; simp [pureOp, ho, h1] at hp
    · exact h
  case call c =>
    obtain ⟨callee, args, ts⟩ := c
    cases callee with
    | invoke r m => exact h.elim
    | value f =>
      cases f with
      | func f =>
        simp only at h
        have := opCall_exec h
        simpa [resolve, Deferred.ofValue, ev, invoke] using this
      | tmp t => simpa [resolve, M.callv] using h
      | const t => simpa [resolve, M.callv] using h
      | global t => simpa [resolve, M.callv] using h
    | builtin b =>
      simp only at h
      have key : M.next P (builtin b ts o.type (args.map fun | .const _ => true | _ => false) (args.map (ev e))) k w := by
        unfold opBuiltin at h
        split at h
        · rename_i t0 x hts hargs
          have hargs' : args.map (ev e) = #[x] := by apply Array.ext'; simpa using hargs
          split at h
          · rename_i el ht
            rw [hargs']
            exact pureW_exec (len_pure (t := o.type) hts ht h)
          · rename_i ht
            rw [hargs']
            exact pureW_exec (lenS_pure (t := o.type) hts ht h)
          · exact h
        · rename_i t0 x hts hargs
          have hargs' : args.map (ev e) = #[x] := by apply Array.ext'; simpa using hargs
          split at h
          · rename_i el ht
            rw [hargs']
            exact pureW_exec (cap_pure (t := o.type) hts ht h)
          · exact h
        · rename_i t0 t1 s x hts hargs
          have hargs' : args.map (ev e) = #[s, x] := by apply Array.ext'; simpa using hargs
          split at h
          · rename_i el el1 ht0 ht1
            split at h
            · rename_i inf z hi hz
              rw [hargs']
              exact append_exec (t := o.type) hts ht0 ht1 hi hz h
            · exact h.elim
          · exact h
        · exact h
      simp only [resolve, invoke]
      exact key
  all_goals first | exact h | exact h.elim

end
end Go.Mw
namespace Go.Mw
section
variable {P : Program}

/-! ### a region -/
/-- One operation with its guard. -/
def stepW (P : Program) (ops : List Oper) (o : Oper) (e : Env) (k : Kt) (w : World) : Prop :=
  match o.guard with
  | none => opW P o e k w
  | some (j, want) => M.gd (gv ops e j) want (opW P o e) k w

def textL (P : Program) (ops : List Oper) (K : Env → World → Prop) : List Oper → Env → World → Prop
  | [], e, w => K e w
  | o :: rest, e, w => stepW P ops o e (fun v w => textL P ops K rest (put e o.dst v) w) w

/-- Outside S two environments are alike. -/
def Agr (S : List Nat) (e e' : Env) : Prop := e'.length = e.length ∧ ∀ i, i ∉ S → e'[i]? = e[i]?
theorem Agr.refl (S : List Nat) (e : Env) : Agr S e e := ⟨rfl, fun _ _ => rfl⟩
theorem Agr.trans {S : List Nat} {a b c : Env} (h : Agr S a b) (k : Agr S b c) : Agr S a c :=
  ⟨k.1.trans h.1, fun i hi => (k.2 i hi).trans (h.2 i hi)⟩
theorem Agr.mono {S T : List Nat} {a b : Env} (h : Agr S a b) (hs : ∀ i ∈ S, i ∈ T) : Agr T a b := ⟨h.1, fun i hi => h.2 i (fun hm => hi (hs i hm))⟩
theorem Agr.put {S : List Nat} {a b : Env} (h : Agr S a b) {d : Option Tmp} (hd : ∀ t, d = some t → t ∈ S) (v : Value) : Agr S a (put b d v) := by
  refine ⟨by rw [put_length]; exact h.1, fun i hi => ?_⟩
  cases d with
  | none => exact h.2 i hi
  | some t =>
    have : t ≠ i := fun e => hi (e ▸ hd t rfl)
    simp only [Mw.put, List.getElem?_set_ne this]
    exact h.2 i hi

theorem stepW_list {ops : List Oper} {o : Oper} {e : Env} {k : Kt} {w : World} {Q : Exit → Act → World → Prop} {rest : List Oper}
    (h : stepW P ops o e k w) (hk : ∀ v w', k v w' → wpList P ops.toArray Q rest (mk (put e o.dst v)) w') : wpList P ops.toArray Q (o :: rest) (mk e) w := by
  unfold stepW at h
  unfold wpList
  have fin : opW P o e k w → o.wp P (mk e) w (wpList P ops.toArray Q rest) Q := fun h => by
    have := opW_sound h
    rw [← mk_eval] at this
    refine Oper.wp_mono ?_ (execW_wp this)
    rintro a' w' ⟨v, rfl, hkv⟩
    rw [mk_put]; exact hk v w' hkv
  split at h
  · rename_i hg
    rw [if_pos (wanted_none _ _ hg)]
    exact .inl (fin h)
  · rename_i j want hg
    have hw : Region.wanted o (yielded ops.toArray (mk e).tmps) = gw want (gv ops e j) := by
      simp only [Region.wanted, hg]
      exact yielded_mk ops e j want
    unfold M.gd at h
    rw [hw]
    split at h
    · rename_i hgw
      rw [if_pos hgw]
      exact .inl (fin h)
    · rename_i hgw
      rw [if_neg hgw, mk_put]
      exact hk _ _ h

theorem textL_sound {ops : List Oper} {K : Env → World → Prop} {S : List Nat} {e0 : Env} {Q : Exit → Act → World → Prop}
    (hQ : ∀ e' w, Agr S e0 e' → K e' w → Q .normal (mk e') w) : ∀ (l : List Oper) (e : Env) (w : World),
    (∀ o ∈ l, ∀ d, o.dst = some d → d ∈ S) → Agr S e0 e → textL P ops K l e w → wpList P ops.toArray Q l (mk e) w
  | [], e, w, _, ha, h => hQ e w ha h
  | o :: rest, e, w, hd, ha, h => stepW_list h fun v w' hk =>
      textL_sound hQ rest _ w' (fun o ho => hd o (List.mem_cons_of_mem _ ho)) (ha.put (hd o List.mem_cons_self) v) hk

/-! ### a region that draws its order -/
def directly (ops : Array Oper) (i r : Nat) : Bool :=
  match ops[i]? with
  | some o => o.after.any fun e => Region.binds .any e && e.on == r
  | none => false

abbrev Live := List (Nat × (World → Prop))
def prune (ops : Array Oper) (i : Nat) (live : Live) : Live := live.filter fun x => !directly ops i x.1
def LiveOK (live : Live) (w : World) : Prop := ∀ x ∈ live, x.2 w

def wpL (P : Program) (ops : Array Oper) (Q : Exit → Act → World → Prop) : Nat → Array Bool → Live → Act → World → Prop
  | 0, listed, _, a, w => Region.ready .any ops listed = [] ∧ Q .normal a w
  | fuel + 1, listed, live, a, w =>
    (Region.ready .any ops listed = [] → Q .normal a w) ∧
    ∀ i ∈ Region.ready .any ops listed, wpOp P ops Q i (fun a' w' => LiveOK (prune ops i live) w' ∧ wpL P ops Q fuel (listed.setIfInBounds i true) (prune ops i live) a' w') a w

variable {ops : Array Oper} {Q : Exit → Act → World → Prop}
theorem wpL_any : ∀ (fuel : Nat) (listed : Array Bool) (live : Live) (a : Act) (w : World), wpL P ops Q fuel listed live a w → wpAny P .any ops Q fuel listed a w
  | 0, _, _, _, _, h => h
  | fuel + 1, _, _, _, _, h => ⟨h.1, fun i hi => wpOp_mono (fun a' w' h' => wpL_any fuel _ _ a' w' h'.2) (h.2 i hi)⟩

theorem prune_sub {i : Nat} {live live' : Live} (h : ∀ x ∈ live', x ∈ live) : ∀ x ∈ prune ops i live', x ∈ prune ops i live := fun x hx => by
  simp only [prune, List.mem_filter] at hx ⊢
  exact ⟨h x hx.1, hx.2⟩
theorem wpL_sub : ∀ (fuel : Nat) (listed : Array Bool) (live live' : Live) (a : Act) (w : World), (∀ x ∈ live', x ∈ live ∨ ∀ w, x.2 w) → wpL P ops Q fuel listed live a w → wpL P ops Q fuel listed live' a w
  | 0, _, _, _, _, _, _, h => h
  | fuel + 1, listed, live, live', a, w, hs, h => ⟨h.1, fun j hj => wpOp_mono (fun a' w' h' => by
      have hs' : ∀ x ∈ prune ops j live', x ∈ prune ops j live ∨ ∀ w, x.2 w := fun x hx => by
        simp only [prune, List.mem_filter] at hx ⊢
        rcases hs x hx.1 with h1 | h1
        · exact .inl ⟨h1, hx.2⟩
        · exact .inr h1
      exact ⟨fun x hx => (hs' x hx).elim (fun h1 => h'.1 x h1) (fun h1 => h1 w'), wpL_sub fuel _ _ _ a' w' hs' h'.2⟩) (h.2 j hj)⟩

theorem wpL_first {i : Nat} {oi : Oper} {v : Value} {S : World → Prop} (hi : ops[i]? = some oi) (hsel : ∀ (j : Nat) (o : Oper) cs b, ops[j]? = some o → o.op ≠ .select cs b)
    (hQ : ∀ c a w, Q (.panic c) (a.put oi.dst v) w → Q (.panic c) a w) :
    ∀ (fuel : Nat) (listed : Array Bool) (live : Live) (a : Act) (w : World),
      (∀ j oj, ops[j]? = some oj → j ≠ i → listed.getD j true = false → (∀ e ∈ oj.after, Region.binds .any e = true → e.on ≠ i) → oi.apart ops oj = true) →
      i ∈ Region.ready .any ops listed → YieldsIf P ops S oi v a → S w → LiveOK live w →
      wpL P ops Q fuel (listed.setIfInBounds i true) ((i, S) :: live) (a.put oi.dst v) w → wpL P ops Q (fuel + 1) listed live a w := by
  have own : ∀ (fuel : Nat) (listed : Array Bool) (live : Live) (a : Act) (w : World), YieldsIf P ops S oi v a → S w → LiveOK live w →
      wpL P ops Q fuel (listed.setIfInBounds i true) ((i, S) :: live) (a.put oi.dst v) w →
      wpOp P ops Q i (fun a' w' => LiveOK (prune ops i live) w' ∧ wpL P ops Q fuel (listed.setIfInBounds i true) (prune ops i live) a' w') a w := by
    intro fuel listed live a w hy hS hL H
    refine hy.wpOp hi hS ⟨fun x hx => hL x (List.mem_filter.1 hx).1, ?_⟩
    exact wpL_sub _ _ _ _ _ _ (fun x hx => .inl (List.mem_cons_of_mem _ (List.mem_filter.1 hx).1)) H
  intro fuel
  induction fuel with
  | zero =>
    intro listed live a w _ hr hy hS hL H
    refine ⟨fun h => (by rw [h] at hr; cases hr), fun j hj => ?_⟩
    by_cases hji : j = i
    · subst hji; exact own _ _ _ _ _ hy hS hL H
    · have := ready_mono hj hji
      rw [H.1] at this
      cases this
  | succ fuel ih =>
    intro listed live a w hfree hr hy hS hL H
    refine ⟨fun h => (by rw [h] at hr; cases hr), fun j hj => ?_⟩
    by_cases hji : j = i
    · subst hji; exact own _ _ _ _ _ hy hS hL H
    · have h1 := H.2 j (ready_mono hj hji)
      obtain ⟨hjun, oj, hoj, hall⟩ := mem_ready.1 hj
      have hnot : ∀ e ∈ oj.after, Region.binds .any e = true → e.on ≠ i := fun e he hb heq => by
        have h1 := hall e he hb
        have h0 := (mem_ready.1 hr).1
        rw [heq] at h1
        rcases Nat.lt_or_ge i listed.size with h' | h'
        · simp [h'] at h0 h1; rw [h0] at h1; cases h1
        · simp [Array.getElem?_eq_none h'] at h1
      have hnd : directly ops j i = false := by
        simp only [directly, hoj]
        rw [Array.any_eq_false']
        intro e he hb
        simp only [Bool.and_eq_true, beq_iff_eq] at hb
        exact hnot e he hb.1 hb.2
      have hpr : prune ops j ((i, S) :: live) = (i, S) :: prune ops j live := by simp [prune, hnd]
      rw [hpr] at h1
      have h2 := wpOp_putIf hoj (hfree j oj hoj hji hjun hnot) (fun cs b => hsel i oi cs b hi) (fun cs b => hsel j oj cs b hoj) hQ hy h1
      have hfree' : ∀ k ok, ops[k]? = some ok → k ≠ i → (listed.setIfInBounds j true).getD k true = false →
          (∀ e ∈ ok.after, Region.binds .any e = true → e.on ≠ i) → oi.apart ops ok = true := fun k ok hk hki hun hno => by
        refine hfree k ok hk hki ?_ hno
        by_cases hjk : j = k
        · subst hjk; exact hjun
        · rw [getD_set_ne true hjk] at hun; exact hun
      refine wpOp_mono (fun a' w' h3 => ?_) h2
      obtain ⟨h3y, h3l, h3w⟩ := h3
      have hS' : S w' := h3l (i, S) List.mem_cons_self
      have hL' : LiveOK (prune ops j live) w' := fun x hx => h3l x (List.mem_cons_of_mem _ hx)
      refine ⟨hL', ih (listed.setIfInBounds j true) _ a' w' hfree' (ready_mono hr (Ne.symm hji)) h3y hS' hL' ?_⟩
      rw [Array.setIfInBounds_comm _ _ hji]
      exact h3w

theorem stepW_fin {o : Oper} {e : Env} {k : Kt} {w : World} {Kx : Act → World → Prop} (hk : ∀ v w', k v w' → Kx (mk (put e o.dst v)) w') (h : opW P o e k w) :
    o.wp P (mk e) w Kx Q := by
  have := opW_sound h
  rw [← mk_eval] at this
  refine Oper.wp_mono ?_ (execW_wp this)
  rintro a' w' ⟨v, rfl, hkv⟩
  rw [mk_put]; exact hk v w' hkv

theorem wanted_mk {o : Oper} {e : Env} {j : Nat} {want : Bool} (hg : o.guard = some (j, want)) :
    Region.wanted o (yielded ops (mk e).tmps) = gw want (gv ops.toList e j) := by
  simp only [Region.wanted, hg]
  have := yielded_mk ops.toList e j want
  simpa using this

theorem stepW_op {i : Nat} {o : Oper} {e : Env} {k : Kt} {w : World} {Kx : Act → World → Prop} (hi : ops[i]? = some o) (h : stepW P ops.toList o e k w)
    (hk : ∀ v w', k v w' → Kx (mk (put e o.dst v)) w') : wpOp P ops Q i Kx (mk e) w := by
  unfold stepW at h
  unfold wpOp
  simp only [hi]
  split at h
  · rename_i hg
    rw [if_pos (wanted_none _ _ hg)]
    exact .inl (stepW_fin hk h)
  · rename_i j want hg
    unfold M.gd at h
    rw [wanted_mk hg]
    split at h
    · rename_i hgw
      rw [if_pos hgw]
      exact .inl (stepW_fin hk h)
    · rename_i hgw
      rw [if_neg hgw, mk_put]
      exact hk _ _ h

theorem stepW_pure {o : Oper} {e : Env} {k : Kt} {w : World} (hp : pureOp P o = true) (h : stepW P ops.toList o e k w) :
    ∃ v, Yields P ops o v (mk e) ∧ k v w := by
  unfold stepW at h
  split at h
  · rename_i hg
    obtain ⟨v, hv, hk⟩ := opW_pure hp h
    exact ⟨v, .inl ⟨wanted_none _ _ hg, by rw [mk_eval]; exact hv⟩, hk⟩
  · rename_i j want hg
    unfold M.gd at h
    split at h
    · rename_i hgw
      obtain ⟨v, hv, hk⟩ := opW_pure hp h
      exact ⟨v, .inl ⟨by rw [wanted_mk hg]; exact hgw, by rw [mk_eval]; exact hv⟩, hk⟩
    · rename_i hgw
      exact ⟨undef, .inr ⟨by rw [wanted_mk hg]; simpa using hgw, rfl⟩, h⟩

theorem opW_read_det {o : Oper} {e : Env} {v : Value} {w : World} (hp : readOp o = true) (h : opW P o e (fun v' _ => v' = v) w) :
    (execOp (ev e) o).run P w = .ok (.value v) w := by
  obtain ⟨v', hv, rfl⟩ := opW_read hp h
  exact hv

theorem opW_read_self {o : Oper} {e : Env} {k : Kt} {w : World} (hp : readOp o = true) (h : opW P o e k w) : ∃ v, opW P o e (fun v' _ => v' = v) w ∧ k v w := by
  unfold opW at h ⊢
  unfold readOp at hp
  cases ho : o.op <;> simp only [ho] at h hp ⊢ <;> try (cases hp; done)
  case load t a =>
    unfold opLoad at h ⊢
    split at h
    · rename_i d i hd hi
      split at h
      · rename_i hag
        unfold M.loadA at h ⊢
        split at h
        · rename_i ad hl
          split at h
          · rename_i l hl'
            exact ⟨_, by simp [hd, hi, hag, hl, hl'], h⟩
          · exact h.elim
        · exact h.elim
      · rename_i hag
        unfold M.load1 at h ⊢
        split at h
        · rename_i ad hl
          split at h
          · rename_i l hl'
            exact ⟨_, by simp [hd, hi, hag, hl, hl'], h⟩
          · exact h.elim
        · exact h.elim
    · exact h.elim
  case lookup t x i ok =>
    obtain ⟨v, hv, hk⟩ := h
    exact ⟨v, ⟨v, hv, rfl⟩, hk⟩

theorem stepW_read {o : Oper} {e : Env} {k : Kt} {w : World} (hp : readOp o = true) (h : stepW P ops.toList o e k w) :
    ∃ v, YieldsIf P ops (fun w' => stepW P ops.toList o e (fun v' _ => v' = v) w') o v (mk e) ∧ stepW P ops.toList o e (fun v' _ => v' = v) w ∧ k v w := by
  unfold stepW at h ⊢
  split at h
  · rename_i hg
    obtain ⟨v, hv, hk⟩ := opW_read_self hp h
    exact ⟨v, .inl ⟨wanted_none _ _ hg, fun w' hw' => by rw [mk_eval]; exact opW_read_det hp hw'⟩, hv, hk⟩
  · rename_i j want hg
    unfold M.gd at h ⊢
    split at h
    · rename_i hgw
      obtain ⟨v, hv, hk⟩ := opW_read_self hp h
      refine ⟨v, .inl ⟨by rw [wanted_mk hg]; exact hgw, fun w' hw' => ?_⟩, ?_, hk⟩
      · simp only [hgw, if_true] at hw'
        rw [mk_eval]; exact opW_read_det hp hw'
      · rw [if_pos hgw]; exact hv
    · rename_i hgw
      refine ⟨undef, .inr ⟨by rw [wanted_mk hg]; simpa using hgw, rfl⟩, ?_, h⟩
      rw [if_neg hgw]

inductive Sch where
  | done
  | take (i : Nat) (r : Sch)
  | one (i : Nat) (r : Sch)
  | two (i j : Nat) (r s : Sch)
  | three (i j k : Nat) (r s t : Sch)
def Sch.size : Sch → Nat
  | .done => 0
  | .take _ r | .one _ r => r.size + 1
  | .two _ _ r s => max r.size s.size + 1
  | .three _ _ _ r s t => max r.size (max s.size t.size) + 1

def oblT : Live → World → Prop → Prop
  | [], _, R => R
  | x :: l, w, R => x.2 w ∧ oblT l w R
theorem oblT_elim {w : World} {R : Prop} : ∀ {l : Live}, oblT l w R → LiveOK l w ∧ R
  | [], h => ⟨fun x hx => (by cases hx), h⟩
  | y :: l, h => by
    obtain ⟨h1, h2⟩ := h
    obtain ⟨h3, h4⟩ := oblT_elim h2
    refine ⟨fun x hx => ?_, h4⟩
    rcases List.mem_cons.1 hx with rfl | hx
    · exact h1
    · exact h3 x hx

def drawL (P : Program) (ops : Array Oper) (K : Env → World → Prop) : Sch → Array Bool → Live → Env → World → Prop
  | .done, listed, _, e, w => match Region.ready .any ops listed with
    | [] => K e w
    | _ :: _ => False
  | .take i r, listed, live, e, w => match ops[i]? with
    | none => False
    | some o => match Region.free .any ops listed i && (Region.ready .any ops listed).contains i, pureOp P o, readOp o with
      | true, true, _ => stepW P ops.toList o e (fun v w => drawL P ops K r (listed.setIfInBounds i true) live (put e o.dst v) w) w
      | true, false, true => stepW P ops.toList o e (fun v w => drawL P ops K r (listed.setIfInBounds i true) ((i, fun w' => stepW P ops.toList o e (fun v' _ => v' = v) w') :: live) (put e o.dst v) w) w
      | _, _, _ => False
  | .one i r, listed, live, e, w => match ops[i]?, Region.ready .any ops listed == [i] with
    | some o, true => stepW P ops.toList o e (fun v w => oblT (prune ops i live) w (drawL P ops K r (listed.setIfInBounds i true) (prune ops i live) (put e o.dst v) w)) w
    | _, _ => False
  | .two i j r s, listed, live, e, w => match ops[i]?, ops[j]?, Region.ready .any ops listed == [i, j] with
    | some o, some o', true =>
      stepW P ops.toList o e (fun v w => oblT (prune ops i live) w (drawL P ops K r (listed.setIfInBounds i true) (prune ops i live) (put e o.dst v) w)) w ∧
      stepW P ops.toList o' e (fun v w => oblT (prune ops j live) w (drawL P ops K s (listed.setIfInBounds j true) (prune ops j live) (put e o'.dst v) w)) w
    | _, _, _ => False
  | .three i j k r s t, listed, live, e, w => match ops[i]?, ops[j]?, ops[k]?, Region.ready .any ops listed == [i, j, k] with
    | some o, some o', some o'', true =>
      stepW P ops.toList o e (fun v w => oblT (prune ops i live) w (drawL P ops K r (listed.setIfInBounds i true) (prune ops i live) (put e o.dst v) w)) w ∧
      stepW P ops.toList o' e (fun v w => oblT (prune ops j live) w (drawL P ops K s (listed.setIfInBounds j true) (prune ops j live) (put e o'.dst v) w)) w ∧
      stepW P ops.toList o'' e (fun v w => oblT (prune ops k live) w (drawL P ops K t (listed.setIfInBounds k true) (prune ops k live) (put e o''.dst v) w)) w
    | _, _, _, _ => False

theorem drawL_sound {K : Env → World → Prop} {S : List Nat} {e0 : Env} (hQ : ∀ e' w, Agr S e0 e' → K e' w → Q .normal (mk e') w) (hP : ∀ c a w, ¬ Q (.panic c) a w) (hs : Region.noSelect ops = true) (hd : ∀ (i : Nat) (o : Oper), ops[i]? = some o → ∀ d, o.dst = some d → d ∈ S) :
    ∀ (sch : Sch) (fuel : Nat) (listed : Array Bool) (live : Live) (e : Env) (w : World), sch.size ≤ fuel → LiveOK live w → Agr S e0 e →
      drawL P ops K sch listed live e w → wpL P ops Q fuel listed live (mk e) w := by
  intro sch
  have many : ∀ (i : Nat) (o : Oper) (r : Sch) (fuel : Nat) (listed : Array Bool) (live : Live) (e : Env) (w : World),
      (∀ (listed : Array Bool) (live : Live) (e : Env) (w : World), LiveOK live w → Agr S e0 e → drawL P ops K r listed live e w → wpL P ops Q fuel listed live (mk e) w) →
      ops[i]? = some o → Agr S e0 e →
      stepW P ops.toList o e (fun v w => oblT (prune ops i live) w (drawL P ops K r (listed.setIfInBounds i true) (prune ops i live) (put e o.dst v) w)) w →
      wpOp P ops Q i (fun a' w' => LiveOK (prune ops i live) w' ∧ wpL P ops Q fuel (listed.setIfInBounds i true) (prune ops i live) a' w') (mk e) w := by
    intro i o r fuel listed live e w ih ho ha h
    refine stepW_op ho h fun v w' hk => ?_
    obtain ⟨h1, h2⟩ := oblT_elim hk
    exact ⟨h1, ih _ _ _ _ h1 (ha.put (hd i o ho) v) h2⟩
  induction sch with
  | done =>
    intro fuel listed live e w _ _ ha h
    unfold drawL at h
    split at h
    · rename_i hr
      cases fuel with
      | zero => exact ⟨hr, hQ e w ha h⟩
      | succ n => exact ⟨fun _ => hQ e w ha h, by rw [hr]; simp⟩
    · exact h.elim
  | take i r ih =>
    intro fuel listed live e w hf hL ha h
    obtain ⟨fuel, rfl⟩ : ∃ m, fuel = m + 1 := ⟨fuel - 1, by simp [Sch.size] at hf; omega⟩
    have hf' : r.size ≤ fuel := by simp [Sch.size] at hf; omega
    unfold drawL at h
    split at h
    · exact h.elim
    · rename_i o ho
      split at h
      · rename_i hc hp
        simp only [Bool.and_eq_true] at hc
        obtain ⟨v, hy, hk⟩ := stepW_pure hp h
        refine wpL_first ho (Region.noSelect_spec hs) (fun c a w h => absurd h (hP c _ _)) fuel listed live (mk e) w (S := fun _ => True) (Region.free_spec ho hc.1) (by simpa using hc.2)
          hy.yieldsIf trivial hL ?_
        rw [mk_put]
        refine wpL_sub _ _ live _ _ _ (fun x hx => ?_) (ih fuel _ _ _ _ hf' hL (ha.put (hd i o ho) v) hk)
        rcases List.mem_cons.1 hx with rfl | hx
        · exact .inr fun _ => trivial
        · exact .inl hx
      · rename_i hc hp hr
        simp only [Bool.and_eq_true] at hc
        obtain ⟨v, hy, hS, hk⟩ := stepW_read hr h
        refine wpL_first ho (Region.noSelect_spec hs) (fun c a w h => absurd h (hP c _ _)) fuel listed live (mk e) w (Region.free_spec ho hc.1) (by simpa using hc.2) hy hS hL ?_
        rw [mk_put]
        refine ih fuel _ _ _ _ hf' (fun x hx => ?_) (ha.put (hd i o ho) v) hk
        rcases List.mem_cons.1 hx with rfl | hx
        · exact hS
        · exact hL x hx
      · exact h.elim
  | one i r ih =>
    intro fuel listed live e w hf hL ha h
    obtain ⟨fuel, rfl⟩ : ∃ m, fuel = m + 1 := ⟨fuel - 1, by simp [Sch.size] at hf; omega⟩
    have hf' : r.size ≤ fuel := by simp [Sch.size] at hf; omega
    unfold drawL at h
    split at h
    · rename_i o ho hr
      have hr : Region.ready .any ops listed = [i] := by simpa using hr
      refine ⟨fun hh => (by rw [hr] at hh; cases hh), fun j hj => ?_⟩
      rw [hr] at hj
      obtain rfl := List.mem_singleton.1 hj
      exact many _ o r fuel listed live e w (fun _ _ _ _ => ih fuel _ _ _ _ hf') ho ha h
    · exact h.elim
  | two i j r s ihr ihs =>
    intro fuel listed live e w hf hL ha h
    obtain ⟨fuel, rfl⟩ : ∃ m, fuel = m + 1 := ⟨fuel - 1, by simp [Sch.size] at hf; omega⟩
    have hf' : r.size ≤ fuel ∧ s.size ≤ fuel := by simp [Sch.size] at hf; omega
    unfold drawL at h
    split at h
    · rename_i o o' ho ho' hr
      have hr : Region.ready .any ops listed = [i, j] := by simpa using hr
      refine ⟨fun hh => (by rw [hr] at hh; cases hh), fun n hn => ?_⟩
      rw [hr] at hn
      simp only [List.mem_cons, List.not_mem_nil, or_false] at hn
      rcases hn with rfl | rfl
      · exact many _ o r fuel listed live e w (fun _ _ _ _ => ihr fuel _ _ _ _ hf'.1) ho ha h.1
      · exact many _ o' s fuel listed live e w (fun _ _ _ _ => ihs fuel _ _ _ _ hf'.2) ho' ha h.2
    · exact h.elim
  | three i j k r s t ihr ihs iht =>
    intro fuel listed live e w hf hL ha h
    obtain ⟨fuel, rfl⟩ : ∃ m, fuel = m + 1 := ⟨fuel - 1, by simp [Sch.size] at hf; omega⟩
    have hf' : r.size ≤ fuel ∧ s.size ≤ fuel ∧ t.size ≤ fuel := by simp [Sch.size] at hf; omega
    unfold drawL at h
    split at h
    · rename_i o o' o'' ho ho' ho'' hr
      have hr : Region.ready .any ops listed = [i, j, k] := by simpa using hr
      refine ⟨fun hh => (by rw [hr] at hh; cases hh), fun n hn => ?_⟩
      rw [hr] at hn
      simp only [List.mem_cons, List.not_mem_nil, or_false] at hn
      rcases hn with rfl | rfl | rfl
      · exact many _ o r fuel listed live e w (fun _ _ _ _ => ihr fuel _ _ _ _ hf'.1) ho ha h.1
      · exact many _ o' s fuel listed live e w (fun _ _ _ _ => ihs fuel _ _ _ _ hf'.2.1) ho' ha h.2.1
      · exact many _ o'' t fuel listed live e w (fun _ _ _ _ => iht fuel _ _ _ _ hf'.2.2) ho'' ha h.2.2
    · exact h.elim

end
end Go.Mw
namespace Go.Mw
section
variable {P : Program}

/-! ### code -/
def asg : Code → List Nat
  | .region _ ops _ => ops.toList.filterMap (·.dst)
  | .seq a b => asg a ++ asg b
  | .cond _ a b => asg a ++ asg b
  | .block _ b => asg b
  | .loop b => asg b
  | .scope b => asg b
  | _ => []

def getAll (e : Env) (l : List Nat) : List Value := l.map fun i => e.getD i undef
def setAll (e : Env) : List Nat → List Value → Nat → Env
  | [], _, _ => e
  | i :: l, vals, n => setAll (e.set i (vals.getD n undef)) l vals (n + 1)

theorem setAll_length : ∀ (l : List Nat) (e : Env) (vals : List Value) (n : Nat), (setAll e l vals n).length = e.length
  | [], e, _, _ => rfl
  | i :: l, e, vals, n => by rw [setAll, setAll_length]; simp
theorem setAll_get (e' : Env) : ∀ (l : List Nat) (e : Env) (pre : List Value) (i : Nat), e'.length = e.length →
    (setAll e l (pre ++ getAll e' l) pre.length)[i]? = if i ∈ l then e'[i]? else e[i]?
  | [], e, _, i, _ => by simp [setAll]
  | j :: l, e, pre, i, hl => by
    have ih := setAll_get e' l (e.set j (e'.getD j undef)) (pre ++ [e'.getD j undef]) i (by simpa using hl)
    simp only [setAll, getAll, List.map_cons] at ih ⊢
    have e1 : (pre ++ e'.getD j undef :: List.map (fun i => e'.getD i undef) l).getD pre.length undef = e'.getD j undef := by
      simp [List.getD]
    rw [e1]
    simp only [List.append_assoc, List.singleton_append, List.length_append, List.length_singleton] at ih
    rw [ih]
    by_cases hil : i ∈ l
    · simp [hil]
    · simp only [hil, if_false, List.mem_cons, or_false]
      by_cases hij : i = j
      · subst hij
        simp only [if_true]
        by_cases hlt : i < e.length
        · have : i < e'.length := by omega
          simp [List.getElem?_set_self hlt, List.getD, this]
        · have : ¬ i < e'.length := by omega
          rw [List.getElem?_eq_none (by simpa using hlt), List.getElem?_eq_none (by omega)]
      · rw [List.getElem?_set_ne (fun h => hij h.symm)]
        simp [hij]

def covers (x : Code) (kept dead : List Nat) : Bool := (asg x).all fun i => kept.contains i || dead.contains i

theorem setAll_back {x : Code} {kept dead : List Nat} {e e' : Env} (hc : covers x kept dead = true) (h : Agr (asg x) e e') :
    setAll (setAll e kept (getAll e' kept) 0) dead (getAll e' dead) 0 = e' := by
  have h1 := fun i => setAll_get e' kept e [] i h.1
  have h2 := fun i => setAll_get e' dead (setAll e kept (getAll e' kept) 0) [] i (by rw [setAll_length]; exact h.1)
  simp only [List.nil_append, List.length_nil] at h1 h2
  apply List.ext_getElem?
  intro i
  rw [h2 i, h1 i]
  split
  · rfl
  · split
    · rfl
    · rename_i h3 h4
      refine (h.2 i fun hi => ?_).symm
      have := List.all_eq_true.1 hc i hi
      simp only [Bool.or_eq_true, List.contains_iff_mem] at this
      rcases this with h5 | h5
      · exact h4 h5
      · exact h3 h5

abbrev EQ := Exit → Env → World → Prop
/-- A jump to label l goes on with 'next'; a jump to another one is not followed. -/
def gotoE (l : Nat) (next : Env → World → Prop) (Q : EQ) : EQ
  | .goto l', e, w => if l' = l then next e w else False
  | ex, e, w => Q ex e w
def noG (Q : EQ) : EQ
  | .goto _, _, _ => False
  | ex, e, w => Q ex e w
def thenE (next : Env → World → Prop) (Q : EQ) : EQ
  | .normal, e, w => next e w
  | ex, e, w => Q ex e w
def inE (id : Nat) (Q : EQ) : EQ
  | .exit id', e, w => if id' = id then Q .normal e w else Q (.exit id') e w
  | ex, e, w => Q ex e w

theorem least {p : Nat → Prop} (h : ∃ n, p n) : ∃ n, p n ∧ ∀ m, p m → n ≤ m := by
  obtain ⟨n, hn⟩ := h
  induction n using Nat.strongRecOn with
  | _ n ih =>
    by_cases hm : ∃ m, m < n ∧ p m
    · obtain ⟨m, h1, h2⟩ := hm
      exact ih m h1 h2
    · exact ⟨n, hn, fun m h => Nat.le_of_not_lt fun h1 => hm ⟨m, h1, h⟩⟩
def M.share (A : (List Value → World → Prop) → World → Prop) (R : List Value → World → Prop) (w : World) : Prop := A R w
def M.cond (v : Value) (A B : Prop) : Prop :=
  match v with
  | .bool true => A
  | .bool false => B
  | _ => False
def M.loop (init : List Value) (body : List Value → (List Value → World → Prop) → World → Prop) (w : World) : Prop :=
  ∃ (I : Nat → List Value → World → Prop) (n0 : Nat), I n0 init w ∧ ∀ n vals w, I n vals w → body vals (fun vals' w' => ∃ n', n' < n ∧ I n' vals' w') w
def M.draw (R : World → Prop) (w : World) : Prop := R w.drew

inductive Ann where
  | leaf
  | text
  | draw (s : Sch)
  | seq (a b : Ann)
  | join (kept dead : List Nat) (a b : Ann)
  | cond (a b : Ann)
  | block (a : Ann)
  | jblock (kept dead : List Nat) (a : Ann)
  | loop (kept dead : List Nat) (a : Ann)
  | scope (kept dead : List Nat) (a b c : Ann)
  | fscope (l : Nat) (a b : Ann)

def comp (P : Program) : Ann → Code → EQ → Env → World → Prop
  | .leaf, .skip, Q, e, w => Q .normal e w
  | .leaf, .exit id, Q, e, w => Q (.exit id) e w
  | .leaf, .ret, Q, e, w => Q .ret e w
  | .leaf, .goto l, Q, e, w => Q (.goto l) e w
  | .text, .region _ ops false, Q, e, w => textL P ops.toList (Q .normal) ops.toList e w
  | .draw s, .region _ ops true, Q, e, w =>
    match Region.noSelect ops && decide (s.size ≤ ops.size) with
    | true => M.draw (fun w => drawL P ops (Q .normal) s (Array.replicate ops.size false) [] e w) w
    | false => False
  | .seq a b, .seq x y, Q, e, w => comp P a x (thenE (fun e w => comp P b y Q e w) Q) e w
  | .join kept dead a b, .seq x y, Q, e, w =>
    match covers x kept dead with
    | true => M.share (fun K w => comp P a x (thenE (fun e' w => K (getAll e' kept) w) Q) e w)
        (fun vals w => ∀ junk : List Value, comp P b y Q (setAll (setAll e kept vals 0) dead junk 0) w) w
    | false => False
  | .cond a b, .cond c x y, Q, e, w => M.cond (ev e c) (comp P a x Q e w) (comp P b y Q e w)
  | .block a, .block id b, Q, e, w => comp P a b (inE id Q) e w
  | .jblock kept dead a, .block id b, Q, e, w =>
    match covers b kept dead with
    | true => M.share (fun K w => comp P a b (inE id (thenE (fun e' w => K (getAll e' kept) w) Q)) e w)
        (fun vals w => ∀ junk : List Value, Q .normal (setAll (setAll e kept vals 0) dead junk 0) w) w
    | false => False
  | .loop kept dead a, .loop b, Q, e, w =>
    match covers b kept dead with
    | true => M.loop (getAll e kept) (fun vals next w => ∀ junk : List Value,
        comp P a b (thenE (fun e' w => next (getAll e' kept) w) Q) (setAll (setAll e kept vals 0) dead junk 0) w) w
    | false => False
  | .scope kept dead a b c, .scope (.seq x (.seq y (.seq (.label l) z))), Q, e, w =>
    match covers z kept dead && (findLabel x l).isNone && (findLabel y l).isNone with
    | true => comp P a x (thenE (fun e w => comp P b y (thenE (fun e w => M.loop (getAll e kept) (fun vals next w => ∀ junk : List Value,
        comp P c z (gotoE l (fun e' w => next (getAll e' kept) w) Q) (setAll (setAll e kept vals 0) dead junk 0) w) w) (gotoE l (fun _ _ => False) Q)) e w) (gotoE l (fun _ _ => False) Q)) e w
    | false => False
  | .fscope l a b, .scope c, Q, e, w =>
    match findLabel c l with
    | some rest => match (asg rest).all (fun i => (asg c).contains i) with
      | true => comp P a c (gotoE l (fun e w => comp P b rest (noG Q) e w) Q) e w
      | false => False
    | none => False
  | _, _, _, _, _ => False

def liftQ (S : List Nat) (e0 : Env) (Q : EQ) : Exit → Act → World → Prop
  | .panic _, _, _ => False
  | .outgrown, _, _ => False
  | ex, a, w => ∃ e', a = mk e' ∧ Agr S e0 e' ∧ Q ex e' w

theorem liftQ_mono {S S' : List Nat} {e0 e1 : Env} {Q Q' : EQ} (hs : ∀ e', Agr S e0 e' → Agr S' e1 e') (hq : ∀ ex e' w, Agr S e0 e' → Q ex e' w → Q' ex e' w) :
    ∀ ex a w, liftQ S e0 Q ex a w → liftQ S' e1 Q' ex a w := by
  intro ex a w h
  cases ex <;> simp only [liftQ] at h ⊢ <;> first | exact h | (obtain ⟨e', rfl, h1, h2⟩ := h; exact ⟨e', rfl, hs e' h1, hq _ e' w h1 h2⟩)

theorem comp_sound (hm : P.follows .mixedOrders = true) : ∀ (ann : Ann) (c : Code) (Q : EQ) (e : Env) (w : World), comp P ann c Q e w → c.wp P (liftQ (asg c) e Q) (mk e) w := by
  intro ann
  induction ann with
  | leaf =>
    intro c Q e w h
    cases c <;> simp only [comp] at h <;> first | exact h.elim | skip
    · exact wp_skip ⟨e, rfl, Agr.refl _ _, h⟩
    · exact wp_exit ⟨e, rfl, Agr.refl _ _, h⟩
    · exact wp_goto ⟨e, rfl, Agr.refl _ _, h⟩
    · exact wp_ret ⟨e, rfl, Agr.refl _ _, h⟩
  | text =>
    intro c Q e w h
    cases c with
    | region id ops d =>
      cases d with
      | true => exact h.elim
      | false =>
        simp only [comp] at h
        refine wp_region_list ?_
        have := textL_sound (P := P) (ops := ops.toList) (K := Q .normal) (S := ops.toList.filterMap (·.dst)) (e0 := e) (Q := liftQ (ops.toList.filterMap (·.dst)) e Q)
          (fun e' w ha hk => ⟨e', rfl, ha, hk⟩) ops.toList e w (fun o ho d hd => List.mem_filterMap.2 ⟨o, ho, hd⟩) (Agr.refl _ _) h
        simp only [Array.toArray_toList] at this
        exact this
    | _ => exact h.elim
  | draw s =>
    intro c Q e w h
    cases c with
    | region id ops d =>
      cases d with
      | false => exact h.elim
      | true =>
        simp only [comp] at h
        split at h
        · rename_i hc
          simp only [Bool.and_eq_true, decide_eq_true_eq] at hc
          have hd := drawL_sound (P := P) (ops := ops) (K := Q .normal) (S := ops.toList.filterMap (·.dst)) (e0 := e) (Q := liftQ (ops.toList.filterMap (·.dst)) e Q)
            (fun e' w ha hk => ⟨e', rfl, ha, hk⟩) (fun c a w h => h) hc.1
            (fun i o hi d hd => List.mem_filterMap.2 ⟨o, by rw [Array.mem_toList_iff]; exact Array.mem_of_getElem? hi, hd⟩) s ops.size (Array.replicate ops.size false) [] e w.drew hc.2 (fun x hx => (by cases hx)) (Agr.refl _ _) h
          exact wp_region_any hm (wpL_any _ _ [] _ _ hd)
        · exact h.elim
    | _ => exact h.elim
  | seq a b iha ihb =>
    intro c Q e w h
    cases c with
    | seq x y =>
      simp only [comp] at h
      refine wp_seq (wp_mono (iha _ _ _ _ h) ?_)
      intro ex a w hq
      cases ex <;> simp only [liftQ, thenE, Exit.then] at hq ⊢ <;> first | exact hq | skip
      · obtain ⟨e', rfl, h1, h2⟩ := hq
        refine wp_mono (ihb _ _ _ _ h2) (liftQ_mono (fun e'' h3 => ?_) (fun _ _ _ _ h => h))
        exact (h1.mono (fun i hi => List.mem_append_left _ hi)).trans (h3.mono (fun i hi => List.mem_append_right _ hi))
      all_goals
        obtain ⟨e', rfl, h1, h2⟩ := hq
        exact ⟨e', rfl, h1.mono (fun i hi => List.mem_append_left _ hi), h2⟩
    | _ => exact h.elim
  | join kept dead a b iha ihb =>
    intro c Q e w h
    cases c with
    | seq x y =>
      simp only [comp] at h
      split at h
      · rename_i hc
        refine wp_seq (wp_mono (iha _ _ _ _ h) ?_)
        intro ex a w hq
        cases ex <;> simp only [liftQ, thenE, Exit.then] at hq ⊢ <;> first | exact hq | skip
        · obtain ⟨e', rfl, h1, h2⟩ := hq
          have h2 := h2 (getAll e' dead)
          rw [setAll_back hc h1] at h2
          refine wp_mono (ihb _ _ _ _ h2) (liftQ_mono (fun e'' h3 => ?_) (fun _ _ _ _ h => h))
          exact (h1.mono (fun i hi => List.mem_append_left _ hi)).trans (h3.mono (fun i hi => List.mem_append_right _ hi))
        all_goals
          obtain ⟨e', rfl, h1, h2⟩ := hq
          exact ⟨e', rfl, h1.mono (fun i hi => List.mem_append_left _ hi), h2⟩
      · exact h.elim
    | _ => exact h.elim
  | cond a b iha ihb =>
    intro c Q e w h
    cases c with
    | cond v x y =>
      simp only [comp] at h
      unfold M.cond at h
      split at h
      · rename_i hv
        refine wp_cond_true (by rw [mk_eval]; exact hv) (wp_mono (iha _ _ _ _ h) (liftQ_mono (fun e'' h3 => h3.mono (fun i hi => List.mem_append_left _ hi)) (fun _ _ _ _ h => h)))
      · rename_i hv
        refine wp_cond_false (by rw [mk_eval]; exact hv) (wp_mono (ihb _ _ _ _ h) (liftQ_mono (fun e'' h3 => h3.mono (fun i hi => List.mem_append_right _ hi)) (fun _ _ _ _ h => h)))
      · exact h.elim
    | _ => exact h.elim
  | block a iha =>
    intro c Q e w h
    cases c with
    | block id b =>
      simp only [comp] at h
      refine wp_block (wp_mono (iha _ _ _ _ h) ?_)
      intro ex a w hq
      cases ex <;> simp only [liftQ, inE, Exit.inBlock] at hq ⊢ <;> first | exact hq | skip
      obtain ⟨e', rfl, h1, h2⟩ := hq
      split at h2
      · rename_i hid; rw [if_pos hid]; exact ⟨e', rfl, h1, h2⟩
      · rename_i hid; rw [if_neg hid]; exact ⟨e', rfl, h1, h2⟩
    | _ => exact h.elim
  | jblock kept dead a iha =>
    intro c Q e w h
    cases c with
    | block id b =>
      simp only [comp] at h
      split at h
      · rename_i hc
        refine wp_block (wp_mono (iha _ _ _ _ h) ?_)
        intro ex a w hq
        cases ex <;> simp only [liftQ, inE, thenE, Exit.inBlock] at hq ⊢ <;> first | exact hq | skip
        · obtain ⟨e', rfl, h1, h2⟩ := hq
          have h2 := h2 (getAll e' dead)
          rw [setAll_back hc h1] at h2
          exact ⟨e', rfl, h1, h2⟩
        · obtain ⟨e', rfl, h1, h2⟩ := hq
          split at h2
          · rename_i hid
            rw [if_pos hid]
            have h2 := h2 (getAll e' dead)
            rw [setAll_back hc h1] at h2
            exact ⟨e', rfl, h1, h2⟩
          · rename_i hid; rw [if_neg hid]; exact ⟨e', rfl, h1, h2⟩
      · exact h.elim
    | _ => exact h.elim
  | loop kept dead a iha =>
    intro c Q e w h
    cases c with
    | loop b =>
      simp only [comp] at h
      split at h
      · rename_i hc
        obtain ⟨I, n0, h0, hr⟩ := h
        refine wp_loop_ghost (fun n a w => ∃ e', a = mk e' ∧ Agr (asg b) e e' ∧ I n (getAll e' kept) w) n0 ⟨e, rfl, Agr.refl _ _, h0⟩ ?_
        rintro n a w ⟨e', rfl, h1, h2⟩
        have h3 := hr _ _ _ h2 (getAll e' dead)
        rw [setAll_back hc h1] at h3
        refine wp_mono (iha _ _ _ _ h3) ?_
        intro ex a w hq
        cases ex <;> simp only [liftQ, thenE, Exit.then] at hq ⊢ <;> first | exact hq | skip
        · obtain ⟨e'', rfl, h4, n', h5, h6⟩ := hq
          exact ⟨n', h5, e'', rfl, h1.trans h4, h6⟩
        all_goals
          obtain ⟨e'', rfl, h4, h5⟩ := hq
          exact ⟨e'', rfl, h1.trans h4, h5⟩
      · exact h.elim
    | _ => exact h.elim
  | scope kept dead a b c iha ihb ihc =>
    intro cd Q e w h
    cases cd with
    | scope cc =>
      cases cc with
      | seq x r1 =>
        cases r1 with
        | seq y r2 =>
          cases r2 with
          | seq lb z =>
            cases lb with
            | label l =>
              simp only [comp] at h
              split at h
              · rename_i hc
                simp only [Bool.and_eq_true] at hc
                obtain ⟨⟨hc, hx⟩, hy⟩ := hc
                let S := asg (.scope (.seq x (.seq y (.seq (.label l) z))))
                have hS : ∀ i, i ∈ S ↔ i ∈ asg x ∨ i ∈ asg y ∨ i ∈ asg z := fun i => by simp [S, asg]
                let Jn : Nat → Act → World → Prop := fun n a w => ∃ (e1 e' : Env) (I : Nat → List Value → World → Prop), Agr S e e1 ∧ a = mk e' ∧ Agr (asg z) e1 e' ∧
                  (∀ n vals w, I n vals w → ∀ junk : List Value, comp P c z (gotoE l (fun e' w => ∃ n', n' < n ∧ I n' (getAll e' kept) w) Q) (setAll (setAll e1 kept vals 0) dead junk 0) w) ∧ I n (getAll e' kept) w
                have pass : ∀ n a w, Jn n a w → z.wp P (Exit.jump l (fun a' w' => ∃ n', n' < n ∧ Jn n' a' w') (liftQ S e Q)) a w := by
                  rintro n a w ⟨e1, e', I, h1, rfl, h2, hr, hI⟩
                  have h3 := hr _ _ _ hI (getAll e' dead)
                  rw [setAll_back hc h2] at h3
                  refine wp_mono (ihc _ _ _ _ h3) ?_
                  intro ex a w hq
                  have hz : ∀ e'', Agr (asg z) e' e'' → Agr S e e'' := fun e'' h4 => h1.trans ((h2.trans h4).mono (fun i hi => (hS i).2 (.inr (.inr hi))))
                  cases ex <;> simp only [liftQ, gotoE, Exit.jump] at hq ⊢ <;> first | exact hq | skip
                  case goto l' =>
                    obtain ⟨e'', rfl, h4, hq⟩ := hq
                    by_cases hl : l' = l
                    rotate_left
                    · rw [if_neg hl] at hq; exact hq.elim
                    rw [if_pos hl] at hq
                    subst hl
                    obtain ⟨n', h5, h6⟩ := hq
                    exact ⟨rfl, n', h5, e1, e'', I, h1, rfl, h2.trans h4, hr, h6⟩
                  all_goals
                    obtain ⟨e'', rfl, h4, h5⟩ := hq
                    exact ⟨e'', rfl, hz _ h4, h5⟩
                classical
                let μ : Act → World → Nat := fun a w => if hh : ∃ n, Jn n a w then Classical.choose (least hh) else 0
                have hμ : ∀ n a w, Jn n a w → μ a w ≤ n := fun n a w hj => by
                  have hh : ∃ n, Jn n a w := ⟨n, hj⟩
                  simp only [μ, dif_pos hh]
                  exact (Classical.choose_spec (least hh)).2 n hj
                have hfl : findLabel (.seq x (.seq y (.seq (.label l) z))) l = some (.seq .skip z) := by
                  simp only [findLabel, Option.isNone_iff_eq_none.1 hx, Option.isNone_iff_eq_none.1 hy, beq_self_eq_true, if_true]
                refine wp_scope_jumps l (fun a w => ∃ n, Jn n a w) μ hfl ?_ ?_
                · refine wp_seq (wp_mono (iha _ _ _ _ h) ?_)
                  intro ex a w hq
                  cases ex <;> simp only [liftQ, thenE, gotoE, Exit.then, Exit.jump] at hq ⊢ <;> first | exact hq | skip
                  case goto l' =>
                    obtain ⟨_, _, _, hf⟩ := hq
                    split at hf <;> exact hf.elim
                  case normal =>
                    obtain ⟨e', rfl, h1, h2⟩ := hq
                    refine wp_seq (wp_mono (ihb _ _ _ _ h2) ?_)
                    intro ex a w hq
                    cases ex <;> simp only [liftQ, thenE, gotoE, Exit.then, Exit.jump] at hq ⊢ <;> first | exact hq | skip
                    case goto l' =>
                      obtain ⟨_, _, _, hf⟩ := hq
                      split at hf <;> exact hf.elim
                    case normal =>
                      obtain ⟨e2, rfl, h3, I, n0, h4, h5⟩ := hq
                      have h12 : Agr S e e2 := (h1.mono (fun i hi => (hS i).2 (.inl hi))).trans (h3.mono (fun i hi => (hS i).2 (.inr (.inl hi))))
                      refine wp_seq (wp_label ?_)
                      simp only [Exit.then]
                      refine wp_mono (pass n0 _ _ ⟨e2, e2, I, h12, rfl, Agr.refl _ _, h5, h4⟩) ?_
                      intro ex a w hq
                      cases ex <;> simp only [Exit.jump] at hq ⊢ <;> first | exact hq | skip
                      exact ⟨hq.1, hq.2.elim fun n' h => ⟨n', h.2⟩⟩
                    all_goals
                      obtain ⟨e2, rfl, h3, h4⟩ := hq
                      exact ⟨e2, rfl, (h1.mono (fun i hi => (hS i).2 (.inl hi))).trans (h3.mono (fun i hi => (hS i).2 (.inr (.inl hi)))), h4⟩
                  all_goals
                    obtain ⟨e', rfl, h1, h2⟩ := hq
                    exact ⟨e', rfl, h1.mono (fun i hi => (hS i).2 (.inl hi)), h2⟩
                · intro a w hJ
                  have hn : Jn (μ a w) a w := by
                    simp only [μ, dif_pos hJ]
                    exact (Classical.choose_spec (least hJ)).1
                  refine wp_seq (wp_skip ?_)
                  simp only [Exit.then]
                  refine wp_mono (pass _ _ _ hn) ?_
                  intro ex a' w' hq
                  cases ex <;> simp only [Exit.jump] at hq ⊢ <;> first | exact hq | skip
                  obtain ⟨e1, n', h1, h2⟩ := hq
                  exact ⟨e1, ⟨n', h2⟩, Nat.lt_of_le_of_lt (hμ _ _ _ h2) h1⟩
              · exact h.elim
            | _ => exact h.elim
          | _ => exact h.elim
        | _ => exact h.elim
      | _ => exact h.elim
    | _ => exact h.elim
  | fscope l a b iha ihb =>
    intro cd Q e w h
    cases cd with
    | scope cc =>
      simp only [comp] at h
      split at h
      · rename_i rest hf
        split at h
        · rename_i hc
          have sub : ∀ i, i ∈ asg rest → i ∈ asg cc := fun i hi => by simpa using List.all_eq_true.1 hc i hi
          refine wp_scope_jumps l (fun a w => ∃ e', a = mk e' ∧ Agr (asg cc) e e' ∧ comp P b rest (noG Q) e' w) (fun _ _ => 0) hf ?_ ?_
          · refine wp_mono (iha _ _ _ _ h) ?_
            intro ex a w hq
            cases ex <;> simp only [liftQ, gotoE, Exit.jump] at hq ⊢ <;> first | exact hq | skip
            case goto l' =>
              obtain ⟨e', rfl, h1, h2⟩ := hq
              by_cases hl : l' = l
              · rw [if_pos hl] at h2; exact ⟨hl, e', rfl, h1, h2⟩
              · rw [if_neg hl] at h2; exact h2.elim
          · rintro a w ⟨e', rfl, h1, h2⟩
            refine wp_mono (ihb _ _ _ _ h2) ?_
            intro ex a w hq
            cases ex <;> simp only [liftQ, noG, Exit.jump] at hq ⊢ <;> first | exact hq | skip
            case goto => obtain ⟨_, _, _, hf⟩ := hq; exact hf.elim
            all_goals
              obtain ⟨e'', rfl, h4, h5⟩ := hq
              exact ⟨e'', rfl, h1.trans (h4.mono sub), h5⟩
        · exact h.elim
      · exact h.elim
    | _ => exact h.elim

/-! ### a function -/
def resVals (P : Program) : List ResultVar → Env → (List Value → World → Prop) → World → Prop
  | [], _, k, w => k [] w
  | .tmp t :: r, e, k, w => resVals P r e (fun vs w => k (e.getD t undef :: vs) w) w
  | .cell a t :: r, e, k, w => opLoad P t (e.getD a undef) (fun v w => resVals P r e (fun vs w => k (v :: vs) w) w) w
def oneOf : List Value → Value
  | [v] => v
  | vs => .tuple ⟨vs⟩
def finQ (P : Program) (rs : List ResultVar) (R : Kt) : EQ
  | .normal, e, w => resVals P rs e (fun vs w => R (oneOf vs) w) w
  | .ret, e, w => resVals P rs e (fun vs w => R (oneOf vs) w) w
  | _, _, _ => False

theorem resVals_run {tmps : Array Value} {e : Env} (he : tmps = ⟨e⟩) : ∀ (rs : List ResultVar) (k : List Value → World → Prop) (w : World), resVals P rs e k w →
    ∃ vs, (rs.mapM (m := Sem) fun | .tmp t => pure (tmps.getD t undef) | .cell a t => do loadVar t (← asAddr (tmps.getD a undef))).run P w = .ok vs w ∧ k vs w
  | [], k, w, h => ⟨[], rfl, h⟩
  | .tmp t :: r, k, w, h => by
    obtain ⟨vs, h1, h2⟩ := resVals_run he r _ w h
    refine ⟨_, ?_, h2⟩
    simp only [List.mapM_cons, Sem.run_bind, Sem.run_pure, Result.andThen_ok, h1]
    subst he; simp
  | .cell a t :: r, k, w, h => by
    obtain ⟨v, hv, h⟩ := opLoad_read h
    obtain ⟨vs, h1, h2⟩ := resVals_run he r _ w h
    refine ⟨_, ?_, h2⟩
    have e1 : tmps.getD a undef = e.getD a undef := by subst he; simp
    have hv' : (do loadVar t (← asAddr (e.getD a undef)) : Sem Value).run P w = .ok v w := by
      generalize e.getD a undef = p at hv
      unfold Instr.loadAt Instr.sureAddr at hv
      unfold asAddr
      cases p with
      | pointer o => cases o <;> first | exact hv | simp at hv
      | _ => simp at hv
    simp only [List.mapM_cons, Sem.run_bind, Sem.run_pure, Result.andThen_ok, h1, e1]
    simp only [Sem.run_bind] at hv'
    rw [hv']
    simp only [Result.andThen_ok]
    rw [h1]
    rfl

theorem calls_of_comp (hm : P.follows .mixedOrders = true) {f : FuncId} {fn : Func} {c : Code} {args : List Value} {w : World} {R : Kt} {rs : List ResultVar} (ann : Ann)
    (hf : P.funcs[f]? = some fn) (hb : fn.body = some c) (hr : fn.results.toList = rs)
    (h : comp P ann c (finQ P rs R) (args ++ List.replicate (fn.ntmps - args.length) undef) w) :
    Calls P f args.toArray w (fun e w' => ∃ v, e = .returned v ∧ R v w') := by
  refine calls_of_wp hf hb ?_
  have := comp_sound hm ann c _ _ w h
  have e1 : (mk (args ++ List.replicate (fn.ntmps - args.length) undef)) = { tmps := args.toArray ++ Array.replicate (fn.ntmps - args.toArray.size) undef, defers := [] } := by
    simp only [mk]
    congr 1
    apply Array.ext'
    simp
  rw [← e1]
  refine wp_mono this ?_
  have key : ∀ (e' : Env) (w' : World), resVals P rs e' (fun vs w => R (oneOf vs) w) w' → ∃ v, (results fn (mk e').tmps).run P w' = .ok v w' ∧ R v w' := by
    intro e' w' hq
    obtain ⟨vs, h1, h2⟩ := resVals_run (tmps := (mk e').tmps) (e := e') rfl rs _ w' hq
    refine ⟨oneOf vs, ?_, h2⟩
    have e2 : fn.results = rs.toArray := by apply Array.ext'; simpa using hr
    unfold results
    rw [e2]
    simp only [List.mapM_toArray, Sem.run_bind, Sem.run_map]
    have e3 : ∀ r, r = Result.ok vs w' → ((Result.andThen r fun a w' => Result.ok a.toArray w').andThen fun a w' =>
        Sem.run P (pure (if h : a.size = 1 then a[0] else Value.tuple a)) w') = Result.ok (oneOf vs) w' := by
      rintro _ rfl
      match vs with
      | [] => rfl
      | [v] => rfl
      | a :: b :: l => simp [oneOf]
    exact e3 _ h1
  intro ex a w' hq
  cases ex <;> simp only [liftQ, finQ, bodyPost] at hq ⊢ <;> first | exact hq.elim | (obtain ⟨_, _, _, hq⟩ := hq; exact hq.elim) | skip
  all_goals
    obtain ⟨e', rfl, _, hq⟩ := hq
    obtain ⟨v, h1, h2⟩ := key e' w' hq
    exact ⟨rfl, v, h1, v, rfl, h2⟩

end
end Go.Mw
