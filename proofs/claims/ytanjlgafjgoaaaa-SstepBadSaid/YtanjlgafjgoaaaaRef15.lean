import Derived.Test.YtanjlgafjgoaaaaDagE
import Derived.Laws.StructEq
import Derived.Tactics
namespace Go.Proofs.Ytanjlgafjgoaaaa
open Go.Mw Go.Maps Go.MapKept
set_option linter.unusedVariables false
set_option linter.unusedSimpArgs false
set_option maxRecDepth 100000
attribute [local irreducible] M.val M.unit M.next M.pick M.new M.nilCheck M.load1 M.loadA M.store M.fieldAddr M.indexSl M.indexArr M.slice M.makeSlice M.buildSlice M.len M.lenS M.cap M.append M.extract M.conv M.not M.neg M.bin M.shift M.eqB M.eqNil M.scat M.call M.callv M.gd M.share M.cond M.loop M.draw pureW readW Ret

theorem eqNd (x y : Nd) (w : World) : (binOp .eql 61 (encN x) (encN y)).run Try.prog w = .ok (.bool (decide (x = y))) w := by
  have u3 := Try.underlying3
  have a3 := Try.isAgg3
  have z3 := Try.sizeOf3
  have u9 := Try.underlying33
  have a9 := Try.isAgg33
  have z9 := Try.sizeOf33
  have hS : Try.prog.underlying 61 = some (.struct (Try.prog.fieldsOf 61)) := by kernel_rfl
  have hp : Try.prog.stoodInHeld 61 = false := by kernel_rfl
  rw [run_eql_struct, show (10000 : Nat) = 9999 + 1 from rfl, run_equalIn_agg w 9999 61 _ _ hS hp]
  simp only [Program.fieldsOf, Try.underlying61, Nd.cells]
  obtain ⟨x1, x2, x3, x4, x5, x6⟩ := x
  obtain ⟨y1, y2, y3, y4, y5, y6⟩ := y
  go_simp
  by_cases h6 : x6 = y6
  · subst h6
    by_cases h1 : x1 = y1 <;> by_cases h2 : x2 = y2 <;> by_cases h3 : x3 = y3 <;> by_cases h4 : x4 = y4 <;> by_cases h5 : x5 = y5 <;> simp [h1, h2, h3, h4, h5]
  · have h6' : ¬ (x6.toNat : Int) = (y6.toNat : Int) := fun e => h6 (vw_inj.1 e)
    by_cases h1 : x1 = y1 <;> by_cases h2 : x2 = y2 <;> by_cases h3 : x3 = y3 <;> by_cases h4 : x4 = y4 <;> by_cases h5 : x5 = y5 <;> simp [h1, h2, h3, h4, h5, h6, h6']
theorem M.eqNd_i {k : Kt} {w : World} {o1 o2 : Operand} {x y : Nd} (h : k (.bool (decide (x = y))) w) :
    M.val Try.prog (do eqGuard .eql 61 o1 o2 (encN x) (encN y); binOp .eql 61 (encN x) (encN y)) k w := by
  refine M.val_i (v := .bool (decide (x = y))) (w' := w) ?_ h
  have hm : Try.prog.eqGuardType Try.prog.depth 61 = false := by kernel_rfl
  rw [Sem.run_bind, run_eqGuard_agg w .eql _ o1 o2 _ _ hm]
  exact eqNd x y w
/-- The document's terms. -/
def RD (w : World) (D : Nat → Prop) (v : Value) (N : List Nd) (most : Int) : Prop := ∃ A c, v = .agg ⟨[.slice A N.length c, vi most]⟩ ∧ Row w D A (NL N)
theorem RD.keep {w w' : World} {D S : Nat → Prop} {v : Value} {N : List Nd} {most : Int} (h : RD w D v N most) (k : Keep w w' S) (hs : ∀ b, b < w.heap.size → D b → ¬ S b) : RD w' D v N most := by
  obtain ⟨A, c, h1, h2⟩ := h
  exact ⟨A, c, h1, h2.keep k hs⟩
theorem RD.mono {w : World} {D D' : Nat → Prop} {v : Value} {N : List Nd} {most : Int} (h : RD w D v N most) (hd : ∀ b, b < w.heap.size → D b → D' b) : RD w D' v N most := by
  obtain ⟨A, c, h1, h2⟩ := h
  exact ⟨A, c, h1, h2.mono hd⟩
def RAsk (w : World) (D : Nat → Prop) (most : Int) (res : List Nd × Int × Int) (r : Value) (w' : World) : Prop :=
  ∃ d, r = .tuple #[d, vi res.2.1, vi res.2.2] ∧ RD w' (fun b => D b ∨ w.heap.size ≤ b) d res.1 most ∧ Keep w w' No
theorem RAsk.from {w w1 : World} {D : Nat → Prop} {most : Int} {res : List Nd × Int × Int} {r : Value} {w' : World} (k : Keep w w1 No) (h : RAsk w1 D most res r w') : RAsk w D most res r w' := by
  obtain ⟨d, h1, h2, h3⟩ := h
  have := k.size
  exact ⟨d, h1, h2.mono (fun b _ h => h.imp id (fun h => by omega)), k.trans h3 (fun _ _ h => h)⟩
section
variable {w : World} {D : Nat → Prop} {v : Value} {N : List Nd} {most : Int}
theorem rback {R : Kt} {p3 p6 : Nat} {l : List Value} {x y : Value} (b3 : Blk w p3 l) (b6 : Blk w p6 [x, y]) (hl : l.length = 2) (ho : ∀ v ∈ l, v.oneCell' = true) (hR : ∀ w', Keep w w' (· = p6) → R (.agg ⟨l⟩) w') :
    M.loadA 2 (ptr p3) (fun t w => M.store 2 (ptr p6) t (fun _ w => M.loadA 2 (ptr p6) (fun r0 w => R r0 w) w) w) w := by
  refine M.loadAll_i b3 hl ?_
  refine M.storeAll_i b6 hl rfl ho (fun w1 b1 k1 s1 => ?_)
  exact M.loadAll_i b1 hl (hR w1 k1)
theorem rout {R : Kt} {p6 : Nat} {l : List Value} {x y : Value} (b6 : Blk w p6 [x, y]) (hl : l.length = 2) (ho : ∀ v ∈ l, v.oneCell' = true) (hR : ∀ w', Keep w w' (· = p6) → R (.agg ⟨l⟩) w') :
    M.store 2 (ptr p6) (.agg ⟨l⟩) (fun _ w => M.loadA 2 (ptr p6) (fun r0 w => R r0 w) w) w := by
  refine M.storeAll_i b6 hl rfl ho (fun w1 b1 k1 s1 => ?_)
  exact M.loadAll_i b1 hl (hR w1 k1)
theorem two_one {A : Option Addr} {n c : Nat} {m : Int} : ∀ v ∈ [Value.slice A n c, vi m], v.oneCell' = true := by
  intro v hv
  simp only [List.mem_cons, List.not_mem_nil, or_false] at hv
  rcases hv with rfl | rfl <;> rfl
theorem idxOf_at {i : Nat} {n : Nd} (h : N[i]? = some n) (hno : ∀ (j : Nat) m, j < i → N[j]? = some m → m ≠ n) : N.idxOf n = i := by
  obtain ⟨hl, he⟩ := List.getElem?_eq_some_iff.1 h
  unfold List.idxOf
  rw [List.findIdx_eq hl]
  refine ⟨by rw [he]; simp, fun j hj => ?_⟩
  have := hno j _ hj (List.getElem?_eq_getElem (by omega))
  simpa using this
end
end Go.Proofs.Ytanjlgafjgoaaaa
