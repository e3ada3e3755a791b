import Derived.Test.YtanjlgafjgoaaaaSym36b
namespace Go.Proofs.Ytanjlgafjgoaaaa
open Go.Mw Go.Maps Go.MapKept
set_option linter.unusedVariables false
set_option linter.unusedSimpArgs false
set_option maxRecDepth 100000
attribute [local irreducible] M.val M.unit M.next M.pick M.new M.nilCheck M.load1 M.loadA M.store M.fieldAddr M.indexSl M.indexArr M.slice M.makeSlice M.buildSlice M.len M.lenS M.cap M.append M.extract M.conv M.not M.neg M.bin M.shift M.eqB M.eqNil M.scat M.call M.callv M.gd M.share M.cond M.loop M.draw pureW readW Ret

theorem M.arr_i {k : Kt} {w : World} {len : Nat} {d : IntKind} {i : Int} {b o : Nat} (h0 : 0 ≤ i) (h1 : i < len) (h : k (.pointer (some ⟨b, o + i.toNat * 1, none⟩)) w) : M.indexArr len 1 (.pointer (some ⟨b, o, none⟩)) (.int d i) k w := by
  unfold M.indexArr; simp only [add_mk]; exact ⟨⟨h0, h1⟩, h⟩
theorem M.stA_i {w : World} {b o n : Nat} {l : List Value} {X : Prop} (hb : Blk w b l) (hn : o + n ≤ l.length) (h : X) :
    M.loadA n (.pointer (some ⟨b, o, none⟩)) (fun v' _ => v' = .agg ⟨(l.drop o).take n⟩) w ∧ X := ⟨M.loadA_i hb hn rfl, h⟩
theorem M.loadP_i {k : Kt} {w : World} {b o n : Nat} {l r : List Value} (hb : Blk w b l) (hn : o + n ≤ l.length) (hr : (l.drop o).take n = r) (h : k (.agg ⟨r⟩) w) : M.loadA n (.pointer (some ⟨b, o, none⟩)) k w := by
  subst hr; exact M.loadA_i hb hn h
theorem fill_set {xs ys tail : List Value} {i : Nat} (h : xs.length = ys.length) (hi : i < xs.length) : (xs.take i ++ ys.drop i ++ tail).set i xs[i] = xs.take (i + 1) ++ ys.drop (i + 1) ++ tail := by
  rw [List.append_assoc, List.set_append_right _ _ (by simp; omega), List.length_take, Nat.min_eq_left (by omega), Nat.sub_self, List.take_succ_eq_append_getElem hi, List.append_assoc, List.append_assoc, List.drop_eq_getElem_cons (by omega : i < ys.length)]
  rfl
theorem idx8 {rs : List Int} (h : rs.length = 8) {i : Nat} (hi : i < 8) (w : World) : (Instr.index 40 (.agg ⟨rs.map vi⟩) (vi i)).run Try.prog w = .ok (vi (rs[i]'(by omega))) w := by
  obtain ⟨r0, r1, r2, r3, r4, r5, r6, r7, rfl⟩ := eight h
  match i, hi with
  | 0, _ => show (Instr.index 40 (.agg #[vi r0, vi r1, vi r2, vi r3, vi r4, vi r5, vi r6, vi r7]) (vi 0)).run Try.prog w = .ok (vi r0) w; kernel_rfl
  | 1, _ => show (Instr.index 40 (.agg #[vi r0, vi r1, vi r2, vi r3, vi r4, vi r5, vi r6, vi r7]) (vi 1)).run Try.prog w = .ok (vi r1) w; kernel_rfl
  | 2, _ => show (Instr.index 40 (.agg #[vi r0, vi r1, vi r2, vi r3, vi r4, vi r5, vi r6, vi r7]) (vi 2)).run Try.prog w = .ok (vi r2) w; kernel_rfl
  | 3, _ => show (Instr.index 40 (.agg #[vi r0, vi r1, vi r2, vi r3, vi r4, vi r5, vi r6, vi r7]) (vi 3)).run Try.prog w = .ok (vi r3) w; kernel_rfl
  | 4, _ => show (Instr.index 40 (.agg #[vi r0, vi r1, vi r2, vi r3, vi r4, vi r5, vi r6, vi r7]) (vi 4)).run Try.prog w = .ok (vi r4) w; kernel_rfl
  | 5, _ => show (Instr.index 40 (.agg #[vi r0, vi r1, vi r2, vi r3, vi r4, vi r5, vi r6, vi r7]) (vi 5)).run Try.prog w = .ok (vi r5) w; kernel_rfl
  | 6, _ => show (Instr.index 40 (.agg #[vi r0, vi r1, vi r2, vi r3, vi r4, vi r5, vi r6, vi r7]) (vi 6)).run Try.prog w = .ok (vi r6) w; kernel_rfl
  | 7, _ => show (Instr.index 40 (.agg #[vi r0, vi r1, vi r2, vi r3, vi r4, vi r5, vi r6, vi r7]) (vi 7)).run Try.prog w = .ok (vi r7) w; kernel_rfl
def stOf (N : List Nd) (env : List W64) (s : Sy) : St :=
  ⟨s.regs.map (valW N env), s.cells.map (valW N env), s.pc, s.steps, s.calls, s.en, s.code, if s.en = 1 then valW N env s.value else 0, devOf N env s.dev⟩
def stBad (N : List Nd) (s : Sy) : Bool :=
  ((((s.cells.any (fun i => !isN N i) || devBad N s.dev) || s.regs.any (fun i => !isN N i)) || (decide (s.en = 1) && !isN N s.value)) || s.conds.any (fun i => !isN N i))
def stHolds (N : List Nd) (env : List W64) (s : Sy) : Bool := (s.conds.map (valW N env)).all (fun x => decide (x = 1))
def St0 : St := ⟨List.replicate 8 0, [], 0, 0, 0, 0, 0, 0, ⟨[], [], 0⟩⟩
def Sy.few (s : Sy) : Prop := s.cells.length ≤ 1000000 ∧ s.dev.few ∧ s.conds.length ≤ 1000000
abbrev zSt : List Value := [vw 0, vw 0, vw 0, vw 0, vw 0, vw 0, vw 0, vw 0, .slice none 0 0, vi 0, vi 0, vi 0, vi 0, vi 0, vw 0, .slice none 0 0, .slice none 0 0, vi 0]
theorem st0_o (w : World) (D : Nat → Prop) : StO w D (.agg ⟨zSt⟩) St0 := ⟨rfl, _, _, _, rfl, LV.nil _ _ _, LV.nil _ _ _, LN.nil _ _ _⟩
theorem Rdr.keep' {w w' : World} {F De : Nat → Prop} {p rb pn : Nat} {N : List Nd} {most : Int} {ev : Value} {env : List W64} {bad : Bool} (h : Rdr w F p N most De ev env rb bad) (k : Keep w w' (· = pn)) (hr : rb ≠ pn) (hF : ¬ F pn) (hD : ¬ De pn) : Rdr w' F p N most De ev env rb bad :=
  ⟨h.dag.keep k (fun b hb h' => hF (h' ▸ hb)), h.words.keep k (fun b _ hb h' => hD (h' ▸ hb)), h.blk.keep k hr, h.nF, h.nD, h.small⟩
section
variable {w : World} {F De : Nat → Prop} {p : Nat} {N : List Nd} {most : Int} {ev : Value} {env : List W64}
end
end Go.Proofs.Ytanjlgafjgoaaaa
