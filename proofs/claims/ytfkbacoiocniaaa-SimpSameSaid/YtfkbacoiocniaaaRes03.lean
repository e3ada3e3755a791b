import Derived.Test.YtfkbacoiocniaaaRef03
namespace Go.Proofs.Ytfkbacoiocniaaa
open Go.Mw
set_option linter.unusedVariables false
set_option linter.unusedSimpArgs false
set_option maxRecDepth 100000
attribute [local irreducible] M.val M.unit M.next M.pick M.new M.nilCheck M.load1 M.loadA M.store M.fieldAddr M.indexSl M.indexArr M.slice M.makeSlice M.buildSlice M.len M.lenS M.cap M.append M.extract M.conv M.not M.neg M.bin M.shift M.eqB M.eqNil M.call M.callv M.gd M.share M.cond M.loop M.draw pureW readW Ret
/-! breakwater/breakwaterref03.Resolve: function 24 -/
def sh24 (x0 x1 x2 : Value) (R : Kt) (w : World) : Prop :=
  M.call Try.prog 15 #[x0] (fun t17 w =>
  M.extract 0 t17 (fun t18 w =>
  M.extract 1 t17 (fun t19 w =>
  M.extract 2 t17 (fun t20 w =>
  M.bin .neq t20 (Value.int IntKind.i64 0) (fun t22 w =>
  M.cond t22
  (R (.tuple #[(Value.slice none 0 0), t20]) w)
  (M.call Try.prog 15 #[x1] (fun t26 w =>
  M.extract 0 t26 (fun t27 w =>
  M.extract 1 t26 (fun t28 w =>
  M.extract 2 t26 (fun t29 w =>
  M.bin .neq t29 (Value.int IntKind.i64 0) (fun t31 w =>
  M.cond t31
  (R (.tuple #[(Value.slice none 0 0), t29]) w)
  (M.bin .lss x2 (Value.int IntKind.i64 0) (fun t34 w =>
  M.gd t34 false (fun k w => k x2 w) (fun t36 w =>
  M.gd t34 false (fun k w => M.bin .gtr t36 (Value.int IntKind.i64 4611686018427387903) k w) (fun t37 w =>
  M.pick t34 (Value.bool true) t37 (fun t38 w =>
  M.gd t38 false (fun k w => k x0 w) (fun t40 w =>
  M.gd t38 false (fun k w => k x2 w) (fun t41 w =>
  M.gd t38 false (fun k w => M.bin .mul (Value.int IntKind.i64 2) t41 k w) (fun t42 w =>
  M.gd t38 false (fun k w => M.call Try.prog 20 #[t40, t42] k w) (fun t43 w =>
  M.gd t38 false (fun k w => M.not t43 k w) (fun t44 w =>
  M.pick t38 (Value.bool true) t44 (fun t45 w =>
  M.gd t45 false (fun k w => k x1 w) (fun t47 w =>
  M.gd t45 false (fun k w => k x2 w) (fun t48 w =>
  M.gd t45 false (fun k w => M.bin .mul (Value.int IntKind.i64 2) t48 k w) (fun t49 w =>
  M.gd t45 false (fun k w => M.bin .add t49 (Value.int IntKind.i64 1) k w) (fun t50 w =>
  M.gd t45 false (fun k w => M.call Try.prog 20 #[t47, t50] k w) (fun t51 w =>
  M.gd t45 false (fun k w => M.not t51 k w) (fun t52 w =>
  M.pick t45 (Value.bool true) t52 (fun t53 w =>
  M.cond t53
  (R (.tuple #[(Value.slice none 0 0), (Value.int IntKind.i64 9)]) w)
  (M.bin .mul (Value.int IntKind.i64 2) x2 (fun t56 w =>
  M.call Try.prog 62 #[x0, t56] (fun t57 w =>
  M.bin .mul (Value.int IntKind.i64 2) x2 (fun t61 w =>
  M.bin .add t61 (Value.int IntKind.i64 1) (fun t62 w =>
  M.call Try.prog 62 #[x1, t62] (fun t63 w =>
  M.append 3 1 8 #[.int .i64 0] t57 t63 (fun t64 w =>
  M.call Try.prog 52 #[t64] (fun t66 w =>
  R (.tuple #[t66, (Value.int IntKind.i64 0)]) w) w) w) w) w) w) w) w)) w) w) w) w) w) w) w) w) w) w) w) w) w) w) w) w) w)) w) w) w) w) w)) w) w) w) w) w
theorem ok24 (x0 x1 x2 : Value) (R : Kt) (w : World) (h : sh24 x0 x1 x2 R w) : Ret Try.prog 24 #[x0, x1, x2] w R :=
  ret_mk <| calls_of_comp mixed (c := Try.f24.body.getD .skip) (args := [x0, x1, x2]) (rs := [(ResultVar.tmp 6), (ResultVar.tmp 7)]) (Ann.seq Ann.text (Ann.seq (Ann.seq Ann.text (Ann.seq Ann.text (Ann.cond (Ann.seq Ann.text Ann.leaf) Ann.leaf))) (Ann.seq (Ann.seq Ann.text (Ann.seq Ann.text (Ann.cond (Ann.seq Ann.text Ann.leaf) Ann.leaf))) (Ann.seq (Ann.seq Ann.text (Ann.cond (Ann.seq Ann.text Ann.leaf) Ann.leaf)) (Ann.seq Ann.text (Ann.seq Ann.text (Ann.seq Ann.text Ann.leaf)))))))
    Try.func24 (by kernel_rfl) (by kernel_rfl)
    (Eq.mp (by kernel_rfl) h)

def normD (xs : List Int) : List Int × Bool × Int := if xs.any (decide <| · < 0) then ([], false, 10) else (srt xs, xs.any (fun x => decide (notOf x ∈ xs)), 0)
def resD (a b : List Int) (v : Int) : List Int × Int :=
  if (normD a).2.2 ≠ 0 then ([], (normD a).2.2) else if (normD b).2.2 ≠ 0 then ([], (normD b).2.2) else
  if v < 0 ∨ 4611686018427387903 < v ∨ 2 * v ∉ a ∨ 2 * v + 1 ∉ b then ([], 9) else (srt (a.filter (decide <| · ≠ 2 * v) ++ b.filter (decide <| · ≠ 2 * v + 1)), 0)
theorem notOf_i64 {x : Int} (h : I64 x) : I64 (notOf x) := by
  have := h.1; have := h.2
  unfold notOf flip1
  split
  · exact h
  · split <;> exact ⟨by omega, by omega⟩
theorem rnormal_ret {w : World} {D : Nat → Prop} {u : Value} {xs : List Int} (h1 : LV vi w D u xs) (hf : Few xs.length) (hI : ∀ x ∈ xs, I64 x) :
    Ret Try.prog 15 #[u] w (fun r w' => ∃ v, r = .tuple #[v, .bool (normD xs).2.1, vi (normD xs).2.2] ∧ GI w' (w.heap.size ≤ ·) v (normD xs).1 ∧ Keep w w' No) := by
  have hL := h1
  obtain ⟨A, c, rfl, h1, hc1⟩ := h1
  refine ok15 _ _ _ ?_
  unfold sh15
  refine M.loop_i (σ := Nat) (fun i vals w' => vals = [.bool ((xs.take i).any (fun x => decide (notOf x ∈ xs))), vi i] ∧ i ≤ xs.length ∧ (∀ x ∈ xs.take i, ¬ x < 0) ∧ Keep w w' No) (fun i => xs.length - i) 0 ⟨by simp, by omega, by simp, Keep.refl _ _⟩ ?_
  rintro i vals w1 K ⟨rfl, hi, hno, k1⟩ hK _
  simp only [List.getD_cons_zero, List.getD_cons_succ]
  by_cases hlt : i < xs.length
  · obtain ⟨e, he⟩ : ∃ e, xs[i]? = some e := ⟨_, List.getElem?_eq_getElem hlt⟩
    have e1 : xs.take (i + 1) = xs.take i ++ [e] := by rw [List.take_add_one, he]; rfl
    have h1 := h1.keep k1 (fun _ _ _ h => h)
    have hL := hL.keep k1 (fun _ _ _ h => h)
    have hIe := hI e (List.mem_of_getElem? he)
    (repeat (first | refine M.len_i ?_ | refine M.nilCheck_i ?_ | refine M.field_i ?_ | refine M.draw_i ?_ | refine M.cap_i ?_ | refine M.gd_tt ?_ | refine M.gd_ff ?_ | refine M.gd_ft ?_ | refine M.gd_tf ?_ | refine M.gd_u ?_ | refine M.pick_t ?_ | refine M.pick_f ?_ | refine M.not_t ?_ | refine M.not_f ?_ | refine M.cond_t ?_ | refine M.cond_f ?_ | refine M.eqNilP_tn ?_ | refine M.eqNilP_ts ?_ | refine M.eqNilP_fn ?_ | refine M.eqNilP_fs ?_ | refine M.eqNilS_tn ?_ | refine M.eqNilS_ts ?_ | refine M.eqNilS_fn ?_ | refine M.eqNilS_fs ?_ | refine M.lss_t (by omega) ?_ | refine M.lss_f (by omega) ?_ | refine M.leq_t (by omega) ?_ | refine M.leq_f (by omega) ?_ | refine M.gtr_t (by omega) ?_ | refine M.gtr_f (by omega) ?_ | refine M.geq_t (by omega) ?_ | refine M.geq_f (by omega) ?_ | refine M.eql_t (by omega) ?_ | refine M.eql_f (by omega) ?_ | refine M.neq_t (by omega) ?_ | refine M.neq_f (by omega) ?_ | refine M.add_i (by omega) (by omega) ?_ | refine M.sub_i (by omega) (by omega) ?_ | refine M.load_i (by assumption) ?_ | refine M.loadB_i (by assumption) rfl ?_ | refine M.st_i (by assumption) ?_ | refine M.stB_i (by assumption) rfl ?_ | refine M.gs_ff ?_ | refine M.gs_tt ?_ | refine M.gs_ft ?_ | refine M.gs_tf ?_ | refine M.stAll_i (by assumption) rfl ?_))
    refine M.idxLV_i h1 rfl (by omega) (by omega) (x := e) (by simpa using he) (fun b o hA hc => ?_)
    (repeat (first | refine M.len_i ?_ | refine M.nilCheck_i ?_ | refine M.field_i ?_ | refine M.draw_i ?_ | refine M.cap_i ?_ | refine M.gd_tt ?_ | refine M.gd_ff ?_ | refine M.gd_ft ?_ | refine M.gd_tf ?_ | refine M.gd_u ?_ | refine M.pick_t ?_ | refine M.pick_f ?_ | refine M.not_t ?_ | refine M.not_f ?_ | refine M.cond_t ?_ | refine M.cond_f ?_ | refine M.eqNilP_tn ?_ | refine M.eqNilP_ts ?_ | refine M.eqNilP_fn ?_ | refine M.eqNilP_fs ?_ | refine M.eqNilS_tn ?_ | refine M.eqNilS_ts ?_ | refine M.eqNilS_fn ?_ | refine M.eqNilS_fs ?_ | refine M.lss_t (by omega) ?_ | refine M.lss_f (by omega) ?_ | refine M.leq_t (by omega) ?_ | refine M.leq_f (by omega) ?_ | refine M.gtr_t (by omega) ?_ | refine M.gtr_f (by omega) ?_ | refine M.geq_t (by omega) ?_ | refine M.geq_f (by omega) ?_ | refine M.eql_t (by omega) ?_ | refine M.eql_f (by omega) ?_ | refine M.neq_t (by omega) ?_ | refine M.neq_f (by omega) ?_ | refine M.add_i (by omega) (by omega) ?_ | refine M.sub_i (by omega) (by omega) ?_ | refine M.load_i (by assumption) ?_ | refine M.loadB_i (by assumption) rfl ?_ | refine M.st_i (by assumption) ?_ | refine M.stB_i (by assumption) rfl ?_ | refine M.gs_ff ?_ | refine M.gs_tt ?_ | refine M.gs_ft ?_ | refine M.gs_tf ?_ | refine M.stAll_i (by assumption) rfl ?_))
    by_cases hneg : e < 0
    · (repeat (first | refine M.len_i ?_ | refine M.nilCheck_i ?_ | refine M.field_i ?_ | refine M.draw_i ?_ | refine M.cap_i ?_ | refine M.gd_tt ?_ | refine M.gd_ff ?_ | refine M.gd_ft ?_ | refine M.gd_tf ?_ | refine M.gd_u ?_ | refine M.pick_t ?_ | refine M.pick_f ?_ | refine M.not_t ?_ | refine M.not_f ?_ | refine M.cond_t ?_ | refine M.cond_f ?_ | refine M.eqNilP_tn ?_ | refine M.eqNilP_ts ?_ | refine M.eqNilP_fn ?_ | refine M.eqNilP_fs ?_ | refine M.eqNilS_tn ?_ | refine M.eqNilS_ts ?_ | refine M.eqNilS_fn ?_ | refine M.eqNilS_fs ?_ | refine M.lss_t (by omega) ?_ | refine M.lss_f (by omega) ?_ | refine M.leq_t (by omega) ?_ | refine M.leq_f (by omega) ?_ | refine M.gtr_t (by omega) ?_ | refine M.gtr_f (by omega) ?_ | refine M.geq_t (by omega) ?_ | refine M.geq_f (by omega) ?_ | refine M.eql_t (by omega) ?_ | refine M.eql_f (by omega) ?_ | refine M.neq_t (by omega) ?_ | refine M.neq_f (by omega) ?_ | refine M.add_i (by omega) (by omega) ?_ | refine M.sub_i (by omega) (by omega) ?_ | refine M.load_i (by assumption) ?_ | refine M.loadB_i (by assumption) rfl ?_ | refine M.st_i (by assumption) ?_ | refine M.stB_i (by assumption) rfl ?_ | refine M.gs_ff ?_ | refine M.gs_tt ?_ | refine M.gs_ft ?_ | refine M.gs_tf ?_ | refine M.stAll_i (by assumption) rfl ?_))
      have hany : xs.any (decide <| · < 0) = true := List.any_eq_true.2 ⟨e, List.mem_of_getElem? he, by simpa using hneg⟩
      refine ⟨.slice none 0 0, ?_, ?_, k1⟩
      · simp only [normD, hany, if_true]
      · simp only [normD, hany, if_true]; exact GI.nil _ _
    · (repeat (first | refine M.len_i ?_ | refine M.nilCheck_i ?_ | refine M.field_i ?_ | refine M.draw_i ?_ | refine M.cap_i ?_ | refine M.gd_tt ?_ | refine M.gd_ff ?_ | refine M.gd_ft ?_ | refine M.gd_tf ?_ | refine M.gd_u ?_ | refine M.pick_t ?_ | refine M.pick_f ?_ | refine M.not_t ?_ | refine M.not_f ?_ | refine M.cond_t ?_ | refine M.cond_f ?_ | refine M.eqNilP_tn ?_ | refine M.eqNilP_ts ?_ | refine M.eqNilP_fn ?_ | refine M.eqNilP_fs ?_ | refine M.eqNilS_tn ?_ | refine M.eqNilS_ts ?_ | refine M.eqNilS_fn ?_ | refine M.eqNilS_fs ?_ | refine M.lss_t (by omega) ?_ | refine M.lss_f (by omega) ?_ | refine M.leq_t (by omega) ?_ | refine M.leq_f (by omega) ?_ | refine M.gtr_t (by omega) ?_ | refine M.gtr_f (by omega) ?_ | refine M.geq_t (by omega) ?_ | refine M.geq_f (by omega) ?_ | refine M.eql_t (by omega) ?_ | refine M.eql_f (by omega) ?_ | refine M.neq_t (by omega) ?_ | refine M.neq_f (by omega) ?_ | refine M.add_i (by omega) (by omega) ?_ | refine M.sub_i (by omega) (by omega) ?_ | refine M.load_i (by assumption) ?_ | refine M.loadB_i (by assumption) rfl ?_ | refine M.st_i (by assumption) ?_ | refine M.stB_i (by assumption) rfl ?_ | refine M.gs_ff ?_ | refine M.gs_tt ?_ | refine M.gs_ft ?_ | refine M.gs_tf ?_ | refine M.stAll_i (by assumption) rfl ?_))
      have hno' : ∀ x ∈ xs.take (i + 1), ¬ x < 0 := fun x hx => by
        rcases (mem_take_succ he).1 hx with h | h
        · exact hno x h
        · exact h ▸ hneg
      cases hal : (xs.take i).any (fun x => decide (notOf x ∈ xs)) with
      | true =>
        (repeat (first | refine M.len_i ?_ | refine M.nilCheck_i ?_ | refine M.field_i ?_ | refine M.draw_i ?_ | refine M.cap_i ?_ | refine M.gd_tt ?_ | refine M.gd_ff ?_ | refine M.gd_ft ?_ | refine M.gd_tf ?_ | refine M.gd_u ?_ | refine M.pick_t ?_ | refine M.pick_f ?_ | refine M.not_t ?_ | refine M.not_f ?_ | refine M.cond_t ?_ | refine M.cond_f ?_ | refine M.eqNilP_tn ?_ | refine M.eqNilP_ts ?_ | refine M.eqNilP_fn ?_ | refine M.eqNilP_fs ?_ | refine M.eqNilS_tn ?_ | refine M.eqNilS_ts ?_ | refine M.eqNilS_fn ?_ | refine M.eqNilS_fs ?_ | refine M.lss_t (by omega) ?_ | refine M.lss_f (by omega) ?_ | refine M.leq_t (by omega) ?_ | refine M.leq_f (by omega) ?_ | refine M.gtr_t (by omega) ?_ | refine M.gtr_f (by omega) ?_ | refine M.geq_t (by omega) ?_ | refine M.geq_f (by omega) ?_ | refine M.eql_t (by omega) ?_ | refine M.eql_f (by omega) ?_ | refine M.neq_t (by omega) ?_ | refine M.neq_f (by omega) ?_ | refine M.add_i (by omega) (by omega) ?_ | refine M.sub_i (by omega) (by omega) ?_ | refine M.load_i (by assumption) ?_ | refine M.loadB_i (by assumption) rfl ?_ | refine M.st_i (by assumption) ?_ | refine M.stB_i (by assumption) rfl ?_ | refine M.gs_ff ?_ | refine M.gs_tt ?_ | refine M.gs_ft ?_ | refine M.gs_tf ?_ | refine M.stAll_i (by assumption) rfl ?_))
        refine hK (i + 1) _ _ (by omega) ⟨?_, by omega, hno', k1⟩
        rw [e1, List.any_append, hal]; simp
      | false =>
        (repeat (first | refine M.len_i ?_ | refine M.nilCheck_i ?_ | refine M.field_i ?_ | refine M.draw_i ?_ | refine M.cap_i ?_ | refine M.gd_tt ?_ | refine M.gd_ff ?_ | refine M.gd_ft ?_ | refine M.gd_tf ?_ | refine M.gd_u ?_ | refine M.pick_t ?_ | refine M.pick_f ?_ | refine M.not_t ?_ | refine M.not_f ?_ | refine M.cond_t ?_ | refine M.cond_f ?_ | refine M.eqNilP_tn ?_ | refine M.eqNilP_ts ?_ | refine M.eqNilP_fn ?_ | refine M.eqNilP_fs ?_ | refine M.eqNilS_tn ?_ | refine M.eqNilS_ts ?_ | refine M.eqNilS_fn ?_ | refine M.eqNilS_fs ?_ | refine M.lss_t (by omega) ?_ | refine M.lss_f (by omega) ?_ | refine M.leq_t (by omega) ?_ | refine M.leq_f (by omega) ?_ | refine M.gtr_t (by omega) ?_ | refine M.gtr_f (by omega) ?_ | refine M.geq_t (by omega) ?_ | refine M.geq_f (by omega) ?_ | refine M.eql_t (by omega) ?_ | refine M.eql_f (by omega) ?_ | refine M.neq_t (by omega) ?_ | refine M.neq_f (by omega) ?_ | refine M.add_i (by omega) (by omega) ?_ | refine M.sub_i (by omega) (by omega) ?_ | refine M.load_i (by assumption) ?_ | refine M.loadB_i (by assumption) rfl ?_ | refine M.st_i (by assumption) ?_ | refine M.stB_i (by assumption) rfl ?_ | refine M.gs_ff ?_ | refine M.gs_tt ?_ | refine M.gs_ft ?_ | refine M.gs_tf ?_ | refine M.stAll_i (by assumption) rfl ?_))
        refine M.idxLV_i h1 rfl (by omega) (by omega) (x := e) (by simpa using he) (fun b o hA hc => ?_)
        (repeat (first | refine M.len_i ?_ | refine M.nilCheck_i ?_ | refine M.field_i ?_ | refine M.draw_i ?_ | refine M.cap_i ?_ | refine M.gd_tt ?_ | refine M.gd_ff ?_ | refine M.gd_ft ?_ | refine M.gd_tf ?_ | refine M.gd_u ?_ | refine M.pick_t ?_ | refine M.pick_f ?_ | refine M.not_t ?_ | refine M.not_f ?_ | refine M.cond_t ?_ | refine M.cond_f ?_ | refine M.eqNilP_tn ?_ | refine M.eqNilP_ts ?_ | refine M.eqNilP_fn ?_ | refine M.eqNilP_fs ?_ | refine M.eqNilS_tn ?_ | refine M.eqNilS_ts ?_ | refine M.eqNilS_fn ?_ | refine M.eqNilS_fs ?_ | refine M.lss_t (by omega) ?_ | refine M.lss_f (by omega) ?_ | refine M.leq_t (by omega) ?_ | refine M.leq_f (by omega) ?_ | refine M.gtr_t (by omega) ?_ | refine M.gtr_f (by omega) ?_ | refine M.geq_t (by omega) ?_ | refine M.geq_f (by omega) ?_ | refine M.eql_t (by omega) ?_ | refine M.eql_f (by omega) ?_ | refine M.neq_t (by omega) ?_ | refine M.neq_f (by omega) ?_ | refine M.add_i (by omega) (by omega) ?_ | refine M.sub_i (by omega) (by omega) ?_ | refine M.load_i (by assumption) ?_ | refine M.loadB_i (by assumption) rfl ?_ | refine M.st_i (by assumption) ?_ | refine M.stB_i (by assumption) rfl ?_ | refine M.gs_ff ?_ | refine M.gs_tt ?_ | refine M.gs_ft ?_ | refine M.gs_tf ?_ | refine M.stAll_i (by assumption) rfl ?_))
        refine M.call_i (rnot_ret hIe w1) ?_; rintro _ w2 ⟨rfl, k2⟩
        (repeat (first | refine M.len_i ?_ | refine M.nilCheck_i ?_ | refine M.field_i ?_ | refine M.draw_i ?_ | refine M.cap_i ?_ | refine M.gd_tt ?_ | refine M.gd_ff ?_ | refine M.gd_ft ?_ | refine M.gd_tf ?_ | refine M.gd_u ?_ | refine M.pick_t ?_ | refine M.pick_f ?_ | refine M.not_t ?_ | refine M.not_f ?_ | refine M.cond_t ?_ | refine M.cond_f ?_ | refine M.eqNilP_tn ?_ | refine M.eqNilP_ts ?_ | refine M.eqNilP_fn ?_ | refine M.eqNilP_fs ?_ | refine M.eqNilS_tn ?_ | refine M.eqNilS_ts ?_ | refine M.eqNilS_fn ?_ | refine M.eqNilS_fs ?_ | refine M.lss_t (by omega) ?_ | refine M.lss_f (by omega) ?_ | refine M.leq_t (by omega) ?_ | refine M.leq_f (by omega) ?_ | refine M.gtr_t (by omega) ?_ | refine M.gtr_f (by omega) ?_ | refine M.geq_t (by omega) ?_ | refine M.geq_f (by omega) ?_ | refine M.eql_t (by omega) ?_ | refine M.eql_f (by omega) ?_ | refine M.neq_t (by omega) ?_ | refine M.neq_f (by omega) ?_ | refine M.add_i (by omega) (by omega) ?_ | refine M.sub_i (by omega) (by omega) ?_ | refine M.load_i (by assumption) ?_ | refine M.loadB_i (by assumption) rfl ?_ | refine M.st_i (by assumption) ?_ | refine M.stB_i (by assumption) rfl ?_ | refine M.gs_ff ?_ | refine M.gs_tt ?_ | refine M.gs_ft ?_ | refine M.gs_tf ?_ | refine M.stAll_i (by assumption) rfl ?_))
        refine M.call_i (has_ret (hL.keep k2 (fun _ _ _ h => h)) hf (notOf e)) ?_; rintro _ w3 ⟨rfl, k3⟩
        (repeat (first | refine M.len_i ?_ | refine M.nilCheck_i ?_ | refine M.field_i ?_ | refine M.draw_i ?_ | refine M.cap_i ?_ | refine M.gd_tt ?_ | refine M.gd_ff ?_ | refine M.gd_ft ?_ | refine M.gd_tf ?_ | refine M.gd_u ?_ | refine M.pick_t ?_ | refine M.pick_f ?_ | refine M.not_t ?_ | refine M.not_f ?_ | refine M.cond_t ?_ | refine M.cond_f ?_ | refine M.eqNilP_tn ?_ | refine M.eqNilP_ts ?_ | refine M.eqNilP_fn ?_ | refine M.eqNilP_fs ?_ | refine M.eqNilS_tn ?_ | refine M.eqNilS_ts ?_ | refine M.eqNilS_fn ?_ | refine M.eqNilS_fs ?_ | refine M.lss_t (by omega) ?_ | refine M.lss_f (by omega) ?_ | refine M.leq_t (by omega) ?_ | refine M.leq_f (by omega) ?_ | refine M.gtr_t (by omega) ?_ | refine M.gtr_f (by omega) ?_ | refine M.geq_t (by omega) ?_ | refine M.geq_f (by omega) ?_ | refine M.eql_t (by omega) ?_ | refine M.eql_f (by omega) ?_ | refine M.neq_t (by omega) ?_ | refine M.neq_f (by omega) ?_ | refine M.add_i (by omega) (by omega) ?_ | refine M.sub_i (by omega) (by omega) ?_ | refine M.load_i (by assumption) ?_ | refine M.loadB_i (by assumption) rfl ?_ | refine M.st_i (by assumption) ?_ | refine M.stB_i (by assumption) rfl ?_ | refine M.gs_ff ?_ | refine M.gs_tt ?_ | refine M.gs_ft ?_ | refine M.gs_tf ?_ | refine M.stAll_i (by assumption) rfl ?_))
        refine hK (i + 1) _ _ (by omega) ⟨?_, by omega, hno', (k1.trans k2 (fun _ _ h => h)).trans k3 (fun _ _ h => h)⟩
        rw [e1, List.any_append, hal]; simp
  · (repeat (first | refine M.len_i ?_ | refine M.nilCheck_i ?_ | refine M.field_i ?_ | refine M.draw_i ?_ | refine M.cap_i ?_ | refine M.gd_tt ?_ | refine M.gd_ff ?_ | refine M.gd_ft ?_ | refine M.gd_tf ?_ | refine M.gd_u ?_ | refine M.pick_t ?_ | refine M.pick_f ?_ | refine M.not_t ?_ | refine M.not_f ?_ | refine M.cond_t ?_ | refine M.cond_f ?_ | refine M.eqNilP_tn ?_ | refine M.eqNilP_ts ?_ | refine M.eqNilP_fn ?_ | refine M.eqNilP_fs ?_ | refine M.eqNilS_tn ?_ | refine M.eqNilS_ts ?_ | refine M.eqNilS_fn ?_ | refine M.eqNilS_fs ?_ | refine M.lss_t (by omega) ?_ | refine M.lss_f (by omega) ?_ | refine M.leq_t (by omega) ?_ | refine M.leq_f (by omega) ?_ | refine M.gtr_t (by omega) ?_ | refine M.gtr_f (by omega) ?_ | refine M.geq_t (by omega) ?_ | refine M.geq_f (by omega) ?_ | refine M.eql_t (by omega) ?_ | refine M.eql_f (by omega) ?_ | refine M.neq_t (by omega) ?_ | refine M.neq_f (by omega) ?_ | refine M.add_i (by omega) (by omega) ?_ | refine M.sub_i (by omega) (by omega) ?_ | refine M.load_i (by assumption) ?_ | refine M.loadB_i (by assumption) rfl ?_ | refine M.st_i (by assumption) ?_ | refine M.stB_i (by assumption) rfl ?_ | refine M.gs_ff ?_ | refine M.gs_tt ?_ | refine M.gs_ft ?_ | refine M.gs_tf ?_ | refine M.stAll_i (by assumption) rfl ?_))
    have : i = xs.length := by omega
    subst this
    rw [List.take_length] at *
    refine M.call_i (sorted_ret (hL.keep k1 (fun _ _ _ h => h)) hf) ?_; rintro v w2 ⟨g2, k2⟩
    have hany : ¬ xs.any (decide <| · < 0) = true := fun h => by
      obtain ⟨x, hx, h⟩ := List.any_eq_true.1 h
      exact hno x hx (by simpa using h)
    have q1 := k1.size
    refine ⟨v, ?_, ?_, k1.trans k2 (fun _ _ h => h)⟩
    · simp only [normD, if_neg hany]
    · simp only [normD, if_neg hany]; exact g2.mono (fun b hb h => by omega)
theorem i64_two {v : Int} (h0 : ¬ v < 0) (h1 : ¬ 4611686018427387903 < v) : I64 (2 * v) ∧ I64 (2 * v + 1) := ⟨⟨by omega, by omega⟩, by omega, by omega⟩
set_option maxHeartbeats 1000000 in
theorem rresolve_ret {w : World} {D D' : Nat → Prop} {u u' : Value} {a b : List Int} (h1 : LV vi w D u a) (h2 : LV vi w D' u' b) (hf : Few (a.length + b.length)) (hI : ∀ x ∈ a, I64 x) (hJ : ∀ x ∈ b, I64 x) (v : Int) :
    Ret Try.prog 24 #[u, u', vi v] w (fun r w' => ∃ o, r = .tuple #[o, vi (resD a b v).2] ∧ GI w' (w.heap.size ≤ ·) o (resD a b v).1 ∧ Keep w w' No) := by
  refine ok24 _ _ _ _ _ ?_
  unfold sh24
  refine M.call_i (rnormal_ret h1 (by omega) hI) ?_; rintro _ w1 ⟨o1, rfl, g1, k1⟩
  refine M.extract_i rfl ?_
  refine M.extract_i rfl ?_
  refine M.extract_i rfl ?_
  by_cases e1 : (normD a).2.2 = 0
  rotate_left
  · (repeat (first | refine M.len_i ?_ | refine M.nilCheck_i ?_ | refine M.field_i ?_ | refine M.draw_i ?_ | refine M.cap_i ?_ | refine M.gd_tt ?_ | refine M.gd_ff ?_ | refine M.gd_ft ?_ | refine M.gd_tf ?_ | refine M.gd_u ?_ | refine M.pick_t ?_ | refine M.pick_f ?_ | refine M.not_t ?_ | refine M.not_f ?_ | refine M.cond_t ?_ | refine M.cond_f ?_ | refine M.eqNilP_tn ?_ | refine M.eqNilP_ts ?_ | refine M.eqNilP_fn ?_ | refine M.eqNilP_fs ?_ | refine M.eqNilS_tn ?_ | refine M.eqNilS_ts ?_ | refine M.eqNilS_fn ?_ | refine M.eqNilS_fs ?_ | refine M.lss_t (by omega) ?_ | refine M.lss_f (by omega) ?_ | refine M.leq_t (by omega) ?_ | refine M.leq_f (by omega) ?_ | refine M.gtr_t (by omega) ?_ | refine M.gtr_f (by omega) ?_ | refine M.geq_t (by omega) ?_ | refine M.geq_f (by omega) ?_ | refine M.eql_t (by omega) ?_ | refine M.eql_f (by omega) ?_ | refine M.neq_t (by omega) ?_ | refine M.neq_f (by omega) ?_ | refine M.add_i (by omega) (by omega) ?_ | refine M.sub_i (by omega) (by omega) ?_ | refine M.load_i (by assumption) ?_ | refine M.loadB_i (by assumption) rfl ?_ | refine M.st_i (by assumption) ?_ | refine M.stB_i (by assumption) rfl ?_ | refine M.gs_ff ?_ | refine M.gs_tt ?_ | refine M.gs_ft ?_ | refine M.gs_tf ?_ | refine M.stAll_i (by assumption) rfl ?_))
    have : resD a b v = ([], (normD a).2.2) := by unfold resD; rw [if_pos e1]
    rw [this]
    exact ⟨_, rfl, GI.nil _ _, k1⟩
  have h1 := h1.keep k1 (fun _ _ _ h => h)
  have h2 := h2.keep k1 (fun _ _ _ h => h)
  (repeat (first | refine M.len_i ?_ | refine M.nilCheck_i ?_ | refine M.field_i ?_ | refine M.draw_i ?_ | refine M.cap_i ?_ | refine M.gd_tt ?_ | refine M.gd_ff ?_ | refine M.gd_ft ?_ | refine M.gd_tf ?_ | refine M.gd_u ?_ | refine M.pick_t ?_ | refine M.pick_f ?_ | refine M.not_t ?_ | refine M.not_f ?_ | refine M.cond_t ?_ | refine M.cond_f ?_ | refine M.eqNilP_tn ?_ | refine M.eqNilP_ts ?_ | refine M.eqNilP_fn ?_ | refine M.eqNilP_fs ?_ | refine M.eqNilS_tn ?_ | refine M.eqNilS_ts ?_ | refine M.eqNilS_fn ?_ | refine M.eqNilS_fs ?_ | refine M.lss_t (by omega) ?_ | refine M.lss_f (by omega) ?_ | refine M.leq_t (by omega) ?_ | refine M.leq_f (by omega) ?_ | refine M.gtr_t (by omega) ?_ | refine M.gtr_f (by omega) ?_ | refine M.geq_t (by omega) ?_ | refine M.geq_f (by omega) ?_ | refine M.eql_t (by omega) ?_ | refine M.eql_f (by omega) ?_ | refine M.neq_t (by omega) ?_ | refine M.neq_f (by omega) ?_ | refine M.add_i (by omega) (by omega) ?_ | refine M.sub_i (by omega) (by omega) ?_ | refine M.load_i (by assumption) ?_ | refine M.loadB_i (by assumption) rfl ?_ | refine M.st_i (by assumption) ?_ | refine M.stB_i (by assumption) rfl ?_ | refine M.gs_ff ?_ | refine M.gs_tt ?_ | refine M.gs_ft ?_ | refine M.gs_tf ?_ | refine M.stAll_i (by assumption) rfl ?_))
  refine M.call_i (rnormal_ret h2 (by omega) hJ) ?_; rintro _ w2 ⟨o2, rfl, g2, k2⟩
  have h1 := h1.keep k2 (fun _ _ _ h => h)
  have h2 := h2.keep k2 (fun _ _ _ h => h)
  have k12 := k1.trans k2 (fun _ _ h => h)
  have q12 := k12.size
  refine M.extract_i rfl ?_
  refine M.extract_i rfl ?_
  refine M.extract_i rfl ?_
  by_cases e2 : (normD b).2.2 = 0
  rotate_left
  · (repeat (first | refine M.len_i ?_ | refine M.nilCheck_i ?_ | refine M.field_i ?_ | refine M.draw_i ?_ | refine M.cap_i ?_ | refine M.gd_tt ?_ | refine M.gd_ff ?_ | refine M.gd_ft ?_ | refine M.gd_tf ?_ | refine M.gd_u ?_ | refine M.pick_t ?_ | refine M.pick_f ?_ | refine M.not_t ?_ | refine M.not_f ?_ | refine M.cond_t ?_ | refine M.cond_f ?_ | refine M.eqNilP_tn ?_ | refine M.eqNilP_ts ?_ | refine M.eqNilP_fn ?_ | refine M.eqNilP_fs ?_ | refine M.eqNilS_tn ?_ | refine M.eqNilS_ts ?_ | refine M.eqNilS_fn ?_ | refine M.eqNilS_fs ?_ | refine M.lss_t (by omega) ?_ | refine M.lss_f (by omega) ?_ | refine M.leq_t (by omega) ?_ | refine M.leq_f (by omega) ?_ | refine M.gtr_t (by omega) ?_ | refine M.gtr_f (by omega) ?_ | refine M.geq_t (by omega) ?_ | refine M.geq_f (by omega) ?_ | refine M.eql_t (by omega) ?_ | refine M.eql_f (by omega) ?_ | refine M.neq_t (by omega) ?_ | refine M.neq_f (by omega) ?_ | refine M.add_i (by omega) (by omega) ?_ | refine M.sub_i (by omega) (by omega) ?_ | refine M.load_i (by assumption) ?_ | refine M.loadB_i (by assumption) rfl ?_ | refine M.st_i (by assumption) ?_ | refine M.stB_i (by assumption) rfl ?_ | refine M.gs_ff ?_ | refine M.gs_tt ?_ | refine M.gs_ft ?_ | refine M.gs_tf ?_ | refine M.stAll_i (by assumption) rfl ?_))
    have : resD a b v = ([], (normD b).2.2) := by unfold resD; rw [if_neg (by omega), if_pos e2]
    rw [this]
    exact ⟨_, rfl, GI.nil _ _, k12⟩
  have bad : (v < 0 ∨ 4611686018427387903 < v ∨ 2 * v ∉ a ∨ 2 * v + 1 ∉ b) → resD a b v = ([], 9) := fun h => by
    unfold resD; rw [if_neg (by omega), if_neg (by omega), if_pos h]
  (repeat (first | refine M.len_i ?_ | refine M.nilCheck_i ?_ | refine M.field_i ?_ | refine M.draw_i ?_ | refine M.cap_i ?_ | refine M.gd_tt ?_ | refine M.gd_ff ?_ | refine M.gd_ft ?_ | refine M.gd_tf ?_ | refine M.gd_u ?_ | refine M.pick_t ?_ | refine M.pick_f ?_ | refine M.not_t ?_ | refine M.not_f ?_ | refine M.cond_t ?_ | refine M.cond_f ?_ | refine M.eqNilP_tn ?_ | refine M.eqNilP_ts ?_ | refine M.eqNilP_fn ?_ | refine M.eqNilP_fs ?_ | refine M.eqNilS_tn ?_ | refine M.eqNilS_ts ?_ | refine M.eqNilS_fn ?_ | refine M.eqNilS_fs ?_ | refine M.lss_t (by omega) ?_ | refine M.lss_f (by omega) ?_ | refine M.leq_t (by omega) ?_ | refine M.leq_f (by omega) ?_ | refine M.gtr_t (by omega) ?_ | refine M.gtr_f (by omega) ?_ | refine M.geq_t (by omega) ?_ | refine M.geq_f (by omega) ?_ | refine M.eql_t (by omega) ?_ | refine M.eql_f (by omega) ?_ | refine M.neq_t (by omega) ?_ | refine M.neq_f (by omega) ?_ | refine M.add_i (by omega) (by omega) ?_ | refine M.sub_i (by omega) (by omega) ?_ | refine M.load_i (by assumption) ?_ | refine M.loadB_i (by assumption) rfl ?_ | refine M.st_i (by assumption) ?_ | refine M.stB_i (by assumption) rfl ?_ | refine M.gs_ff ?_ | refine M.gs_tt ?_ | refine M.gs_ft ?_ | refine M.gs_tf ?_ | refine M.stAll_i (by assumption) rfl ?_))
  by_cases c0 : v < 0
  · (repeat (first | refine M.len_i ?_ | refine M.nilCheck_i ?_ | refine M.field_i ?_ | refine M.draw_i ?_ | refine M.cap_i ?_ | refine M.gd_tt ?_ | refine M.gd_ff ?_ | refine M.gd_ft ?_ | refine M.gd_tf ?_ | refine M.gd_u ?_ | refine M.pick_t ?_ | refine M.pick_f ?_ | refine M.not_t ?_ | refine M.not_f ?_ | refine M.cond_t ?_ | refine M.cond_f ?_ | refine M.eqNilP_tn ?_ | refine M.eqNilP_ts ?_ | refine M.eqNilP_fn ?_ | refine M.eqNilP_fs ?_ | refine M.eqNilS_tn ?_ | refine M.eqNilS_ts ?_ | refine M.eqNilS_fn ?_ | refine M.eqNilS_fs ?_ | refine M.lss_t (by omega) ?_ | refine M.lss_f (by omega) ?_ | refine M.leq_t (by omega) ?_ | refine M.leq_f (by omega) ?_ | refine M.gtr_t (by omega) ?_ | refine M.gtr_f (by omega) ?_ | refine M.geq_t (by omega) ?_ | refine M.geq_f (by omega) ?_ | refine M.eql_t (by omega) ?_ | refine M.eql_f (by omega) ?_ | refine M.neq_t (by omega) ?_ | refine M.neq_f (by omega) ?_ | refine M.add_i (by omega) (by omega) ?_ | refine M.sub_i (by omega) (by omega) ?_ | refine M.load_i (by assumption) ?_ | refine M.loadB_i (by assumption) rfl ?_ | refine M.st_i (by assumption) ?_ | refine M.stB_i (by assumption) rfl ?_ | refine M.gs_ff ?_ | refine M.gs_tt ?_ | refine M.gs_ft ?_ | refine M.gs_tf ?_ | refine M.stAll_i (by assumption) rfl ?_))
    rw [bad (.inl c0)]
    exact ⟨_, rfl, GI.nil _ _, k12⟩
  by_cases c1 : 4611686018427387903 < v
  · (repeat (first | refine M.len_i ?_ | refine M.nilCheck_i ?_ | refine M.field_i ?_ | refine M.draw_i ?_ | refine M.cap_i ?_ | refine M.gd_tt ?_ | refine M.gd_ff ?_ | refine M.gd_ft ?_ | refine M.gd_tf ?_ | refine M.gd_u ?_ | refine M.pick_t ?_ | refine M.pick_f ?_ | refine M.not_t ?_ | refine M.not_f ?_ | refine M.cond_t ?_ | refine M.cond_f ?_ | refine M.eqNilP_tn ?_ | refine M.eqNilP_ts ?_ | refine M.eqNilP_fn ?_ | refine M.eqNilP_fs ?_ | refine M.eqNilS_tn ?_ | refine M.eqNilS_ts ?_ | refine M.eqNilS_fn ?_ | refine M.eqNilS_fs ?_ | refine M.lss_t (by omega) ?_ | refine M.lss_f (by omega) ?_ | refine M.leq_t (by omega) ?_ | refine M.leq_f (by omega) ?_ | refine M.gtr_t (by omega) ?_ | refine M.gtr_f (by omega) ?_ | refine M.geq_t (by omega) ?_ | refine M.geq_f (by omega) ?_ | refine M.eql_t (by omega) ?_ | refine M.eql_f (by omega) ?_ | refine M.neq_t (by omega) ?_ | refine M.neq_f (by omega) ?_ | refine M.add_i (by omega) (by omega) ?_ | refine M.sub_i (by omega) (by omega) ?_ | refine M.load_i (by assumption) ?_ | refine M.loadB_i (by assumption) rfl ?_ | refine M.st_i (by assumption) ?_ | refine M.stB_i (by assumption) rfl ?_ | refine M.gs_ff ?_ | refine M.gs_tt ?_ | refine M.gs_ft ?_ | refine M.gs_tf ?_ | refine M.stAll_i (by assumption) rfl ?_))
    rw [bad (.inr (.inl c1))]
    exact ⟨_, rfl, GI.nil _ _, k12⟩
  obtain ⟨⟨i1, i2⟩, i3, i4⟩ := i64_two c0 c1
  have mul2 : ∀ k w, k (vi (2 * v)) w → M.bin .mul (.int .i64 2) (.int .i64 v) k w := fun k w h => M.mul_i i1 i2 h
  (repeat (first | refine M.len_i ?_ | refine M.nilCheck_i ?_ | refine M.field_i ?_ | refine M.draw_i ?_ | refine M.cap_i ?_ | refine M.gd_tt ?_ | refine M.gd_ff ?_ | refine M.gd_ft ?_ | refine M.gd_tf ?_ | refine M.gd_u ?_ | refine M.pick_t ?_ | refine M.pick_f ?_ | refine M.not_t ?_ | refine M.not_f ?_ | refine M.cond_t ?_ | refine M.cond_f ?_ | refine M.eqNilP_tn ?_ | refine M.eqNilP_ts ?_ | refine M.eqNilP_fn ?_ | refine M.eqNilP_fs ?_ | refine M.eqNilS_tn ?_ | refine M.eqNilS_ts ?_ | refine M.eqNilS_fn ?_ | refine M.eqNilS_fs ?_ | refine M.lss_t (by omega) ?_ | refine M.lss_f (by omega) ?_ | refine M.leq_t (by omega) ?_ | refine M.leq_f (by omega) ?_ | refine M.gtr_t (by omega) ?_ | refine M.gtr_f (by omega) ?_ | refine M.geq_t (by omega) ?_ | refine M.geq_f (by omega) ?_ | refine M.eql_t (by omega) ?_ | refine M.eql_f (by omega) ?_ | refine M.neq_t (by omega) ?_ | refine M.neq_f (by omega) ?_ | refine M.add_i (by omega) (by omega) ?_ | refine M.sub_i (by omega) (by omega) ?_ | refine M.load_i (by assumption) ?_ | refine M.loadB_i (by assumption) rfl ?_ | refine M.st_i (by assumption) ?_ | refine M.stB_i (by assumption) rfl ?_ | refine M.gs_ff ?_ | refine M.gs_tt ?_ | refine M.gs_ft ?_ | refine M.gs_tf ?_ | refine M.stAll_i (by assumption) rfl ?_))
  refine mul2 _ _ ?_
  (repeat (first | refine M.len_i ?_ | refine M.nilCheck_i ?_ | refine M.field_i ?_ | refine M.draw_i ?_ | refine M.cap_i ?_ | refine M.gd_tt ?_ | refine M.gd_ff ?_ | refine M.gd_ft ?_ | refine M.gd_tf ?_ | refine M.gd_u ?_ | refine M.pick_t ?_ | refine M.pick_f ?_ | refine M.not_t ?_ | refine M.not_f ?_ | refine M.cond_t ?_ | refine M.cond_f ?_ | refine M.eqNilP_tn ?_ | refine M.eqNilP_ts ?_ | refine M.eqNilP_fn ?_ | refine M.eqNilP_fs ?_ | refine M.eqNilS_tn ?_ | refine M.eqNilS_ts ?_ | refine M.eqNilS_fn ?_ | refine M.eqNilS_fs ?_ | refine M.lss_t (by omega) ?_ | refine M.lss_f (by omega) ?_ | refine M.leq_t (by omega) ?_ | refine M.leq_f (by omega) ?_ | refine M.gtr_t (by omega) ?_ | refine M.gtr_f (by omega) ?_ | refine M.geq_t (by omega) ?_ | refine M.geq_f (by omega) ?_ | refine M.eql_t (by omega) ?_ | refine M.eql_f (by omega) ?_ | refine M.neq_t (by omega) ?_ | refine M.neq_f (by omega) ?_ | refine M.add_i (by omega) (by omega) ?_ | refine M.sub_i (by omega) (by omega) ?_ | refine M.load_i (by assumption) ?_ | refine M.loadB_i (by assumption) rfl ?_ | refine M.st_i (by assumption) ?_ | refine M.stB_i (by assumption) rfl ?_ | refine M.gs_ff ?_ | refine M.gs_tt ?_ | refine M.gs_ft ?_ | refine M.gs_tf ?_ | refine M.stAll_i (by assumption) rfl ?_))
  refine M.call_i (has_ret h1 (by omega) (2 * v)) ?_; rintro _ w3 ⟨rfl, k3⟩
  have h1 := h1.keep k3 (fun _ _ _ h => h)
  have h2 := h2.keep k3 (fun _ _ _ h => h)
  have k13 := k12.trans k3 (fun _ _ h => h)
  by_cases c2 : 2 * v ∈ a
  rotate_left
  · simp only [c2, decide_false]
    (repeat (first | refine M.len_i ?_ | refine M.nilCheck_i ?_ | refine M.field_i ?_ | refine M.draw_i ?_ | refine M.cap_i ?_ | refine M.gd_tt ?_ | refine M.gd_ff ?_ | refine M.gd_ft ?_ | refine M.gd_tf ?_ | refine M.gd_u ?_ | refine M.pick_t ?_ | refine M.pick_f ?_ | refine M.not_t ?_ | refine M.not_f ?_ | refine M.cond_t ?_ | refine M.cond_f ?_ | refine M.eqNilP_tn ?_ | refine M.eqNilP_ts ?_ | refine M.eqNilP_fn ?_ | refine M.eqNilP_fs ?_ | refine M.eqNilS_tn ?_ | refine M.eqNilS_ts ?_ | refine M.eqNilS_fn ?_ | refine M.eqNilS_fs ?_ | refine M.lss_t (by omega) ?_ | refine M.lss_f (by omega) ?_ | refine M.leq_t (by omega) ?_ | refine M.leq_f (by omega) ?_ | refine M.gtr_t (by omega) ?_ | refine M.gtr_f (by omega) ?_ | refine M.geq_t (by omega) ?_ | refine M.geq_f (by omega) ?_ | refine M.eql_t (by omega) ?_ | refine M.eql_f (by omega) ?_ | refine M.neq_t (by omega) ?_ | refine M.neq_f (by omega) ?_ | refine M.add_i (by omega) (by omega) ?_ | refine M.sub_i (by omega) (by omega) ?_ | refine M.load_i (by assumption) ?_ | refine M.loadB_i (by assumption) rfl ?_ | refine M.st_i (by assumption) ?_ | refine M.stB_i (by assumption) rfl ?_ | refine M.gs_ff ?_ | refine M.gs_tt ?_ | refine M.gs_ft ?_ | refine M.gs_tf ?_ | refine M.stAll_i (by assumption) rfl ?_))
    rw [bad (.inr (.inr (.inl c2)))]
    exact ⟨_, rfl, GI.nil _ _, k13⟩
  simp only [c2, decide_true]
  (repeat (first | refine M.len_i ?_ | refine M.nilCheck_i ?_ | refine M.field_i ?_ | refine M.draw_i ?_ | refine M.cap_i ?_ | refine M.gd_tt ?_ | refine M.gd_ff ?_ | refine M.gd_ft ?_ | refine M.gd_tf ?_ | refine M.gd_u ?_ | refine M.pick_t ?_ | refine M.pick_f ?_ | refine M.not_t ?_ | refine M.not_f ?_ | refine M.cond_t ?_ | refine M.cond_f ?_ | refine M.eqNilP_tn ?_ | refine M.eqNilP_ts ?_ | refine M.eqNilP_fn ?_ | refine M.eqNilP_fs ?_ | refine M.eqNilS_tn ?_ | refine M.eqNilS_ts ?_ | refine M.eqNilS_fn ?_ | refine M.eqNilS_fs ?_ | refine M.lss_t (by omega) ?_ | refine M.lss_f (by omega) ?_ | refine M.leq_t (by omega) ?_ | refine M.leq_f (by omega) ?_ | refine M.gtr_t (by omega) ?_ | refine M.gtr_f (by omega) ?_ | refine M.geq_t (by omega) ?_ | refine M.geq_f (by omega) ?_ | refine M.eql_t (by omega) ?_ | refine M.eql_f (by omega) ?_ | refine M.neq_t (by omega) ?_ | refine M.neq_f (by omega) ?_ | refine M.add_i (by omega) (by omega) ?_ | refine M.sub_i (by omega) (by omega) ?_ | refine M.load_i (by assumption) ?_ | refine M.loadB_i (by assumption) rfl ?_ | refine M.st_i (by assumption) ?_ | refine M.stB_i (by assumption) rfl ?_ | refine M.gs_ff ?_ | refine M.gs_tt ?_ | refine M.gs_ft ?_ | refine M.gs_tf ?_ | refine M.stAll_i (by assumption) rfl ?_))
  refine mul2 _ _ ?_
  (repeat (first | refine M.len_i ?_ | refine M.nilCheck_i ?_ | refine M.field_i ?_ | refine M.draw_i ?_ | refine M.cap_i ?_ | refine M.gd_tt ?_ | refine M.gd_ff ?_ | refine M.gd_ft ?_ | refine M.gd_tf ?_ | refine M.gd_u ?_ | refine M.pick_t ?_ | refine M.pick_f ?_ | refine M.not_t ?_ | refine M.not_f ?_ | refine M.cond_t ?_ | refine M.cond_f ?_ | refine M.eqNilP_tn ?_ | refine M.eqNilP_ts ?_ | refine M.eqNilP_fn ?_ | refine M.eqNilP_fs ?_ | refine M.eqNilS_tn ?_ | refine M.eqNilS_ts ?_ | refine M.eqNilS_fn ?_ | refine M.eqNilS_fs ?_ | refine M.lss_t (by omega) ?_ | refine M.lss_f (by omega) ?_ | refine M.leq_t (by omega) ?_ | refine M.leq_f (by omega) ?_ | refine M.gtr_t (by omega) ?_ | refine M.gtr_f (by omega) ?_ | refine M.geq_t (by omega) ?_ | refine M.geq_f (by omega) ?_ | refine M.eql_t (by omega) ?_ | refine M.eql_f (by omega) ?_ | refine M.neq_t (by omega) ?_ | refine M.neq_f (by omega) ?_ | refine M.add_i (by omega) (by omega) ?_ | refine M.sub_i (by omega) (by omega) ?_ | refine M.load_i (by assumption) ?_ | refine M.loadB_i (by assumption) rfl ?_ | refine M.st_i (by assumption) ?_ | refine M.stB_i (by assumption) rfl ?_ | refine M.gs_ff ?_ | refine M.gs_tt ?_ | refine M.gs_ft ?_ | refine M.gs_tf ?_ | refine M.stAll_i (by assumption) rfl ?_))
  refine M.call_i (has_ret h2 (by omega) (2 * v + 1)) ?_; rintro _ w4 ⟨rfl, k4⟩
  have h1 := h1.keep k4 (fun _ _ _ h => h)
  have h2 := h2.keep k4 (fun _ _ _ h => h)
  have k14 := k13.trans k4 (fun _ _ h => h)
  by_cases c3 : 2 * v + 1 ∈ b
  rotate_left
  · simp only [c3, decide_false]
    (repeat (first | refine M.len_i ?_ | refine M.nilCheck_i ?_ | refine M.field_i ?_ | refine M.draw_i ?_ | refine M.cap_i ?_ | refine M.gd_tt ?_ | refine M.gd_ff ?_ | refine M.gd_ft ?_ | refine M.gd_tf ?_ | refine M.gd_u ?_ | refine M.pick_t ?_ | refine M.pick_f ?_ | refine M.not_t ?_ | refine M.not_f ?_ | refine M.cond_t ?_ | refine M.cond_f ?_ | refine M.eqNilP_tn ?_ | refine M.eqNilP_ts ?_ | refine M.eqNilP_fn ?_ | refine M.eqNilP_fs ?_ | refine M.eqNilS_tn ?_ | refine M.eqNilS_ts ?_ | refine M.eqNilS_fn ?_ | refine M.eqNilS_fs ?_ | refine M.lss_t (by omega) ?_ | refine M.lss_f (by omega) ?_ | refine M.leq_t (by omega) ?_ | refine M.leq_f (by omega) ?_ | refine M.gtr_t (by omega) ?_ | refine M.gtr_f (by omega) ?_ | refine M.geq_t (by omega) ?_ | refine M.geq_f (by omega) ?_ | refine M.eql_t (by omega) ?_ | refine M.eql_f (by omega) ?_ | refine M.neq_t (by omega) ?_ | refine M.neq_f (by omega) ?_ | refine M.add_i (by omega) (by omega) ?_ | refine M.sub_i (by omega) (by omega) ?_ | refine M.load_i (by assumption) ?_ | refine M.loadB_i (by assumption) rfl ?_ | refine M.st_i (by assumption) ?_ | refine M.stB_i (by assumption) rfl ?_ | refine M.gs_ff ?_ | refine M.gs_tt ?_ | refine M.gs_ft ?_ | refine M.gs_tf ?_ | refine M.stAll_i (by assumption) rfl ?_))
    rw [bad (.inr (.inr (.inr c3)))]
    exact ⟨_, rfl, GI.nil _ _, k14⟩
  simp only [c3, decide_true]
  (repeat (first | refine M.len_i ?_ | refine M.nilCheck_i ?_ | refine M.field_i ?_ | refine M.draw_i ?_ | refine M.cap_i ?_ | refine M.gd_tt ?_ | refine M.gd_ff ?_ | refine M.gd_ft ?_ | refine M.gd_tf ?_ | refine M.gd_u ?_ | refine M.pick_t ?_ | refine M.pick_f ?_ | refine M.not_t ?_ | refine M.not_f ?_ | refine M.cond_t ?_ | refine M.cond_f ?_ | refine M.eqNilP_tn ?_ | refine M.eqNilP_ts ?_ | refine M.eqNilP_fn ?_ | refine M.eqNilP_fs ?_ | refine M.eqNilS_tn ?_ | refine M.eqNilS_ts ?_ | refine M.eqNilS_fn ?_ | refine M.eqNilS_fs ?_ | refine M.lss_t (by omega) ?_ | refine M.lss_f (by omega) ?_ | refine M.leq_t (by omega) ?_ | refine M.leq_f (by omega) ?_ | refine M.gtr_t (by omega) ?_ | refine M.gtr_f (by omega) ?_ | refine M.geq_t (by omega) ?_ | refine M.geq_f (by omega) ?_ | refine M.eql_t (by omega) ?_ | refine M.eql_f (by omega) ?_ | refine M.neq_t (by omega) ?_ | refine M.neq_f (by omega) ?_ | refine M.add_i (by omega) (by omega) ?_ | refine M.sub_i (by omega) (by omega) ?_ | refine M.load_i (by assumption) ?_ | refine M.loadB_i (by assumption) rfl ?_ | refine M.st_i (by assumption) ?_ | refine M.stB_i (by assumption) rfl ?_ | refine M.gs_ff ?_ | refine M.gs_tt ?_ | refine M.gs_ft ?_ | refine M.gs_tf ?_ | refine M.stAll_i (by assumption) rfl ?_))
  refine mul2 _ _ ?_
  refine M.call_i (but_ret h1 (by omega) (2 * v)) ?_; rintro o5 w5 ⟨g5, k5⟩
  have h2 := h2.keep k5 (fun _ _ _ h => h)
  refine mul2 _ _ ?_
  (repeat (first | refine M.len_i ?_ | refine M.nilCheck_i ?_ | refine M.field_i ?_ | refine M.draw_i ?_ | refine M.cap_i ?_ | refine M.gd_tt ?_ | refine M.gd_ff ?_ | refine M.gd_ft ?_ | refine M.gd_tf ?_ | refine M.gd_u ?_ | refine M.pick_t ?_ | refine M.pick_f ?_ | refine M.not_t ?_ | refine M.not_f ?_ | refine M.cond_t ?_ | refine M.cond_f ?_ | refine M.eqNilP_tn ?_ | refine M.eqNilP_ts ?_ | refine M.eqNilP_fn ?_ | refine M.eqNilP_fs ?_ | refine M.eqNilS_tn ?_ | refine M.eqNilS_ts ?_ | refine M.eqNilS_fn ?_ | refine M.eqNilS_fs ?_ | refine M.lss_t (by omega) ?_ | refine M.lss_f (by omega) ?_ | refine M.leq_t (by omega) ?_ | refine M.leq_f (by omega) ?_ | refine M.gtr_t (by omega) ?_ | refine M.gtr_f (by omega) ?_ | refine M.geq_t (by omega) ?_ | refine M.geq_f (by omega) ?_ | refine M.eql_t (by omega) ?_ | refine M.eql_f (by omega) ?_ | refine M.neq_t (by omega) ?_ | refine M.neq_f (by omega) ?_ | refine M.add_i (by omega) (by omega) ?_ | refine M.sub_i (by omega) (by omega) ?_ | refine M.load_i (by assumption) ?_ | refine M.loadB_i (by assumption) rfl ?_ | refine M.st_i (by assumption) ?_ | refine M.stB_i (by assumption) rfl ?_ | refine M.gs_ff ?_ | refine M.gs_tt ?_ | refine M.gs_ft ?_ | refine M.gs_tf ?_ | refine M.stAll_i (by assumption) rfl ?_))
  refine M.call_i (but_ret h2 (by omega) (2 * v + 1)) ?_; rintro o6 w6 ⟨g6, k6⟩
  have g5 := g5.keep k6 (fun _ _ _ h => h)
  have q4 := k14.size; have q5 := k5.size; have q6 := k6.size
  obtain ⟨A6, c6, rfl, r6, _⟩ := g6.lv
  have l1 := List.length_filter_le (decide <| · ≠ 2 * v) a
  have l2 := List.length_filter_le (decide <| · ≠ 2 * v + 1) b
  refine M.appendI_i rfl g5 r6 rfl (by omega) (fun v7 w7 g7 k7 => ?_)
  refine M.call_i (sorted_ret g7.lv (by simp only [List.length_append]; omega)) ?_; rintro o8 w8 ⟨g8, k8⟩
  have good : resD a b v = (srt (a.filter (decide <| · ≠ 2 * v) ++ b.filter (decide <| · ≠ 2 * v + 1)), 0) := by
    unfold resD; rw [if_neg (by omega), if_neg (by omega), if_neg]
    rintro (h | h | h | h)
    · exact c0 h
    · exact c1 h
    · exact h c2
    · exact h c3
  rw [good]
  have q7 := k7.size
  exact ⟨_, rfl, g8.mono (fun b hb h => by omega), (((k14.trans k5 (fun _ _ h => h)).trans k6 (fun _ _ h => h)).trans k7 (fun b hb h => by omega)).trans k8 (fun _ _ h => h)⟩
end Go.Proofs.Ytfkbacoiocniaaa
