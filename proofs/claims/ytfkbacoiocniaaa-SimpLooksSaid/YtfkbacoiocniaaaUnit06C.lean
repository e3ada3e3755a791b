import Derived.Test.YtfkbacoiocniaaaUnit06
namespace Go.Proofs.Ytfkbacoiocniaaa
open Go.Mw
set_option linter.unusedVariables false
set_option linter.unusedSimpArgs false
set_option maxRecDepth 100000
attribute [local irreducible] M.val M.unit M.next M.pick M.new M.nilCheck M.load1 M.loadA M.store M.fieldAddr M.indexSl M.indexArr M.slice M.makeSlice M.buildSlice M.len M.lenS M.cap M.append M.extract M.conv M.not M.neg M.bin M.shift M.eqB M.eqNil M.call M.callv M.gd M.share M.cond M.loop M.draw pureW readW Ret
/-! breakwater/unit.Close: function 64 -/
def sh64 (x0 x1 : Value) (R : Kt) (w : World) : Prop :=
  M.val Try.prog (Instr.makeMap 134 none) (fun t16 w =>
  M.len x1 (fun t18 w =>
  M.loop [(Value.int IntKind.i64 0)] (fun s1 K1 w => ∀ _ : List Value,
  M.bin .lss (s1.getD 0 undef) t18 (fun t20 w =>
  M.cond t20
  (M.indexSl 1 x1 (s1.getD 0 undef) (fun t21 w =>
  M.load1 t21 (fun t22 w =>
  M.bin .geq t22 (Value.int IntKind.i64 0) (fun t24 w =>
  M.gd t24 true (fun k w => k t16 w) (fun t26 w =>
  M.gd t24 true (fun k w => k t22 w) (fun t27 w =>
  M.gd t24 true (fun k w => M.call Try.prog 103 #[t26, t27] k w) (fun t28 w =>
  M.gd t24 true (fun k w => M.not t28 k w) (fun t29 w =>
  M.pick t24 t29 (Value.bool false) (fun t30 w =>
  M.cond t30
  (R (.tuple #[(Value.slice none 0 0), (Value.bool false)]) w)
  (M.bin .add (s1.getD 0 undef) (Value.int IntKind.i64 1) (fun t31 w =>
  K1 [t31] w) w)) w) w) w) w) w) w) w) w)
  (M.loop [] (fun s2 K2 w => ∀ _ : List Value,
  M.len x0 (fun t33 w =>
  M.loop [(Value.int IntKind.i64 0)] (fun s3 K3 w => ∀ _ : List Value,
  M.bin .lss (s3.getD 0 undef) t33 (fun t35 w =>
  M.cond t35
  (M.indexSl 1 x0 (s3.getD 0 undef) (fun t36 w =>
  M.load1 t36 (fun t37 w =>
  M.call Try.prog 104 #[t16, t37] (fun t41 w =>
  M.extract 0 t41 (fun t42 w =>
  M.extract 1 t41 (fun t43 w =>
  M.extract 2 t41 (fun t44 w =>
  M.gd t44 false (fun k w => k t43 w) (fun t48 w =>
  M.gd t44 false (fun k w => M.bin .gtr t48 (Value.int IntKind.i64 1) k w) (fun t49 w =>
  M.pick t44 (Value.bool true) t49 (fun t50 w =>
  M.cond t50
  (M.bin .add (s3.getD 0 undef) (Value.int IntKind.i64 1) (fun t60 w =>
  K3 [t60] w) w)
  (M.bin .eql t43 (Value.int IntKind.i64 0) (fun t53 w =>
  M.gd t53 false (fun k w => k t16 w) (fun t55 w =>
  M.gd t53 false (fun k w => k t42 w) (fun t56 w =>
  M.gd t53 false (fun k w => M.call Try.prog 103 #[t55, t56] k w) (fun t57 w =>
  M.gd t53 false (fun k w => M.not t57 k w) (fun t58 w =>
  M.pick t53 (Value.bool true) t58 (fun t59 w =>
  M.cond t59
  (R (.tuple #[(Value.slice none 0 0), (Value.bool false)]) w)
  (K2 [] w)) w) w) w) w) w) w)) w) w) w) w) w) w) w) w) w)
  (M.val Try.prog (Instr.range 134 t16) (fun t62 w =>
  M.loop [(Value.slice none 0 0)] (fun s4 K4 w => ∀ _ : List Value,
  M.val Try.prog (Instr.next t62 false 0) (fun t63 w =>
  M.extract 0 t63 (fun t64 w =>
  M.cond t64
  (M.val Try.prog (Instr.entry t62) (fun t65 w =>
  M.extract 0 t65 (fun t66 w =>
  M.buildSlice 3 1 #[.int .i64 0] 1 [(0, t66)] (fun t69 w =>
  M.append 3 1 8 #[.int .i64 0] (s4.getD 0 undef) t69 (fun t70 w =>
  K4 [t70] w) w) w) w) w)
  (M.call Try.prog 48 #[(s4.getD 0 undef)] (fun t72 w =>
  R (.tuple #[(s4.getD 0 undef), (Value.bool true)]) w) w)) w) w) w) w)) w) w) w) w)) w) w) w) w
theorem ok64 (x0 x1 : Value) (R : Kt) (w : World) (h : sh64 x0 x1 R w) : Ret Try.prog 64 #[x0, x1] w R :=
  ret_mk <| calls_of_comp mixed (c := Try.f64.body.getD .skip) (args := [x0, x1]) (rs := [(ResultVar.tmp 4), (ResultVar.tmp 5)]) (Ann.seq Ann.text (Ann.scope [] [4, 5, 10, 11, 12, 13, 14, 15, 32, 33, 34, 35, 36, 37, 38, 39, 40, 41, 42, 43, 44, 45, 46, 47, 48, 49, 50, 51, 52, 53, 54, 55, 56, 57, 58, 59, 60, 61, 62, 63, 64, 65, 66, 67, 68, 69, 70, 71, 72, 73] Ann.text (Ann.seq Ann.text (Ann.block (Ann.loop [19] [4, 5, 8, 20, 21, 22, 23, 24, 25, 26, 27, 28, 29, 30, 31] (Ann.seq Ann.text (Ann.seq (Ann.cond Ann.leaf Ann.leaf) (Ann.seq (Ann.block (Ann.seq Ann.text (Ann.seq Ann.text (Ann.cond (Ann.seq Ann.text Ann.leaf) Ann.leaf)))) Ann.text)))))) (Ann.seq (Ann.seq Ann.text (Ann.block (Ann.loop [34] [4, 5, 10, 11, 12, 13, 35, 36, 37, 38, 39, 40, 41, 42, 43, 44, 45, 46, 47, 48, 49, 50, 51, 52, 53, 54, 55, 56, 57, 58, 59, 60] (Ann.seq Ann.text (Ann.seq (Ann.cond Ann.leaf Ann.leaf) (Ann.seq (Ann.block (Ann.seq Ann.text (Ann.seq Ann.text (Ann.block (Ann.seq Ann.text (Ann.cond Ann.leaf (Ann.seq Ann.text (Ann.cond (Ann.seq Ann.text Ann.leaf) Ann.leaf)))))))) Ann.text)))))) (Ann.seq Ann.text (Ann.seq (Ann.seq Ann.text (Ann.block (Ann.loop [14] [15, 63, 64, 65, 66, 67, 68, 69, 70] (Ann.seq Ann.text (Ann.seq (Ann.cond Ann.leaf Ann.leaf) (Ann.block (Ann.seq Ann.text Ann.text))))))) (Ann.seq Ann.text (Ann.seq Ann.text Ann.leaf)))))))
    Try.func64 (by kernel_rfl) (by kernel_rfl)
    (Eq.mp (by kernel_rfl) h)

/-- A list of lists that is read. -/
structure LLr (w : World) (D : Nat → Prop) (A : Option Addr) (vs : List Value) (l : List (List Int)) : Prop where
  row : Row w D A vs
  len : vs.length = l.length
  all : ∀ (i : Nat) c, l[i]? = some c → ∃ u, vs[i]? = some u ∧ LV vi w D u c
def LL (w : World) (D : Nat → Prop) (v : Value) (l : List (List Int)) : Prop := ∃ A c vs, v = .slice A l.length c ∧ LLr w D A vs l ∧ l.length ≤ c
theorem LLr.keep {w w' : World} {D S : Nat → Prop} {A : Option Addr} {vs : List Value} {l : List (List Int)} (h : LLr w D A vs l) (k : Keep w w' S) (hs : ∀ b, b < w.heap.size → D b → ¬ S b) : LLr w' D A vs l :=
  ⟨h.row.keep k hs, h.len, fun i c hc => by obtain ⟨u, g1, g2⟩ := h.all i c hc; exact ⟨u, g1, g2.keep k hs⟩⟩
theorem LL.keep {w w' : World} {D S : Nat → Prop} {v : Value} {l : List (List Int)} (h : LL w D v l) (k : Keep w w' S) (hs : ∀ b, b < w.heap.size → D b → ¬ S b) : LL w' D v l := by
  obtain ⟨A, c, vs, h1, h2, h3⟩ := h
  exact ⟨A, c, vs, h1, h2.keep k hs, h3⟩
theorem M.idxLL_i {k : Kt} {w : World} {D : Nat → Prop} {A : Option Addr} {vs : List Value} {l : List (List Int)} {n cc : Nat} {d : IntKind} {i : Int} (h : LLr w D A vs l) (hn : l.length = n) (h0 : 0 ≤ i) {c : List Int} (hc : l[i.toNat]? = some c)
    (hk : ∀ b o u, w.cell? ⟨b, o + i.toNat, none⟩ = some u → LV vi w D u c → k (.pointer (some ⟨b, o + i.toNat, none⟩)) w) : M.indexSl 1 (.slice A n cc) (.int d i) k w := by
  obtain ⟨u, g1, g2⟩ := h.all _ _ hc
  have hlt := (List.getElem?_eq_some_iff.1 hc).1
  refine M.idxRow_i h.row (by rw [h.len, hn]) h0 (by omega) (fun b o hA hcc => hk b o u ?_ g2)
  rw [hcc, g1]
/-- How many literals: so that no list grows too long. -/
def FewL (l : List (List Int)) (set : List Int) : Prop := (l.flatten ++ set).length ≤ 100000000
theorem univ_few {l : List (List Int)} {set : List Int} (h : FewL l set) : (univ l set).length ≤ 100000000 := Nat.le_trans (len_srt _) h
theorem leftU_nil (l : List (List Int)) (set : List Int) : leftU l set [] = (univ l set).length := by
  unfold leftU
  rw [List.filter_eq_self.2]
  simp
structure Ok (l : List (List Int)) (set s : List Int) : Prop where
  stp : Stp l set s
  few : s.length + leftU l set s ≤ (univ l set).length
theorem addS_len {l : List (List Int)} {set s : List Int} {x : Int} (hx : x ∈ univ l set) (h : s.length + leftU l set s ≤ (univ l set).length) : (addS s x).length + leftU l set (addS s x) ≤ (univ l set).length := by
  by_cases hs : x ∈ s
  · have : addS s x = s := by unfold addS; rw [if_pos hs]
    rw [this]; exact h
  · have h1 := leftU_lt (s' := addS s x) hx hs (fun y => mem_addS)
    have h2 : (addS s x).length = s.length + 1 := by unfold addS; rw [if_neg hs]; simp
    omega
theorem Ok.add {l : List (List Int)} {set s c : List Int} {x : Int} (h : Ok l set s) (hc : c ∈ l) (hh : heldC s c = false) (hx : x ∈ openC s c) (ho : ∀ y ∈ openC s c, y = x) : Ok l set (addS s x) ∧ notOf x ∉ addS s x ∧ leftU l set (addS s x) < leftU l set s := by
  obtain ⟨h1, h2, h3, h4⟩ := h.stp.add hc hh hx ho
  refine ⟨⟨h.stp.push (fun y => mem_addS) h1 h2, addS_len (fol_univ h1) h.few⟩, ?_, leftU_lt (fol_univ h1) h3 (fun y => mem_addS)⟩
  rw [mem_addS]
  rintro (e | e)
  · exact notOf_ne h4 e
  · exact h2 e
theorem keys_nodup {w : World} {r : Nat} {s : List Int} (h : SetO w r s) : s.Nodup := by
  obtain ⟨es, c, h1, h2, h3⟩ := h
  have := keys_of h3
  have hn := h2.2.2
  rw [this, List.map_map] at hn
  rw [List.Nodup, List.pairwise_map] at hn
  exact hn.imp (fun h e => h (by rw [e]))
set_option maxHeartbeats 2000000 in
theorem close_ret {w : World} {D D' : Nat → Prop} {u v : Value} {l : List (List Int)} {set : List Int} (hl : LL w D u l) (hs : LV vi w D' v set) (hf : FewL l set) (hfl : Few l.length) (hI : ∀ c ∈ l, ∀ x ∈ c, I64 x) (hJ : ∀ x ∈ set, I64 x) :
    Ret Try.prog 64 #[u, v] w (fun r w' => ∃ o out k, r = .tuple #[o, .bool k] ∧ CloseR l set out k ∧ GI w' (w.heap.size ≤ ·) o out ∧ Keep w w' No) := by
  obtain ⟨A, cp, vs, rfl, hl, _⟩ := hl
  obtain ⟨B, cq, rfl, hr, _⟩ := hs
  have hfew := hf
  unfold FewL at hfew
  rw [List.length_append] at hfew
  have hfc : ∀ c ∈ l, Few c.length := fun c hc => by
    have : c.length ≤ l.flatten.length := List.Sublist.length_le (List.sublist_flatten_of_mem hc)
    omega
  have hU := univ_few hf
  refine ok64 _ _ _ _ ?_
  unfold sh64
  refine M.makeMap_i (fun w1 hm k1 s1 => ?_)
  (repeat (first | refine M.len_i ?_ | refine M.nilCheck_i ?_ | refine M.field_i ?_ | refine M.draw_i ?_ | refine M.cap_i ?_ | refine M.gd_tt ?_ | refine M.gd_ff ?_ | refine M.gd_ft ?_ | refine M.gd_tf ?_ | refine M.gd_u ?_ | refine M.pick_t ?_ | refine M.pick_f ?_ | refine M.not_t ?_ | refine M.not_f ?_ | refine M.cond_t ?_ | refine M.cond_f ?_ | refine M.eqNilP_tn ?_ | refine M.eqNilP_ts ?_ | refine M.eqNilP_fn ?_ | refine M.eqNilP_fs ?_ | refine M.eqNilS_tn ?_ | refine M.eqNilS_ts ?_ | refine M.eqNilS_fn ?_ | refine M.eqNilS_fs ?_ | refine M.lss_t (by omega) ?_ | refine M.lss_f (by omega) ?_ | refine M.leq_t (by omega) ?_ | refine M.leq_f (by omega) ?_ | refine M.gtr_t (by omega) ?_ | refine M.gtr_f (by omega) ?_ | refine M.geq_t (by omega) ?_ | refine M.geq_f (by omega) ?_ | refine M.eql_t (by omega) ?_ | refine M.eql_f (by omega) ?_ | refine M.neq_t (by omega) ?_ | refine M.neq_f (by omega) ?_ | refine M.add_i (by omega) (by omega) ?_ | refine M.sub_i (by omega) (by omega) ?_ | refine M.load_i (by assumption) ?_ | refine M.loadB_i (by assumption) rfl ?_ | refine M.st_i (by assumption) ?_ | refine M.stB_i (by assumption) rfl ?_ | refine M.gs_ff ?_ | refine M.gs_tt ?_ | refine M.gs_ft ?_ | refine M.gs_tf ?_ | refine M.stAll_i (by assumption) rfl ?_))
  refine M.loop_i (σ := Nat × List Int) (fun t vals w' => vals = [vi t.1] ∧ t.1 ≤ set.length ∧ SetO w' w.heap.size t.2 ∧ (∀ y, y ∈ t.2 ↔ y ∈ set.take t.1 ∧ ¬ y < 0) ∧ (∀ x ∈ t.2, notOf x ∉ t.2) ∧ t.2.length + leftU l set t.2 ≤ (univ l set).length ∧ Keep w w' No) (fun t => set.length - t.1) (0, [])
    ⟨rfl, by show 0 ≤ set.length; omega, hm, by simp, by simp, by rw [leftU_nil]; simp, k1⟩ ?_
  rintro ⟨i, s⟩ vals w2 K ⟨rfl, hi, hm, hmem, hcons, hlen, k2⟩ hK _
  simp only at hi hm hmem hcons hlen
  simp only [List.getD_cons_zero, List.getD_cons_succ]
  by_cases hlt : i < set.length
  · obtain ⟨x, hx⟩ : ∃ x, set[i]? = some x := ⟨_, List.getElem?_eq_getElem hlt⟩
    have hr := hr.keep k2 (fun _ _ _ h => h)
    (repeat (first | refine M.len_i ?_ | refine M.nilCheck_i ?_ | refine M.field_i ?_ | refine M.draw_i ?_ | refine M.cap_i ?_ | refine M.gd_tt ?_ | refine M.gd_ff ?_ | refine M.gd_ft ?_ | refine M.gd_tf ?_ | refine M.gd_u ?_ | refine M.pick_t ?_ | refine M.pick_f ?_ | refine M.not_t ?_ | refine M.not_f ?_ | refine M.cond_t ?_ | refine M.cond_f ?_ | refine M.eqNilP_tn ?_ | refine M.eqNilP_ts ?_ | refine M.eqNilP_fn ?_ | refine M.eqNilP_fs ?_ | refine M.eqNilS_tn ?_ | refine M.eqNilS_ts ?_ | refine M.eqNilS_fn ?_ | refine M.eqNilS_fs ?_ | refine M.lss_t (by omega) ?_ | refine M.lss_f (by omega) ?_ | refine M.leq_t (by omega) ?_ | refine M.leq_f (by omega) ?_ | refine M.gtr_t (by omega) ?_ | refine M.gtr_f (by omega) ?_ | refine M.geq_t (by omega) ?_ | refine M.geq_f (by omega) ?_ | refine M.eql_t (by omega) ?_ | refine M.eql_f (by omega) ?_ | refine M.neq_t (by omega) ?_ | refine M.neq_f (by omega) ?_ | refine M.add_i (by omega) (by omega) ?_ | refine M.sub_i (by omega) (by omega) ?_ | refine M.load_i (by assumption) ?_ | refine M.loadB_i (by assumption) rfl ?_ | refine M.st_i (by assumption) ?_ | refine M.stB_i (by assumption) rfl ?_ | refine M.gs_ff ?_ | refine M.gs_tt ?_ | refine M.gs_ft ?_ | refine M.gs_tf ?_ | refine M.stAll_i (by assumption) rfl ?_))
    refine M.idxLV_i hr rfl (by omega) (by omega) (x := x) (by simpa using hx) (fun bb oo hA hcc => ?_)
    (repeat (first | refine M.len_i ?_ | refine M.nilCheck_i ?_ | refine M.field_i ?_ | refine M.draw_i ?_ | refine M.cap_i ?_ | refine M.gd_tt ?_ | refine M.gd_ff ?_ | refine M.gd_ft ?_ | refine M.gd_tf ?_ | refine M.gd_u ?_ | refine M.pick_t ?_ | refine M.pick_f ?_ | refine M.not_t ?_ | refine M.not_f ?_ | refine M.cond_t ?_ | refine M.cond_f ?_ | refine M.eqNilP_tn ?_ | refine M.eqNilP_ts ?_ | refine M.eqNilP_fn ?_ | refine M.eqNilP_fs ?_ | refine M.eqNilS_tn ?_ | refine M.eqNilS_ts ?_ | refine M.eqNilS_fn ?_ | refine M.eqNilS_fs ?_ | refine M.lss_t (by omega) ?_ | refine M.lss_f (by omega) ?_ | refine M.leq_t (by omega) ?_ | refine M.leq_f (by omega) ?_ | refine M.gtr_t (by omega) ?_ | refine M.gtr_f (by omega) ?_ | refine M.geq_t (by omega) ?_ | refine M.geq_f (by omega) ?_ | refine M.eql_t (by omega) ?_ | refine M.eql_f (by omega) ?_ | refine M.neq_t (by omega) ?_ | refine M.neq_f (by omega) ?_ | refine M.add_i (by omega) (by omega) ?_ | refine M.sub_i (by omega) (by omega) ?_ | refine M.load_i (by assumption) ?_ | refine M.loadB_i (by assumption) rfl ?_ | refine M.st_i (by assumption) ?_ | refine M.stB_i (by assumption) rfl ?_ | refine M.gs_ff ?_ | refine M.gs_tt ?_ | refine M.gs_ft ?_ | refine M.gs_tf ?_ | refine M.stAll_i (by assumption) rfl ?_))
    by_cases h0 : x < 0
    · (repeat (first | refine M.len_i ?_ | refine M.nilCheck_i ?_ | refine M.field_i ?_ | refine M.draw_i ?_ | refine M.cap_i ?_ | refine M.gd_tt ?_ | refine M.gd_ff ?_ | refine M.gd_ft ?_ | refine M.gd_tf ?_ | refine M.gd_u ?_ | refine M.pick_t ?_ | refine M.pick_f ?_ | refine M.not_t ?_ | refine M.not_f ?_ | refine M.cond_t ?_ | refine M.cond_f ?_ | refine M.eqNilP_tn ?_ | refine M.eqNilP_ts ?_ | refine M.eqNilP_fn ?_ | refine M.eqNilP_fs ?_ | refine M.eqNilS_tn ?_ | refine M.eqNilS_ts ?_ | refine M.eqNilS_fn ?_ | refine M.eqNilS_fs ?_ | refine M.lss_t (by omega) ?_ | refine M.lss_f (by omega) ?_ | refine M.leq_t (by omega) ?_ | refine M.leq_f (by omega) ?_ | refine M.gtr_t (by omega) ?_ | refine M.gtr_f (by omega) ?_ | refine M.geq_t (by omega) ?_ | refine M.geq_f (by omega) ?_ | refine M.eql_t (by omega) ?_ | refine M.eql_f (by omega) ?_ | refine M.neq_t (by omega) ?_ | refine M.neq_f (by omega) ?_ | refine M.add_i (by omega) (by omega) ?_ | refine M.sub_i (by omega) (by omega) ?_ | refine M.load_i (by assumption) ?_ | refine M.loadB_i (by assumption) rfl ?_ | refine M.st_i (by assumption) ?_ | refine M.stB_i (by assumption) rfl ?_ | refine M.gs_ff ?_ | refine M.gs_tt ?_ | refine M.gs_ft ?_ | refine M.gs_tf ?_ | refine M.stAll_i (by assumption) rfl ?_))
      refine hK (i + 1, s) _ _ (by show set.length - (i + 1) < set.length - i; omega) ⟨by simp, by show i + 1 ≤ set.length; omega, hm, fun y => ?_, hcons, hlen, k2⟩
      rw [hmem, mem_take_succ hx]
      constructor
      · rintro ⟨h1, h2⟩; exact ⟨.inl h1, h2⟩
      · rintro ⟨h1 | h1, h2⟩
        · exact ⟨h1, h2⟩
        · exact absurd (h1 ▸ h0) h2
    · have hxm : x ∈ set := List.mem_of_getElem? hx
      (repeat (first | refine M.len_i ?_ | refine M.nilCheck_i ?_ | refine M.field_i ?_ | refine M.draw_i ?_ | refine M.cap_i ?_ | refine M.gd_tt ?_ | refine M.gd_ff ?_ | refine M.gd_ft ?_ | refine M.gd_tf ?_ | refine M.gd_u ?_ | refine M.pick_t ?_ | refine M.pick_f ?_ | refine M.not_t ?_ | refine M.not_f ?_ | refine M.cond_t ?_ | refine M.cond_f ?_ | refine M.eqNilP_tn ?_ | refine M.eqNilP_ts ?_ | refine M.eqNilP_fn ?_ | refine M.eqNilP_fs ?_ | refine M.eqNilS_tn ?_ | refine M.eqNilS_ts ?_ | refine M.eqNilS_fn ?_ | refine M.eqNilS_fs ?_ | refine M.lss_t (by omega) ?_ | refine M.lss_f (by omega) ?_ | refine M.leq_t (by omega) ?_ | refine M.leq_f (by omega) ?_ | refine M.gtr_t (by omega) ?_ | refine M.gtr_f (by omega) ?_ | refine M.geq_t (by omega) ?_ | refine M.geq_f (by omega) ?_ | refine M.eql_t (by omega) ?_ | refine M.eql_f (by omega) ?_ | refine M.neq_t (by omega) ?_ | refine M.neq_f (by omega) ?_ | refine M.add_i (by omega) (by omega) ?_ | refine M.sub_i (by omega) (by omega) ?_ | refine M.load_i (by assumption) ?_ | refine M.loadB_i (by assumption) rfl ?_ | refine M.st_i (by assumption) ?_ | refine M.stB_i (by assumption) rfl ?_ | refine M.gs_ff ?_ | refine M.gs_tt ?_ | refine M.gs_ft ?_ | refine M.gs_tf ?_ | refine M.stAll_i (by assumption) rfl ?_))
      refine M.call_i (add_ret hm (hJ x hxm)) ?_; rintro _ w3 ⟨rfl, hm3, k3⟩
      have k23 : Keep w w3 No := k2.trans k3 (fun b hb h => by omega)
      have hmem' : ∀ y, y ∈ addS s x ↔ y ∈ set.take (i + 1) ∧ ¬ y < 0 := fun y => by
        rw [mem_addS, hmem, mem_take_succ hx]
        constructor
        · rintro (rfl | ⟨h1, h2⟩)
          · exact ⟨.inr rfl, h0⟩
          · exact ⟨.inl h1, h2⟩
        · rintro ⟨h1 | h1, h2⟩
          · exact .inr ⟨h1, h2⟩
          · exact .inl h1
      by_cases hn : notOf x ∈ addS s x
      · simp only [hn, not_true_eq_false, decide_false]
        (repeat (first | refine M.len_i ?_ | refine M.nilCheck_i ?_ | refine M.field_i ?_ | refine M.draw_i ?_ | refine M.cap_i ?_ | refine M.gd_tt ?_ | refine M.gd_ff ?_ | refine M.gd_ft ?_ | refine M.gd_tf ?_ | refine M.gd_u ?_ | refine M.pick_t ?_ | refine M.pick_f ?_ | refine M.not_t ?_ | refine M.not_f ?_ | refine M.cond_t ?_ | refine M.cond_f ?_ | refine M.eqNilP_tn ?_ | refine M.eqNilP_ts ?_ | refine M.eqNilP_fn ?_ | refine M.eqNilP_fs ?_ | refine M.eqNilS_tn ?_ | refine M.eqNilS_ts ?_ | refine M.eqNilS_fn ?_ | refine M.eqNilS_fs ?_ | refine M.lss_t (by omega) ?_ | refine M.lss_f (by omega) ?_ | refine M.leq_t (by omega) ?_ | refine M.leq_f (by omega) ?_ | refine M.gtr_t (by omega) ?_ | refine M.gtr_f (by omega) ?_ | refine M.geq_t (by omega) ?_ | refine M.geq_f (by omega) ?_ | refine M.eql_t (by omega) ?_ | refine M.eql_f (by omega) ?_ | refine M.neq_t (by omega) ?_ | refine M.neq_f (by omega) ?_ | refine M.add_i (by omega) (by omega) ?_ | refine M.sub_i (by omega) (by omega) ?_ | refine M.load_i (by assumption) ?_ | refine M.loadB_i (by assumption) rfl ?_ | refine M.st_i (by assumption) ?_ | refine M.stB_i (by assumption) rfl ?_ | refine M.gs_ff ?_ | refine M.gs_tt ?_ | refine M.gs_ft ?_ | refine M.gs_tf ?_ | refine M.stAll_i (by assumption) rfl ?_))
        have : Bot l set := bot_start hxm (List.mem_of_mem_take ((hmem' _).1 hn).1) h0
        exact ⟨_, [], false, rfl, CloseR.no this, GI.nil _ _, k23⟩
      · simp only [hn, not_false_eq_true, decide_true]
        (repeat (first | refine M.len_i ?_ | refine M.nilCheck_i ?_ | refine M.field_i ?_ | refine M.draw_i ?_ | refine M.cap_i ?_ | refine M.gd_tt ?_ | refine M.gd_ff ?_ | refine M.gd_ft ?_ | refine M.gd_tf ?_ | refine M.gd_u ?_ | refine M.pick_t ?_ | refine M.pick_f ?_ | refine M.not_t ?_ | refine M.not_f ?_ | refine M.cond_t ?_ | refine M.cond_f ?_ | refine M.eqNilP_tn ?_ | refine M.eqNilP_ts ?_ | refine M.eqNilP_fn ?_ | refine M.eqNilP_fs ?_ | refine M.eqNilS_tn ?_ | refine M.eqNilS_ts ?_ | refine M.eqNilS_fn ?_ | refine M.eqNilS_fs ?_ | refine M.lss_t (by omega) ?_ | refine M.lss_f (by omega) ?_ | refine M.leq_t (by omega) ?_ | refine M.leq_f (by omega) ?_ | refine M.gtr_t (by omega) ?_ | refine M.gtr_f (by omega) ?_ | refine M.geq_t (by omega) ?_ | refine M.geq_f (by omega) ?_ | refine M.eql_t (by omega) ?_ | refine M.eql_f (by omega) ?_ | refine M.neq_t (by omega) ?_ | refine M.neq_f (by omega) ?_ | refine M.add_i (by omega) (by omega) ?_ | refine M.sub_i (by omega) (by omega) ?_ | refine M.load_i (by assumption) ?_ | refine M.loadB_i (by assumption) rfl ?_ | refine M.st_i (by assumption) ?_ | refine M.stB_i (by assumption) rfl ?_ | refine M.gs_ff ?_ | refine M.gs_tt ?_ | refine M.gs_ft ?_ | refine M.gs_tf ?_ | refine M.stAll_i (by assumption) rfl ?_))
        refine hK (i + 1, addS s x) _ _ (by show set.length - (i + 1) < set.length - i; omega) ⟨by simp, by show i + 1 ≤ set.length; omega, hm3, hmem', ?_, addS_len (fol_univ (.base x hxm h0)) hlen, k23⟩
        intro y hy hny
        have hny : notOf y ∈ addS s x := hny
        have hy : y ∈ addS s x := hy
        rcases mem_addS.1 hny with e | h3
        · rcases mem_addS.1 hy with h4 | h4
          · exact notOf_ne h0 (by rw [h4] at e; exact e)
          · exact hn (mem_addS.2 (.inr (by rw [← e, notOf_notOf]; exact h4)))
        · rcases mem_addS.1 hy with h4 | h4
          · exact hn (mem_addS.2 (.inr (by rw [h4] at h3; exact h3)))
          · exact hcons y h4 h3
  · have : i = set.length := by omega
    subst this
    rw [List.take_length] at hmem
    have hok : Ok l set s := ⟨stp_start hmem hcons, hlen⟩
    clear hmem hcons hlen hlt hK
    (repeat (first | refine M.len_i ?_ | refine M.nilCheck_i ?_ | refine M.field_i ?_ | refine M.draw_i ?_ | refine M.cap_i ?_ | refine M.gd_tt ?_ | refine M.gd_ff ?_ | refine M.gd_ft ?_ | refine M.gd_tf ?_ | refine M.gd_u ?_ | refine M.pick_t ?_ | refine M.pick_f ?_ | refine M.not_t ?_ | refine M.not_f ?_ | refine M.cond_t ?_ | refine M.cond_f ?_ | refine M.eqNilP_tn ?_ | refine M.eqNilP_ts ?_ | refine M.eqNilP_fn ?_ | refine M.eqNilP_fs ?_ | refine M.eqNilS_tn ?_ | refine M.eqNilS_ts ?_ | refine M.eqNilS_fn ?_ | refine M.eqNilS_fs ?_ | refine M.lss_t (by omega) ?_ | refine M.lss_f (by omega) ?_ | refine M.leq_t (by omega) ?_ | refine M.leq_f (by omega) ?_ | refine M.gtr_t (by omega) ?_ | refine M.gtr_f (by omega) ?_ | refine M.geq_t (by omega) ?_ | refine M.geq_f (by omega) ?_ | refine M.eql_t (by omega) ?_ | refine M.eql_f (by omega) ?_ | refine M.neq_t (by omega) ?_ | refine M.neq_f (by omega) ?_ | refine M.add_i (by omega) (by omega) ?_ | refine M.sub_i (by omega) (by omega) ?_ | refine M.load_i (by assumption) ?_ | refine M.loadB_i (by assumption) rfl ?_ | refine M.st_i (by assumption) ?_ | refine M.stB_i (by assumption) rfl ?_ | refine M.gs_ff ?_ | refine M.gs_tt ?_ | refine M.gs_ft ?_ | refine M.gs_tf ?_ | refine M.stAll_i (by assumption) rfl ?_))
    refine M.loop_i (σ := List Int) (fun s vals w' => vals = [] ∧ SetO w' w.heap.size s ∧ Ok l set s ∧ Keep w w' No) (fun s => leftU l set s) s ⟨rfl, hm, hok, k2⟩ ?_
    rintro s vals w3 K2 ⟨rfl, hm, hok, k3⟩ hK2 _
    (repeat (first | refine M.len_i ?_ | refine M.nilCheck_i ?_ | refine M.field_i ?_ | refine M.draw_i ?_ | refine M.cap_i ?_ | refine M.gd_tt ?_ | refine M.gd_ff ?_ | refine M.gd_ft ?_ | refine M.gd_tf ?_ | refine M.gd_u ?_ | refine M.pick_t ?_ | refine M.pick_f ?_ | refine M.not_t ?_ | refine M.not_f ?_ | refine M.cond_t ?_ | refine M.cond_f ?_ | refine M.eqNilP_tn ?_ | refine M.eqNilP_ts ?_ | refine M.eqNilP_fn ?_ | refine M.eqNilP_fs ?_ | refine M.eqNilS_tn ?_ | refine M.eqNilS_ts ?_ | refine M.eqNilS_fn ?_ | refine M.eqNilS_fs ?_ | refine M.lss_t (by omega) ?_ | refine M.lss_f (by omega) ?_ | refine M.leq_t (by omega) ?_ | refine M.leq_f (by omega) ?_ | refine M.gtr_t (by omega) ?_ | refine M.gtr_f (by omega) ?_ | refine M.geq_t (by omega) ?_ | refine M.geq_f (by omega) ?_ | refine M.eql_t (by omega) ?_ | refine M.eql_f (by omega) ?_ | refine M.neq_t (by omega) ?_ | refine M.neq_f (by omega) ?_ | refine M.add_i (by omega) (by omega) ?_ | refine M.sub_i (by omega) (by omega) ?_ | refine M.load_i (by assumption) ?_ | refine M.loadB_i (by assumption) rfl ?_ | refine M.st_i (by assumption) ?_ | refine M.stB_i (by assumption) rfl ?_ | refine M.gs_ff ?_ | refine M.gs_tt ?_ | refine M.gs_ft ?_ | refine M.gs_tf ?_ | refine M.stAll_i (by assumption) rfl ?_))
    refine M.loop_i (σ := Nat) (fun j vals w' => vals = [vi j] ∧ j ≤ l.length ∧ SetO w' w.heap.size s ∧ (∀ c ∈ l.take j, heldC s c = true ∨ ∃ x y, x ∈ openC s c ∧ y ∈ openC s c ∧ x ≠ y) ∧ Keep w w' No) (fun j => l.length - j) 0
      ⟨rfl, by omega, hm, by simp, k3⟩ ?_
    rintro j vals w4 K3 ⟨rfl, hj, hm, hd, k4⟩ hK3 _
    simp only [List.getD_cons_zero, List.getD_cons_succ]
    by_cases hlt : j < l.length
    · obtain ⟨c, hc⟩ : ∃ c, l[j]? = some c := ⟨_, List.getElem?_eq_getElem hlt⟩
      have hcm : c ∈ l := List.mem_of_getElem? hc
      have hl := hl.keep k4 (fun _ _ _ h => h)
      (repeat (first | refine M.len_i ?_ | refine M.nilCheck_i ?_ | refine M.field_i ?_ | refine M.draw_i ?_ | refine M.cap_i ?_ | refine M.gd_tt ?_ | refine M.gd_ff ?_ | refine M.gd_ft ?_ | refine M.gd_tf ?_ | refine M.gd_u ?_ | refine M.pick_t ?_ | refine M.pick_f ?_ | refine M.not_t ?_ | refine M.not_f ?_ | refine M.cond_t ?_ | refine M.cond_f ?_ | refine M.eqNilP_tn ?_ | refine M.eqNilP_ts ?_ | refine M.eqNilP_fn ?_ | refine M.eqNilP_fs ?_ | refine M.eqNilS_tn ?_ | refine M.eqNilS_ts ?_ | refine M.eqNilS_fn ?_ | refine M.eqNilS_fs ?_ | refine M.lss_t (by omega) ?_ | refine M.lss_f (by omega) ?_ | refine M.leq_t (by omega) ?_ | refine M.leq_f (by omega) ?_ | refine M.gtr_t (by omega) ?_ | refine M.gtr_f (by omega) ?_ | refine M.geq_t (by omega) ?_ | refine M.geq_f (by omega) ?_ | refine M.eql_t (by omega) ?_ | refine M.eql_f (by omega) ?_ | refine M.neq_t (by omega) ?_ | refine M.neq_f (by omega) ?_ | refine M.add_i (by omega) (by omega) ?_ | refine M.sub_i (by omega) (by omega) ?_ | refine M.load_i (by assumption) ?_ | refine M.loadB_i (by assumption) rfl ?_ | refine M.st_i (by assumption) ?_ | refine M.stB_i (by assumption) rfl ?_ | refine M.gs_ff ?_ | refine M.gs_tt ?_ | refine M.gs_ft ?_ | refine M.gs_tf ?_ | refine M.stAll_i (by assumption) rfl ?_))
      refine M.idxLL_i hl rfl (by omega) (c := c) (by simpa using hc) (fun bb oo u hcc hu => ?_)
      (repeat (first | refine M.len_i ?_ | refine M.nilCheck_i ?_ | refine M.field_i ?_ | refine M.draw_i ?_ | refine M.cap_i ?_ | refine M.gd_tt ?_ | refine M.gd_ff ?_ | refine M.gd_ft ?_ | refine M.gd_tf ?_ | refine M.gd_u ?_ | refine M.pick_t ?_ | refine M.pick_f ?_ | refine M.not_t ?_ | refine M.not_f ?_ | refine M.cond_t ?_ | refine M.cond_f ?_ | refine M.eqNilP_tn ?_ | refine M.eqNilP_ts ?_ | refine M.eqNilP_fn ?_ | refine M.eqNilP_fs ?_ | refine M.eqNilS_tn ?_ | refine M.eqNilS_ts ?_ | refine M.eqNilS_fn ?_ | refine M.eqNilS_fs ?_ | refine M.lss_t (by omega) ?_ | refine M.lss_f (by omega) ?_ | refine M.leq_t (by omega) ?_ | refine M.leq_f (by omega) ?_ | refine M.gtr_t (by omega) ?_ | refine M.gtr_f (by omega) ?_ | refine M.geq_t (by omega) ?_ | refine M.geq_f (by omega) ?_ | refine M.eql_t (by omega) ?_ | refine M.eql_f (by omega) ?_ | refine M.neq_t (by omega) ?_ | refine M.neq_f (by omega) ?_ | refine M.add_i (by omega) (by omega) ?_ | refine M.sub_i (by omega) (by omega) ?_ | refine M.load_i (by assumption) ?_ | refine M.loadB_i (by assumption) rfl ?_ | refine M.st_i (by assumption) ?_ | refine M.stB_i (by assumption) rfl ?_ | refine M.gs_ff ?_ | refine M.gs_tt ?_ | refine M.gs_ft ?_ | refine M.gs_tf ?_ | refine M.stAll_i (by assumption) rfl ?_))
      refine M.call_i (rest_ret hm hu (hfc c hcm) (hI c hcm)) ?_; rintro _ w5 ⟨a, n, h, rfl, hR, k5⟩
      have hm := hm.keep k5 (fun h => h)
      have k45 := k4.trans k5 (fun _ _ h => h)
      refine M.extract_i rfl ?_
      refine M.extract_i rfl ?_
      refine M.extract_i rfl ?_
      have next : (heldC s c = true ∨ ∃ x y, x ∈ openC s c ∧ y ∈ openC s c ∧ x ≠ y) → K3 [vi (j + 1 : Nat)] w5 := fun hh =>
        hK3 (j + 1) _ _ (by omega) ⟨rfl, by omega, hm, fun d hd' => by
          rcases (mem_take_succ hc).1 hd' with h | rfl
          · exact hd d h
          · exact hh, k45⟩
      have enext : ((j : Int) + 1) = ((j + 1 : Nat) : Int) := by omega
      rcases hR with ⟨rfl, hh⟩ | ⟨rfl, hh, ⟨rfl, ho⟩ | ⟨rfl, ha, ho⟩ | ⟨hn1, ho⟩⟩
      · (repeat (first | refine M.len_i ?_ | refine M.nilCheck_i ?_ | refine M.field_i ?_ | refine M.draw_i ?_ | refine M.cap_i ?_ | refine M.gd_tt ?_ | refine M.gd_ff ?_ | refine M.gd_ft ?_ | refine M.gd_tf ?_ | refine M.gd_u ?_ | refine M.pick_t ?_ | refine M.pick_f ?_ | refine M.not_t ?_ | refine M.not_f ?_ | refine M.cond_t ?_ | refine M.cond_f ?_ | refine M.eqNilP_tn ?_ | refine M.eqNilP_ts ?_ | refine M.eqNilP_fn ?_ | refine M.eqNilP_fs ?_ | refine M.eqNilS_tn ?_ | refine M.eqNilS_ts ?_ | refine M.eqNilS_fn ?_ | refine M.eqNilS_fs ?_ | refine M.lss_t (by omega) ?_ | refine M.lss_f (by omega) ?_ | refine M.leq_t (by omega) ?_ | refine M.leq_f (by omega) ?_ | refine M.gtr_t (by omega) ?_ | refine M.gtr_f (by omega) ?_ | refine M.geq_t (by omega) ?_ | refine M.geq_f (by omega) ?_ | refine M.eql_t (by omega) ?_ | refine M.eql_f (by omega) ?_ | refine M.neq_t (by omega) ?_ | refine M.neq_f (by omega) ?_ | refine M.add_i (by omega) (by omega) ?_ | refine M.sub_i (by omega) (by omega) ?_ | refine M.load_i (by assumption) ?_ | refine M.loadB_i (by assumption) rfl ?_ | refine M.st_i (by assumption) ?_ | refine M.stB_i (by assumption) rfl ?_ | refine M.gs_ff ?_ | refine M.gs_tt ?_ | refine M.gs_ft ?_ | refine M.gs_tf ?_ | refine M.stAll_i (by assumption) rfl ?_))
        rw [enext]; exact next (.inl hh)
      · (repeat (first | refine M.len_i ?_ | refine M.nilCheck_i ?_ | refine M.field_i ?_ | refine M.draw_i ?_ | refine M.cap_i ?_ | refine M.gd_tt ?_ | refine M.gd_ff ?_ | refine M.gd_ft ?_ | refine M.gd_tf ?_ | refine M.gd_u ?_ | refine M.pick_t ?_ | refine M.pick_f ?_ | refine M.not_t ?_ | refine M.not_f ?_ | refine M.cond_t ?_ | refine M.cond_f ?_ | refine M.eqNilP_tn ?_ | refine M.eqNilP_ts ?_ | refine M.eqNilP_fn ?_ | refine M.eqNilP_fs ?_ | refine M.eqNilS_tn ?_ | refine M.eqNilS_ts ?_ | refine M.eqNilS_fn ?_ | refine M.eqNilS_fs ?_ | refine M.lss_t (by omega) ?_ | refine M.lss_f (by omega) ?_ | refine M.leq_t (by omega) ?_ | refine M.leq_f (by omega) ?_ | refine M.gtr_t (by omega) ?_ | refine M.gtr_f (by omega) ?_ | refine M.geq_t (by omega) ?_ | refine M.geq_f (by omega) ?_ | refine M.eql_t (by omega) ?_ | refine M.eql_f (by omega) ?_ | refine M.neq_t (by omega) ?_ | refine M.neq_f (by omega) ?_ | refine M.add_i (by omega) (by omega) ?_ | refine M.sub_i (by omega) (by omega) ?_ | refine M.load_i (by assumption) ?_ | refine M.loadB_i (by assumption) rfl ?_ | refine M.st_i (by assumption) ?_ | refine M.stB_i (by assumption) rfl ?_ | refine M.gs_ff ?_ | refine M.gs_tt ?_ | refine M.gs_ft ?_ | refine M.gs_tf ?_ | refine M.stAll_i (by assumption) rfl ?_))
        exact ⟨_, [], false, rfl, CloseR.no (hok.stp.bot hcm hh ho), GI.nil _ _, k45⟩
      · obtain ⟨ok', hn', hlt'⟩ := hok.add hcm hh ha ho
        (repeat (first | refine M.len_i ?_ | refine M.nilCheck_i ?_ | refine M.field_i ?_ | refine M.draw_i ?_ | refine M.cap_i ?_ | refine M.gd_tt ?_ | refine M.gd_ff ?_ | refine M.gd_ft ?_ | refine M.gd_tf ?_ | refine M.gd_u ?_ | refine M.pick_t ?_ | refine M.pick_f ?_ | refine M.not_t ?_ | refine M.not_f ?_ | refine M.cond_t ?_ | refine M.cond_f ?_ | refine M.eqNilP_tn ?_ | refine M.eqNilP_ts ?_ | refine M.eqNilP_fn ?_ | refine M.eqNilP_fs ?_ | refine M.eqNilS_tn ?_ | refine M.eqNilS_ts ?_ | refine M.eqNilS_fn ?_ | refine M.eqNilS_fs ?_ | refine M.lss_t (by omega) ?_ | refine M.lss_f (by omega) ?_ | refine M.leq_t (by omega) ?_ | refine M.leq_f (by omega) ?_ | refine M.gtr_t (by omega) ?_ | refine M.gtr_f (by omega) ?_ | refine M.geq_t (by omega) ?_ | refine M.geq_f (by omega) ?_ | refine M.eql_t (by omega) ?_ | refine M.eql_f (by omega) ?_ | refine M.neq_t (by omega) ?_ | refine M.neq_f (by omega) ?_ | refine M.add_i (by omega) (by omega) ?_ | refine M.sub_i (by omega) (by omega) ?_ | refine M.load_i (by assumption) ?_ | refine M.loadB_i (by assumption) rfl ?_ | refine M.st_i (by assumption) ?_ | refine M.stB_i (by assumption) rfl ?_ | refine M.gs_ff ?_ | refine M.gs_tt ?_ | refine M.gs_ft ?_ | refine M.gs_tf ?_ | refine M.stAll_i (by assumption) rfl ?_))
        have hac := (mem_openC.1 ha).1
        refine M.call_i (add_ret hm (hI c hcm a hac)) ?_; rintro _ w6 ⟨rfl, hm6, k6⟩
        simp only [hn', not_false_eq_true, decide_true]
        (repeat (first | refine M.len_i ?_ | refine M.nilCheck_i ?_ | refine M.field_i ?_ | refine M.draw_i ?_ | refine M.cap_i ?_ | refine M.gd_tt ?_ | refine M.gd_ff ?_ | refine M.gd_ft ?_ | refine M.gd_tf ?_ | refine M.gd_u ?_ | refine M.pick_t ?_ | refine M.pick_f ?_ | refine M.not_t ?_ | refine M.not_f ?_ | refine M.cond_t ?_ | refine M.cond_f ?_ | refine M.eqNilP_tn ?_ | refine M.eqNilP_ts ?_ | refine M.eqNilP_fn ?_ | refine M.eqNilP_fs ?_ | refine M.eqNilS_tn ?_ | refine M.eqNilS_ts ?_ | refine M.eqNilS_fn ?_ | refine M.eqNilS_fs ?_ | refine M.lss_t (by omega) ?_ | refine M.lss_f (by omega) ?_ | refine M.leq_t (by omega) ?_ | refine M.leq_f (by omega) ?_ | refine M.gtr_t (by omega) ?_ | refine M.gtr_f (by omega) ?_ | refine M.geq_t (by omega) ?_ | refine M.geq_f (by omega) ?_ | refine M.eql_t (by omega) ?_ | refine M.eql_f (by omega) ?_ | refine M.neq_t (by omega) ?_ | refine M.neq_f (by omega) ?_ | refine M.add_i (by omega) (by omega) ?_ | refine M.sub_i (by omega) (by omega) ?_ | refine M.load_i (by assumption) ?_ | refine M.loadB_i (by assumption) rfl ?_ | refine M.st_i (by assumption) ?_ | refine M.stB_i (by assumption) rfl ?_ | refine M.gs_ff ?_ | refine M.gs_tt ?_ | refine M.gs_ft ?_ | refine M.gs_tf ?_ | refine M.stAll_i (by assumption) rfl ?_))
        exact hK2 (addS s a) _ _ hlt' ⟨rfl, hm6, ok', k45.trans k6 (fun b hb h => by omega)⟩
      · (repeat (first | refine M.len_i ?_ | refine M.nilCheck_i ?_ | refine M.field_i ?_ | refine M.draw_i ?_ | refine M.cap_i ?_ | refine M.gd_tt ?_ | refine M.gd_ff ?_ | refine M.gd_ft ?_ | refine M.gd_tf ?_ | refine M.gd_u ?_ | refine M.pick_t ?_ | refine M.pick_f ?_ | refine M.not_t ?_ | refine M.not_f ?_ | refine M.cond_t ?_ | refine M.cond_f ?_ | refine M.eqNilP_tn ?_ | refine M.eqNilP_ts ?_ | refine M.eqNilP_fn ?_ | refine M.eqNilP_fs ?_ | refine M.eqNilS_tn ?_ | refine M.eqNilS_ts ?_ | refine M.eqNilS_fn ?_ | refine M.eqNilS_fs ?_ | refine M.lss_t (by omega) ?_ | refine M.lss_f (by omega) ?_ | refine M.leq_t (by omega) ?_ | refine M.leq_f (by omega) ?_ | refine M.gtr_t (by omega) ?_ | refine M.gtr_f (by omega) ?_ | refine M.geq_t (by omega) ?_ | refine M.geq_f (by omega) ?_ | refine M.eql_t (by omega) ?_ | refine M.eql_f (by omega) ?_ | refine M.neq_t (by omega) ?_ | refine M.neq_f (by omega) ?_ | refine M.add_i (by omega) (by omega) ?_ | refine M.sub_i (by omega) (by omega) ?_ | refine M.load_i (by assumption) ?_ | refine M.loadB_i (by assumption) rfl ?_ | refine M.st_i (by assumption) ?_ | refine M.stB_i (by assumption) rfl ?_ | refine M.gs_ff ?_ | refine M.gs_tt ?_ | refine M.gs_ft ?_ | refine M.gs_tf ?_ | refine M.stAll_i (by assumption) rfl ?_))
        rw [enext]; exact next (.inr ho)
    · have : j = l.length := by omega
      subst this
      rw [List.take_length] at hd
      have hres := CloseR.ok hok.stp hd
      have hslen : s.length ≤ 100000000 := by have := hok.few; omega
      have hnd := keys_nodup hm
      have q4 := k4.size
      clear hK3 hK2
      (repeat (first | refine M.len_i ?_ | refine M.nilCheck_i ?_ | refine M.field_i ?_ | refine M.draw_i ?_ | refine M.cap_i ?_ | refine M.gd_tt ?_ | refine M.gd_ff ?_ | refine M.gd_ft ?_ | refine M.gd_tf ?_ | refine M.gd_u ?_ | refine M.pick_t ?_ | refine M.pick_f ?_ | refine M.not_t ?_ | refine M.not_f ?_ | refine M.cond_t ?_ | refine M.cond_f ?_ | refine M.eqNilP_tn ?_ | refine M.eqNilP_ts ?_ | refine M.eqNilP_fn ?_ | refine M.eqNilP_fs ?_ | refine M.eqNilS_tn ?_ | refine M.eqNilS_ts ?_ | refine M.eqNilS_fn ?_ | refine M.eqNilS_fs ?_ | refine M.lss_t (by omega) ?_ | refine M.lss_f (by omega) ?_ | refine M.leq_t (by omega) ?_ | refine M.leq_f (by omega) ?_ | refine M.gtr_t (by omega) ?_ | refine M.gtr_f (by omega) ?_ | refine M.geq_t (by omega) ?_ | refine M.geq_f (by omega) ?_ | refine M.eql_t (by omega) ?_ | refine M.eql_f (by omega) ?_ | refine M.neq_t (by omega) ?_ | refine M.neq_f (by omega) ?_ | refine M.add_i (by omega) (by omega) ?_ | refine M.sub_i (by omega) (by omega) ?_ | refine M.load_i (by assumption) ?_ | refine M.loadB_i (by assumption) rfl ?_ | refine M.st_i (by assumption) ?_ | refine M.stB_i (by assumption) rfl ?_ | refine M.gs_ff ?_ | refine M.gs_tt ?_ | refine M.gs_ft ?_ | refine M.gs_tf ?_ | refine M.stAll_i (by assumption) rfl ?_))
      refine M.range_i (kt := 3) (et := 4) (by kernel_rfl) hm (fun w5 hit k5 s5 => ?_)
      have hrlt := hm.lt
      refine M.loop_i (σ := List Int × List Int × Option Int) (fun t vals w' => ∃ vo, vals = [vo] ∧ IterO w' w4.heap.size w.heap.size (setKV s) t.1 t.2.2 ∧ GI w' (fun b => w4.heap.size < b) vo t.2.1 ∧ (∀ y, y ∈ s ↔ y ∈ t.2.1 ∨ y ∈ t.1) ∧ (∀ y ∈ t.2.1, y ∉ t.1) ∧ t.2.1.Nodup ∧ t.2.1.length + t.1.length ≤ s.length ∧ Keep w w' No)
        (fun t => t.1.length) ((setKV s).map (·.1), [], none) ⟨_, rfl, hit, GI.nil _ _, by simp [setKV], by simp, by simp, by simp [setKV], k4.trans k5 (fun _ _ h => h)⟩ ?_
      rintro ⟨left, cs, last⟩ vals w6 K4 ⟨vo, rfl, hit, ho, hmem, hdis, hcn, hcl, k6⟩ hK4 _
      simp only at hit ho hmem hdis hcn hcl
      simp only [List.getD_cons_zero, List.getD_cons_succ]
      refine M.mapNext_i hit (by omega) (fun hleft => ?_) (fun x xv w7 hx hxv hit7 k7 s7 => ?_)
      · subst hleft
        refine M.extract_i rfl ?_
        (repeat (first | refine M.len_i ?_ | refine M.nilCheck_i ?_ | refine M.field_i ?_ | refine M.draw_i ?_ | refine M.cap_i ?_ | refine M.gd_tt ?_ | refine M.gd_ff ?_ | refine M.gd_ft ?_ | refine M.gd_tf ?_ | refine M.gd_u ?_ | refine M.pick_t ?_ | refine M.pick_f ?_ | refine M.not_t ?_ | refine M.not_f ?_ | refine M.cond_t ?_ | refine M.cond_f ?_ | refine M.eqNilP_tn ?_ | refine M.eqNilP_ts ?_ | refine M.eqNilP_fn ?_ | refine M.eqNilP_fs ?_ | refine M.eqNilS_tn ?_ | refine M.eqNilS_ts ?_ | refine M.eqNilS_fn ?_ | refine M.eqNilS_fs ?_ | refine M.lss_t (by omega) ?_ | refine M.lss_f (by omega) ?_ | refine M.leq_t (by omega) ?_ | refine M.leq_f (by omega) ?_ | refine M.gtr_t (by omega) ?_ | refine M.gtr_f (by omega) ?_ | refine M.geq_t (by omega) ?_ | refine M.geq_f (by omega) ?_ | refine M.eql_t (by omega) ?_ | refine M.eql_f (by omega) ?_ | refine M.neq_t (by omega) ?_ | refine M.neq_f (by omega) ?_ | refine M.add_i (by omega) (by omega) ?_ | refine M.sub_i (by omega) (by omega) ?_ | refine M.load_i (by assumption) ?_ | refine M.loadB_i (by assumption) rfl ?_ | refine M.st_i (by assumption) ?_ | refine M.stB_i (by assumption) rfl ?_ | refine M.gs_ff ?_ | refine M.gs_tt ?_ | refine M.gs_ft ?_ | refine M.gs_tf ?_ | refine M.stAll_i (by assumption) rfl ?_))
        refine M.call_i (sort_ret ho (by omega)) ?_; rintro _ w7 ⟨rfl, g7, k7⟩
        have e : cs.mergeSort leI = srt s := by
          have hp := sort_le cs
          refine eq_srt ?_ (fun y => by rw [List.mem_mergeSort, hmem]; simp)
          have hn : (cs.mergeSort leI).Nodup := (List.mergeSort_perm cs leI).nodup_iff.2 hcn
          exact (hp.and hn).imp (fun {a b} h => by have := h.1; have := h.2; omega)
        rw [e] at g7
        exact ⟨_, srt s, true, rfl, hres, g7.mono (fun b hb h => by omega), k6.trans k7 (fun b hb h => by omega)⟩
      · refine M.extract_i rfl ?_
        (repeat (first | refine M.len_i ?_ | refine M.nilCheck_i ?_ | refine M.field_i ?_ | refine M.draw_i ?_ | refine M.cap_i ?_ | refine M.gd_tt ?_ | refine M.gd_ff ?_ | refine M.gd_ft ?_ | refine M.gd_tf ?_ | refine M.gd_u ?_ | refine M.pick_t ?_ | refine M.pick_f ?_ | refine M.not_t ?_ | refine M.not_f ?_ | refine M.cond_t ?_ | refine M.cond_f ?_ | refine M.eqNilP_tn ?_ | refine M.eqNilP_ts ?_ | refine M.eqNilP_fn ?_ | refine M.eqNilP_fs ?_ | refine M.eqNilS_tn ?_ | refine M.eqNilS_ts ?_ | refine M.eqNilS_fn ?_ | refine M.eqNilS_fs ?_ | refine M.lss_t (by omega) ?_ | refine M.lss_f (by omega) ?_ | refine M.leq_t (by omega) ?_ | refine M.leq_f (by omega) ?_ | refine M.gtr_t (by omega) ?_ | refine M.gtr_f (by omega) ?_ | refine M.geq_t (by omega) ?_ | refine M.geq_f (by omega) ?_ | refine M.eql_t (by omega) ?_ | refine M.eql_f (by omega) ?_ | refine M.neq_t (by omega) ?_ | refine M.neq_f (by omega) ?_ | refine M.add_i (by omega) (by omega) ?_ | refine M.sub_i (by omega) (by omega) ?_ | refine M.load_i (by assumption) ?_ | refine M.loadB_i (by assumption) rfl ?_ | refine M.st_i (by assumption) ?_ | refine M.stB_i (by assumption) rfl ?_ | refine M.gs_ff ?_ | refine M.gs_tt ?_ | refine M.gs_ft ?_ | refine M.gs_tf ?_ | refine M.stAll_i (by assumption) rfl ?_))
        refine M.entry_i hit7 (fun xv' _ => ?_)
        refine M.extract_i rfl ?_
        have ho7 := ho.keep k7 (fun b hb h1 h2 => by omega)
        have q6 := k6.size
        have hitlt : w4.heap.size < w6.heap.size := by
          obtain ⟨_, _, _, _, _, _, _, g, _⟩ := hit
          exact lt_of_heap g
        refine M.buildSlice_i [vi x] (by kernel_rfl) (fun w8 hn8 k8 s8 => ?_)
        have ho8 := ho7.keep k8 (fun _ _ _ h => h)
        have hit8 := hit7.keep k8 (fun h => h) (fun h => h)
        refine M.append1_i ho8 (Row.of_blk' (D := fun _ => True) hn8 trivial) rfl (by omega) (fun v9 w9 g9 k9 => ?_)
        have hflt : (left.filter (decide <| · ≠ x)).length < left.length := by
          have : ∀ (L : List Int), x ∈ L → (L.filter (decide <| · ≠ x)).length < L.length := by
            intro L
            induction L with
            | nil => intro h; simp at h
            | cons a L ih =>
              intro h
              simp only [List.filter_cons]
              have hle := List.length_filter_le (decide <| · ≠ x) L
              by_cases ha : a = x
              · rw [if_neg (by simpa using ha), List.length_cons]; omega
              · rw [if_pos (by simpa using ha)]
                have := ih (by rcases List.mem_cons.1 h with h | h; exact absurd h.symm ha; exact h)
                rw [List.length_cons, List.length_cons]; omega
          exact this left hx
        refine hK4 (left.filter (decide <| · ≠ x), cs ++ [x], some x) _ _ hflt ⟨v9, rfl, hit8.keep k9 (fun h => by omega) (fun h => by omega), g9.mono (fun b hb h => by omega), fun y => ?_, fun y hy hyl => ?_, ?_, ?_, ?_⟩
        · rw [hmem]
          simp only [List.mem_append, List.mem_singleton, List.mem_filter, decide_eq_true_eq]
          constructor
          · rintro (h | h)
            · exact .inl (.inl h)
            · by_cases e : y = x
              · exact .inl (.inr e)
              · exact .inr ⟨h, e⟩
          · rintro ((h | h) | h)
            · exact .inl h
            · exact .inr (h ▸ hx)
            · exact .inr h.1
        · have hyl : y ∈ left.filter (decide <| · ≠ x) := hyl
          have hy : y ∈ cs ++ [x] := hy
          simp only [List.mem_append, List.mem_singleton, List.mem_filter, decide_eq_true_eq] at hy hyl
          rcases hy with h | h
          · exact hdis y h hyl.1
          · exact hyl.2 h
        · refine List.nodup_append.2 ⟨hcn, by simp, fun a ha b hb => ?_⟩
          simp at hb; subst hb
          intro e; exact hdis a ha (e ▸ hx)
        · show (cs ++ [x]).length + (left.filter (decide <| · ≠ x)).length ≤ s.length
          rw [List.length_append, List.length_singleton]; omega
        · have q7 := k7.size; have q8 := k8.size
          exact ((k6.trans k7 (fun b hb h => by omega)).trans k8 (fun _ _ h => h)).trans k9 (fun b hb h => by omega)
end Go.Proofs.Ytfkbacoiocniaaa
