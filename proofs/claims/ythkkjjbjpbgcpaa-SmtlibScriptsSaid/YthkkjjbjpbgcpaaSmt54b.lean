import Derived.Test.YthkkjjbjpbgcpaaSmt54a
namespace Go.Proofs.Ythkkjjbjpbgcpaa
open Go.Mw
set_option linter.unusedVariables false
set_option linter.unusedSimpArgs false
set_option maxRecDepth 100000
attribute [local irreducible] M.val M.unit M.next M.pick M.new M.nilCheck M.load1 M.loadA M.store M.fieldAddr M.indexSl M.indexArr M.slice M.makeSlice M.buildSlice M.len M.lenS M.cap M.append M.extract M.conv M.not M.neg M.bin M.shift M.eqB M.eqNil M.scat M.call M.callv M.gd M.share M.cond M.loop M.draw pureW readW Ret
theorem run_byte1 {w : World} {b : Nat} {x : UInt8} {c : Nat} (h : Blk w b [vu x]) : (convert 59 9 (.slice (some ⟨b, 0, none⟩) 1 c)).run Try.prog w = .ok (vs [x]) w :=
  run_bytes rfl (fun j hj => by
    have : j = 0 := by simp at hj; exact hj
    subst this
    exact h.cell rfl)
set_option maxHeartbeats 1000000 in
theorem rdigits_ret {n : Nat} (hn : n < 18446744073709551616) (w : World) : Ret Try.prog 56 #[.int .u64 (n : Int)] w (fun r w' => r = vs (digB n) ∧ Keep w w' No) := by
  refine ok56 _ _ _ ?_
  unfold sh56
  have hlen := digB_len 19 n (by omega)
  refine M.loop_i (σ := Nat) (fun x vals w' => ∃ l : Bt, vals = [.int .u64 (x : Int), vs l] ∧ digB n = digB x ++ l ∧ x ≤ n ∧ Keep w w' No) (fun x => x) n ⟨[], rfl, by simp, by omega, Keep.refl _ _⟩ ?_
  rintro x vals w1 K ⟨l, rfl, hd, hx, k1⟩ hK _
  simp only [List.getD_cons_zero, List.getD_cons_succ]
  have hl : l.length ≤ 20 := by
    have := congrArg List.length hd
    rw [List.length_append] at this
    omega
  by_cases h10 : 10 ≤ x
  · (repeat (first|refine ja ?_|refine jb ?_|refine jc ?_|refine jd ?_|refine je ?_|refine jf ?_|refine jg ?_|refine jh ?_|refine ji ?_|refine jj ?_|refine jk ?_|refine jl ?_|refine jm ?_|refine jn ?_|refine jo ?_|refine jp ?_|refine jq ?_|refine jr ?_|refine js ?_|refine jt ?_|refine ju ?_|refine jv ?_|refine jw ?_|refine jx ?_|refine jy ?_|refine jz ?_|refine jA ?_|refine jB ?_|refine jC ?_|refine jD ?_|refine jE ?_|refine jF ?_|refine jG ?_|refine jH ?_|refine jI ?_|refine jJ ?_|refine jK ?_|refine jL ?_|refine jM (by assumption) ?_|refine jN (by assumption) rfl ?_|refine jO (by assumption) ?_|refine jP (by assumption) rfl ?_|refine jQ ?_|refine jR ?_|refine jS ?_|refine jT ?_|refine jU (by assumption) rfl ?_))
    refine rem_u64 ?_
    refine add_u64 (a := 48) (by omega) ?_
    rw [show (((48 + x % 10 : Nat)) : Int) = 48 + (x % 10 : Nat) by omega]
    refine conv_u8 ?_
    refine M.buildSlice_i [vu (dgt x)] (by kernel_rfl) (fun w2 b2 k2 s2 => ?_)
    refine M.val_i (run_byte1 b2) ?_
    refine M.str_i (by simp; omega) ?_
    refine quo_u64 (by omega) ?_
    exact hK (x / 10) _ _ (by omega) ⟨[dgt x] ++ l, rfl, by rw [hd, digB_ge (by omega), List.append_assoc], by omega, k1.trans k2 (fun _ _ h => h)⟩
  · (repeat (first|refine ja ?_|refine jb ?_|refine jc ?_|refine jd ?_|refine je ?_|refine jf ?_|refine jg ?_|refine jh ?_|refine ji ?_|refine jj ?_|refine jk ?_|refine jl ?_|refine jm ?_|refine jn ?_|refine jo ?_|refine jp ?_|refine jq ?_|refine jr ?_|refine js ?_|refine jt ?_|refine ju ?_|refine jv ?_|refine jw ?_|refine jx ?_|refine jy ?_|refine jz ?_|refine jA ?_|refine jB ?_|refine jC ?_|refine jD ?_|refine jE ?_|refine jF ?_|refine jG ?_|refine jH ?_|refine jI ?_|refine jJ ?_|refine jK ?_|refine jL ?_|refine jM (by assumption) ?_|refine jN (by assumption) rfl ?_|refine jO (by assumption) ?_|refine jP (by assumption) rfl ?_|refine jQ ?_|refine jR ?_|refine jS ?_|refine jT ?_|refine jU (by assumption) rfl ?_))
    refine add_u64 (a := 48) (by omega) ?_
    rw [show (((48 + x : Nat)) : Int) = 48 + (x % 10 : Nat) by omega]
    refine conv_u8 ?_
    refine M.buildSlice_i [vu (dgt x)] (by kernel_rfl) (fun w2 b2 k2 s2 => ?_)
    refine M.val_i (run_byte1 b2) ?_
    refine M.str_i (by simp; omega) ?_
    rw [digB_lt (n := x) (by omega)] at hd
    rw [← hd]
    exact ⟨rfl, k1.trans k2 (fun _ _ h => h)⟩
theorem rnumber_ret (n : Int) (w : World) : Ret Try.prog 34 #[vi n] w (fun r w' => r = vs (numB n) ∧ Keep w w' No) := by
  refine ok34 _ _ _ ?_
  unfold sh34
  have e : IntKind.u64.wrap n = (((BitVec.ofInt 64 n).toNat : Nat) : Int) := by
    simp [IntKind.wrap, IntKind.bits, IntKind.signed, BitVec.toNat_ofInt]
    omega
  unfold M.conv
  simp only [e]
  refine M.call_i (rdigits_ret (BitVec.isLt _) w) ?_; rintro _ w1 ⟨rfl, k1⟩
  exact ⟨rfl, k1⟩
def opL : List Bt := [[], ([98, 118, 97, 100, 100] : List UInt8), ([98, 118, 115, 117, 98] : List UInt8), ([98, 118, 109, 117, 108] : List UInt8), ([98, 118, 117, 100, 105, 118] : List UInt8), ([98, 118, 117, 114, 101, 109] : List UInt8), ([98, 118, 97, 110, 100] : List UInt8), ([98, 118, 111, 114] : List UInt8), ([98, 118, 120, 111, 114] : List UInt8), ([98, 118, 115, 104, 108] : List UInt8), ([98, 118, 108, 115, 104, 114] : List UInt8), ([98, 118, 97, 115, 104, 114] : List UInt8), ([61] : List UInt8), ([98, 118, 117, 108, 116] : List UInt8), ([98, 118, 115, 108, 116] : List UInt8), ([98, 118, 110, 111, 116] : List UInt8), ([98, 118, 110, 101, 103] : List UInt8)]
theorem rword_ret {op : Int} (h : 1 ≤ op ∧ op ≤ 16 ∨ op = 24) (w : World) : Ret Try.prog 57 #[vi op] w (fun r w' => r = vs (opB op) ∧ Keep w w' No) := by
  refine ok57 _ _ _ ?_
  unfold sh57
  refine M.buildSlice_i (opL.map vs) (by kernel_rfl) (fun w1 b1 k1 s1 => ?_)
  by_cases h24 : op = 24
  · subst h24
    (repeat (first|refine ja ?_|refine jb ?_|refine jc ?_|refine jd ?_|refine je ?_|refine jf ?_|refine jg ?_|refine jh ?_|refine ji ?_|refine jj ?_|refine jk ?_|refine jl ?_|refine jm ?_|refine jn ?_|refine jo ?_|refine jp ?_|refine jq ?_|refine jr ?_|refine js ?_|refine jt ?_|refine ju ?_|refine jv ?_|refine jw ?_|refine jx ?_|refine jy ?_|refine jz ?_|refine jA ?_|refine jB ?_|refine jC ?_|refine jD ?_|refine jE ?_|refine jF ?_|refine jG ?_|refine jH ?_|refine jI ?_|refine jJ ?_|refine jK ?_|refine jL ?_|refine jM (by assumption) ?_|refine jN (by assumption) rfl ?_|refine jO (by assumption) ?_|refine jP (by assumption) rfl ?_|refine jQ ?_|refine jR ?_|refine jS ?_|refine jT ?_|refine jU (by assumption) rfl ?_))
    exact ⟨rfl, k1⟩
  (repeat (first|refine ja ?_|refine jb ?_|refine jc ?_|refine jd ?_|refine je ?_|refine jf ?_|refine jg ?_|refine jh ?_|refine ji ?_|refine jj ?_|refine jk ?_|refine jl ?_|refine jm ?_|refine jn ?_|refine jo ?_|refine jp ?_|refine jq ?_|refine jr ?_|refine js ?_|refine jt ?_|refine ju ?_|refine jv ?_|refine jw ?_|refine jx ?_|refine jy ?_|refine jz ?_|refine jA ?_|refine jB ?_|refine jC ?_|refine jD ?_|refine jE ?_|refine jF ?_|refine jG ?_|refine jH ?_|refine jI ?_|refine jJ ?_|refine jK ?_|refine jL ?_|refine jM (by assumption) ?_|refine jN (by assumption) rfl ?_|refine jO (by assumption) ?_|refine jP (by assumption) rfl ?_|refine jQ ?_|refine jR ?_|refine jS ?_|refine jT ?_|refine jU (by assumption) rfl ?_))
  obtain ⟨m, rfl⟩ : ∃ m : Nat, op = m := ⟨op.toNat, by omega⟩
  have hm : m < opL.length := by show m < 17; omega
  refine M.idx_i (by omega) (by omega) ?_
  refine M.loadB_i b1 (v := vs (opB m)) ?_ ?_
  · simp only [Nat.zero_add, Nat.mul_one, Int.toNat_natCast]
    rw [List.getElem?_map, List.getElem?_eq_getElem hm]
    unfold opB
    rw [if_neg (by omega), Int.toNat_natCast]
    show some (vs opL[m]) = some (vs (opL.getD m []))
    rw [List.getD_eq_getElem?_getD, List.getElem?_eq_getElem hm]; rfl
  · exact ⟨rfl, k1⟩
end Go.Proofs.Ythkkjjbjpbgcpaa
