/- Proved: for every list of numbers the law PlaysChecked answers true and leaves its argument as it was (the tied card); no condition beyond the row's own. Text 4 of 14. -/
import Derived.Test.YteoboibjepokoaaGreatDoorW3
set_option linter.unusedVariables false
set_option linter.unusedSimpArgs false
set_option linter.unusedSectionVars false
set_option linter.all false
namespace Go.Proofs.YteoboibjepokoaaGreatDoor.Av
open Go.RowKit
class CG (G : Prop) (P : outParam Program) (g : outParam FuncId) (vs : outParam (List V)) (H : outParam (List Blk)) (R : outParam (V → List Blk → Prop)) : Prop where
  out : ∀ {r H1}, ACall P g vs H (ret1 r H1) → R r H1 → G
instance {P : Program} {g : FuncId} {vs : List V} {H : List Blk} {K : V → List Blk → Prop} : CG (ACall P g vs H K) P g vs H K := ⟨fun h hk => ACall.of1 h hk⟩
instance {P : Program} {g : FuncId} {vs : List V} {H : List Blk} {R : V → List Blk → Prop} : CG (gCL P g vs H R) P g vs H R := ⟨fun h hk => gCL.mk h hk⟩
class CQ (G : Prop) (P : outParam Program) (g : outParam FuncId) (vs : outParam (List V)) (H : outParam (List Blk)) (R : outParam (V → Prop)) : Prop where
  outR : ∀ {r}, norefL vs = true → PCall P g vs (· = r) → R r → G
  out : ∀ {r vs'} (n : Nat), fzL (fz H n) vs = some vs' → PCall P g vs' (· = r) → plain r = true → R r → G
instance {P : Program} {g : FuncId} {vs : List V} {H : List Blk} {K : V → List Blk → Prop} : CQ (ACall P g vs H K) P g vs H (fun r => K r H) := ⟨fun hn h hk => call_eqR hn h hk, fun n hfz h hpl hk => call_eq n hfz h hpl hk⟩
instance {P : Program} {g : FuncId} {vs : List V} {H : List Blk} {R : V → Prop} : CQ (gCQ P g vs H R) P g vs H R := ⟨fun hn h hk => gCQ_eqR hn h hk, fun n hfz h hpl hk => gCQ_eq n hfz h hpl hk⟩
instance {P : Program} {g : FuncId} {vs : List V} {H : List Blk} {R : V → List Blk → Prop} : CQ (gCL P g vs H R) P g vs H (fun r => R r H) := ⟨fun hn h hk => gCL_eqR hn h hk, fun n hfz h hpl hk => gCL_eq n hfz h hpl hk⟩
theorem cgA {G : Prop} {P : Program} {g : FuncId} {vs : List V} {H H1 : List Blk} {R : V → List Blk → Prop} {r : V} [CG G P g vs H R] (h : ACall P g vs H (ret1 r H1)) (hk : R r H1) : G := CG.out h hk
theorem cgR {G : Prop} {P : Program} {g : FuncId} {vs : List V} {H : List Blk} {R : V → Prop} {r : V} [CQ G P g vs H R] (h : PCall P g vs (· = r)) (hn : norefL vs = true) (hk : R r) : G := CQ.outR hn h hk
theorem cgF {G : Prop} {P : Program} {g : FuncId} {vs vs' : List V} {H : List Blk} {R : V → Prop} {r : V} [CQ G P g vs H R] (hfz : fzL (fz H 20) vs = some vs') (h : PCall P g vs' (· = r)) (hpl : plain r = true) (hk : R r) : G := CQ.out 20 hfz h hpl hk
attribute [go_sem] fin appK_nils appK_emp appK_ms appM_row ret1 eq_self exists_eq_left' exists_eq_left decide_true decide_false beq_self_eq_true F_skip F_region F_seq F_cond F_block F_exit F_ret F_nil F_op F_opT F_opF F_post F_seqN F_seqR F_seqE F_blockN F_blockR F_blockE F_loopN F_loopR F_loopE ret2ueq gEnd_eq pEnd_eq g2unil g2uop g2uopT g2uopF gOp gPl_t gPl_f gF_eq gRq_eq gR_t gR_f Bool.or_true Bool.true_or Bool.false_or Bool.or_false stabL stabR gstep exOp evX upd updO env0 List.getD_cons_zero List.getD_cons_succ List.getD_nil true_and and_true or_true true_or or_false false_or List.map_cons List.map_nil List.nil_append List.cons_append List.append_nil List.append_assoc Int.toNat_natCast V.isAny rd splice remk fillP srcE ixO Option.map_none List.length_cons List.length_nil List.length_map List.take_succ_cons List.take_zero List.drop_succ_cons List.drop_zero List.headD_cons Nat.zero_add List.getElem?_cons_zero List.getElem?_cons_succ List.set_cons_zero List.set_cons_succ List.length_append Nat.add_assoc Bool.not_true Bool.not_false V.one List.all_cons List.all_nil Bool.and_true Bool.and_self Bool.true_and
attribute [go_sem ↓] Fork_t Fork_f
attribute [push_cast] resP exOp evX rd List.headD_cons resOne resL upd pfin or_true true_or false_or true_and and_true noref norefL List.getElem?_cons_zero List.getElem?_cons_succ List.length_cons List.length_nil List.length_map List.drop_zero List.take_succ_cons List.take_zero List.drop_succ_cons Nat.zero_add Nat.le_refl Nat.zero_le Nat.lt_add_one List.getD_cons_zero Bool.and_true Bool.and_self Bool.true_and Option.map_some Option.some.injEq exists_eq_left' exists_eq_left V.int.injEq V.bool.injEq V.str.injEq V.fs.injEq
end Go.Proofs.YteoboibjepokoaaGreatDoor.Av
