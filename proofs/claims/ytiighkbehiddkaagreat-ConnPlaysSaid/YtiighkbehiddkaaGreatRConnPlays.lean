/-
 The row of ConnPlays: the walk of ConnPlays, led into the given statement.
-/
import Derived.Test.YtiighkbehiddkaaGreatS16
import Derived.Test.YtiighkbehiddkaaGreatRows
namespace Go.Proofs.YtiighkbehiddkaaGreat
open Go.ChangeShapes Go.WideShapes Go.ChangeAt Go.RowKit
set_option linter.unusedVariables false
set_option maxRecDepth 4000
theorem sr:ownKnob Tryz.prog.godebug=none:=by kernel_rfl
theorem qZ:laidOutB Tryz.prog=true:=by kernel_rfl
theorem vb:Tryz.prog.cellsOf 3=1:=by kernel_rfl
theorem Gs:Tryz.prog.cellsOf 23=3:=by kernel_rfl
theorem Nb {H:Type} {br:TypeId×Value→H} {W:World} {cs:List Value} (h:CR br Tryz.prog W 23 cs):∃c0 c1 c2,cs=[c0,c1,c2]∧CR br Tryz.prog W 3 [c0]∧CR br Tryz.prog W 3 [c1]∧CR br Tryz.prog W 3 [c2]:=by
  obtain⟨hl,hf⟩:=CC Tryz.underlying23 h
  rw[Gs] at hl
  match cs,hl with
  | [c0, c1, c2], _ =>
    have k0:CR br Tryz.prog W 3 (([c0,c1,c2].drop 0).take (Tryz.prog.cellsOf 3)):=hf 0 _ rfl
    rw[vb] at k0
    have k1:CR br Tryz.prog W 3 (([c0,c1,c2].drop 1).take (Tryz.prog.cellsOf 3)):=hf 1 _ rfl
    rw[vb] at k1
    have k2:CR br Tryz.prog W 3 (([c0,c1,c2].drop 2).take (Tryz.prog.cellsOf 3)):=hf 2 _ rfl
    rw[vb] at k2
    exact⟨c0,c1,c2,rfl,k0,k1,k2⟩
set_option maxRecDepth 100000 in
theorem pN (os:Os) (started:os.Started) (H:Type) (br:TypeId×Value→H):
    ReturnsInHanded {} Tryz.checked os 3 .any (Rows.connPlaysSpec.pre6 br Tryz.prog Tryz.f3 Rows.connPlaysRow.domain false) (Rows.connPlaysSpec.post br Tryz.prog Tryz.f3 false true false false):=by
  refine yB sr started (by kernel_rfl) Tryz.func3
    (ChangeSpec.witness6 (enc:=br) (C:=Tryz.checked) false ⟨#[],#[.agg #[.int .i64 0,.int .i64 0,.int .i64 0],.slice none 0 0],[]⟩ 8 (by kernel_rfl) (by kernel_rfl) (by kernel_rfl) (by kernel_rfl)) qZ (by kernel_rfl) (by kernel_rfl) Tryz.underlying4 rfl ?_ ?_
  · intro ds hd
    rw[Tryz.params3] at hd
    match ds,hd with
    |[d0,d1],_=>rfl
  · intro W args ds h
    rw[Tryz.params3] at h
    obtain⟨v0,v1,d0,d1,rfl,h0,h1⟩:=Ng h
    obtain⟨cs0,rfl,h0c⟩:=xM Tryz.underlying23 h0
    obtain⟨f_c0,f_c1,f_c2,e_f,f_k0,f_k1,f_k2⟩:=Nb h0c;cases e_f
    obtain⟨f_In,e_f_In,lo_f_In,Ie⟩:=lY Tryz.underlying3 f_k0;cases e_f_In
    obtain⟨f_Out,e_f_Out,lo_f_Out,EO⟩:=lY Tryz.underlying3 f_k1;cases e_f_Out
    obtain⟨f_Payload,e_f_Payload,lo_f_Payload,uu⟩:=lY Tryz.underlying3 f_k2;cases e_f_Payload
    obtain⟨C,cx,xs,rfl,sv,hQ⟩:=CK h1
    exact rY _ _ _ _ lo_f_In Ie lo_f_Out EO lo_f_Payload uu _ _ _ _ xs sv hQ
theorem connPlays_holds:Rows.ConnPlaysSaid:=
  OpenClaim.holds_of_wide 3 Tryz.f3 rfl rfl rfl rfl rfl rfl rfl ⟨rfl,rfl,rfl,rfl,rfl⟩ rfl rfl rfl rfl rfl (by kernel_rfl) Tryz.func3 (by kernel_rfl)
    (of_decide_eq_true (by kernel_rfl)) (by unfold Func.isWrapper;rw[if_neg (by decide+kernel)];exact⟨rfl,rfl⟩)
    (fun os started H br _=>pN os started H br)
end Go.Proofs.YtiighkbehiddkaaGreat
