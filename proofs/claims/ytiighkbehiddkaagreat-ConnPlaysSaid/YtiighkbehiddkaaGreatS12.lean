/-
 The reference: valid commands; parts and commands written.
 The reference: parts and commands read.
 Commands, plainly: what is written reads back, and what is read was written; the real codec and the reference agree. Condition: the sizes of numbers and parts.
-/
import Derived.Test.YtiighkbehiddkaaGreatS11
namespace Go.Proofs.YtiighkbehiddkaaGreat
open Go.RowKit
set_option linter.unusedVariables false
set_option maxRecDepth 4000
theorem Sj:aX Tryz.prog 100=true:=by kernel_rfl
theorem RJ:aX Tryz.prog 99=true:=by kernel_rfl
theorem Bb (w:World) (c:Cmd) (lo hi:Nat) (K:Option Addr) (ck:Nat) (V:Option Addr) (cv:Nat) (T:Option Addr) (ct:Nat) (hK:RdS w lo hi K ck c.keys) (hV:RdB w lo hi V cv c.value) (hT:RdS w lo hi T ct c.tags) (h1:c.op<1):
  Fn Tryz.prog 83 #[(.agg #[(.int .i64 c.op),(.string (av c.key)),(.slice K c.keys.length ck),(.slice V c.value.length cv),(.slice T c.tags.length ct),(.int .u64 (↑c.life:Int)),(.int .u64 (↑c.ver:Int)),(.string (av c.tag)),(.string (av c.pre)),(.string (av c.child))])] w (fun v w'=>v=.bool (fd c)∧Ext w w'):=by
 have hE:=aP w
 refine aO Tryz.func83 ?_
 refine af (aa ?_)
 refine ar (bU) ?_
 rintro v w1 ⟨g1,rfl,au,dL,kM,ls⟩
 replace hE:=hE.tr dL
 refine va ?_
 refine ag (ae (af (af ?_)))
 refine cC ej 12 [(5,a0 (.pointer (some ⟨g1,0,none⟩))),(6,a0 (.int .i64 c.op)),(7,a0 (.bool true)),(8,a0 (.bool true)),(9,a0 undef),(10,a0 undef),(11,a0 undef),(12,a0 (.bool true)),(13,a0 (.bool true)),(14,a0 undef),(15,a0 undef),(16,a0 undef)] [[],[0],[1],[2],[3],[3,4],[3,5],[3,6],[7],[8],[8],[8,10]] _ [] [] (fun _ _ h=>h) trivial (by kernel_rfl) rfl ?_ ?_
 ·repeat' apply And.intro
  all_goals first|exact trivial|(intro wd bW;replace au:=au.ext bW;(repeat rintro _ rfl))
  exact am (ax (ah dA))
  exact am (ax (ak cO au))
  exact am (nL (bz))
  exact am (ax (aF))
  iterate 3 exact eF ⟨rfl,aP _⟩
  exact am (ax (ay))
  exact am (ax (aF))
  iterate 3 exact eF ⟨rfl,aP _⟩
 ·intro wf1 jB
  replace hE:=hE.tr jB
  iterate 12 rintro _ rfl
  iterate 2 refine aA ?_
  refine ab (ay) ?_
  refine ag (ae ?_)
  refine aR ?_
  refine af (aa ?_)
  refine va ?_
  refine ag (ae (aE (az ?_)))
  refine aY ?_
  have ef:fd c=false:=by unfold fd;rw[decide_eq_false (by omega)];rfl
  rw[ef]
  exact⟨rfl,hE⟩
theorem Bc (w:World) (c:Cmd) (lo hi:Nat) (K:Option Addr) (ck:Nat) (V:Option Addr) (cv:Nat) (T:Option Addr) (ct:Nat) (hK:RdS w lo hi K ck c.keys) (hV:RdB w lo hi V cv c.value) (hT:RdS w lo hi T ct c.tags) (h1:15<c.op):
  Fn Tryz.prog 83 #[(.agg #[(.int .i64 c.op),(.string (av c.key)),(.slice K c.keys.length ck),(.slice V c.value.length cv),(.slice T c.tags.length ct),(.int .u64 (↑c.life:Int)),(.int .u64 (↑c.ver:Int)),(.string (av c.tag)),(.string (av c.pre)),(.string (av c.child))])] w (fun v w'=>v=.bool (fd c)∧Ext w w'):=by
 have hE:=aP w
 refine aO Tryz.func83 ?_
 refine af (aa ?_)
 refine ar (bU) ?_
 rintro v w1 ⟨g1,rfl,au,dL,kM,ls⟩
 replace hE:=hE.tr dL
 refine va ?_
 refine ag (ae (af (af ?_)))
 refine cC ej 12 [(5,a0 (.pointer (some ⟨g1,0,none⟩))),(6,a0 (.int .i64 c.op)),(7,a0 (.bool false)),(8,a0 (.bool false)),(9,a0 (.pointer (some ⟨g1,0,none⟩))),(10,a0 (.int .i64 c.op)),(11,a0 (.bool true)),(12,a0 (.bool true)),(13,a0 (.bool true)),(14,a0 undef),(15,a0 undef),(16,a0 undef)] [[],[0],[1],[2],[3],[3,4],[3,5],[3,6],[7],[8],[8],[8,10]] _ [] [] (fun _ _ h=>h) trivial (by kernel_rfl) rfl ?_ ?_
 ·repeat' apply And.intro
  all_goals first|exact trivial|(intro wd bW;replace au:=au.ext bW;(repeat rintro _ rfl))
  exact am (ax (ah dA))
  exact am (ax (ak cO au))
  exact am (fL (bz))
  exact am (ax (aF))
  exact bn (ax (ah dA))
  exact bn (ax (ak cO au))
  exact bn (nL (bw))
  exact am (ax (ap))
  exact am (ax (aF))
  iterate 3 exact eF ⟨rfl,aP _⟩
 ·intro wf1 jB
  replace hE:=hE.tr jB
  iterate 12 rintro _ rfl
  iterate 2 refine aA ?_
  refine ab (ay) ?_
  refine ag (ae ?_)
  refine aR ?_
  refine af (aa ?_)
  refine va ?_
  refine ag (ae (aE (az ?_)))
  refine aY ?_
  have ef:fd c=false:=by unfold fd;rw[decide_eq_false (by omega)];rfl
  rw[ef]
  exact⟨rfl,hE⟩
theorem Ba (w:World) (c:Cmd) (lo hi:Nat) (K:Option Addr) (ck:Nat) (V:Option Addr) (cv:Nat) (T:Option Addr) (ct:Nat) (hK:RdS w lo hi K ck c.keys) (hV:RdB w lo hi V cv c.value) (hT:RdS w lo hi T ct c.tags) (h1:1≤c.op) (h2:c.op≤15) (h3:¬c=eJ c):
  Fn Tryz.prog 83 #[(.agg #[(.int .i64 c.op),(.string (av c.key)),(.slice K c.keys.length ck),(.slice V c.value.length cv),(.slice T c.tags.length ct),(.int .u64 (↑c.life:Int)),(.int .u64 (↑c.ver:Int)),(.string (av c.tag)),(.string (av c.pre)),(.string (av c.child))])] w (fun v w'=>v=.bool (fd c)∧Ext w w'):=by
 replace hK:=hK.top
 replace hV:=hV.top
 replace hT:=hT.top
 have hE:=aP w
 refine aO Tryz.func83 ?_
 refine af (aa ?_)
 refine ar (bU) ?_
 rintro v w1 ⟨g1,rfl,au,dL,kM,ls⟩
 replace hK:=hK.ext dL
 replace hV:=hV.ext dL
 replace hT:=hT.ext dL
 replace hE:=hE.tr dL
 refine va ?_
 refine ag (ae (af (af ?_)))
 refine fD 12 [(5,a0 (.pointer (some ⟨g1,0,none⟩))),(6,a0 (.int .i64 c.op)),(7,a0 (.bool false)),(8,a0 (.bool false)),(9,a0 (.pointer (some ⟨g1,0,none⟩))),(10,a0 (.int .i64 c.op)),(11,a0 (.bool false)),(12,a0 (.bool false)),(13,a0 (.bool false)),(14,a0 (.agg #[(.int .i64 c.op),(.string (av c.key)),(.slice K c.keys.length ck),(.slice V c.value.length cv),(.slice T c.tags.length ct),(.int .u64 (↑c.life:Int)),(.int .u64 (↑c.ver:Int)),(.string (av c.tag)),(.string (av c.pre)),(.string (av c.child))])),(15,a0 (.agg #[(.int .i64 c.op),(.string (av c.key)),(.slice K c.keys.length ck),(.slice V c.value.length cv),(.slice T c.tags.length ct),(.int .u64 (↑c.life:Int)),(.int .u64 (↑c.ver:Int)),(.string (av c.tag)),(.string (av c.pre)),(.string (av c.child))])),(16,(fun v wz=>∃K1 k1 V1 v1 T1 t1,v=.agg (cL (eJ c) K1 k1 V1 v1 T1 t1).toArray∧RdS wz lo wz.heap.size K1 k1 (eJ c).keys∧RdB wz lo wz.heap.size V1 v1 (eJ c).value∧RdS wz lo wz.heap.size T1 t1 (eJ c).tags))] [[],[0],[1],[2],[3],[3,4],[3,5],[3,6],[7],[8],[8],[8,10]] _ [] [] ⟨sE,sE,sE,sE,sE,sE,sE,sE,sE,sE,sE,⟨(fun v w1 w2 ⟨K1,k1,V1,v1,T1,t1,hv,a,b,c⟩ he=>⟨K1,k1,V1,v1,T1,t1,hv,(a.ext he).mono (Nat.le_refl _) he.size,(b.ext he).mono (Nat.le_refl _) he.size,(c.ext he).mono (Nat.le_refl _) he.size⟩),fun _ he=>by cases he⟩,trivial⟩ ?_ ?_
 ·repeat' apply And.intro
  all_goals first|exact trivial|(intro wd bW;replace au:=au.ext bW;replace hK:=hK.ext bW;replace hV:=hV.ext bW;replace hT:=hT.ext bW;(repeat rintro _ rfl))
  exact am (ax (ah dA))
  exact am (ax (ak cO au))
  exact am (fL (bz))
  exact am (ax (aF))
  exact bn (ax (ah dA))
  exact bn (ax (ak cO au))
  exact bn (fL (bw))
  exact am (ax (ap))
  exact am (ax (aF))
  iterate 2 exact bn (ax (aK cc au))
  ·refine bn (OpRun.mono (aw RJ (wm _ c _ _ K ck V cv T ct hK hV hT)) ?_)
   rintro v w2 ⟨Ko,ko,Vo,vo,To,to,rfl,MX,Mx,MA,kB⟩
   have qh:=kB.size
   exact⟨⟨Ko,ko,Vo,vo,To,to,rfl,MX.mono (Nat.le_refl _) (by omega),Mx.mono (Nat.le_refl _) (by omega),MA.mono (Nat.le_refl _) (by omega)⟩,kB⟩
 ·intro wf1 jB
  replace hK:=hK.ext jB
  replace hV:=hV.ext jB
  replace hT:=hT.ext jB
  replace hE:=hE.tr jB
  iterate 11 rintro _ rfl
  rintro _ ⟨Ko,ko,Vo,vo,To,to,rfl,MX,Mx,MA⟩
  refine bP (aw zk (iJ _ c _ _ K ck V cv T ct hK hV hT (eJ c) _ _ Ko ko Vo vo To to MX Mx MA)) ?_
  rintro v w2 ⟨rfl,jD⟩
  replace hE:=hE.tr jD
  refine aN (d:=17) rfl (bf (h3)) ?_
  refine aj (b6) ?_
  refine ab (ap) ?_
  refine ag (ae ?_)
  refine aR ?_
  refine af (aa ?_)
  refine va ?_
  refine ag (ae (aE (az ?_)))
  refine aY ?_
  have ef:fd c=false:=by unfold fd;rw[decide_eq_false h3,Bool.and_false,Bool.false_and]
  rw[ef]
  exact⟨rfl,hE⟩
theorem Bd (w:World) (c:Cmd) (lo hi:Nat) (K:Option Addr) (ck:Nat) (V:Option Addr) (cv:Nat) (T:Option Addr) (ct:Nat) (hK:RdS w lo hi K ck c.keys) (hV:RdB w lo hi V cv c.value) (hT:RdS w lo hi T ct c.tags) (h1:1≤c.op) (h2:c.op≤15) (h3:c=eJ c):
  Fn Tryz.prog 83 #[(.agg #[(.int .i64 c.op),(.string (av c.key)),(.slice K c.keys.length ck),(.slice V c.value.length cv),(.slice T c.tags.length ct),(.int .u64 (↑c.life:Int)),(.int .u64 (↑c.ver:Int)),(.string (av c.tag)),(.string (av c.pre)),(.string (av c.child))])] w (fun v w'=>v=.bool (fd c)∧Ext w w'):=by
 replace hK:=hK.top
 replace hV:=hV.top
 replace hT:=hT.top
 have hE:=aP w
 refine aO Tryz.func83 ?_
 refine af (aa ?_)
 refine ar (bU) ?_
 rintro v w1 ⟨g1,rfl,au,dL,kM,ls⟩
 replace hK:=hK.ext dL
 replace hV:=hV.ext dL
 replace hT:=hT.ext dL
 replace hE:=hE.tr dL
 refine va ?_
 refine ag (ae (af (af ?_)))
 refine fD 12 [(5,a0 (.pointer (some ⟨g1,0,none⟩))),(6,a0 (.int .i64 c.op)),(7,a0 (.bool false)),(8,a0 (.bool false)),(9,a0 (.pointer (some ⟨g1,0,none⟩))),(10,a0 (.int .i64 c.op)),(11,a0 (.bool false)),(12,a0 (.bool false)),(13,a0 (.bool false)),(14,a0 (.agg #[(.int .i64 c.op),(.string (av c.key)),(.slice K c.keys.length ck),(.slice V c.value.length cv),(.slice T c.tags.length ct),(.int .u64 (↑c.life:Int)),(.int .u64 (↑c.ver:Int)),(.string (av c.tag)),(.string (av c.pre)),(.string (av c.child))])),(15,a0 (.agg #[(.int .i64 c.op),(.string (av c.key)),(.slice K c.keys.length ck),(.slice V c.value.length cv),(.slice T c.tags.length ct),(.int .u64 (↑c.life:Int)),(.int .u64 (↑c.ver:Int)),(.string (av c.tag)),(.string (av c.pre)),(.string (av c.child))])),(16,(fun v wz=>∃K1 k1 V1 v1 T1 t1,v=.agg (cL (eJ c) K1 k1 V1 v1 T1 t1).toArray∧RdS wz lo wz.heap.size K1 k1 (eJ c).keys∧RdB wz lo wz.heap.size V1 v1 (eJ c).value∧RdS wz lo wz.heap.size T1 t1 (eJ c).tags))] [[],[0],[1],[2],[3],[3,4],[3,5],[3,6],[7],[8],[8],[8,10]] _ [] [] ⟨sE,sE,sE,sE,sE,sE,sE,sE,sE,sE,sE,⟨(fun v w1 w2 ⟨K1,k1,V1,v1,T1,t1,hv,a,b,c⟩ he=>⟨K1,k1,V1,v1,T1,t1,hv,(a.ext he).mono (Nat.le_refl _) he.size,(b.ext he).mono (Nat.le_refl _) he.size,(c.ext he).mono (Nat.le_refl _) he.size⟩),fun _ he=>by cases he⟩,trivial⟩ ?_ ?_
 ·repeat' apply And.intro
  all_goals first|exact trivial|(intro wd bW;replace au:=au.ext bW;replace hK:=hK.ext bW;replace hV:=hV.ext bW;replace hT:=hT.ext bW;(repeat rintro _ rfl))
  exact am (ax (ah dA))
  exact am (ax (ak cO au))
  exact am (fL (bz))
  exact am (ax (aF))
  exact bn (ax (ah dA))
  exact bn (ax (ak cO au))
  exact bn (fL (bw))
  exact am (ax (ap))
  exact am (ax (aF))
  iterate 2 exact bn (ax (aK cc au))
  ·refine bn (OpRun.mono (aw RJ (wm _ c _ _ K ck V cv T ct hK hV hT)) ?_)
   rintro v w2 ⟨Ko,ko,Vo,vo,To,to,rfl,MX,Mx,MA,kB⟩
   have qh:=kB.size
   exact⟨⟨Ko,ko,Vo,vo,To,to,rfl,MX.mono (Nat.le_refl _) (by omega),Mx.mono (Nat.le_refl _) (by omega),MA.mono (Nat.le_refl _) (by omega)⟩,kB⟩
 ·intro wf1 jB
  replace hK:=hK.ext jB
  replace hV:=hV.ext jB
  replace hT:=hT.ext jB
  replace hE:=hE.tr jB
  replace au:=au.ext jB
  iterate 11 rintro _ rfl
  rintro _ ⟨Ko,ko,Vo,vo,To,to,rfl,MX,Mx,MA⟩
  refine bP (aw zk (iJ _ c _ _ K ck V cv T ct hK hV hT (eJ c) _ _ Ko ko Vo vo To to MX Mx MA)) ?_
  rintro v w2 ⟨rfl,jD⟩
  replace hK:=hK.ext jD
  replace hV:=hV.ext jD
  replace hT:=hT.ext jD
  replace hE:=hE.tr jD
  replace au:=au.ext jD
  refine aN (d:=17) rfl (bt (h3)) ?_
  refine aj (b6) ?_
  refine ab (ap) ?_
  refine ag (ae ?_)
  refine aC ?_
  refine aS (ae (af (aa ?_)))
  refine ab (ah dA) ?_
  refine ab (ak cO au) ?_
  refine ab (aw No (nI _ c.op)) ?_
  refine va ?_
  refine ag (ae (af (af (aa ?_))))
  refine va ?_
  refine ag (ae (a9 ?_))
  refine cU (fun i=>(aZ c.op).length - i) (fun i=>[(1,.pointer (some ⟨g1,0,none⟩)),(3,.string (av (aZ c.op))),(4,.int .i64 (i:Int))]) (fun i w'=>i≤(aZ c.op).length∧(aZ c.op).all (og c)=((aZ c.op).drop i).all (og c)∧Blk w' g1 39 (cL c K ck V cv T ct)∧RdS w' lo w.heap.size K ck c.keys∧RdB w' lo w.heap.size V cv c.value∧RdS w' lo w.heap.size T ct c.tags∧Ext w w') (0) (⟨Nat.zero_le _,rfl,au,hK,hV,hT,hE⟩) ?_ (hL:=⟨rfl,rfl,rfl,trivial⟩)
  rintro i wq ⟨nh,qq,au,hK,hV,hT,hE⟩
  have Am:=pi c.op
  replace au:Blk wq g1 39 [(.int .i64 c.op),(.string (av c.key)),(.slice K c.keys.length ck),(.slice V c.value.length cv),(.slice T c.tags.length ct),(.int .u64 (↑c.life:Int)),(.int .u64 (↑c.ver:Int)),(.string (av c.tag)),(.string (av c.pre)),(.string (av c.child))]:=au
  refine af (af (aa ?_))
  iterate 2 refine vm ?_
  refine ab (fW Tryz.underlying9) ?_
  refine ab (bz) ?_
  refine ag (ae ?_)
  refine aL (fun eN=>?_) (fun eN=>?_)
  ·have JH:=eC (ps:=(aZ c.op)) (i:=i)
   refine aS (ae (af (a9 (af ?_))))
   refine cC ej 4 [(29,a0 (.agg #[(.int .i64 c.op),(.string (av c.key)),(.slice K c.keys.length ck),(.slice V c.value.length cv),(.slice T c.tags.length ct),(.int .u64 (↑c.life:Int)),(.int .u64 (↑c.ver:Int)),(.string (av c.tag)),(.string (av c.pre)),(.string (av c.child))])),(30,a0 (.string (av (aZ c.op)))),(31,a0 (.int .i64 (↑i:Int))),(32,a0 (.int .u8 (↑((aZ c.op).getD i 0).toNat:Int)))] [[],[],[],[1,2]] _ [] [] (fun _ _ h=>h) trivial (by kernel_rfl) rfl ?_ ?_
   ·repeat' apply And.intro
    all_goals first|exact trivial|(intro wd bW;replace au:=au.ext bW;(repeat rintro _ rfl))
    exact am (ax (aK cc au))
    iterate 2 exact am (ax (aF))
    exact am (ax (pd (i:=(↑i:Int)) Tryz.underlying9 rfl rfl))
   ·intro wf7 sG
    replace hK:=hK.ext sG
    replace hV:=hV.ext sG
    replace hT:=hT.ext sG
    replace au:=au.ext sG
    replace hE:=hE.tr sG
    iterate 4 rintro _ rfl
    refine ar (aw Sj (xQ _ c _ _ K ck V cv T ct hK hV hT ((aZ c.op).getD i 0))) ?_
    rintro v w3 ⟨rfl,jC⟩
    replace hK:=hK.ext jC
    replace hV:=hV.ext jC
    replace hT:=hT.ext jC
    replace au:=au.ext jC
    replace hE:=hE.tr jC
    refine ab (b6) ?_
    refine ag (ae ?_)
    refine dJ (fun e9=>?_) (fun e9=>?_)
    ·have UJ:fd c=false:=by unfold fd;rw[qq,JH,List.all_cons,show og c ((aZ c.op).getD i 0)=false by simpa using e9,Bool.false_and,Bool.and_false]
     refine af (aa ?_)
     refine va ?_
     refine ag (ae (aE (aQ (az (az (aQ (az ?_)))))))
     refine aY ?_
     exact⟨by rw[UJ],hE⟩
    ·refine aS (bb (ae (aa ?_)))
     refine vm ?_
     refine ab (bH) ?_
     refine va ?_
     refine ag ?_
     refine cB (i+1) (by show(aZ c.op).length -(i+1)<(aZ c.op).length - i;omega) (⟨by omega,by rw[qq,eC,List.all_cons];rw[show og c ((aZ c.op).getD i 0)=true by simpa using e9,Bool.true_and],au,hK,hV,hT,hE⟩) (hL:=⟨rfl,rfl,rfl,trivial⟩)
  ·have UJ:fd c=true:=by unfold fd;rw[decide_eq_true (show 1≤c.op∧c.op≤15 by omega),decide_eq_true h3,qq,List.drop_of_length_le (by omega)];rfl
   refine cW (bx (bx (ce (ae (af (aa ?_))))))
   refine va ?_
   refine ag (ae (aE ?_))
   refine aY ?_
   exact⟨by rw[UJ],hE⟩
theorem yb (w:World) (c:Cmd) (lo hi:Nat) (K:Option Addr) (ck:Nat) (V:Option Addr) (cv:Nat) (T:Option Addr) (ct:Nat) (hK:RdS w lo hi K ck c.keys) (hV:RdB w lo hi V cv c.value) (hT:RdS w lo hi T ct c.tags):
  Fn Tryz.prog 83 #[.agg (cL c K ck V cv T ct).toArray] w (fun v w'=>v=.bool (fd c)∧Ext w w'):=by
 by_cases h1:c.op<1
 ·exact Bb w c lo hi K ck V cv T ct hK hV hT h1
 ·by_cases h2:15<c.op
  ·exact Bc w c lo hi K ck V cv T ct hK hV hT h2
  ·by_cases h3:c=eJ c
   ·exact Bd w c lo hi K ck V cv T ct hK hV hT (by omega) (by omega) h3
   ·exact Ba w c lo hi K ck V cv T ct hK hV hT (by omega) (by omega) h3
end Go.Proofs.YtiighkbehiddkaaGreat
namespace Go.Proofs.YtiighkbehiddkaaGreat
open Go.RowKit
set_option linter.unusedVariables false
set_option maxRecDepth 4000
theorem Sa:aX Tryz.prog 122=true:=by kernel_rfl
theorem YJ:aX Tryz.prog 82=true:=by kernel_rfl
theorem YI:aX Tryz.prog 83=true:=by kernel_rfl
theorem Gh:aX Tryz.prog 96=true:=by kernel_rfl
theorem RL:aX Tryz.prog 97=true:=by kernel_rfl
theorem RK:aX Tryz.prog 98=true:=by kernel_rfl
/-- What the reference reads: a number, a part, strings, a part of a command. -/
def nH (l:List UInt8):Bool:=decide ((cM l 65536).2.2=0)
def l8 (l:List UInt8):List UInt8:=if nH l=true then bh l else[]
def o0 (l:List UInt8):Bool:=decide ((bd l).2.2=0)
def qW (l:List UInt8):List UInt8:=if o0 l=true then cz l else[]
def oc:Nat→List UInt8→Bool
 |0,_=>false
 |n+1,l=>oc n l|| !nH (rS kv n l).2.1
def oZ (l:List UInt8):Bool:=o0 l&&decide (bO l≤16)&& !oc (bO l) (cz l)
def kE (l:List UInt8):List (List UInt8):=if oZ l=true then(rS kv (bO l) (cz l)).1 else[]
def qD (l:List UInt8):List UInt8:=if oZ l=true then(rS kv (bO l) (cz l)).2.1 else[]
theorem tn (l:List UInt8):∀{i n:Nat},i≤n→oc i l=true→oc n l=true
  | i, 0, h, he => by have : i = 0 := by omega
                      subst this;exact he
  | i, n + 1, h, he => by
    by_cases e:i=n+1
    · subst e;exact he
    · have:=tn l (i:=i) (n:=n) (by omega) he;rw[oc,this];rfl
theorem He (n:Nat) (l:List UInt8):(rS kv (n+1) l).1.flatMap gO=(rS kv n l).1.flatMap gO++[.string (av (bq (rS kv n l).2.1))]:=by
 show((rS kv n l).1++[bq (rS kv n l).2.1]).flatMap gO=_
 rw[List.flatMap_append];rfl
theorem Kz {l:List UInt8} (h:¬(bd l).2.2=0):bO l=0∧o0 l=false∧qW l=[]:=by
 have h2:o0 l=false:=decide_eq_false h
 exact⟨(vJ l h).1,h2,by unfold qW;rw[h2];rfl⟩
theorem OS {l:List UInt8} (h:(bd l).2.2=0):o0 l=true∧qW l=cz l:=by
 have h2:o0 l=true:=decide_eq_true h
 exact⟨h2,by unfold qW;rw[h2];rfl⟩
theorem J9 {l:List UInt8} (h:¬(cM l 65536).2.2=0):bq l=[]∧nH l=false∧l8 l=[]:=by
 have h2:nH l=false:=decide_eq_false h
 exact⟨(qy l 65536 h).1,h2,by unfold l8;rw[h2];rfl⟩
theorem N6 {l:List UInt8} (h:(cM l 65536).2.2=0):nH l=true∧l8 l=bh l:=by
 have h2:nH l=true:=decide_eq_true h
 exact⟨h2,by unfold l8;rw[h2];rfl⟩
theorem x3 {l:List UInt8} (h:oZ l=false):kE l=[]∧qD l=[]:=⟨by unfold kE;rw[h];rfl,by unfold qD;rw[h];rfl⟩
theorem zA {l:List UInt8} (h:oZ l=true):kE l=(rS kv (bO l) (cz l)).1∧qD l=(rS kv (bO l) (cz l)).2.1:=⟨by unfold kE;rw[h];rfl,by unfold qD;rw[h];rfl⟩
theorem G1 (l:List UInt8):(l8 l).length≤l.length:=by have:=eT l;unfold l8;split<;>simp<;>omega
theorem Hn (l:List UInt8):(qW l).length≤l.length:=by have:=iq l;unfold qW;split<;>simp<;>omega
theorem G2 (l:List UInt8):(qD l).length≤l.length:=by
 have h1:=iq l
 have h2:=(ip kv (cz l) (bO l)).2
 unfold qD;split<;>simp<;>omega
def fF (c:Cmd) (p:UInt8) (l:List UInt8):Cmd:=
 if p=107 then{c with key:=bq l} else if p=118 then{c with value:=bq l} else if p=116 then{c with tags:=kE l} else if p=108 then{c with life:=bO l} else if p=110 then{c with ver:=bO l}
 else if p=109 then{c with keys:=kE l} else if p=103 then{c with tag:=bq l} else if p=112 then{c with pre:=bq l} else if p=99 then{c with child:=bq l} else c
def dh (p:UInt8) (l:List UInt8):List UInt8:=if p=108∨p=110 then qW l else if p=116∨p=109 then qD l else l8 l
def lr (p:UInt8) (l:List UInt8):Bool:=if p=108∨p=110 then o0 l else if p=116∨p=109 then oZ l else nH l
theorem Dn (p:UInt8) (l:List UInt8):(dh p l).length≤l.length:=by
 have h1:=Hn l
 have h2:=G2 l
 have h3:=G1 l
 unfold dh;repeat' split
 all_goals assumption
/-- Parts, one after the other. -/
def rr:List UInt8→Cmd→List UInt8→Option (Cmd×List UInt8)
 |[],c,l=>some (c,l)
 |p::ps,c,l=>if lr p l=true then rr ps (fF c p l) (dh p l) else none
def cZ (code:UInt8) (l:List UInt8):Option Cmd:=
 match rr (aZ (code.toNat:Int)) (cmd0 (code.toNat:Int)) l with
 |none=>none
 |some (c,q)=>if q.length=0∧fd c=true then some c else none
theorem sX (w:World) (lo hi:Nat) (A:Option Addr) (c:Nat) (l:List UInt8) (hr:RdB w lo hi A c l) (bI:l.length≤140737488355328):
  Fn Tryz.prog 98 #[(.slice A l.length c)] w (fun v w'=>∃A c,v=.tuple #[.string (av (bq l)),.slice A (l8 l).length c,.bool (nH l)]∧RdB w' lo hi A c (l8 l)∧Ext w w'):=by
 have hE:=aP w
 refine aO Tryz.func98 ?_
 refine af (aa ?_)
 iterate 3 refine va ?_
 refine ag (ae (af (aa ?_)))
 refine vm ?_
 refine ar (aw Sa (sq _ _ _ _ _ l 65536 (by omega) hr (by omega))) ?_
 rintro v w1 ⟨A10,c10,rfl,eY,cY⟩
 replace hr:=hr.ext cY
 replace hE:=hE.tr cY
 refine vm ?_
 iterate 3 refine vx ?_
 iterate 3 refine va ?_
 refine ag (ae (af (af (aa ?_))))
 refine vm ?_
 refine ab (bS) ?_
 refine ag (ae ?_)
 refine aL (fun dM=>?_) (fun dM=>?_)
 ·obtain⟨e1,e2,e3⟩:=J9 (l:=l) (by omega)
  refine af (aa ?_)
  iterate 3 refine va ?_
  refine ag (ae (aE (az ?_)))
  refine dB ?_
  rw[e1,e2,e3]
  exact⟨none,0,rfl,RdB.nil _ _ _,hE⟩
 ·obtain⟨e2,e3⟩:=N6 (l:=l) (by omega)
  have hvp:=kD l 65536
  refine aS (ae (af ?_))
  refine fD 6 [(16,a0 (.slice A10 (cM l 65536).1.length c10)),(17,a0 (.string (av (cM l 65536).1))),(18,a0 (.slice A l.length c)),(19,a0 (.int .i64 (↑(cM l 65536).2.1:Int))),(20,(fun v wz=>∃A c,v=.slice A (l.drop (cM l 65536).2.1).length c∧RdB wz lo hi A c (l.drop (cM l 65536).2.1))),(2,a0 (.string (av (cM l 65536).1)))] [[],[0],[],[],[2,3],[1]] [(0,(.slice A l.length c)),(3,(.slice none 0 0)),(4,(.bool false)),(5,(.slice A10 (cM l 65536).1.length c10)),(6,(.int .i64 (↑(cM l 65536).2.1:Int)))] [] [] ⟨sE,sE,sE,sE,⟨(fun v w1 w2 ⟨A,c,hv,ho⟩ he=>⟨A,c,hv,ho.ext he⟩),fun _ he=>by cases he⟩,sE,trivial⟩ ?_ ?_ (CZ:=Env.sub_get ⟨rfl,rfl,rfl,rfl,rfl,trivial⟩)
  ·repeat' apply And.intro
   all_goals first|exact trivial|(intro wd bW;replace eY:=Own.ext eY bW;replace hr:=hr.ext bW;(repeat rintro _ rfl))
   exact am (ax (aF))
   exact am (ax (gB cE Tryz.underlying9 (OwnB.rd eY)))
   iterate 2 exact am (ax (aF))
   ·have Mc:=RdB.cap hr
    refine am (OpRun.mono (dP cE hr (iC rfl (by omega) (by omega))) ?_)
    rintro v _ ⟨rfl,A20,c20,rfl,rm,ED⟩
    have yJ:(l.drop (Int.toNat (↑(cM l 65536).2.1:Int))).take (l.length -(Int.toNat (↑(cM l 65536).2.1:Int)))=(l.drop (cM l 65536).2.1):=AL l
    rw[yJ] at rm ED;rw[yJ];clear yJ
    exact⟨⟨A20,c20,rfl,rm⟩,aP _⟩
   exact am (ax (eU))
  ·intro wf4 ll
   replace hE:=hE.tr ll
   iterate 4 rintro _ rfl
   rintro _ ⟨A20,c20,rfl,rm⟩
   rintro _ rfl
   iterate 2 refine va ?_
   refine ag (ae (aE ?_))
   refine dB ?_
   rw[e2,e3]
   exact⟨A20,c20,rfl,rm,hE⟩
theorem jc (w:World) (lo hi:Nat) (A:Option Addr) (c:Nat) (l:List UInt8) (hr:RdB w lo hi A c l) (bI:l.length≤140737488355328:=by omega):
  Fn Tryz.prog 96 #[(.slice A l.length c)] w (fun v w'=>∃A c,v=.tuple #[.int .u64 (bO l:Int),.slice A (qW l).length c,.bool (o0 l)]∧RdB w' lo hi A c (qW l)∧Ext w w'):=by
 have hE:=aP w
 refine aO Tryz.func96 ?_
 refine af (aa ?_)
 iterate 3 refine va ?_
 refine ag (ae (af (aa ?_)))
 refine vm ?_
 refine ab (aw Np (qH _ _ _ _ _ l hr)) ?_
 refine vm ?_
 iterate 3 refine vx ?_
 iterate 3 refine va ?_
 refine ag (ae (af (af (aa ?_))))
 refine vm ?_
 refine ab (bS) ?_
 refine ag (ae ?_)
 refine aL (fun dM=>?_) (fun dM=>?_)
 ·obtain⟨e1,e2,e3⟩:=Kz (l:=l) (by omega)
  refine af (aa ?_)
  iterate 3 refine va ?_
  refine ag (ae (aE (az ?_)))
  refine dB ?_
  rw[e1,e2,e3]
  exact⟨none,0,rfl,RdB.nil _ _ _,hE⟩
 ·obtain⟨e2,e3⟩:=OS (l:=l) (by omega)
  have Zs:=gA l
  refine aS (ae (af ?_))
  refine fD 5 [(16,a0 (.int .u64 (↑(bd l).1:Int))),(17,a0 (.slice A l.length c)),(18,a0 (.int .i64 (↑(bd l).2.1:Int))),(19,(fun v wz=>∃A c,v=.slice A (l.drop (bd l).2.1).length c∧RdB wz lo hi A c (l.drop (bd l).2.1))),(2,a0 (.int .u64 (↑(bd l).1:Int)))] [[],[],[],[1,2],[0]] [(0,(.slice A l.length c)),(3,(.slice none 0 0)),(4,(.bool false)),(5,(.int .u64 (↑(bd l).1:Int))),(6,(.int .i64 (↑(bd l).2.1:Int)))] [] [] ⟨sE,sE,sE,⟨(fun v w1 w2 ⟨A,c,hv,ho⟩ he=>⟨A,c,hv,ho.ext he⟩),fun _ he=>by cases he⟩,sE,trivial⟩ ?_ ?_ (CZ:=Env.sub_get ⟨rfl,rfl,rfl,rfl,rfl,trivial⟩)
  ·repeat' apply And.intro
   all_goals first|exact trivial|(intro wd bW;replace hr:=hr.ext bW;(repeat rintro _ rfl))
   iterate 3 exact am (ax (aF))
   ·have WN:=RdB.cap hr
    refine am (OpRun.mono (dP cE hr (iC rfl (by omega) (by omega))) ?_)
    rintro v _ ⟨rfl,A19,c19,rfl,HP,VV⟩
    have Lq:(l.drop (Int.toNat (↑(bd l).2.1:Int))).take (l.length -(Int.toNat (↑(bd l).2.1:Int)))=(l.drop (bd l).2.1):=AL l
    rw[Lq] at HP VV;rw[Lq];clear Lq
    exact⟨⟨A19,c19,rfl,HP⟩,aP _⟩
   exact am (ax (eU))
  ·intro wf4 ll
   replace hE:=hE.tr ll
   iterate 3 rintro _ rfl
   rintro _ ⟨A19,c19,rfl,HP⟩
   rintro _ rfl
   iterate 2 refine va ?_
   refine ag (ae (aE ?_))
   refine dB ?_
   rw[e2,e3]
   exact⟨A19,c19,rfl,HP,hE⟩
theorem yd (w:World) (lo hi:Nat) (A:Option Addr) (c:Nat) (l:List UInt8) (hr:RdB w lo hi A c l) (bI:l.length≤140737488355328) (fP:hi≤w.heap.size) (hn:o0 l=false) (ho:oZ l=false):
  Fn Tryz.prog 97 #[(.slice A l.length c)] w (fun v w'=>∃B d A c,v=.tuple #[.slice B (kE l).length d,.slice A (qD l).length c,.bool (oZ l)]∧Own w' w.heap.size 9 1 B (kE l).length d ((kE l).flatMap gO)∧RdB w' lo hi A c (qD l)∧Ext w w'):=by
 have hE:=aP w
 refine aO Tryz.func97 ?_
 refine af (aa ?_)
 iterate 3 refine va ?_
 refine ag (ae (af (aa ?_)))
 refine vm ?_
 refine ar (aw Gh (jc _ _ _ A c l hr)) ?_
 rintro v w1 ⟨A14,c14,rfl,uj,jV⟩
 replace hE:=hE.tr jV
 refine vm ?_
 iterate 3 refine vx ?_
 iterate 3 refine va ?_
 refine ag (ae (af (af (aa ?_))))
 refine vm ?_
 refine aN (d:=18) rfl (v':=(.bool false)) (by rw[hn];rfl) ?_
 refine ab (b6) ?_
 refine vm ?_
 iterate 2 refine aA ?_
 refine ab (ay) ?_
 refine ag (ae ?_)
 refine aR ?_
 refine af (aa ?_)
 iterate 3 refine va ?_
 refine ag (ae (aE (az ?_)))
 refine dB ?_
 obtain⟨e1,e2⟩:=x3 ho
 rw[e1,e2,ho]
 exact⟨none,0,none,0,rfl,Own.nil_ _ _ _ _,RdB.nil _ _ _,hE⟩
theorem ye (w:World) (lo hi:Nat) (A:Option Addr) (c:Nat) (l:List UInt8) (hr:RdB w lo hi A c l) (bI:l.length≤140737488355328) (fP:hi≤w.heap.size) (hn:o0 l=true) (pF:16<bO l) (ho:oZ l=false):
  Fn Tryz.prog 97 #[(.slice A l.length c)] w (fun v w'=>∃B d A c,v=.tuple #[.slice B (kE l).length d,.slice A (qD l).length c,.bool (oZ l)]∧Own w' w.heap.size 9 1 B (kE l).length d ((kE l).flatMap gO)∧RdB w' lo hi A c (qD l)∧Ext w w'):=by
 have hE:=aP w
 refine aO Tryz.func97 ?_
 refine af (aa ?_)
 iterate 3 refine va ?_
 refine ag (ae (af (aa ?_)))
 refine vm ?_
 refine ar (aw Gh (jc _ _ _ A c l hr)) ?_
 rintro v w1 ⟨A14,c14,rfl,uj,jV⟩
 replace hE:=hE.tr jV
 refine vm ?_
 iterate 3 refine vx ?_
 iterate 3 refine va ?_
 refine ag (ae (af (af (aa ?_))))
 refine vm ?_
 refine aN (d:=18) rfl (v':=(.bool true)) (by rw[hn];rfl) ?_
 refine ab (b6) ?_
 refine vm ?_
 refine aj (aF) ?_
 refine aj (bw) ?_
 refine aN (d:=22) rfl (bt (by omega)) ?_
 refine ab (ap) ?_
 refine ag (ae ?_)
 refine aR ?_
 refine af (aa ?_)
 iterate 3 refine va ?_
 refine ag (ae (aE (az ?_)))
 refine dB ?_
 obtain⟨e1,e2⟩:=x3 ho
 rw[e1,e2,ho]
 exact⟨none,0,none,0,rfl,Own.nil_ _ _ _ _,RdB.nil _ _ _,hE⟩
theorem yc (w:World) (lo hi:Nat) (A:Option Addr) (c:Nat) (l:List UInt8) (hr:RdB w lo hi A c l) (bI:l.length≤140737488355328) (fP:hi≤w.heap.size) (hn:o0 l=true) (pF:bO l≤16) (hnr:qW l=cz l):
  Fn Tryz.prog 97 #[(.slice A l.length c)] w (fun v w'=>∃B d A c,v=.tuple #[.slice B (kE l).length d,.slice A (qD l).length c,.bool (oZ l)]∧Own w' w.heap.size 9 1 B (kE l).length d ((kE l).flatMap gO)∧RdB w' lo hi A c (qD l)∧Ext w w'):=by
 have hE:=aP w
 refine aO Tryz.func97 ?_
 refine af (aa ?_)
 iterate 3 refine va ?_
 refine ag (ae (af (aa ?_)))
 refine vm ?_
 refine ar (aw Gh (jc _ _ _ A c l hr)) ?_
 rintro v w1 ⟨A14,c14,rfl,uj,jV⟩
 replace hE:=hE.tr jV
 have z7:=jV.size
 rw[hnr] at uj
 refine aN (d:=14) rfl (v':=.tuple #[.int .u64 (bO l:Int),.slice A14 (cz l).length c14,.bool (o0 l)]) (by rw[hnr]) ?_
 have Qg:=iq l
 refine vm ?_
 iterate 3 refine vx ?_
 iterate 3 refine va ?_
 refine ag (ae (af (af (aa ?_))))
 refine vm ?_
 refine aN (d:=18) rfl (v':=(.bool true)) (by rw[hn];rfl) ?_
 refine ab (b6 (b:=true)) ?_
 refine vm ?_
 refine aj (aF) ?_
 refine aj (bw) ?_
 refine aN (d:=22) rfl (bf (by omega)) ?_
 refine ab (ap) ?_
 refine ag (ae ?_)
 refine aC ?_
 refine aS (ae (af (aa ?_)))
 refine va ?_
 refine ag (ae (af (af (aa ?_))))
 refine va ?_
 refine ag (ae (a9 ?_))
 refine cU (σ:=Nat×Option Addr×Nat×Option Addr×Nat) (fun s=>bO l - s.1) (fun s=>[(0,.slice s.2.1 (rS kv s.1 (cz l)).2.1.length s.2.2.1),(5,.int .u64 (bO l:Int)),(7,.slice s.2.2.2.1 s.1 s.2.2.2.2),(8,.int .u64 (s.1:Int))]) (fun s w'=>s.1≤bO l∧oc s.1 (cz l)=false∧RdB w' lo hi s.2.1 s.2.2.1 (rS kv s.1 (cz l)).2.1∧Own w' w.heap.size 9 1 s.2.2.2.1 s.1 s.2.2.2.2 ((rS kv s.1 (cz l)).1.flatMap gO)∧Ext w w') ((0,A14,c14,none,0)) (⟨Nat.zero_le _,rfl,uj,Own.nil_ _ _ _ _,hE⟩) ?_
 rintro⟨i,Ai,ci,Bi,di⟩ wq ⟨nh,Tk,tf,qn,hE⟩
 simp only at nh Tk
 replace tf:RdB wq lo hi Ai ci (rS kv i (cz l)).2.1:=tf
 replace qn:Own wq w.heap.size 9 1 Bi i di ((rS kv i (cz l)).1.flatMap gO):=qn
 have ud:=hE.size
 have Af:=(ip kv (cz l) i).2
 refine af (af (aa ?_))
 iterate 2 refine vm ?_
 refine ab (bz) ?_
 refine ag (ae ?_)
 refine aL (fun eN=>?_) (fun eN=>?_)
 ·refine aS (ae (af (a9 (af (aa ?_)))))
  refine vm ?_
  refine ar (aw RK (sX _ _ _ Ai ci (rS kv i (cz l)).2.1 tf (by omega))) ?_
  rintro v w2 ⟨A31,c31,rfl,nS,uC⟩
  replace qn:=Own.ext qn uC
  replace hE:=hE.tr uC
  have HD:=uC.size
  refine vm ?_
  iterate 3 refine vx ?_
  iterate 3 refine va ?_
  refine ag (ae (af (af (aa ?_))))
  refine vm ?_
  refine ab (b6) ?_
  refine ag (ae ?_)
  refine dJ (fun e9=>?_) (fun e9=>?_)
  ·have eo:nH (rS kv i (cz l)).2.1=false:=by simpa using e9
   have ho:oZ l=false:=by unfold oZ;rw[tn (cz l) (i:=i+1) (by omega) (by rw[oc,eo];simp)];simp
   refine af (aa ?_)
   iterate 3 refine va ?_
   refine ag (ae (aE (az (aQ (az (az (aQ (az ?_))))))))
   refine dB ?_
   obtain⟨e1,e2⟩:=x3 ho
   rw[e1,e2,ho]
   exact⟨none,0,none,0,rfl,Own.nil_ _ _ _ _,RdB.nil _ _ _,hE⟩
  ·have eo:nH (rS kv i (cz l)).2.1=true:=by simpa using e9
   have er:l8 (rS kv i (cz l)).2.1=(rS kv (i+1) (cz l)).2.1:=by unfold l8;rw[eo];rfl
   rw[er] at nS
   refine vF (d:=10) rfl (v':=.slice A31 (rS kv (i+1) (cz l)).2.1.length c31) (by rw[er];rfl) ?_
   refine aS (ae (af (aa ?_)))
   iterate 2 refine vm ?_
   refine ar (j9 (os:=[.tmp 38]) p5 rfl rfl rfl (by decide)) ?_
   rintro v w203 ⟨g39,rfl,Mk,E0,hl39,hu39,_⟩
   replace qn:=Own.ext qn E0
   replace hE:=hE.tr E0
   replace nS:=nS.ext E0
   refine ar (j1 p5 rfl qn rfl (Blk.rd1 Mk) (by simp[Value.oneCell']) (by simp only[maxLen];omega)) ?_
   rintro v w204 ⟨A40,c40,rfl,LH,xe,ha40⟩
   have PN:=fun g e=>Own.lt qn (g:=g) e
   replace hE:=hE.gr xe (fun g e=>by have:=PN g e;omega)
   replace nS:=nS.gr xe (fun g e=>by have:=PN g e;omega)
   replace LH:Own w204 w.heap.size 9 1 A40 (i+1) c40 ((rS kv (i+1) (cz l)).1.flatMap gO):=by rw[He];exact LH
   refine va ?_
   refine ag (ae (aa ?_))
   refine vm ?_
   refine va ?_
   refine ag (bb (ae (aa ?_)))
   refine vm ?_
   refine ab (bH (hm:=sl)) ?_
   refine va ?_
   refine ag ?_
   refine cB ((i+1,A31,c31,A40,c40)) (by show bO l -(i+1)<bO l - i;omega) (⟨by show i+1≤_;omega,by show oc (i+1) (cz l)=false;rw[oc,Tk,eo];rfl,nS,LH,hE⟩)
 ·have mz:i=bO l:=by omega
  subst mz
  have ho:oZ l=true:=by unfold oZ;rw[hn,Tk,decide_eq_true pF];rfl
  obtain⟨e1,e2⟩:=zA ho
  have Ae:=(ip kv (cz l) (bO l)).1
  refine cW (bx (bx (ce (ae (af (aa ?_))))))
  iterate 2 refine vm ?_
  iterate 3 refine va ?_
  refine ag (ae (aE ?_))
  refine dB ?_
  refine⟨Bi,di,Ai,ci,?_,?_,?_,hE⟩
  ·rw[e1,e2,ho,Ae]
  ·rw[e1,Ae];exact qn
  ·rw[e2];exact tf
theorem qF (w:World) (lo hi:Nat) (A:Option Addr) (c:Nat) (l:List UInt8) (hr:RdB w lo hi A c l) (bI:l.length≤140737488355328) (fP:hi≤w.heap.size):
  Fn Tryz.prog 97 #[.slice A l.length c] w (fun v w'=>∃B d A c,v=.tuple #[.slice B (kE l).length d,.slice A (qD l).length c,.bool (oZ l)]∧Own w' w.heap.size 9 1 B (kE l).length d ((kE l).flatMap gO)∧RdB w' lo hi A c (qD l)∧Ext w w'):=by
 by_cases hn:o0 l=true
 ·by_cases pF:bO l≤16
  ·exact yc w lo hi A c l hr bI fP hn pF (by unfold qW;rw[hn];rfl)
  ·exact ye w lo hi A c l hr bI fP hn (by omega) (by unfold oZ;rw[decide_eq_false pF];simp)
 ·have hn':o0 l=false:=by simpa using hn
  exact yd w lo hi A c l hr bI fP hn' (by unfold oZ;rw[hn'];rfl)
def RdOut (x:Cmd) (q:List UInt8) (b:Bool) (b0 lo hi:Nat) (w:World) (u:Value):Prop:=∃K k V v T t A c,u=.tuple #[.agg (cL x K k V v T t).toArray,.slice A q.length c,.bool b]∧(RdT w b0 9 K x.keys.length k (x.keys.flatMap gO)∧RdT w b0 5 V x.value.length v (x.value.map j3)∧RdT w b0 9 T x.tags.length t (x.tags.flatMap gO))∧RdB w lo hi A c q
def CmdOut (x:Cmd) (b0:Nat) (w:World) (u:Value):Prop:=∃K k V v T t,u=.agg (cL x K k V v T t).toArray∧RdT w b0 9 K x.keys.length k (x.keys.flatMap gO)∧RdT w b0 5 V x.value.length v (x.value.map j3)∧RdT w b0 9 T x.tags.length t (x.tags.flatMap gO)
def CmdAt (x:Cmd) (b0:Nat) (B:Nat) (w:World) (u:Value):Prop:=∃g,u=.pointer (some ⟨g,0,none⟩)∧B≤g∧∃K k V v T t,Blk w g 39 (cL x K k V v T t)∧RdT w b0 9 K x.keys.length k (x.keys.flatMap gO)∧RdT w b0 5 V x.value.length v (x.value.map j3)∧RdT w b0 9 T x.tags.length t (x.tags.flatMap gO)
theorem RdOut.ext {x:Cmd} {q:List UInt8} {b:Bool} {b0 lo hi:Nat} {w w':World} {u:Value} (h:RdOut x q b b0 lo hi w u) (he:Ext w w'):RdOut x q b b0 lo hi w' u:=by
 obtain⟨K,k,V,v,T,t,A,c,e,⟨h1,h2,h3⟩,h4⟩:=h
 exact⟨K,k,V,v,T,t,A,c,e,⟨h1.ext he,h2.ext he,h3.ext he⟩,h4.ext he⟩
theorem RdOut.rt {x:Cmd} {q:List UInt8} {b:Bool} {b0 lo hi B:Nat} {w w':World} {u:Value} (h:RdOut x q b b0 lo hi w u) (k:RT B [39] w w') (hB:hi≤B):RdOut x q b b0 lo hi w' u:=by
 obtain⟨K,k2,V,v,T,t,A,c,e,⟨h1,h2,h3⟩,h4⟩:=h
 exact⟨K,k2,V,v,T,t,A,c,e,⟨h1.rt k (by decide),h2.rt k (by decide),h3.rt k (by decide)⟩,k.rd h4 hB⟩
theorem CmdOut.ext {x:Cmd} {b0:Nat} {w w':World} {u:Value} (h:CmdOut x b0 w u) (he:Ext w w'):CmdOut x b0 w' u:=by
 obtain⟨K,k,V,v,T,t,e,h1,h2,h3⟩:=h
 exact⟨K,k,V,v,T,t,e,h1.ext he,h2.ext he,h3.ext he⟩
theorem CmdOut.rt {x:Cmd} {b0 B:Nat} {w w':World} {u:Value} (h:CmdOut x b0 w u) (k:RT B [39] w w'):CmdOut x b0 w' u:=by
 obtain⟨K,k2,V,v,T,t,e,h1,h2,h3⟩:=h
 exact⟨K,k2,V,v,T,t,e,h1.rt k (by decide),h2.rt k (by decide),h3.rt k (by decide)⟩
theorem CmdAt.ext {x:Cmd} {b0 B:Nat} {w w':World} {u:Value} (h:CmdAt x b0 B w u) (he:Ext w w'):CmdAt x b0 B w' u:=by
 obtain⟨g,e,hg,K,k,V,v,T,t,hb,h1,h2,h3⟩:=h
 exact⟨g,e,hg,K,k,V,v,T,t,hb.ext he,h1.ext he,h2.ext he,h3.ext he⟩
theorem yl (w:World) (b0:Nat) (kf:b0≤w.heap.size) (cm:Cmd) (K:Option Addr) (k:Nat) (V:Option Addr) (v:Nat) (T:Option Addr) (t:Nat) (hK:RdT w b0 9 K cm.keys.length k (cm.keys.flatMap gO)) (hV:RdT w b0 5 V cm.value.length v (cm.value.map j3)) (hT:RdT w b0 9 T cm.tags.length t (cm.tags.flatMap gO)) (p:UInt8) (lo hi:Nat) (A:Option Addr) (c:Nat) (l:List UInt8) (hr:RdB w lo hi A c l) (fP:hi≤w.heap.size) (bI:l.length≤140737488355328):
  Fn Tryz.prog 82 #[(.agg #[(.int .i64 cm.op),(.string (av cm.key)),(.slice K cm.keys.length k),(.slice V cm.value.length v),(.slice T cm.tags.length t),(.int .u64 (↑cm.life:Int)),(.int .u64 (↑cm.ver:Int)),(.string (av cm.tag)),(.string (av cm.pre)),(.string (av cm.child))]),(.int .u8 (↑p.toNat:Int)),(.slice A l.length c)] w (fun u w'=>RdOut (fF cm p l) (dh p l) (lr p l) b0 lo hi w' u∧Ext w w'):=by
 have hE:=aP w
 have P0:=pc l
 refine aO (args:=[(.agg #[(.int .i64 cm.op),(.string (av cm.key)),(.slice K cm.keys.length k),(.slice V cm.value.length v),(.slice T cm.tags.length t),(.int .u64 (↑cm.life:Int)),(.int .u64 (↑cm.ver:Int)),(.string (av cm.tag)),(.string (av cm.pre)),(.string (av cm.child))]),(.int .u8 (↑p.toNat:Int)),(.slice A l.length c)]) Tryz.func82 ?_
 refine af (aa ?_)
 refine ar (bU (cs:=[(.int .i64 cm.op),(.string (av cm.key)),(.slice K cm.keys.length k),(.slice V cm.value.length v),(.slice T cm.tags.length t),(.int .u64 (↑cm.life:Int)),(.int .u64 (↑cm.ver:Int)),(.string (av cm.tag)),(.string (av cm.pre)),(.string (av cm.child))])) ?_
 rintro v w1 ⟨g3,rfl,aM,d7,sy,su⟩
 replace hK:=RdT.ext hK d7
 replace hV:=RdT.ext hV d7
 replace hT:=RdT.ext hT d7
 replace hr:=hr.ext d7
 replace hE:=hE.tr d7
 refine ar (bc (cs:=[(.int .i64 0),(.string (av [])),(.slice none 0 0),(.slice none 0 0),(.slice none 0 0),(.int .u64 0),(.int .u64 0),(.string (av [])),(.string (av [])),(.string (av []))]) fl) ?_
 rintro v w2 ⟨g6,rfl,bp,lm,Ti,Te⟩
 replace hK:=RdT.ext hK lm
 replace hV:=RdT.ext hV lm
 replace hT:=RdT.ext hT lm
 replace hr:=hr.ext lm
 replace hE:=hE.tr lm
 replace aM:=aM.ext lm
 iterate 2 refine va ?_
 refine ag (ae (af (aa ?_)))
 refine va ?_
 refine ag (ae (af (aa ?_)))
 refine va ?_
 refine ag (ae (af (aa ?_)))
 refine va ?_
 refine ag (ae (af (aa ?_)))
 refine va ?_
 refine ag (ae (af (af (aa ?_))))
 refine vm ?_
 refine ag (ae (a9 (af (af (aa ?_)))))
 refine ve ?_
 refine va ?_
 refine ag (ae ?_)
 refine aL (fun dM=>?_) (fun dM=>?_)
 ·have eb:p=108:=toNat_inj dM
  refine aS (ae ?_)
  refine d6 rfl (decide_eq_true dM) ?_
  refine aa ?_
  refine vm ?_
  refine ar (aw Gh (jc _ _ _ A c l hr)) ?_
  rintro v w3 ⟨A25,c25,rfl,iQ,fY⟩
  replace hK:=RdT.ext hK fY
  replace hV:=RdT.ext hV fY
  replace hT:=RdT.ext hT fY
  replace hE:=hE.tr fY
  replace aM:=aM.ext fY
  replace bp:=bp.ext fY
  refine vm ?_
  iterate 3 refine vx ?_
  iterate 3 refine va ?_
  refine ag (bb (ae (af (af (aa ?_)))))
  refine vm ?_
  refine ag (ae (a9 (af (aa ?_))))
  refine ve ?_
  refine va ?_
  refine ag (ae ?_)
  refine dD rfl (decide_eq_false (by omega)) ?_
  refine af (aa ?_)
  refine ve ?_
  refine va ?_
  refine ag (ae ?_)
  refine dD rfl (decide_eq_false (by omega)) ?_
  refine af (aa ?_)
  refine ve ?_
  refine va ?_
  refine ag (ae ?_)
  refine dD rfl (decide_eq_false (by omega)) ?_
  refine af (aa ?_)
  refine ve ?_
  refine va ?_
  refine ag (ae ?_)
  refine d6 rfl (decide_eq_true dM) ?_
  refine aa ?_
  refine vm ?_
  refine ab (ah (off:=5) k8) ?_
  refine aB (aU (cs':=[(.int .i64 cm.op),(.string (av cm.key)),(.slice K cm.keys.length k),(.slice V cm.value.length v),(.slice T cm.tags.length t),(.int .u64 (↑(bO l):Int)),(.int .u64 (↑cm.ver:Int)),(.string (av cm.tag)),(.string (av cm.pre)),(.string (av cm.child))]) G4 aM) ?_
  rintro _ w4 ⟨gT,cQ⟩
  replace hK:=RdT.gr hK cQ aM (by decide)
  replace hV:=RdT.gr hV cQ aM (by decide)
  replace hT:=RdT.gr hT cQ aM (by decide)
  replace hE:=hE.gr cQ
  replace bp:=bp.gr cQ
  replace iQ:=iQ.gr cQ
  replace aM:=gT
  refine ag (bb (ae (af (aa ?_))))
  refine ab (aK (cs:=[(.int .i64 cm.op),(.string (av cm.key)),(.slice K cm.keys.length k),(.slice V cm.value.length v),(.slice T cm.tags.length t),(.int .u64 (↑(bO l):Int)),(.int .u64 (↑cm.ver:Int)),(.string (av cm.tag)),(.string (av cm.pre)),(.string (av cm.child))]) cc aM) ?_
  iterate 2 refine vm ?_
  refine aB (aD (vs:=[(.int .i64 cm.op),(.string (av cm.key)),(.slice K cm.keys.length k),(.slice V cm.value.length v),(.slice T cm.tags.length t),(.int .u64 (↑(bO l):Int)),(.int .u64 (↑cm.ver:Int)),(.string (av cm.tag)),(.string (av cm.pre)),(.string (av cm.child))]) fy bp) ?_
  rintro _ w5 ⟨pE,fB⟩
  replace hK:=RdT.gr hK fB bp (by decide)
  replace hV:=RdT.gr hV fB bp (by decide)
  replace hT:=RdT.gr hT fB bp (by decide)
  replace hE:=hE.gr fB
  replace iQ:=iQ.gr fB
  replace bp:=pE
  iterate 2 refine va ?_
  refine ag (ae (aE ?_))
  refine bm (rs:=[.cell 6 39,.tmp 7,.tmp 8]) (vs:=[.agg #[(.int .i64 cm.op),(.string (av cm.key)),(.slice K cm.keys.length k),(.slice V cm.value.length v),(.slice T cm.tags.length t),(.int .u64 (↑(bO l):Int)),(.int .u64 (↑cm.ver:Int)),(.string (av cm.tag)),(.string (av cm.pre)),(.string (av cm.child))],(.slice A25 (qW l).length c25),(.bool (o0 l))]) rfl ⟨⟨_,_,[(.int .i64 cm.op),(.string (av cm.key)),(.slice K cm.keys.length k),(.slice V cm.value.length v),(.slice T cm.tags.length t),(.int .u64 (↑(bO l):Int)),(.int .u64 (↑cm.ver:Int)),(.string (av cm.tag)),(.string (av cm.pre)),(.string (av cm.child))],rfl,cc,bp,rfl⟩,rfl,rfl,trivial⟩ ?_
  have f1:fF cm p l={cm with life:=bO l}:=by rw[eb];rfl
  have f2:dh p l=qW l:=by rw[eb];rfl
  have f3:lr p l=o0 l:=by rw[eb];rfl
  rw[f1,f2,f3]
  exact⟨⟨K,k,V,v,T,t,A25,c25,rfl,⟨hK,hV,hT⟩,iQ⟩,hE⟩
 ·have nb108:¬p=108:=fun e=>dM (by rw[e];rfl)
  refine aa ?_
  refine ve ?_
  refine va ?_
  refine ag (ae ?_)
  refine aL (fun eN=>?_) (fun eN=>?_)
  ·have eb:p=110:=toNat_inj eN
   refine aa ?_
   refine vm ?_
   refine ar (aw Gh (jc _ _ _ A c l hr)) ?_
   rintro v w203 ⟨A25,c25,rfl,iQ,fY⟩
   replace hK:=RdT.ext hK fY
   replace hV:=RdT.ext hV fY
   replace hT:=RdT.ext hT fY
   replace hE:=hE.tr fY
   replace aM:=aM.ext fY
   replace bp:=bp.ext fY
   refine vm ?_
   iterate 3 refine vx ?_
   iterate 3 refine va ?_
   refine ag (bb (ae (af (af (aa ?_)))))
   refine vm ?_
   refine ag (ae (a9 (af (aa ?_))))
   refine ve ?_
   refine va ?_
   refine ag (ae ?_)
   refine dD rfl (decide_eq_false (by omega)) ?_
   refine af (aa ?_)
   refine ve ?_
   refine va ?_
   refine ag (ae ?_)
   refine dD rfl (decide_eq_false (by omega)) ?_
   refine af (aa ?_)
   refine ve ?_
   refine va ?_
   refine ag (ae ?_)
   refine dD rfl (decide_eq_false (by omega)) ?_
   refine af (aa ?_)
   refine ve ?_
   refine va ?_
   refine ag (ae ?_)
   refine dD rfl (decide_eq_false (by omega)) ?_
   refine af (aa ?_)
   refine ve ?_
   refine va ?_
   refine ag (ae ?_)
   refine d6 rfl (decide_eq_true eN) ?_
   refine aa ?_
   refine vm ?_
   refine ab (ah (off:=6) pL) ?_
   refine aB (aU (cs':=[(.int .i64 cm.op),(.string (av cm.key)),(.slice K cm.keys.length k),(.slice V cm.value.length v),(.slice T cm.tags.length t),(.int .u64 (↑cm.life:Int)),(.int .u64 (↑(bO l):Int)),(.string (av cm.tag)),(.string (av cm.pre)),(.string (av cm.child))]) mi aM) ?_
   rintro _ w204 ⟨dR,bM⟩
   replace hK:=RdT.gr hK bM aM (by decide)
   replace hV:=RdT.gr hV bM aM (by decide)
   replace hT:=RdT.gr hT bM aM (by decide)
   replace hE:=hE.gr bM
   replace bp:=bp.gr bM
   replace iQ:=iQ.gr bM
   replace aM:=dR
   refine ag (bb (ae (af (aa ?_))))
   refine ab (aK (cs:=[(.int .i64 cm.op),(.string (av cm.key)),(.slice K cm.keys.length k),(.slice V cm.value.length v),(.slice T cm.tags.length t),(.int .u64 (↑cm.life:Int)),(.int .u64 (↑(bO l):Int)),(.string (av cm.tag)),(.string (av cm.pre)),(.string (av cm.child))]) cc aM) ?_
   iterate 2 refine vm ?_
   refine aB (aD (vs:=[(.int .i64 cm.op),(.string (av cm.key)),(.slice K cm.keys.length k),(.slice V cm.value.length v),(.slice T cm.tags.length t),(.int .u64 (↑cm.life:Int)),(.int .u64 (↑(bO l):Int)),(.string (av cm.tag)),(.string (av cm.pre)),(.string (av cm.child))]) fy bp) ?_
   rintro _ w205 ⟨cy,ba⟩
   replace hK:=RdT.gr hK ba bp (by decide)
   replace hV:=RdT.gr hV ba bp (by decide)
   replace hT:=RdT.gr hT ba bp (by decide)
   replace hE:=hE.gr ba
   replace iQ:=iQ.gr ba
   replace bp:=cy
   iterate 2 refine va ?_
   refine ag (ae (aE ?_))
   refine bm (rs:=[.cell 6 39,.tmp 7,.tmp 8]) (vs:=[.agg #[(.int .i64 cm.op),(.string (av cm.key)),(.slice K cm.keys.length k),(.slice V cm.value.length v),(.slice T cm.tags.length t),(.int .u64 (↑cm.life:Int)),(.int .u64 (↑(bO l):Int)),(.string (av cm.tag)),(.string (av cm.pre)),(.string (av cm.child))],(.slice A25 (qW l).length c25),(.bool (o0 l))]) rfl ⟨⟨_,_,[(.int .i64 cm.op),(.string (av cm.key)),(.slice K cm.keys.length k),(.slice V cm.value.length v),(.slice T cm.tags.length t),(.int .u64 (↑cm.life:Int)),(.int .u64 (↑(bO l):Int)),(.string (av cm.tag)),(.string (av cm.pre)),(.string (av cm.child))],rfl,cc,bp,rfl⟩,rfl,rfl,trivial⟩ ?_
   have f1:fF cm p l={cm with ver:=bO l}:=by rw[eb];rfl
   have f2:dh p l=qW l:=by rw[eb];rfl
   have f3:lr p l=o0 l:=by rw[eb];rfl
   rw[f1,f2,f3]
   exact⟨⟨K,k,V,v,T,t,A25,c25,rfl,⟨hK,hV,hT⟩,iQ⟩,hE⟩
  ·have nb110:¬p=110:=fun e=>eN (by rw[e];rfl)
   refine af (af (aa ?_))
   refine ve ?_
   refine va ?_
   refine ag (ae ?_)
   refine aL (fun e9=>?_) (fun e9=>?_)
   ·have eb:p=116:=toNat_inj e9
    refine aS (ae ?_)
    refine d6 rfl (decide_eq_true e9) ?_
    refine aa ?_
    refine vm ?_
    refine ar (aw RL (qF _ _ _ A c l hr (by omega) (by omega))) ?_
    rintro v w203 ⟨B34,d34,A34,c34,rfl,kX,rk,mD⟩
    replace hK:=RdT.ext hK mD
    replace hV:=RdT.ext hV mD
    replace hE:=hE.tr mD
    replace aM:=aM.ext mD
    replace bp:=bp.ext mD
    have oI:=fun g e=>Own.lt kX (g:=g) e
    refine vm ?_
    iterate 3 refine vx ?_
    iterate 3 refine va ?_
    refine ag (bb (ae (af (af (aa ?_)))))
    refine vm ?_
    refine ag (ae (a9 (af (aa ?_))))
    refine ve ?_
    refine va ?_
    refine ag (ae ?_)
    refine dD rfl (decide_eq_false (by omega)) ?_
    refine af (aa ?_)
    refine ve ?_
    refine va ?_
    refine ag (ae ?_)
    refine dD rfl (decide_eq_false (by omega)) ?_
    refine af (aa ?_)
    refine ve ?_
    refine va ?_
    refine ag (ae ?_)
    refine d6 rfl (decide_eq_true e9) ?_
    refine aa ?_
    refine vm ?_
    refine ab (ah (off:=4) iX) ?_
    refine aB (aU (cs':=[(.int .i64 cm.op),(.string (av cm.key)),(.slice K cm.keys.length k),(.slice V cm.value.length v),(.slice B34 (kE l).length d34),(.int .u64 (↑cm.life:Int)),(.int .u64 (↑cm.ver:Int)),(.string (av cm.tag)),(.string (av cm.pre)),(.string (av cm.child))]) vN aM) ?_
    rintro _ w204 ⟨dR,bM⟩
    replace hK:=RdT.gr hK bM aM (by decide)
    replace hV:=RdT.gr hV bM aM (by decide)
    replace hE:=hE.gr bM
    replace bp:=bp.gr bM
    replace kX:=Own.gr kX bM (by first|exact .inl rfl|(right;intro e;first|(have:=oI _ e;omega)|(have:=Own.lt kX e;omega)|exact aT kX aM (by decide) e))
    replace rk:=rk.gr bM
    replace aM:=dR
    refine ag (bb (ae (af (aa ?_))))
    refine ab (aK (cs:=[(.int .i64 cm.op),(.string (av cm.key)),(.slice K cm.keys.length k),(.slice V cm.value.length v),(.slice B34 (kE l).length d34),(.int .u64 (↑cm.life:Int)),(.int .u64 (↑cm.ver:Int)),(.string (av cm.tag)),(.string (av cm.pre)),(.string (av cm.child))]) cc aM) ?_
    iterate 2 refine vm ?_
    refine aB (aD (vs:=[(.int .i64 cm.op),(.string (av cm.key)),(.slice K cm.keys.length k),(.slice V cm.value.length v),(.slice B34 (kE l).length d34),(.int .u64 (↑cm.life:Int)),(.int .u64 (↑cm.ver:Int)),(.string (av cm.tag)),(.string (av cm.pre)),(.string (av cm.child))]) fy bp) ?_
    rintro _ w205 ⟨cy,ba⟩
    replace hK:=RdT.gr hK ba bp (by decide)
    replace hV:=RdT.gr hV ba bp (by decide)
    replace hE:=hE.gr ba
    replace kX:=Own.gr kX ba (by first|exact .inl rfl|(right;intro e;first|(have:=oI _ e;omega)|(have:=Own.lt kX e;omega)|exact aT kX bp (by decide) e))
    replace rk:=rk.gr ba
    replace bp:=cy
    iterate 2 refine va ?_
    refine ag (ae (aE ?_))
    refine bm (rs:=[.cell 6 39,.tmp 7,.tmp 8]) (vs:=[.agg #[(.int .i64 cm.op),(.string (av cm.key)),(.slice K cm.keys.length k),(.slice V cm.value.length v),(.slice B34 (kE l).length d34),(.int .u64 (↑cm.life:Int)),(.int .u64 (↑cm.ver:Int)),(.string (av cm.tag)),(.string (av cm.pre)),(.string (av cm.child))],(.slice A34 (qD l).length c34),(.bool (oZ l))]) rfl ⟨⟨_,_,[(.int .i64 cm.op),(.string (av cm.key)),(.slice K cm.keys.length k),(.slice V cm.value.length v),(.slice B34 (kE l).length d34),(.int .u64 (↑cm.life:Int)),(.int .u64 (↑cm.ver:Int)),(.string (av cm.tag)),(.string (av cm.pre)),(.string (av cm.child))],rfl,cc,bp,rfl⟩,rfl,rfl,trivial⟩ ?_
    have f1:fF cm p l={cm with tags:=kE l}:=by rw[eb];rfl
    have f2:dh p l=qD l:=by rw[eb];rfl
    have f3:lr p l=oZ l:=by rw[eb];rfl
    rw[f1,f2,f3]
    exact⟨⟨K,k,V,v,B34,d34,A34,c34,rfl,⟨hK,hV,(RdT.own kX (by omega))⟩,rk⟩,hE⟩
   ·have nb116:¬p=116:=fun e=>e9 (by rw[e];rfl)
    refine aa ?_
    refine ve ?_
    refine va ?_
    refine ag (ae ?_)
    refine aL (fun iD=>?_) (fun iD=>?_)
    ·have eb:p=109:=toNat_inj iD
     refine aa ?_
     refine vm ?_
     refine ar (aw RL (qF _ _ _ A c l hr (by omega) (by omega))) ?_
     rintro v w203 ⟨B34,d34,A34,c34,rfl,kX,rk,mD⟩
     replace hV:=RdT.ext hV mD
     replace hT:=RdT.ext hT mD
     replace hE:=hE.tr mD
     replace aM:=aM.ext mD
     replace bp:=bp.ext mD
     have oI:=fun g e=>Own.lt kX (g:=g) e
     refine vm ?_
     iterate 3 refine vx ?_
     iterate 3 refine va ?_
     refine ag (bb (ae (af (af (aa ?_)))))
     refine vm ?_
     refine ag (ae (a9 (af (aa ?_))))
     refine ve ?_
     refine va ?_
     refine ag (ae ?_)
     refine dD rfl (decide_eq_false (by omega)) ?_
     refine af (aa ?_)
     refine ve ?_
     refine va ?_
     refine ag (ae ?_)
     refine dD rfl (decide_eq_false (by omega)) ?_
     refine af (aa ?_)
     refine ve ?_
     refine va ?_
     refine ag (ae ?_)
     refine dD rfl (decide_eq_false (by omega)) ?_
     refine af (aa ?_)
     refine ve ?_
     refine va ?_
     refine ag (ae ?_)
     refine dD rfl (decide_eq_false (by omega)) ?_
     refine af (aa ?_)
     refine ve ?_
     refine va ?_
     refine ag (ae ?_)
     refine dD rfl (decide_eq_false (by omega)) ?_
     refine af (aa ?_)
     refine ve ?_
     refine va ?_
     refine ag (ae ?_)
     refine d6 rfl (decide_eq_true iD) ?_
     refine aa ?_
     refine vm ?_
     refine ab (ah (off:=2) jH) ?_
     refine aB (aU (cs':=[(.int .i64 cm.op),(.string (av cm.key)),(.slice B34 (kE l).length d34),(.slice V cm.value.length v),(.slice T cm.tags.length t),(.int .u64 (↑cm.life:Int)),(.int .u64 (↑cm.ver:Int)),(.string (av cm.tag)),(.string (av cm.pre)),(.string (av cm.child))]) vN aM) ?_
     rintro _ w204 ⟨dR,bM⟩
     replace hV:=RdT.gr hV bM aM (by decide)
     replace hT:=RdT.gr hT bM aM (by decide)
     replace hE:=hE.gr bM
     replace bp:=bp.gr bM
     replace kX:=Own.gr kX bM (by first|exact .inl rfl|(right;intro e;first|(have:=oI _ e;omega)|(have:=Own.lt kX e;omega)|exact aT kX aM (by decide) e))
     replace rk:=rk.gr bM
     replace aM:=dR
     refine ag (bb (ae (af (aa ?_))))
     refine ab (aK (cs:=[(.int .i64 cm.op),(.string (av cm.key)),(.slice B34 (kE l).length d34),(.slice V cm.value.length v),(.slice T cm.tags.length t),(.int .u64 (↑cm.life:Int)),(.int .u64 (↑cm.ver:Int)),(.string (av cm.tag)),(.string (av cm.pre)),(.string (av cm.child))]) cc aM) ?_
     iterate 2 refine vm ?_
     refine aB (aD (vs:=[(.int .i64 cm.op),(.string (av cm.key)),(.slice B34 (kE l).length d34),(.slice V cm.value.length v),(.slice T cm.tags.length t),(.int .u64 (↑cm.life:Int)),(.int .u64 (↑cm.ver:Int)),(.string (av cm.tag)),(.string (av cm.pre)),(.string (av cm.child))]) fy bp) ?_
     rintro _ w205 ⟨cy,ba⟩
     replace hV:=RdT.gr hV ba bp (by decide)
     replace hT:=RdT.gr hT ba bp (by decide)
     replace hE:=hE.gr ba
     replace kX:=Own.gr kX ba (by first|exact .inl rfl|(right;intro e;first|(have:=oI _ e;omega)|(have:=Own.lt kX e;omega)|exact aT kX bp (by decide) e))
     replace rk:=rk.gr ba
     replace bp:=cy
     iterate 2 refine va ?_
     refine ag (ae (aE ?_))
     refine bm (rs:=[.cell 6 39,.tmp 7,.tmp 8]) (vs:=[.agg #[(.int .i64 cm.op),(.string (av cm.key)),(.slice B34 (kE l).length d34),(.slice V cm.value.length v),(.slice T cm.tags.length t),(.int .u64 (↑cm.life:Int)),(.int .u64 (↑cm.ver:Int)),(.string (av cm.tag)),(.string (av cm.pre)),(.string (av cm.child))],(.slice A34 (qD l).length c34),(.bool (oZ l))]) rfl ⟨⟨_,_,[(.int .i64 cm.op),(.string (av cm.key)),(.slice B34 (kE l).length d34),(.slice V cm.value.length v),(.slice T cm.tags.length t),(.int .u64 (↑cm.life:Int)),(.int .u64 (↑cm.ver:Int)),(.string (av cm.tag)),(.string (av cm.pre)),(.string (av cm.child))],rfl,cc,bp,rfl⟩,rfl,rfl,trivial⟩ ?_
     have f1:fF cm p l={cm with keys:=kE l}:=by rw[eb];rfl
     have f2:dh p l=qD l:=by rw[eb];rfl
     have f3:lr p l=oZ l:=by rw[eb];rfl
     rw[f1,f2,f3]
     exact⟨⟨B34,d34,V,v,T,t,A34,c34,rfl,⟨(RdT.own kX (by omega)),hV,hT⟩,rk⟩,hE⟩
    ·have nb109:¬p=109:=fun e=>iD (by rw[e];rfl)
     refine aa ?_
     refine vm ?_
     refine ar (aw RK (sX _ _ _ A c l hr (by omega))) ?_
     rintro v w203 ⟨A16,c16,rfl,ic,kB⟩
     replace hK:=RdT.ext hK kB
     replace hV:=RdT.ext hV kB
     replace hT:=RdT.ext hT kB
     replace hE:=hE.tr kB
     replace aM:=aM.ext kB
     replace bp:=bp.ext kB
     have qh:=kB.size
     refine vm ?_
     iterate 3 refine vx ?_
     iterate 3 refine va ?_
     refine ag (bb (ae (af (af (aa ?_)))))
     refine vm ?_
     refine ag (ae (a9 (af (aa ?_))))
     refine ve ?_
     refine va ?_
     refine ag (ae ?_)
     refine aL (fun ld=>?_) (fun ld=>?_)
     ·have eb:p=107:=toNat_inj ld
      refine aa ?_
      refine vm ?_
      refine ab (ah (off:=1) hU) ?_
      refine aB (aU (cs':=[(.int .i64 cm.op),(.string (av (bq l))),(.slice K cm.keys.length k),(.slice V cm.value.length v),(.slice T cm.tags.length t),(.int .u64 (↑cm.life:Int)),(.int .u64 (↑cm.ver:Int)),(.string (av cm.tag)),(.string (av cm.pre)),(.string (av cm.child))]) CU aM) ?_
      rintro _ w204 ⟨dR,bM⟩
      replace hK:=RdT.gr hK bM aM (by decide)
      replace hV:=RdT.gr hV bM aM (by decide)
      replace hT:=RdT.gr hT bM aM (by decide)
      replace hE:=hE.gr bM
      replace bp:=bp.gr bM
      replace ic:=ic.gr bM
      replace aM:=dR
      refine ag (bb (ae (af (aa ?_))))
      refine ab (aK (cs:=[(.int .i64 cm.op),(.string (av (bq l))),(.slice K cm.keys.length k),(.slice V cm.value.length v),(.slice T cm.tags.length t),(.int .u64 (↑cm.life:Int)),(.int .u64 (↑cm.ver:Int)),(.string (av cm.tag)),(.string (av cm.pre)),(.string (av cm.child))]) cc aM) ?_
      iterate 2 refine vm ?_
      refine aB (aD (vs:=[(.int .i64 cm.op),(.string (av (bq l))),(.slice K cm.keys.length k),(.slice V cm.value.length v),(.slice T cm.tags.length t),(.int .u64 (↑cm.life:Int)),(.int .u64 (↑cm.ver:Int)),(.string (av cm.tag)),(.string (av cm.pre)),(.string (av cm.child))]) fy bp) ?_
      rintro _ w205 ⟨cy,ba⟩
      replace hK:=RdT.gr hK ba bp (by decide)
      replace hV:=RdT.gr hV ba bp (by decide)
      replace hT:=RdT.gr hT ba bp (by decide)
      replace hE:=hE.gr ba
      replace ic:=ic.gr ba
      replace bp:=cy
      iterate 2 refine va ?_
      refine ag (ae (aE ?_))
      refine bm (rs:=[.cell 6 39,.tmp 7,.tmp 8]) (vs:=[.agg #[(.int .i64 cm.op),(.string (av (bq l))),(.slice K cm.keys.length k),(.slice V cm.value.length v),(.slice T cm.tags.length t),(.int .u64 (↑cm.life:Int)),(.int .u64 (↑cm.ver:Int)),(.string (av cm.tag)),(.string (av cm.pre)),(.string (av cm.child))],(.slice A16 (l8 l).length c16),(.bool (nH l))]) rfl ⟨⟨_,_,[(.int .i64 cm.op),(.string (av (bq l))),(.slice K cm.keys.length k),(.slice V cm.value.length v),(.slice T cm.tags.length t),(.int .u64 (↑cm.life:Int)),(.int .u64 (↑cm.ver:Int)),(.string (av cm.tag)),(.string (av cm.pre)),(.string (av cm.child))],rfl,cc,bp,rfl⟩,rfl,rfl,trivial⟩ ?_
      have f1:fF cm p l={cm with key:=bq l}:=by rw[eb];rfl
      have f2:dh p l=l8 l:=by rw[eb];rfl
      have f3:lr p l=nH l:=by rw[eb];rfl
      rw[f1,f2,f3]
      exact⟨⟨K,k,V,v,T,t,A16,c16,rfl,⟨hK,hV,hT⟩,ic⟩,hE⟩
     ·have nb107:¬p=107:=fun e=>ld (by rw[e];rfl)
      refine af (aa ?_)
      refine ve ?_
      refine va ?_
      refine ag (ae ?_)
      refine aL (fun pC=>?_) (fun pC=>?_)
      ·have eb:p=118:=toNat_inj pC
       refine aa ?_
       refine vm ?_
       refine ar (tT cE Tryz.underlying9 rfl (by simp only[maxLen];omega)) ?_
       rintro v w204 ⟨A46,c46,rfl,Fp,pz⟩
       replace hK:=RdT.ext hK pz
       replace hT:=RdT.ext hT pz
       replace hE:=hE.tr pz
       replace aM:=aM.ext pz
       replace bp:=bp.ext pz
       replace ic:=ic.ext pz
       refine ab (ah (off:=3) k9) ?_
       refine aB (aU (cs':=[(.int .i64 cm.op),(.string (av cm.key)),(.slice K cm.keys.length k),(.slice A46 (bq l).length c46),(.slice T cm.tags.length t),(.int .u64 (↑cm.life:Int)),(.int .u64 (↑cm.ver:Int)),(.string (av cm.tag)),(.string (av cm.pre)),(.string (av cm.child))]) gV aM) ?_
       rintro _ w205 ⟨cy,ba⟩
       replace hK:=RdT.gr hK ba aM (by decide)
       replace hT:=RdT.gr hT ba aM (by decide)
       replace hE:=hE.gr ba
       replace bp:=bp.gr ba
       replace ic:=ic.gr ba
       replace Fp:=RdT.gr Fp ba aM (by decide)
       replace aM:=cy
       refine ag (bb (ae (af (aa ?_))))
       refine ab (aK (cs:=[(.int .i64 cm.op),(.string (av cm.key)),(.slice K cm.keys.length k),(.slice A46 (bq l).length c46),(.slice T cm.tags.length t),(.int .u64 (↑cm.life:Int)),(.int .u64 (↑cm.ver:Int)),(.string (av cm.tag)),(.string (av cm.pre)),(.string (av cm.child))]) cc aM) ?_
       iterate 2 refine vm ?_
       refine aB (aD (vs:=[(.int .i64 cm.op),(.string (av cm.key)),(.slice K cm.keys.length k),(.slice A46 (bq l).length c46),(.slice T cm.tags.length t),(.int .u64 (↑cm.life:Int)),(.int .u64 (↑cm.ver:Int)),(.string (av cm.tag)),(.string (av cm.pre)),(.string (av cm.child))]) fy bp) ?_
       rintro _ w206 ⟨dm,b7⟩
       replace hK:=RdT.gr hK b7 bp (by decide)
       replace hT:=RdT.gr hT b7 bp (by decide)
       replace hE:=hE.gr b7
       replace ic:=ic.gr b7
       replace Fp:=RdT.gr Fp b7 bp (by decide)
       replace bp:=dm
       iterate 2 refine va ?_
       refine ag (ae (aE ?_))
       refine bm (rs:=[.cell 6 39,.tmp 7,.tmp 8]) (vs:=[.agg #[(.int .i64 cm.op),(.string (av cm.key)),(.slice K cm.keys.length k),(.slice A46 (bq l).length c46),(.slice T cm.tags.length t),(.int .u64 (↑cm.life:Int)),(.int .u64 (↑cm.ver:Int)),(.string (av cm.tag)),(.string (av cm.pre)),(.string (av cm.child))],(.slice A16 (l8 l).length c16),(.bool (nH l))]) rfl ⟨⟨_,_,[(.int .i64 cm.op),(.string (av cm.key)),(.slice K cm.keys.length k),(.slice A46 (bq l).length c46),(.slice T cm.tags.length t),(.int .u64 (↑cm.life:Int)),(.int .u64 (↑cm.ver:Int)),(.string (av cm.tag)),(.string (av cm.pre)),(.string (av cm.child))],rfl,cc,bp,rfl⟩,rfl,rfl,trivial⟩ ?_
       have f1:fF cm p l={cm with value:=bq l}:=by rw[eb];rfl
       have f2:dh p l=l8 l:=by rw[eb];rfl
       have f3:lr p l=nH l:=by rw[eb];rfl
       rw[f1,f2,f3]
       exact⟨⟨K,k,A46,c46,T,t,A16,c16,rfl,⟨hK,(RdT.mono Fp (by omega)),hT⟩,ic⟩,hE⟩
      ·have nb118:¬p=118:=fun e=>pC (by rw[e];rfl)
       refine af (aa ?_)
       refine ve ?_
       refine va ?_
       refine ag (ae ?_)
       refine dD rfl (decide_eq_false e9) ?_
       refine af (aa ?_)
       refine ve ?_
       refine va ?_
       refine ag (ae ?_)
       refine dD rfl (decide_eq_false dM) ?_
       refine af (aa ?_)
       refine ve ?_
       refine va ?_
       refine ag (ae ?_)
       refine dD rfl (decide_eq_false eN) ?_
       refine af (aa ?_)
       refine ve ?_
       refine va ?_
       refine ag (ae ?_)
       refine dD rfl (decide_eq_false iD) ?_
       refine af (aa ?_)
       refine ve ?_
       refine va ?_
       refine ag (ae ?_)
       refine aL (fun uJ=>?_) (fun uJ=>?_)
       ·have eb:p=103:=toNat_inj uJ
        refine aa ?_
        refine vm ?_
        refine ab (ah (off:=7) mQ) ?_
        refine aB (aU (cs':=[(.int .i64 cm.op),(.string (av cm.key)),(.slice K cm.keys.length k),(.slice V cm.value.length v),(.slice T cm.tags.length t),(.int .u64 (↑cm.life:Int)),(.int .u64 (↑cm.ver:Int)),(.string (av (bq l))),(.string (av cm.pre)),(.string (av cm.child))]) CU aM) ?_
        rintro _ w204 ⟨dR,bM⟩
        replace hK:=RdT.gr hK bM aM (by decide)
        replace hV:=RdT.gr hV bM aM (by decide)
        replace hT:=RdT.gr hT bM aM (by decide)
        replace hE:=hE.gr bM
        replace bp:=bp.gr bM
        replace ic:=ic.gr bM
        replace aM:=dR
        refine ag (bb (ae (af (aa ?_))))
        refine ab (aK (cs:=[(.int .i64 cm.op),(.string (av cm.key)),(.slice K cm.keys.length k),(.slice V cm.value.length v),(.slice T cm.tags.length t),(.int .u64 (↑cm.life:Int)),(.int .u64 (↑cm.ver:Int)),(.string (av (bq l))),(.string (av cm.pre)),(.string (av cm.child))]) cc aM) ?_
        iterate 2 refine vm ?_
        refine aB (aD (vs:=[(.int .i64 cm.op),(.string (av cm.key)),(.slice K cm.keys.length k),(.slice V cm.value.length v),(.slice T cm.tags.length t),(.int .u64 (↑cm.life:Int)),(.int .u64 (↑cm.ver:Int)),(.string (av (bq l))),(.string (av cm.pre)),(.string (av cm.child))]) fy bp) ?_
        rintro _ w205 ⟨cy,ba⟩
        replace hK:=RdT.gr hK ba bp (by decide)
        replace hV:=RdT.gr hV ba bp (by decide)
        replace hT:=RdT.gr hT ba bp (by decide)
        replace hE:=hE.gr ba
        replace ic:=ic.gr ba
        replace bp:=cy
        iterate 2 refine va ?_
        refine ag (ae (aE ?_))
        refine bm (rs:=[.cell 6 39,.tmp 7,.tmp 8]) (vs:=[.agg #[(.int .i64 cm.op),(.string (av cm.key)),(.slice K cm.keys.length k),(.slice V cm.value.length v),(.slice T cm.tags.length t),(.int .u64 (↑cm.life:Int)),(.int .u64 (↑cm.ver:Int)),(.string (av (bq l))),(.string (av cm.pre)),(.string (av cm.child))],(.slice A16 (l8 l).length c16),(.bool (nH l))]) rfl ⟨⟨_,_,[(.int .i64 cm.op),(.string (av cm.key)),(.slice K cm.keys.length k),(.slice V cm.value.length v),(.slice T cm.tags.length t),(.int .u64 (↑cm.life:Int)),(.int .u64 (↑cm.ver:Int)),(.string (av (bq l))),(.string (av cm.pre)),(.string (av cm.child))],rfl,cc,bp,rfl⟩,rfl,rfl,trivial⟩ ?_
        have f1:fF cm p l={cm with tag:=bq l}:=by rw[eb];rfl
        have f2:dh p l=l8 l:=by rw[eb];rfl
        have f3:lr p l=nH l:=by rw[eb];rfl
        rw[f1,f2,f3]
        exact⟨⟨K,k,V,v,T,t,A16,c16,rfl,⟨hK,hV,hT⟩,ic⟩,hE⟩
       ·have nb103:¬p=103:=fun e=>uJ (by rw[e];rfl)
        refine af (aa ?_)
        refine ve ?_
        refine va ?_
        refine ag (ae ?_)
        refine aL (fun sI=>?_) (fun sI=>?_)
        ·have eb:p=112:=toNat_inj sI
         refine aa ?_
         refine vm ?_
         refine ab (ah (off:=8) ob) ?_
         refine aB (aU (cs':=[(.int .i64 cm.op),(.string (av cm.key)),(.slice K cm.keys.length k),(.slice V cm.value.length v),(.slice T cm.tags.length t),(.int .u64 (↑cm.life:Int)),(.int .u64 (↑cm.ver:Int)),(.string (av cm.tag)),(.string (av (bq l))),(.string (av cm.child))]) CU aM) ?_
         rintro _ w204 ⟨dR,bM⟩
         replace hK:=RdT.gr hK bM aM (by decide)
         replace hV:=RdT.gr hV bM aM (by decide)
         replace hT:=RdT.gr hT bM aM (by decide)
         replace hE:=hE.gr bM
         replace bp:=bp.gr bM
         replace ic:=ic.gr bM
         replace aM:=dR
         refine ag (bb (ae (af (aa ?_))))
         refine ab (aK (cs:=[(.int .i64 cm.op),(.string (av cm.key)),(.slice K cm.keys.length k),(.slice V cm.value.length v),(.slice T cm.tags.length t),(.int .u64 (↑cm.life:Int)),(.int .u64 (↑cm.ver:Int)),(.string (av cm.tag)),(.string (av (bq l))),(.string (av cm.child))]) cc aM) ?_
         iterate 2 refine vm ?_
         refine aB (aD (vs:=[(.int .i64 cm.op),(.string (av cm.key)),(.slice K cm.keys.length k),(.slice V cm.value.length v),(.slice T cm.tags.length t),(.int .u64 (↑cm.life:Int)),(.int .u64 (↑cm.ver:Int)),(.string (av cm.tag)),(.string (av (bq l))),(.string (av cm.child))]) fy bp) ?_
         rintro _ w205 ⟨cy,ba⟩
         replace hK:=RdT.gr hK ba bp (by decide)
         replace hV:=RdT.gr hV ba bp (by decide)
         replace hT:=RdT.gr hT ba bp (by decide)
         replace hE:=hE.gr ba
         replace ic:=ic.gr ba
         replace bp:=cy
         iterate 2 refine va ?_
         refine ag (ae (aE ?_))
         refine bm (rs:=[.cell 6 39,.tmp 7,.tmp 8]) (vs:=[.agg #[(.int .i64 cm.op),(.string (av cm.key)),(.slice K cm.keys.length k),(.slice V cm.value.length v),(.slice T cm.tags.length t),(.int .u64 (↑cm.life:Int)),(.int .u64 (↑cm.ver:Int)),(.string (av cm.tag)),(.string (av (bq l))),(.string (av cm.child))],(.slice A16 (l8 l).length c16),(.bool (nH l))]) rfl ⟨⟨_,_,[(.int .i64 cm.op),(.string (av cm.key)),(.slice K cm.keys.length k),(.slice V cm.value.length v),(.slice T cm.tags.length t),(.int .u64 (↑cm.life:Int)),(.int .u64 (↑cm.ver:Int)),(.string (av cm.tag)),(.string (av (bq l))),(.string (av cm.child))],rfl,cc,bp,rfl⟩,rfl,rfl,trivial⟩ ?_
         have f1:fF cm p l={cm with pre:=bq l}:=by rw[eb];rfl
         have f2:dh p l=l8 l:=by rw[eb];rfl
         have f3:lr p l=nH l:=by rw[eb];rfl
         rw[f1,f2,f3]
         exact⟨⟨K,k,V,v,T,t,A16,c16,rfl,⟨hK,hV,hT⟩,ic⟩,hE⟩
        ·have nb112:¬p=112:=fun e=>sI (by rw[e];rfl)
         refine af (aa ?_)
         refine ve ?_
         refine va ?_
         refine ag (ae ?_)
         refine aL (fun Fd=>?_) (fun Fd=>?_)
         ·have eb:p=99:=toNat_inj Fd
          refine aa ?_
          refine vm ?_
          refine ab (ah (off:=9) mP) ?_
          refine aB (aU (cs':=[(.int .i64 cm.op),(.string (av cm.key)),(.slice K cm.keys.length k),(.slice V cm.value.length v),(.slice T cm.tags.length t),(.int .u64 (↑cm.life:Int)),(.int .u64 (↑cm.ver:Int)),(.string (av cm.tag)),(.string (av cm.pre)),(.string (av (bq l)))]) CU aM) ?_
          rintro _ w204 ⟨dR,bM⟩
          replace hK:=RdT.gr hK bM aM (by decide)
          replace hV:=RdT.gr hV bM aM (by decide)
          replace hT:=RdT.gr hT bM aM (by decide)
          replace hE:=hE.gr bM
          replace bp:=bp.gr bM
          replace ic:=ic.gr bM
          replace aM:=dR
          refine ag (bb (ae (af (aa ?_))))
          refine ab (aK (cs:=[(.int .i64 cm.op),(.string (av cm.key)),(.slice K cm.keys.length k),(.slice V cm.value.length v),(.slice T cm.tags.length t),(.int .u64 (↑cm.life:Int)),(.int .u64 (↑cm.ver:Int)),(.string (av cm.tag)),(.string (av cm.pre)),(.string (av (bq l)))]) cc aM) ?_
          iterate 2 refine vm ?_
          refine aB (aD (vs:=[(.int .i64 cm.op),(.string (av cm.key)),(.slice K cm.keys.length k),(.slice V cm.value.length v),(.slice T cm.tags.length t),(.int .u64 (↑cm.life:Int)),(.int .u64 (↑cm.ver:Int)),(.string (av cm.tag)),(.string (av cm.pre)),(.string (av (bq l)))]) fy bp) ?_
          rintro _ w205 ⟨cy,ba⟩
          replace hK:=RdT.gr hK ba bp (by decide)
          replace hV:=RdT.gr hV ba bp (by decide)
          replace hT:=RdT.gr hT ba bp (by decide)
          replace hE:=hE.gr ba
          replace ic:=ic.gr ba
          replace bp:=cy
          iterate 2 refine va ?_
          refine ag (ae (aE ?_))
          refine bm (rs:=[.cell 6 39,.tmp 7,.tmp 8]) (vs:=[.agg #[(.int .i64 cm.op),(.string (av cm.key)),(.slice K cm.keys.length k),(.slice V cm.value.length v),(.slice T cm.tags.length t),(.int .u64 (↑cm.life:Int)),(.int .u64 (↑cm.ver:Int)),(.string (av cm.tag)),(.string (av cm.pre)),(.string (av (bq l)))],(.slice A16 (l8 l).length c16),(.bool (nH l))]) rfl ⟨⟨_,_,[(.int .i64 cm.op),(.string (av cm.key)),(.slice K cm.keys.length k),(.slice V cm.value.length v),(.slice T cm.tags.length t),(.int .u64 (↑cm.life:Int)),(.int .u64 (↑cm.ver:Int)),(.string (av cm.tag)),(.string (av cm.pre)),(.string (av (bq l)))],rfl,cc,bp,rfl⟩,rfl,rfl,trivial⟩ ?_
          have f1:fF cm p l={cm with child:=bq l}:=by rw[eb];rfl
          have f2:dh p l=l8 l:=by rw[eb];rfl
          have f3:lr p l=nH l:=by rw[eb];rfl
          rw[f1,f2,f3]
          exact⟨⟨K,k,V,v,T,t,A16,c16,rfl,⟨hK,hV,hT⟩,ic⟩,hE⟩
         ·have nb99:¬p=99:=fun e=>Fd (by rw[e];rfl)
          refine aS (bb (ae (af (aa ?_))))
          refine ab (aK (cs:=[(.int .i64 cm.op),(.string (av cm.key)),(.slice K cm.keys.length k),(.slice V cm.value.length v),(.slice T cm.tags.length t),(.int .u64 (↑cm.life:Int)),(.int .u64 (↑cm.ver:Int)),(.string (av cm.tag)),(.string (av cm.pre)),(.string (av cm.child))]) cc aM) ?_
          iterate 2 refine vm ?_
          refine aB (aD (vs:=[(.int .i64 cm.op),(.string (av cm.key)),(.slice K cm.keys.length k),(.slice V cm.value.length v),(.slice T cm.tags.length t),(.int .u64 (↑cm.life:Int)),(.int .u64 (↑cm.ver:Int)),(.string (av cm.tag)),(.string (av cm.pre)),(.string (av cm.child))]) fy bp) ?_
          rintro _ w204 ⟨dR,bM⟩
          replace hK:=RdT.gr hK bM bp (by decide)
          replace hV:=RdT.gr hV bM bp (by decide)
          replace hT:=RdT.gr hT bM bp (by decide)
          replace hE:=hE.gr bM
          replace ic:=ic.gr bM
          replace bp:=dR
          iterate 2 refine va ?_
          refine ag (ae (aE ?_))
          refine bm (rs:=[.cell 6 39,.tmp 7,.tmp 8]) (vs:=[.agg #[(.int .i64 cm.op),(.string (av cm.key)),(.slice K cm.keys.length k),(.slice V cm.value.length v),(.slice T cm.tags.length t),(.int .u64 (↑cm.life:Int)),(.int .u64 (↑cm.ver:Int)),(.string (av cm.tag)),(.string (av cm.pre)),(.string (av cm.child))],(.slice A16 (l8 l).length c16),(.bool (nH l))]) rfl ⟨⟨_,_,[(.int .i64 cm.op),(.string (av cm.key)),(.slice K cm.keys.length k),(.slice V cm.value.length v),(.slice T cm.tags.length t),(.int .u64 (↑cm.life:Int)),(.int .u64 (↑cm.ver:Int)),(.string (av cm.tag)),(.string (av cm.pre)),(.string (av cm.child))],rfl,cc,bp,rfl⟩,rfl,rfl,trivial⟩ ?_
          have f1:fF cm p l=cm:=by unfold fF;rw[if_neg nb107,if_neg nb118,if_neg nb116,if_neg nb108,if_neg nb110,if_neg nb109,if_neg nb103,if_neg nb112,if_neg nb99]
          have f2:dh p l=l8 l:=by unfold dh;rw[if_neg (by simp[nb108,nb110]),if_neg (by simp[nb116,nb109])]
          have f3:lr p l=nH l:=by unfold lr;rw[if_neg (by simp[nb108,nb110]),if_neg (by simp[nb116,nb109])]
          rw[f1,f2,f3]
          exact⟨⟨K,k,V,v,T,t,A16,c16,rfl,⟨hK,hV,hT⟩,ic⟩,hE⟩
theorem vR (w:World) (code:UInt8) (lo hi:Nat) (A:Option Addr) (c:Nat) (l:List UInt8) (hr:RdB w lo hi A c l) (bI:l.length≤140737488355328):
  Fn Tryz.prog 62 #[(.agg #[(.int .u8 (↑code.toNat:Int)),(.slice A l.length c)])] w (fun u w'=>∃K k V v T t,u=.tuple #[.agg (cL ((cZ code l).getD (cmd0 0)) K k V v T t).toArray,.bool (cZ code l).isSome]∧(RdT w' w.heap.size 9 K ((cZ code l).getD (cmd0 0)).keys.length k (((cZ code l).getD (cmd0 0)).keys.flatMap gO)∧RdT w' w.heap.size 5 V ((cZ code l).getD (cmd0 0)).value.length v (((cZ code l).getD (cmd0 0)).value.map j3)∧RdT w' w.heap.size 9 T ((cZ code l).getD (cmd0 0)).tags.length t (((cZ code l).getD (cmd0 0)).tags.flatMap gO))∧Ext w w'):=by
 replace hr:=hr.top
 have hE:=aP w
 have Tm:=code.toNat_lt
 refine aO Tryz.func62 ?_
 refine af (aa ?_)
 refine ar (bU) ?_
 rintro v w1 ⟨g1,rfl,au,dL,kM,ls⟩
 replace hr:=hr.ext dL
 replace hE:=hE.tr dL
 refine ar (bc fl) ?_
 rintro v w2 ⟨g2,rfl,aq,dk,my,nd⟩
 replace hr:=hr.ext dk
 replace hE:=hE.tr dk
 replace au:=au.ext dk
 refine va ?_
 refine ag (ae (af (aa ?_)))
 refine ab (ah jY) ?_
 refine ab (ak qf au) ?_
 refine ab (bv Tryz.underlying5 Tryz.underlying34 (hm:=kU)) ?_
 refine ab (bi fl lf) ?_
 refine ar (bc (cs:=[(.int .i64 0),(.string (av [])),(.slice none 0 0),(.slice none 0 0),(.slice none 0 0),(.int .u64 0),(.int .u64 0),(.string (av [])),(.string (av [])),(.string (av []))]) fl) ?_
 rintro v w3 ⟨g4,rfl,aI,eM,th,ta⟩
 replace hr:=hr.ext eM
 replace hE:=hE.tr eM
 replace au:=au.ext eM
 replace aq:=aq.ext eM
 refine aB (aD (vs:=[(.int .i64 (↑code.toNat:Int)),(.string (av [])),(.slice none 0 0),(.slice none 0 0),(.slice none 0 0),(.int .u64 0),(.int .u64 0),(.string (av [])),(.string (av [])),(.string (av []))]) fy aI) ?_
 rintro _ w4 ⟨gT,cQ⟩
 replace hr:=hr.gr cQ
 replace hE:=hE.gr cQ
 replace au:=au.gr cQ
 replace aq:=aq.gr cQ
 replace aI:=gT
 refine ag (ae (af (aa ?_)))
 refine ab (ah gH) ?_
 refine ab (ak dc au) ?_
 refine va ?_
 refine ag (ae (af (aa ?_)))
 refine ab (ah dA) ?_
 refine ab (ak cO aI) ?_
 refine ab (aw No (nI _ (↑code.toNat:Int))) ?_
 refine va ?_
 refine ag (ae (af (af (aa ?_))))
 refine va ?_
 refine ag (ae (a9 ?_))
 refine cU (σ:=Nat×Cmd×List UInt8×Option Addr×Nat) (fun s=>(aZ (↑code.toNat:Int)).length - s.1) (fun s=>[(2,.pointer (some ⟨g2,0,none⟩)),(4,.pointer (some ⟨g4,0,none⟩)),(5,.slice s.2.2.2.1 s.2.2.1.length s.2.2.2.2),(6,.string (av (aZ (↑code.toNat:Int)))),(7,.int .i64 (s.1:Int))]) (fun s w'=>s.1≤(aZ (↑code.toNat:Int)).length∧rr (aZ (↑code.toNat:Int)) (cmd0 (↑code.toNat:Int)) l=rr ((aZ (↑code.toNat:Int)).drop s.1) s.2.1 s.2.2.1∧s.2.2.1.length≤l.length∧Blk w' g2 39 [(.int .i64 0),(.string (av ([]:List UInt8))),(.slice none 0 0),(.slice none 0 0),(.slice none 0 0),(.int .u64 0),(.int .u64 0),(.string (av ([]:List UInt8))),(.string (av ([]:List UInt8))),(.string (av ([]:List UInt8)))]∧(∃K1 k1 V1 v1 T1 t1,Blk w' g4 39 (cL s.2.1 K1 k1 V1 v1 T1 t1)∧RdT w' w.heap.size 9 K1 s.2.1.keys.length k1 (s.2.1.keys.flatMap gO)∧RdT w' w.heap.size 5 V1 s.2.1.value.length v1 (s.2.1.value.map j3)∧RdT w' w.heap.size 9 T1 s.2.1.tags.length t1 (s.2.1.tags.flatMap gO))∧RdB w' lo w.heap.size s.2.2.2.1 s.2.2.2.2 s.2.2.1∧Ext w w') ((0,(cmd0 (↑code.toNat:Int)),l,A,c)) (⟨Nat.zero_le _,rfl,Nat.le_refl _,aq,⟨none,0,none,0,none,0,aI,RdT.nil _ _ _,RdT.nil _ _ _,RdT.nil _ _ _⟩,hr,hE⟩) ?_ (hL:=⟨rfl,rfl,rfl,rfl,rfl,trivial⟩)
 rintro⟨i,s,q,Aq,cq⟩ wq ⟨nh,sF,hql,aq,⟨K1,k1,V1,v1,T1,t1,aI,lx,lv,lw⟩,PJ,hE⟩
 show WC _ _ _ _ [(2,(.pointer (some ⟨g2,0,none⟩))),(4,(.pointer (some ⟨g4,0,none⟩))),(5,(.slice Aq q.length cq)),(6,(.string (av (aZ (↑code.toNat:Int))))),(7,(.int .i64 (↑i:Int)))] _
 simp only at nh sF hql
 have Am:=pi (↑code.toNat:Int)
 have hzb4:=aI.lt
 replace aI:Blk wq g4 39 [(.int .i64 s.op),(.string (av s.key)),(.slice K1 s.keys.length k1),(.slice V1 s.value.length v1),(.slice T1 s.tags.length t1),(.int .u64 (↑s.life:Int)),(.int .u64 (↑s.ver:Int)),(.string (av s.tag)),(.string (av s.pre)),(.string (av s.child))]:=aI
 refine af (af (aa ?_))
 iterate 2 refine vm ?_
 refine ab (fW Tryz.underlying9) ?_
 refine ab (bz) ?_
 refine ag (ae ?_)
 refine aL (fun dM=>?_) (fun dM=>?_)
 ·refine aS (ae (af (a9 (af ?_))))
  refine eH ?_
  intro w5 vp
  replace aq:=aq.ext vp
  replace aI:=aI.ext vp
  replace PJ:=PJ.ext vp
  replace lx:=RdT.ext lx vp
  replace lv:=RdT.ext lv vp
  replace lw:=RdT.ext lw vp
  replace hE:=hE.tr vp
  have Ut:=vp.size
  refine fh (RT w5.heap.size) rt1 rt2 rt3 0 14 [(27,a0 (.agg #[(.int .i64 s.op),(.string (av s.key)),(.slice K1 s.keys.length k1),(.slice V1 s.value.length v1),(.slice T1 s.tags.length t1),(.int .u64 (↑s.life:Int)),(.int .u64 (↑s.ver:Int)),(.string (av s.tag)),(.string (av s.pre)),(.string (av s.child))])),(28,a0 (.string (av (aZ (↑code.toNat:Int))))),(29,a0 (.int .i64 (↑i:Int))),(30,a0 (.int .u8 (↑((aZ (↑code.toNat:Int)).getD i 0).toNat:Int))),(31,a0 (.slice Aq q.length cq)),(32,(fun v wz=>RdOut (fF s ((aZ (↑code.toNat:Int)).getD i 0) q) (dh ((aZ (↑code.toNat:Int)).getD i 0) q) (lr ((aZ (↑code.toNat:Int)).getD i 0) q) w.heap.size lo w.heap.size wz v)),(26,(fun v wz=>RdOut (fF s ((aZ (↑code.toNat:Int)).getD i 0) q) (dh ((aZ (↑code.toNat:Int)).getD i 0) q) (lr ((aZ (↑code.toNat:Int)).getD i 0) q) w.heap.size lo w.heap.size wz v)),(33,(fun v wz=>CmdOut (fF s ((aZ (↑code.toNat:Int)).getD i 0) q) w.heap.size wz v)),(34,(fun v wz=>∃Ar cr,v=.slice Ar (dh ((aZ (↑code.toNat:Int)).getD i 0) q).length cr∧RdB wz lo w.heap.size Ar cr (dh ((aZ (↑code.toNat:Int)).getD i 0) q))),(35,a0 (.bool (lr ((aZ (↑code.toNat:Int)).getD i 0) q))),(8,(fun v w=>∃g8,v=.pointer (some ⟨g8,0,none⟩)∧Blk w g8 39 [(.int .i64 0),(.string (av [])),(.slice none 0 0),(.slice none 0 0),(.slice none 0 0),(.int .u64 0),(.int .u64 0),(.string (av [])),(.string (av [])),(.string (av []))]∧w5.heap.size≤g8)),(8,(fun v wz=>CmdAt (fF s ((aZ (↑code.toNat:Int)).getD i 0) q) w.heap.size w5.heap.size wz v)),(9,(fun v wz=>∃Ar cr,v=.slice Ar (dh ((aZ (↑code.toNat:Int)).getD i 0) q).length cr∧RdB wz lo w.heap.size Ar cr (dh ((aZ (↑code.toNat:Int)).getD i 0) q))),(10,a0 (.bool (lr ((aZ (↑code.toNat:Int)).getD i 0) q)))] [[],[],[],[1,2],[],[0,3,4],[5],[6],[6],[6],[],[7,10],[8],[9]] [[39],[39],[39],[39],[39],[39],[39],[39],[39],[39],[],[],[39],[39]] [[],[],[],[],[],[],[],[],[39],[39],[],[],[39],[39]] [none,none,none,none,none,none,none,none,none,none,none,some 39,none,none] [true,true,true,true,true,true,true,true,true,true,false,true,true,true] [39] _ [] [] ⟨sA,sA,sA,sA,sA,⟨fun v w w' h he=>h.ext he,fun e he=>by simp at he;subst he;exact fun v w w' h k=>RdOut.rt h k (by omega)⟩,⟨fun v w w' h he=>h.ext he,fun e he=>by simp at he;subst he;exact fun v w w' h k=>RdOut.rt h k (by omega)⟩,⟨fun v w w' h he=>h.ext he,fun e he=>by simp at he;subst he;exact fun v w w' h k=>CmdOut.rt h k⟩,⟨fun v w w' ⟨A,c,hv,h⟩ he=>⟨A,c,hv,h.ext he⟩,fun e he=>by simp at he;subst he;exact fun v w w' ⟨A,c,hv,h⟩ k=>⟨A,c,hv,RT.rd k h (by omega)⟩⟩,sA,iF ((fun v w w' ⟨g,hv,hb,hl⟩ he=>⟨g,hv,hb.ext he,hl⟩)),iF ((fun v w w' h he=>h.ext he)),⟨fun v w w' ⟨A,c,hv,h⟩ he=>⟨A,c,hv,h.ext he⟩,fun e he=>by simp at he;subst he;exact fun v w w' ⟨A,c,hv,h⟩ k=>⟨A,c,hv,RT.rd k h (by omega)⟩⟩,sA,trivial⟩ ?_ ?_
  ·repeat' apply And.intro
   any_goals exact trivial
   all_goals intro wd bW
   ·replace bW:Ext _ _:=qG bW
    replace aI:=aI.ext bW
    show eV _ _ _ _ _ _
    exact am (ax (aK cc aI))
   iterate 2 exact am (ax (aF))
   ·iterate 2 rintro _ rfl
    exact am (ax (pd (i:=(↑i:Int)) Tryz.underlying9 rfl rfl))
   exact am (ax (aF))
   ·replace bW:Ext _ _:=qG bW
    replace PJ:=PJ.ext bW
    replace lx:=RdT.ext lx bW
    replace lv:=RdT.ext lv bW
    replace lw:=RdT.ext lw bW
    have dK:=bW.size
    iterate 3 rintro _ rfl
    show eV _ _ _ _ _ _
    refine am (OpRun.mono (aw YJ (yl _ w.heap.size (by omega) s K1 k1 V1 v1 T1 t1 lx lv lw ((aZ (↑code.toNat:Int)).getD i 0) lo w.heap.size Aq cq q PJ (by omega) (by omega))) ?_)
    rintro v w6 ⟨fT,uB⟩
    exact⟨fT,uB⟩
   ·replace bW:Ext _ _:=qG bW
    have dK:=bW.size
    rintro _ ⟨K2,k2,V2,v2,T2,t2,Ar,cr,rfl,⟨gN,kP,kQ⟩,vu⟩
    show eV _ _ _ _ _ _
    refine am (OpRun.mono (aF) ?_)
    rintro v _ ⟨rfl,rfl⟩
    exact⟨⟨K2,k2,V2,v2,T2,t2,Ar,cr,rfl,⟨gN,kP,kQ⟩,vu⟩,aP _⟩
   ·replace bW:Ext _ _:=qG bW
    have dK:=bW.size
    rintro _ ⟨K5,k5,V5,v5,T5,t5,Ar,cr,rfl,⟨Tv,Tr,Tt⟩,vu⟩
    show eV _ _ _ _ _ _
    refine am (OpRun.mono (fq) ?_)
    rintro v _ ⟨rfl,rfl⟩
    exact⟨⟨K5,k5,V5,v5,T5,t5,rfl,Tv,Tr,Tt⟩,aP _⟩
   ·have dK:=bW.size
    rintro _ ⟨K5,k5,V5,v5,T5,t5,Ar,cr,rfl,⟨Tv,Tr,Tt⟩,vu⟩
    show eV _ _ _ _ _ _
    refine am (OpRun.mono (fq) ?_)
    rintro v _ ⟨rfl,rfl⟩
    exact⟨⟨Ar,cr,rfl,vu⟩,aP _⟩
   ·rintro _ ⟨K5,k5,V5,v5,T5,t5,Ar,cr,rfl,⟨Tv,Tr,Tt⟩,vu⟩
    show eV _ _ _ _ _ _
    exact am (ax (fq))
   ·replace bW:Ext _ _:=qG bW
    have dK:=bW.size
    show eV _ _ _ _ _ _
    refine am (OpRun.mono (bc (cs:=[(.int .i64 0),(.string (av [])),(.slice none 0 0),(.slice none 0 0),(.slice none 0 0),(.int .u64 0),(.int .u64 0),(.string (av [])),(.string (av [])),(.string (av []))]) fl) ?_)
    rintro v w6 ⟨g8,rfl,cA,mg,NR,UL⟩
    exact⟨⟨g8,rfl,cA,by omega⟩,mg⟩
   ·rintro _ ⟨K6,k6,V6,v6,T6,t6,rfl,Tu,Tq,Ts⟩
    rintro _ ⟨g8,rfl,cA,NR⟩
    show eV _ _ _ _ _ _
    have kf:=cA
    refine am (OpRun.mono (aD (vs:=[(.int .i64 (fF s ((aZ (↑code.toNat:Int)).getD i 0) q).op),(.string (av (fF s ((aZ (↑code.toNat:Int)).getD i 0) q).key)),(.slice K6 (fF s ((aZ (↑code.toNat:Int)).getD i 0) q).keys.length k6),(.slice V6 (fF s ((aZ (↑code.toNat:Int)).getD i 0) q).value.length v6),(.slice T6 (fF s ((aZ (↑code.toNat:Int)).getD i 0) q).tags.length t6),(.int .u64 (↑(fF s ((aZ (↑code.toNat:Int)).getD i 0) q).life:Int)),(.int .u64 (↑(fF s ((aZ (↑code.toNat:Int)).getD i 0) q).ver:Int)),(.string (av (fF s ((aZ (↑code.toNat:Int)).getD i 0) q).tag)),(.string (av (fF s ((aZ (↑code.toNat:Int)).getD i 0) q).pre)),(.string (av (fF s ((aZ (↑code.toNat:Int)).getD i 0) q).child))]) fy cA) ?_)
    rintro _ w6 ⟨Cp,rz⟩
    replace Tu:=RdT.gr Tu rz cA (by decide)
    replace Tq:=RdT.gr Tq rz cA (by decide)
    replace Ts:=RdT.gr Ts rz cA (by decide)
    replace cA:=Cp
    exact⟨⟨g8,rfl,NR,K6,k6,V6,v6,T6,t6,cA,Tu,Tq,Ts⟩,Da rz kf (by omega)⟩
   ·have dK:=bW.size
    rintro _ ⟨Ar,cr,rfl,vu⟩
    show eV _ _ _ _ _ _
    refine am (OpRun.mono (eU) ?_)
    rintro v _ ⟨rfl,rfl⟩
    exact⟨⟨Ar,cr,rfl,vu⟩,aP _⟩
   ·rintro _ rfl
    exact am (ax (eU))
  ·intro wf7 sG
   replace aq:=RT.bkB sG aq (by omega)
   replace aI:=RT.bkB sG aI (by omega)
   replace hE:=sG.e0 hE (by omega)
   iterate 5 rintro _ rfl
   rintro _ ⟨K2,k2,V2,v2,T2,t2,Ar,cr,rfl,⟨gN,kP,kQ⟩,vu⟩
   rintro _ ⟨K5,k5,V5,v5,T5,t5,Ar,cr,rfl,⟨Tv,Tr,Tt⟩,vu⟩
   rintro _ ⟨K6,k6,V6,v6,T6,t6,rfl,Tu,Tq,Ts⟩
   rintro _ ⟨Ar,cr,rfl,vu⟩
   rintro _ rfl
   intro v8
   rintro _ ⟨g8,rfl,NR,K4,k4,V4,v4,T4,t4,cA,X8,Xi,Xo⟩
   rintro _ ⟨Ar,cr,rfl,vu⟩
   rintro _ rfl
   refine fE ?_
   show WL _ _ _ [] _ _ _
   refine ag (ae (af (af (aa ?_))))
   refine vm ?_
   refine ab (b6) ?_
   refine ag (ae ?_)
   refine dJ (fun eN=>?_) (fun eN=>?_)
   ·have eo:(lr ((aZ (↑code.toNat:Int)).getD i 0) q)=false:=by simpa using eN
    have Ae:rr (aZ (↑code.toNat:Int)) (cmd0 (↑code.toNat:Int)) l=none:=by rw[sF,eC,rr,if_neg (by rw[eo];decide)]
    have wY:cZ code l=none:=by unfold cZ;rw[Ae]
    refine af (aa ?_)
    refine ab (bi fl lf) ?_
    refine aB (aD (vs:=[(.int .i64 0),(.string (av [])),(.slice none 0 0),(.slice none 0 0),(.slice none 0 0),(.int .u64 0),(.int .u64 0),(.string (av [])),(.string (av [])),(.string (av []))]) fy aq) ?_
    rintro _ w6 ⟨Cp,rz⟩
    replace hE:=hE.gr rz
    replace aq:=Cp
    refine va ?_
    refine ag (ae (aE (az (aQ (az (az (aQ (az ?_))))))))
    refine bm (rs:=[.cell 2 39,.tmp 3]) (vs:=[.agg #[(.int .i64 0),(.string (av [])),(.slice none 0 0),(.slice none 0 0),(.slice none 0 0),(.int .u64 0),(.int .u64 0),(.string (av [])),(.string (av [])),(.string (av []))],(.bool false)]) rfl ⟨⟨_,_,[(.int .i64 0),(.string (av [])),(.slice none 0 0),(.slice none 0 0),(.slice none 0 0),(.int .u64 0),(.int .u64 0),(.string (av [])),(.string (av [])),(.string (av []))],rfl,cc,aq,rfl⟩,rfl,trivial⟩ ?_
    rw[wY]
    exact⟨none,0,none,0,none,0,rfl,⟨RdT.nil _ _ _,RdT.nil _ _ _,RdT.nil _ _ _⟩,hE⟩
   ·have eo:(lr ((aZ (↑code.toNat:Int)).getD i 0) q)=true:=by simpa using eN
    refine aS (ae (af (aa ?_)))
    refine ab (aK (cs:=[(.int .i64 (fF s ((aZ (↑code.toNat:Int)).getD i 0) q).op),(.string (av (fF s ((aZ (↑code.toNat:Int)).getD i 0) q).key)),(.slice K4 (fF s ((aZ (↑code.toNat:Int)).getD i 0) q).keys.length k4),(.slice V4 (fF s ((aZ (↑code.toNat:Int)).getD i 0) q).value.length v4),(.slice T4 (fF s ((aZ (↑code.toNat:Int)).getD i 0) q).tags.length t4),(.int .u64 (↑(fF s ((aZ (↑code.toNat:Int)).getD i 0) q).life:Int)),(.int .u64 (↑(fF s ((aZ (↑code.toNat:Int)).getD i 0) q).ver:Int)),(.string (av (fF s ((aZ (↑code.toNat:Int)).getD i 0) q).tag)),(.string (av (fF s ((aZ (↑code.toNat:Int)).getD i 0) q).pre)),(.string (av (fF s ((aZ (↑code.toNat:Int)).getD i 0) q).child))]) cc cA) ?_
    refine aB (aD (vs:=[(.int .i64 (fF s ((aZ (↑code.toNat:Int)).getD i 0) q).op),(.string (av (fF s ((aZ (↑code.toNat:Int)).getD i 0) q).key)),(.slice K4 (fF s ((aZ (↑code.toNat:Int)).getD i 0) q).keys.length k4),(.slice V4 (fF s ((aZ (↑code.toNat:Int)).getD i 0) q).value.length v4),(.slice T4 (fF s ((aZ (↑code.toNat:Int)).getD i 0) q).tags.length t4),(.int .u64 (↑(fF s ((aZ (↑code.toNat:Int)).getD i 0) q).life:Int)),(.int .u64 (↑(fF s ((aZ (↑code.toNat:Int)).getD i 0) q).ver:Int)),(.string (av (fF s ((aZ (↑code.toNat:Int)).getD i 0) q).tag)),(.string (av (fF s ((aZ (↑code.toNat:Int)).getD i 0) q).pre)),(.string (av (fF s ((aZ (↑code.toNat:Int)).getD i 0) q).child))]) fy aI) ?_
    rintro _ w206 ⟨dm,b7⟩
    replace aq:=aq.gr b7
    replace hE:=hE.gr b7
    replace X8:=RdT.gr X8 b7 aI (by decide)
    replace Xi:=RdT.gr Xi b7 aI (by decide)
    replace Xo:=RdT.gr Xo b7 aI (by decide)
    replace vu:=vu.gr b7
    replace aI:=dm
    refine ag (ae (aa ?_))
    refine vm ?_
    refine va ?_
    refine ag (bb (ae (aa ?_)))
    refine vm ?_
    refine ab (bH) ?_
    refine va ?_
    refine ag ?_
    refine cB ((i+1,(fF s ((aZ (↑code.toNat:Int)).getD i 0) q),(dh ((aZ (↑code.toNat:Int)).getD i 0) q),Ar,cr)) (by show(aZ (↑code.toNat:Int)).length -(i+1)<(aZ (↑code.toNat:Int)).length - i;omega) (⟨by show i+1≤_;omega,by show rr (aZ (↑code.toNat:Int)) (cmd0 (↑code.toNat:Int)) l=rr ((aZ (↑code.toNat:Int)).drop (i+1)) (fF s ((aZ (↑code.toNat:Int)).getD i 0) q) (dh ((aZ (↑code.toNat:Int)).getD i 0) q);rw[sF,eC,rr,if_pos eo],by show(dh ((aZ (↑code.toNat:Int)).getD i 0) q).length≤_;have:=Dn ((aZ (↑code.toNat:Int)).getD i 0) q;omega,aq,⟨K4,k4,V4,v4,T4,t4,aI,X8,Xi,Xo⟩,vu,hE⟩) (hL:=⟨rfl,rfl,rfl,rfl,rfl,trivial⟩)
 ·have uv:rr (aZ (↑code.toNat:Int)) (cmd0 (↑code.toNat:Int)) l=some (s,q):=by rw[sF,List.drop_of_length_le (by omega)];rfl
  refine cW (bx (bx (ce (ae (af (af (aa ?_)))))))
  refine vm ?_
  refine ab (bj Tryz.underlying32) ?_
  refine ab (bw) ?_
  refine aG (d:=43) (fun RB=>?_) (fun RB=>?_)
  ·have wY:cZ code l=none:=by unfold cZ;rw[uv];exact if_neg (by rintro⟨h,_⟩;omega)
   refine vm ?_
   iterate 3 refine aA ?_
   refine ab (ay) ?_
   refine ag (ae ?_)
   refine aR ?_
   refine af (aa ?_)
   refine ab (bi fl lf) ?_
   refine aB (aD (vs:=[(.int .i64 0),(.string (av [])),(.slice none 0 0),(.slice none 0 0),(.slice none 0 0),(.int .u64 0),(.int .u64 0),(.string (av [])),(.string (av [])),(.string (av []))]) fy aq) ?_
   rintro _ w205 ⟨cy,ba⟩
   replace hE:=hE.gr ba
   replace aq:=cy
   refine va ?_
   refine ag (ae (aE (az ?_)))
   refine bm (rs:=[.cell 2 39,.tmp 3]) (vs:=[.agg #[(.int .i64 0),(.string (av [])),(.slice none 0 0),(.slice none 0 0),(.slice none 0 0),(.int .u64 0),(.int .u64 0),(.string (av [])),(.string (av [])),(.string (av []))],(.bool false)]) rfl ⟨⟨_,_,[(.int .i64 0),(.string (av [])),(.slice none 0 0),(.slice none 0 0),(.slice none 0 0),(.int .u64 0),(.int .u64 0),(.string (av [])),(.string (av [])),(.string (av []))],rfl,cc,aq,rfl⟩,rfl,trivial⟩ ?_
   rw[wY]
   exact⟨none,0,none,0,none,0,rfl,⟨RdT.nil _ _ _,RdT.nil _ _ _,RdT.nil _ _ _⟩,hE⟩
  ·refine vm ?_
   refine aj (aK (cs:=[(.int .i64 s.op),(.string (av s.key)),(.slice K1 s.keys.length k1),(.slice V1 s.value.length v1),(.slice T1 s.tags.length t1),(.int .u64 (↑s.life:Int)),(.int .u64 (↑s.ver:Int)),(.string (av s.tag)),(.string (av s.pre)),(.string (av s.child))]) cc aI) ?_
   refine bP (aw YI (yb _ s _ _ K1 k1 V1 v1 T1 t1 (RdT.rd lx) (RdT.rd lv) (RdT.rd lw))) ?_
   rintro v w205 ⟨rfl,pz⟩
   replace aq:=aq.ext pz
   replace aI:=aI.ext pz
   replace lx:=RdT.ext lx pz
   replace lv:=RdT.ext lv pz
   replace lw:=RdT.ext lw pz
   replace hE:=hE.tr pz
   refine aj (b6) ?_
   refine ab (ap) ?_
   refine ag (ae ?_)
   refine dJ (fun e9=>?_) (fun e9=>?_)
   ·have wY:cZ code l=none:=by unfold cZ;rw[uv];exact if_neg (by rintro⟨_,h⟩;rw[h] at e9;cases e9)
    refine af (aa ?_)
    refine ab (bi fl lf) ?_
    refine aB (aD (vs:=[(.int .i64 0),(.string (av [])),(.slice none 0 0),(.slice none 0 0),(.slice none 0 0),(.int .u64 0),(.int .u64 0),(.string (av [])),(.string (av [])),(.string (av []))]) fy aq) ?_
    rintro _ w206 ⟨dm,b7⟩
    replace hE:=hE.gr b7
    replace aq:=dm
    refine va ?_
    refine ag (ae (aE (az ?_)))
    refine bm (rs:=[.cell 2 39,.tmp 3]) (vs:=[.agg #[(.int .i64 0),(.string (av [])),(.slice none 0 0),(.slice none 0 0),(.slice none 0 0),(.int .u64 0),(.int .u64 0),(.string (av [])),(.string (av [])),(.string (av []))],(.bool false)]) rfl ⟨⟨_,_,[(.int .i64 0),(.string (av [])),(.slice none 0 0),(.slice none 0 0),(.slice none 0 0),(.int .u64 0),(.int .u64 0),(.string (av [])),(.string (av [])),(.string (av []))],rfl,cc,aq,rfl⟩,rfl,trivial⟩ ?_
    rw[wY]
    exact⟨none,0,none,0,none,0,rfl,⟨RdT.nil _ _ _,RdT.nil _ _ _,RdT.nil _ _ _⟩,hE⟩
   ·have PI:cZ code l=some s:=by unfold cZ;rw[uv];exact if_pos ⟨by omega,by simpa using e9⟩
    refine aS (ae (af (aa ?_)))
    refine ab (aK (cs:=[(.int .i64 s.op),(.string (av s.key)),(.slice K1 s.keys.length k1),(.slice V1 s.value.length v1),(.slice T1 s.tags.length t1),(.int .u64 (↑s.life:Int)),(.int .u64 (↑s.ver:Int)),(.string (av s.tag)),(.string (av s.pre)),(.string (av s.child))]) cc aI) ?_
    refine aB (aD (vs:=[(.int .i64 s.op),(.string (av s.key)),(.slice K1 s.keys.length k1),(.slice V1 s.value.length v1),(.slice T1 s.tags.length t1),(.int .u64 (↑s.life:Int)),(.int .u64 (↑s.ver:Int)),(.string (av s.tag)),(.string (av s.pre)),(.string (av s.child))]) fy aq) ?_
    rintro _ w206 ⟨dm,b7⟩
    replace lx:=RdT.gr lx b7 aq (by decide)
    replace lv:=RdT.gr lv b7 aq (by decide)
    replace lw:=RdT.gr lw b7 aq (by decide)
    replace hE:=hE.gr b7
    replace aq:=dm
    refine va ?_
    refine ag (ae (aE ?_))
    refine bm (rs:=[.cell 2 39,.tmp 3]) (vs:=[.agg #[(.int .i64 s.op),(.string (av s.key)),(.slice K1 s.keys.length k1),(.slice V1 s.value.length v1),(.slice T1 s.tags.length t1),(.int .u64 (↑s.life:Int)),(.int .u64 (↑s.ver:Int)),(.string (av s.tag)),(.string (av s.pre)),(.string (av s.child))],(.bool true)]) rfl ⟨⟨_,_,[(.int .i64 s.op),(.string (av s.key)),(.slice K1 s.keys.length k1),(.slice V1 s.value.length v1),(.slice T1 s.tags.length t1),(.int .u64 (↑s.life:Int)),(.int .u64 (↑s.ver:Int)),(.string (av s.tag)),(.string (av s.pre)),(.string (av s.child))],rfl,cc,aq,rfl⟩,rfl,trivial⟩ ?_
    rw[PI]
    exact⟨K1,k1,V1,v1,T1,t1,rfl,⟨lx,lv,lw⟩,hE⟩
end Go.Proofs.YtiighkbehiddkaaGreat
namespace Go.Proofs.YtiighkbehiddkaaGreat
set_option linter.unusedVariables false
set_option linter.unusedSimpArgs false
/-- The letters. -/
def L9 (p:UInt8):Prop:=p=107∨p=118∨p=116∨p=108∨p=110∨p=109∨p=103∨p=112∨p=99
theorem pX (op:Int):aZ op=[107,118,116,108]∨aZ op=[107,118,116,108,110]∨aZ op=[107]∨aZ op=[109]∨aZ op=[107,108]∨aZ op=[103]∨aZ op=[112]∨aZ op=[107,99]∨aZ op=[]:=by
 unfold aZ
 repeat' split
 all_goals simp
theorem DP (op:Int):∀p∈aZ op,L9 p:=by
 intro p hp
 have key:(aZ op).all (fun p=>decide (p=107∨p=118∨p=116∨p=108∨p=110∨p=109∨p=103∨p=112∨p=99))=true:=by
  rcases pX op with h|h|h|h|h|h|h|h|h<;>rw[h]<;>decide
 unfold L9
 exact of_decide_eq_true (List.all_eq_true.1 key p hp)
/-! Writing. -/
/-! Reading what was written. -/
theorem wa (al:List UInt8→Bool) (l:List UInt8):cF al l=(!nH l|| !al (bq l)):=by
 unfold cF nH
 congr 1
 by_cases h:(cM l 65536).2.2=0
 ·rw[decide_eq_true h,decide_eq_false (by omega)];rfl
 ·rw[decide_eq_false h,decide_eq_true (by omega)];rfl
theorem m8 (l:List UInt8):gq l= !o0 l:=by
 unfold gq o0
 by_cases h:(bd l).2.2=0
 ·rw[decide_eq_true h,decide_eq_false (by omega)];rfl
 ·rw[decide_eq_false h,decide_eq_true (by omega)];rfl
theorem ya {c:Cmd}:fd c=true↔(1≤c.op∧c.op≤15)∧c=eJ c∧(aZ c.op).all (og c)=true:=by
 unfold fd;rw[Bool.and_eq_true,Bool.and_eq_true,decide_eq_true_eq,decide_eq_true_eq,and_assoc]
theorem Dq (al:List UInt8→Bool) (l:List UInt8):∀n,(rS al n l).2.2=(oc n l|| !((rS al n l).1.all al))
 |0=>rfl
 |n+1=>by
  have ih:=Dq al l n
  have e2:=(vZ al kv l n).2
  show((rS al n l).2.2||cF al (rS al n l).2.1)=(oc n l|| !nH (rS kv n l).2.1|| !(((rS al n l).1++[bq (rS al n l).2.1]).all al))
  rw[ih,wa,←e2,List.all_append]
  cases oc n l<;>cases(rS al n l).1.all al<;>cases nH (rS al n l).2.1<;>cases hx:al (bq (rS al n l).2.1)<;>simp[hx]
theorem vL (a:Nat) (ha:a≤1) (al:List UInt8→Bool) (l:List UInt8):(oZ l=false→vl a 16 al l=true)∧(oZ l=true→p7 a 16 l=kE l∧l3 a 16 l=qD l∧vl a 16 al l= !((kE l).all al&&decide (a≤(kE l).length∧(kE l).length≤16))):=by
 have bI:=fun al=>(ip al (cz l) (bO l)).1
 by_cases h:bO l<a∨16<bO l
 ·obtain⟨e1,e2,e3⟩:=yi (al:=al) h
  refine⟨fun _=>e3,fun ho=>?_⟩
  have pF:bO l≤16:=by unfold oZ at ho;simp at ho;omega
  have h0:bO l=0:=by omega
  obtain⟨t1,t2⟩:=zA ho
  rw[h0] at t1 t2
  have t1':kE l=[]:=t1
  have t2':qD l=cz l:=t2
  have hf:¬(a≤([]:List (List UInt8)).length∧([]:List (List UInt8)).length≤16):=by simp;omega
  rw[e1,e2,e3,t1',t2',decide_eq_false hf,Bool.and_false]
  exact⟨rfl,rfl,rfl⟩
 ·obtain⟨e1,e2,e3⟩:=Di al h
  have hb:=Dq al (cz l) (bO l)
  have pF:decide (bO l≤16)=true:=decide_eq_true (by omega)
  constructor
  ·intro ho
   unfold oZ at ho
   rw[pF,Bool.and_true] at ho
   rw[e3,hb,m8]
   cases hn:o0 l
   ·simp
   ·rw[hn,Bool.true_and] at ho
    have:oc (bO l) (cz l)=true:=by simpa using ho
    rw[this];simp
  ·intro ho
   obtain⟨t1,t2⟩:=zA ho
   have VC:=ho
   unfold oZ at VC
   simp only[Bool.and_eq_true,Bool.not_eq_true'] at VC
   obtain⟨⟨hn,_⟩,he⟩:=VC
   obtain⟨s1,s2⟩:=vZ al kv (cz l) (bO l)
   rw[e1,e2,e3,t1,t2,hb,m8,hn,he,s1,s2,bI]
   refine⟨rfl,rfl,?_⟩
   rw[decide_eq_true (by omega),Bool.and_true];rfl
theorem Dc {c:Cmd} {l:List UInt8} {b:Bool} {p:UInt8} (hp:L9 p):(lr p l=false→(fS (c,l,b) p).2.2=true)∧(lr p l=true→fS (c,l,b) p=(fF c p l,dh p l,b|| !og (fF c p l) p)):=by
 have tR (h:nH l=true):l8 l=bh l:=by unfold l8;rw[h];rfl
 have nR (h:o0 l=true):qW l=cz l:=by unfold qW;rw[h];rfl
 have tb (al:List UInt8→Bool):(nH l=false→(b||cF al l)=true)∧(nH l=true→(b||cF al l)=(b|| !al (bq l))):=by
  constructor<;>intro h<;>rw[wa,h]<;>simp
 rcases hp with h|h|h|h|h|h|h|h|h<;>subst h
 ·exact⟨fun h=>(tb kv).1 h,fun h=>by rw[jL];show({c with key:=bq l},bh l,b||cF kv l)=({c with key:=bq l},l8 l,b|| !kv (bq l));rw[tR h,(tb kv).2 h]⟩
 ·exact⟨fun h=>(tb vv).1 h,fun h=>by rw[jJ];show({c with value:=bq l},bh l,b||cF vv l)=({c with value:=bq l},l8 l,b|| !vv (bq l));rw[tR h,(tb vv).2 h]⟩
 ·obtain⟨t1,t2⟩:=vL 0 (by omega) tv l
  refine⟨fun h=>by rw[i8,t1 h];simp,fun h=>?_⟩
  obtain⟨e1,e2,e3⟩:=t2 h
  rw[i8,e1,e2,e3]
  show _=({c with tags:=kE l},qD l,b|| !((kE l).all tv&&decide ((kE l).length≤16)))
  rw[show decide (0≤(kE l).length∧(kE l).length≤16)=decide ((kE l).length≤16) by rw[decide_eq_decide];omega]
 ·refine⟨fun h=>?_,fun h=>?_⟩
  ·have h':o0 l=false:=h
   rw[jb,m8,h'];simp
  ·have h':o0 l=true:=h
   rw[jb,m8,h']
   show _=({c with life:=bO l},qW l,b|| !decide (bO l≠0))
   rw[nR h']
   by_cases h0:bO l=0<;>simp[h0]
 ·refine⟨fun h=>?_,fun h=>?_⟩
  ·have h':o0 l=false:=h
   rw[i9,m8,h'];simp
  ·have h':o0 l=true:=h
   rw[i9,m8,h']
   show _=({c with ver:=bO l},qW l,b|| !true)
   rw[nR h']
 ·obtain⟨t1,t2⟩:=vL 1 (by omega) kv l
  refine⟨fun h=>by rw[ja,t1 h];simp,fun h=>?_⟩
  obtain⟨e1,e2,e3⟩:=t2 h
  rw[ja,e1,e2,e3]
  rfl
 ·exact⟨fun h=>(tb tv).1 h,fun h=>by rw[jM];show({c with tag:=bq l},bh l,b||cF tv l)=({c with tag:=bq l},l8 l,b|| !tv (bq l));rw[tR h,(tb tv).2 h]⟩
 ·exact⟨fun h=>(tb pv).1 h,fun h=>by rw[jK];show({c with pre:=bq l},bh l,b||cF pv l)=({c with pre:=bq l},l8 l,b|| !pv (bq l));rw[tR h,(tb pv).2 h]⟩
 ·exact⟨fun h=>(tb kv).1 h,fun h=>by rw[jN];show({c with child:=bq l},bh l,b||cF kv l)=({c with child:=bq l},l8 l,b|| !kv (bq l));rw[tR h,(tb kv).2 h]⟩
end Go.Proofs.YtiighkbehiddkaaGreat
