/-
 The walks of the reference of connections.
 A call for both connections.
 The walk of ConnPlays.
 The row's law where package variables are laid; and a tuple of struct's strings with their sizes. Plain laws over any program. No condition.
-/
import Derived.Test.YtiighkbehiddkaaGreatS14
import Derived.LaidMore
import Derived.OpenShut
import Derived.Stop.Joined
namespace Go.Proofs.YtiighkbehiddkaaGreat
open Go.RowKit
set_option linter.unusedVariables false
set_option maxRecDepth 4000
theorem YT:aX Tryz.prog 60=true:=by kernel_rfl
theorem Nr:aX Tryz.prog 61=true:=by kernel_rfl
theorem YS:aX Tryz.prog 62=true:=by kernel_rfl
theorem YH:aX Tryz.prog 84=true:=by kernel_rfl
theorem u0:bB Tryz.prog 45 0=some 0:=by kernel_rfl
theorem zd:bB Tryz.prog 45 4=some 6:=by kernel_rfl
theorem Dk (w:World) (S:List Nat) (hS:∀x∈S,x<w.heap.size) (s:Cn) (q:RfP) (h:RfR w S s q) (hf:RfOk s) (hk:CnOk s) (lo hi:Nat) (A:Option Addr) (c:Nat) (b:List UInt8) (hb:RdB w lo hi A c b) (WT:b.length≤1099511627776):
  Fn Tryz.prog 35 #[(.agg (ei s q).toArray),(.slice A b.length c)] w (zu w S (cT s b).1 (fun x=>.tuple #[x,.int .i64 ((cT s b).2.1:Int),.int .i64 ((cT s b).2.2:Int)])):=by
 obtain⟨il,ih,B4,eO,hI⟩:=h.i
 obtain⟨ol,oh,EB,CW,hO⟩:=h.o
 change RdB w il ih q.I q.ci s.held at hI
 change RdB w ol oh q.O q.co s.out at hO
 have hl:=hk.hl
 have hi:=hk.i2
 have hE:=aP w
 obtain⟨n,hn⟩:∃n,n=(min b.length (s.ci - s.held.length)):=⟨_,rfl⟩
 have ht:(b.take n).length=n:=by rw[List.length_take];omega
 refine aO Tryz.func35 ?_
 refine af (aa ?_)
 refine ar (bU) ?_
 rintro v w1 ⟨g2,rfl,aq,dk,my,nd⟩
 replace hE:=hE.tr dk
 refine ar (bc oi) ?_
 rintro v w2 ⟨g4,rfl,aI,eM,th,ta⟩
 replace hE:=hE.tr eM
 replace aq:=aq.ext eM
 iterate 2 refine va ?_
 refine ag (ae (af (af (aa ?_))))
 refine ab (ah (off:=6) zd) ?_
 refine ab (ak ss aq) ?_
 refine aN (d:=9) rfl (v':=(.bool (decide (s.cl=true)))) (by congr 1;cases s.cl<;>rfl) ?_
 refine aG (d:=9) (fun hc=>?_) (fun hc=>?_)
 ·refine ag (ae ?_)
  refine aR ?_
  refine af (aa ?_)
  refine ab (aK (cs:=(ei s q)) bQ aq) ?_
  refine aB (aD (vs:=(ei s q)) gi aI (iH:=cH)) ?_
  rintro _ w3 ⟨rL,lu⟩
  replace hE:=hE.gr lu
  replace aI:=rL
  iterate 2 refine va ?_
  refine ag (ae (aE (az ?_)))
  refine bm (rs:=[.cell 4 45,.tmp 5,.tmp 6]) (vs:=[.agg (ei s q).toArray,(.int .i64 0),(.int .i64 14)]) rfl ⟨⟨_,_,(ei s q),rfl,bQ,aI,rfl⟩,rfl,rfl,trivial⟩ ?_
  rw[show cT s b=(s,0,14) from if_pos hc]
  exact⟨q,rfl,h.ext hE,hE⟩
 ·refine ag (ae ?_)
  refine aC ?_
  refine aS (ae (af (aa ?_)))
  refine vm ?_
  refine ab (bj Tryz.underlying32) ?_
  refine ab (ah u0) ?_
  refine ab (ah mS) ?_
  refine ab (ak gg aq) ?_
  refine ab (ah jG) ?_
  refine ab (ak dc aq) ?_
  refine ab (bj Tryz.underlying32) ?_
  refine ab (jx) ?_
  refine ab (qQ rfl rfl rfl) ?_
  refine aN (d:=20) rfl (v':=(.int .i64 ((n:Nat):Int))) (by congr 1;omega) ?_
  refine va ?_
  refine ag (ae (af ?_))
  refine cC ej 6 [(21,a0 (.pointer (some ⟨g2,3,none⟩))),(22,a0 (.slice q.I s.held.length q.ci)),(23,iP w2.heap.size 5 s.held),(24,a0 (.slice A b.length c)),(25,a0 (.int .i64 ((n:Nat):Int))),(26,O5 0 (b.take n))] [[],[0],[1],[],[],[3,4]] _ [] [] (fun _ _ h=>h) trivial (by kernel_rfl) rfl ?_ ?_
  ·repeat' apply And.intro
   all_goals first|exact trivial|(intro wd bW;replace aq:=aq.ext bW;replace hE:=hE.tr bW;have dK:=bW.size;(repeat rintro _ rfl))
   exact am (ax (ah jG))
   exact am (ax (ak dc aq))
   ·refine am (OpRun.mono (jh cE rfl rfl (hI.ext hE)) ?_)
    rintro v w203 ⟨A23,c23,rfl,dr,yW⟩
    exact⟨⟨A23,c23,rfl,Own.mono dr (by omega)⟩,yW⟩
   iterate 2 exact am (ax (aF))
   ·have WK:=RdB.cap (hb.ext hE)
    refine am (OpRun.mono (dP cE (hb.ext hE) (mV rfl (by omega) (by omega))) ?_)
    rintro v _ ⟨rfl,A26,c26,rfl,HN,VS⟩
    have Lm:(b.drop 0).take ((Int.toNat ((n:Nat):Int)) - 0)=(b.take n):=rfl
    rw[Lm] at HN VS;rw[Lm];clear Lm
    exact⟨⟨A26,c26,rfl,(Rd.top HN).mono (Nat.zero_le _) (Nat.le_refl _)⟩,aP _⟩
  ·intro wf4 ll
   replace hE:=hE.tr ll
   replace aq:=aq.ext ll
   replace aI:=aI.ext ll
   have yD:=ll.size
   iterate 2 rintro _ rfl
   rintro _ ⟨A23,c23,rfl,dr⟩
   iterate 2 rintro _ rfl
   rintro _ ⟨A26,c26,rfl,HN⟩
   refine ar (cG cE dr HN) ?_
   rintro v w203 ⟨A27,c27,rfl,mc,LV,ha27⟩
   have LA:=fun g e=>Own.lt dr (g:=g) e
   replace hE:=hE.gr LV (fun g e=>by have:=LA g e;omega)
   replace aq:=aq.gr LV (by first|(intro e;have:=LA _ e;omega)|exact aT dr aq (by decide))
   replace aI:=aI.gr LV (by first|(intro e;have:=LA _ e;omega)|exact aT dr aI (by decide))
   have oJ:=fun g e=>Own.lt mc (g:=g) e
   refine ab (ah jG) ?_
   refine aB (aU gV aq) ?_
   rintro _ w204 ⟨dR,bM⟩
   replace hE:=hE.gr bM
   replace aI:=aI.gr bM
   replace mc:=Own.gr mc bM (by first|exact .inl rfl|(right;intro e;first|(have:=oJ _ e;omega)|(have:=Own.lt mc e;omega)|exact aT mc aq (by decide) e))
   replace aq:=dR
   refine ag (ae (af (aa ?_)))
   refine ab (aK (cs:=(gj s (.slice A27 (s.held++(b.take n)).length c27) (.slice q.O s.out.length q.co) (↑s.ph:Int) s.cl (qC s q) (qR s q))) bQ aq) ?_
   refine vm ?_
   refine aB (aD (vs:=(gj s (.slice A27 (s.held++(b.take n)).length c27) (.slice q.O s.out.length q.co) (↑s.ph:Int) s.cl (qC s q) (qR s q))) gi aI (iH:=cH)) ?_
   rintro _ w205 ⟨cy,ba⟩
   replace hE:=hE.gr ba
   replace mc:=Own.gr mc ba (by first|exact .inl rfl|(right;intro e;first|(have:=oJ _ e;omega)|(have:=Own.lt mc e;omega)|exact aT mc aI (by decide) e))
   replace aI:=cy
   iterate 2 refine va ?_
   refine ag (ae (aE ?_))
   refine bm (rs:=[.cell 4 45,.tmp 5,.tmp 6]) (vs:=[.agg (gj s (.slice A27 (s.held++(b.take n)).length c27) (.slice q.O s.out.length q.co) (↑s.ph:Int) s.cl (qC s q) (qR s q)).toArray,(.int .i64 ((n:Nat):Int)),(.int .i64 0)]) rfl ⟨⟨_,_,(gj s (.slice A27 (s.held++(b.take n)).length c27) (.slice q.O s.out.length q.co) (↑s.ph:Int) s.cl (qC s q) (qR s q)),rfl,bQ,aI,rfl⟩,rfl,rfl,trivial⟩ ?_
   rw[show cT s b=({s with held:=s.held++b.take n},n,0) from(if_neg hc).trans (by rw[←hn])]
   exact⟨⟨A27,c27,q.O,q.co,q.K,q.ck,q.V,q.cv,q.T,q.ct,q.X,q.cx,q.xs,q.N,q.cn⟩,rfl,⟨Frz.new hS (Own.rd (Own.mono mc (by omega))),h.o.ext hE,h.c.ext hE,h.r.ext hE⟩,hE⟩
theorem Hb (w:World) (S:List Nat) (hS:∀x∈S,x<w.heap.size) (s:Cn) (q:RfP) (h:RfR w S s q) (hf:RfOk s) (hk:CnOk s) (n:Int) (BU:-9223372036854775808≤n) (kA:n≤9223372036854775807) (iU:s.out.length≤1048576):
  Fn Tryz.prog 38 #[(.agg (ei s q).toArray),(.int .i64 n)] w (fun v w'=>∃A c q,v=.tuple #[.agg (ei (lZ s n).1 q).toArray,.slice A (dW s.out n).1.length c,.int .i64 ((dW s.out n).2:Int)]∧Frz w' S (PB A c (dW s.out n).1)∧RfR w' S (lZ s n).1 q∧Ext w w'):=by
 obtain⟨il,ih,B4,eO,hI⟩:=h.i
 obtain⟨ol,oh,EB,CW,hO⟩:=h.o
 change RdB w il ih q.I q.ci s.held at hI
 change RdB w ol oh q.O q.co s.out at hO
 have hE:=aP w
 refine aO Tryz.func38 ?_
 refine af (aa ?_)
 refine ar (bU) ?_
 rintro v w1 ⟨g2,rfl,aq,dk,my,nd⟩
 replace hE:=hE.tr dk
 refine ar (bc oi) ?_
 rintro v w2 ⟨g4,rfl,aI,eM,th,ta⟩
 replace hE:=hE.tr eM
 replace aq:=aq.ext eM
 iterate 2 refine va ?_
 refine ag (ae (af (af (aa ?_))))
 refine vm ?_
 refine ab (bz) ?_
 refine aG (d:=10) (fun hc=>?_) (fun hc=>?_)
 ·refine ag (ae ?_)
  refine aR ?_
  refine af (aa ?_)
  refine ab (aK (cs:=(ei s q)) bQ aq) ?_
  refine aB (aD (vs:=(ei s q)) gi aI (iH:=cH)) ?_
  rintro _ w3 ⟨rL,lu⟩
  replace hE:=hE.gr lu
  replace aI:=rL
  iterate 2 refine va ?_
  refine ag (ae (aE (az ?_)))
  refine bm (rs:=[.cell 4 45,.tmp 5,.tmp 6]) (vs:=[.agg (ei s q).toArray,(.slice none 0 0),(.int .i64 2)]) rfl ⟨⟨_,_,(ei s q),rfl,bQ,aI,rfl⟩,rfl,rfl,trivial⟩ ?_
  have e:dW s.out n=([],2):=if_pos hc
  have e2:(lZ s n).1=s:=by unfold lZ;rw[e];rfl
  rw[e2,e]
  exact⟨none,0,q,rfl,Hp _ _,h.ext hE,hE⟩
 ·refine ag (ae ?_)
  refine aC ?_
  refine aS (ae (af (aa ?_)))
  refine vm ?_
  refine ab (ah k7) ?_
  refine ab (ak dc aq) ?_
  refine ab (bj Tryz.underlying32) ?_
  obtain⟨m,hm⟩:∃m,m=min n.toNat s.out.length:=⟨_,rfl⟩
  refine ab (qQ rfl rfl rfl) ?_
  refine aN (d:=16) rfl (v':=(.int .i64 ((m:Nat):Int))) (by congr 1;omega) ?_
  refine va ?_
  refine ag (ae (af (aa ?_)))
  refine ab (ah (off:=4) k7) ?_
  refine ab (ak dc aq) ?_
  refine vm ?_
  have Mc:=RdB.cap (hO.ext hE)
  refine ar (dP cE (hO.ext hE) (mV rfl (by omega) (by omega))) ?_
  rintro v _ ⟨rfl,A20,c20,rfl,rm,ED⟩
  have yJ:(s.out.drop 0).take ((Int.toNat ((m:Nat):Int)) - 0)=(s.out.take m):=rfl
  rw[yJ] at rm ED;rw[yJ];clear yJ
  refine va ?_
  refine ag (ae (af (aa ?_)))
  refine ab (ah k7) ?_
  refine ab (ak dc aq) ?_
  refine vm ?_
  refine ar (dP cE (hO.ext hE) (iC rfl (by omega) (by omega))) ?_
  rintro v _ ⟨rfl,A24,c24,rfl,p8,VT⟩
  have Lo:(s.out.drop (Int.toNat ((m:Nat):Int))).take (s.out.length -(Int.toNat ((m:Nat):Int)))=(s.out.drop m):=rU _ _
  rw[Lo] at p8 VT;rw[Lo];clear Lo
  refine ab (ah k7) ?_
  refine aB (aU gV aq) ?_
  rintro _ w203 ⟨gy,df⟩
  replace hE:=hE.gr df
  replace aI:=aI.gr df
  replace rm:=rm.gr df
  replace p8:=p8.gr df
  replace aq:=gy
  refine ag (ae (af (aa ?_)))
  refine ab (aK (cs:=(gj s (.slice q.I s.held.length q.ci) (.slice A24 (s.out.drop m).length c24) (↑s.ph:Int) s.cl (qC s q) (qR s q))) bQ aq) ?_
  refine vm ?_
  refine aB (aD (vs:=(gj s (.slice q.I s.held.length q.ci) (.slice A24 (s.out.drop m).length c24) (↑s.ph:Int) s.cl (qC s q) (qR s q))) gi aI (iH:=cH)) ?_
  rintro _ w204 ⟨dR,bM⟩
  replace hE:=hE.gr bM
  replace rm:=rm.gr bM
  replace p8:=p8.gr bM
  replace aI:=dR
  iterate 2 refine va ?_
  refine ag (ae (aE ?_))
  refine bm (rs:=[.cell 4 45,.tmp 5,.tmp 6]) (vs:=[.agg (gj s (.slice q.I s.held.length q.ci) (.slice A24 (s.out.drop m).length c24) (↑s.ph:Int) s.cl (qC s q) (qR s q)).toArray,(.slice A20 (s.out.take m).length c20),(.int .i64 0)]) rfl ⟨⟨_,_,(gj s (.slice q.I s.held.length q.ci) (.slice A24 (s.out.drop m).length c24) (↑s.ph:Int) s.cl (qC s q) (qR s q)),rfl,bQ,aI,rfl⟩,rfl,rfl,trivial⟩ ?_
  have e:dW s.out n=(s.out.take m,0):=(if_neg hc).trans (by rw[hm,List.take_eq_take_min])
  have el:(s.out.take m).length=m:=by rw[List.length_take];omega
  have e2:(lZ s n).1={s with out:=s.out.drop m,tk:=s.tk+m}:=by unfold lZ;rw[e];show({s with out:=s.out.drop (s.out.take m).length,tk:=_}:Cn)=_;rw[el]
  rw[e2,e]
  exact⟨A20,c20,⟨q.I,q.ci,A24,c24,q.K,q.ck,q.V,q.cv,q.T,q.ct,q.X,q.cx,q.xs,q.N,q.cn⟩,rfl,⟨ol,oh,Nat.le_trans EB hE.size,CW,rm⟩,⟨h.i.ext hE,⟨ol,oh,Nat.le_trans EB hE.size,CW,p8⟩,h.c.ext hE,h.r.ext hE⟩,hE⟩
theorem qL (w:World) (s:Cn) (q:RfP) (I O:Value) (hIO:(I.oneCell'&&O.oneCell')=true) (ph:Int) (e:Bool) (er:Int):
  Fn Tryz.prog 61 #[(.agg (gj s I O ph e (qC s q) (qR s q)).toArray),(.int .i64 er)] w (fun v w'=>v=(.tuple #[(.agg (gj s I O 3 e (qC s q) (b9 (rspO 0 er) none 0 none 0)).toArray),(.int .i64 2)])∧Ext w w'):=by
 have hE:=aP w
 refine aO (args:=[(.agg (gj s I O ph e (qC s q) (qR s q)).toArray),(.int .i64 er)]) Tryz.func61 ?_
 refine af (aa ?_)
 refine ar (bU (cs:=(gj s I O ph e (qC s q) (qR s q)))) ?_
 rintro v w1 ⟨g2,rfl,aq,dk,my,nd⟩
 replace hE:=hE.tr dk
 refine ar (bc (cs:=Ke) oi) ?_
 rintro v w2 ⟨g4,rfl,aI,eM,th,ta⟩
 replace hE:=hE.tr eM
 replace aq:=aq.ext eM
 refine va ?_
 refine ag (ae (af (aa ?_)))
 refine vm ?_
 refine ab (bi (cs:=(b9 (rspO 0 er) none 0 none 0)) fQ j6) ?_
 refine ab (ah (off:=5) fx) ?_
 refine aB (aU (cs':=(gj s I O 3 e (qC s q) (qR s q))) sm aq) ?_
 rintro _ w3 ⟨rL,lu⟩
 replace hE:=hE.gr lu
 replace aI:=aI.gr lu
 replace aq:=rL
 refine ab (ah (off:=17) pJ) ?_
 refine aB (dY (vs:=(b9 (rspO 0 er) none 0 none 0)) (cs':=(gj s I O 3 e (qC s q) (b9 (rspO 0 er) none 0 none 0))) fm aq (iH:=by first|exact zP (by rw[hIO];rfl)|exact cH)) ?_
 rintro _ w4 ⟨gT,cQ⟩
 replace hE:=hE.gr cQ
 replace aI:=aI.gr cQ
 replace aq:=gT
 refine ag (ae (af (aa ?_)))
 refine ab (aK (cs:=(gj s I O 3 e (qC s q) (b9 (rspO 0 er) none 0 none 0))) bQ aq) ?_
 refine aB (aD (vs:=(gj s I O 3 e (qC s q) (b9 (rspO 0 er) none 0 none 0))) gi aI (iH:=by first|exact zP (by rw[hIO];rfl)|exact cH)) ?_
 rintro _ w5 ⟨pE,fB⟩
 replace hE:=hE.gr fB
 replace aI:=pE
 refine va ?_
 refine ag (ae (aE ?_))
 refine bm (rs:=[.cell 4 45,.tmp 5]) (vs:=[.agg (gj s I O 3 e (qC s q) (b9 (rspO 0 er) none 0 none 0)).toArray,(.int .i64 2)]) rfl ⟨⟨_,_,(gj s I O 3 e (qC s q) (b9 (rspO 0 er) none 0 none 0)),rfl,bQ,aI,rfl⟩,rfl,trivial⟩ ?_
 exact⟨rfl,hE⟩
theorem G9 (w:World) (lo hi:Nat) (A:Option Addr) (c:Nat) (l:List UInt8) (m:Nat) (F:(UInt8×List UInt8)×Nat×Nat) (hF:bJ l (m:Int)=F) (hm:m≤2097152) (hr:RdB w lo hi A c l) (bI:l.length≤140737488355328):
  Fn Tryz.prog 60 #[.slice A l.length c,.int .i64 (m:Int)] w (fun v w'=>∃A c,v=.tuple #[.agg #[.int .u8 (F.1.1.toNat:Int),.slice A F.1.2.length c],.int .i64 (F.2.1:Int),.int .i64 (F.2.2:Int)]∧OwnB w' w.heap.size 5 A c F.1.2∧Ext w w'):=by
 subst hF
 exact yj w lo hi A c l m (by omega) (by omega) hr bI
theorem Df (w:World) (code:UInt8) (lo hi:Nat) (A:Option Addr) (c:Nat) (l:List UInt8) (cm:Cmd) (jE:(cZ code l).getD (cmd0 0)=cm) (hr:RdB w lo hi A c l) (bI:l.length≤140737488355328):
  Fn Tryz.prog 62 #[.agg #[.int .u8 (code.toNat:Int),.slice A l.length c]] w (fun u w'=>∃K k V v T t,u=.tuple #[.agg (cL cm K k V v T t).toArray,.bool (cZ code l).isSome]∧RdS w' w.heap.size w'.heap.size K k cm.keys∧RdB w' w.heap.size w'.heap.size V v cm.value∧RdS w' w.heap.size w'.heap.size T t cm.tags∧Ext w w'):=by
 subst jE
 refine(vR w code lo hi A c l hr bI).mono ?_
 rintro u w' ⟨K,k,V,v,T,t,e,⟨h1,h2,h3⟩,hE⟩
 exact⟨K,k,V,v,T,t,e,h1.rd,h2.rd,h3.rd,hE⟩
theorem Bg (w:World) (S:List Nat) (hS:∀x∈S,x<w.heap.size) (s:Cn) (q:RfP) (h:RfR w S s q) (hf:RfOk s) (hk:CnOk s) (iU:s.out.length≤s.co∧s.co≤1048576):
  Fn Tryz.prog 36 #[(.agg (ei s q).toArray)] w (zu w S (b8 s).1 (fun x=>.tuple #[x,.int .i64 ((b8 s).2:Int)])):=by
 obtain⟨il,ih,B4,eO,hI⟩:=h.i
 obtain⟨ol,oh,EB,CW,hO⟩:=h.o
 change RdB w il ih q.I q.ci s.held at hI
 change RdB w ol oh q.O q.co s.out at hO
 obtain⟨rl,rh,np,kJ,hv,hX,hN⟩:=h.r
 have hl:=hk.hl
 have hi:=hk.i2
 have hE:=aP w
 have h1:=hk.h1
 have h4:=hk.h4
 refine aO (args:=[(.agg (ei s q).toArray)]) Tryz.func36 ?_
 refine af (aa ?_)
 refine ar (bU (cs:=(ei s q))) ?_
 rintro v w1 ⟨g1,rfl,au,dL,kM,ls⟩
 replace hE:=hE.tr dL
 refine ar (bc (cs:=Ke) oi) ?_
 rintro v w2 ⟨g2,rfl,aq,dk,my,nd⟩
 replace hE:=hE.tr dk
 replace au:=au.ext dk
 refine va ?_
 refine ag (ae (af (af (aa ?_))))
 refine ab (ah (off:=5) fx) ?_
 refine ab (ak mb au) ?_
 refine ag (ae (a9 (af (aa ?_))))
 refine ve ?_
 refine aG (d:=13) (fun h2=>?_) (fun h2=>?_)
 ·refine va ?_
  refine ag (ae ?_)
  refine aR ?_
  refine af (aa ?_)
  refine ab (aK (cs:=(ei s q)) bQ au) ?_
  refine aB (aD (vs:=(ei s q)) gi aq (iH:=cH)) ?_
  rintro _ w3 ⟨rL,lu⟩
  replace hE:=hE.gr lu
  replace aq:=rL
  refine va ?_
  refine ag (ae (aE (aQ (az ?_))))
  refine bm (rs:=[.cell 2 45,.tmp 3]) (vs:=[.agg (ei s q).toArray,(.int .i64 3)]) rfl ⟨⟨_,_,(ei s q),rfl,bQ,aq,rfl⟩,rfl,trivial⟩ ?_
  rw[Og (by omega)]
  exact⟨q,rfl,h.ext hE,hE⟩
 ·refine va ?_
  refine ag (ae ?_)
  refine aC ?_
  refine af (aa ?_)
  refine ve ?_
  refine aG (d:=16) (fun h3=>?_) (fun h3=>?_)
  ·replace h3:s.ph=3:=by omega
   have WS:kr s.ans=s.bs:=by rw[(hf.a h3).2.2];exact zK (hf.a h3).1 (hf.a h3).2.1
   have WT:(kr s.ans).length=s.bs.length:=by rw[WS]
   refine va ?_
   refine ag (ae ?_)
   refine aR ?_
   refine af (aa ?_)
   refine ab (ah (off:=17) pJ) ?_
   refine ab (gp (vs:=(qR s q)) bZ rfl au rfl) ?_
   refine ar (aw Nu (mT _ s.ans q.xs hv _ _ q.X q.cx q.N q.cn (hX.ext hE) (hN.ext hE) (hf.a h3).2.1 hk.sz (hf.a h3).1.o1 (hf.a h3).1.o2 (hf.a h3).1.e1 (Int.le_trans (hf.a h3).1.e2 (by decide)) (hf.a h3).1.c1 (hf.a h3).1.ms)) ?_
   rintro v w203 ⟨A19,c19,rfl,qa,Cc⟩
   replace hE:=hE.tr Cc
   replace au:=au.ext Cc
   replace aq:=aq.ext Cc
   have S9:=Cc.size
   refine va ?_
   refine ag (ae (af (af (aa ?_))))
   refine vm ?_
   refine ab (bj Tryz.underlying32) ?_
   refine ab (ah (off:=0) u0) ?_
   refine ab (ah (off:=1) la) ?_
   refine ab (ak gg au) ?_
   refine ab (ah (off:=4) k7) ?_
   refine ab (ak dc au) ?_
   refine ab (bj Tryz.underlying32) ?_
   refine ab (jx) ?_
   refine ab (bw) ?_
   refine aG (d:=29) (fun hb3=>?_) (fun hb3=>?_)
   ·refine ag (ae ?_)
    refine aR ?_
    refine af (aa ?_)
    refine ab (aK (cs:=(ei s q)) bQ au) ?_
    refine aB (aD (vs:=(ei s q)) gi aq (iH:=cH)) ?_
    rintro _ w204 ⟨dR,bM⟩
    replace hE:=hE.gr bM
    replace aq:=dR
    refine va ?_
    refine ag (ae (aE (az (aQ (az ?_)))))
    refine bm (rs:=[.cell 2 45,.tmp 3]) (vs:=[.agg (ei s q).toArray,(.int .i64 5)]) rfl ⟨⟨_,_,(ei s q),rfl,bQ,aq,rfl⟩,rfl,trivial⟩ ?_
    rw[Jm h3 (by omega)]
    exact⟨q,rfl,h.ext hE,hE⟩
   ·refine ag (ae ?_)
    refine aC ?_
    refine aS (ae (af (aa ?_)))
    refine ab (ah (off:=4) k7) ?_
    refine ab (ak dc au) ?_
    refine ar (jh cE rfl rfl (hO.ext hE)) ?_
    rintro v w204 ⟨A33,c33,rfl,H7,jC⟩
    replace hE:=hE.tr jC
    replace au:=au.ext jC
    replace aq:=aq.ext jC
    replace qa:=Own.ext qa jC
    have z5:=jC.size
    refine vm ?_
    refine ar (cG cE H7 (OwnB.rd qa)) ?_
    rintro v w205 ⟨A35,c35,rfl,gE,xf,Xf⟩
    have wT:=fun g e=>Own.lt H7 (g:=g) e
    replace hE:=hE.gr xf (fun g e=>by have:=wT g e;omega)
    replace au:=au.gr xf (by first|(intro e;have:=wT _ e;omega)|exact aT H7 au (by decide))
    replace aq:=aq.gr xf (by first|(intro e;have:=wT _ e;omega)|exact aT H7 aq (by decide))
    have kK:=fun g e=>Own.lt gE (g:=g) e
    refine ab (ah (off:=4) k7) ?_
    refine aB (aU (cs':=(gj s (.slice q.I s.held.length q.ci) (.slice A35 (s.out++(kr s.ans)).length c35) (↑s.ph:Int) s.cl (qC s q) (qR s q))) gV au) ?_
    rintro _ w206 ⟨dm,b7⟩
    replace hE:=hE.gr b7
    replace aq:=aq.gr b7
    replace gE:=Own.gr gE b7 (by first|exact .inl rfl|(right;intro e;first|(have:=kK _ e;omega)|(have:=Own.lt gE e;omega)|exact aT gE au (by decide) e))
    replace au:=dm
    refine ag (ae (af (aa ?_)))
    refine ab (bi (cs:=(b9 (rspO 0 0) none 0 none 0)) fQ j6) ?_
    refine ab (ah (off:=5) fx) ?_
    refine aB (aU (cs':=(gj s (.slice q.I s.held.length q.ci) (.slice A35 (s.out++(kr s.ans)).length c35) 1 s.cl (qC s q) (qR s q))) sm au) ?_
    rintro _ w207 ⟨iz,et⟩
    replace hE:=hE.gr et
    replace aq:=aq.gr et
    replace gE:=Own.gr gE et (by first|exact .inl rfl|(right;intro e;first|(have:=kK _ e;omega)|(have:=Own.lt gE e;omega)|exact aT gE au (by decide) e))
    replace au:=iz
    refine ab (ah (off:=17) pJ) ?_
    refine aB (dY (vs:=(b9 (rspO 0 0) none 0 none 0)) (cs':=(gj s (.slice q.I s.held.length q.ci) (.slice A35 (s.out++(kr s.ans)).length c35) 1 s.cl (qC s q) (b9 (rspO 0 0) none 0 none 0))) fm au) ?_
    rintro _ w208 ⟨iy,de⟩
    replace hE:=hE.gr de
    replace aq:=aq.gr de
    replace gE:=Own.gr gE de (by first|exact .inl rfl|(right;intro e;first|(have:=kK _ e;omega)|(have:=Own.lt gE e;omega)|exact aT gE au (by decide) e))
    replace au:=iy
    refine ag (ae (af (af (aa ?_))))
    refine ab (ah (off:=6) zd) ?_
    refine ab (ak ss au) ?_
    refine aN (d:=41) rfl (v':=(.bool (decide (s.cl=true)))) (by congr 1;cases s.cl<;>rfl) ?_
    refine aG (d:=41) (fun nB=>?_) (fun nB=>?_)
    ·refine ag (ae ?_)
     refine aR ?_
     refine aa ?_
     refine ab (ah (off:=5) fx) ?_
     refine aB (aU (cs':=(gj s (.slice q.I s.held.length q.ci) (.slice A35 (s.out++(kr s.ans)).length c35) 4 s.cl (qC s q) (b9 (rspO 0 0) none 0 none 0))) sm au) ?_
     rintro _ w209 ⟨eL,dy⟩
     replace hE:=hE.gr dy
     replace aq:=aq.gr dy
     replace gE:=Own.gr gE dy (by first|exact .inl rfl|(right;intro e;first|(have:=kK _ e;omega)|(have:=Own.lt gE e;omega)|exact aT gE au (by decide) e))
     replace au:=eL
     refine ag (ae (af (aa ?_)))
     refine ab (aK (cs:=(gj s (.slice q.I s.held.length q.ci) (.slice A35 (s.out++(kr s.ans)).length c35) 4 s.cl (qC s q) (b9 (rspO 0 0) none 0 none 0))) bQ au) ?_
     refine aB (aD (vs:=(gj s (.slice q.I s.held.length q.ci) (.slice A35 (s.out++(kr s.ans)).length c35) 4 s.cl (qC s q) (b9 (rspO 0 0) none 0 none 0))) gi aq (iH:=cH)) ?_
     rintro _ w210 ⟨ln,dw⟩
     replace hE:=hE.gr dw
     replace gE:=Own.gr gE dw (by first|exact .inl rfl|(right;intro e;first|(have:=kK _ e;omega)|(have:=Own.lt gE e;omega)|exact aT gE aq (by decide) e))
     replace aq:=ln
     refine va ?_
     refine ag (ae (aE (aQ (az ?_))))
     refine bm (rs:=[.cell 2 45,.tmp 3]) (vs:=[.agg (gj s (.slice q.I s.held.length q.ci) (.slice A35 (s.out++(kr s.ans)).length c35) 4 s.cl (qC s q) (b9 (rspO 0 0) none 0 none 0)).toArray,(.int .i64 4)]) rfl ⟨⟨_,_,(gj s (.slice q.I s.held.length q.ci) (.slice A35 (s.out++(kr s.ans)).length c35) 4 s.cl (qC s q) (b9 (rspO 0 0) none 0 none 0)),rfl,bQ,aq,rfl⟩,rfl,trivial⟩ ?_
     rw[C9 h3 (by omega)]
     exact zG h hE WS (by rw[if_pos nB];rfl) (Frz.new hS (Own.rd (Own.mono gE (by omega)))) (fun x=>.tuple #[x,.int .i64 4])
    ·refine ag (ae ?_)
     refine aC ?_
     refine aS (ae (af (aa ?_)))
     refine ab (aK (cs:=(gj s (.slice q.I s.held.length q.ci) (.slice A35 (s.out++(kr s.ans)).length c35) 1 s.cl (qC s q) (b9 (rspO 0 0) none 0 none 0))) bQ au) ?_
     refine aB (aD (vs:=(gj s (.slice q.I s.held.length q.ci) (.slice A35 (s.out++(kr s.ans)).length c35) 1 s.cl (qC s q) (b9 (rspO 0 0) none 0 none 0))) gi aq (iH:=cH)) ?_
     rintro _ w209 ⟨eL,dy⟩
     replace hE:=hE.gr dy
     replace gE:=Own.gr gE dy (by first|exact .inl rfl|(right;intro e;first|(have:=kK _ e;omega)|(have:=Own.lt gE e;omega)|exact aT gE aq (by decide) e))
     replace aq:=eL
     refine va ?_
     refine ag (ae (aE (aQ (az ?_))))
     refine bm (rs:=[.cell 2 45,.tmp 3]) (vs:=[.agg (gj s (.slice q.I s.held.length q.ci) (.slice A35 (s.out++(kr s.ans)).length c35) 1 s.cl (qC s q) (b9 (rspO 0 0) none 0 none 0)).toArray,(.int .i64 4)]) rfl ⟨⟨_,_,(gj s (.slice q.I s.held.length q.ci) (.slice A35 (s.out++(kr s.ans)).length c35) 1 s.cl (qC s q) (b9 (rspO 0 0) none 0 none 0)),rfl,bQ,aq,rfl⟩,rfl,trivial⟩ ?_
     rw[C9 h3 (by omega)]
     exact zG h hE WS (by rw[if_neg nB];rfl) (Frz.new hS (Own.rd (Own.mono gE (by omega)))) (fun x=>.tuple #[x,.int .i64 4])
  ·refine va ?_
   refine ag (ae ?_)
   refine aC ?_
   refine af (aa ?_)
   refine ve ?_
   refine aG (d:=45) (fun h4=>?_) (fun h4=>?_)
   ·refine va ?_
    refine ag (ae ?_)
    refine aR ?_
    refine af (aa ?_)
    refine ab (aK (cs:=(ei s q)) bQ au) ?_
    refine aB (aD (vs:=(ei s q)) gi aq (iH:=cH)) ?_
    rintro _ w203 ⟨gy,df⟩
    replace hE:=hE.gr df
    replace aq:=gy
    refine va ?_
    refine ag (ae (aE (aQ (az ?_))))
    refine bm (rs:=[.cell 2 45,.tmp 3]) (vs:=[.agg (ei s q).toArray,(.int .i64 0)]) rfl ⟨⟨_,_,(ei s q),rfl,bQ,aq,rfl⟩,rfl,trivial⟩ ?_
    rw[Oc (by omega)]
    exact⟨q,rfl,h.ext hE,hE⟩
   ·replace h1:s.ph=1:=by omega
    have WR:s.cmd=cmd0 0:=hf.c.resolve_left (by omega)
    obtain⟨F,hF⟩:∃F,bJ s.held (s.cp:Int)=F:=⟨_,rfl⟩
    have hFc:=mO s.held hk.p2
    have hFp:=mN s.held (s.cp:Int)
    rw[hF] at hFc hFp
    refine va ?_
    refine ag (ae ?_)
    refine aC ?_
    refine aS (bb (ae (af (aa ?_))))
    refine ab (ah (off:=3) jG) ?_
    refine ab (ak dc au) ?_
    refine ab (ah (off:=0) u0) ?_
    refine ab (ah (off:=2) mR) ?_
    refine ab (ak gg au) ?_
    refine ar (aw YT (G9 _ _ _ _ _ _ s.cp F hF hk.p2 (hI.ext hE) (by omega))) ?_
    rintro v w203 ⟨A53,c53,rfl,p9,Ip⟩
    replace hE:=hE.tr Ip
    replace au:=au.ext Ip
    replace aq:=aq.ext Ip
    have SX:=Ip.size
    have Ag:=fun g e=>Own.lt p9 (g:=g) e
    refine vm ?_
    iterate 3 refine vx ?_
    refine ar (bc (cs:=[(.int .u8 0),(.slice none 0 0)]) dN) ?_
    rintro v w204 ⟨g5,rfl,bu,f0,Am,GJ⟩
    replace hE:=hE.tr f0
    replace au:=au.ext f0
    replace aq:=aq.ext f0
    replace p9:=Own.ext p9 f0
    refine aB (aD (vs:=[(.int .u8 (↑F.1.1.toNat:Int)),(.slice A53 F.1.2.length c53)]) du bu (iH:=cH)) ?_
    rintro _ w205 ⟨cy,ba⟩
    have wJ:=ba.size
    replace hE:=hE.gr ba
    replace au:=au.gr ba
    replace aq:=aq.gr ba
    replace p9:=Own.gr p9 ba (by first|exact .inl rfl|(right;intro e;first|(have:=Ag _ e;omega)|(have:=Own.lt p9 e;omega)|exact aT p9 bu (by decide) e))
    replace bu:=cy
    iterate 2 refine va ?_
    refine ag (ae (af (af (aa ?_))))
    refine vm ?_
    refine ag (ae (a9 (af (aa ?_))))
    refine ve ?_
    refine aG (d:=59) (fun e4=>?_) (fun e4=>?_)
    ·refine va ?_
     refine ag (ae ?_)
     refine aR ?_
     refine af (aa ?_)
     refine ab (aK (cs:=(ei s q)) bQ au) ?_
     refine aB (aD (vs:=(ei s q)) gi aq (iH:=cH)) ?_
     rintro _ w206 ⟨dm,b7⟩
     replace hE:=hE.gr b7
     replace aq:=dm
     refine va ?_
     refine ag (ae (aE (aQ (az ?_))))
     refine bm (rs:=[.cell 2 45,.tmp 3]) (vs:=[.agg (ei s q).toArray,(.int .i64 0)]) rfl ⟨⟨_,_,(ei s q),rfl,bQ,aq,rfl⟩,rfl,trivial⟩ ?_
     rw[Of hf h1 (by rw[hF];omega) (by rw[hF];omega)]
     exact⟨q,rfl,h.ext hE,hE⟩
    ·refine va ?_
     refine ag (ae ?_)
     refine aC ?_
     refine af (aa ?_)
     refine ve ?_
     refine aG (d:=62) (fun e6=>?_) (fun e6=>?_)
     ·refine va ?_
      refine ag (ae ?_)
      refine aR ?_
      refine af (aa ?_)
      refine ab (ah (off:=3) jG) ?_
      refine ab (ak dc au) ?_
      have WI:=RdB.cap (hI.ext hE)
      refine ar (dP cE (hI.ext hE) (iC rfl (by omega) (by omega))) ?_
      rintro v _ ⟨rfl,A65,c65,rfl,wR,VL⟩
      have Ld:(s.held.drop (Int.toNat 1)).take (s.held.length -(Int.toNat 1))=(s.held.drop 1):=rU _ _
      rw[Ld] at wR VL;rw[Ld];clear Ld
      refine ab (ah (off:=3) jG) ?_
      refine aB (aU (cs':=(gj s (.slice A65 (s.held.drop 1).length c65) (.slice q.O s.out.length q.co) (↑s.ph:Int) s.cl (qC s q) (qR s q))) gV au) ?_
      rintro _ w206 ⟨dm,b7⟩
      replace hE:=hE.gr b7
      replace aq:=aq.gr b7
      replace wR:=wR.gr b7
      replace au:=dm
      refine ag (ae (af (aa ?_)))
      refine ab (aK (cs:=(gj s (.slice A65 (s.held.drop 1).length c65) (.slice q.O s.out.length q.co) (↑s.ph:Int) s.cl (qC s q) (qR s q))) bQ au) ?_
      refine ar (aw Nr (qL _ s q (.slice A65 (s.held.drop 1).length c65) (.slice q.O s.out.length q.co) rfl (↑s.ph:Int) s.cl 6)) ?_
      rintro v w207 ⟨rfl,rB⟩
      replace hE:=hE.tr rB
      replace aq:=aq.ext rB
      replace wR:=wR.ext rB
      iterate 2 refine vx ?_
      refine aB (aD (vs:=(gj s (.slice A65 (s.held.drop 1).length c65) (.slice q.O s.out.length q.co) 3 s.cl (qC s q) (b9 (rspO 0 6) none 0 none 0))) gi aq (iH:=cH)) ?_
      rintro _ w208 ⟨iy,de⟩
      replace hE:=hE.gr de
      replace wR:=wR.gr de
      replace aq:=iy
      refine va ?_
      refine ag (ae (aE (aQ (az ?_))))
      refine bm (rs:=[.cell 2 45,.tmp 3]) (vs:=[.agg (gj s (.slice A65 (s.held.drop 1).length c65) (.slice q.O s.out.length q.co) 3 s.cl (qC s q) (b9 (rspO 0 6) none 0 none 0)).toArray,(.int .i64 2)]) rfl ⟨⟨_,_,(gj s (.slice A65 (s.held.drop 1).length c65) (.slice q.O s.out.length q.co) 3 s.cl (qC s q) (b9 (rspO 0 6) none 0 none 0)),rfl,bQ,aq,rfl⟩,rfl,trivial⟩ ?_
      rw[Od hf h1 (by rw[hF];omega)]
      exact tN h hE WR _ s.cl ⟨il,ih,Nat.le_trans B4 hE.size,eO,wR⟩ 6 (fun x=>.tuple #[x,.int .i64 2])
     ·refine va ?_
      refine ag (ae ?_)
      refine aC ?_
      refine af (aa ?_)
      refine ve ?_
      refine aG (d:=72) (fun e5=>?_) (fun e5=>?_)
      ·refine va ?_
       refine ag (ae ?_)
       refine aR ?_
       refine af (aa ?_)
       refine ab (ah (off:=3) jG) ?_
       refine aB (aU (cs':=(gj s (.slice none 0 0) (.slice q.O s.out.length q.co) (↑s.ph:Int) s.cl (qC s q) (qR s q))) gV au) ?_
       rintro _ w206 ⟨dm,b7⟩
       replace hE:=hE.gr b7
       replace aq:=aq.gr b7
       replace au:=dm
       refine ab (ah (off:=6) zd) ?_
       refine aB (aU (cs':=(gj s (.slice none 0 0) (.slice q.O s.out.length q.co) (↑s.ph:Int) true (qC s q) (qR s q))) vM au) ?_
       rintro _ w207 ⟨iz,et⟩
       replace hE:=hE.gr et
       replace aq:=aq.gr et
       replace au:=iz
       refine ag (ae (af (aa ?_)))
       refine ab (aK (cs:=(gj s (.slice none 0 0) (.slice q.O s.out.length q.co) (↑s.ph:Int) true (qC s q) (qR s q))) bQ au) ?_
       refine ar (aw Nr (qL _ s q (.slice none 0 0) (.slice q.O s.out.length q.co) rfl (↑s.ph:Int) true 5)) ?_
       rintro v w208 ⟨rfl,QR⟩
       replace hE:=hE.tr QR
       replace aq:=aq.ext QR
       iterate 2 refine vx ?_
       refine aB (aD (vs:=(gj s (.slice none 0 0) (.slice q.O s.out.length q.co) 3 true (qC s q) (b9 (rspO 0 5) none 0 none 0))) gi aq (iH:=cH)) ?_
       rintro _ w209 ⟨eL,dy⟩
       replace hE:=hE.gr dy
       replace aq:=eL
       refine va ?_
       refine ag (ae (aE (aQ (az ?_))))
       refine bm (rs:=[.cell 2 45,.tmp 3]) (vs:=[.agg (gj s (.slice none 0 0) (.slice q.O s.out.length q.co) 3 true (qC s q) (b9 (rspO 0 5) none 0 none 0)).toArray,(.int .i64 2)]) rfl ⟨⟨_,_,(gj s (.slice none 0 0) (.slice q.O s.out.length q.co) 3 true (qC s q) (b9 (rspO 0 5) none 0 none 0)),rfl,bQ,aq,rfl⟩,rfl,trivial⟩ ?_
       rw[Oe hf h1 (by rw[hF];omega)]
       exact tN h hE WR _ true (Hp _ _) 5 (fun x=>.tuple #[x,.int .i64 2])
      ·refine va ?_
       refine ag (ae ?_)
       refine aC ?_
       refine aS (bb (ae (af (aa ?_))))
       refine ab (ah (off:=3) jG) ?_
       refine ab (ak dc au) ?_
       refine vm ?_
       have WH:=RdB.cap (hI.ext hE)
       refine ar (dP cE (hI.ext hE) (iC rfl (by omega) (by omega))) ?_
       rintro v _ ⟨rfl,A82,c82,rfl,ke,VK⟩
       have Lc:(s.held.drop (Int.toNat (↑F.2.1:Int))).take (s.held.length -(Int.toNat (↑F.2.1:Int)))=(s.held.drop F.2.1):=rU _ _
       rw[Lc] at ke VK;rw[Lc];clear Lc
       refine ab (ah (off:=3) jG) ?_
       refine aB (aU (cs':=(gj s (.slice A82 (s.held.drop F.2.1).length c82) (.slice q.O s.out.length q.co) (↑s.ph:Int) s.cl (qC s q) (qR s q))) gV au) ?_
       rintro _ w206 ⟨dm,b7⟩
       have D5:=b7.size
       replace hE:=hE.gr b7
       replace aq:=aq.gr b7
       replace p9:=Own.gr p9 b7 (by first|exact .inl rfl|(right;intro e;first|(have:=Ag _ e;omega)|(have:=Own.lt p9 e;omega)|exact aT p9 au (by decide) e))
       replace bu:=bu.gr b7
       replace ke:=ke.gr b7
       replace au:=dm
       refine ag (ae (af (aa ?_)))
       refine ab (aK (cs:=[(.int .u8 (↑F.1.1.toNat:Int)),(.slice A53 F.1.2.length c53)]) bN bu) ?_
       obtain⟨cm,jE⟩:∃cm,(cZ F.1.1 F.1.2).getD (cmd0 0)=cm:=⟨_,rfl⟩
       refine ar (aw YS (Df _ F.1.1 _ _ _ _ F.1.2 cm jE (OwnB.rd p9) (by omega))) ?_
       rintro v w207 ⟨K,k,V,v,T,t,rfl,hK,hV,hT,EZ⟩
       replace hE:=hE.tr EZ
       replace au:=au.ext EZ
       replace aq:=aq.ext EZ
       replace ke:=ke.ext EZ
       have SP:=EZ.size
       refine vm ?_
       iterate 2 refine vx ?_
       refine ar (bc (cs:=(cL (cmd0 0) none 0 none 0 none 0)) fl) ?_
       rintro v w208 ⟨g8,rfl,cA,mg,NR,UL⟩
       replace hE:=hE.tr mg
       replace au:=au.ext mg
       replace aq:=aq.ext mg
       replace ke:=ke.ext mg
       replace hK:=hK.ext mg
       replace hV:=hV.ext mg
       replace hT:=hT.ext mg
       refine aB (aD (vs:=(cL cm K k V v T t)) fy cA (iH:=cH)) ?_
       rintro _ w209 ⟨eL,dy⟩
       have D4:=dy.size
       replace hE:=hE.gr dy
       replace au:=au.gr dy
       replace aq:=aq.gr dy
       replace ke:=ke.gr dy
       replace hK:=hK.gr dy
       replace hV:=hV.gr dy
       replace hT:=hT.gr dy
       replace cA:=eL
       refine va ?_
       refine ag (ae (af (af (aa ?_))))
       refine vm ?_
       refine ab (b6) ?_
       refine aN (d:=90) rfl (v':=(.bool (decide (cZ F.1.1 F.1.2=none)))) (by congr 1;cases cZ F.1.1 F.1.2<;>rfl) ?_
       refine aG (d:=90) (fun VF=>?_) (fun VF=>?_)
       ·refine ag (ae ?_)
        refine aR ?_
        refine af (aa ?_)
        refine ab (aK (cs:=(gj s (.slice A82 (s.held.drop F.2.1).length c82) (.slice q.O s.out.length q.co) (↑s.ph:Int) s.cl (qC s q) (qR s q))) bQ au) ?_
        refine ar (aw Nr (qL _ s q (.slice A82 (s.held.drop F.2.1).length c82) (.slice q.O s.out.length q.co) rfl (↑s.ph:Int) s.cl 6)) ?_
        rintro v w210 ⟨rfl,L4⟩
        replace hE:=hE.tr L4
        replace aq:=aq.ext L4
        replace ke:=ke.ext L4
        iterate 2 refine vx ?_
        refine aB (aD (vs:=(gj s (.slice A82 (s.held.drop F.2.1).length c82) (.slice q.O s.out.length q.co) 3 s.cl (qC s q) (b9 (rspO 0 6) none 0 none 0))) gi aq (iH:=cH)) ?_
        rintro _ w211 ⟨rM,kO⟩
        replace hE:=hE.gr kO
        replace ke:=ke.gr kO
        replace aq:=rM
        refine va ?_
        refine ag (ae (aE (az ?_)))
        refine bm (rs:=[.cell 2 45,.tmp 3]) (vs:=[.agg (gj s (.slice A82 (s.held.drop F.2.1).length c82) (.slice q.O s.out.length q.co) 3 s.cl (qC s q) (b9 (rspO 0 6) none 0 none 0)).toArray,(.int .i64 2)]) rfl ⟨⟨_,_,(gj s (.slice A82 (s.held.drop F.2.1).length c82) (.slice q.O s.out.length q.co) 3 s.cl (qC s q) (b9 (rspO 0 6) none 0 none 0)),rfl,bQ,aq,rfl⟩,rfl,trivial⟩ ?_
        rw[Kb hf h1 (by rw[hF];omega),hF,VF]
        exact tN h hE WR _ s.cl ⟨il,ih,Nat.le_trans B4 hE.size,eO,ke⟩ 6 (fun x=>.tuple #[x,.int .i64 2])
       ·refine ag (ae ?_)
        refine aC ?_
        refine aS (ae (af ?_))
        refine eH ?_
        intro w210 ue
        replace hE:=hE.tr ue
        replace au:=au.ext ue
        replace aq:=aq.ext ue
        replace ke:=ke.ext ue
        replace hK:=hK.ext ue
        replace hV:=hV.ext ue
        replace hT:=hT.ext ue
        replace cA:=cA.ext ue
        have Sy:=ue.size
        refine fh (sQ (nv w210.heap.size [g1])) (oR (eh)) (oQ (fa)) (oP (eh) (fa)) 0 3 [(95,a0 (.agg (cL cm K k V v T t).toArray)),(96,a0 (.pointer (some ⟨g1,5,none⟩))),(101,(fun _ w=>Blk w g1 45 (gj s (.slice A82 (s.held.drop F.2.1).length c82) (.slice q.O s.out.length q.co) 2 s.cl (qC s q) (qR s q))))] [[],[],[1]] [[0],[0],[]] [[0],[],[]] [none,none,some 0] [true,true,true] [0] _ [] [] ⟨sA,sA,iF ((fun _ w w' hb he=>hb.ext he)),trivial⟩ ?_ ?_
        ·repeat' apply And.intro
         any_goals exact trivial
         all_goals intro wd bW
         ·have hH:=ew bW
          obtain⟨cs_g1,Mb,au⟩:=dC bW au
          replace cA:=hH.bk cA (by intro hg;simp at hg;omega)
          show eV _ _ _ _ _ _
          exact am (ax (aK (cs:=(cL cm K k V v T t)) cc cA))
         exact am (ax (ah (off:=5) fx))
         ·replace au:=au.ext bW
          rintro _ rfl
          show eV _ _ _ _ _ _
          have kf:=au
          refine am (OpRun.mono (aU (cs':=(gj s (.slice A82 (s.held.drop F.2.1).length c82) (.slice q.O s.out.length q.co) 2 s.cl (qC s q) (qR s q))) sm au) ?_)
          rintro _ w211 ⟨rM,kO⟩
          replace au:=rM
          exact⟨au,eG kO kf au rfl⟩
        ·intro wf29 QM
         have lL:=ew QM
         obtain⟨cs_g1,Mb,au⟩:=dC QM au
         have KG:=lL.size
         replace hE:=lL.e0 hE (by intro g hg;simp at hg;omega)
         replace aq:=lL.bk aq (by intro hg;simp at hg;omega)
         replace ke:=lL.rd ke (by intro g hg;simp at hg;omega)
         replace hK:=lL.rd hK (by intro g hg;simp at hg;omega)
         replace hV:=lL.rd hV (by intro g hg;simp at hg;omega)
         replace hT:=lL.rd hT (by intro g hg;simp at hg;omega)
         iterate 2 rintro _ rfl
         rintro _ au
         refine fE ?_
         refine ab (ah (off:=7) pK) ?_
         refine aB (dY (vs:=(cL cm K k V v T t)) (cs':=(gj s (.slice A82 (s.held.drop F.2.1).length c82) (.slice q.O s.out.length q.co) 2 s.cl (cL cm K k V v T t) (qR s q))) fy au) ?_
         rintro _ w211 ⟨rM,kO⟩
         have O7:=kO.size
         replace hE:=hE.gr kO
         replace aq:=aq.gr kO
         replace ke:=ke.gr kO
         replace hK:=hK.gr kO
         replace hV:=hV.gr kO
         replace hT:=hT.gr kO
         replace au:=rM
         refine ag (ae (af (aa ?_)))
         refine ab (aK (cs:=(gj s (.slice A82 (s.held.drop F.2.1).length c82) (.slice q.O s.out.length q.co) 2 s.cl (cL cm K k V v T t) (qR s q))) bQ au) ?_
         refine aB (aD (vs:=(gj s (.slice A82 (s.held.drop F.2.1).length c82) (.slice q.O s.out.length q.co) 2 s.cl (cL cm K k V v T t) (qR s q))) gi aq (iH:=cH)) ?_
         rintro _ w212 ⟨xw,ny⟩
         have O6:=ny.size
         replace hE:=hE.gr ny
         replace ke:=ke.gr ny
         replace hK:=hK.gr ny
         replace hV:=hV.gr ny
         replace hT:=hT.gr ny
         replace aq:=xw
         refine va ?_
         refine ag (ae (aE ?_))
         refine bm (rs:=[.cell 2 45,.tmp 3]) (vs:=[.agg (gj s (.slice A82 (s.held.drop F.2.1).length c82) (.slice q.O s.out.length q.co) 2 s.cl (cL cm K k V v T t) (qR s q)).toArray,(.int .i64 1)]) rfl ⟨⟨_,_,(gj s (.slice A82 (s.held.drop F.2.1).length c82) (.slice q.O s.out.length q.co) 2 s.cl (cL cm K k V v T t) (qR s q)),rfl,bQ,aq,rfl⟩,rfl,trivial⟩ ?_
         obtain⟨cm2,eN⟩:=Option.ne_none_iff_exists'.1 VF
         have e:cm=cm2:=by rw[←jE,eN];rfl
         subst e
         rw[Kb hf h1 (by rw[hF];omega),hF,eN]
         exact⟨⟨A82,c82,q.O,q.co,K,k,V,v,T,t,q.X,q.cx,q.xs,q.N,q.cn⟩,rfl,⟨⟨il,ih,Nat.le_trans B4 hE.size,eO,ke⟩,h.o.ext hE,⟨_,_,by omega,fun y hy=>.inl (by have:=hS y hy;omega),hK,hV,hT⟩,h.r.ext hE⟩,hE⟩
theorem Do (w:World) (S:List Nat) (hS:∀x∈S,x<w.heap.size) (s:Cn) (q:RfP) (h:RfR w S s q) (hf:RfOk s) (hk:CnOk s) (r:Rsp) (xs9:List IT) (sg:vals xs9=r.items) (lo9 lM:Nat) (X9:Option Addr) (cx9:Nat) (N9:Option Addr) (cn9:Nat) (ju:RdI w lo9 lM X9 cx9 xs9) (i6:RdN w lo9 lM N9 cn9 r.nums) (Wf:lM≤w.heap.size) (hS9:∀y∈S,y<lo9∨lM≤y) (pp:RspOk r) (ug:rsz r≤4398046511104) (iU:s.co≤1048576):
  Fn Tryz.prog 63 #[(.agg (ei s q).toArray),(.agg (b9 r X9 cx9 N9 cn9).toArray)] w (zu w S (dG s r).1 (fun x=>.tuple #[x,.int .i64 ((dG s r).2:Int)])):=by
 have hE:=aP w
 refine aO Tryz.func63 ?_
 refine af (aa ?_)
 refine ar (bU) ?_
 rintro v w1 ⟨g2,rfl,aq,dk,my,nd⟩
 replace hE:=hE.tr dk
 refine ar (bU) ?_
 rintro v w2 ⟨g3,rfl,aM,d7,sy,su⟩
 replace hE:=hE.tr d7
 replace aq:=aq.ext d7
 refine ar (bc oi) ?_
 rintro v w3 ⟨g4,rfl,aI,eM,th,ta⟩
 replace hE:=hE.tr eM
 replace aq:=aq.ext eM
 replace aM:=aM.ext eM
 refine va ?_
 refine ag (ae (af (af (aa ?_))))
 refine ab (ah fx) ?_
 refine ab (ak mb aq) ?_
 refine ab (bS) ?_
 refine aG (d:=8) (fun h2=>?_) (fun h2=>?_)
 ·refine ag (ae ?_)
  refine aR ?_
  refine af (aa ?_)
  refine ab (aK (cs:=(ei s q)) bQ aq) ?_
  refine aB (aD (vs:=(ei s q)) gi aI (iH:=cH)) ?_
  rintro _ w4 ⟨gT,cQ⟩
  replace hE:=hE.gr cQ
  replace aI:=gT
  refine va ?_
  refine ag (ae (aE (az ?_)))
  refine bm (rs:=[.cell 4 45,.tmp 5]) (vs:=[.agg (ei s q).toArray,(.int .i64 8)]) rfl ⟨⟨_,_,(ei s q),rfl,bQ,aI,rfl⟩,rfl,trivial⟩ ?_
  rw[show dG s r=(s,8) from by unfold dG;rw[if_pos (by omega)]]
  exact⟨q,rfl,h.ext hE,hE⟩
 ·refine ag (ae ?_)
  refine aC ?_
  refine aS (ae (af (af (aa ?_))))
  refine ab (aK (cs:=(b9 r X9 cx9 N9 cn9)) bZ aM) ?_
  refine ar (aw YH (G6 _ r xs9 sg _ _ X9 cx9 N9 cn9 (ju.ext hE) (i6.ext hE))) ?_
  rintro v w204 ⟨rfl,dV⟩
  replace hE:=hE.tr dV
  replace aq:=aq.ext dV
  replace aM:=aM.ext dV
  replace aI:=aI.ext dV
  refine aG (d:=11) (fun kI=>?_) (fun kI=>?_)
  ·refine ab (b6) ?_
   refine vm ?_
   refine aj (ah cj) ?_
   refine aj (ak cO aM) ?_
   refine aj (ah pK) ?_
   refine aj (ah dA) ?_
   refine aj (ak cO aq) ?_
   refine aj (bS) ?_
   refine aG (d:=19) (fun hop=>?_) (fun hop=>?_)
   ·refine ab (ap) ?_
    refine ag (ae ?_)
    refine aR ?_
    refine af (aa ?_)
    refine ab (aK (cs:=(ei s q)) bQ aq) ?_
    refine aB (aD (vs:=(ei s q)) gi aI (iH:=cH)) ?_
    rintro _ w205 ⟨cy,ba⟩
    replace hE:=hE.gr ba
    replace aI:=cy
    refine va ?_
    refine ag (ae (aE (az ?_)))
    refine bm (rs:=[.cell 4 45,.tmp 5]) (vs:=[.agg (ei s q).toArray,(.int .i64 2)]) rfl ⟨⟨_,_,(ei s q),rfl,bQ,aI,rfl⟩,rfl,trivial⟩ ?_
    rw[show dG s r=(s,2) from by unfold dG;rw[if_neg (by omega),if_pos (.inr (by omega))]]
    exact⟨q,rfl,h.ext hE,hE⟩
   ·have e0:(mf r).2=0:=(x0 pp).2 kI
    have e1:¬(¬(mf r).2=0∨¬r.op=s.cmd.op):=by rintro(z|z);exact z e0;omega
    have eb:(kr r).length=(cnFr r).length:=by rw[zK kI pp]
    refine ab (ap) ?_
    refine ag (ae ?_)
    refine aC ?_
    refine aS (ae (af (af ?_)))
    refine cC ej 6 [(22,a0 (.agg (b9 r X9 cx9 N9 cn9).toArray)),(23,iP w204.heap.size 5 (kr r)),(24,a0 (.int .i64 (↑(kr r).length:Int))),(25,a0 (.pointer (some ⟨g2,0,none⟩))),(26,a0 (.pointer (some ⟨g2,1,none⟩))),(27,a0 (.int .i64 (↑s.co:Int)))] [[],[0],[1],[],[3],[4]] _ [] [] (fun _ _ h=>h) trivial (by kernel_rfl) rfl ?_ ?_
    ·repeat' apply And.intro
     all_goals first|exact trivial|(intro wd bW;replace aM:=aM.ext bW;replace hE:=hE.tr bW;have dK:=bW.size;replace aq:=aq.ext bW;(repeat rintro _ rfl))
     exact am (ax (aK (cs:=(b9 r X9 cx9 N9 cn9)) bZ aM))
     ·refine am (OpRun.mono (aw Nu (mT _ r xs9 sg _ _ X9 cx9 N9 cn9 (ju.ext hE) (i6.ext hE) pp ug kI.o1 kI.o2 kI.e1 (Int.le_trans kI.e2 (by decide)) kI.c1 kI.ms)) ?_)
      rintro v w205 ⟨A23,c23,rfl,dr,yW⟩
      exact⟨⟨A23,c23,rfl,Own.mono dr (by omega)⟩,yW⟩
     ·rintro _ ⟨A23,c23,rfl,dr⟩
      show eV _ _ _ _ _ _
      exact am (ax (bj Tryz.underlying32))
     exact am (ax (ah u0))
     exact am (ax (ah la))
     exact am (ax (ak gg aq))
    ·intro wf5 px
     replace hE:=hE.tr px
     replace aq:=aq.ext px
     replace aM:=aM.ext px
     replace aI:=aI.ext px
     rintro _ rfl
     rintro _ ⟨A23,c23,rfl,dr⟩
     iterate 4 rintro _ rfl
     refine ab (bw) ?_
     refine aG (d:=28) (fun bI=>?_) (fun bI=>?_)
     ·refine ag (ae ?_)
      refine aR ?_
      refine aa ?_
      refine ab (ah cj) ?_
      refine ab (ak cO aM) ?_
      refine ab (bi fQ j6) ?_
      refine aB (aD (vs:=(b9 (rspO r.op 5) none 0 none 0)) fm aM (iH:=cH)) ?_
      rintro _ w205 ⟨cy,ba⟩
      replace hE:=hE.gr ba
      replace aq:=aq.gr ba
      replace aI:=aI.gr ba
      replace aM:=cy
      refine ag (ae (af ?_))
      refine eH ?_
      intro w206 vp
      replace hE:=hE.tr vp
      replace aq:=aq.ext vp
      replace aM:=aM.ext vp
      replace aI:=aI.ext vp
      refine fh (sQ (nv w206.heap.size [g2])) (oR (eh)) (oQ (fa)) (oP (eh) (fa)) 0 6 [(32,a0 (.agg (cL (cmd0 0) none 0 none 0 none 0).toArray)),(33,a0 (.agg (b9 (rspO r.op 5) none 0 none 0).toArray)),(34,a0 (.pointer (some ⟨g2,5,none⟩))),(41,(fun _ w=>Blk w g2 45 (gj s (.slice q.I s.held.length q.ci) (.slice q.O s.out.length q.co) 3 s.cl (qC s q) (qR s q)))),(35,a0 (.pointer (some ⟨g2,7,none⟩))),(43,(fun _ w=>Blk w g2 45 (gj s (.slice q.I s.held.length q.ci) (.slice q.O s.out.length q.co) 3 s.cl (cL (cmd0 0) none 0 none 0 none 0) (qR s q))))] [[],[],[],[2],[],[0,3,4]] [[0],[0],[0],[],[0],[]] [[0],[0],[],[],[0],[0]] [none,none,none,some 0,none,some 0] [true,true,true,false,true,true] [0] _ [] [] ⟨sA,sA,sA,iF ((fun _ w w' hb he=>hb.ext he)),sA,iF ((fun _ w w' hb he=>hb.ext he)),trivial⟩ ?_ ?_
      ·repeat' apply And.intro
       any_goals exact trivial
       all_goals intro wd bW
       exact am (ax (bi fl lf))
       ·have hH:=ew bW
        obtain⟨cs_g2,rG,aq⟩:=dC bW aq
        replace aM:=hH.bk aM (by intro hg;simp at hg;omega)
        show eV _ _ _ _ _ _
        exact am (ax (aK (cs:=(b9 (rspO r.op 5) none 0 none 0)) bZ aM))
       exact am (ax (ah fx))
       ·replace aq:=aq.ext bW
        rintro _ rfl
        show eV _ _ _ _ _ _
        have kf:=aq
        refine am (OpRun.mono (aU sm aq) ?_)
        rintro _ w207 ⟨iz,et⟩
        replace aq:=iz
        exact⟨aq,eG et kf aq rfl⟩
       exact am (ax (ah pK))
       ·obtain⟨cs_g2,rG,aq⟩:=dC bW aq
        rintro _ rfl
        rintro _ aq
        rintro _ rfl
        show eV _ _ _ _ _ _
        have kf:=aq
        refine am (OpRun.mono (dY (vs:=(cL (cmd0 0) none 0 none 0 none 0)) fy aq) ?_)
        rintro _ w207 ⟨iz,et⟩
        replace aq:=iz
        exact⟨aq,eG et kf aq rfl⟩
      ·intro wf7 sG
       have rq:=ew sG
       obtain⟨cs_g2,rG,aq⟩:=dC sG aq
       replace hE:=rq.e0 hE (by intro g hg;simp at hg;omega)
       replace aI:=rq.bk aI (by intro hg;simp at hg;omega)
       iterate 3 rintro _ rfl
       intro v41
       rintro _ rfl
       rintro _ aq
       refine fE ?_
       refine ab (ah pJ) ?_
       refine aB (dY (vs:=(b9 (rspO r.op 5) none 0 none 0)) fm aq) ?_
       rintro _ w207 ⟨iz,et⟩
       replace hE:=hE.gr et
       replace aI:=aI.gr et
       replace aq:=iz
       refine ag (ae (af (aa ?_)))
       refine ab (aK (cs:=(gj s (.slice q.I s.held.length q.ci) (.slice q.O s.out.length q.co) 3 s.cl (cL (cmd0 0) none 0 none 0 none 0) (b9 (rspO r.op 5) none 0 none 0))) bQ aq) ?_
       refine aB (aD (vs:=(gj s (.slice q.I s.held.length q.ci) (.slice q.O s.out.length q.co) 3 s.cl (cL (cmd0 0) none 0 none 0 none 0) (b9 (rspO r.op 5) none 0 none 0))) gi aI (iH:=cH)) ?_
       rintro _ w208 ⟨iy,de⟩
       replace hE:=hE.gr de
       replace aI:=iy
       refine va ?_
       refine ag (ae (aE ?_))
       refine bm (rs:=[.cell 4 45,.tmp 5]) (vs:=[.agg (gj s (.slice q.I s.held.length q.ci) (.slice q.O s.out.length q.co) 3 s.cl (cL (cmd0 0) none 0 none 0 none 0) (b9 (rspO r.op 5) none 0 none 0)).toArray,(.int .i64 0)]) rfl ⟨⟨_,_,(gj s (.slice q.I s.held.length q.ci) (.slice q.O s.out.length q.co) 3 s.cl (cL (cmd0 0) none 0 none 0 none 0) (b9 (rspO r.op 5) none 0 none 0)),rfl,bQ,aI,rfl⟩,rfl,trivial⟩ ?_
       rw[show dG s r=(sK s (rspO r.op 5),0) from by unfold dG;rw[if_neg (by omega),if_neg e1,if_pos (by omega)]]
       exact zM h hE _ none 0 [] none 0 (Ho ..) (fun x=>.tuple #[x,.int .i64 0])
     ·refine ag (ae ?_)
      refine aC ?_
      refine aS (ae (af ?_))
      refine eH ?_
      intro w205 vp
      replace hE:=hE.tr vp
      replace aq:=aq.ext vp
      replace aM:=aM.ext vp
      replace aI:=aI.ext vp
      refine fh (sQ (nv w205.heap.size [g2])) (oR (eh)) (oQ (fa)) (oP (eh) (fa)) 0 6 [(32,a0 (.agg (cL (cmd0 0) none 0 none 0 none 0).toArray)),(33,a0 (.agg (b9 r X9 cx9 N9 cn9).toArray)),(34,a0 (.pointer (some ⟨g2,5,none⟩))),(41,(fun _ w=>Blk w g2 45 (gj s (.slice q.I s.held.length q.ci) (.slice q.O s.out.length q.co) 3 s.cl (qC s q) (qR s q)))),(35,a0 (.pointer (some ⟨g2,7,none⟩))),(43,(fun _ w=>Blk w g2 45 (gj s (.slice q.I s.held.length q.ci) (.slice q.O s.out.length q.co) 3 s.cl (cL (cmd0 0) none 0 none 0 none 0) (qR s q))))] [[],[],[],[2],[],[0,3,4]] [[0],[0],[0],[],[0],[]] [[0],[0],[],[],[0],[0]] [none,none,none,some 0,none,some 0] [true,true,true,false,true,true] [0] _ [] [] ⟨sA,sA,sA,iF ((fun _ w w' hb he=>hb.ext he)),sA,iF ((fun _ w w' hb he=>hb.ext he)),trivial⟩ ?_ ?_
      ·repeat' apply And.intro
       any_goals exact trivial
       all_goals intro wd bW
       exact am (ax (bi fl lf))
       ·have hH:=ew bW
        obtain⟨cs_g2,rG,aq⟩:=dC bW aq
        replace aM:=hH.bk aM (by intro hg;simp at hg;omega)
        show eV _ _ _ _ _ _
        exact am (ax (aK (cs:=(b9 r X9 cx9 N9 cn9)) bZ aM))
       exact am (ax (ah fx))
       ·replace aq:=aq.ext bW
        rintro _ rfl
        show eV _ _ _ _ _ _
        have kf:=aq
        refine am (OpRun.mono (aU sm aq) ?_)
        rintro _ w206 ⟨dm,b7⟩
        replace aq:=dm
        exact⟨aq,eG b7 kf aq rfl⟩
       exact am (ax (ah pK))
       ·obtain⟨cs_g2,rG,aq⟩:=dC bW aq
        rintro _ rfl
        rintro _ aq
        rintro _ rfl
        show eV _ _ _ _ _ _
        have kf:=aq
        refine am (OpRun.mono (dY (vs:=(cL (cmd0 0) none 0 none 0 none 0)) fy aq) ?_)
        rintro _ w206 ⟨dm,b7⟩
        replace aq:=dm
        exact⟨aq,eG b7 kf aq rfl⟩
      ·intro wf7 sG
       have rq:=ew sG
       obtain⟨cs_g2,rG,aq⟩:=dC sG aq
       replace hE:=rq.e0 hE (by intro g hg;simp at hg;omega)
       replace aI:=rq.bk aI (by intro hg;simp at hg;omega)
       iterate 3 rintro _ rfl
       intro v41
       rintro _ rfl
       rintro _ aq
       refine fE ?_
       refine ab (ah pJ) ?_
       refine aB (dY (vs:=(b9 r X9 cx9 N9 cn9)) fm aq) ?_
       rintro _ w206 ⟨dm,b7⟩
       replace hE:=hE.gr b7
       replace aI:=aI.gr b7
       replace aq:=dm
       refine ag (ae (af (aa ?_)))
       refine ab (aK (cs:=(gj s (.slice q.I s.held.length q.ci) (.slice q.O s.out.length q.co) 3 s.cl (cL (cmd0 0) none 0 none 0 none 0) (b9 r X9 cx9 N9 cn9))) bQ aq) ?_
       refine aB (aD (vs:=(gj s (.slice q.I s.held.length q.ci) (.slice q.O s.out.length q.co) 3 s.cl (cL (cmd0 0) none 0 none 0 none 0) (b9 r X9 cx9 N9 cn9))) gi aI (iH:=cH)) ?_
       rintro _ w207 ⟨iz,et⟩
       replace hE:=hE.gr et
       replace aI:=iz
       refine va ?_
       refine ag (ae (aE ?_))
       refine bm (rs:=[.cell 4 45,.tmp 5]) (vs:=[.agg (gj s (.slice q.I s.held.length q.ci) (.slice q.O s.out.length q.co) 3 s.cl (cL (cmd0 0) none 0 none 0 none 0) (b9 r X9 cx9 N9 cn9)).toArray,(.int .i64 0)]) rfl ⟨⟨_,_,(gj s (.slice q.I s.held.length q.ci) (.slice q.O s.out.length q.co) 3 s.cl (cL (cmd0 0) none 0 none 0 none 0) (b9 r X9 cx9 N9 cn9)),rfl,bQ,aI,rfl⟩,rfl,trivial⟩ ?_
       rw[show dG s r=(sK s r,0) from by unfold dG;rw[if_neg (by omega),if_neg e1,if_neg (by omega)]]
       exact zM h hE _ X9 cx9 xs9 N9 cn9 ⟨lo9,lM,Nat.le_trans Wf hE.size,hS9,sg,ju.ext hE,i6.ext hE⟩ (fun x=>.tuple #[x,.int .i64 0])
  ·refine ab (b6) ?_
   refine vm ?_
   iterate 6 refine aA ?_
   refine ab (ay) ?_
   refine ag (ae ?_)
   refine aR ?_
   refine af (aa ?_)
   refine ab (aK (cs:=(ei s q)) bQ aq) ?_
   refine aB (aD (vs:=(ei s q)) gi aI (iH:=cH)) ?_
   rintro _ w205 ⟨cy,ba⟩
   replace hE:=hE.gr ba
   replace aI:=cy
   refine va ?_
   refine ag (ae (aE (az ?_)))
   refine bm (rs:=[.cell 4 45,.tmp 5]) (vs:=[.agg (ei s q).toArray,(.int .i64 2)]) rfl ⟨⟨_,_,(ei s q),rfl,bQ,aI,rfl⟩,rfl,trivial⟩ ?_
   rw[show dG s r=(s,2) from by unfold dG;rw[if_neg (by omega),if_pos (.inl fun z=>kI ((x0 pp).1 z))]]
   exact⟨q,rfl,h.ext hE,hE⟩
end Go.Proofs.YtiighkbehiddkaaGreat
namespace Go.Proofs.YtiighkbehiddkaaGreat
open Go.RowKit
set_option linter.unusedVariables false
set_option maxRecDepth 4000
theorem Y4:aX Tryz.prog 35=true:=by kernel_rfl
theorem Y3:aX Tryz.prog 36=true:=by kernel_rfl
theorem RY:aX Tryz.prog 37=true:=by kernel_rfl
theorem Y2:aX Tryz.prog 38=true:=by kernel_rfl
theorem YR:aX Tryz.prog 63=true:=by kernel_rfl
theorem FZ:bB Tryz.prog 50 0=some 0:=by kernel_rfl
theorem FY:bB Tryz.prog 50 1=some 1:=by kernel_rfl
theorem zc:bB Tryz.prog 50 2=some 2:=by kernel_rfl
theorem uZ:bB Tryz.prog 50 3=some 3:=by kernel_rfl
theorem TD:(Tryz.prog.info? 34).map (·.size)=some 1:=by kernel_rfl
theorem sz5:(Tryz.prog.info? 5).map (·.size)=some 1:=by kernel_rfl
theorem oV (w:World) (Z:List Nat) (g:Nat) (S:List Nat) (a b:Nat) (s:Cn) (q:RfP) (hp:PlS w Z g S a b s s q) (hf:RfOk s) (r:Rsp) (xs9:List IT) (sg:vals xs9=r.items) (lo9 lM:Nat) (X9:Option Addr) (cx9:Nat) (N9:Option Addr) (cn9:Nat) (ju:RdI w lo9 lM X9 cx9 xs9) (i6:RdN w lo9 lM N9 cn9 r.nums) (h9:∀y∈Z++S,lM≤y) (Tc:lM≤w.heap.size) (pp:RspOk r) (ug:rsz r≤4398046511104):
  Fn Tryz.prog 37 #[(.pointer (some ⟨g,0,none⟩)),(.agg (ei s q).toArray),(.agg (b9 r X9 cx9 N9 cn9).toArray)] w (Sm w Z S s 0):=by
 have hk:=hp.con.ok
 have iU:=hp.con.cap.2
 have hE:=aP w
 refine aO Tryz.func37 ?_
 refine af (aa ?_)
 refine ar (bU) ?_
 rintro v w1 ⟨g4,rfl,aI,eM,th,ta⟩
 replace hE:=hE.tr eM
 refine ar (bU) ?_
 rintro v w2 ⟨g5,rfl,bu,f0,Am,GJ⟩
 replace hE:=hE.tr f0
 replace aI:=aI.ext f0
 refine va ?_
 refine ar (bc oi) ?_
 rintro v w3 ⟨g7,rfl,be,eS,Ia,HL⟩
 replace hE:=hE.tr eS
 replace aI:=aI.ext eS
 replace bu:=bu.ext eS
 refine va ?_
 refine ag (ae (af (aa ?_)))
 have hP:PlS _ ([g4,g5,g7]++Z) g S a b s s q:=hp.zone hE (by intro z hz;simp only[List.mem_cons,List.not_mem_nil,or_false] at hz;omega)
 refine vm ?_
 refine ab (aK (cs:=(b9 r X9 cx9 N9 cn9)) bZ bu) ?_
 refine ar (aw Nv (DS _ g S a b s hP.con r xs9 sg _ _ X9 cx9 N9 cn9 (ju.ext hE) pp ug (i6:=Rd.ext i6 hE))) ?_
 rintro v w4 ⟨rfl,PE⟩
 obtain⟨S14,a14,b14,XR,EM,XC⟩:=hP.step PE
 have hz14:=EM.size
 replace aI:=EM.bk aI (hP.zs _ (by simp)).2.1
 replace bu:=EM.bk bu (hP.zs _ (by simp)).2.1
 replace be:=EM.bk be (hP.zs _ (by simp)).2.1
 have hA:=(Kp.of_ext hE).tr EM (fun x hx=>.inl hx)
 have hT:=fun x hx=>(XC x hx).imp id fun h=>Nat.le_trans hE.size h
 have hM:=Kp.refl ([g4,g5,g7]++Z) w4
 refine va ?_
 refine ag (ae (af (aa ?_)))
 refine ab (aK (cs:=(ei s q)) bQ aI) ?_
 refine ab (aK (cs:=(b9 r X9 cx9 N9 cn9)) bZ bu) ?_
 have hP:=XR.kz hM
 refine ar (aw YR (Do _ (([g4,g5,g7]++Z)++S14) hP.hS s q hP.rf hf hk r xs9 sg _ _ X9 cx9 N9 cn9 (hA.rdi ju h9) (hA.rdu i6 h9) (by omega) (Rz h9 Tc (by intro z hz;simp only[List.mem_cons,List.not_mem_nil,or_false] at hz;omega) hT) pp ug iU)) ?_
 rintro v w5 PD
 obtain⟨q18,e18,XQ,kZ⟩:=hP.ref PD
 subst e18
 replace be:=be.ext kZ
 replace hA:=Kp.te hA kZ
 have HF:=kZ.size
 have hM:=Kp.refl ([g4,g5,g7]++Z) w5
 refine vm ?_
 iterate 2 refine vx ?_
 refine ar (bc oi) ?_
 rintro v w6 ⟨g10,rfl,bG,cY,wZ,wO⟩
 replace be:=be.ext cY
 replace hA:=Kp.te hA cY
 replace hM:=Kp.te hM cY
 refine aB (aD (vs:=(ei (dG s r).1 q18)) gi bG (iH:=cH)) ?_
 rintro _ w7 ⟨Co,jw⟩
 replace be:=be.gr jw
 replace hA:=Kp.tg hA jw (by first|(left;simp;done)|(right;omega))
 replace hM:=Kp.tg hM jw (by first|(left;simp;done)|(right;omega))
 replace bG:=Co
 refine va ?_
 refine ag (ae (af ?_))
 refine eH ?_
 intro w8 nc
 replace be:=be.ext nc
 replace hA:=Kp.te hA nc
 replace hM:=Kp.te hM nc
 replace bG:=bG.ext nc
 refine fh (sQ (nv w8.heap.size [g7])) (oR (eh)) (oQ (fa)) (oP (eh) (fa)) 0 7 [(21,a0 (.pointer (some ⟨g,0,none⟩))),(22,a0 (.agg (ei (dG s r).1 q18).toArray)),(23,a0 (.int .i64 (↑(dG s r).2:Int))),(24,a0 (.int .i64 (↑(dG s r).2:Int))),(25,a0 (.bool true)),(6,a0 (.pointer (some ⟨g,0,none⟩))),(32,(fun _ w=>Blk w g7 45 (ei (dG s r).1 q18)))] [[],[],[],[],[2,3],[0],[1]] [[0],[0],[0],[0],[0],[0],[]] [[],[],[0],[0],[0],[],[]] [none,none,none,none,none,none,some 0] [true,true,true,true,true,true,true] [0] [(0,(.pointer (some ⟨g,0,none⟩))),(7,(.pointer (some ⟨g7,0,none⟩))),(8,(.bool false)),(9,(.int .i64 (↑(dG s r).2:Int))),(10,(.pointer (some ⟨g10,0,none⟩))),(11,(.int .i64 (↑(dG s r).2:Int)))] [] [] ⟨sA,sA,sA,sA,sA,sA,iF ((fun _ w w' hb he=>hb.ext he)),trivial⟩ ?_ ?_ (CZ:=Env.sub_get ⟨rfl,rfl,rfl,rfl,rfl,rfl,trivial⟩)
 ·repeat' apply And.intro
  any_goals exact trivial
  all_goals intro wd bW
  exact am (ax (aF))
  ·replace bG:=bG.ext bW
   show eV _ _ _ _ _ _
   exact am (ax (aK bQ bG))
  iterate 2 exact am (ax (aF))
  ·iterate 2 rintro _ rfl
   exact am (nL (cI) (hp:=rfl))
  ·rintro _ rfl
   exact am (ax (eU))
  ·replace be:=be.ext bW
   rintro _ rfl
   show eV _ _ _ _ _ _
   have kf:=be
   refine am (OpRun.mono (aD (vs:=(ei (dG s r).1 q18)) gi be (iH:=cH)) ?_)
   rintro _ w9 ⟨uQ,lk⟩
   replace be:=uQ
   exact⟨be,eG lk kf be rfl⟩
 ·intro wf3 B7
  have EE:=ew B7
  obtain⟨cs_g7,pB,be⟩:=dC B7 be
  replace hA:=Kp.tr hA EE (by intro x hx;rw[List.mem_singleton.1 hx];first|(left;simp;done)|(right;omega))
  replace hM:=Kp.tr hM EE (by intro x hx;rw[List.mem_singleton.1 hx];first|(left;simp;done)|(right;omega))
  iterate 6 rintro _ rfl
  rintro _ be
  refine fE ?_
  refine va ?_
  refine ag (ae (aE ?_))
  refine bm (vs:=[(.pointer (some ⟨g,0,none⟩)),.agg (ei (dG s r).1 q18).toArray,(.bool true)]) rfl ⟨rfl,⟨_,_,(ei (dG s r).1 q18),rfl,bQ,be,rfl⟩,rfl,trivial⟩ ?_
  exact⟨g,S14,a14,b14,(dG s r).1,q18,rfl,(XQ.kz hM).less,Kn hf pp,hA,hT,by rw[(xK s r).1];omega,by rw[(xK s r).2];omega⟩
theorem F2 (w:World) (Z:List Nat) (g:Nat) (S:List Nat) (a b:Nat) (s:Cn) (q:RfP) (hp:PlS w Z g S a b s s q) (hf:RfOk s) (wh n:Int) (BU:-9223372036854775808≤n) (kA:n≤9223372036854775807) (r:Rsp) (xs9:List IT) (sg:vals xs9=r.items) (lo9 lM:Nat) (X9:Option Addr) (cx9:Nat) (N9:Option Addr) (cn9:Nat) (ju:RdI w lo9 lM X9 cx9 xs9) (i6:RdN w lo9 lM N9 cn9 r.nums) (h9:∀y∈Z++S,lM≤y) (Tc:lM≤w.heap.size) (pp:RspOk r) (ug:rsz r≤4398046511104) (D9:Option Addr) (cd9:Nat) (d9:List UInt8) (hd9:RdB w lo9 lM D9 cd9 d9) (hd3:d9.length≤300) (H0:s.pt≤1000000000) (no:s.tk≤1000000000):
  Fn Tryz.prog 13 #[(.pointer (some ⟨g,0,none⟩)),(.agg (ei s q).toArray),(.agg (da wh n D9 cd9 d9 (b9 r X9 cx9 N9 cn9)).toArray)] w (Sm w Z S s 3000000):=by
 have hk:=hp.con.ok
 have iU:=hp.con.cap.2
 have hSb:=hp.con.bnd
 have hE:=aP w
 refine aO (args:=[(.pointer (some ⟨g,0,none⟩)),(.agg (ei s q).toArray),(.agg (da wh n D9 cd9 d9 (b9 r X9 cx9 N9 cn9)).toArray)]) Tryz.func13 ?_
 refine af (aa ?_)
 refine ar (bU (cs:=(ei s q))) ?_
 rintro v w1 ⟨g4,rfl,aI,eM,th,ta⟩
 replace hE:=hE.tr eM
 refine ar (bU (cs:=(da wh n D9 cd9 d9 (b9 r X9 cx9 N9 cn9)))) ?_
 rintro v w2 ⟨g5,rfl,bu,f0,Am,GJ⟩
 replace hE:=hE.tr f0
 replace aI:=aI.ext f0
 refine va ?_
 refine ar (bc (cs:=Ke) oi) ?_
 rintro v w3 ⟨g7,rfl,be,eS,Ia,HL⟩
 replace hE:=hE.tr eS
 replace aI:=aI.ext eS
 replace bu:=bu.ext eS
 have t7:=eS.size
 refine va ?_
 refine ag (ae (af (af (aa ?_))))
 refine ab (ah (off:=0) FZ) ?_
 refine ab (ak gg bu) ?_
 refine ag (ae (a9 (af (aa ?_))))
 refine ve ?_
 refine aG (d:=29) (fun k0=>?_) (fun k0=>?_)
 ·refine va ?_
  refine ag (ae ?_)
  refine aR ?_
  refine af (aa ?_)
  refine ab (ah (off:=2) zc) ?_
  refine ab (ak dc bu) ?_
  refine ar (jh cE rfl rfl (hd9.ext hE)) ?_
  rintro v w4 ⟨A32,c32,rfl,nY,uB⟩
  replace hE:=hE.tr uB
  replace aI:=aI.ext uB
  replace bu:=bu.ext uB
  replace be:=be.ext uB
  have S3:=uB.size
  have lJ:=fun g e=>Own.lt nY (g:=g) e
  refine va ?_
  refine ag (ae (af (aa ?_)))
  have hZo:∀x∈(gI A32).toList,x∈([g4,g5,g7]++(gI A32).toList)++Z:=fun x hx=>List.mem_append_left _ (List.mem_append_right _ hx)
  have hP:PlS _ (([g4,g5,g7]++(gI A32).toList)++Z) g S a b s s q:=hp.zone hE (by intro z hz;simp only[List.mem_append,List.mem_cons,List.not_mem_nil,or_false,Option.mem_toList] at hz;rcases hz with hz|hz;omega;have:=lJ z hz;omega)
  have hZu:∀z∈[g4,g5,g7]++(gI A32).toList,w.heap.size≤z:=(by intro z hz;simp only[List.mem_append,List.mem_cons,List.not_mem_nil,or_false,Option.mem_toList] at hz;rcases hz with hz|hz;omega;have:=lJ z hz;omega)
  iterate 2 refine vm ?_
  refine ar (aw I5 (z0 _ g S a b s hP.con _ _ A32 c32 d9 (OwnB.rd nY) (fun x hx=>.inl (by have:=(hSb.1 x hx).1;omega)) (by omega))) ?_
  rintro v w5 ⟨rfl,PA⟩
  obtain⟨S36,a36,b36,XP,B2,XA⟩:=hP.step PA
  have hz36:=B2.size
  replace aI:=B2.bk aI (hP.zs _ (by simp)).2.1
  replace bu:=B2.bk bu (hP.zs _ (by simp)).2.1
  replace be:=B2.bk be (hP.zs _ (by simp)).2.1
  replace nY:=B2.own nY (fun x e hx=>(hP.zs x (by simp[e])).2.1 hx)
  have hA:=(Kp.of_ext hE).tr B2 (fun x hx=>.inl hx)
  have hT:=fun x hx=>(XA x hx).imp id fun h=>Nat.le_trans hE.size h
  have hM:=Kp.refl (([g4,g5,g7]++(gI A32).toList)++Z) w5
  refine vm ?_
  iterate 2 refine vx ?_
  iterate 2 refine va ?_
  refine ag (ae (af (aa ?_)))
  refine ab (aK (cs:=(ei s q)) bQ aI) ?_
  refine ab (ah (off:=2) zc) ?_
  refine ab (ak dc bu) ?_
  have hP:=XP.kz hM
  refine ar (aw Y4 (Dk _ ((([g4,g5,g7]++(gI A32).toList)++Z)++S36) hP.hS s q hP.rf hf hk _ _ D9 cd9 d9 (hA.rdu hd9 h9) (by omega))) ?_
  rintro v w6 Py
  obtain⟨q43,e43,XO,kY⟩:=hP.ref Py
  subst e43
  replace be:=be.ext kY
  replace nY:=Own.ext nY kY
  replace hA:=Kp.te hA kY
  have HA:=kY.size
  have hM:=Kp.refl (([g4,g5,g7]++(gI A32).toList)++Z) w6
  refine vm ?_
  iterate 3 refine vx ?_
  refine ar (bc (cs:=Ke) oi) ?_
  rintro v w7 ⟨g12,rfl,ix,eK,LO,Pk⟩
  replace be:=be.ext eK
  replace nY:=Own.ext nY eK
  replace hA:=Kp.te hA eK
  replace hM:=Kp.te hM eK
  refine aB (aD (vs:=(ei (cT s d9).1 q43)) gi ix (iH:=cH)) ?_
  rintro _ w8 ⟨Iv,mB⟩
  replace be:=be.gr mB
  replace nY:=Own.gr nY mB (by first|exact .inl rfl|(right;intro e;first|(have:=lJ _ e;omega)|(have:=Own.lt nY e;omega)|exact aT nY ix (by decide) e))
  replace hA:=Kp.tg hA mB (by first|(left;simp;done)|(right;omega))
  replace hM:=Kp.tg hM mB (by first|(left;simp;done)|(right;omega))
  replace ix:=Iv
  iterate 2 refine va ?_
  refine ag (ae (af (af (aa ?_))))
  refine va ?_
  refine ag (ae ?_)
  refine a9 ?_
  refine cU (σ:=Nat×List UInt8) (fun s=>d9.length - s.1) (fun z9=>[(9,.slice A32 d9.length c32),(15,.int .i64 (z9.1:Int)),(0,(.pointer (some ⟨g,0,none⟩))),(4,(.pointer (some ⟨g4,0,none⟩))),(6,(.pointer none)),(7,(.pointer (some ⟨g7,0,none⟩))),(8,(.bool false)),(10,(.int .i64 (↑(cT s d9).2.1:Int))),(11,(.int .i64 (↑(cT s d9).2.2:Int))),(12,(.pointer (some ⟨g12,0,none⟩))),(13,(.int .i64 (↑(cT s d9).2.1:Int))),(14,(.int .i64 (↑(cT s d9).2.2:Int)))]) (fun s w'=>OwnB w' w3.heap.size 5 A32 c32 s.2∧Gr w8 w' (gI A32)∧s.2.length=d9.length∧s.1≤d9.length) (0,d9) (⟨nY,(aP _).row _,rfl,Nat.zero_le _⟩) ?_ (hL:=⟨rfl,rfl,rfl,rfl,rfl,rfl,rfl,rfl,rfl,rfl,rfl,rfl,trivial⟩)
  rintro⟨k_9,l_9⟩ w9 ⟨Ex,FN,MW,VZ⟩
  simp only at MW VZ
  replace Ex:OwnB _ _ _ _ _ l_9:=Ex
  refine af (af (aa ?_))
  iterate 2 refine vm ?_
  refine ab (bj Tryz.underlying32) ?_
  refine ab (bz) ?_
  refine ag (ae ?_)
  refine aL (fun eN=>?_) (fun eN=>?_)
  ·obtain⟨g_9,Yf,hg1_9,hgu_9⟩:=Own.addr Ex (by omega)
   subst Yf
   refine aS (ae (af (a9 (aa ?_))))
   iterate 2 refine vm ?_
   refine ab (m5 cE.s rfl rfl rfl) ?_
   refine ab (dv qf rfl (OwnB.cellAt Ex (by omega))) ?_
   refine ab (bH (hm:=C1 _)) ?_
   refine ab (m5 cE.s rfl rfl rfl) ?_
   refine aB (wg sz5 rfl rfl Ex (by omega)) ?_
   rintro _ w10 ⟨Qc,QI⟩
   refine ag (bb (ae (aa ?_)))
   refine vm ?_
   refine ab (bH) ?_
   refine va ?_
   refine ag ?_
   refine cB ((k_9+1,l_9.set k_9 ((l_9.getD k_9 0)+1))) (by show d9.length -(k_9+1)<d9.length - k_9;omega) (⟨Qc,FN.gr QI (fun g e=>.inl e),by show(List.set _ _ _).length=_;rw[List.length_set];exact MW,by show k_9+1≤_;omega⟩) (hL:=⟨rfl,rfl,rfl,rfl,rfl,rfl,rfl,rfl,rfl,rfl,rfl,rfl,trivial⟩)
  ·refine vF (d:=9) rfl (v':=.slice A32 l_9.length c32) (by rw[MW]) ?_
   replace be:=be.gr FN (fun e=>by have:=lJ _ e;omega)
   replace hA:=Kp.tr hA (Kp.of_gr FN) (by intro x hx;first|exact .inl (hZo x hx)|(have:=lJ x (Option.mem_toList.1 hx);right;omega))
   replace hM:=Kp.tr hM (Kp.of_gr FN) (by intro x hx;first|exact .inl (hZo x hx)|(have:=lJ x (Option.mem_toList.1 hx);right;omega))
   replace ix:=ix.gr FN (fun e=>by have:=lJ _ e;omega)
   refine cW (bx (bx (ce (ae (af ?_)))))
   refine eH ?_
   intro w210 uf
   replace be:=be.ext uf
   replace hA:=Kp.te hA uf
   replace hM:=Kp.te hM uf
   replace ix:=ix.ext uf
   refine fh (sQ (nv w210.heap.size [g7])) (oR (eh)) (oQ (fa)) (oP (eh) (fa)) 0 12 [(59,a0 (.pointer (some ⟨g,0,none⟩))),(60,a0 (.agg (ei (cT s d9).1 q43).toArray)),(61,a0 (.int .i64 (↑(cT s d9).2.1:Int))),(62,a0 (.int .i64 (↑(cT s d9).2.1:Int))),(63,a0 (.bool true)),(64,a0 (.bool true)),(65,a0 (.int .i64 (↑(cT s d9).2.2:Int))),(66,a0 (.int .i64 (↑(cT s d9).2.2:Int))),(67,a0 (.bool true)),(68,a0 (.bool true)),(6,a0 (.pointer (some ⟨g,0,none⟩))),(179,(fun _ w=>Blk w g7 45 (ei (cT s d9).1 q43)))] [[],[],[],[],[2,3],[4],[5],[5],[5,6,7],[5,8],[0],[1]] [[0],[0],[0],[0],[0],[0],[0],[0],[0],[0],[0],[]] [[],[],[],[],[],[],[0],[0],[0],[0],[],[]] [none,none,none,none,none,none,none,none,none,none,none,some 0] [true,true,true,true,true,true,true,true,true,true,true,true] [0] [(0,(.pointer (some ⟨g,0,none⟩))),(4,(.pointer (some ⟨g4,0,none⟩))),(7,(.pointer (some ⟨g7,0,none⟩))),(8,(.bool false)),(10,(.int .i64 (↑(cT s d9).2.1:Int))),(11,(.int .i64 (↑(cT s d9).2.2:Int))),(12,(.pointer (some ⟨g12,0,none⟩))),(13,(.int .i64 (↑(cT s d9).2.1:Int))),(14,(.int .i64 (↑(cT s d9).2.2:Int)))] [] [] ⟨sA,sA,sA,sA,sA,sA,sA,sA,sA,sA,sA,iF ((fun _ w w' hb he=>hb.ext he)),trivial⟩ ?_ ?_ (CZ:=Env.sub_get ⟨rfl,rfl,rfl,rfl,rfl,rfl,rfl,rfl,rfl,trivial⟩)
   ·repeat' apply And.intro
    any_goals exact trivial
    all_goals intro wd bW
    exact am (ax (aF))
    ·replace ix:=ix.ext bW
     show eV _ _ _ _ _ _
     exact am (ax (aK (cs:=(ei (cT s d9).1 q43)) bQ ix))
    iterate 2 exact am (ax (aF))
    ·iterate 2 rintro _ rfl
     exact am (nL (cI) (hp:=rfl))
    ·rintro _ rfl
     exact am (ax (aF))
    ·rintro _ rfl
     exact bn (ax (aF))
    ·rintro _ rfl
     exact bn (ax (aF))
    ·iterate 3 rintro _ rfl
     exact bn (nL (cI) (hp:=rfl))
    ·iterate 2 rintro _ rfl
     exact am (ax (ay))
    ·rintro _ rfl
     exact am (ax (eU))
    ·replace be:=be.ext bW
     rintro _ rfl
     show eV _ _ _ _ _ _
     have kf:=be
     refine am (OpRun.mono (aD (vs:=(ei (cT s d9).1 q43)) gi be (iH:=cH)) ?_)
     rintro _ w211 ⟨rM,kO⟩
     replace be:=rM
     exact⟨be,eG kO kf be rfl⟩
   ·intro wf10 sH
    have As:=ew sH
    obtain⟨cs_g7,pB,be⟩:=dC sH be
    replace hA:=Kp.tr hA As (by intro x hx;rw[List.mem_singleton.1 hx];first|(left;simp;done)|(right;omega))
    replace hM:=Kp.tr hM As (by intro x hx;rw[List.mem_singleton.1 hx];first|(left;simp;done)|(right;omega))
    iterate 11 rintro _ rfl
    rintro _ be
    refine fE ?_
    refine va ?_
    refine ag (ae (aE (aQ (az ?_))))
    refine bm (rs:=[.tmp 6,.cell 7 45,.tmp 8]) (vs:=[(.pointer (some ⟨g,0,none⟩)),.agg (ei (cT s d9).1 q43).toArray,(.bool true)]) rfl ⟨rfl,⟨_,_,(ei (cT s d9).1 q43),rfl,bQ,be,rfl⟩,rfl,trivial⟩ ?_
    exact⟨g,S36,a36,b36,(cT s d9).1,q43,rfl,(XO.kz hM).less,Km hf _,hA,hT,by rw[(oT s d9).1];omega,by rw[(oT s d9).2];omega⟩
 ·refine va ?_
  refine ag (ae ?_)
  refine aC ?_
  refine J6 (σ:=Unit) (J:=fun _ w'=>w'=w3) (Lj:=fun _=>[(0,.pointer (some ⟨g,0,none⟩)),(4,.pointer (some ⟨g4,0,none⟩)),(5,.pointer (some ⟨g5,0,none⟩)),(7,.pointer (some ⟨g7,0,none⟩)),(27,.int .i64 wh),(69,.bool (decide (wh=1∨wh=4)))]) ?_ ?_
  ·refine af (aa ?_)
   refine ve ?_
   refine aG (d:=70) (fun k1=>?_) (fun k1=>?_)
   ·refine va ?_
    refine ag (ae ?_)
    refine aR ?_
    refine aS ?_
    refine pY (()) (⟨rfl,rfl,rfl,rfl,rfl,congrArg (fun z=>some (Value.bool z)) (decide_eq_true (.inl k1)).symm,trivial⟩) (rfl)
   ·refine va ?_
    refine ag (ae ?_)
    refine aC ?_
    refine aa ?_
    refine ve ?_
    refine aG (d:=71) (fun k4=>?_) (fun k4=>?_)
    ·refine va ?_
     refine ag ?_
     refine pY (()) (⟨rfl,rfl,rfl,rfl,rfl,congrArg (fun z=>some (Value.bool z)) (decide_eq_true (.inr k4)).symm,trivial⟩) (rfl)
    ·refine va ?_
     refine ag ?_
     refine pY (()) (⟨rfl,rfl,rfl,rfl,rfl,congrArg (fun z=>some (Value.bool z)) (decide_eq_false (by omega)).symm,trivial⟩) (rfl)
  ·rintro _ _ rfl
   refine aL (fun iD=>?_) (fun iD=>?_)
   ·refine af (aa ?_)
    have hP:PlS _ ([g4,g5,g7]++Z) g S a b s s q:=hp.zone hE (by intro z hz;simp only[List.mem_cons,List.not_mem_nil,or_false] at hz;omega)
    refine vm ?_
    refine ar (aw Nw (yA _ g S a b s hP.con (by omega))) ?_
    rintro v w204 ⟨rfl,Ps⟩
    obtain⟨S74,a74,b74,XN,EI,Xt⟩:=hP.step Ps
    have hz74:=EI.size
    replace aI:=EI.bk aI (hP.zs _ (by simp)).2.1
    replace bu:=EI.bk bu (hP.zs _ (by simp)).2.1
    replace be:=EI.bk be (hP.zs _ (by simp)).2.1
    have hA:=(Kp.of_ext hE).tr EI (fun x hx=>.inl hx)
    have hT:=fun x hx=>(Xt x hx).imp id fun h=>Nat.le_trans hE.size h
    have hM:=Kp.refl ([g4,g5,g7]++Z) w204
    refine vm ?_
    iterate 2 refine vx ?_
    iterate 2 refine va ?_
    refine ag (ae (af (aa ?_)))
    refine ab (aK (cs:=(ei s q)) bQ aI) ?_
    have hP:=XN.kz hM
    refine ar (aw Y3 (Bg _ (([g4,g5,g7]++Z)++S74) hP.hS s q hP.rf hf hk hp.con.cap)) ?_
    rintro v w205 Pq
    obtain⟨q79,e79,MO,Io⟩:=hP.ref Pq
    subst e79
    replace bu:=bu.ext Io
    replace be:=be.ext Io
    replace hA:=Kp.te hA Io
    have ST:=Io.size
    have hM:=Kp.refl ([g4,g5,g7]++Z) w205
    refine vm ?_
    iterate 2 refine vx ?_
    refine ar (bc (cs:=Ke) oi) ?_
    rintro v w206 ⟨g18,rfl,iW,kZ,hl18,hu18⟩
    replace bu:=bu.ext kZ
    replace be:=be.ext kZ
    replace hA:=Kp.te hA kZ
    replace hM:=Kp.te hM kZ
    refine aB (aD (vs:=(ei (b8 s).1 q79)) gi iW (iH:=cH)) ?_
    rintro _ w207 ⟨iz,et⟩
    have O8:=et.size
    replace bu:=bu.gr et
    replace be:=be.gr et
    replace hA:=Kp.tg hA et (by first|(left;simp;done)|(right;omega))
    replace hM:=Kp.tg hM et (by first|(left;simp;done)|(right;omega))
    replace iW:=iz
    refine va ?_
    refine ag (ae (af (af (aa ?_))))
    iterate 2 refine vm ?_
    refine ab (bS) ?_
    refine aN (d:=84) rfl (bf (fun h=>h rfl)) ?_
    refine vm ?_
    refine aj (aF) ?_
    refine aj (bS) ?_
    refine ab (ap) ?_
    refine ag (ae ?_)
    refine aC ?_
    refine aS (ae (af (af (aa ?_))))
    refine ab (ah (off:=0) FZ) ?_
    refine ab (ak gg bu) ?_
    refine ve ?_
    refine aG (d:=93) (fun k1b=>?_) (fun k1b=>?_)
    ·refine vm ?_
     iterate 3 refine aA ?_
     refine ab (ay) ?_
     refine ag (ae ?_)
     refine aR ?_
     refine af ?_
     refine cC ej 3 [(99,a0 (.pointer (some ⟨g,0,none⟩))),(100,a0 (.agg (ei (b8 s).1 q79).toArray)),(6,a0 (.pointer (some ⟨g,0,none⟩)))] [[],[],[0]] _ [] [] (fun _ _ h=>h) trivial (by kernel_rfl) rfl ?_ ?_
     ·repeat' apply And.intro
      all_goals first|exact trivial|(intro wd bW;replace iW:=iW.ext bW;(repeat rintro _ rfl))
      exact am (ax (aF))
      exact am (ax (aK (cs:=(ei (b8 s).1 q79)) bQ iW))
      exact am (ax (eU))
     ·intro wf18 yT
      replace be:=be.ext yT
      replace hA:=Kp.te hA yT
      replace hM:=Kp.te hM yT
      iterate 3 rintro _ rfl
      refine aB (aD (vs:=(ei (b8 s).1 q79)) gi be (iH:=cH)) ?_
      rintro _ w208 ⟨iy,de⟩
      replace hA:=Kp.tg hA de (by first|(left;simp;done)|(right;omega))
      replace hM:=Kp.tg hM de (by first|(left;simp;done)|(right;omega))
      replace be:=iy
      refine va ?_
      refine ag (ae (aE (az (aQ (az ?_)))))
      refine bm (rs:=[.tmp 6,.cell 7 45,.tmp 8]) (vs:=[(.pointer (some ⟨g,0,none⟩)),.agg (ei (b8 s).1 q79).toArray,(.bool true)]) rfl ⟨rfl,⟨_,_,(ei (b8 s).1 q79),rfl,bQ,be,rfl⟩,rfl,trivial⟩ ?_
      exact⟨g,S74,a74,b74,(b8 s).1,q79,rfl,(MO.kz hM).less,tP hf hk,hA,hT,by have:=j2 s hk;omega,by have:=j2 s hk;omega⟩
    ·refine vm ?_
     refine aj (ah (off:=5) fx) ?_
     refine aj (ak mb iW) ?_
     refine aj (bS) ?_
     refine aG (d:=97) (fun hph=>?_) (fun hph=>?_)
     ·refine ab (ap) ?_
      refine ag (ae ?_)
      refine aR ?_
      refine af ?_
      refine cC ej 3 [(99,a0 (.pointer (some ⟨g,0,none⟩))),(100,a0 (.agg (ei (b8 s).1 q79).toArray)),(6,a0 (.pointer (some ⟨g,0,none⟩)))] [[],[],[0]] _ [] [] (fun _ _ h=>h) trivial (by kernel_rfl) rfl ?_ ?_
      ·repeat' apply And.intro
       all_goals first|exact trivial|(intro wd bW;replace iW:=iW.ext bW;(repeat rintro _ rfl))
       exact am (ax (aF))
       exact am (ax (aK (cs:=(ei (b8 s).1 q79)) bQ iW))
       exact am (ax (eU))
      ·intro wf18 yT
       replace be:=be.ext yT
       replace hA:=Kp.te hA yT
       replace hM:=Kp.te hM yT
       iterate 3 rintro _ rfl
       refine aB (aD (vs:=(ei (b8 s).1 q79)) gi be (iH:=cH)) ?_
       rintro _ w208 ⟨iy,de⟩
       replace hA:=Kp.tg hA de (by first|(left;simp;done)|(right;omega))
       replace hM:=Kp.tg hM de (by first|(left;simp;done)|(right;omega))
       replace be:=iy
       refine va ?_
       refine ag (ae (aE (az (aQ (az ?_)))))
       refine bm (rs:=[.tmp 6,.cell 7 45,.tmp 8]) (vs:=[(.pointer (some ⟨g,0,none⟩)),.agg (ei (b8 s).1 q79).toArray,(.bool true)]) rfl ⟨rfl,⟨_,_,(ei (b8 s).1 q79),rfl,bQ,be,rfl⟩,rfl,trivial⟩ ?_
       exact⟨g,S74,a74,b74,(b8 s).1,q79,rfl,(MO.kz hM).less,tP hf hk,hA,hT,by have:=j2 s hk;omega,by have:=j2 s hk;omega⟩
     ·refine ab (ap) ?_
      refine ag (ae ?_)
      refine aC ?_
      refine aS (ae (af (aa ?_)))
      refine ab (ah (off:=7) pK) ?_
      refine ab (ah (off:=0) dA) ?_
      refine ab (ak cO iW) ?_
      refine ab (ah (off:=3) uZ) ?_
      refine ab (ah (off:=0) cj) ?_
      refine aB (aU (cs':=(da wh n D9 cd9 d9 (b9 ({r with op:=(b8 s).1.cmd.op}:Rsp) X9 cx9 N9 cn9))) TD bu) ?_
      rintro _ w208 ⟨iy,de⟩
      have rb:=de.size
      replace be:=be.gr de
      replace hA:=Kp.tg hA de (by first|(left;simp;done)|(right;omega))
      replace hM:=Kp.tg hM de (by first|(left;simp;done)|(right;omega))
      replace iW:=iW.gr de
      replace bu:=iy
      refine ag (ae (af (aa ?_)))
      refine vm ?_
      refine ab (aK (cs:=(ei (b8 s).1 q79)) bQ iW) ?_
      refine ab (ah (off:=3) uZ) ?_
      refine ab (gp (vs:=(b9 ({r with op:=(b8 s).1.cmd.op}:Rsp) X9 cx9 N9 cn9)) bZ rfl bu rfl) ?_
      have hP:=MO.kz hM
      refine ar (aw RY (oV _ ([g4,g5,g7]++Z) g S74 a74 b74 (b8 s).1 q79 hP (tP hf hk) ({r with op:=(b8 s).1.cmd.op}:Rsp) xs9 sg _ _ X9 cx9 N9 cn9 (hA.rdi ju h9) (hA.rdu i6 h9) (FR h9 Tc (by intro z hz;simp only[List.mem_cons,List.not_mem_nil,or_false] at hz;omega) hT) (by omega) pp ug)) ?_
      rintro v w209 La
      obtain⟨g110,S110,a110,b110,s110,q110,e110,Rp,QQ,JG,Ri,U7,UP⟩:=La
      subst e110
      replace be:=JG.bk be (hP.zs _ (by simp)).2.1
      have It:=hT
      have hT:=fun x hx=>(Ri x hx).elim (hT x) fun h=>.inr (by omega)
      replace hA:=hA.tr JG It
      have hM:=Kp.refl ([g4,g5,g7]++Z) w209
      iterate 3 refine vx ?_
      refine va ?_
      refine aB (aD (vs:=(ei s110 q110)) gi be (iH:=cH)) ?_
      rintro _ w210 ⟨ln,dw⟩
      replace hA:=Kp.tg hA dw (by first|(left;simp;done)|(right;omega))
      replace hM:=Kp.tg hM dw (by first|(left;simp;done)|(right;omega))
      replace be:=ln
      refine va ?_
      refine ag (ae (aE (aQ (az ?_))))
      refine bm (rs:=[.tmp 6,.cell 7 45,.tmp 8]) (vs:=[(.pointer (some ⟨g110,0,none⟩)),.agg (ei s110 q110).toArray,(.bool true)]) rfl ⟨rfl,⟨_,_,(ei s110 q110),rfl,bQ,be,rfl⟩,rfl,trivial⟩ ?_
      exact⟨g110,S110,a110,b110,s110,q110,rfl,(Rp.kz hM).less,QQ,hA,hT,by have:=j2 s hk;omega,by have:=j2 s hk;omega⟩
   ·refine af (aa ?_)
    refine ve ?_
    refine aG (d:=115) (fun k2=>?_) (fun k2=>?_)
    ·refine va ?_
     refine ag (ae ?_)
     refine aR ?_
     refine af (aa ?_)
     have hP:PlS _ ([g4,g5,g7]++Z) g S a b s s q:=hp.zone hE (by intro z hz;simp only[List.mem_cons,List.not_mem_nil,or_false] at hz;omega)
     refine vm ?_
     refine ab (aK (cs:=(ei s q)) bQ aI) ?_
     refine ab (ah (off:=3) uZ) ?_
     refine ab (gp (vs:=(b9 r X9 cx9 N9 cn9)) bZ rfl bu rfl) ?_
     refine ar (aw RY (oV _ ([g4,g5,g7]++Z) g S a b s q hP hf r xs9 sg _ _ X9 cx9 N9 cn9 (ju.ext hE) (Rd.ext i6 hE) (FR h9 Tc (by intro z hz;simp only[List.mem_cons,List.not_mem_nil,or_false] at hz;omega) (fun x hx=>.inl hx)) (by omega) pp ug)) ?_
     rintro v w204 K7
     obtain⟨g120,S120,a120,b120,s120,q120,e120,Ro,QP,JF,Rh,U6,UO⟩:=K7
     subst e120
     replace be:=JF.bk be (hP.zs _ (by simp)).2.1
     have hA:=(Kp.of_ext hE).tr JF (fun x hx=>.inl hx)
     have hT:=fun x hx=>(Rh x hx).imp id fun h=>Nat.le_trans hE.size h
     have hM:=Kp.refl ([g4,g5,g7]++Z) w204
     iterate 3 refine vx ?_
     refine va ?_
     refine aB (aD (vs:=(ei s120 q120)) gi be (iH:=cH)) ?_
     rintro _ w205 ⟨cy,ba⟩
     replace hA:=Kp.tg hA ba (by first|(left;simp;done)|(right;omega))
     replace hM:=Kp.tg hM ba (by first|(left;simp;done)|(right;omega))
     replace be:=cy
     refine va ?_
     refine ag (ae (aE (aQ (az ?_))))
     refine bm (rs:=[.tmp 6,.cell 7 45,.tmp 8]) (vs:=[(.pointer (some ⟨g120,0,none⟩)),.agg (ei s120 q120).toArray,(.bool true)]) rfl ⟨rfl,⟨_,_,(ei s120 q120),rfl,bQ,be,rfl⟩,rfl,trivial⟩ ?_
     exact⟨g120,S120,a120,b120,s120,q120,rfl,(Ro.kz hM).less,QP,hA,hT,by omega,by omega⟩
    ·refine va ?_
     refine ag (ae ?_)
     refine aC ?_
     refine af (aa ?_)
     refine ve ?_
     refine aG (d:=125) (fun k3=>?_) (fun k3=>?_)
     ·refine va ?_
      refine ag (ae ?_)
      refine aR ?_
      refine af (aa ?_)
      have hP:PlS _ ([g4,g5,g7]++Z) g S a b s s q:=hp.zone hE (by intro z hz;simp only[List.mem_cons,List.not_mem_nil,or_false] at hz;omega)
      refine vm ?_
      refine ab (ah (off:=1) FY) ?_
      refine ab (ak gg bu) ?_
      refine ar (aw R1 (zZ _ g S a b s hP.con n BU kA (by omega))) ?_
      rintro v w204 ⟨A130,c130,rfl,jQ,K3⟩
      obtain⟨S130,a130,b130,Rn,xa,Rg⟩:=hP.step K3
      have Zn:=xa.size
      replace aI:=xa.bk aI (hP.zs _ (by simp)).2.1
      replace bu:=xa.bk bu (hP.zs _ (by simp)).2.1
      replace be:=xa.bk be (hP.zs _ (by simp)).2.1
      have hA:=(Kp.of_ext hE).tr xa (fun x hx=>.inl hx)
      have hT:=fun x hx=>(Rg x hx).imp id fun h=>Nat.le_trans hE.size h
      have hM:=Kp.refl ([g4,g5,g7]++Z) w204
      have Ej:=fun g e=>Own.lt jQ (g:=g) e
      refine vm ?_
      iterate 2 refine vx ?_
      iterate 2 refine va ?_
      refine ag (ae (af (aa ?_)))
      refine ab (aK (cs:=(ei s q)) bQ aI) ?_
      refine ab (ah (off:=1) FY) ?_
      refine ab (ak gg bu) ?_
      have hP:=Rn.kz hM
      refine ar (aw Y2 (Hb _ (([g4,g5,g7]++Z)++S130) hP.hS s q hP.rf hf hk n BU kA (by have:=hp.con.cap;omega))) ?_
      rintro v w205 ⟨A137,c137,q137,rfl,LZ,Lr,xl⟩
      obtain⟨lo137,QF,hh137,Wg,nx⟩:=LZ
      change RdB _ lo137 QF A137 c137 _ at nx
      have Rm:=hP.ref2 Lr xl
      replace be:=be.ext xl
      replace hA:=Kp.te hA xl
      replace jQ:=Own.ext jQ xl
      have Pa:=xl.size
      have hM:=Kp.refl ([g4,g5,g7]++Z) w205
      refine vm ?_
      iterate 3 refine vx ?_
      refine ar (bc (cs:=Ke) oi) ?_
      rintro v w206 ⟨g22,rfl,mI,ij,hl22,hu22⟩
      replace be:=be.ext ij
      replace hA:=Kp.te hA ij
      replace jQ:=Own.ext jQ ij
      replace nx:=nx.ext ij
      replace hM:=Kp.te hM ij
      refine aB (aD (vs:=(ei (lZ s n).1 q137)) gi mI (iH:=cH)) ?_
      rintro _ w207 ⟨iz,et⟩
      replace be:=be.gr et
      replace hA:=Kp.tg hA et (by first|(left;simp;done)|(right;omega))
      replace jQ:=Own.gr jQ et (by first|exact .inl rfl|(right;intro e;first|(have:=Ej _ e;omega)|(have:=Own.lt jQ e;omega)|exact aT jQ mI (by decide) e))
      replace nx:=nx.gr et
      replace hM:=Kp.tg hM et (by first|(left;simp;done)|(right;omega))
      replace mI:=iz
      iterate 2 refine va ?_
      refine ag (ae (af ?_))
      refine eH ?_
      intro w208 wN
      replace be:=be.ext wN
      replace hA:=Kp.te hA wN
      replace jQ:=Own.ext jQ wN
      replace nx:=nx.ext wN
      replace hM:=Kp.te hM wN
      replace mI:=mI.ext wN
      refine fh (sQ (nv w208.heap.size [g7])) (oR (eh)) (oQ (fa)) (oP (eh) (fa)) 0 14 [(141,a0 (.pointer (some ⟨g,0,none⟩))),(142,a0 (.agg (ei (lZ s n).1 q137).toArray)),(143,a0 (.slice A130 (dW s.out n).1.length c130)),(144,a0 (.string (av (dW s.out n).1))),(145,a0 (.slice A137 (dW s.out n).1.length c137)),(146,a0 (.string (av (dW s.out n).1))),(147,a0 (.bool true)),(148,a0 (.bool true)),(149,a0 (.int .i64 (↑(dW s.out n).2:Int))),(150,a0 (.int .i64 (↑(dW s.out n).2:Int))),(151,a0 (.bool true)),(152,a0 (.bool true)),(6,a0 (.pointer (some ⟨g,0,none⟩))),(181,(fun _ w=>Blk w g7 45 (ei (lZ s n).1 q137)))] [[],[],[],[2],[],[4],[3,5],[6],[7],[7],[7,8,9],[7,10],[0],[1]] [[0],[0],[0],[0],[0],[0],[0],[0],[0],[0],[0],[0],[0],[]] [[],[],[],[],[],[],[],[],[0],[0],[0],[0],[],[]] [none,none,none,none,none,none,none,none,none,none,none,none,none,some 0] [true,true,true,true,true,true,true,true,true,true,true,true,true,true] [0] _ [] [] ⟨sA,sA,sA,sA,sA,sA,sA,sA,sA,sA,sA,sA,sA,iF ((fun _ w w' hb he=>hb.ext he)),trivial⟩ ?_ ?_
      ·repeat' apply And.intro
       any_goals exact trivial
       all_goals intro wd bW
       exact am (ax (aF))
       ·replace mI:=mI.ext bW
        show eV _ _ _ _ _ _
        exact am (ax (aK (cs:=(ei (lZ s n).1 q137)) bQ mI))
       exact am (ax (aF))
       ·replace jQ:=Own.ext jQ bW
        rintro _ rfl
        show eV _ _ _ _ _ _
        exact am (ax (gB cE Tryz.underlying9 (OwnB.rd jQ)))
       exact am (ax (aF))
       ·replace nx:=nx.ext bW
        rintro _ rfl
        show eV _ _ _ _ _ _
        exact am (ax (gB cE Tryz.underlying9 nx))
       ·iterate 2 rintro _ rfl
        exact am (nL (mm) (hp:=rfl))
       ·rintro _ rfl
        exact am (ax (aF))
       ·rintro _ rfl
        exact bn (ax (aF))
       ·rintro _ rfl
        exact bn (ax (aF))
       ·iterate 3 rintro _ rfl
        exact bn (nL (cI) (hp:=rfl))
       ·iterate 2 rintro _ rfl
        exact am (ax (ay))
       ·rintro _ rfl
        exact am (ax (eU))
       ·replace be:=be.ext bW
        rintro _ rfl
        show eV _ _ _ _ _ _
        have kf:=be
        refine am (OpRun.mono (aD (vs:=(ei (lZ s n).1 q137)) gi be (iH:=cH)) ?_)
        rintro _ w209 ⟨eL,dy⟩
        replace be:=eL
        exact⟨be,eG dy kf be rfl⟩
      ·intro wf26 QN
       have An:=ew QN
       obtain⟨cs_g7,pB,be⟩:=dC QN be
       replace hA:=Kp.tr hA An (by intro x hx;rw[List.mem_singleton.1 hx];first|(left;simp;done)|(right;omega))
       replace hM:=Kp.tr hM An (by intro x hx;rw[List.mem_singleton.1 hx];first|(left;simp;done)|(right;omega))
       iterate 13 rintro _ rfl
       rintro _ be
       refine fE ?_
       refine va ?_
       refine ag (ae (aE (aQ (az ?_))))
       refine bm (rs:=[.tmp 6,.cell 7 45,.tmp 8]) (vs:=[(.pointer (some ⟨g,0,none⟩)),.agg (ei (lZ s n).1 q137).toArray,(.bool true)]) rfl ⟨rfl,⟨_,_,(ei (lZ s n).1 q137),rfl,bQ,be,rfl⟩,rfl,trivial⟩ ?_
       exact⟨g,S130,a130,b130,(lZ s n).1,q137,rfl,(Rm.kz hM).less,OH hf _,hA,hT,Nat.le_add_right _ _,by have h1:=(IV s n).2;have h2:=hp.con.cap;omega⟩
     ·refine va ?_
      refine ag (ae ?_)
      refine aC ?_
      refine aS (bb (ae (af (aa ?_))))
      have hP:PlS _ ([g4,g5,g7]++Z) g S a b s s q:=hp.zone hE (by intro z hz;simp only[List.mem_cons,List.not_mem_nil,or_false] at hz;omega)
      refine vm ?_
      refine ar (aw Y7 (KC _ g S a b s hP.con)) ?_
      rintro v w204 ⟨gd,Sd,rfl,QW,hSd,In⟩
      have hPd:=hP.copy QW hSd In
      have MB:∀x∈S,x∈S++([g4,g5,g7]++Z)∨w204.heap.size≤x:=fun x hx=>.inl (List.mem_append_left _ hx)
      replace aI:=aI.ext In
      replace be:=be.ext In
      replace hE:=hE.tr In
      have UA:=In.size
      have Cq:=Kp.refl (S++([g4,g5,g7]++Z)) w204
      have hM:=Kp.refl ([g4,g5,g7]++Z) w204
      have hP:=hP.ref2 (hP.rf.ext In) In
      refine va ?_
      refine ag (ae (af (af (aa ?_))))
      refine vm ?_
      refine ab (dO Tryz.underlying28) ?_
      refine ag (ae ?_)
      refine aC ?_
      refine aS (ae (af (aa ?_)))
      refine vm ?_
      refine ar (dn (l:=[1,14,0]) cE (os:=[.const (.int .u8 1),.const (.int .u8 14),.const (.int .u8 0)])) ?_
      rintro v w205 ⟨A160,c160,rfl,EA,nA⟩
      replace aI:=aI.ext nA
      replace be:=be.ext nA
      replace hE:=hE.tr nA
      replace Cq:=Kp.te Cq nA
      replace hM:=Kp.te hM nA
      have Eb:=nA.size
      have hP:=hP.kz hM
      refine ar (aw I5 (z0 _ g S a b s hP.con _ _ A160 c160 [1,14,0] (OwnB.rd EA) (fun x hx=>.inl (by have:=(hSb.1 x hx).1;omega)) (by decide))) ?_
      rintro v w206 ⟨rfl,yG⟩
      obtain⟨S161,a161,b161,FC,ru,AA⟩:=hP.step yG
      have Zh:=ru.size
      replace aI:=ru.bk aI (hP.zs _ (by simp)).2.1
      replace be:=ru.bk be (hP.zs _ (by simp)).2.1
      replace Cq:=Cq.tr ru MB
      have hA:=(Kp.of_ext hE).tr ru (fun x hx=>.inl hx)
      have hT:=fun x hx=>(AA x hx).imp id fun h=>Nat.le_trans hE.size h
      replace MB:=fun x hx=>(AA x hx).elim (MB x) fun h=>.inr (by omega)
      have hM:=Kp.refl ([g4,g5,g7]++Z) w206
      refine ag (ae (af (aa ?_)))
      refine vm ?_
      have hP:=FC.kz hM
      refine ar (aw Nw (yA _ g S161 a161 b161 (cT s [1,14,0]).1 hP.con (by rw[(oT s _).1];omega))) ?_
      rintro v w207 ⟨rfl,KV⟩
      obtain⟨S163,a163,b163,Rl,Au,JP⟩:=hP.step KV
      replace aI:=Au.bk aI (hP.zs _ (by simp)).2.1
      replace be:=Au.bk be (hP.zs _ (by simp)).2.1
      replace Cq:=Cq.tr Au MB
      have It:=hT
      have hT:=fun x hx=>(JP x hx).elim (hT x) fun h=>.inr (by omega)
      replace hA:=hA.tr Au It
      replace MB:=fun x hx=>(JP x hx).elim (MB x) fun h=>.inr (by omega)
      have hM:=Kp.refl ([g4,g5,g7]++Z) w207
      refine ag (ae (af (aa ?_)))
      refine vm ?_
      have hP:=Rl.kz hM
      refine ar (aw R1 (zZ _ g S163 a163 b163 (b8 (cT s [1,14,0]).1).1 hP.con 3 (by decide) (by decide) (by rw[CF,(oT s _).2];omega))) ?_
      rintro v w208 ⟨A165,c165,rfl,ho165,KU⟩
      obtain⟨S165,a165,b165,hP165,At,hS165⟩:=hP.step KU
      replace aI:=At.bk aI (hP.zs _ (by simp)).2.1
      replace be:=At.bk be (hP.zs _ (by simp)).2.1
      replace Cq:=Cq.tr At MB
      have It:=hT
      replace hA:=hA.tr At It
      refine ag (ae (af ?_))
      refine cC ej 3 [(166,a0 (.pointer (some ⟨gd,0,none⟩))),(167,a0 (.agg (ei s q).toArray)),(6,a0 (.pointer (some ⟨gd,0,none⟩)))] [[],[],[0]] _ [] [] (fun _ _ h=>h) trivial (by kernel_rfl) rfl ?_ ?_
      ·repeat' apply And.intro
       all_goals first|exact trivial|(intro wd bW;replace aI:=aI.ext bW;(repeat rintro _ rfl))
       exact am (ax (aF))
       exact am (ax (aK (cs:=(ei s q)) bQ aI))
       exact am (ax (eU))
      ·intro wf33 L3
       replace be:=be.ext L3
       replace Cq:=Kp.te Cq L3
       replace hA:=Kp.te hA L3
       iterate 3 rintro _ rfl
       refine aB (aD (vs:=(ei s q)) gi be (iH:=cH)) ?_
       rintro _ w209 ⟨eL,dy⟩
       replace Cq:=Kp.tg Cq dy (by first|(left;simp;done)|(right;omega))
       replace hA:=Kp.tg hA dy (by first|(left;simp;done)|(right;omega))
       replace be:=eL
       refine va ?_
       refine ag (ae (aE ?_))
       refine bm (rs:=[.tmp 6,.cell 7 45,.tmp 8]) (vs:=[(.pointer (some ⟨gd,0,none⟩)),.agg (ei s q).toArray,(.bool true)]) rfl ⟨rfl,⟨_,_,(ei s q),rfl,bQ,be,rfl⟩,rfl,trivial⟩ ?_
       exact⟨gd,Sd,a,b,s,q,rfl,(hPd.kz Cq).less.less,hf,hA,fun x hx=>.inr (by have:=hSd x hx;omega),by omega,by omega⟩
end Go.Proofs.YtiighkbehiddkaaGreat
namespace Go.Proofs.YtiighkbehiddkaaGreat
open Go.RowKit
set_option linter.unusedVariables false
set_option maxRecDepth 4000
theorem NC:jt Tryz.prog 50 9=true:=by kernel_rfl
theorem Zb:aX Tryz.prog 12=true:=by kernel_rfl
theorem Za:aX Tryz.prog 13=true:=by kernel_rfl
theorem Y9:aX Tryz.prog 14=true:=by kernel_rfl
theorem cl8:aX Tryz.prog 8=true:=by kernel_rfl
theorem cl9:aX Tryz.prog 9=true:=by kernel_rfl
theorem Kc:SliceTy Tryz.prog 24 50 9 120 (.agg #[(.int .i64 0),(.int .i64 0),(.slice none 0 0),(.int .i64 0),(.int .i64 0),(.slice none 0 0),(.int .u64 0),(.int .i64 0),(.slice none 0 0)]):=iI Tryz.underlying24 rfl
theorem AtOk.ext {w w1:World} {x:AT} (h:AtOk w x) (e:Ext w w1):AtOk w1 x:=⟨h.n1,h.n2,(h.hd.ext e).mono (Nat.le_refl _) e.size,h.hv,(h.hx.ext e).mono (Nat.le_refl _) e.size,(Rd.ext h.hn e).mono (Nat.le_refl _) e.size,h.ok⟩
theorem yw {w:World} {Z:List Nat} {g:Nat} {S:List Nat} {a b:Nat} {s:Cn} {q:RfP} (h:PlS w Z g S a b s s q) (hf:RfOk s):Fn Tryz.prog 14 #[.pointer (some ⟨g,0,none⟩),.agg (ei s q).toArray] w (fun v w'=>v=.bool true∧Ext w w'):=by
 obtain⟨cl,ch,_,_,hK,hV,hT⟩:=h.rf.c
 obtain⟨rl,rh,_,_,hv,hX,hN⟩:=h.rf.r
 exact wD w g S a b s h.con s.ci s.co s.cp s.held q.I q.ci s.out q.O q.co s.ph s.cl s.cmd cl ch q.K q.ck q.V q.cv q.T q.ct hK hV hT s.ans q.xs hv rl rh q.X q.cx q.N q.cn hX hN (Dw hf) rfl rfl (fun _=>rfl) (fun _=>rfl)
theorem tm (w:World) (lox pr:Nat) (C:Option Addr) (cx:Nat) (xs:List AT) (sv:RdR w lox pr 9 GQ C cx xs) (hQ:∀x∈xs,AtOk w x):
  Fn Tryz.prog 9 #[(.slice C xs.length cx)] w (fun v w'=>v=.bool (decide (few28P xs))∧Ext w w'):=by
 replace sv:=sv.top
 have hE:=aP w
 have mE:=sv.2.1
 simp only[maxLen] at mE
 refine aO Tryz.func9 ?_
 refine af (aa ?_)
 refine va ?_
 refine ag (ae (af (af (aa ?_))))
 refine va ?_
 refine ag (ae (a9 ?_))
 refine cU (fun s=>xs.length - s) (fun s=>[(0,.slice C xs.length cx),(3,.int .i64 (s:Int))]) (fun s w'=>s≤xs.length∧s≤81∧(∀a∈xs.take s,a.d.length≤300∧iv a.r=false)∧Ext w w') (0) (⟨Nat.zero_le _,by decide,by simp,hE⟩) ?_ (hL:=⟨rfl,rfl,trivial⟩)
 rintro k wq ⟨CY,hk81,gW,hE⟩
 have ud:=hE.size
 refine af (af (aa ?_))
 iterate 2 refine vm ?_
 refine ab (bj Tryz.underlying24) ?_
 refine ab (bz) ?_
 refine aG (d:=7) (fun h7=>?_) (fun h7=>?_)
 ·refine vm ?_
  refine aj (aF) ?_
  refine aj (bz) ?_
  refine aG (d:=10) (fun RF=>?_) (fun RF=>?_)
  ·refine ab (ay) ?_
   refine ag (ae ?_)
   refine aR ?_
   refine aS (ae (af (a9 (af (aa ?_)))))
   obtain⟨x,hk⟩:∃a,xs[k]?=some a:=⟨_,List.getElem?_eq_getElem (by omega)⟩
   have yF:=List.mem_of_getElem? hk
   have hO:=hQ _ yF
   iterate 2 refine vm ?_
   refine ar (cS Kc (sv.ext hE) hk) ?_
   rintro v _ ⟨rfl,p16,rfl,Vi,ZG,ZR⟩
   refine ar (nN zc rfl Vi) ?_
   rintro v _ ⟨rfl,p17,rfl,Vh,ZW⟩
   refine ab (dv dc rfl (fg Vh)) ?_
   refine ab (bj Tryz.underlying32) ?_
   refine ab (bw) ?_
   refine aG (d:=20) (fun h20=>?_) (fun h20=>?_)
   ·refine vm ?_
    iterate 6 refine aA ?_
    refine ab (ay) ?_
    refine ag (ae ?_)
    refine aR ?_
    refine af (aa ?_)
    refine va ?_
    refine ag (ae (aE (aQ (az (az (aQ (az ?_)))))))
    refine aY ?_
    exact⟨by rw[decide_eq_false];rintro⟨_,h⟩;have:=(h _ yF).1;omega,hE⟩
   ·have hdl:=hO.hd.2.1
    simp only[maxLen] at hdl
    refine vm ?_
    iterate 2 refine aj (aF) ?_
    refine bP (cS Kc (sv.ext hE) hk) ?_
    rintro v _ ⟨rfl,p24,rfl,LE,PW,P6⟩
    refine bP (nN uZ rfl LE) ?_
    rintro v _ ⟨rfl,p25,rfl,Vf,ZU⟩
    refine aj (dX bZ Vf) ?_
    refine bP (aw Y8 (xk _ x.r x.xs hO.hv _ _ x.X x.cx x.N x.cn (hO.hx.ext hE) (Rd.ext hO.hn hE) hO.ok.len)) ?_
    rintro v w201 ⟨rfl,Cb⟩
    replace hE:=hE.tr Cb
    refine ab (ap) ?_
    refine ag (ae ?_)
    refine dJ (fun eN=>?_) (fun eN=>?_)
    ·refine af (aa ?_)
     refine va ?_
     refine ag (ae (aE (aQ (az (az (aQ (az ?_)))))))
     refine aY ?_
     exact⟨by rw[decide_eq_false];rintro⟨_,h⟩;exact absurd eN (by rw[(h _ yF).2];decide),hE⟩
    ·refine aS (bb (ae (aa ?_)))
     refine vm ?_
     refine ab (bH) ?_
     refine va ?_
     refine ag ?_
     refine cB (k+1) (by show xs.length -(k+1)<xs.length - k;omega) (⟨by omega,by omega,x6 hk (by omega) eN gW,hE⟩) (hL:=⟨rfl,rfl,trivial⟩)
  ·refine ab (ay) ?_
   refine ag (ae ?_)
   refine aC ?_
   refine cW (bx (bx (ce (ae (af (aa ?_))))))
   refine vm ?_
   refine ab (bj Tryz.underlying24) ?_
   refine ab (dl) ?_
   refine va ?_
   refine ag (ae (aE ?_))
   refine aY ?_
   refine⟨?_,hE⟩
   congr 1
   rw[decide_eq_decide]
   exact⟨fun h=>by omega,fun h=>by have:=h.1;omega⟩
 ·refine vm ?_
  iterate 2 refine aA ?_
  refine ab (ap) ?_
  refine ag (ae ?_)
  refine aC ?_
  refine cW (bx (bx (ce (ae (af (aa ?_))))))
  refine vm ?_
  refine ab (bj Tryz.underlying24) ?_
  refine ab (dl) ?_
  refine va ?_
  refine ag (ae (aE ?_))
  refine aY ?_
  refine⟨?_,hE⟩
  congr 1
  rw[decide_eq_decide]
  rw[List.take_of_length_le (by omega)] at gW
  exact⟨fun h=>⟨by omega,gW⟩,fun h=>by have:=h.1;omega⟩
theorem xH (w:World) (i o p:Nat) (hc:16≤p∧p≤2097152∧p+8≤i∧i≤4194304∧64≤o∧o≤1048576) (eO:i≤2000) (CW:o≤2000) (lox pr:Nat) (C:Option Addr) (cx:Nat) (xs:List AT) (sv:RdR w lox pr 9 GQ C cx xs) (hQ:∀x∈xs,AtOk w x) (L2:few28P xs):
  Fn Tryz.prog 3 #[(.agg #[(.int .i64 (↑i:Int)),(.int .i64 (↑o:Int)),(.int .i64 (↑p:Int))]),(.slice C xs.length cx)] w (fun v w'=>v=.bool true∧Ext w w'):=by
 replace sv:=sv.top
 have hE:=aP w
 have mE:=sv.2.1
 simp only[maxLen] at mE
 refine aO (args:=[(.agg #[(.int .i64 (↑i:Int)),(.int .i64 (↑o:Int)),(.int .i64 (↑p:Int))]),(.slice C xs.length cx)]) Tryz.func3 ?_
 refine af (aa ?_)
 refine ar (bU (cs:=[(.int .i64 (↑i:Int)),(.int .i64 (↑o:Int)),(.int .i64 (↑p:Int))])) ?_
 rintro v w1 ⟨g2,rfl,aq,dk,my,nd⟩
 replace hE:=hE.tr dk
 refine va ?_
 refine ag (ae (af (af (aa ?_))))
 refine ab (aK (cs:=[(.int .i64 (↑i:Int)),(.int .i64 (↑o:Int)),(.int .i64 (↑p:Int))]) lb aq) ?_
 refine ar (aw cl8 (ou _ (↑i:Int) (↑o:Int) (↑p:Int) (by omega) (by omega) (by omega) (by omega) (by omega) (by omega))) ?_
 rintro v w2 ⟨rfl,dV⟩
 replace hE:=hE.tr dV
 replace aq:=aq.ext dV
 have HH:=dV.size
 refine aN (d:=11) rfl (bt (by unfold cfOk;omega)) ?_
 refine ab (b6 (b:=true)) ?_
 refine vm ?_
 refine aj (ah (off:=0) mS) ?_
 refine aj (ak gg aq) ?_
 refine aj (bw) ?_
 refine aN (d:=16) rfl (bf (by omega)) ?_
 refine ab (ap) ?_
 refine vm ?_
 refine aj (ah (off:=1) la) ?_
 refine aj (ak gg aq) ?_
 refine aj (bw) ?_
 refine aN (d:=21) rfl (bf (by omega)) ?_
 refine ab (ap) ?_
 refine vm ?_
 refine aj (aF) ?_
 refine bP (aw cl9 (tm _ _ _ _ _ xs (sv.ext hE) (fun x hx=>(hQ x hx).ext hE))) ?_
 rintro v w3 ⟨rfl,fY⟩
 replace hE:=hE.tr fY
 replace aq:=aq.ext fY
 have ua:=fY.size
 refine aN (d:=25) rfl (bt (L2)) ?_
 refine aj (b6 (b:=true)) ?_
 refine ab (ap) ?_
 refine ag (ae ?_)
 refine aC ?_
 refine aS (ae (af (aa ?_)))
 refine ab (aK (cs:=[(.int .i64 (↑i:Int)),(.int .i64 (↑o:Int)),(.int .i64 (↑p:Int))]) lb aq) ?_
 refine ar (aw I6 (u5 _ i o p hc)) ?_
 rintro v w4 ⟨g31,S31,a31,rfl,WO,XB,uC⟩
 replace hE:=hE.tr uC
 replace aq:=aq.ext uC
 have HD:=uC.size
 have hP:PlS w4 [] g31 S31 a31 a31 (r3 i o p) (r3 i o p) (⟨none,0,none,0,none,0,none,0,none,0,none,0,[],none,0⟩:RfP):=⟨WO,⟨Hp _ _,Hp _ _,OT ..,Ho ..⟩,fun z hz=>by cases hz⟩
 have hX:=aP w4
 refine vm ?_
 iterate 2 refine vx ?_
 iterate 2 refine va ?_
 refine ag (ae (af (af (aa ?_))))
 refine vm ?_
 refine ab (dO Tryz.underlying28) ?_
 refine vm ?_
 refine aj (aF) ?_
 refine aj (bS) ?_
 refine ab (ap) ?_
 refine ag (ae ?_)
 refine aC ?_
 refine aS (ae (af (aa ?_)))
 refine ab (aK (cs:=[(.int .i64 (↑i:Int)),(.int .i64 (↑o:Int)),(.int .i64 (↑p:Int))]) lb aq) ?_
 refine ar (aw Zb (yh _ (↑i:Int) (↑o:Int) (↑p:Int))) ?_
 rintro v w5 ⟨rfl,rD⟩
 replace hE:=hE.tr rD
 replace hX:=hX.tr rD
 have HC:=rD.size
 refine ar (bc (cs:=Ke) oi) ?_
 rintro v w6 ⟨g7,rfl,be,eS,Ia,HL⟩
 replace hE:=hE.tr eS
 replace hX:=hX.tr eS
 replace hP:=hP.zone (Z':=[g7]) hX (by intro z hz;rw[List.mem_singleton.1 hz];omega)
 have hM:=Kp.refl [g7] w6
 refine aB (aD (vs:=[(.int .i64 (↑i:Int)),(.int .i64 (↑o:Int)),(.int .i64 (↑p:Int)),(.slice none 0 0),(.slice none 0 0),(.int .i64 1),(.bool false),(.int .i64 0),(.string (av ([]:List UInt8))),(.slice none 0 0),(.slice none 0 0),(.slice none 0 0),(.int .u64 0),(.int .u64 0),(.string (av ([]:List UInt8))),(.string (av ([]:List UInt8))),(.string (av ([]:List UInt8))),(.int .i64 0),(.int .i64 0),(.slice none 0 0),(.int .u64 0),(.int .i64 0),(.slice none 0 0)]) gi be (iH:=cH)) ?_
 rintro _ w7 ⟨Co,jw⟩
 replace hE:=hE.gr jw
 replace hM:=Kp.tg hM jw (by first|(left;simp;done)|(right;omega))
 replace be:=Co
 refine ag (ae (af (af (aa ?_))))
 refine va ?_
 refine ag (ae (a9 ?_))
 refine cU (σ:=Nat×PSt) (fun s=>xs.length - s.1) (fun s=>[(1,.slice C xs.length cx),(5,.pointer (some ⟨s.2.g,0,none⟩)),(7,.pointer (some ⟨g7,0,none⟩)),(8,.int .i64 (s.1:Int))]) (fun s w'=>s.1≤xs.length∧PlS w' [g7] s.2.g s.2.S s.2.a s.2.b s.2.s s.2.s s.2.q∧RfOk s.2.s∧s.2.s.pt≤s.1*3000000∧s.2.s.tk≤s.1*3000000∧(∀x∈s.2.S,w.heap.size≤x)∧Blk w' g7 45 (ei s.2.s s.2.q)∧Ext w w') ((0,⟨g31,S31,a31,a31,r3 i o p,(⟨none,0,none,0,none,0,none,0,none,0,none,0,[],none,0⟩:RfP)⟩)) (⟨Nat.zero_le _,hP.kz hM,Kk _ _ _,Nat.zero_le _,Nat.zero_le _,fun x hx=>Nat.le_trans (by omega) (XB x hx),be,hE⟩) ?_
 rintro⟨k,g,S,a,b,s,q⟩ wq ⟨CY,hP,hf,H0,no,Q9,be,hE⟩
 replace hP:PlS wq [g7] g S a b s s q:=hP
 replace hf:RfOk s:=hf
 replace H0:s.pt≤k*3000000:=H0
 replace no:s.tk≤k*3000000:=no
 replace Q9:∀x∈S,w.heap.size≤x:=Q9
 replace be:Blk wq g7 45 (ei s q):=be
 have hM:=Kp.refl [g7] wq
 have Wk:=be.lt
 have hx80:=L2.1
 refine af (af (aa ?_))
 iterate 2 refine vm ?_
 refine ab (bj Tryz.underlying24) ?_
 refine ab (bz) ?_
 refine ag (ae ?_)
 refine aL (fun e9=>?_) (fun e9=>?_)
 ·obtain⟨x,hk⟩:∃a,xs[k]?=some a:=⟨_,List.getElem?_eq_getElem (by omega)⟩
  have yF:=List.mem_of_getElem? hk
  have hO:=hQ _ yF
  have hl:=L2.2 _ yF
  refine aS (ae (af (a9 (af (aa ?_)))))
  refine va ?_
  refine ag (ae (af ?_))
  refine eH ?_
  intro w8 HK
  replace be:=be.ext HK
  replace hM:=Kp.te hM HK
  replace hE:=hE.tr HK
  have SA:=HK.size
  refine fh (fun _=>Ext) (fun _ _ _ h=>h) (fun _ _ _ _ _ _ h k=>h.tr k) (fun _ _ _ _ h k=>h.tr k) 0 6 [(49,a0 (.pointer (some ⟨g,0,none⟩))),(50,a0 (.agg (ei s q).toArray)),(51,a0 (.slice C xs.length cx)),(52,a0 (.int .i64 (↑k:Int))),(53,i0 [(.int .i64 x.wh),(.int .i64 x.n),(.slice x.D x.d.length x.cd),(.int .i64 x.r.op),(.int .i64 x.r.err),(.slice x.X x.r.items.length x.cx),(.int .u64 (↑x.r.ver:Int)),(.int .i64 x.r.count),(.slice x.N x.r.nums.length x.cn)]),(54,a0 (.agg (GQ x).toArray))] [[],[],[],[],[2,3],[4]] [[],[],[],[],[],[]] [[],[],[],[],[],[]] [none,none,none,none,none,none] [true,true,true,true,true,true] [] _ [] [] ⟨⟨dU _,fun _ he=>by cases he⟩,⟨dU _,fun _ he=>by cases he⟩,⟨dU _,fun _ he=>by cases he⟩,⟨dU _,fun _ he=>by cases he⟩,⟨pV _,fun _ he=>by cases he⟩,⟨dU _,fun _ he=>by cases he⟩,trivial⟩ ?_ ?_
  ·repeat' apply And.intro
   any_goals exact trivial
   all_goals intro wd bW
   exact am (ax (aF))
   ·replace be:=be.ext bW
    show eV _ _ _ _ _ _
    exact am (ax (aK (cs:=(ei s q)) bQ be))
   iterate 2 exact am (ax (aF))
   ·replace hE:=hE.tr bW
    iterate 2 rintro _ rfl
    show eV _ _ _ _ _ _
    refine am (OpRun.mono (cS (m:=(k)) Kc (sv.ext hE) hk) ?_)
    rintro v _ ⟨rfl,p53,rfl,H3,ZC,ZN⟩
    exact⟨⟨p53,rfl,H3⟩,aP _⟩
   ·rintro _ ⟨p53,rfl,H3⟩
    show eV _ _ _ _ _ _
    exact am (ax (dX (cs:=(GQ x)) NC H3))
  ·intro wf11 nt
   replace be:=be.ext nt
   replace hM:=Kp.te hM nt
   replace hE:=hE.tr nt
   have Hy:=nt.size
   iterate 4 rintro _ rfl
   rintro _ ⟨p53,rfl,H3⟩
   rintro _ rfl
   show zt _ _ _ _ _ _ _
   replace hP:=hP.kz hM
   refine C2 (by kernel_rfl) rfl (aw Za (F2 _ [g7] g S a b s q hP hf x.wh x.n hO.n1 hO.n2 x.r x.xs hO.hv _ _ x.X x.cx x.N x.cn (hO.hx.ext hE) (Rd.ext hO.hn hE) (by intro y hy;rcases List.mem_cons.1 hy with e|e;omega;exact Q9 y e) hE.size hO.ok.ok (by have:=(DR hl.2).1;omega) x.D x.cd x.d (hO.hd.ext hE) hl.1 (by omega) (by omega))) rfl rfl rfl ?_
   rintro v w9 Pw
   obtain⟨g55,S55,a55,b55,s55,q55,e55,Rk,QL,QA,Xx,Zx,Zt⟩:=Pw
   subst e55
   replace be:=QA.bk be (hP.zs g7 (by simp)).2.1
   replace hE:=QA.e0 hE Q9
   have hM:=Kp.refl [g7] w9
   have Q8:∀x∈S55,w.heap.size≤x:=fun x hx=>(Xx x hx).elim (Q9 x) (fun h=>by omega)
   refine fh (sQ (nv w9.heap.size [g7])) (oR (eh)) (oQ (fa)) (oP (eh) (fa)) 7 13 [(68,xP),(69,xP),(70,xP),(71,xP),(72,xP),(73,xP),(74,xP),(48,a0 (.tuple #[(.pointer (some ⟨g55,0,none⟩)),(.agg (ei s55 q55).toArray),(.bool true)])),(56,a0 (.pointer (some ⟨g55,0,none⟩))),(57,a0 (.agg (ei s55 q55).toArray)),(58,a0 (.bool true)),(5,a0 (.pointer (some ⟨g55,0,none⟩))),(80,(fun _ w=>Blk w g7 45 (ei s55 q55)))] [[],[],[],[],[],[],[],[],[7],[7],[7],[8],[9]] [[0],[0],[0],[0],[0],[0],[0],[0],[0],[0],[0],[0],[]] [[0],[0],[0],[0],[0],[0],[0],[0],[0],[0],[0],[0],[0]] [none,none,none,none,none,none,none,none,none,none,none,none,some 0] [false,false,false,false,false,false,false,true,true,true,true,true,true] [0] [(1,(.slice C xs.length cx)),(7,(.pointer (some ⟨g7,0,none⟩))),(8,(.int .i64 (↑k:Int))),(9,(.bool false)),(49,(.pointer (some ⟨g,0,none⟩))),(50,(.agg (ei s q).toArray)),(51,(.slice C xs.length cx)),(52,(.int .i64 (↑k:Int))),(53,(.pointer (some p53))),(54,(.agg (GQ x).toArray)),(55,(.tuple #[(.pointer (some ⟨g55,0,none⟩)),(.agg (ei s55 q55).toArray),(.bool true)]))] [] [] ⟨vP (fun _=>ly) _,vP (fun _=>ly) _,vP (fun _=>ly) _,vP (fun _=>ly) _,vP (fun _=>ly) _,vP (fun _=>ly) _,vP (fun _=>ly) _,sA,sA,sA,sA,sA,iF ((fun _ w w' hb he=>hb.ext he)),trivial⟩ ?_ ?_ (CZ:=Env.sub_get ⟨rfl,rfl,rfl,rfl,rfl,rfl,rfl,rfl,rfl,rfl,rfl,trivial⟩)
   ·repeat' apply And.intro
    any_goals exact trivial
    all_goals intro wd bW
    exact am (ax (aF))
    ·rintro _ rfl
     exact am (ax (fq))
    ·rintro _ rfl
     exact am (ax (fq))
    ·rintro _ rfl
     exact am (ax (fq))
    ·rintro _ rfl
     exact am (ax (eU))
    ·obtain⟨cs_g7,pB,be⟩:=dC bW be
     rintro _ rfl
     show eV _ _ _ _ _ _
     have kf:=be
     refine am (OpRun.mono (aD (vs:=(ei s55 q55)) gi be (iH:=cH) (hl:=pB)) ?_)
     rintro _ w10 ⟨FI,pw⟩
     replace be:=FI
     exact⟨be,eG pw kf be pB⟩
   ·intro wf11 nt
    have Ap:=ew nt
    obtain⟨cs_g7,pB,be⟩:=dC nt be
    replace hE:=Ap.e0 hE (by intro g hg;simp at hg;omega)
    replace hM:=Kp.tr hM Ap (by intro x hx;rw[List.mem_singleton.1 hx];first|(left;simp;done)|(right;omega))
    iterate 7 intro _
    iterate 5 rintro _ rfl
    rintro _ be
    refine fE ?_
    refine va ?_
    refine ag (ae (af (aa ?_)))
    refine vm ?_
    refine ab (b6 (b:=true)) ?_
    refine vm ?_
    refine aj (aF) ?_
    refine aj (aK (cs:=(ei s55 q55)) bQ be) ?_
    refine bP (aw Y9 (yw (Rk.kz hM) QL)) ?_
    rintro v w10 ⟨rfl,n7⟩
    replace hE:=hE.tr n7
    replace hM:=Kp.te hM n7
    replace be:=be.ext n7
    refine aj (b6 (b:=true)) ?_
    refine ab (ap) ?_
    refine ag (ae ?_)
    refine aC ?_
    refine aS (bb (ae (aa ?_)))
    refine vm ?_
    refine ab (bH) ?_
    refine va ?_
    refine ag ?_
    refine cB ((k+1,⟨g55,S55,a55,b55,s55,q55⟩)) (by show xs.length -(k+1)<xs.length - k;omega) (⟨by show k+1≤_;omega,Rk.kz hM,QL,by show s55.pt≤(k+1)*3000000;omega,by show s55.tk≤(k+1)*3000000;omega,Q8,be,hE⟩)
 ·refine cW (bx (bx (ce (ae (af (aa ?_))))))
  refine ar (aw Gq (ji _)) ?_
  rintro v w208 ⟨rfl,Wv⟩
  replace hE:=hE.tr Wv
  refine va ?_
  refine ag (ae (aE ?_))
  refine aY ?_
  exact⟨rfl,hE⟩
theorem xI (w:World) (i o p:Int) (B4:-9223372036854775808≤i) (eO:i≤9223372036854775807) (EB:-9223372036854775808≤o) (CW:o≤9223372036854775807) (NO:-9223372036854775808≤p) (NN:p≤9223372036854775807) (lox pr:Nat) (C:Option Addr) (cx:Nat) (xs:List AT) (sv:RdR w lox pr 9 GQ C cx xs) (hQ:∀x∈xs,AtOk w x) (bF:¬(cfOk i o p∧i≤2000∧o≤2000∧few28P xs)):
  Fn Tryz.prog 3 #[(.agg #[(.int .i64 i),(.int .i64 o),(.int .i64 p)]),(.slice C xs.length cx)] w (fun v w'=>v=.bool true∧Ext w w'):=by
 replace sv:=sv.top
 have hE:=aP w
 have mE:=sv.2.1
 simp only[maxLen] at mE
 refine aO Tryz.func3 ?_
 refine af (aa ?_)
 refine ar (bU) ?_
 rintro v w1 ⟨g2,rfl,aq,dk,my,nd⟩
 replace hE:=hE.tr dk
 refine va ?_
 refine ag (ae (af (af (aa ?_))))
 refine ab (aK (cs:=[(.int .i64 i),(.int .i64 o),(.int .i64 p)]) lb aq) ?_
 refine ar (aw cl8 (ou _ i o p B4 eO EB CW NO NN)) ?_
 rintro v w2 ⟨rfl,dV⟩
 replace hE:=hE.tr dV
 replace aq:=aq.ext dV
 refine aG (d:=11) (fun hv=>?_) (fun hv=>?_)
 ·refine ab (b6) ?_
  refine vm ?_
  refine aj (ah mS) ?_
  refine aj (ak gg aq) ?_
  refine aj (bw) ?_
  refine aG (d:=16) (fun pF=>?_) (fun pF=>?_)
  ·refine ab (ap) ?_
   refine vm ?_
   iterate 3 refine aA ?_
   refine ab (ay) ?_
   refine vm ?_
   iterate 3 refine aA ?_
   refine ab (ay) ?_
   refine ag (ae ?_)
   refine aR ?_
   refine af (aa ?_)
   refine ar (aw Gq (ji _)) ?_
   rintro v w3 ⟨rfl,lO⟩
   replace hE:=hE.tr lO
   refine va ?_
   refine ag (ae (aE (az ?_)))
   refine aY ?_
   exact⟨rfl,hE⟩
  ·refine ab (ap) ?_
   refine vm ?_
   refine aj (ah la) ?_
   refine aj (ak gg aq) ?_
   refine aj (bw) ?_
   refine aG (d:=21) (fun h21=>?_) (fun h21=>?_)
   ·refine ab (ap) ?_
    refine vm ?_
    iterate 3 refine aA ?_
    refine ab (ay) ?_
    refine ag (ae ?_)
    refine aR ?_
    refine af (aa ?_)
    refine ar (aw Gq (ji _)) ?_
    rintro v w203 ⟨rfl,lO⟩
    replace hE:=hE.tr lO
    refine va ?_
    refine ag (ae (aE (az ?_)))
    refine aY ?_
    exact⟨rfl,hE⟩
   ·refine ab (ap) ?_
    refine vm ?_
    refine aj (aF) ?_
    refine bP (aw cl9 (tm _ _ _ _ _ xs (sv.ext hE) (fun x hx=>(hQ x hx).ext hE))) ?_
    rintro v w203 ⟨rfl,fY⟩
    replace hE:=hE.tr fY
    refine aN (d:=25) rfl (bf (fun h=>bF ⟨hv,by omega,by omega,h⟩)) ?_
    refine aj (b6) ?_
    refine ab (ap) ?_
    refine ag (ae ?_)
    refine aR ?_
    refine af (aa ?_)
    refine ar (aw Gq (ji _)) ?_
    rintro v w204 ⟨rfl,lO⟩
    replace hE:=hE.tr lO
    refine va ?_
    refine ag (ae (aE (az ?_)))
    refine aY ?_
    exact⟨rfl,hE⟩
 ·refine ab (b6) ?_
  refine vm ?_
  iterate 3 refine aA ?_
  refine ab (ay) ?_
  refine vm ?_
  iterate 3 refine aA ?_
  refine ab (ay) ?_
  refine vm ?_
  iterate 3 refine aA ?_
  refine ab (ay) ?_
  refine ag (ae ?_)
  refine aR ?_
  refine af (aa ?_)
  refine ar (aw Gq (ji _)) ?_
  rintro v w203 ⟨rfl,lO⟩
  replace hE:=hE.tr lO
  refine va ?_
  refine ag (ae (aE (az ?_)))
  refine aY ?_
  exact⟨rfl,hE⟩
theorem rY (w:World) (i o p:Int) (B4:-9223372036854775808≤i) (eO:i≤9223372036854775807) (EB:-9223372036854775808≤o) (CW:o≤9223372036854775807) (NO:-9223372036854775808≤p) (NN:p≤9223372036854775807) (lox pr:Nat) (C:Option Addr) (cx:Nat) (xs:List AT) (sv:RdR w lox pr 9 GQ C cx xs) (hQ:∀x∈xs,AtOk w x):
  Fn Tryz.prog 3 #[.agg #[.int .i64 i,.int .i64 o,.int .i64 p],.slice C xs.length cx] w (fun v w'=>v=.bool true∧Ext w w'):=by
 by_cases h:cfOk i o p∧i≤2000∧o≤2000∧few28P xs
 ·obtain⟨h0,h1,h2,h3⟩:=h
  unfold cfOk at h0
  obtain⟨i,rfl⟩:∃a:Nat,i=(a:Int):=⟨i.toNat,by omega⟩
  obtain⟨o,rfl⟩:∃a:Nat,o=(a:Int):=⟨o.toNat,by omega⟩
  obtain⟨p,rfl⟩:∃a:Nat,p=(a:Int):=⟨p.toNat,by omega⟩
  exact xH w i o p (by omega) (by omega) (by omega) lox pr C cx xs sv hQ h3
 ·exact xI w i o p B4 eO EB CW NO NN lox pr C cx xs sv hQ h
end Go.Proofs.YtiighkbehiddkaaGreat
namespace Go.Proofs.YtiighkbehiddkaaGreat
set_option linter.unusedVariables false
open Go.ChangeShapes Go.WideShapes Go.ChangeAt Go.RowKit Go.Deep
section
variable {H:Type} {br:TypeId×Value→H} {P:Program} {W W':World}
end
/-! The arguments, opened, with their sizes. -/
section
variable {H:Type} {br:TypeId×Value→H} {P:Program} {W:World}
def CRw (br:TypeId×Value→H) (P:Program) (W:World) (t:TypeId) (cs:List Value):Prop:=∃fuel x,DataW.trod br P W 0 (fun _=>true) true fuel t cs=some x∧∀n∈x.1.weights P t,n≤reachBytes
theorem CRw.cr {t:TypeId} {cs:List Value} (h:CRw br P W t cs):CR br P W t cs:=by obtain⟨f,x,h,_⟩:=h;exact⟨f,x,h⟩
theorem Gw {t:TypeId} {v:Value} {d:DataW H} (h:vi br P W t v d):CRw br P W t v.cells.toList:=by
 obtain⟨ps,b0,_,⟨fuel,hd⟩,hw⟩:=h
 exact⟨fuel,_,hd,hw⟩
theorem od {t:TypeId} {fs:Array Field} {cs:List Value} (ht:P.underlying t=some (.struct fs)) (h:CRw br P W t cs):
  cs.length=P.cellsOf t∧∀(i:Nat) (f:Field),fs[i]?=some f→CRw br P W f.type ((cs.drop f.offset).take (P.cellsOf f.type)):=by
 obtain⟨fuel,x,h,hw⟩:=h
 obtain⟨xs,n,_,rfl,hl,bI,hf⟩:=DataW.trod_struct ht h
 refine⟨hl,fun i f hi=>?_⟩
 have qb:i<xs.length:=by rw[bI];exact(Array.getElem?_eq_some_iff.1 hi).1
 refine⟨n,xs[i],by rw[hf i f hi,List.getElem?_eq_getElem qb],fun m hm=>hw m ?_⟩
 have h1:(fs.toList.map (·.type))[i]?=some f.type:=by rw[List.getElem?_map,Array.getElem?_toList,hi];rfl
 have h2:(xs.map (·.1))[i]?=some xs[i].1:=by rw[List.getElem?_map,List.getElem?_eq_getElem qb];rfl
 have:=DataW.weights_mem_each h1 h2 m hm
 simpa [DataW.weights,ht] using this
theorem mh {e:TypeId}:∀{l:List (DataW H)} {d:DataW H} {n:Nat},d∈l→n∈d.weights P e→n∈DataW.weightsAll P e l
 |a::r,d,n,hd,hn=>by
  rw[DataW.weightsAll,List.mem_append]
  rcases List.mem_cons.1 hd with rfl|h
  ·exact .inl hn
  ·exact .inr (mh h hn)
theorem tw {t e:TypeId} {cs:List Value} (ht:P.underlying t=some (.slice e)) (he:P.underlying e=some (.int .u8)) (hc:P.cellsOf e=1) (hb:P.bytesOf e=1) (h:CRw br P W t cs):∃A c l,cs=[.slice A (List.length l) c]∧RdB W 0 W.heap.size A c l∧l.length≤140737488351232:=by
 obtain⟨A,c,l,tj,hr⟩:=Ga ht he hc h.cr
 refine⟨A,c,l,tj,hr,?_⟩
 obtain⟨fuel,x,h,hw⟩:=h
 rcases open_slice ht h with⟨E5,_⟩|⟨a,len,cap,m,n,D,Pl,E5,_,hl,hm,hmm,rfl,hx⟩
 ·rw[tj] at E5
  simp only[List.cons.injEq,Value.slice.injEq,and_true] at E5
  omega
 ·rw[tj] at E5
  simp only[List.cons.injEq,Value.slice.injEq,and_true] at E5
  have h1:=hw (((List.range len).map D).length*1+((List.range (m - len)).map fun j=>D (len+j)).length*1) (by simp[DataW.weights,ht,hb])
  have h2:reachBytes=140737488351232:=rfl
  simp only[List.length_map,List.length_range] at h1
  omega
end
end Go.Proofs.YtiighkbehiddkaaGreat
