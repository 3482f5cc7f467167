/-
 The contracts of a connection: Command, Response, Answer, Copy.
 The reference: what a response needs.
 The reference: Write.
 A connection as the laws see it.
-/
import Derived.Test.YtiighkbehiddkaaGreatS09
namespace Go.Proofs.YtiighkbehiddkaaGreat
open Go.RowKit
set_option linter.unusedVariables false
set_option maxRecDepth 4000
theorem Jg:jt Tryz.prog 57 23=true:=by kernel_rfl
theorem I0:aX Tryz.prog 45=true:=by kernel_rfl
theorem RU:aX Tryz.prog 46=true:=by kernel_rfl
theorem RS:aX Tryz.prog 48=true:=by kernel_rfl
theorem RQ:aX Tryz.prog 53=true:=by kernel_rfl
theorem YX:aX Tryz.prog 56=true:=by kernel_rfl
theorem YW:aX Tryz.prog 57=true:=by kernel_rfl
theorem TC:(Tryz.prog.info? 54).map (·.size)=some 1:=by kernel_rfl
theorem TB:(Tryz.prog.info? 55).map (·.size)=some 1:=by kernel_rfl
theorem TA:(Tryz.prog.info? 57).map (·.size)=some 23:=by kernel_rfl
theorem RdI.wide {w:World} {lo hi lo' qb cx:Nat} {X:Option Addr} {xs:List IT} (h:RdI w lo hi X cx xs) (h1:lo'≤lo) (h2:hi≤qb):RdI w lo' qb X cx xs:=⟨h.1.mono h1 h2,fun x hx=>(h.2 x hx).mono h1 h2⟩
/-- A copy of a connection. -/
theorem CnR.cpy {w:World} {g a b:Nat} {s:Cn} {p:CnP} (h:CnR w g a b s p) {g2 gb gd B:Nat} {Db Dd:Option Nat} (hb:Buf w 0 gb Db s.co s.out s.pt s.tk) (hd:Dec w 0 gd Dd s.cp s.cl s.held) (hB:b≤B) (h1:B≤g2) (h2:g2<gb) (h3:gb<gd) (h4:∀x,Db=some x→g2<x∧x<gd) (h5:∀x,Dd=some x→gb<x∧∀y,Db=some y→y<x):
  CnR w g2 a b s ⟨gb,gd,Db,Dd,p.K,p.ck,p.V,p.cv,p.T,p.ct,p.X,p.cx,p.xs,p.N,p.cn,p.A,p.c⟩ where
 buf:=hb
 dec:=hd
 hK:=h.hK
 hV:=h.hV
 hT:=h.hT
 hv:=h.hv
 hx:=h.hx
 hn:=h.hn
 hA:=h.hA
 sep:=fun x hx=>by
  have k1:=hb.lt.1
  have k2:=hd.lt.1
  rcases fk.1 hx with e|e|e|e|e
  ·omega
  ·have e2:x=gb:=e;omega
  ·have e2:x=gd:=e;omega
  ·have q1:=h4 x e;have q2:=(hb.lt.2 x e).2;omega
  ·have q1:=(h5 x e).1;have q2:=(hd.lt.2 x e).2;omega
 hb:=h.hb
 ne1:=by show g2≠gb∧g2≠gd∧gb≠gd;omega
 ne2:=⟨fun e=>by have:=h4 g2 e;omega,hb.ne,fun e=>by have:=h4 gd e;omega⟩
 ne3:=⟨fun e=>by have:=(h5 g2 e).1;omega,fun e=>by have:=(h5 gb e).1;omega,hd.ne⟩
 dd:=fun x e e2=>by have:=(h5 x e2).2 x e;omega
 ok:=h.ok
theorem I8 (w:World) (g a b:Nat) (s:Cn) (gb gd:Nat) (Db Dd:Option Nat) (K:Option Addr) (ck:Nat) (V:Option Addr) (cv:Nat) (T:Option Addr) (ct:Nat) (X:Option Addr) (cx:Nat) (xs:List IT) (N:Option Addr) (cn:Nat) (A:Option Addr) (c:Nat) (aV:Blk w g 57 (vB s (⟨gb,gd,Db,Dd,K,ck,V,cv,T,ct,X,cx,xs,N,cn,A,c⟩:CnP))) (hR:CnR w g a b s (⟨gb,gd,Db,Dd,K,ck,V,cv,T,ct,X,cx,xs,N,cn,A,c⟩:CnP)):
  Fn Tryz.prog 18 #[(.pointer (some ⟨g,0,none⟩))] w (fun v w'=>∃K' ck' V' cv' T' ct',v=.tuple #[.agg (cL (bX s) K' ck' V' cv' T' ct').toArray,.int .i64 (fe s 2:Int)]∧RdS w' w.heap.size w'.heap.size K' ck' (bX s).keys∧RdB w' w.heap.size w'.heap.size V' cv' (bX s).value∧RdS w' w.heap.size w'.heap.size T' ct' (bX s).tags∧Ext w w'):=by
 replace aV:Blk w g 57 [(.pointer (some ⟨gb,0,none⟩)),(.int .i64 (↑s.ci:Int)),(.int .i64 (↑s.co:Int)),(.int .i64 (↑s.cp:Int)),(.pointer (some ⟨gd,0,none⟩)),(.int .i64 (↑s.ph:Int)),(.int .i64 s.cmd.op),(.string (av s.cmd.key)),(.slice K s.cmd.keys.length ck),(.slice V s.cmd.value.length cv),(.slice T s.cmd.tags.length ct),(.int .u64 (↑s.cmd.life:Int)),(.int .u64 (↑s.cmd.ver:Int)),(.string (av s.cmd.tag)),(.string (av s.cmd.pre)),(.string (av s.cmd.child)),(.int .i64 s.ans.op),(.int .i64 s.ans.err),(.slice X s.ans.items.length cx),(.int .u64 (↑s.ans.ver:Int)),(.int .i64 s.ans.count),(.slice N s.ans.nums.length cn),(.slice A s.bs.length c)]:=aV
 have hW:=hR.bnd
 have ep:=hR.ok
 obtain⟨kp1,kp2,ki1,ki2,ko1,khl,kph1,kph4,ksz,kbl,kan,kcb⟩:=id ep
 have hE:=aP w
 refine aO Tryz.func18 ?_
 refine af (aa ?_)
 refine ar (bc fl) ?_
 rintro v w1 ⟨g2,rfl,aq,dk,my,nd⟩
 replace aV:=aV.ext dk
 replace hR:=hR.ext dk
 replace hE:=hE.tr dk
 refine va ?_
 refine ag (ae (af (af (aa ?_))))
 refine vm ?_
 refine ar (aw I0 (u9 _ g a b s gb gd Db Dd K ck V cv T ct X cx xs N cn A c aV hR 2)) ?_
 rintro v w2 ⟨rfl,eS⟩
 replace aV:=aV.ext eS
 replace hR:=hR.ext eS
 replace hE:=hE.tr eS
 replace aq:=aq.ext eS
 have t7:=eS.size
 refine va ?_
 refine ag (ae (af (aa ?_)))
 refine vm ?_
 refine ab (bS) ?_
 refine ag (ae ?_)
 refine aL (fun dM=>?_) (fun dM=>?_)
 ·refine af (aa ?_)
  refine ab (bi fl lf) ?_
  refine vm ?_
  refine aB (aD (vs:=[(.int .i64 0),(.string (av [])),(.slice none 0 0),(.slice none 0 0),(.slice none 0 0),(.int .u64 0),(.int .u64 0),(.string (av [])),(.string (av [])),(.string (av []))]) fy aq) ?_
  rintro _ w3 ⟨rL,lu⟩
  replace hE:=hE.gr lu
  replace aq:=rL
  refine va ?_
  refine ag (ae (aE (az ?_)))
  refine bm (rs:=[.cell 2 39,.tmp 3]) (vs:=[.agg #[(.int .i64 0),(.string (av [])),(.slice none 0 0),(.slice none 0 0),(.slice none 0 0),(.int .u64 0),(.int .u64 0),(.string (av [])),(.string (av [])),(.string (av []))],(.int .i64 (↑(fe s 2):Int))]) rfl ⟨⟨_,_,[(.int .i64 0),(.string (av [])),(.slice none 0 0),(.slice none 0 0),(.slice none 0 0),(.int .u64 0),(.int .u64 0),(.string (av [])),(.string (av [])),(.string (av []))],rfl,cc,aq,rfl⟩,rfl,trivial⟩ ?_
  have mz:fe s 2=8∧¬s.ph=2:=by
   by_cases q:s.ph=2
   ·exact absurd (by rw[show fe s 2=0 from if_pos q];rfl) dM
   ·exact⟨if_neg q,q⟩
  rw[mz.1,show bX s=cmd0 0 from if_neg mz.2]
  exact⟨none,0,none,0,none,0,rfl,(Rd.nil _ _ _ _ _ _ (Nat.zero_le _)),(Rd.nil _ _ _ _ _ _ (Nat.zero_le _)),(Rd.nil _ _ _ _ _ _ (Nat.zero_le _)),hE⟩
 ·refine aS (ae (af (aa ?_)))
  refine vm ?_
  refine vn ?_
  refine ab (ah uY) ?_
  refine ab (gp (vs:=[(.int .i64 s.cmd.op),(.string (av s.cmd.key)),(.slice K s.cmd.keys.length ck),(.slice V s.cmd.value.length cv),(.slice T s.cmd.tags.length ct),(.int .u64 (↑s.cmd.life:Int)),(.int .u64 (↑s.cmd.ver:Int)),(.string (av s.cmd.tag)),(.string (av s.cmd.pre)),(.string (av s.cmd.child))]) cc rfl aV rfl) ?_
  refine ar (bc fl) ?_
  rintro v w203 ⟨g5,rfl,bu,f0,Am,GJ⟩
  replace hR:=hR.ext f0
  replace hE:=hE.tr f0
  replace aq:=aq.ext f0
  refine aB (aD (vs:=[(.int .i64 s.cmd.op),(.string (av s.cmd.key)),(.slice K s.cmd.keys.length ck),(.slice V s.cmd.value.length cv),(.slice T s.cmd.tags.length ct),(.int .u64 (↑s.cmd.life:Int)),(.int .u64 (↑s.cmd.ver:Int)),(.string (av s.cmd.tag)),(.string (av s.cmd.pre)),(.string (av s.cmd.child))]) fy bu) ?_
  rintro _ w204 ⟨dR,bM⟩
  have D6:=bM.size
  replace hR:=by first|exact hR.grg bM|exact hR.grf bM hW (by omega)
  replace hE:=hE.gr bM
  replace aq:=aq.gr bM
  replace bu:=dR
  refine ag (ae (af ?_))
  refine fD 10 [(16,a0 (.pointer (some ⟨g5,2,none⟩))),(17,a0 (.slice K s.cmd.keys.length ck)),(18,(fun v wz=>∃A c,v=.slice A s.cmd.keys.length c∧Own wz w204.heap.size 9 1 A s.cmd.keys.length c (s.cmd.keys.flatMap gO))),(19,a0 (.pointer (some ⟨g5,4,none⟩))),(20,a0 (.slice T s.cmd.tags.length ct)),(21,(fun v wz=>∃A c,v=.slice A s.cmd.tags.length c∧Own wz w204.heap.size 9 1 A s.cmd.tags.length c (s.cmd.tags.flatMap gO))),(22,a0 (.pointer (some ⟨g5,3,none⟩))),(23,a0 (.slice V s.cmd.value.length cv)),(24,iP w204.heap.size 5 s.cmd.value),(25,a0 (.pointer (some ⟨g5,2,none⟩)))] [[],[0],[1],[],[3],[4],[],[6],[7],[]] _ [] [] ⟨sE,sE,⟨(fun v w w' ⟨A,c,hv,ho⟩ he=>⟨A,c,hv,Own.ext ho he⟩),fun _ he=>by cases he⟩,sE,sE,⟨(fun v w w' ⟨A,c,hv,ho⟩ he=>⟨A,c,hv,Own.ext ho he⟩),fun _ he=>by cases he⟩,sE,sE,⟨fp _ _ _,fun _ he=>by cases he⟩,sE,trivial⟩ ?_ ?_
  ·repeat' apply And.intro
   all_goals first|exact trivial|(intro wd bW;replace bu:=bu.ext bW;replace hR:=hR.ext bW;have dK:=bW.size;(repeat rintro _ rfl))
   exact am (ax (ah jH))
   exact am (ax (ak jy bu))
   ·refine am (OpRun.mono (aw RU (pU _ _ _ K ck s.cmd.keys hR.hK (by omega))) ?_)
    rintro v w205 ⟨A18,c18,rfl,kx,kZ⟩
    exact⟨⟨A18,c18,rfl,Own.mono kx (by omega)⟩,kZ⟩
   exact am (ax (ah iX))
   exact am (ax (ak jy bu))
   ·refine am (OpRun.mono (aw RU (pU _ _ _ T ct s.cmd.tags hR.hT (by omega))) ?_)
    rintro v w205 ⟨A21,c21,rfl,kw,pA⟩
    exact⟨⟨A21,c21,rfl,Own.mono kw (by omega)⟩,pA⟩
   exact am (ax (ah k9))
   exact am (ax (ak dc bu))
   ·refine am (OpRun.mono (aw CI (hY _ _ _ V cv s.cmd.value hR.hV)) ?_)
    rintro v w205 ⟨A24,c24,rfl,lh,Wy⟩
    exact⟨⟨A24,c24,rfl,Own.mono lh (by omega)⟩,Wy⟩
   exact am (ax (ah jH))
  ·intro wf5 px
   replace hE:=hE.tr px
   replace aq:=aq.ext px
   replace bu:=bu.ext px
   iterate 2 rintro _ rfl
   rintro _ ⟨A18,c18,rfl,kx⟩
   iterate 2 rintro _ rfl
   rintro _ ⟨A21,c21,rfl,kw⟩
   iterate 2 rintro _ rfl
   rintro _ ⟨A24,c24,rfl,lh⟩
   rintro _ rfl
   have qm:=fun g e=>Own.lt kx (g:=g) e
   have ql:=fun g e=>Own.lt kw (g:=g) e
   have qk:=fun g e=>Own.lt lh (g:=g) e
   refine aB (aU vN bu) ?_
   rintro _ w205 ⟨cy,ba⟩
   replace hE:=hE.gr ba
   replace aq:=aq.gr ba
   replace kx:=Own.gr kx ba (by first|exact .inl rfl|(right;intro e;first|(have:=qm _ e;omega)|(have:=Own.lt kx e;omega)|exact aT kx bu (by decide) e))
   replace kw:=Own.gr kw ba (by first|exact .inl rfl|(right;intro e;first|(have:=ql _ e;omega)|(have:=Own.lt kw e;omega)|exact aT kw bu (by decide) e))
   replace lh:=Own.gr lh ba (by first|exact .inl rfl|(right;intro e;first|(have:=qk _ e;omega)|(have:=Own.lt lh e;omega)|exact aT lh bu (by decide) e))
   replace bu:=cy
   refine ab (ah iX) ?_
   refine aB (aU vN bu) ?_
   rintro _ w206 ⟨dm,b7⟩
   replace hE:=hE.gr b7
   replace aq:=aq.gr b7
   replace kx:=Own.gr kx b7 (by first|exact .inl rfl|(right;intro e;first|(have:=qm _ e;omega)|(have:=Own.lt kx e;omega)|exact aT kx bu (by decide) e))
   replace kw:=Own.gr kw b7 (by first|exact .inl rfl|(right;intro e;first|(have:=ql _ e;omega)|(have:=Own.lt kw e;omega)|exact aT kw bu (by decide) e))
   replace lh:=Own.gr lh b7 (by first|exact .inl rfl|(right;intro e;first|(have:=qk _ e;omega)|(have:=Own.lt lh e;omega)|exact aT lh bu (by decide) e))
   replace bu:=dm
   refine ab (ah k9) ?_
   refine aB (aU gV bu) ?_
   rintro _ w207 ⟨iz,et⟩
   replace hE:=hE.gr et
   replace aq:=aq.gr et
   replace kx:=Own.gr kx et (by first|exact .inl rfl|(right;intro e;first|(have:=qm _ e;omega)|(have:=Own.lt kx e;omega)|exact aT kx bu (by decide) e))
   replace kw:=Own.gr kw et (by first|exact .inl rfl|(right;intro e;first|(have:=ql _ e;omega)|(have:=Own.lt kw e;omega)|exact aT kw bu (by decide) e))
   replace lh:=Own.gr lh et (by first|exact .inl rfl|(right;intro e;first|(have:=qk _ e;omega)|(have:=Own.lt lh e;omega)|exact aT lh bu (by decide) e))
   replace bu:=iz
   refine ag (ae (af (aa ?_)))
   refine ab (aK (cs:=[(.int .i64 s.cmd.op),(.string (av s.cmd.key)),(.slice A18 s.cmd.keys.length c18),(.slice A24 s.cmd.value.length c24),(.slice A21 s.cmd.tags.length c21),(.int .u64 (↑s.cmd.life:Int)),(.int .u64 (↑s.cmd.ver:Int)),(.string (av s.cmd.tag)),(.string (av s.cmd.pre)),(.string (av s.cmd.child))]) cc bu) ?_
   refine aB (aD (vs:=[(.int .i64 s.cmd.op),(.string (av s.cmd.key)),(.slice A18 s.cmd.keys.length c18),(.slice A24 s.cmd.value.length c24),(.slice A21 s.cmd.tags.length c21),(.int .u64 (↑s.cmd.life:Int)),(.int .u64 (↑s.cmd.ver:Int)),(.string (av s.cmd.tag)),(.string (av s.cmd.pre)),(.string (av s.cmd.child))]) fy aq) ?_
   rintro _ w208 ⟨iy,de⟩
   replace hE:=hE.gr de
   replace kx:=Own.gr kx de (by first|exact .inl rfl|(right;intro e;first|(have:=qm _ e;omega)|(have:=Own.lt kx e;omega)|exact aT kx aq (by decide) e))
   replace kw:=Own.gr kw de (by first|exact .inl rfl|(right;intro e;first|(have:=ql _ e;omega)|(have:=Own.lt kw e;omega)|exact aT kw aq (by decide) e))
   replace lh:=Own.gr lh de (by first|exact .inl rfl|(right;intro e;first|(have:=qk _ e;omega)|(have:=Own.lt lh e;omega)|exact aT lh aq (by decide) e))
   replace aq:=iy
   refine va ?_
   refine ag (ae (aE ?_))
   refine bm (rs:=[.cell 2 39,.tmp 3]) (vs:=[.agg #[(.int .i64 s.cmd.op),(.string (av s.cmd.key)),(.slice A18 s.cmd.keys.length c18),(.slice A24 s.cmd.value.length c24),(.slice A21 s.cmd.tags.length c21),(.int .u64 (↑s.cmd.life:Int)),(.int .u64 (↑s.cmd.ver:Int)),(.string (av s.cmd.tag)),(.string (av s.cmd.pre)),(.string (av s.cmd.child))],(.int .i64 0)]) rfl ⟨⟨_,_,[(.int .i64 s.cmd.op),(.string (av s.cmd.key)),(.slice A18 s.cmd.keys.length c18),(.slice A24 s.cmd.value.length c24),(.slice A21 s.cmd.tags.length c21),(.int .u64 (↑s.cmd.life:Int)),(.int .u64 (↑s.cmd.ver:Int)),(.string (av s.cmd.tag)),(.string (av s.cmd.pre)),(.string (av s.cmd.child))],rfl,cc,aq,rfl⟩,rfl,trivial⟩ ?_
   have mz:fe s 2=0∧s.ph=2:=by
    by_cases q:s.ph=2
    ·exact⟨if_pos q,q⟩
    ·exact absurd (show(((fe s 2:Nat):Int)≠0) by rw[show fe s 2=8 from if_neg q];decide) dM
   rw[mz.1,show bX s=s.cmd from if_pos mz.2]
   exact⟨A18,c18,A24,c24,A21,c21,rfl,((Own.rd kx).mono (by omega) (Nat.le_refl _)),((OwnB.rd lh).mono (by omega) (Nat.le_refl _)),((Own.rd kw).mono (by omega) (Nat.le_refl _)),hE⟩
theorem IU (w:World) (g a b:Nat) (s:Cn) (gb gd:Nat) (Db Dd:Option Nat) (K:Option Addr) (ck:Nat) (V:Option Addr) (cv:Nat) (T:Option Addr) (ct:Nat) (X:Option Addr) (cx:Nat) (xs:List IT) (N:Option Addr) (cn:Nat) (A:Option Addr) (c:Nat) (aV:Blk w g 57 (vB s (⟨gb,gd,Db,Dd,K,ck,V,cv,T,ct,X,cx,xs,N,cn,A,c⟩:CnP))) (hR:CnR w g a b s (⟨gb,gd,Db,Dd,K,ck,V,cv,T,ct,X,cx,xs,N,cn,A,c⟩:CnP)):
  Fn Tryz.prog 19 #[(.pointer (some ⟨g,0,none⟩))] w (fun v w'=>∃X' cx' N' cn' xs',v=.tuple #[.agg (b9 (dp s) X' cx' N' cn').toArray,.int .i64 (fe s 3:Int)]∧vals xs'=(dp s).items∧RdI w' w.heap.size w'.heap.size X' cx' xs'∧RdN w' w.heap.size w'.heap.size N' cn' (dp s).nums∧Ext w w'):=by
 replace aV:Blk w g 57 [(.pointer (some ⟨gb,0,none⟩)),(.int .i64 (↑s.ci:Int)),(.int .i64 (↑s.co:Int)),(.int .i64 (↑s.cp:Int)),(.pointer (some ⟨gd,0,none⟩)),(.int .i64 (↑s.ph:Int)),(.int .i64 s.cmd.op),(.string (av s.cmd.key)),(.slice K s.cmd.keys.length ck),(.slice V s.cmd.value.length cv),(.slice T s.cmd.tags.length ct),(.int .u64 (↑s.cmd.life:Int)),(.int .u64 (↑s.cmd.ver:Int)),(.string (av s.cmd.tag)),(.string (av s.cmd.pre)),(.string (av s.cmd.child)),(.int .i64 s.ans.op),(.int .i64 s.ans.err),(.slice X s.ans.items.length cx),(.int .u64 (↑s.ans.ver:Int)),(.int .i64 s.ans.count),(.slice N s.ans.nums.length cn),(.slice A s.bs.length c)]:=aV
 have ep:=hR.ok
 obtain⟨kp1,kp2,ki1,ki2,ko1,khl,kph1,kph4,ksz,kbl,kan,kcb⟩:=id ep
 have hE:=aP w
 refine aO Tryz.func19 ?_
 refine af (aa ?_)
 refine ar (bc fQ) ?_
 rintro v w1 ⟨g2,rfl,aq,dk,my,nd⟩
 replace aV:=aV.ext dk
 replace hR:=hR.ext dk
 replace hE:=hE.tr dk
 refine va ?_
 refine ag (ae (af (af (aa ?_))))
 refine vm ?_
 refine ar (aw I0 (u9 _ g a b s gb gd Db Dd K ck V cv T ct X cx xs N cn A c aV hR 3)) ?_
 rintro v w2 ⟨rfl,lm⟩
 replace aV:=aV.ext lm
 replace hR:=hR.ext lm
 replace hE:=hE.tr lm
 replace aq:=aq.ext lm
 have Ea:=lm.size
 refine va ?_
 refine ag (ae (af (aa ?_)))
 refine vm ?_
 refine ab (bS) ?_
 refine ag (ae ?_)
 refine aL (fun dM=>?_) (fun dM=>?_)
 ·refine af (aa ?_)
  refine ab (bi fQ j6) ?_
  refine vm ?_
  refine aB (aD (vs:=[(.int .i64 0),(.int .i64 0),(.slice none 0 0),(.int .u64 0),(.int .i64 0),(.slice none 0 0)]) fm aq) ?_
  rintro _ w3 ⟨rL,lu⟩
  replace hE:=hE.gr lu
  replace aq:=rL
  refine va ?_
  refine ag (ae (aE (az ?_)))
  refine bm (rs:=[.cell 2 43,.tmp 3]) (vs:=[.agg #[(.int .i64 0),(.int .i64 0),(.slice none 0 0),(.int .u64 0),(.int .i64 0),(.slice none 0 0)],(.int .i64 (↑(fe s 3):Int))]) rfl ⟨⟨_,_,[(.int .i64 0),(.int .i64 0),(.slice none 0 0),(.int .u64 0),(.int .i64 0),(.slice none 0 0)],rfl,bZ,aq,rfl⟩,rfl,trivial⟩ ?_
  have mz:fe s 3=8∧¬s.ph=3:=by
   by_cases q:s.ph=3
   ·exact absurd (by rw[show fe s 3=0 from if_pos q];rfl) dM
   ·exact⟨if_neg q,q⟩
  rw[mz.1,show dp s=rspO 0 0 from if_neg mz.2]
  exact⟨none,0,none,0,[],rfl,rfl,RdI.nil _ _ _,(Rd.nil _ _ _ _ _ _ (Nat.zero_le _)),hE⟩
 ·refine aS (ae (af (aa ?_)))
  refine vm ?_
  refine vn ?_
  refine ab (ah (off:=16) zb) ?_
  refine ab (gp (vs:=[(.int .i64 s.ans.op),(.int .i64 s.ans.err),(.slice X s.ans.items.length cx),(.int .u64 (↑s.ans.ver:Int)),(.int .i64 s.ans.count),(.slice N s.ans.nums.length cn)]) bZ rfl aV rfl) ?_
  refine ar (aw RS (xF _ s.ans xs hR.hv _ _ X cx N cn hR.hx hR.hn ksz)) ?_
  rintro v w203 ⟨ys15,X15,cx15,N15,cn15,rfl,jn,jm⟩
  replace hE:=hE.tr jm
  replace aq:=aq.ext jm
  have KO:=jn.hx
  have LL:=Own.rd jn.n
  refine aB (aD (vs:=[(.int .i64 s.ans.op),(.int .i64 s.ans.err),(.slice X15 s.ans.items.length cx15),(.int .u64 (↑s.ans.ver:Int)),(.int .i64 s.ans.count),(.slice N15 s.ans.nums.length cn15)]) fm aq) ?_
  rintro _ w204 ⟨dR,bM⟩
  replace hE:=hE.gr bM
  replace KO:=RdI.gr KO bM (fun _ e=>by cases e;omega)
  replace LL:=LL.gr bM
  replace aq:=dR
  refine va ?_
  refine ag (ae (aE ?_))
  refine bm (rs:=[.cell 2 43,.tmp 3]) (vs:=[.agg #[(.int .i64 s.ans.op),(.int .i64 s.ans.err),(.slice X15 s.ans.items.length cx15),(.int .u64 (↑s.ans.ver:Int)),(.int .i64 s.ans.count),(.slice N15 s.ans.nums.length cn15)],(.int .i64 0)]) rfl ⟨⟨_,_,[(.int .i64 s.ans.op),(.int .i64 s.ans.err),(.slice X15 s.ans.items.length cx15),(.int .u64 (↑s.ans.ver:Int)),(.int .i64 s.ans.count),(.slice N15 s.ans.nums.length cn15)],rfl,bZ,aq,rfl⟩,rfl,trivial⟩ ?_
  have mz:fe s 3=0∧s.ph=3:=by
   by_cases q:s.ph=3
   ·exact⟨if_pos q,q⟩
   ·exact absurd (show(((fe s 3:Nat):Int)≠0) by rw[show fe s 3=8 from if_neg q];decide) dM
  rw[mz.1,show dp s=s.ans from if_pos mz.2]
  exact⟨X15,cx15,N15,cn15,ys15,rfl,jn.v,(RdI.top KO).wide (by omega) (Nat.le_refl _),(Rd.top LL).mono (by omega) (Nat.le_refl _),hE⟩
theorem Gv (w:World) (g a b:Nat) (s:Cn) (gb gd:Nat) (Db Dd:Option Nat) (K:Option Addr) (ck:Nat) (V:Option Addr) (cv:Nat) (T:Option Addr) (ct:Nat) (X:Option Addr) (cx:Nat) (xs:List IT) (N:Option Addr) (cn:Nat) (A:Option Addr) (c:Nat) (aV:Blk w g 57 (vB s (⟨gb,gd,Db,Dd,K,ck,V,cv,T,ct,X,cx,xs,N,cn,A,c⟩:CnP))) (hR:CnR w g a b s (⟨gb,gd,Db,Dd,K,ck,V,cv,T,ct,X,cx,xs,N,cn,A,c⟩:CnP)) (r:Rsp) (xs9:List IT) (sg:vals xs9=r.items) (lo9 lM:Nat) (X9:Option Addr) (cx9:Nat) (N9:Option Addr) (cn9:Nat) (ju:RdI w lo9 lM X9 cx9 xs9) (i6:RdN w lo9 lM N9 cn9 r.nums) (pp:RspOk r) (ug:rsz r≤4398046511104) (NM:¬(mf r).2=0):
  Fn Tryz.prog 24 #[(.pointer (some ⟨g,0,none⟩)),(.agg #[(.int .i64 r.op),(.int .i64 r.err),(.slice X9 r.items.length cx9),(.int .u64 (↑r.ver:Int)),(.int .i64 r.count),(.slice N9 r.nums.length cn9)])] w (fun v w'=>v=.int .i64 ((dG s r).2:Int)∧CnTo w w' g (cnS g (⟨gb,gd,Db,Dd,K,ck,V,cv,T,ct,X,cx,xs,N,cn,A,c⟩:CnP)) a b (dG s r).1):=by
 replace aV:Blk w g 57 [(.pointer (some ⟨gb,0,none⟩)),(.int .i64 (↑s.ci:Int)),(.int .i64 (↑s.co:Int)),(.int .i64 (↑s.cp:Int)),(.pointer (some ⟨gd,0,none⟩)),(.int .i64 (↑s.ph:Int)),(.int .i64 s.cmd.op),(.string (av s.cmd.key)),(.slice K s.cmd.keys.length ck),(.slice V s.cmd.value.length cv),(.slice T s.cmd.tags.length ct),(.int .u64 (↑s.cmd.life:Int)),(.int .u64 (↑s.cmd.ver:Int)),(.string (av s.cmd.tag)),(.string (av s.cmd.pre)),(.string (av s.cmd.child)),(.int .i64 s.ans.op),(.int .i64 s.ans.err),(.slice X s.ans.items.length cx),(.int .u64 (↑s.ans.ver:Int)),(.int .i64 s.ans.count),(.slice N s.ans.nums.length cn),(.slice A s.bs.length c)]:=aV
 have ep:=hR.ok
 obtain⟨kp1,kp2,ki1,ki2,ko1,khl,kph1,kph4,ksz,kbl,kan,kcb⟩:=id ep
 have eq:=Kp.refl (cnS g (⟨gb,gd,Db,Dd,K,ck,V,cv,T,ct,X,cx,xs,N,cn,A,c⟩:CnP)) w
 refine aO Tryz.func24 ?_
 refine af (aa ?_)
 refine ar (bU) ?_
 rintro v w1 ⟨g3,rfl,aM,d7,sy,su⟩
 replace aV:=aV.ext d7
 replace hR:=hR.ext d7
 replace eq:=Kp.te eq d7
 replace ju:=RdI.ext ju d7
 replace i6:=i6.ext d7
 refine va ?_
 refine ag (ae (af (af (aa ?_))))
 refine vm ?_
 refine ar (aw I0 (u9 _ g a b s gb gd Db Dd K ck V cv T ct X cx xs N cn A c aV hR 2)) ?_
 rintro v w2 ⟨rfl,eS⟩
 replace aV:=aV.ext eS
 replace hR:=hR.ext eS
 replace eq:=Kp.te eq eS
 replace ju:=RdI.ext ju eS
 replace i6:=i6.ext eS
 replace aM:=aM.ext eS
 refine va ?_
 refine ag (ae (af (aa ?_)))
 refine vm ?_
 refine ab (bS) ?_
 refine ag (ae ?_)
 refine aL (fun dM=>?_) (fun dM=>?_)
 ·refine af (aa ?_)
  refine vm ?_
  refine va ?_
  refine ag (ae (aE (az ?_)))
  refine aY ?_
  have mz:fe s 2=8∧¬s.ph=2:=by
   by_cases q:s.ph=2
   ·exact absurd (by rw[show fe s 2=0 from if_pos q];rfl) dM
   ·exact⟨if_neg q,q⟩
  have e:dG s r=(s,8):=if_pos mz.2
  rw[e,mz.1]
  exact⟨rfl,CnTo.of (⟨gb,gd,Db,Dd,K,ck,V,cv,T,ct,X,cx,xs,N,cn,A,c⟩:CnP) (⟨gb,gd,Db,Dd,K,ck,V,cv,T,ct,X,cx,xs,N,cn,A,c⟩:CnP) aV hR eq (fun x h=>.inl h) (.inl ⟨rfl,rfl⟩)⟩
 ·refine aS (ae (af (af ?_)))
  refine cC ej 11 [(11,a0 (.agg #[(.int .i64 r.op),(.int .i64 r.err),(.slice X9 r.items.length cx9),(.int .u64 (↑r.ver:Int)),(.int .i64 r.count),(.slice N9 r.nums.length cn9)])),(12,a0 (.bool false)),(13,a0 (.bool true)),(14,a0 (.bool true)),(15,a0 undef),(16,a0 undef),(17,a0 undef),(18,a0 undef),(19,a0 undef),(20,a0 undef),(21,a0 undef)] [[],[0],[1],[2],[3],[3,4],[3],[3,6],[3,7],[3,8],[3,9]] _ [] [] (fun _ _ h=>h) trivial (by kernel_rfl) rfl ?_ ?_
  ·repeat' apply And.intro
   all_goals first|exact trivial|(intro wd bW;replace aM:=aM.ext bW;replace ju:=RdI.ext ju bW;replace i6:=i6.ext bW;(repeat rintro _ rfl))
   exact am (ax (aK bZ aM))
   ·refine am (OpRun.mono (aw RQ (zy _ r xs9 sg _ _ X9 cx9 N9 cn9 ju i6 pp ug)) ?_)
    rintro v w203 ⟨rfl,eK⟩
    exact⟨bf (NM),eK⟩
   exact am (ax (b6 (b:=false)))
   exact am (ax (aF))
   iterate 7 exact eF ⟨rfl,aP _⟩
  ·intro wf4 ll
   replace aV:=aV.ext ll
   replace hR:=hR.ext ll
   replace eq:=Kp.te eq ll
   iterate 11 rintro _ rfl
   refine aA ?_
   refine ab (ay) ?_
   refine ag (ae ?_)
   refine aR ?_
   refine af (aa ?_)
   refine va ?_
   refine ag (ae (aE (az ?_)))
   refine aY ?_
   have mz:fe s 2=0∧s.ph=2:=by
    by_cases q:s.ph=2
    ·exact⟨if_pos q,q⟩
    ·exact absurd (show(((fe s 2:Nat):Int)≠0) by rw[show fe s 2=8 from if_neg q];decide) dM
   have e:dG s r=(s,2):=(if_neg (fun q=>q mz.2)).trans (if_pos (.inl NM))
   rw[e]
   exact⟨rfl,CnTo.of (⟨gb,gd,Db,Dd,K,ck,V,cv,T,ct,X,cx,xs,N,cn,A,c⟩:CnP) (⟨gb,gd,Db,Dd,K,ck,V,cv,T,ct,X,cx,xs,N,cn,A,c⟩:CnP) aV hR eq (fun x h=>.inl h) (.inl ⟨rfl,rfl⟩)⟩
theorem Gu (w:World) (g a b:Nat) (s:Cn) (gb gd:Nat) (Db Dd:Option Nat) (K:Option Addr) (ck:Nat) (V:Option Addr) (cv:Nat) (T:Option Addr) (ct:Nat) (X:Option Addr) (cx:Nat) (xs:List IT) (N:Option Addr) (cn:Nat) (A:Option Addr) (c:Nat) (aV:Blk w g 57 (vB s (⟨gb,gd,Db,Dd,K,ck,V,cv,T,ct,X,cx,xs,N,cn,A,c⟩:CnP))) (hR:CnR w g a b s (⟨gb,gd,Db,Dd,K,ck,V,cv,T,ct,X,cx,xs,N,cn,A,c⟩:CnP)) (r:Rsp) (xs9:List IT) (sg:vals xs9=r.items) (lo9 lM:Nat) (X9:Option Addr) (cx9:Nat) (N9:Option Addr) (cn9:Nat) (ju:RdI w lo9 lM X9 cx9 xs9) (i6:RdN w lo9 lM N9 cn9 r.nums) (pp:RspOk r) (ug:rsz r≤4398046511104) (NM:(mf r).2=0):
  Fn Tryz.prog 24 #[(.pointer (some ⟨g,0,none⟩)),(.agg #[(.int .i64 r.op),(.int .i64 r.err),(.slice X9 r.items.length cx9),(.int .u64 (↑r.ver:Int)),(.int .i64 r.count),(.slice N9 r.nums.length cn9)])] w (fun v w'=>v=.int .i64 ((dG s r).2:Int)∧CnTo w w' g (cnS g (⟨gb,gd,Db,Dd,K,ck,V,cv,T,ct,X,cx,xs,N,cn,A,c⟩:CnP)) a b (dG s r).1):=by
 replace aV:Blk w g 57 [(.pointer (some ⟨gb,0,none⟩)),(.int .i64 (↑s.ci:Int)),(.int .i64 (↑s.co:Int)),(.int .i64 (↑s.cp:Int)),(.pointer (some ⟨gd,0,none⟩)),(.int .i64 (↑s.ph:Int)),(.int .i64 s.cmd.op),(.string (av s.cmd.key)),(.slice K s.cmd.keys.length ck),(.slice V s.cmd.value.length cv),(.slice T s.cmd.tags.length ct),(.int .u64 (↑s.cmd.life:Int)),(.int .u64 (↑s.cmd.ver:Int)),(.string (av s.cmd.tag)),(.string (av s.cmd.pre)),(.string (av s.cmd.child)),(.int .i64 s.ans.op),(.int .i64 s.ans.err),(.slice X s.ans.items.length cx),(.int .u64 (↑s.ans.ver:Int)),(.int .i64 s.ans.count),(.slice N s.ans.nums.length cn),(.slice A s.bs.length c)]:=aV
 have hW:=hR.bnd
 have ep:=hR.ok
 obtain⟨kp1,kp2,ki1,ki2,ko1,khl,kph1,kph4,ksz,kbl,kan,kcb⟩:=id ep
 have eq:=Kp.refl (cnS g (⟨gb,gd,Db,Dd,K,ck,V,cv,T,ct,X,cx,xs,N,cn,A,c⟩:CnP)) w
 refine aO Tryz.func24 ?_
 refine af (aa ?_)
 refine ar (bU) ?_
 rintro v w1 ⟨g3,rfl,aM,d7,sy,su⟩
 replace aV:=aV.ext d7
 replace hR:=hR.ext d7
 replace eq:=Kp.te eq d7
 replace ju:=RdI.ext ju d7
 replace i6:=i6.ext d7
 refine va ?_
 refine ag (ae (af (af (aa ?_))))
 refine vm ?_
 refine ar (aw I0 (u9 _ g a b s gb gd Db Dd K ck V cv T ct X cx xs N cn A c aV hR 2)) ?_
 rintro v w2 ⟨rfl,eS⟩
 replace aV:=aV.ext eS
 replace hR:=hR.ext eS
 replace eq:=Kp.te eq eS
 replace ju:=RdI.ext ju eS
 replace i6:=i6.ext eS
 replace aM:=aM.ext eS
 have t7:=eS.size
 refine va ?_
 refine ag (ae (af (aa ?_)))
 refine vm ?_
 refine ab (bS) ?_
 refine ag (ae ?_)
 refine aL (fun dM=>?_) (fun dM=>?_)
 ·refine af (aa ?_)
  refine vm ?_
  refine va ?_
  refine ag (ae (aE (az ?_)))
  refine aY ?_
  have mz:fe s 2=8∧¬s.ph=2:=by
   by_cases q:s.ph=2
   ·exact absurd (by rw[show fe s 2=0 from if_pos q];rfl) dM
   ·exact⟨if_neg q,q⟩
  have e:dG s r=(s,8):=if_pos mz.2
  rw[e,mz.1]
  exact⟨rfl,CnTo.of (⟨gb,gd,Db,Dd,K,ck,V,cv,T,ct,X,cx,xs,N,cn,A,c⟩:CnP) (⟨gb,gd,Db,Dd,K,ck,V,cv,T,ct,X,cx,xs,N,cn,A,c⟩:CnP) aV hR eq (fun x h=>.inl h) (.inl ⟨rfl,rfl⟩)⟩
 ·refine aS (ae (af (af ?_)))
  refine cC ej 11 [(11,a0 (.agg #[(.int .i64 r.op),(.int .i64 r.err),(.slice X9 r.items.length cx9),(.int .u64 (↑r.ver:Int)),(.int .i64 r.count),(.slice N9 r.nums.length cn9)])),(12,a0 (.bool true)),(13,a0 (.bool false)),(14,a0 (.bool false)),(15,a0 (.pointer (some ⟨g3,0,none⟩))),(16,a0 (.int .i64 r.op)),(17,a0 (.pointer (some ⟨g,0,none⟩))),(18,a0 (.pointer (some ⟨g,0,none⟩))),(19,a0 (.pointer (some ⟨g,6,none⟩))),(20,a0 (.pointer (some ⟨g,6,none⟩))),(21,a0 (.int .i64 s.cmd.op))] [[],[0],[1],[2],[3],[3,4],[3],[3,6],[3,7],[3,8],[3,9]] _ [] [] (fun _ _ h=>h) trivial (by kernel_rfl) rfl ?_ ?_
  ·repeat' apply And.intro
   all_goals first|exact trivial|(intro wd bW;replace aM:=aM.ext bW;replace ju:=RdI.ext ju bW;replace i6:=i6.ext bW;replace aV:=aV.ext bW;(repeat rintro _ rfl))
   exact am (ax (aK bZ aM))
   ·refine am (OpRun.mono (aw RQ (zy _ r xs9 sg _ _ X9 cx9 N9 cn9 ju i6 pp ug)) ?_)
    rintro v w203 ⟨rfl,eK⟩
    exact⟨bt (NM),eK⟩
   exact am (ax (b6 (b:=true)))
   exact am (ax (aF))
   exact bn (ax (ah cj))
   exact bn (ax (ak cO aM))
   exact bn (ax (aF))
   exact bn (ax (bD))
   exact bn (ax (ah uY))
   exact bn (ax (ah dA))
   exact bn (ax (ak cO aV))
  ·intro wf4 ll
   replace aV:=aV.ext ll
   replace hR:=hR.ext ll
   replace eq:=Kp.te eq ll
   replace ju:=RdI.ext ju ll
   replace i6:=i6.ext ll
   replace aM:=aM.ext ll
   have yD:=ll.size
   iterate 11 rintro _ rfl
   refine aj (bS) ?_
   refine ab (ap) ?_
   refine ag (ae ?_)
   refine aL (fun eN=>?_) (fun eN=>?_)
   ·refine af (aa ?_)
    refine va ?_
    refine ag (ae (aE (az ?_)))
    refine aY ?_
    have mz:fe s 2=0∧s.ph=2:=by
     by_cases q:s.ph=2
     ·exact⟨if_pos q,q⟩
     ·exact absurd (show(((fe s 2:Nat):Int)≠0) by rw[show fe s 2=8 from if_neg q];decide) dM
    have e:dG s r=(s,2):=(if_neg (fun q=>q mz.2)).trans (if_pos (.inr (by omega)))
    rw[e]
    exact⟨rfl,CnTo.of (⟨gb,gd,Db,Dd,K,ck,V,cv,T,ct,X,cx,xs,N,cn,A,c⟩:CnP) (⟨gb,gd,Db,Dd,K,ck,V,cv,T,ct,X,cx,xs,N,cn,A,c⟩:CnP) aV hR eq (fun x h=>.inl h) (.inl ⟨rfl,rfl⟩)⟩
   ·refine aS (ae (af (aa ?_)))
    refine vm ?_
    refine ab (aK (cs:=[(.int .i64 r.op),(.int .i64 r.err),(.slice X9 r.items.length cx9),(.int .u64 (↑r.ver:Int)),(.int .i64 r.count),(.slice N9 r.nums.length cn9)]) bZ aM) ?_
    refine ar (aw RS (xF _ r xs9 sg _ _ X9 cx9 N9 cn9 ju i6 ug)) ?_
    rintro v w203 ⟨ys26,X26,cx26,N26,cn26,rfl,E8,uD⟩
    replace aV:=aV.ext uD
    replace hR:=hR.ext uD
    replace eq:=Kp.te eq uD
    replace aM:=aM.ext uD
    have S7:=uD.size
    have wN:=E8.hx
    have VG:=Own.rd E8.n
    have hW0:=hW
    refine ar (aw IY (nl _ g a b s gb gd Db Dd K ck V cv T ct X cx xs N cn A c aV hR r ys26 E8.v _ _ X26 cx26 N26 cn26 wN pp ug (fun x hx=>Nat.lt_of_lt_of_le (hW.1 x hx) (by omega)) (i6:=VG) (NQ:=by omega) (hh9:=by omega))) ?_
    rintro v w204 ⟨rfl,A27,c27,Mo,XF,LU⟩
    have hz27:=LU.size
    replace eq:=eq.tr LU (fun x hx=>.inl hx)
    replace aV:Blk w204 g 57 [(.pointer (some ⟨gb,0,none⟩)),(.int .i64 (↑s.ci:Int)),(.int .i64 (↑s.co:Int)),(.int .i64 (↑s.cp:Int)),(.pointer (some ⟨gd,0,none⟩)),(.int .i64 3),(.int .i64 0),(.string (av ([]:List UInt8))),(.slice none 0 0),(.slice none 0 0),(.slice none 0 0),(.int .u64 0),(.int .u64 0),(.string (av ([]:List UInt8))),(.string (av ([]:List UInt8))),(.string (av ([]:List UInt8))),(.int .i64 r.op),(.int .i64 r.err),(.slice X26 r.items.length cx26),(.int .u64 (↑r.ver:Int)),(.int .i64 r.count),(.slice N26 r.nums.length cn26),(.slice A27 (cnFr r).length c27)]:=Mo
    skip
    have hR:=XF
    have hW:=hR.bnd
    replace aM:=LU.bk aM (fun e=>by have:=hW0.1 _ e;omega)
    refine ag (ae (af (af ?_)))
    refine cC ej 10 [(28,a0 (.pointer (some ⟨g,0,none⟩))),(29,a0 (.pointer (some ⟨g,0,none⟩))),(30,a0 (.pointer (some ⟨g,22,none⟩))),(31,a0 (.slice A27 (cnFr r).length c27)),(32,a0 (.int .i64 (↑(cnFr r).length:Int))),(33,a0 (.pointer (some ⟨g,0,none⟩))),(34,a0 (.pointer (some ⟨g,0,none⟩))),(35,a0 (.pointer (some ⟨g,1,none⟩))),(36,a0 (.pointer (some ⟨g,2,none⟩))),(37,a0 (.int .i64 (↑s.co:Int)))] [[],[0],[1],[2],[3],[],[5],[6],[7],[8]] _ [] [] (fun _ _ h=>h) trivial (by kernel_rfl) rfl ?_ ?_
    ·repeat' apply And.intro
     all_goals first|exact trivial|(intro wd bW;replace aV:=aV.ext bW;(repeat rintro _ rfl))
     exact am (ax (aF))
     exact am (ax (bD))
     exact am (ax (ah uX))
     exact am (ax (ak dc aV))
     exact am (ax (bj Tryz.underlying32))
     exact am (ax (aF))
     exact am (ax (bD))
     exact am (ax (ah FX))
     exact am (ax (ah la))
     exact am (ax (ak gg aV))
    ·intro wf7 sG
     replace aM:=aM.ext sG
     replace aV:=aV.ext sG
     replace hR:=hR.ext sG
     replace eq:=Kp.te eq sG
     have Uz:=sG.size
     iterate 10 rintro _ rfl
     refine ab (bw) ?_
     refine ag (ae ?_)
     refine aL (fun e9=>?_) (fun e9=>?_)
     ·refine aa ?_
      refine vm ?_
      refine ab (ah cj) ?_
      refine ab (ak cO aM) ?_
      refine ar (aw Ns (pM _ _ _)) ?_
      rintro v w205 ⟨rfl,uA⟩
      replace aV:=aV.ext uA
      replace hR:=hR.ext uA
      replace eq:=Kp.te eq uA
      have HB:=uA.size
      refine ar (aw IY (nl _ g _ _ (sK s r) gb gd Db Dd none 0 none 0 none 0 X26 cx26 ys26 N26 cn26 A27 c27 aV hR (rspO r.op 5) [] rfl w205.heap.size w205.heap.size none 0 none 0 (RdI.nil _ _ _) (kF _ _) (sY _ _) (fun x hx=>Nat.lt_of_lt_of_le (hW.1 x hx) (by omega)))) ?_
      rintro v w206 ⟨rfl,A43,c43,fw,XE,V0⟩
      replace eq:=eq.tr V0 (fun x hx=>.inl hx)
      refine ag (ae (af (aa ?_)))
      refine va ?_
      refine ag (ae (aE ?_))
      refine aY ?_
      have mz:fe s 2=0∧s.ph=2:=by
       by_cases q:s.ph=2
       ·exact⟨if_pos q,q⟩
       ·exact absurd (show(((fe s 2:Nat):Int)≠0) by rw[show fe s 2=8 from if_neg q];decide) dM
      have e:dG s r=(sK s (rspO r.op 5),0):=(if_neg (fun q=>q mz.2)).trans ((if_neg (by rintro(q|q);exact q NM;exact q (by omega))).trans (if_pos (by omega)))
      rw[e]
      exact⟨rfl,CnTo.of (⟨gb,gd,Db,Dd,K,ck,V,cv,T,ct,X,cx,xs,N,cn,A,c⟩:CnP) _ fw XE eq (fun x h=>.inl h) (.inr (by omega))⟩
     ·refine aS (ae (af (aa ?_)))
      refine va ?_
      refine ag (ae (aE ?_))
      refine aY ?_
      have mz:fe s 2=0∧s.ph=2:=by
       by_cases q:s.ph=2
       ·exact⟨if_pos q,q⟩
       ·exact absurd (show(((fe s 2:Nat):Int)≠0) by rw[show fe s 2=8 from if_neg q];decide) dM
      have e:dG s r=(sK s r,0):=(if_neg (fun q=>q mz.2)).trans ((if_neg (by rintro(q|q);exact q NM;exact q (by omega))).trans (if_neg (by omega)))
      rw[e]
      exact⟨rfl,CnTo.of (⟨gb,gd,Db,Dd,K,ck,V,cv,T,ct,X,cx,xs,N,cn,A,c⟩:CnP) (⟨gb,gd,Db,Dd,Option.none,0,Option.none,0,Option.none,0,X26,cx26,ys26,N26,cn26,A27,c27⟩:CnP) aV hR eq (fun x h=>.inl h) (.inr (by omega))⟩
theorem Gt (w:World) (g a b:Nat) (s:Cn) (gb gd:Nat) (Db Dd:Option Nat) (K:Option Addr) (ck:Nat) (V:Option Addr) (cv:Nat) (T:Option Addr) (ct:Nat) (X:Option Addr) (cx:Nat) (xs:List IT) (N:Option Addr) (cn:Nat) (A:Option Addr) (c:Nat) (aV:Blk w g 57 (vB s (⟨gb,gd,Db,Dd,K,ck,V,cv,T,ct,X,cx,xs,N,cn,A,c⟩:CnP))) (hR:CnR w g a b s (⟨gb,gd,Db,Dd,K,ck,V,cv,T,ct,X,cx,xs,N,cn,A,c⟩:CnP)):
  Fn Tryz.prog 26 #[(.pointer (some ⟨g,0,none⟩))] w (fun v w'=>∃g' S',v=.pointer (some ⟨g',0,none⟩)∧Cnn w' g' S' a b s∧(∀x∈S',w.heap.size≤x)∧Ext w w'):=by
 replace aV:Blk w g 57 [(.pointer (some ⟨gb,0,none⟩)),(.int .i64 (↑s.ci:Int)),(.int .i64 (↑s.co:Int)),(.int .i64 (↑s.cp:Int)),(.pointer (some ⟨gd,0,none⟩)),(.int .i64 (↑s.ph:Int)),(.int .i64 s.cmd.op),(.string (av s.cmd.key)),(.slice K s.cmd.keys.length ck),(.slice V s.cmd.value.length cv),(.slice T s.cmd.tags.length ct),(.int .u64 (↑s.cmd.life:Int)),(.int .u64 (↑s.cmd.ver:Int)),(.string (av s.cmd.tag)),(.string (av s.cmd.pre)),(.string (av s.cmd.child)),(.int .i64 s.ans.op),(.int .i64 s.ans.err),(.slice X s.ans.items.length cx),(.int .u64 (↑s.ans.ver:Int)),(.int .i64 s.ans.count),(.slice N s.ans.nums.length cn),(.slice A s.bs.length c)]:=aV
 have hW:=hR.bnd
 have Ih:=aV.lt
 have ep:=hR.ok
 obtain⟨kp1,kp2,ki1,ki2,ko1,khl,kph1,kph4,ksz,kbl,kan,kcb⟩:=id ep
 have hE:=aP w
 refine aO Tryz.func26 ?_
 refine af (aa ?_)
 refine va ?_
 refine ag (ae (af (af (aa ?_))))
 refine vm ?_
 refine ab (aw zj (kh _ g s gb gd Db Dd K ck V cv T ct X cx xs N cn A c aV)) ?_
 refine ag (ae ?_)
 refine aC ?_
 refine aS (ae (af (aa ?_)))
 refine vm ?_
 refine vn ?_
 refine ab (aK (cs:=[(.pointer (some ⟨gb,0,none⟩)),(.int .i64 (↑s.ci:Int)),(.int .i64 (↑s.co:Int)),(.int .i64 (↑s.cp:Int)),(.pointer (some ⟨gd,0,none⟩)),(.int .i64 (↑s.ph:Int)),(.int .i64 s.cmd.op),(.string (av s.cmd.key)),(.slice K s.cmd.keys.length ck),(.slice V s.cmd.value.length cv),(.slice T s.cmd.tags.length ct),(.int .u64 (↑s.cmd.life:Int)),(.int .u64 (↑s.cmd.ver:Int)),(.string (av s.cmd.tag)),(.string (av s.cmd.pre)),(.string (av s.cmd.child)),(.int .i64 s.ans.op),(.int .i64 s.ans.err),(.slice X s.ans.items.length cx),(.int .u64 (↑s.ans.ver:Int)),(.int .i64 s.ans.count),(.slice N s.ans.nums.length cn),(.slice A s.bs.length c)]) Jg aV) ?_
 refine ar (bc NZ) ?_
 rintro v w1 ⟨g3,rfl,aM,d7,sy,su⟩
 replace aV:=aV.ext d7
 replace hR:=hR.ext d7
 replace hE:=hE.tr d7
 refine aB (aD (vs:=[(.pointer (some ⟨gb,0,none⟩)),(.int .i64 (↑s.ci:Int)),(.int .i64 (↑s.co:Int)),(.int .i64 (↑s.cp:Int)),(.pointer (some ⟨gd,0,none⟩)),(.int .i64 (↑s.ph:Int)),(.int .i64 s.cmd.op),(.string (av s.cmd.key)),(.slice K s.cmd.keys.length ck),(.slice V s.cmd.value.length cv),(.slice T s.cmd.tags.length ct),(.int .u64 (↑s.cmd.life:Int)),(.int .u64 (↑s.cmd.ver:Int)),(.string (av s.cmd.tag)),(.string (av s.cmd.pre)),(.string (av s.cmd.child)),(.int .i64 s.ans.op),(.int .i64 s.ans.err),(.slice X s.ans.items.length cx),(.int .u64 (↑s.ans.ver:Int)),(.int .i64 s.ans.count),(.slice N s.ans.nums.length cn),(.slice A s.bs.length c)]) TA aM) ?_
 rintro _ w2 ⟨gY,dt⟩
 have nO:=dt.size
 replace aV:=aV.gr dt
 replace hR:=by first|exact hR.grg dt|exact hR.grf dt hW (by omega)
 replace hE:=hE.gr dt
 replace aM:=gY
 refine ag (ae (af ?_))
 refine fD 9 [(9,a0 (.pointer (some ⟨g,0,none⟩))),(10,a0 (.pointer (some ⟨g,0,none⟩))),(11,a0 (.pointer (some ⟨g,0,none⟩))),(12,a0 (.pointer (some ⟨gb,0,none⟩))),(13,(fun v wz=>∃g2 D2,v=.pointer (some ⟨g2,0,none⟩)∧Buf wz 0 g2 D2 s.co s.out s.pt s.tk∧w2.heap.size≤g2∧∀x,D2=some x→w2.heap.size≤x)),(14,a0 (.pointer (some ⟨g,0,none⟩))),(15,a0 (.pointer (some ⟨g,0,none⟩))),(16,a0 (.pointer (some ⟨g,4,none⟩))),(17,a0 (.pointer (some ⟨gd,0,none⟩)))] [[],[0],[1],[2],[3],[],[5],[6],[7]] _ [] [] ⟨sE,sE,sE,sE,⟨(fun v w w' ⟨g2,D2,hv,h,h1,h2⟩ he=>⟨g2,D2,hv,h.ext he,h1,h2⟩),fun _ he=>by cases he⟩,sE,sE,sE,sE,trivial⟩ ?_ ?_
 ·repeat' apply And.intro
  all_goals first|exact trivial|(intro wd bW;replace aV:=aV.ext bW;replace hR:=hR.ext bW;have dK:=bW.size;(repeat rintro _ rfl))
  exact am (ax (aF))
  exact am (ax (bD))
  exact am (ax (ah rP))
  exact am (ax (ak Hl aV))
  ·refine am (OpRun.mono (aw YX (GB _ 0 gb Db s.co s.out s.pt s.tk hR.buf)) ?_)
   rintro v w3 ⟨gc13,D13,rfl,sJ,ik,QJ,Cs⟩
   exact⟨⟨gc13,D13,rfl,Buf.mono sJ (Nat.zero_le _),by omega,fun x e=>by have:=Cs x e;omega⟩,ik⟩
  exact am (ax (aF))
  exact am (ax (bD))
  exact am (ax (ah lV))
  exact am (ax (ak wr aV))
 ·intro wf4 ll
  replace hR:=hR.ext ll
  replace hE:=hE.tr ll
  replace aM:=aM.ext ll
  have yD:=ll.size
  iterate 4 rintro _ rfl
  rintro _ ⟨gc13,D13,rfl,sJ,QJ,Cs⟩
  iterate 4 rintro _ rfl
  have Ib:=sJ.lt
  refine ar (aw YW (F5 _ 0 gd Dd s.cp s.cl s.held hR.dec (by omega))) ?_
  rintro v w3 ⟨gc18,D18,rfl,Fl,kZ,hg118,Iy⟩
  replace hR:=hR.ext kZ
  replace hE:=hE.tr kZ
  replace aM:=aM.ext kZ
  replace sJ:=Buf.ext sJ kZ
  refine ab (ah rP) ?_
  refine aB (aU TC aM) ?_
  rintro _ w4 ⟨gT,cQ⟩
  replace hR:=by first|exact hR.grg cQ|exact hR.grf cQ hW (by omega)
  replace hE:=hE.gr cQ
  replace sJ:=Buf.gr sJ cQ (fun x e=>by cases e;omega) (fun x e e2=>by cases e;have:=Cs _ e2;omega)
  replace Fl:=Dec.gr Fl cQ (fun x e=>by cases e;omega) (fun x e e2=>by cases e;have:=Iy _ e2;omega)
  replace aM:=gT
  refine ab (ah lV) ?_
  refine aB (aU TB aM) ?_
  rintro _ w5 ⟨pE,fB⟩
  replace hR:=by first|exact hR.grg fB|exact hR.grf fB hW (by omega)
  replace hE:=hE.gr fB
  replace sJ:=Buf.gr sJ fB (fun x e=>by cases e;omega) (fun x e e2=>by cases e;have:=Cs _ e2;omega)
  replace Fl:=Dec.gr Fl fB (fun x e=>by cases e;omega) (fun x e e2=>by cases e;have:=Iy _ e2;omega)
  replace aM:=pE
  refine ag (ae (af (aa ?_)))
  refine va ?_
  refine ag (ae (aE ?_))
  refine aY ?_
  have h4:∀x,D13=some x→g3<x∧x<gc18:=fun x e=>by have q1:=Cs x e;have q2:=(Ib.2 x e).2;omega
  have h5:∀x,D18=some x→gc13<x∧∀y,D13=some y→y<x:=fun x e=>by
   have q1:=Iy x e
   refine⟨by have:=Ib.1;omega,fun y e2=>by have:=(Ib.2 y e2).2;omega⟩
  refine⟨g3,cnS g3 (⟨gc13,gc18,D13,D18,K,ck,V,cv,T,ct,X,cx,xs,N,cn,A,c⟩:CnP),rfl,Cnn.mk (⟨gc13,gc18,D13,D18,K,ck,V,cv,T,ct,X,cx,xs,N,cn,A,c⟩:CnP) aM (hR.cpy sJ (Dec.mono Fl (Nat.zero_le _)) hW.2 (by omega) (by omega) (by have:=Ib.1;omega) h4 h5),?_,hE⟩
  intro x hx
  rcases fk.1 hx with e|e|e|e|e
  ·omega
  ·have e2:x=gc13:=e;omega
  ·have e2:x=gc18:=e;omega
  ·have:=Cs x e;omega
  ·have:=Iy x e;omega
end Go.Proofs.YtiighkbehiddkaaGreat
namespace Go.Proofs.YtiighkbehiddkaaGreat
open Go.RowKit
set_option linter.unusedVariables false
set_option maxRecDepth 4000
/-- The part that a response needs, as the reference names it. -/
def needsN (op:Int):Nat:=if op=1∨op=2∨op=3 then 119 else if op=4 then 105 else if op=5 then 109 else if op=15 then 110 else 99
theorem wB {op:Int} (h:op=1∨op=2∨op=3:=by omega):needsN op=119:=if_pos h
theorem wA {op:Int} (h:op=4:=by omega):needsN op=105:=by subst h;rfl
theorem wy {op:Int} (h:op=5:=by omega):needsN op=109:=by subst h;rfl
theorem wx {op:Int} (h:op=15:=by omega):needsN op=110:=by subst h;rfl
theorem ww {op:Int} (h1:¬(op=1∨op=2∨op=3):=by omega) (h2:¬op=4:=by omega) (h3:¬op=5:=by omega) (h4:¬op=15:=by omega):needsN op=99:=by unfold needsN;rw[if_neg h1,if_neg h2,if_neg h3,if_neg h4]
/-- A response with just the parts that it needs. -/
def onlyR (r:Rsp):Rsp:=
 if¬r.err=0 then rspO r.op r.err else if needsN r.op=119 then{rspO r.op r.err with ver:=r.ver,count:=r.count} else if needsN r.op=105∨needsN r.op=109 then{rspO r.op r.err with items:=r.items}
 else if needsN r.op=99 then{rspO r.op r.err with count:=r.count} else if needsN r.op=110 then{rspO r.op r.err with nums:=r.nums} else rspO r.op r.err
def okV (x:Itm):Bool:=decide (¬(x.mark=0∧¬x=zI)∧0≤x.mark∧x.mark≤2∧x.value.length≤65536)
structure RV (r:Rsp):Prop where
 o1:0≤r.op
 o2:r.op≤15
 e1:0≤r.err
 e2:r.err≤100000
 ne:¬(r.op=0∧r.err=0)
 only:r=onlyR r
 items:r.items.all okV=true
 one:¬(r.err=0∧needsN r.op=105∧¬r.items.length=1)
 many:¬(r.err=0∧needsN r.op=109∧(r.items.length<1∨16<r.items.length))
 c1:0≤r.count
 c2:r.count≤1099511627776
 nums:r.nums.length≤64
theorem rv_iff (r:Rsp):RV r↔(0≤r.op∧r.op≤15∧0≤r.err∧r.err≤100000∧¬(r.op=0∧r.err=0)∧r=onlyR r∧r.items.all okV=true∧¬(r.err=0∧needsN r.op=105∧¬r.items.length=1)∧¬(r.err=0∧needsN r.op=109∧(r.items.length<1∨16<r.items.length))∧0≤r.count∧r.count≤1099511627776∧r.nums.length≤64):=
 ⟨fun⟨a,b,c,d,e,f,g,h,i,j,k,l⟩=>⟨a,b,c,d,e,f,g,h,i,j,k,l⟩,fun⟨a,b,c,d,e,f,g,h,i,j,k,l⟩=>⟨a,b,c,d,e,f,g,h,i,j,k,l⟩⟩
instance (r:Rsp):Decidable (RV r):=decidable_of_iff _ (rv_iff r).symm
theorem oA {xs:List Itm} {k:Nat} {x:Itm} (h:xs[k]?=some x):(xs.take (k+1)).all okV=((xs.take k).all okV&&okV x):=by
 rw[List.take_add_one,h,List.all_append];simp
theorem f9 {xs:List Itm} {x:Itm} (h:x∈xs) (hx:okV x=false):¬xs.all okV=true:=fun e=>by rw[List.all_eq_true.1 e x h] at hx;cases hx
theorem gu (w:World) (op:Int):
  Fn Tryz.prog 78 #[(.int .i64 op)] w (fun v w'=>v=.int .u8 (needsN op:Int)∧w'=w):=by
 refine aO Tryz.func78 ?_
 refine af (aa ?_)
 refine va ?_
 refine ag (ae (af (af (aa ?_))))
 refine vm ?_
 refine ag (ae (a9 (af (af (aa ?_)))))
 refine ve ?_
 refine va ?_
 refine ag (ae ?_)
 refine aL (fun dM=>?_) (fun dM=>?_)
 ·refine aS (ae ?_)
  refine d6 rfl (decide_eq_true dM) ?_
  refine af (aa ?_)
  refine va ?_
  refine ag (ae (aE (aQ (az ?_))))
  refine aY ?_
  first|exact⟨by rw[wB];rfl,rfl⟩|exact⟨by rw[wA];rfl,rfl⟩|exact⟨by rw[wy];rfl,rfl⟩|exact⟨by rw[wx];rfl,rfl⟩|exact⟨by rw[ww];rfl,rfl⟩
 ·refine af (aa ?_)
  refine ve ?_
  refine va ?_
  refine ag (ae ?_)
  refine aL (fun eN=>?_) (fun eN=>?_)
  ·refine aS (ae ?_)
   refine d6 rfl (decide_eq_true eN) ?_
   refine af (aa ?_)
   refine va ?_
   refine ag (ae (aE (aQ (az ?_))))
   refine aY ?_
   first|exact⟨by rw[wB];rfl,rfl⟩|exact⟨by rw[wA];rfl,rfl⟩|exact⟨by rw[wy];rfl,rfl⟩|exact⟨by rw[wx];rfl,rfl⟩|exact⟨by rw[ww];rfl,rfl⟩
  ·refine aa ?_
   refine ve ?_
   refine va ?_
   refine ag (ae ?_)
   refine aL (fun e9=>?_) (fun e9=>?_)
   ·refine af (aa ?_)
    refine va ?_
    refine ag (ae (aE (aQ (az ?_))))
    refine aY ?_
    first|exact⟨by rw[wB];rfl,rfl⟩|exact⟨by rw[wA];rfl,rfl⟩|exact⟨by rw[wy];rfl,rfl⟩|exact⟨by rw[wx];rfl,rfl⟩|exact⟨by rw[ww];rfl,rfl⟩
   ·refine af (aa ?_)
    refine ve ?_
    refine va ?_
    refine ag (ae ?_)
    refine aL (fun iD=>?_) (fun iD=>?_)
    ·refine af (aa ?_)
     refine va ?_
     refine ag (ae (aE (aQ (az ?_))))
     refine aY ?_
     first|exact⟨by rw[wB];rfl,rfl⟩|exact⟨by rw[wA];rfl,rfl⟩|exact⟨by rw[wy];rfl,rfl⟩|exact⟨by rw[wx];rfl,rfl⟩|exact⟨by rw[ww];rfl,rfl⟩
    ·refine af (aa ?_)
     refine ve ?_
     refine va ?_
     refine ag (ae ?_)
     refine aL (fun ld=>?_) (fun ld=>?_)
     ·refine af (aa ?_)
      refine va ?_
      refine ag (ae (aE (aQ (az ?_))))
      refine aY ?_
      first|exact⟨by rw[wB];rfl,rfl⟩|exact⟨by rw[wA];rfl,rfl⟩|exact⟨by rw[wy];rfl,rfl⟩|exact⟨by rw[wx];rfl,rfl⟩|exact⟨by rw[ww];rfl,rfl⟩
     ·refine af (aa ?_)
      refine ve ?_
      refine va ?_
      refine ag (ae ?_)
      refine aL (fun pC=>?_) (fun pC=>?_)
      ·refine af (aa ?_)
       refine va ?_
       refine ag (ae (aE (aQ (az ?_))))
       refine aY ?_
       first|exact⟨by rw[wB];rfl,rfl⟩|exact⟨by rw[wA];rfl,rfl⟩|exact⟨by rw[wy];rfl,rfl⟩|exact⟨by rw[wx];rfl,rfl⟩|exact⟨by rw[ww];rfl,rfl⟩
      ·refine aS (bb (ae (af (aa ?_))))
       refine va ?_
       refine ag (ae (aE ?_))
       refine aY ?_
       first|exact⟨by rw[wB];rfl,rfl⟩|exact⟨by rw[wA];rfl,rfl⟩|exact⟨by rw[wy];rfl,rfl⟩|exact⟨by rw[wx];rfl,rfl⟩|exact⟨by rw[ww];rfl,rfl⟩
end Go.Proofs.YtiighkbehiddkaaGreat
namespace Go.Proofs.YtiighkbehiddkaaGreat
open Go.RowKit
set_option linter.unusedVariables false
set_option maxRecDepth 4000
theorem u6:aX Tryz.prog 78=true:=by kernel_rfl
theorem YK:aX Tryz.prog 79=true:=by kernel_rfl
def vsum (xs:List Itm):Nat:=(xs.map fun x=>x.value.length).sum
theorem C3 (r:Rsp):rsz r=vsum r.items+40*r.items.length+10*r.nums.length+100:=by
 unfold rsz vsum
 have e:∀xs:List Itm,(xs.map o3).sum=(xs.map fun x=>x.value.length).sum+40*xs.length:=by
  intro xs
  induction xs with
  |nil=>rfl
  |cons a r ih=>rw[List.map_cons,List.sum_cons,ih,List.map_cons,List.sum_cons,List.length_cons];unfold o3;omega
 rw[e]
/-- What the reference writes. -/
def fZ (r:Rsp):List UInt8:=if needsN r.op=119 then br r.ver++br r.count.toNat else if needsN r.op=109 then br r.items.length else if needsN r.op=99 then br r.count.toNat else if needsN r.op=110 then br r.nums.length else[]
def nn (r:Rsp):List UInt8:=br r.err.toNat++if r.err=0 then fZ r++(r.items.flatMap wI++r.nums.flatMap br) else[]
theorem GX (x:Itm):(wI x).length≤o3 x:=by
 have h1:=cw x.mark.toNat
 have h2:=cw x.ver
 have h3:=cw x.dead
 have h4:=cw x.value.length
 unfold wI o3 pb
 rw[List.length_append]
 split<;>simp only[List.length_nil,List.length_append]<;>omega
theorem lE:∀(xs:List Itm),(xs.flatMap wI).length≤(xs.map o3).sum
 |[]=>by simp
 |x::r=>by
  have h1:=GX x
  have h2:=lE r
  rw[List.flatMap_cons,List.length_append,List.map_cons,List.sum_cons];omega
theorem Ay (r:Rsp):(fZ r).length≤20:=by
 have h1:=cw r.ver
 have h2:=cw r.count.toNat
 have h3:=cw r.items.length
 have h4:=cw r.nums.length
 unfold fZ
 repeat' split
 all_goals(first|omega|(simp only[List.length_append,List.length_nil];omega))
theorem Oh (w:World) (r:Rsp) (xs:List IT) (hv:vals xs=r.items) (lo hi:Nat) (X:Option Addr) (cx:Nat) (N:Option Addr) (cn:Nat) (hx:RdI w lo hi X cx xs) (hn:RdN w lo hi N cn r.nums) (ep:RspOk r) (gf:rsz r≤4398046511104) (h1:0≤r.op) (h2:r.op≤15) (h3:0≤r.err) (NY:r.err≤9223372036854775807) (h4:0≤r.count) (h5:∀x∈r.items,0≤x.mark∧x.mark≤9223372036854775807) (o4:¬r.err=0):
  Fn Tryz.prog 59 #[(.agg #[(.int .i64 r.op),(.int .i64 r.err),(.slice X r.items.length cx),(.int .u64 (↑r.ver:Int)),(.int .i64 r.count),(.slice N r.nums.length cn)])] w (fun v w'=>∃A c,v=.agg #[.int .u8 ((dF r).toNat:Int),.slice A (nn r).length c]∧OwnB w' w.heap.size 5 A c (nn r)∧Ext w w'):=by
 replace hx:=hx.top
 replace hn:=Rd.top hn
 have hE:=aP w
 obtain⟨hi,nr⟩:∃n,n=w.heap.size:=⟨_,rfl⟩
 rw[←nr] at hx hn
 have mu:=cP xs
 rw[hv] at mu
 refine aO (args:=[(.agg #[(.int .i64 r.op),(.int .i64 r.err),(.slice X r.items.length cx),(.int .u64 (↑r.ver:Int)),(.int .i64 r.count),(.slice N r.nums.length cn)])]) Tryz.func59 ?_
 refine af (aa ?_)
 refine ar (bU (cs:=[(.int .i64 r.op),(.int .i64 r.err),(.slice X r.items.length cx),(.int .u64 (↑r.ver:Int)),(.int .i64 r.count),(.slice N r.nums.length cn)])) ?_
 rintro v w1 ⟨g1,rfl,au,dL,kM,ls⟩
 replace hE:=hE.tr dL
 refine ar (bc (cs:=[(.int .u8 0),(.slice none 0 0)]) dN) ?_
 rintro v w2 ⟨g2,rfl,aq,dk,my,nd⟩
 replace hE:=hE.tr dk
 replace au:=au.ext dk
 have re:=dk.size
 refine ag (ae (af (aa ?_)))
 refine ab (ah (off:=1) cK) ?_
 refine ab (ak fb au) ?_
 refine ab (bv Tryz.underlying29 Tryz.underlying36) ?_
 refine aN (d:=9) rfl (v':=(.int .u64 (↑r.err.toNat:Int))) (by rw[Int.toNat_of_nonneg (by omega)]) ?_
 refine ar (aw oU (fK (r.err.toNat) _ (by omega))) ?_
 rintro v w3 ⟨A10,c10,rfl,eY,cY⟩
 replace hE:=hE.tr cY
 replace au:=au.ext cY
 replace aq:=aq.ext cY
 have uk:=fun g e=>Own.lt eY (g:=g) e
 refine va ?_
 refine ag (ae (af (af (aa ?_))))
 refine ab (ah (off:=1) cK) ?_
 refine ab (ak fb au) ?_
 refine ve ?_
 refine aN (d:=13) rfl (bf (o4)) ?_
 refine ag (ae ?_)
 refine aC ?_
 refine aS (ae (af (aa ?_)))
 refine ab (ah (off:=0) cj) ?_
 refine ab (ak cO au) ?_
 refine ab (bH) ?_
 refine ab (bv Tryz.underlying3 Tryz.underlying5 (hm:=vD)) ?_
 refine vm ?_
 refine ab (bi (cs:=[(.int .u8 (↑(dF r).toNat:Int)),(.slice A10 (br (r.err.toNat)).length c10)]) dN f8) ?_
 refine aB (aD (vs:=[(.int .u8 (↑(dF r).toNat:Int)),(.slice A10 (br (r.err.toNat)).length c10)]) du aq) ?_
 rintro _ w4 ⟨gT,cQ⟩
 replace hE:=hE.gr cQ
 replace eY:=Own.gr eY cQ (by first|exact .inl rfl|(right;intro e;first|(have:=uk _ e;omega)|(have:=Own.lt eY e;omega)|exact aT eY aq (by decide) e))
 replace aq:=gT
 refine ag (ae (aE ?_))
 refine bm (rs:=[.cell 2 117]) (vs:=[.agg #[(.int .u8 (↑(dF r).toNat:Int)),(.slice A10 (br (r.err.toNat)).length c10)]]) rfl ⟨⟨_,_,[(.int .u8 (↑(dF r).toNat:Int)),(.slice A10 (br (r.err.toNat)).length c10)],rfl,bN,aq,rfl⟩,trivial⟩ ?_
 have e1:nn r=br r.err.toNat:=by unfold nn;rw[if_neg o4,List.append_nil]
 rw[e1]
 exact⟨A10,c10,rfl,Own.mono eY (by omega),hE⟩
theorem Oi (w:World) (r:Rsp) (xs:List IT) (hv:vals xs=r.items) (lo hi:Nat) (X:Option Addr) (cx:Nat) (N:Option Addr) (cn:Nat) (hx:RdI w lo hi X cx xs) (hn:RdN w lo hi N cn r.nums) (ep:RspOk r) (gf:rsz r≤4398046511104) (h1:0≤r.op) (h2:r.op≤15) (h3:0≤r.err) (NY:r.err≤9223372036854775807) (h4:0≤r.count) (h5:∀x∈r.items,0≤x.mark∧x.mark≤9223372036854775807) (o4:r.err=0):
  Fn Tryz.prog 59 #[(.agg #[(.int .i64 r.op),(.int .i64 r.err),(.slice X r.items.length cx),(.int .u64 (↑r.ver:Int)),(.int .i64 r.count),(.slice N r.nums.length cn)])] w (fun v w'=>∃A c,v=.agg #[.int .u8 ((dF r).toNat:Int),.slice A (nn r).length c]∧OwnB w' w.heap.size 5 A c (nn r)∧Ext w w'):=by
 replace hx:=hx.top
 replace hn:=Rd.top hn
 have hE:=aP w
 obtain⟨hi,nr⟩:∃n,n=w.heap.size:=⟨_,rfl⟩
 rw[←nr] at hx hn
 have mu:=cP xs
 rw[hv] at mu
 have dL:=cw r.err.toNat
 have dk:=cw r.ver
 have d7:=cw r.count.toNat
 have eM:=cw r.items.length
 have f0:=cw r.nums.length
 have ha1:(br r.err.toNat++br r.ver).length=(br r.err.toNat).length+(br r.ver).length:=List.length_append
 have hok1:=ep.1
 have hok4:=ep.2.2.2
 have hrv0:r.items.length≤rsz r∧r.nums.length≤rsz r:=by rw[C3];omega
 refine aO (args:=[(.agg #[(.int .i64 r.op),(.int .i64 r.err),(.slice X r.items.length cx),(.int .u64 (↑r.ver:Int)),(.int .i64 r.count),(.slice N r.nums.length cn)])]) Tryz.func59 ?_
 refine af (aa ?_)
 refine ar (bU (cs:=[(.int .i64 r.op),(.int .i64 r.err),(.slice X r.items.length cx),(.int .u64 (↑r.ver:Int)),(.int .i64 r.count),(.slice N r.nums.length cn)])) ?_
 rintro v w1 ⟨g1,rfl,au,dL,kM,ls⟩
 replace hx:=RdI.ext hx dL
 replace hn:=hn.ext dL
 replace hE:=hE.tr dL
 refine ar (bc (cs:=[(.int .u8 0),(.slice none 0 0)]) dN) ?_
 rintro v w2 ⟨g2,rfl,aq,dk,my,nd⟩
 replace hx:=RdI.ext hx dk
 replace hn:=hn.ext dk
 replace hE:=hE.tr dk
 replace au:=au.ext dk
 have re:=dk.size
 refine ag (ae (af (aa ?_)))
 refine ab (ah (off:=1) cK) ?_
 refine ab (ak fb au) ?_
 refine ab (bv Tryz.underlying29 Tryz.underlying36) ?_
 refine aN (d:=9) rfl (v':=(.int .u64 (↑r.err.toNat:Int))) (by rw[Int.toNat_of_nonneg (by omega)]) ?_
 refine ar (aw oU (fK (r.err.toNat) _ (by omega))) ?_
 rintro v w3 ⟨A10,c10,rfl,eY,cY⟩
 replace hx:=RdI.ext hx cY
 replace hn:=hn.ext cY
 replace hE:=hE.tr cY
 replace au:=au.ext cY
 replace aq:=aq.ext cY
 have uc:=cY.size
 refine va ?_
 refine ag (ae (af (af (aa ?_))))
 refine ab (ah (off:=1) cK) ?_
 refine ab (ak fb au) ?_
 refine ve ?_
 refine aN (d:=13) rfl (bt (o4)) ?_
 refine ag (ae ?_)
 refine aR ?_
 refine af (af (aa ?_))
 refine ab (ah (off:=0) cj) ?_
 refine ab (ak cO au) ?_
 refine ab (aw u6 (gu _ r.op)) ?_
 refine ag (ae ?_)
 refine GW (σ:=Option Addr×Nat) (J:=fun s w'=>OwnB w' w.heap.size 5 s.1 s.2 (br r.err.toNat++fZ r)∧Blk w' g1 43 (b9 r X cx N cn)∧Blk w' g2 117 [.int .u8 0,.slice none 0 0]∧RdI w' lo hi X cx xs∧RdN w' lo hi N cn r.nums∧Ext w w') (Lj:=fun s=>[(1,.pointer (some ⟨g1,0,none⟩)),(2,.pointer (some ⟨g2,0,none⟩)),(3,.slice s.1 (br r.err.toNat++fZ r).length s.2)]) ?_ ?_
 ·refine a9 (af (aa ?_))
  refine ve ?_
  refine va ?_
  refine ag (ae ?_)
  refine aL (fun eN=>?_) (fun eN=>?_)
  ·refine af (aa ?_)
   refine vm ?_
   refine ab (ah (off:=3) lW) ?_
   refine ab (ak ft au) ?_
   refine ar (aw oU (fK (r.ver) _ (by omega))) ?_
   rintro v w4 ⟨A22,c22,rfl,LI,ij⟩
   replace hx:=RdI.ext hx ij
   replace hn:=hn.ext ij
   replace hE:=hE.tr ij
   replace au:=au.ext ij
   replace aq:=aq.ext ij
   replace eY:=Own.ext eY ij
   have HE:=ij.size
   refine ar (cG cE eY (OwnB.rd LI)) ?_
   rintro v w5 ⟨A23,c23,rfl,dr,sD,Q3⟩
   have ul:=fun g e=>Own.lt eY (g:=g) e
   have SI:=sD.size
   replace hx:=RdI.gr hx sD (fun g e=>by have:=ul g e;omega)
   replace hn:=hn.gr sD (fun g e=>by have:=ul g e;omega)
   replace hE:=hE.gr sD (fun g e=>by have:=ul g e;omega)
   replace au:=au.gr sD (by first|(intro e;have:=ul _ e;omega)|exact aT eY au (by decide))
   replace aq:=aq.gr sD (by first|(intro e;have:=ul _ e;omega)|exact aT eY aq (by decide))
   refine va ?_
   refine ag (ae (aa ?_))
   refine vm ?_
   refine ab (ah (off:=4) dE) ?_
   refine ab (ak gg au) ?_
   refine ab (bv Tryz.underlying3 Tryz.underlying36) ?_
   refine aN (d:=27) rfl (v':=(.int .u64 (↑r.count.toNat:Int))) (by rw[Int.toNat_of_nonneg (by omega)]) ?_
   refine ar (aw oU (fK (r.count.toNat) _ (by omega))) ?_
   rintro v w6 ⟨A28,c28,rfl,VA,lO⟩
   replace hx:=RdI.ext hx lO
   replace hn:=hn.ext lO
   replace hE:=hE.tr lO
   replace au:=au.ext lO
   replace aq:=aq.ext lO
   replace dr:=Own.ext dr lO
   have S5:=lO.size
   refine ar (cG cE dr (OwnB.rd VA)) ?_
   rintro v w7 ⟨A29,c29,rfl,Vz,EU,ha29⟩
   have Eo:=fun g e=>Own.lt dr (g:=g) e
   replace hx:=RdI.gr hx EU (fun g e=>by have:=Eo g e;omega)
   replace hn:=hn.gr EU (fun g e=>by have:=Eo g e;omega)
   replace hE:=hE.gr EU (fun g e=>by have:=Eo g e;omega)
   replace au:=au.gr EU (by first|(intro e;have:=Eo _ e;omega)|exact aT dr au (by decide))
   replace aq:=aq.gr EU (by first|(intro e;have:=Eo _ e;omega)|exact aT dr aq (by decide))
   refine va ?_
   refine ag (bb ?_)
   refine pY ((A29,c29)) (⟨rfl,rfl,congrArg (fun o=>some (Value.slice A29 (List.length o) c29)) (show br r.err.toNat++br r.ver++br r.count.toNat=(br r.err.toNat++fZ r) from by unfold fZ;rw[if_pos (by omega),List.append_assoc]),trivial⟩) (⟨by show OwnB _ _ _ _ _ (br r.err.toNat++fZ r);rw[←show br r.err.toNat++br r.ver++br r.count.toNat=(br r.err.toNat++fZ r) from by unfold fZ;rw[if_pos (by omega),List.append_assoc]];exact Own.mono Vz (by omega),au,aq,hx,hn,hE⟩)
  ·refine af (aa ?_)
   refine ve ?_
   refine va ?_
   refine ag (ae ?_)
   refine aL (fun e9=>?_) (fun e9=>?_)
   ·refine aa ?_
    refine vm ?_
    refine ab (ah (off:=2) cJ) ?_
    refine ab (ak fA au) ?_
    refine ab (bj Tryz.underlying40) ?_
    refine ab (bv Tryz.underlying3 Tryz.underlying36) ?_
    refine ar (aw oU (fK (r.items.length) _ (by omega))) ?_
    rintro v w204 ⟨A37,c37,rfl,pq,fv⟩
    replace hx:=RdI.ext hx fv
    replace hn:=hn.ext fv
    replace hE:=hE.tr fv
    replace au:=au.ext fv
    replace aq:=aq.ext fv
    replace eY:=Own.ext eY fv
    have t9:=fv.size
    refine ar (cG cE eY (OwnB.rd pq)) ?_
    rintro v w205 ⟨A38,c38,rfl,Vy,ET,ha38⟩
    have En:=fun g e=>Own.lt eY (g:=g) e
    replace hx:=RdI.gr hx ET (fun g e=>by have:=En g e;omega)
    replace hn:=hn.gr ET (fun g e=>by have:=En g e;omega)
    replace hE:=hE.gr ET (fun g e=>by have:=En g e;omega)
    replace au:=au.gr ET (by first|(intro e;have:=En _ e;omega)|exact aT eY au (by decide))
    replace aq:=aq.gr ET (by first|(intro e;have:=En _ e;omega)|exact aT eY aq (by decide))
    refine va ?_
    refine ag (bb ?_)
    refine pY ((A38,c38)) (⟨rfl,rfl,congrArg (fun o=>some (Value.slice A38 (List.length o) c38)) (show br r.err.toNat++br r.items.length=(br r.err.toNat++fZ r) from by unfold fZ;rw[if_neg (by omega),if_pos (by omega)]),trivial⟩) (⟨by show OwnB _ _ _ _ _ (br r.err.toNat++fZ r);rw[←show br r.err.toNat++br r.items.length=(br r.err.toNat++fZ r) from by unfold fZ;rw[if_neg (by omega),if_pos (by omega)]];exact Own.mono Vy (by omega),au,aq,hx,hn,hE⟩)
   ·refine af (aa ?_)
    refine ve ?_
    refine va ?_
    refine ag (ae ?_)
    refine aL (fun iD=>?_) (fun iD=>?_)
    ·refine aa ?_
     refine vm ?_
     refine ab (ah (off:=4) dE) ?_
     refine ab (ak gg au) ?_
     refine ab (bv Tryz.underlying3 Tryz.underlying36) ?_
     refine aN (d:=44) rfl (v':=(.int .u64 (↑r.count.toNat:Int))) (by rw[Int.toNat_of_nonneg (by omega)]) ?_
     refine ar (aw oU (fK (r.count.toNat) _ (by omega))) ?_
     rintro v w204 ⟨A45,c45,rfl,Vw,yU⟩
     replace hx:=RdI.ext hx yU
     replace hn:=hn.ext yU
     replace hE:=hE.tr yU
     replace au:=au.ext yU
     replace aq:=aq.ext yU
     replace eY:=Own.ext eY yU
     have S0:=yU.size
     refine ar (cG cE eY (OwnB.rd Vw)) ?_
     rintro v w205 ⟨A46,c46,rfl,Vv,ER,ha46⟩
     have Em:=fun g e=>Own.lt eY (g:=g) e
     replace hx:=RdI.gr hx ER (fun g e=>by have:=Em g e;omega)
     replace hn:=hn.gr ER (fun g e=>by have:=Em g e;omega)
     replace hE:=hE.gr ER (fun g e=>by have:=Em g e;omega)
     replace au:=au.gr ER (by first|(intro e;have:=Em _ e;omega)|exact aT eY au (by decide))
     replace aq:=aq.gr ER (by first|(intro e;have:=Em _ e;omega)|exact aT eY aq (by decide))
     refine va ?_
     refine ag (bb ?_)
     refine pY ((A46,c46)) (⟨rfl,rfl,congrArg (fun o=>some (Value.slice A46 (List.length o) c46)) (show br r.err.toNat++br r.count.toNat=(br r.err.toNat++fZ r) from by unfold fZ;rw[if_neg (by omega),if_neg (by omega),if_pos (by omega)]),trivial⟩) (⟨by show OwnB _ _ _ _ _ (br r.err.toNat++fZ r);rw[←show br r.err.toNat++br r.count.toNat=(br r.err.toNat++fZ r) from by unfold fZ;rw[if_neg (by omega),if_neg (by omega),if_pos (by omega)]];exact Own.mono Vv (by omega),au,aq,hx,hn,hE⟩)
    ·refine af (aa ?_)
     refine ve ?_
     refine va ?_
     refine ag (ae ?_)
     refine aL (fun ld=>?_) (fun ld=>?_)
     ·refine aa ?_
      refine vm ?_
      refine ab (ah (off:=5) dI) ?_
      refine ab (ak iG au) ?_
      refine ab (bj Tryz.underlying41) ?_
      refine ab (bv Tryz.underlying3 Tryz.underlying36) ?_
      refine ar (aw oU (fK (r.nums.length) _ (by omega))) ?_
      rintro v w204 ⟨A54,c54,rfl,sx,uz⟩
      replace hx:=RdI.ext hx uz
      replace hn:=hn.ext uz
      replace hE:=hE.tr uz
      replace au:=au.ext uz
      replace aq:=aq.ext uz
      replace eY:=Own.ext eY uz
      have SW:=uz.size
      refine ar (cG cE eY (OwnB.rd sx)) ?_
      rintro v w205 ⟨A55,c55,rfl,nX,EQ,ha55⟩
      have El:=fun g e=>Own.lt eY (g:=g) e
      replace hx:=RdI.gr hx EQ (fun g e=>by have:=El g e;omega)
      replace hn:=hn.gr EQ (fun g e=>by have:=El g e;omega)
      replace hE:=hE.gr EQ (fun g e=>by have:=El g e;omega)
      replace au:=au.gr EQ (by first|(intro e;have:=El _ e;omega)|exact aT eY au (by decide))
      replace aq:=aq.gr EQ (by first|(intro e;have:=El _ e;omega)|exact aT eY aq (by decide))
      refine va ?_
      refine ag (bb ?_)
      refine pY ((A55,c55)) (⟨rfl,rfl,congrArg (fun o=>some (Value.slice A55 (List.length o) c55)) (show br r.err.toNat++br r.nums.length=(br r.err.toNat++fZ r) from by unfold fZ;rw[if_neg (by omega),if_neg (by omega),if_neg (by omega),if_pos (by omega)]),trivial⟩) (⟨by show OwnB _ _ _ _ _ (br r.err.toNat++fZ r);rw[←show br r.err.toNat++br r.nums.length=(br r.err.toNat++fZ r) from by unfold fZ;rw[if_neg (by omega),if_neg (by omega),if_neg (by omega),if_pos (by omega)]];exact Own.mono nX (by omega),au,aq,hx,hn,hE⟩)
     ·refine aS (bb ?_)
      refine pY ((A10,c10)) (⟨rfl,rfl,congrArg (fun o=>some (Value.slice A10 (List.length o) c10)) (show br r.err.toNat=(br r.err.toNat++fZ r) from by unfold fZ;rw[if_neg (by omega),if_neg (by omega),if_neg (by omega),if_neg (by omega),List.append_nil]),trivial⟩) (⟨by show OwnB _ _ _ _ _ (br r.err.toNat++fZ r);rw[←show br r.err.toNat=(br r.err.toNat++fZ r) from by unfold fZ;rw[if_neg (by omega),if_neg (by omega),if_neg (by omega),if_neg (by omega),List.append_nil]];exact Own.mono eY (by omega),au,aq,hx,hn,hE⟩)
 ·rintro⟨A3,c3⟩ wc ⟨l4,au,aq,hx,hn,hE⟩
  show KQ _ _ _ [(1,(.pointer (some ⟨g1,0,none⟩))),(2,(.pointer (some ⟨g2,0,none⟩))),(3,(.slice A3 (br r.err.toNat++fZ r).length c3))] _
  replace l4:OwnB wc w.heap.size 5 A3 c3 (br r.err.toNat++fZ r):=l4
  have hhl:=Ay r
  have un:(br r.err.toNat++fZ r).length=(br r.err.toNat).length+(fZ r).length:=List.length_append
  refine ae (af (af (aa ?_)))
  refine va ?_
  refine ag (ae (a9 ?_))
  refine cU (σ:=Nat×Option Addr×Nat) (fun s=>r.items.length - s.1) (fun s=>[(1,.pointer (some ⟨g1,0,none⟩)),(2,.pointer (some ⟨g2,0,none⟩)),(3,.slice s.2.1 (br r.err.toNat++fZ r++(r.items.take s.1).flatMap wI).length s.2.2),(4,.int .i64 (s.1:Int))]) (fun s w'=>s.1≤r.items.length∧OwnB w' w.heap.size 5 s.2.1 s.2.2 (br r.err.toNat++fZ r++(r.items.take s.1).flatMap wI)∧Blk w' g1 43 (b9 r X cx N cn)∧Blk w' g2 117 [.int .u8 0,.slice none 0 0]∧RdI w' lo hi X cx xs∧RdN w' lo hi N cn r.nums∧Ext w w') ((0,A3,c3)) (⟨Nat.zero_le _,by show OwnB _ _ _ _ _ (br r.err.toNat++fZ r++(r.items.take 0).flatMap wI);rw[show br r.err.toNat++fZ r++(r.items.take 0).flatMap wI=br r.err.toNat++fZ r from by rw[List.take_zero,List.flatMap_nil,List.append_nil]];exact l4,au,aq,hx,hn,hE⟩) ?_ (hL:=⟨rfl,rfl,congrArg (fun o=>some (Value.slice A3 (List.length o) c3)) (show br r.err.toNat++fZ r++(r.items.take 0).flatMap wI=br r.err.toNat++fZ r from by rw[List.take_zero,List.flatMap_nil,List.append_nil]).symm,rfl,trivial⟩)
  rintro⟨i,A3,c3⟩ wq4 ⟨nh,l4,au,aq,hx,hn,hE⟩
  simp only at nh
  replace l4:OwnB wq4 w.heap.size 5 A3 c3 (br r.err.toNat++fZ r++(r.items.take i).flatMap wI):=l4
  have yL:=fun g e=>Own.lt l4 (g:=g) e
  have ud:=hE.size
  have NK:=au.lt
  have Ph:=aq.lt
  have NS:=lE (r.items.take i)
  have hst0:=qE r.items i
  have Ew:(br r.err.toNat++fZ r++(r.items.take i).flatMap wI).length=(br r.err.toNat++fZ r).length+((r.items.take i).flatMap wI).length:=List.length_append
  have Lx:rsz r=(r.items.map o3).sum+10*r.nums.length+100:=rfl
  refine af (af (aa ?_))
  refine vm ?_
  refine ab (ah (off:=2) cJ) ?_
  refine ab (ak fA au) ?_
  refine ab (bj Tryz.underlying40) ?_
  refine ab (bz) ?_
  refine ag (ae ?_)
  refine aL (fun pC=>?_) (fun pC=>?_)
  ·obtain⟨x,hk⟩:∃s,xs[i]?=some s:=⟨_,List.getElem?_eq_getElem (by omega)⟩
   have l6:=m2 hv hk
   have yF:=List.mem_of_getElem? l6
   obtain⟨hd1,WB⟩:=ep.2.1 x.1 yF
   have hxm5:=h5 x.1 yF
   have kI:=hx.2 x (List.mem_of_getElem? hk)
   have hss:=vO l6
   have it:=qE r.items (i+1)
   have hxz:o3 x.1=x.1.value.length+40:=rfl
   have hem:=cw x.1.mark.toNat
   have hev:=cw x.1.ver
   have In:=cw x.1.dead
   have GL:=cw x.1.value.length
   have hla1:((br r.err.toNat++fZ r++(r.items.take i).flatMap wI)++br x.1.mark.toNat).length=(br r.err.toNat++fZ r++(r.items.take i).flatMap wI).length+(br x.1.mark.toNat).length:=List.length_append
   have hla2:((br r.err.toNat++fZ r++(r.items.take i).flatMap wI)++br x.1.mark.toNat++br x.1.ver).length=((br r.err.toNat++fZ r++(r.items.take i).flatMap wI)++br x.1.mark.toNat).length+(br x.1.ver).length:=List.length_append
   have hla3:((br r.err.toNat++fZ r++(r.items.take i).flatMap wI)++br x.1.mark.toNat++br x.1.ver++br x.1.dead).length=((br r.err.toNat++fZ r++(r.items.take i).flatMap wI)++br x.1.mark.toNat++br x.1.ver).length+(br x.1.dead).length:=List.length_append
   have hla4:(br x.1.value.length++x.1.value).length=(br x.1.value.length).length+x.1.value.length:=List.length_append
   refine aS (ae (af (a9 (af (aa ?_)))))
   refine ab (ah (off:=2) cJ) ?_
   refine ab (ak fA au) ?_
   refine aN (d:=64) rfl (v':=(.slice X xs.length cx)) (by rw[←hv,cP]) ?_
   refine vm ?_
   refine ar (cS (m:=(i)) nm hx.1 hk) ?_
   rintro v _ ⟨rfl,p66,rfl,BL,PQ,P1⟩
   refine ab (dX (cs:=[(.int .i64 x.1.mark),(.slice x.2.1 x.1.value.length x.2.2),(.int .u64 (↑x.1.ver:Int)),(.int .u64 (↑x.1.dead:Int))]) jI BL) ?_
   refine ar (bc (cs:=[(.int .i64 0),(.slice none 0 0),(.int .u64 0),(.int .u64 0)]) tD) ?_
   rintro v w204 ⟨g5,rfl,bu,f0,Am,GJ⟩
   replace l4:=Own.ext l4 f0
   replace au:=au.ext f0
   replace aq:=aq.ext f0
   replace hx:=RdI.ext hx f0
   replace hn:=hn.ext f0
   replace hE:=hE.tr f0
   replace kI:=kI.ext f0
   refine aB (aD (vs:=[(.int .i64 x.1.mark),(.slice x.2.1 x.1.value.length x.2.2),(.int .u64 (↑x.1.ver:Int)),(.int .u64 (↑x.1.dead:Int))]) x7 bu) ?_
   rintro _ w205 ⟨cy,ba⟩
   have wJ:=ba.size
   replace l4:=Own.gr l4 ba (by first|exact .inl rfl|(right;intro e;first|(have:=yL _ e;omega)|(have:=Own.lt l4 e;omega)|exact aT l4 bu (by decide) e))
   replace au:=au.gr ba
   replace aq:=aq.gr ba
   replace hx:=RdI.gr hx ba (fun _ e=>by cases e;omega)
   replace hn:=hn.gr ba
   replace hE:=hE.gr ba
   replace kI:=kI.gr ba
   replace bu:=cy
   refine ag (ae (af (aa ?_)))
   refine vm ?_
   refine ab (ah (off:=0) fO) ?_
   refine ab (ak lg bu) ?_
   refine ab (bv Tryz.underlying78 Tryz.underlying36) ?_
   refine aN (d:=71) rfl (v':=(.int .u64 (↑x.1.mark.toNat:Int))) (by rw[Int.toNat_of_nonneg (by omega)]) ?_
   refine ar (aw oU (fK (x.1.mark.toNat) _ (by omega))) ?_
   rintro v w206 ⟨A72,c72,rfl,Vt,uy⟩
   replace l4:=Own.ext l4 uy
   replace au:=au.ext uy
   replace aq:=aq.ext uy
   replace hx:=RdI.ext hx uy
   replace hn:=hn.ext uy
   replace hE:=hE.tr uy
   replace kI:=kI.ext uy
   replace bu:=bu.ext uy
   have SU:=uy.size
   refine ar (cG cE l4 (OwnB.rd Vt)) ?_
   rintro v w207 ⟨A73,c73,rfl,wW,xd,ha73⟩
   have yO:=fun g e=>Own.lt l4 (g:=g) e
   have SE:=xd.size
   replace au:=au.gr xd (by first|(intro e;have:=yO _ e;omega)|exact aT l4 au (by decide))
   replace aq:=aq.gr xd (by first|(intro e;have:=yO _ e;omega)|exact aT l4 aq (by decide))
   replace hx:=RdI.gr hx xd (fun g e=>by have:=yO g e;omega)
   replace hn:=hn.gr xd (fun g e=>by have:=yO g e;omega)
   replace hE:=hE.gr xd (fun g e=>by have:=yO g e;omega)
   replace kI:=kI.gr xd (fun g e=>by have:=yO g e;omega)
   replace bu:=bu.gr xd (by first|(intro e;have:=yO _ e;omega)|exact aT l4 bu (by decide))
   refine va ?_
   refine ag (ae (af (aa ?_)))
   refine ab (ah (off:=0) fO) ?_
   refine ab (ak lg bu) ?_
   refine ab (bS) ?_
   refine ag (ae ?_)
   refine aL (fun E7=>?_) (fun E7=>?_)
   ·have vw:¬x.1.mark=0:=by omega
    refine af (aa ?_)
    refine vm ?_
    refine ab (ah (off:=2) pI) ?_
    refine ab (ak ft bu) ?_
    refine ar (aw oU (fK (x.1.ver) _ (by omega))) ?_
    rintro v w208 ⟨A80,c80,rfl,Vr,ux⟩
    replace au:=au.ext ux
    replace aq:=aq.ext ux
    replace hx:=RdI.ext hx ux
    replace hn:=hn.ext ux
    replace hE:=hE.tr ux
    replace kI:=kI.ext ux
    replace bu:=bu.ext ux
    replace wW:=Own.ext wW ux
    have SS:=ux.size
    refine ar (cG cE wW (OwnB.rd Vr)) ?_
    rintro v w209 ⟨A81,c81,rfl,uo,xc,ha81⟩
    have yN:=fun g e=>Own.lt wW (g:=g) e
    have SD:=xc.size
    replace au:=au.gr xc (by first|(intro e;have:=yN _ e;omega)|exact aT wW au (by decide))
    replace aq:=aq.gr xc (by first|(intro e;have:=yN _ e;omega)|exact aT wW aq (by decide))
    replace hx:=RdI.gr hx xc (fun g e=>by have:=yN g e;omega)
    replace hn:=hn.gr xc (fun g e=>by have:=yN g e;omega)
    replace hE:=hE.gr xc (fun g e=>by have:=yN g e;omega)
    replace kI:=kI.gr xc (fun g e=>by have:=yN g e;omega)
    replace bu:=bu.gr xc (by first|(intro e;have:=yN _ e;omega)|exact aT wW bu (by decide))
    refine va ?_
    refine ag (ae (af (aa ?_)))
    refine vm ?_
    refine ab (ah (off:=3) pH) ?_
    refine ab (ak pg bu) ?_
    refine ar (aw oU (fK (x.1.dead) _ (by omega))) ?_
    rintro v w210 ⟨A85,c85,rfl,Vq,uw⟩
    replace au:=au.ext uw
    replace aq:=aq.ext uw
    replace hx:=RdI.ext hx uw
    replace hn:=hn.ext uw
    replace hE:=hE.tr uw
    replace kI:=kI.ext uw
    replace bu:=bu.ext uw
    replace uo:=Own.ext uo uw
    have SQ:=uw.size
    refine ar (cG cE uo (OwnB.rd Vq)) ?_
    rintro v w211 ⟨A86,c86,rfl,BP,xb,ha86⟩
    have yM:=fun g e=>Own.lt uo (g:=g) e
    have SC:=xb.size
    replace au:=au.gr xb (by first|(intro e;have:=yM _ e;omega)|exact aT uo au (by decide))
    replace aq:=aq.gr xb (by first|(intro e;have:=yM _ e;omega)|exact aT uo aq (by decide))
    replace hx:=RdI.gr hx xb (fun g e=>by have:=yM g e;omega)
    replace hn:=hn.gr xb (fun g e=>by have:=yM g e;omega)
    replace hE:=hE.gr xb (fun g e=>by have:=yM g e;omega)
    replace kI:=kI.gr xb (fun g e=>by have:=yM g e;omega)
    replace bu:=bu.gr xb (by first|(intro e;have:=yM _ e;omega)|exact aT uo bu (by decide))
    refine va ?_
    refine ag (ae (aa ?_))
    refine vm ?_
    refine ab (ah (off:=1) iB) ?_
    refine ab (ak dc bu) ?_
    refine ar (aw YK (so _ _ _ _ _ x.1.value kI (by omega))) ?_
    rintro v w212 ⟨A90,c90,rfl,Vp,rA⟩
    replace au:=au.ext rA
    replace aq:=aq.ext rA
    replace hx:=RdI.ext hx rA
    replace hn:=hn.ext rA
    replace hE:=hE.tr rA
    replace BP:=Own.ext BP rA
    have SO:=rA.size
    refine ar (cG cE BP (OwnB.rd Vp)) ?_
    rintro v w213 ⟨A91,c91,rfl,Vn,EP,ha91⟩
    have Ek:=fun g e=>Own.lt BP (g:=g) e
    replace au:=au.gr EP (by first|(intro e;have:=Ek _ e;omega)|exact aT BP au (by decide))
    replace aq:=aq.gr EP (by first|(intro e;have:=Ek _ e;omega)|exact aT BP aq (by decide))
    replace hx:=RdI.gr hx EP (fun g e=>by have:=Ek g e;omega)
    replace hn:=hn.gr EP (fun g e=>by have:=Ek g e;omega)
    replace hE:=hE.gr EP (fun g e=>by have:=Ek g e;omega)
    refine va ?_
    refine ag (bb (ae (aa ?_)))
    refine vm ?_
    refine ab (bH) ?_
    refine va ?_
    refine ag ?_
    have xo:(((((br r.err.toNat++fZ r++(r.items.take i).flatMap wI)++(br (x.1.mark.toNat)))++(br (x.1.ver)))++(br (x.1.dead)))++(br x.1.value.length++x.1.value))=(br r.err.toNat++fZ r++(r.items.take (i+1)).flatMap wI):=by rw[m0 l6,←List.append_assoc,tE vw];simp only[List.append_assoc]
    refine cB ((i+1,A91,c91)) (by show r.items.length -(i+1)<r.items.length - i;omega) (⟨by show i+1≤_;omega,by show OwnB _ _ _ _ _ (br r.err.toNat++fZ r++(r.items.take (i+1)).flatMap wI);rw[←xo];exact Own.mono Vn (by omega),au,aq,hx,hn,hE⟩) (hL:=⟨rfl,rfl,congrArg (fun o=>some (Value.slice A91 (List.length o) c91)) xo,rfl,trivial⟩)
   ·have vw:x.1.mark=0:=by omega
    refine aS (bb (ae (aa ?_)))
    refine vm ?_
    refine ab (bH) ?_
    refine va ?_
    refine ag ?_
    have xo:((br r.err.toNat++fZ r++(r.items.take i).flatMap wI)++(br (x.1.mark.toNat)))=(br r.err.toNat++fZ r++(r.items.take (i+1)).flatMap wI):=by rw[m0 l6,←List.append_assoc,oo vw]
    refine cB ((i+1,A73,c73)) (by show r.items.length -(i+1)<r.items.length - i;omega) (⟨by show i+1≤_;omega,by show OwnB _ _ _ _ _ (br r.err.toNat++fZ r++(r.items.take (i+1)).flatMap wI);rw[←xo];exact Own.mono wW (by omega),au,aq,hx,hn,hE⟩) (hL:=⟨rfl,rfl,congrArg (fun o=>some (Value.slice A73 (List.length o) c73)) xo,rfl,trivial⟩)
  ·have pr:r.items.take i=r.items:=List.take_of_length_le (by omega)
   rw[pr] at l4 Ew
   rw[pr]
   refine cW (bx (bx (ce (ae (af (aa ?_))))))
   refine va ?_
   refine ag (ae (a9 ?_))
   refine cU (σ:=Nat×Option Addr×Nat) (fun s=>r.nums.length - s.1) (fun s=>[(1,.pointer (some ⟨g1,0,none⟩)),(2,.pointer (some ⟨g2,0,none⟩)),(3,.slice s.2.1 (br r.err.toNat++fZ r++r.items.flatMap wI++(r.nums.take s.1).flatMap br).length s.2.2),(6,.int .i64 (s.1:Int))]) (fun s w'=>s.1≤r.nums.length∧OwnB w' w.heap.size 5 s.2.1 s.2.2 (br r.err.toNat++fZ r++r.items.flatMap wI++(r.nums.take s.1).flatMap br)∧Blk w' g1 43 (b9 r X cx N cn)∧Blk w' g2 117 [.int .u8 0,.slice none 0 0]∧RdI w' lo hi X cx xs∧RdN w' lo hi N cn r.nums∧Ext w w') ((0,A3,c3)) (⟨Nat.zero_le _,by show OwnB _ _ _ _ _ (br r.err.toNat++fZ r++r.items.flatMap wI++(r.nums.take 0).flatMap br);rw[show br r.err.toNat++fZ r++r.items.flatMap wI++(r.nums.take 0).flatMap br=br r.err.toNat++fZ r++r.items.flatMap wI from by rw[List.take_zero,List.flatMap_nil,List.append_nil]];exact l4,au,aq,hx,hn,hE⟩) ?_ (hL:=⟨rfl,rfl,congrArg (fun o=>some (Value.slice A3 (List.length o) c3)) (show br r.err.toNat++fZ r++r.items.flatMap wI++(r.nums.take 0).flatMap br=br r.err.toNat++fZ r++r.items.flatMap wI from by rw[List.take_zero,List.flatMap_nil,List.append_nil]).symm,rfl,trivial⟩)
   rintro⟨i,A3,c3⟩ wq6 ⟨nh,l4,au,aq,hx,hn,hE⟩
   simp only at nh
   replace l4:OwnB wq6 w.heap.size 5 A3 c3 (br r.err.toNat++fZ r++r.items.flatMap wI++(r.nums.take i).flatMap br):=l4
   have yL:=fun g e=>Own.lt l4 (g:=g) e
   have ud:=hE.size
   have NK:=au.lt
   have Ph:=aq.lt
   have Qg:=oS (r.nums.take i)
   rw[List.length_take] at Qg
   have NS:=lE r.items
   have Ew:(br r.err.toNat++fZ r++r.items.flatMap wI++(r.nums.take i).flatMap br).length=(br r.err.toNat++fZ r).length+(r.items.flatMap wI).length+((r.nums.take i).flatMap br).length:=by rw[List.length_append,List.length_append]
   have Lx:rsz r=(r.items.map o3).sum+10*r.nums.length+100:=rfl
   refine af (af (aa ?_))
   refine vm ?_
   refine ab (ah (off:=5) dI) ?_
   refine ab (ak iG au) ?_
   refine ab (bj Tryz.underlying41) ?_
   refine ab (bz) ?_
   refine ag (ae ?_)
   refine aL (fun Ir=>?_) (fun Ir=>?_)
   ·obtain⟨n,hk⟩:∃n,r.nums[i]?=some n:=⟨_,List.getElem?_eq_getElem (by omega)⟩
    have hnb:=ep.2.2.1 n (List.mem_of_getElem? hk)
    have eB:=cw n
    refine aS (ae (af (a9 (aa ?_))))
    refine vm ?_
    refine ab (ah (off:=5) dI) ?_
    refine ab (ak iG au) ?_
    refine vm ?_
    refine ar (cS (m:=(i)) sn hn hk) ?_
    rintro v _ ⟨rfl,p103,rfl,Qa,U9,Vb⟩
    refine ab (dv ft rfl (fg Qa)) ?_
    refine ar (aw oU (fK (n) _ (by omega))) ?_
    rintro v w204 ⟨A105,c105,rfl,Qf,rE⟩
    replace l4:=Own.ext l4 rE
    replace au:=au.ext rE
    replace aq:=aq.ext rE
    replace hx:=RdI.ext hx rE
    replace hn:=hn.ext rE
    replace hE:=hE.tr rE
    have Pf:=rE.size
    refine ar (cG cE l4 (OwnB.rd Qf)) ?_
    rintro v w205 ⟨A106,c106,rfl,Qe,xj,ha106⟩
    have wU:=fun g e=>Own.lt l4 (g:=g) e
    replace au:=au.gr xj (by first|(intro e;have:=wU _ e;omega)|exact aT l4 au (by decide))
    replace aq:=aq.gr xj (by first|(intro e;have:=wU _ e;omega)|exact aT l4 aq (by decide))
    replace hx:=RdI.gr hx xj (fun g e=>by have:=wU g e;omega)
    replace hn:=hn.gr xj (fun g e=>by have:=wU g e;omega)
    replace hE:=hE.gr xj (fun g e=>by have:=wU g e;omega)
    refine va ?_
    refine ag (bb (ae (aa ?_)))
    refine vm ?_
    refine ab (bH) ?_
    refine va ?_
    refine ag ?_
    have xo:((br r.err.toNat++fZ r++r.items.flatMap wI++(r.nums.take i).flatMap br)++br n)=(br r.err.toNat++fZ r++r.items.flatMap wI++(r.nums.take (i+1)).flatMap br):=by rw[rT hk,←List.append_assoc]
    refine cB ((i+1,A106,c106)) (by show r.nums.length -(i+1)<r.nums.length - i;omega) (⟨by show i+1≤_;omega,by show OwnB _ _ _ _ _ (br r.err.toNat++fZ r++r.items.flatMap wI++(r.nums.take (i+1)).flatMap br);rw[←xo];exact Own.mono Qe (by omega),au,aq,hx,hn,hE⟩) (hL:=⟨rfl,rfl,congrArg (fun o=>some (Value.slice A106 (List.length o) c106)) xo,rfl,trivial⟩)
   ·have pr:r.nums.take i=r.nums:=List.take_of_length_le (by omega)
    rw[pr] at l4 Ew
    rw[pr]
    refine cW (bx (bx (ce (ae (af (aa ?_))))))
    refine ab (ah (off:=0) cj) ?_
    refine ab (ak cO au) ?_
    refine ab (bH) ?_
    refine ab (bv Tryz.underlying3 Tryz.underlying5 (hm:=vD)) ?_
    refine vm ?_
    refine ab (bi (cs:=[(.int .u8 (↑(dF r).toNat:Int)),(.slice A3 (br r.err.toNat++fZ r++r.items.flatMap wI++r.nums.flatMap br).length c3)]) dN f8) ?_
    refine aB (aD (vs:=[(.int .u8 (↑(dF r).toNat:Int)),(.slice A3 (br r.err.toNat++fZ r++r.items.flatMap wI++r.nums.flatMap br).length c3)]) du aq) ?_
    rintro _ w204 ⟨dR,bM⟩
    replace l4:=Own.gr l4 bM (by first|exact .inl rfl|(right;intro e;first|(have:=yL _ e;omega)|(have:=Own.lt l4 e;omega)|exact aT l4 aq (by decide) e))
    replace hE:=hE.gr bM
    replace aq:=dR
    refine ag (ae (aE ?_))
    refine bm (rs:=[.cell 2 117]) (vs:=[.agg #[(.int .u8 (↑(dF r).toNat:Int)),(.slice A3 (br r.err.toNat++fZ r++r.items.flatMap wI++r.nums.flatMap br).length c3)]]) rfl ⟨⟨_,_,[(.int .u8 (↑(dF r).toNat:Int)),(.slice A3 (br r.err.toNat++fZ r++r.items.flatMap wI++r.nums.flatMap br).length c3)],rfl,bN,aq,rfl⟩,trivial⟩ ?_
    have e1:nn r=br r.err.toNat++fZ r++r.items.flatMap wI++r.nums.flatMap br:=by unfold nn;rw[if_pos o4];simp only[List.append_assoc]
    rw[e1]
    exact⟨A3,c3,rfl,l4,hE⟩
theorem G5 (w:World) (r:Rsp) (xs:List IT) (hv:vals xs=r.items) (lo hi:Nat) (X:Option Addr) (cx:Nat) (N:Option Addr) (cn:Nat) (hx:RdI w lo hi X cx xs) (hn:RdN w lo hi N cn r.nums) (ep:RspOk r) (gf:rsz r≤4398046511104) (h1:0≤r.op) (h2:r.op≤15) (h3:0≤r.err) (NY:r.err≤9223372036854775807) (h4:0≤r.count) (h5:∀x∈r.items,0≤x.mark∧x.mark≤9223372036854775807):
  Fn Tryz.prog 59 #[.agg (b9 r X cx N cn).toArray] w (fun v w'=>∃A c,v=.agg #[.int .u8 ((dF r).toNat:Int),.slice A (nn r).length c]∧OwnB w' w.heap.size 5 A c (nn r)∧Ext w w'):=by
 by_cases h:r.err=0
 ·exact Oi w r xs hv lo hi X cx N cn hx hn ep gf h1 h2 h3 NY h4 h5 h
 ·exact Oh w r xs hv lo hi X cx N cn hx hn ep gf h1 h2 h3 NY h4 h5 h
end Go.Proofs.YtiighkbehiddkaaGreat
namespace Go.Proofs.YtiighkbehiddkaaGreat
open Go.RowKit
set_option linter.unusedVariables false
set_option maxRecDepth 4000
theorem I5:aX Tryz.prog 16=true:=by kernel_rfl
theorem Nw:aX Tryz.prog 17=true:=by kernel_rfl
theorem I4:aX Tryz.prog 18=true:=by kernel_rfl
theorem zk:aX Tryz.prog 22=true:=by kernel_rfl
theorem YV:aX Tryz.prog 58=true:=by kernel_rfl
theorem YU:aX Tryz.prog 59=true:=by kernel_rfl
section
variable {w w':World} {g:Nat} {S S2:List Nat} {a b:Nat} {s:Cn}
theorem Cnn.ext (h:Cnn w g S a b s) (e:Ext w w'):Cnn w' g S a b s:=by
 obtain⟨p,rfl,hb,hR⟩:=h
 exact⟨p,rfl,hb.ext e,hR.ext e⟩
theorem Cnn.kp (h:Cnn w g S a b s) (k:Kp S2 w w') (hd:∀x∈S2,x∉S∧(x<a∨b≤x)):Cnn w' g S a b s:=by
 obtain⟨p,rfl,hb,hR⟩:=h
 refine⟨p,rfl,k.bk hb (fun e=>(hd g e).1 (dZ _ _)),hR.kp k fun x hx=>⟨?_,?_,?_,?_,(hd x hx).2⟩⟩
 ·rintro rfl;exact(hd _ hx).1 (jz _ _)
 ·rintro rfl;exact(hd _ hx).1 (iO _ _)
 ·intro e;exact(hd _ hx).1 (kV e)
 ·intro e;exact(hd _ hx).1 (kb e)
theorem Cnn.bnd (h:Cnn w g S a b s):(∀x∈S,x<w.heap.size∧(x<a∨b≤x))∧b≤w.heap.size:=by
 obtain⟨p,rfl,hb,hR⟩:=h
 exact⟨hR.sep,hR.hb⟩
theorem Cnn.ok (h:Cnn w g S a b s):CnOk s:=by
 obtain⟨p,rfl,hb,hR⟩:=h
 exact hR.ok
theorem Cnn.cap (h:Cnn w g S a b s):s.out.length≤s.co∧s.co≤1048576:=by
 obtain⟨p,rfl,hb,hR⟩:=h
 have:=hR.buf.cap
 omega
theorem Cnn.grf {g3 B:Nat} (h:Cnn w g S a b s) (k:Gr w w' (some g3)) (hB:(∀x∈S,x<B)∧b≤B) (h3:B≤g3):Cnn w' g S a b s:=h.kp (Kp.of_gr k) fun x hx=>by
 have e:x=g3:=by simpa using hx
 subst e
 have:=hB.2
 exact⟨fun q=>by have:=hB.1 _ q;omega,by omega⟩
end
theorem z0 (w:World) (g:Nat) (S:List Nat) (a b:Nat) (s:Cn) (hc:Cnn w g S a b s) (lo2 eO:Nat) (B:Option Addr) (c2:Nat) (q:List UInt8) (kJ:RdB w lo2 eO B c2 q) (Js:∀x∈S,x<lo2∨eO≤x) (Qo:q.length≤1099511627776):Fn Tryz.prog 16 #[.pointer (some ⟨g,0,none⟩),.slice B q.length c2] w (fun v w'=>v=.tuple #[.int .i64 ((cT s q).2.1:Int),.int .i64 ((cT s q).2.2:Int)]∧CnTo w w' g S a b (cT s q).1):=by
 obtain⟨p,rfl,hb,hR⟩:=hc
 obtain⟨gb,gd,Db,Dd,K,ck,V,cv,T,ct,X,cx,xs,N,cn,A,c⟩:=p
 exact I7 w g a b s gb gd Db Dd K ck V cv T ct X cx xs N cn A c hb hR lo2 eO B c2 q kJ Js Qo
theorem yA (w:World) (g:Nat) (S:List Nat) (a b:Nat) (s:Cn) (hc:Cnn w g S a b s) (H0:s.pt≤4611686018427387904):Fn Tryz.prog 17 #[.pointer (some ⟨g,0,none⟩)] w (fun v w'=>v=.tuple #[.int .i64 ((b8 s).2:Int),.int .i64 0]∧CnTo w w' g S a b (b8 s).1):=by
 obtain⟨p,rfl,hb,hR⟩:=hc
 obtain⟨gb,gd,Db,Dd,K,ck,V,cv,T,ct,X,cx,xs,N,cn,A,c⟩:=p
 exact F6 w g a b s gb gd Db Dd K ck V cv T ct X cx xs N cn A c hb hR H0
theorem zZ (w:World) (g:Nat) (S:List Nat) (a b:Nat) (s:Cn) (hc:Cnn w g S a b s) (n:Int) (BU:-9223372036854775808≤n) (kA:n≤9223372036854775807) (ht:s.tk≤4611686018427387904):Fn Tryz.prog 20 #[.pointer (some ⟨g,0,none⟩),.int .i64 n] w (fun v w'=>∃B c2,v=.tuple #[.slice B (dW s.out n).1.length c2,.int .i64 ((dW s.out n).2:Int)]∧OwnB w' w.heap.size 5 B c2 (dW s.out n).1∧CnTo w w' g S a b (lZ s n).1):=by
 obtain⟨p,rfl,hb,hR⟩:=hc
 obtain⟨gb,gd,Db,Dd,K,ck,V,cv,T,ct,X,cx,xs,N,cn,A,c⟩:=p
 exact CJ w g a b s gb gd Db Dd K ck V cv T ct X cx xs N cn A c hb hR n BU kA ht
theorem oE (w:World) (g:Nat) (S:List Nat) (a b:Nat) (s:Cn) (hc:Cnn w g S a b s):Fn Tryz.prog 25 #[.pointer (some ⟨g,0,none⟩)] w (fun v w'=>v=.int .i64 (s.ph:Int)∧Ext w w'):=by
 obtain⟨p,rfl,hb,hR⟩:=hc
 obtain⟨gb,gd,Db,Dd,K,ck,V,cv,T,ct,X,cx,xs,N,cn,A,c⟩:=p
 exact CD w g a b s gb gd Db Dd K ck V cv T ct X cx xs N cn A c hb hR
theorem qg (w:World) (g:Nat) (S:List Nat) (a b:Nat) (s:Cn) (hc:Cnn w g S a b s):Fn Tryz.prog 21 #[.pointer (some ⟨g,0,none⟩)] w (fun v w'=>v=.tuple #[.int .i64 (jo s.cl s.held:Int),.int .i64 (s.out.length:Int)]∧Ext w w'):=by
 obtain⟨p,rfl,hb,hR⟩:=hc
 obtain⟨gb,gd,Db,Dd,K,ck,V,cv,T,ct,X,cx,xs,N,cn,A,c⟩:=p
 exact CB w g a b s gb gd Db Dd K ck V cv T ct X cx xs N cn A c hb hR
theorem z1 (w:World) (g:Nat) (S:List Nat) (a b:Nat) (s:Cn) (hc:Cnn w g S a b s):Fn Tryz.prog 18 #[.pointer (some ⟨g,0,none⟩)] w (fun v w'=>∃K' ck' V' cv' T' ct',v=.tuple #[.agg (cL (bX s) K' ck' V' cv' T' ct').toArray,.int .i64 (fe s 2:Int)]∧RdS w' w.heap.size w'.heap.size K' ck' (bX s).keys∧RdB w' w.heap.size w'.heap.size V' cv' (bX s).value∧RdS w' w.heap.size w'.heap.size T' ct' (bX s).tags∧Ext w w'):=by
 obtain⟨p,rfl,hb,hR⟩:=hc
 obtain⟨gb,gd,Db,Dd,K,ck,V,cv,T,ct,X,cx,xs,N,cn,A,c⟩:=p
 exact I8 w g a b s gb gd Db Dd K ck V cv T ct X cx xs N cn A c hb hR
theorem zY (w:World) (g:Nat) (S:List Nat) (a b:Nat) (s:Cn) (hc:Cnn w g S a b s):Fn Tryz.prog 19 #[.pointer (some ⟨g,0,none⟩)] w (fun v w'=>∃X' cx' N' cn' xs',v=.tuple #[.agg (b9 (dp s) X' cx' N' cn').toArray,.int .i64 (fe s 3:Int)]∧vals xs'=(dp s).items∧RdI w' w.heap.size w'.heap.size X' cx' xs'∧RdN w' w.heap.size w'.heap.size N' cn' (dp s).nums∧Ext w w'):=by
 obtain⟨p,rfl,hb,hR⟩:=hc
 obtain⟨gb,gd,Db,Dd,K,ck,V,cv,T,ct,X,cx,xs,N,cn,A,c⟩:=p
 exact IU w g a b s gb gd Db Dd K ck V cv T ct X cx xs N cn A c hb hR
theorem KC (w:World) (g:Nat) (S:List Nat) (a b:Nat) (s:Cn) (hc:Cnn w g S a b s):Fn Tryz.prog 26 #[.pointer (some ⟨g,0,none⟩)] w (fun v w'=>∃g' S',v=.pointer (some ⟨g',0,none⟩)∧Cnn w' g' S' a b s∧(∀x∈S',w.heap.size≤x)∧Ext w w'):=by
 obtain⟨p,rfl,hb,hR⟩:=hc
 obtain⟨gb,gd,Db,Dd,K,ck,V,cv,T,ct,X,cx,xs,N,cn,A,c⟩:=p
 exact Gt w g a b s gb gd Db Dd K ck V cv T ct X cx xs N cn A c hb hR
theorem DS (w:World) (g:Nat) (S:List Nat) (a b:Nat) (s:Cn) (hc:Cnn w g S a b s) (r:Rsp) (xs9:List IT) (sg:vals xs9=r.items) (lo9 lM:Nat) (X9:Option Addr) (cx9:Nat) (N9:Option Addr) (cn9:Nat) (ju:RdI w lo9 lM X9 cx9 xs9) (pp:RspOk r) (ug:rsz r≤4398046511104) (i6:RdN w lo9 lM N9 cn9 r.nums:=by exact Rd.nil _ _ _ _ _ _ (Nat.zero_le _)):Fn Tryz.prog 24 #[.pointer (some ⟨g,0,none⟩),.agg (b9 r X9 cx9 N9 cn9).toArray] w (fun v w'=>v=.int .i64 ((dG s r).2:Int)∧CnTo w w' g S a b (dG s r).1):=by
 obtain⟨p,rfl,hb,hR⟩:=hc
 obtain⟨gb,gd,Db,Dd,K,ck,V,cv,T,ct,X,cx,xs,N,cn,A,c⟩:=p
 by_cases h:(mf r).2=0
 ·exact Gu w g a b s gb gd Db Dd K ck V cv T ct X cx xs N cn A c hb hR r xs9 sg lo9 lM X9 cx9 N9 cn9 ju i6 pp ug h
 ·exact Gv w g a b s gb gd Db Dd K ck V cv T ct X cx xs N cn A c hb hR r xs9 sg lo9 lM X9 cx9 N9 cn9 ju i6 pp ug h
/-- The bytes of the frame of a response, by the reference. -/
def kr (r:Rsp):List UInt8:=(jF (dF r) (nn r)).1
theorem Dj (r:Rsp):(nn r).length≤rsz r+40:=by
 have h1:=cw r.err.toNat
 have h2:=Ay r
 have h3:=lE r.items
 have h4:=oS r.nums
 unfold nn rsz
 rw[List.length_append]
 split
 ·rw[List.length_append,List.length_append];omega
 ·rw[List.length_nil];omega
theorem mT (w:World) (r:Rsp) (xs:List IT) (hv:vals xs=r.items) (lo hi:Nat) (X:Option Addr) (cx:Nat) (N:Option Addr) (cn:Nat) (hx:RdI w lo hi X cx xs) (hn:RdN w lo hi N cn r.nums) (ep:RspOk r) (gf:rsz r≤4398046511104) (h1:0≤r.op) (h2:r.op≤15) (h3:0≤r.err) (NY:r.err≤9223372036854775807) (h4:0≤r.count) (h5:∀x∈r.items,0≤x.mark∧x.mark≤9223372036854775807):
  Fn Tryz.prog 28 #[(.agg #[(.int .i64 r.op),(.int .i64 r.err),(.slice X r.items.length cx),(.int .u64 (↑r.ver:Int)),(.int .i64 r.count),(.slice N r.nums.length cn)])] w (fun v w'=>∃A c,v=.slice A (kr r).length c∧OwnB w' w.heap.size 5 A c (kr r)∧Ext w w'):=by
 replace hx:=hx.top
 replace hn:=Rd.top hn
 have hE:=aP w
 have UF:=Dj r
 refine aO Tryz.func28 ?_
 refine af (aa ?_)
 refine ar (bU) ?_
 rintro v w1 ⟨g1,rfl,au,dL,kM,ls⟩
 replace hx:=RdI.ext hx dL
 replace hn:=hn.ext dL
 replace hE:=hE.tr dL
 refine va ?_
 refine ag (ae (af (aa ?_)))
 refine ab (aK (cs:=[(.int .i64 r.op),(.int .i64 r.err),(.slice X r.items.length cx),(.int .u64 (↑r.ver:Int)),(.int .i64 r.count),(.slice N r.nums.length cn)]) bZ au) ?_
 refine ar (aw YU (G5 _ r xs hv _ _ X cx N cn hx hn ep gf h1 h2 h3 NY h4 h5)) ?_
 rintro v w2 ⟨A7,c7,rfl,sw,eS⟩
 replace hE:=hE.tr eS
 have t7:=eS.size
 refine ar (aw YV (vU _ _ _ ((dF r)) _ _ (nn r) (OwnB.rd sw) (by omega))) ?_
 rintro v w3 ⟨A8,c8,rfl,sh,mg⟩
 replace hE:=hE.tr mg
 refine vm ?_
 iterate 2 refine vx ?_
 iterate 2 refine va ?_
 refine ag (ae (af (aa ?_)))
 refine vm ?_
 refine va ?_
 refine ag (ae (aE ?_))
 refine aY ?_
 exact⟨A8,c8,rfl,Own.mono sh (by omega),hE⟩
theorem oC (w:World) (g:Nat) (S:List Nat) (a b:Nat) (s:Cn) (hc:Cnn w g S a b s) (want:Int) (lo2 eO:Nat) (B:Option Addr) (c2:Nat) (q:List UInt8) (kJ:RdB w lo2 eO B c2 q) (Js:∀x∈S,x<lo2∨eO≤x) (hw:((cT s q).2.1:Int)=want∧(cT s q).2.2=0) (Qo:q.length≤1099511627776:=by decide):
  Fn Tryz.prog 29 #[(.pointer (some ⟨g,0,none⟩)),(.int .i64 want),(.slice B q.length c2)] w (fun v w'=>v=.bool true∧CnTo w w' g S a b (cT s q).1):=by
 refine aO (args:=[(.pointer (some ⟨g,0,none⟩)),(.int .i64 want),(.slice B q.length c2)]) Tryz.func29 ?_
 refine af (aa ?_)
 refine va ?_
 refine ag (ae (af (aa ?_)))
 iterate 2 refine vm ?_
 refine ar (aw I5 (z0 _ g S a b s hc lo2 eO B c2 q kJ Js Qo)) ?_
 rintro v w1 ⟨rfl,yH⟩
 refine vm ?_
 iterate 2 refine vx ?_
 iterate 2 refine va ?_
 refine ag (ae (af (aa ?_)))
 iterate 2 refine vm ?_
 refine ve ?_
 refine aN (d:=17) rfl (bt (hw.1)) ?_
 refine vm ?_
 refine aj (aF) ?_
 refine aj (cI) ?_
 refine aN (d:=20) rfl (bt (by rw[hw.2];rfl)) ?_
 refine ab (ay) ?_
 refine va ?_
 refine ag (ae (aE ?_))
 refine aY ?_
 exact⟨rfl,yH⟩
theorem fu (w:World) (g:Nat) (S:List Nat) (a b:Nat) (s:Cn) (hc:Cnn w g S a b s) (want:Int) (H0:s.pt≤4611686018427387904) (hw:((b8 s).2:Int)=want):
  Fn Tryz.prog 30 #[(.pointer (some ⟨g,0,none⟩)),(.int .i64 want)] w (fun v w'=>v=.bool true∧CnTo w w' g S a b (b8 s).1):=by
 refine aO Tryz.func30 ?_
 refine af (aa ?_)
 refine va ?_
 refine ag (ae (af (aa ?_)))
 refine vm ?_
 refine ar (aw Nw (yA _ g S a b s hc H0)) ?_
 rintro v w1 ⟨rfl,yH⟩
 refine vm ?_
 iterate 2 refine vx ?_
 iterate 2 refine va ?_
 refine ag (ae (af (aa ?_)))
 iterate 2 refine vm ?_
 refine ve ?_
 refine aN (d:=14) rfl (bt (hw)) ?_
 refine vm ?_
 refine aj (aF) ?_
 refine aj (cI) ?_
 refine ab (ay) ?_
 refine va ?_
 refine ag (ae (aE ?_))
 refine aY ?_
 exact⟨rfl,yH⟩
theorem s6 (w:World) (g:Nat) (S:List Nat) (a b:Nat) (s:Cn) (hc:Cnn w g S a b s) (x:Cmd) (lo2 eO:Nat) (K2:Option Addr) (ck2:Nat) (V2:Option Addr) (cv2:Nat) (T2:Option Addr) (ct2:Nat) (hw:bX s=x∧fe s 2=0) (gN:RdS w lo2 eO K2 ck2 x.keys:=by exact Rd.nil _ _ _ _ _ _ (Nat.zero_le _)) (kP:RdB w lo2 eO V2 cv2 x.value:=by exact Rd.nil _ _ _ _ _ _ (Nat.zero_le _)) (kQ:RdS w lo2 eO T2 ct2 x.tags:=by exact Rd.nil _ _ _ _ _ _ (Nat.zero_le _)):
  Fn Tryz.prog 32 #[(.pointer (some ⟨g,0,none⟩)),(.agg #[(.int .i64 x.op),(.string (av x.key)),(.slice K2 x.keys.length ck2),(.slice V2 x.value.length cv2),(.slice T2 x.tags.length ct2),(.int .u64 (↑x.life:Int)),(.int .u64 (↑x.ver:Int)),(.string (av x.tag)),(.string (av x.pre)),(.string (av x.child))])] w (fun v w'=>v=.bool true∧Ext w w'):=by
 have hE:=aP w
 replace gN:=gN.top
 replace kP:=kP.top
 replace kQ:=kQ.top
 refine aO Tryz.func32 ?_
 refine af (aa ?_)
 refine ar (bU (cs:=[(.int .i64 x.op),(.string (av x.key)),(.slice K2 x.keys.length ck2),(.slice V2 x.value.length cv2),(.slice T2 x.tags.length ct2),(.int .u64 (↑x.life:Int)),(.int .u64 (↑x.ver:Int)),(.string (av x.tag)),(.string (av x.pre)),(.string (av x.child))])) ?_
 rintro v w1 ⟨g3,rfl,aM,d7,sy,su⟩
 replace gN:=gN.ext d7
 replace kP:=kP.ext d7
 replace kQ:=kQ.ext d7
 replace hc:=hc.ext d7
 replace hE:=hE.tr d7
 refine va ?_
 refine ag (ae (af (aa ?_)))
 refine vm ?_
 refine ar (aw I4 (z1 _ g S a b s hc)) ?_
 rintro v w2 ⟨K9,ck9,V9,cv9,T9,ct9,rfl,Rt,Q5,Q7,ii⟩
 replace gN:=gN.ext ii
 replace kP:=kP.ext ii
 replace kQ:=kQ.ext ii
 replace hE:=hE.tr ii
 replace aM:=aM.ext ii
 have rc:=ii.size
 refine vm ?_
 iterate 2 refine vx ?_
 refine ar (bc (cs:=[(.int .i64 0),(.string (av [])),(.slice none 0 0),(.slice none 0 0),(.slice none 0 0),(.int .u64 0),(.int .u64 0),(.string (av [])),(.string (av [])),(.string (av []))]) fl) ?_
 rintro v w3 ⟨g5,rfl,bu,f0,Am,GJ⟩
 replace gN:=gN.ext f0
 replace kP:=kP.ext f0
 replace kQ:=kQ.ext f0
 replace hE:=hE.tr f0
 replace aM:=aM.ext f0
 replace Rt:=Rt.ext f0
 replace Q5:=Q5.ext f0
 replace Q7:=Q7.ext f0
 refine aB (aD (vs:=[(.int .i64 (bX s).op),(.string (av (bX s).key)),(.slice K9 (bX s).keys.length ck9),(.slice V9 (bX s).value.length cv9),(.slice T9 (bX s).tags.length ct9),(.int .u64 (↑(bX s).life:Int)),(.int .u64 (↑(bX s).ver:Int)),(.string (av (bX s).tag)),(.string (av (bX s).pre)),(.string (av (bX s).child))]) fy bu) ?_
 rintro _ w4 ⟨gT,cQ⟩
 replace gN:=gN.gr cQ
 replace kP:=kP.gr cQ
 replace kQ:=kQ.gr cQ
 replace hE:=hE.gr cQ
 replace aM:=aM.gr cQ
 replace Rt:=Rt.gr cQ
 replace Q5:=Q5.gr cQ
 replace Q7:=Q7.gr cQ
 replace bu:=gT
 refine va ?_
 refine ag (ae (af (aa ?_)))
 refine ab (aK (cs:=[(.int .i64 (bX s).op),(.string (av (bX s).key)),(.slice K9 (bX s).keys.length ck9),(.slice V9 (bX s).value.length cv9),(.slice T9 (bX s).tags.length ct9),(.int .u64 (↑(bX s).life:Int)),(.int .u64 (↑(bX s).ver:Int)),(.string (av (bX s).tag)),(.string (av (bX s).pre)),(.string (av (bX s).child))]) cc bu) ?_
 refine ab (aK (cs:=[(.int .i64 x.op),(.string (av x.key)),(.slice K2 x.keys.length ck2),(.slice V2 x.value.length cv2),(.slice T2 x.tags.length ct2),(.int .u64 (↑x.life:Int)),(.int .u64 (↑x.ver:Int)),(.string (av x.tag)),(.string (av x.pre)),(.string (av x.child))]) cc aM) ?_
 refine ar (aw zk (iJ _ (bX s) _ _ K9 ck9 V9 cv9 T9 ct9 Rt Q5 Q7 x _ _ K2 ck2 V2 cv2 T2 ct2 gN kP kQ)) ?_
 rintro v w5 ⟨rfl,jV⟩
 replace hE:=hE.tr jV
 refine aN (d:=14) rfl (bt (hw.1)) ?_
 refine vm ?_
 refine aj (aF) ?_
 refine aj (cI) ?_
 refine aN (d:=17) rfl (bt (by rw[hw.2];rfl)) ?_
 refine ab (ay) ?_
 refine va ?_
 refine ag (ae (aE ?_))
 refine aY ?_
 exact⟨rfl,hE⟩
end Go.Proofs.YtiighkbehiddkaaGreat
