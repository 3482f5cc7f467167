/-
 The contracts of a connection: its steps.
 Copies of rows and of a response.
-/
import Derived.Test.YtiighkbehiddkaaGreatS08
namespace Go.Proofs.YtiighkbehiddkaaGreat
open Go.RowKit
set_option linter.unusedVariables false
set_option maxRecDepth 4000
theorem RX:aX Tryz.prog 40=true:=by kernel_rfl
theorem Y1:aX Tryz.prog 42=true:=by kernel_rfl
theorem Y0:aX Tryz.prog 43=true:=by kernel_rfl
theorem YZ:aX Tryz.prog 44=true:=by kernel_rfl
theorem YY:aX Tryz.prog 49=true:=by kernel_rfl
theorem IY:aX Tryz.prog 54=true:=by kernel_rfl
theorem Ns:aX Tryz.prog 55=true:=by kernel_rfl
theorem YQ:aX Tryz.prog 65=true:=by kernel_rfl
theorem YP:aX Tryz.prog 66=true:=by kernel_rfl
theorem YL:aX Tryz.prog 75=true:=by kernel_rfl
theorem FX:bB Tryz.prog 57 1=some 1:=by kernel_rfl
theorem uY:bB Tryz.prog 57 4=some 6:=by kernel_rfl
theorem zb:bB Tryz.prog 57 5=some 16:=by kernel_rfl
theorem uX:bB Tryz.prog 57 6=some 22:=by kernel_rfl
theorem sm:(Tryz.prog.info? 33).map (·.size)=some 1:=by kernel_rfl
/-- A step of a connection: its new state, and what was kept. -/
def CnTo (w w':World) (g:Nat) (S:List Nat) (a b:Nat) (s':Cn):Prop:=∃S' a' b',Cnn w' g S' a' b' s'∧Kp S w w'∧(∀x∈S',x∈S∨w.heap.size≤x)∧((a'=a∧b'=b)∨w.heap.size≤a')
theorem CnTo.of {w w':World} {g a b a' b':Nat} {s':Cn} (p p':CnP) (hb:Blk w' g 57 (vB s' p')) (hR:CnR w' g a' b' s' p') (hk:Kp (cnS g p) w w') (hS:∀x∈cnS g p',x∈cnS g p∨w.heap.size≤x) (Xe:(a'=a∧b'=b)∨w.heap.size≤a'):CnTo w w' g (cnS g p) a b s':=⟨_,_,_,⟨p',rfl,hb,hR⟩,hk,hS,Xe⟩
theorem kF (op e:Int):RspOk (rspO op e):=⟨by show(0:Nat)<_;decide,(fun x hx=>by cases hx),(fun x hx=>by cases hx),by show(0:Int)≤_;decide⟩
theorem sY (op e:Int):rsz (rspO op e)≤4398046511104:=by show 0+10*0+100≤_;decide
theorem IN (s:Cn):(cD s).2.1.length≤s.held.length:=by
 unfold cD jS
 split
 ·exact Nat.le_refl _
 ·show(List.drop _ _).length≤_
  rw[List.length_drop];omega
theorem IM (s:Cn):(cD s).2.2.1.2.length≤s.held.length:=by
 unfold cD jS
 split
 ·exact Nat.zero_le _
 ·exact(mN s.held (s.cp:Int)).1
theorem Hd {x:UInt8} {l:List UInt8} (h:¬((jO x l).2:Int)=0):jO x l=(cmd0 0,6):=by
 by_cases q:1≤x.toNat∧x.toNat≤15∧(bg (x.toNat:Int) l).2.2=false∧(bg (x.toNat:Int) l).2.1=[]
 ·rw[tM q.1 q.2.1 q.2.2.1 q.2.2.2] at h;exact absurd rfl h
 ·exact kG q
theorem Gf {s:Cn} (h:(cD s).2.2.2=4):sL s=(xY s,0):=if_pos h
theorem Gd {s:Cn} (h:¬(cD s).2.2.2=4) (h0:(cD s).2.2.2=0) (hc:(sM s).2=0):sL s=({xY s with cmd:=(sM s).1,ph:=2},1):=(if_neg h).trans ((if_pos h0).trans (if_pos hc))
theorem Ge {s:Cn} (h:¬(cD s).2.2.2=4) (h0:(cD s).2.2.2=0) (hc:¬(sM s).2=0):sL s=(sK (xY s) (rspO 0 ((sM s).2:Int)),2):=(if_neg h).trans ((if_pos h0).trans (if_neg hc))
theorem zg {s:Cn} (h:¬(cD s).2.2.2=4) (h0:¬(cD s).2.2.2=0):sL s=(sK (xY s) (rspO 0 ((cD s).2.2.2:Int)),2):=(if_neg h).trans (if_neg h0)
theorem CnR.cmd0 {w:World} {g a b:Nat} {s:Cn} {p:CnP} (h:CnR w g a b s p) {lo hi:Nat} {K:Option Addr} {ck:Nat} {V:Option Addr} {cv:Nat} {T:Option Addr} {ct:Nat} (hK:RdS w lo hi K ck []) (hV:RdB w lo hi V cv []) (hT:RdS w lo hi T ct []):CnR w g a b {s with cmd:=cmd0 0} (Nl p K ck V cv T ct) where
 buf:=h.buf
 dec:=h.dec
 hK:=Rd.zero hK
 hV:=Rd.zero hV
 hT:=Rd.zero hT
 hv:=h.hv
 hx:=h.hx
 hn:=h.hn
 hA:=h.hA
 sep:=h.sep
 hb:=h.hb
 ne1:=h.ne1
 ne2:=h.ne2
 ne3:=h.ne3
 dd:=h.dd
 ok:=⟨h.ok.p1,h.ok.p2,h.ok.i1,h.ok.i2,h.ok.o1,h.ok.hl,h.ok.h1,h.ok.h4,h.ok.sz,h.ok.bl,h.ok.an,⟨Nat.zero_le _,Nat.zero_le _,Nat.zero_le _⟩⟩
theorem zr (m:Nat) (l q:List UInt8):(m - l.length<q.length∧vd m l q=(l,0,7))∨(¬m - l.length<q.length∧vd m l q=(l++q,q.length,0)):=by
 by_cases h:m - l.length<q.length
 ·exact .inl ⟨h,xO h⟩
 ·exact .inr ⟨h,GC h⟩
theorem nl (w:World) (g a b:Nat) (s:Cn) (gb gd:Nat) (Db Dd:Option Nat) (K:Option Addr) (ck:Nat) (V:Option Addr) (cv:Nat) (T:Option Addr) (ct:Nat) (X:Option Addr) (cx:Nat) (xs:List IT) (N:Option Addr) (cn:Nat) (A:Option Addr) (c:Nat) (aV:Blk w g 57 (vB s (⟨gb,gd,Db,Dd,K,ck,V,cv,T,ct,X,cx,xs,N,cn,A,c⟩:CnP))) (hR:CnR w g a b s (⟨gb,gd,Db,Dd,K,ck,V,cv,T,ct,X,cx,xs,N,cn,A,c⟩:CnP)) (r:Rsp) (xs9:List IT) (sg:vals xs9=r.items) (lo9 lM:Nat) (X9:Option Addr) (cx9:Nat) (N9:Option Addr) (cn9:Nat) (ju:RdI w lo9 lM X9 cx9 xs9) (pp:RspOk r) (ug:rsz r≤4398046511104) (Qp:∀x∈cnS g (⟨gb,gd,Db,Dd,K,ck,V,cv,T,ct,X,cx,xs,N,cn,A,c⟩:CnP),x<lo9) (i6:RdN w lo9 lM N9 cn9 r.nums:=by exact Rd.nil _ _ _ _ _ _ (Nat.zero_le _)) (NQ:lo9≤w.heap.size:=by exact Nat.le_refl _) (hh9:lM≤w.heap.size:=by exact Nat.le_refl _):
  Fn Tryz.prog 54 #[(.pointer (some ⟨g,0,none⟩)),(.agg #[(.int .i64 r.op),(.int .i64 r.err),(.slice X9 r.items.length cx9),(.int .u64 (↑r.ver:Int)),(.int .i64 r.count),(.slice N9 r.nums.length cn9)])] w (fun v w'=>v=.tuple #[]∧∃A' c',Blk w' g 57 (vB (sK s r) (Nj (⟨gb,gd,Db,Dd,K,ck,V,cv,T,ct,X,cx,xs,N,cn,A,c⟩:CnP) X9 cx9 xs9 N9 cn9 A' c'))∧CnR w' g lo9 w'.heap.size (sK s r) (Nj (⟨gb,gd,Db,Dd,K,ck,V,cv,T,ct,X,cx,xs,N,cn,A,c⟩:CnP) X9 cx9 xs9 N9 cn9 A' c')∧Kp (cnS g (⟨gb,gd,Db,Dd,K,ck,V,cv,T,ct,X,cx,xs,N,cn,A,c⟩:CnP)) w w'):=by
 replace aV:Blk w g 57 [(.pointer (some ⟨gb,0,none⟩)),(.int .i64 (↑s.ci:Int)),(.int .i64 (↑s.co:Int)),(.int .i64 (↑s.cp:Int)),(.pointer (some ⟨gd,0,none⟩)),(.int .i64 (↑s.ph:Int)),(.int .i64 s.cmd.op),(.string (av s.cmd.key)),(.slice K s.cmd.keys.length ck),(.slice V s.cmd.value.length cv),(.slice T s.cmd.tags.length ct),(.int .u64 (↑s.cmd.life:Int)),(.int .u64 (↑s.cmd.ver:Int)),(.string (av s.cmd.tag)),(.string (av s.cmd.pre)),(.string (av s.cmd.child)),(.int .i64 s.ans.op),(.int .i64 s.ans.err),(.slice X s.ans.items.length cx),(.int .u64 (↑s.ans.ver:Int)),(.int .i64 s.ans.count),(.slice N s.ans.nums.length cn),(.slice A s.bs.length c)]:=aV
 have hW:=hR.bnd
 have Ih:=aV.lt
 have ep:=hR.ok
 obtain⟨kp1,kp2,ki1,ki2,ko1,khl,kph1,kph4,ksz,kbl,kan,kcb⟩:=id ep
 have hgl9:g<lo9:=Qp _ (dZ _ _)
 have UF:=GR r
 have eq:=Kp.refl (cnS g (⟨gb,gd,Db,Dd,K,ck,V,cv,T,ct,X,cx,xs,N,cn,A,c⟩:CnP)) w
 refine aO Tryz.func54 ?_
 refine af (aa ?_)
 refine ar (bU) ?_
 rintro v w1 ⟨g3,rfl,aM,d7,sy,su⟩
 replace aV:=aV.ext d7
 replace hR:=hR.ext d7
 replace eq:=Kp.te eq d7
 replace ju:=RdI.ext ju d7
 replace i6:=i6.ext d7
 have KK:=d7.size
 refine ag (ae (af (aa ?_)))
 refine ab (aK (cs:=[(.int .i64 r.op),(.int .i64 r.err),(.slice X9 r.items.length cx9),(.int .u64 (↑r.ver:Int)),(.int .i64 r.count),(.slice N9 r.nums.length cn9)]) bZ aM) ?_
 refine ar (aw RM (sR _ r xs9 sg _ _ X9 cx9 N9 cn9 ju i6 pp ug)) ?_
 rintro v w2 ⟨A8,c8,rfl,sh,mg⟩
 replace aV:=aV.ext mg
 replace hR:=hR.ext mg
 replace eq:=Kp.te eq mg
 replace ju:=RdI.ext ju mg
 replace i6:=i6.ext mg
 replace aM:=aM.ext mg
 have KJ:=mg.size
 have yK:=fun g e=>Own.lt sh (g:=g) e
 refine vm ?_
 iterate 2 refine vx ?_
 refine ar (bc dN) ?_
 rintro v w3 ⟨g4,rfl,aI,eM,th,ta⟩
 replace aV:=aV.ext eM
 replace hR:=hR.ext eM
 replace eq:=Kp.te eq eM
 replace ju:=RdI.ext ju eM
 replace i6:=i6.ext eM
 replace aM:=aM.ext eM
 replace sh:=Own.ext sh eM
 refine aB (aD (vs:=[(.int .u8 (↑(mf r).1.1.toNat:Int)),(.slice A8 (mf r).1.2.length c8)]) du aI) ?_
 rintro _ w4 ⟨gT,cQ⟩
 have t3:=cQ.size
 replace aV:=aV.gr cQ
 replace hR:=by first|exact hR.grg cQ|exact hR.grf cQ hW (by omega)
 replace eq:=Kp.tg eq cQ (by first|exact .inl (dZ _ _)|(right;omega))
 replace ju:=RdI.gr ju cQ (fun _ e=>by cases e;omega)
 replace i6:=i6.gr cQ
 replace aM:=aM.gr cQ
 replace sh:=Own.gr sh cQ (by first|exact .inl rfl|(right;intro e;first|(have:=yK _ e;omega)|(have:=Own.lt sh e;omega)|exact aT sh aI (by decide) e))
 replace aI:=gT
 refine va ?_
 refine ag (ae (af ?_))
 refine eH ?_
 intro w5 h8
 replace aV:=aV.ext h8
 replace hR:=hR.ext h8
 replace eq:=Kp.te eq h8
 replace ju:=RdI.ext ju h8
 replace i6:=i6.ext h8
 replace aM:=aM.ext h8
 replace sh:=Own.ext sh h8
 replace aI:=aI.ext h8
 have Uv:=h8.size
 refine fh (sQ (nv w5.heap.size [g])) (oR (eh)) (oQ (fa)) (oP (eh) (fa)) 0 11 [(11,a0 (.pointer (some ⟨g,0,none⟩))),(12,a0 (.pointer (some ⟨g,0,none⟩))),(13,a0 (.pointer (some ⟨g,0,none⟩))),(14,a0 (.agg #[(.int .i64 0),(.string (av [])),(.slice none 0 0),(.slice none 0 0),(.slice none 0 0),(.int .u64 0),(.int .u64 0),(.string (av [])),(.string (av [])),(.string (av []))])),(15,a0 (.agg #[(.int .i64 r.op),(.int .i64 r.err),(.slice X9 r.items.length cx9),(.int .u64 (↑r.ver:Int)),(.int .i64 r.count),(.slice N9 r.nums.length cn9)])),(16,a0 (.pointer (some ⟨g,0,none⟩))),(17,a0 (.pointer (some ⟨g,5,none⟩))),(37,(fun _ w=>Blk w g 57 [(.pointer (some ⟨gb,0,none⟩)),(.int .i64 (↑s.ci:Int)),(.int .i64 (↑s.co:Int)),(.int .i64 (↑s.cp:Int)),(.pointer (some ⟨gd,0,none⟩)),(.int .i64 3),(.int .i64 s.cmd.op),(.string (av s.cmd.key)),(.slice K s.cmd.keys.length ck),(.slice V s.cmd.value.length cv),(.slice T s.cmd.tags.length ct),(.int .u64 (↑s.cmd.life:Int)),(.int .u64 (↑s.cmd.ver:Int)),(.string (av s.cmd.tag)),(.string (av s.cmd.pre)),(.string (av s.cmd.child)),(.int .i64 s.ans.op),(.int .i64 s.ans.err),(.slice X s.ans.items.length cx),(.int .u64 (↑s.ans.ver:Int)),(.int .i64 s.ans.count),(.slice N s.ans.nums.length cn),(.slice A s.bs.length c)])),(18,a0 (.pointer (some ⟨g,0,none⟩))),(19,a0 (.pointer (some ⟨g,6,none⟩))),(40,(fun _ w=>Blk w g 57 [(.pointer (some ⟨gb,0,none⟩)),(.int .i64 (↑s.ci:Int)),(.int .i64 (↑s.co:Int)),(.int .i64 (↑s.cp:Int)),(.pointer (some ⟨gd,0,none⟩)),(.int .i64 3),(.int .i64 0),(.string (av [])),(.slice none 0 0),(.slice none 0 0),(.slice none 0 0),(.int .u64 0),(.int .u64 0),(.string (av [])),(.string (av [])),(.string (av [])),(.int .i64 s.ans.op),(.int .i64 s.ans.err),(.slice X s.ans.items.length cx),(.int .u64 (↑s.ans.ver:Int)),(.int .i64 s.ans.count),(.slice N s.ans.nums.length cn),(.slice A s.bs.length c)]))] [[],[],[],[],[],[0],[5],[6],[1],[8],[3,7,9]] [[0],[0],[0],[0],[0],[0],[0],[],[0],[0],[]] [[],[0],[0],[0],[0],[],[],[],[0],[0],[0]] [none,none,none,none,none,none,none,some 0,none,none,some 0] [true,true,true,true,true,true,true,false,true,true,true] [0] _ [] [] ⟨sA,sA,sA,sA,sA,sA,sA,iF ((fun _ w w' hb he=>hb.ext he)),sA,sA,iF ((fun _ w w' hb he=>hb.ext he)),trivial⟩ ?_ ?_
 ·repeat' apply And.intro
  any_goals exact trivial
  all_goals intro wd bW
  iterate 3 exact am (ax (aF))
  exact am (ax (bi fl lf))
  ·have hH:=ew bW
   obtain⟨cs_g,JN,aV⟩:=dC bW aV
   replace aM:=hH.bk aM (by intro hg;simp at hg;omega)
   show eV _ _ _ _ _ _
   exact am (ax (aK bZ aM))
  ·rintro _ rfl
   exact am (ax (bD))
  ·rintro _ rfl
   exact am (ax (ah oa))
  ·replace aV:=aV.ext bW
   rintro _ rfl
   show eV _ _ _ _ _ _
   have kf:=aV
   refine am (OpRun.mono (aU sm aV) ?_)
   rintro _ w6 ⟨Cp,rz⟩
   replace aV:=Cp
   exact⟨aV,eG rz kf aV rfl⟩
  ·rintro _ rfl
   exact am (ax (bD))
  ·rintro _ rfl
   exact am (ax (ah uY))
  ·obtain⟨cs_g,JN,aV⟩:=dC bW aV
   rintro _ rfl
   rintro _ aV
   rintro _ rfl
   show eV _ _ _ _ _ _
   have kf:=aV
   refine am (OpRun.mono (dY (vs:=[(.int .i64 0),(.string (av [])),(.slice none 0 0),(.slice none 0 0),(.slice none 0 0),(.int .u64 0),(.int .u64 0),(.string (av [])),(.string (av [])),(.string (av []))]) fy aV (iH:=by simp[Value.oneCell'])) ?_)
   rintro _ w6 ⟨Cp,rz⟩
   replace aV:=Cp
   exact⟨aV,eG rz kf aV rfl⟩
 ·intro wf2 mC
  have n5:=ew mC
  obtain⟨cs_g,JN,aV⟩:=dC mC aV
  have NJ:=n5.size
  replace hR:=hR.kpg n5
  replace eq:=Kp.tr eq n5 (fun x hx=>.inl (by rw[List.mem_singleton.1 hx];exact dZ _ _))
  replace ju:=RdI.kp ju n5 (by intro g hg;simp at hg;omega)
  replace i6:=n5.rd i6 (by intro g hg;simp at hg;omega)
  replace sh:=n5.own sh (by intro g e hg;simp at hg;have:=yK g e;omega)
  replace aI:=n5.bk aI (by intro hg;simp at hg;omega)
  iterate 7 rintro _ rfl
  intro v37
  iterate 2 rintro _ rfl
  rintro _ aV
  refine fE ?_
  refine vn ?_
  refine ab (ah zb) ?_
  refine aB (dY (vs:=[(.int .i64 r.op),(.int .i64 r.err),(.slice X9 r.items.length cx9),(.int .u64 (↑r.ver:Int)),(.int .i64 r.count),(.slice N9 r.nums.length cn9)]) fm aV (iH:=by simp[Value.oneCell'])) ?_
  rintro _ w6 ⟨Cp,rz⟩
  have Uw:=rz.size
  replace hR:=by first|exact hR.grg rz|exact hR.grf rz hW (by omega)
  replace eq:=Kp.tg eq rz (by first|exact .inl (dZ _ _)|(right;omega))
  replace ju:=RdI.gr ju rz (fun _ e=>by cases e;omega)
  replace i6:=i6.gr rz
  replace sh:=Own.gr sh rz (by first|exact .inl rfl|(right;intro e;first|(have:=yK _ e;omega)|(have:=Own.lt sh e;omega)|exact aT sh aV (by decide) e))
  replace aI:=aI.gr rz
  replace aV:=Cp
  refine ag (ae (aa ?_))
  refine vm ?_
  refine ab (aK (cs:=[(.int .u8 (↑(mf r).1.1.toNat:Int)),(.slice A8 (mf r).1.2.length c8)]) bN aI) ?_
  refine ar (aw YL (za _ _ _ ((mf r).1.1) _ _ (mf r).1.2 (OwnB.rd sh) (by omega))) ?_
  rintro v w7 ⟨A25,c25,rfl,BS,fY⟩
  replace hR:=hR.ext fY
  replace eq:=Kp.te eq fY
  replace ju:=RdI.ext ju fY
  replace i6:=i6.ext fY
  replace aV:=aV.ext fY
  have ua:=fY.size
  have HV:=fun g e=>Own.lt BS (g:=g) e
  refine vm ?_
  iterate 2 refine vx ?_
  refine vn ?_
  refine ab (ah uX) ?_
  refine aB (aU gV aV) ?_
  rintro _ w8 ⟨Iv,mB⟩
  have D1:=mB.size
  replace hR:=by first|exact hR.grg mB|exact hR.grf mB hW (by omega)
  replace eq:=Kp.tg eq mB (by first|exact .inl (dZ _ _)|(right;omega))
  replace ju:=RdI.gr ju mB (fun _ e=>by cases e;omega)
  replace i6:=i6.gr mB
  replace BS:=Own.gr BS mB (by first|exact .inl rfl|(right;intro e;first|(have:=HV _ e;omega)|(have:=Own.lt BS e;omega)|exact aT BS aV (by decide) e))
  replace aV:=Iv
  refine ag ?_
  refine d5 ?_
  exact⟨rfl,A25,c25,aV,CnR.put hR Qp (by omega) sg (RdI.top ju) (Rd.top i6) ((OwnB.rd BS).mono (by omega) (Nat.le_refl _)) ug,eq⟩
theorem I7 (w:World) (g a b:Nat) (s:Cn) (gb gd:Nat) (Db Dd:Option Nat) (K:Option Addr) (ck:Nat) (V:Option Addr) (cv:Nat) (T:Option Addr) (ct:Nat) (X:Option Addr) (cx:Nat) (xs:List IT) (N:Option Addr) (cn:Nat) (A:Option Addr) (c:Nat) (aV:Blk w g 57 (vB s (⟨gb,gd,Db,Dd,K,ck,V,cv,T,ct,X,cx,xs,N,cn,A,c⟩:CnP))) (hR:CnR w g a b s (⟨gb,gd,Db,Dd,K,ck,V,cv,T,ct,X,cx,xs,N,cn,A,c⟩:CnP)) (lo2 eO:Nat) (B:Option Addr) (c2:Nat) (q:List UInt8) (kJ:RdB w lo2 eO B c2 q) (Js:∀x∈cnS g (⟨gb,gd,Db,Dd,K,ck,V,cv,T,ct,X,cx,xs,N,cn,A,c⟩:CnP),x<lo2∨eO≤x) (Qo:q.length≤1099511627776):
  Fn Tryz.prog 16 #[(.pointer (some ⟨g,0,none⟩)),(.slice B q.length c2)] w (fun v w'=>v=.tuple #[.int .i64 ((cT s q).2.1:Int),.int .i64 ((cT s q).2.2:Int)]∧CnTo w w' g (cnS g (⟨gb,gd,Db,Dd,K,ck,V,cv,T,ct,X,cx,xs,N,cn,A,c⟩:CnP)) a b (cT s q).1):=by
 replace aV:Blk w g 57 [(.pointer (some ⟨gb,0,none⟩)),(.int .i64 (↑s.ci:Int)),(.int .i64 (↑s.co:Int)),(.int .i64 (↑s.cp:Int)),(.pointer (some ⟨gd,0,none⟩)),(.int .i64 (↑s.ph:Int)),(.int .i64 s.cmd.op),(.string (av s.cmd.key)),(.slice K s.cmd.keys.length ck),(.slice V s.cmd.value.length cv),(.slice T s.cmd.tags.length ct),(.int .u64 (↑s.cmd.life:Int)),(.int .u64 (↑s.cmd.ver:Int)),(.string (av s.cmd.tag)),(.string (av s.cmd.pre)),(.string (av s.cmd.child)),(.int .i64 s.ans.op),(.int .i64 s.ans.err),(.slice X s.ans.items.length cx),(.int .u64 (↑s.ans.ver:Int)),(.int .i64 s.ans.count),(.slice N s.ans.nums.length cn),(.slice A s.bs.length c)]:=aV
 have ep:=hR.ok
 obtain⟨kp1,kp2,ki1,ki2,ko1,khl,kph1,kph4,ksz,kbl,kan,kcb⟩:=id ep
 have Qi:=hR.ne1
 have Qh:=hR.ne3
 have eq:=Kp.refl (cnS g (⟨gb,gd,Db,Dd,K,ck,V,cv,T,ct,X,cx,xs,N,cn,A,c⟩:CnP)) w
 refine aO Tryz.func16 ?_
 refine af (aa ?_)
 iterate 2 refine va ?_
 refine ag (ae (af (af (aa ?_))))
 refine vm ?_
 refine ab (aw zj (kh _ g s gb gd Db Dd K ck V cv T ct X cx xs N cn A c aV)) ?_
 refine ag (ae ?_)
 refine aC ?_
 refine aS (ae (af (af (aa ?_))))
 refine vm ?_
 refine vn ?_
 refine ab (ah lV) ?_
 refine ab (ak wr aV) ?_
 refine ar (aw RX (rV _ 0 gd Dd s.cp s.cl s.held hR.dec (by omega))) ?_
 rintro v w1 ⟨rfl,ik⟩
 replace aV:=aV.ext ik
 replace hR:=hR.ext ik
 replace eq:=Kp.te eq ik
 replace kJ:=kJ.ext ik
 have ub:=ik.size
 refine ag (ae ?_)
 refine dJ (fun eN=>?_) (fun eN=>?_)
 ·refine af (aa ?_)
  iterate 2 refine va ?_
  refine ag (ae (aE (az ?_)))
  refine cX ?_
  have e:cT s q=(s,0,14):=if_pos (by simpa using eN)
  rw[e]
  exact⟨rfl,CnTo.of (⟨gb,gd,Db,Dd,K,ck,V,cv,T,ct,X,cx,xs,N,cn,A,c⟩:CnP) (⟨gb,gd,Db,Dd,K,ck,V,cv,T,ct,X,cx,xs,N,cn,A,c⟩:CnP) aV hR eq (fun x h=>.inl h) (.inl ⟨rfl,rfl⟩)⟩
 ·have Tn:s.cl=false:=by cases h:s.cl with
   |false=>rfl
   |true=>exact absurd h (by simpa using eN)
  have hdh:jo s.cl s.held=s.held.length:=by rw[Tn];rfl
  refine aS (ae (af ?_))
  refine cC ej 13 [(14,a0 (.slice B q.length c2)),(15,a0 (.int .i64 (↑q.length:Int))),(16,a0 (.pointer (some ⟨g,0,none⟩))),(17,a0 (.pointer (some ⟨g,0,none⟩))),(18,a0 (.pointer (some ⟨g,1,none⟩))),(19,a0 (.pointer (some ⟨g,1,none⟩))),(20,a0 (.int .i64 (↑s.ci:Int))),(21,a0 (.pointer (some ⟨g,0,none⟩))),(22,a0 (.pointer (some ⟨g,0,none⟩))),(23,a0 (.pointer (some ⟨g,4,none⟩))),(24,a0 (.pointer (some ⟨gd,0,none⟩))),(25,a0 (.int .i64 (↑(jo s.cl s.held):Int))),(26,a0 (.int .i64 ((↑s.ci:Int) -(↑(jo s.cl s.held):Int))))] [[],[0],[],[2],[3],[4],[5],[],[7],[8],[9],[10],[6,11]] _ [] [] (fun _ _ h=>h) trivial (by kernel_rfl) rfl ?_ ?_
  ·repeat' apply And.intro
   all_goals first|exact trivial|(intro wd bW;replace aV:=aV.ext bW;replace hR:=hR.ext bW;(repeat rintro _ rfl))
   exact am (ax (aF))
   exact am (ax (bj Tryz.underlying32))
   exact am (ax (aF))
   exact am (ax (bD))
   exact am (ax (ah FX))
   exact am (ax (ah mS))
   exact am (ax (ak gg aV))
   exact am (ax (aF))
   exact am (ax (bD))
   exact am (ax (ah lV))
   exact am (ax (ak wr aV))
   ·refine am (OpRun.mono (aw RW (xE _ 0 gd Dd s.cp s.cl s.held hR.dec (by omega))) ?_)
    rintro v w202 ⟨rfl,fY⟩
    exact⟨rfl,fY⟩
   exact am (ax (jx))
  ·intro wf5 px
   replace aV:=aV.ext px
   replace hR:=hR.ext px
   replace eq:=Kp.te eq px
   replace kJ:=kJ.ext px
   have D7:=px.size
   iterate 13 rintro _ rfl
   refine ab (qQ rfl rfl (m:=((min q.length (s.ci - s.held.length):Nat):Int)) (by omega)) ?_
   refine va ?_
   refine ag (ae (af ?_))
   refine eH ?_
   intro w202 Pi
   replace aV:=aV.ext Pi
   replace hR:=hR.ext Pi
   replace eq:=Kp.te eq Pi
   replace kJ:=kJ.ext Pi
   have Uu:=Pi.size
   refine fh (sQ ((fun a b=>Ch gd Dd a b))) (oR ((fun _ _ h=>Ch.of_ext h))) (oQ ((fun _ _ _ h k=>h.tr k (fun x e=>.inl e)))) (oP ((fun _ _ h=>Ch.of_ext h)) ((fun _ _ _ h k=>h.tr k (fun x e=>.inl e)))) 0 9 [(28,a0 (.int .i64 ((min q.length (s.ci - s.held.length):Nat):Int))),(29,a0 (.pointer (some ⟨g,0,none⟩))),(30,a0 (.pointer (some ⟨g,0,none⟩))),(31,a0 (.pointer (some ⟨g,4,none⟩))),(32,a0 (.pointer (some ⟨gd,0,none⟩))),(33,a0 (.slice B q.length c2)),(34,a0 (.int .i64 ((min q.length (s.ci - s.held.length):Nat):Int))),(35,(fun v wz=>∃A c,v=.slice A (q.take (min q.length (s.ci - s.held.length))).length c∧RdB wz lo2 eO A c (q.take (min q.length (s.ci - s.held.length))))),(36,(fun v wz=>v=.int .i64 (IQ s.cl:Int)∧∃D',Dec wz 0 gd D' s.cp s.cl (JW s.cl s.held (q.take (min q.length (s.ci - s.held.length))))∧Nx w202 Dd D'))] [[],[],[1],[2],[3],[],[],[5,6],[4,7]] [[0],[0],[0],[0],[0],[0],[0],[],[]] [[0],[0],[0],[0],[0],[0],[0],[0],[]] [none,none,none,none,none,none,none,none,some 0] [true,true,true,true,true,true,true,false,true] [0] _ [] [] ⟨sA,sA,sA,sA,sA,sA,sA,iF ((fun v w w' ⟨A,c,hv,ho⟩ he=>⟨A,c,hv,ho.ext he⟩)),iF ((fun v w w' ⟨hv,D,h,hN⟩ he=>⟨hv,D,h.ext he,hN⟩)),trivial⟩ ?_ ?_
   ·repeat' apply And.intro
    any_goals exact trivial
    all_goals intro wd bW
    iterate 2 exact am (ax (aF))
    ·rintro _ rfl
     exact am (ax (bD))
    ·rintro _ rfl
     exact am (ax (ah lV))
    ·replace aV:=bW.bk aV Qi.2.1 Qh.1
     rintro _ rfl
     show eV _ _ _ _ _ _
     exact am (ax (ak wr aV))
    iterate 2 exact am (ax (aF))
    ·replace kJ:=bW.rd kJ (Js _ (iO g (⟨gb,gd,Db,Dd,K,ck,V,cv,T,ct,X,cx,xs,N,cn,A,c⟩:CnP))) (fun x e=>Js x (kb e))
     iterate 2 rintro _ rfl
     show eV _ _ _ _ _ _
     have WJ:=RdB.cap kJ
     refine am (OpRun.mono (dP cE kJ (mV rfl (by omega) (by omega))) ?_)
     rintro v _ ⟨rfl,A35,c35,rfl,HM,VQ⟩
     have Lk:(q.drop 0).take ((Int.toNat ((min q.length (s.ci - s.held.length):Nat):Int)) - 0)=(q.take (min q.length (s.ci - s.held.length))):=(by rw[List.drop_zero,Nat.sub_zero,Int.toNat_natCast])
     rw[Lk] at HM VQ;rw[Lk];clear Lk
     exact⟨⟨A35,c35,rfl,HM⟩,aP _⟩
    ·replace hR:=hR.ext bW
     have dK:=bW.size
     rintro _ rfl
     rintro _ ⟨A35,c35,rfl,HM⟩
     show eV _ _ _ _ _ _
     refine am (OpRun.mono (aw Y1 (F4 _ 0 gd Dd s.cp s.cl s.held hR.dec (by omega) _ _ _ _ (q.take (min q.length (s.ci - s.held.length))) HM (Js _ (iO g (⟨gb,gd,Db,Dd,K,ck,V,cv,T,ct,X,cx,xs,N,cn,A,c⟩:CnP))) (fun x e=>Js x (kb e)) (Nat.zero_le _) (by rw[List.length_take];omega))) ?_)
     rintro v w203 ⟨rfl,⟨D36,uE,Iw⟩,Yd⟩
     exact⟨⟨rfl,D36,uE,Iw.mono (by omega)⟩,Yd⟩
   ·intro wf6 nz
    have hR0:=hR
    replace nz:Ch gd Dd _ _:=nz
    replace aV:=nz.bk aV Qi.2.1 Qh.1
    replace eq:=eq.chd nz
    iterate 7 rintro _ rfl
    intro v35
    rintro _ ⟨rfl,D36,uE,Iw⟩
    refine fE ?_
    iterate 2 refine va ?_
    refine ag (ae (aE ?_))
    refine cX ?_
    have e:cT s q=({s with held:=s.held++(q.take (min q.length (s.ci - s.held.length)))},min q.length (s.ci - s.held.length),0):=if_neg (by rw[Tn];decide)
    rw[e]
    have hlq2:(q.take (min q.length (s.ci - s.held.length))).length≤s.ci - s.held.length:=by rw[List.length_take];omega
    have WB:Dec wf6 0 gd D36 s.cp s.cl (s.held++(q.take (min q.length (s.ci - s.held.length)))):=by rw[Tn] at uE ⊢;exact uE
    have GO:=hR0.decTo nz WB Iw (by show(s.held++(q.take (min q.length (s.ci - s.held.length)))).length≤_;rw[List.length_append];omega)
    exact⟨by rw[Tn];rfl,CnTo.of (⟨gb,gd,Db,Dd,K,ck,V,cv,T,ct,X,cx,xs,N,cn,A,c⟩:CnP) (Nk (⟨gb,gd,Db,Dd,K,ck,V,cv,T,ct,X,cx,xs,N,cn,A,c⟩:CnP) D36) aV GO eq (fun x h=>(RI Iw h).imp id (fun h=>by omega)) (.inl ⟨rfl,rfl⟩)⟩
theorem CJ (w:World) (g a b:Nat) (s:Cn) (gb gd:Nat) (Db Dd:Option Nat) (K:Option Addr) (ck:Nat) (V:Option Addr) (cv:Nat) (T:Option Addr) (ct:Nat) (X:Option Addr) (cx:Nat) (xs:List IT) (N:Option Addr) (cn:Nat) (A:Option Addr) (c:Nat) (aV:Blk w g 57 (vB s (⟨gb,gd,Db,Dd,K,ck,V,cv,T,ct,X,cx,xs,N,cn,A,c⟩:CnP))) (hR:CnR w g a b s (⟨gb,gd,Db,Dd,K,ck,V,cv,T,ct,X,cx,xs,N,cn,A,c⟩:CnP)) (n:Int) (BU:-9223372036854775808≤n) (kA:n≤9223372036854775807) (ht:s.tk≤4611686018427387904):
  Fn Tryz.prog 20 #[(.pointer (some ⟨g,0,none⟩)),(.int .i64 n)] w (fun v w'=>∃B c2,v=.tuple #[.slice B (dW s.out n).1.length c2,.int .i64 ((dW s.out n).2:Int)]∧OwnB w' w.heap.size 5 B c2 (dW s.out n).1∧CnTo w w' g (cnS g (⟨gb,gd,Db,Dd,K,ck,V,cv,T,ct,X,cx,xs,N,cn,A,c⟩:CnP)) a b (lZ s n).1):=by
 replace aV:Blk w g 57 [(.pointer (some ⟨gb,0,none⟩)),(.int .i64 (↑s.ci:Int)),(.int .i64 (↑s.co:Int)),(.int .i64 (↑s.cp:Int)),(.pointer (some ⟨gd,0,none⟩)),(.int .i64 (↑s.ph:Int)),(.int .i64 s.cmd.op),(.string (av s.cmd.key)),(.slice K s.cmd.keys.length ck),(.slice V s.cmd.value.length cv),(.slice T s.cmd.tags.length ct),(.int .u64 (↑s.cmd.life:Int)),(.int .u64 (↑s.cmd.ver:Int)),(.string (av s.cmd.tag)),(.string (av s.cmd.pre)),(.string (av s.cmd.child)),(.int .i64 s.ans.op),(.int .i64 s.ans.err),(.slice X s.ans.items.length cx),(.int .u64 (↑s.ans.ver:Int)),(.int .i64 s.ans.count),(.slice N s.ans.nums.length cn),(.slice A s.bs.length c)]:=aV
 have ep:=hR.ok
 obtain⟨kp1,kp2,ki1,ki2,ko1,khl,kph1,kph4,ksz,kbl,kan,kcb⟩:=id ep
 have eq:=Kp.refl (cnS g (⟨gb,gd,Db,Dd,K,ck,V,cv,T,ct,X,cx,xs,N,cn,A,c⟩:CnP)) w
 refine aO Tryz.func20 ?_
 refine af (aa ?_)
 iterate 2 refine va ?_
 refine ag (ae (af (af (aa ?_))))
 refine vm ?_
 refine ab (aw zj (kh _ g s gb gd Db Dd K ck V cv T ct X cx xs N cn A c aV)) ?_
 refine ag (ae ?_)
 refine aC ?_
 refine aS (ae (af (aa ?_)))
 refine vm ?_
 refine vn ?_
 refine ab (ah rP) ?_
 refine ab (ak Hl aV) ?_
 refine vm ?_
 refine ar (aw YY (Gx _ 0 gb Db s.co s.out s.pt s.tk hR.buf n BU kA ht (Nat.zero_le _))) ?_
 rintro v w1 ⟨A13,c13,rfl,up,Mi,M5⟩
 replace aV:=M5.bk aV hR.ne1.1 hR.ne2.1
 replace eq:=eq.chb M5
 have GO:=hR.bufTo M5 Mi (Nx.refl _ _)
 iterate 2 refine vx ?_
 iterate 2 refine va ?_
 refine ag (ae (aE ?_))
 refine cX ?_
 exact⟨A13,c13,rfl,Own.mono up (by omega),CnTo.of (⟨gb,gd,Db,Dd,K,ck,V,cv,T,ct,X,cx,xs,N,cn,A,c⟩:CnP) (CG (⟨gb,gd,Db,Dd,K,ck,V,cv,T,ct,X,cx,xs,N,cn,A,c⟩:CnP) Db) aV GO eq (fun x h=>.inl h) (.inl ⟨rfl,rfl⟩)⟩
theorem F8 (w:World) (g a b:Nat) (s:Cn) (gb gd:Nat) (Db Dd:Option Nat) (K:Option Addr) (ck:Nat) (V:Option Addr) (cv:Nat) (T:Option Addr) (ct:Nat) (X:Option Addr) (cx:Nat) (xs:List IT) (N:Option Addr) (cn:Nat) (A:Option Addr) (c:Nat) (aV:Blk w g 57 (vB s (⟨gb,gd,Db,Dd,K,ck,V,cv,T,ct,X,cx,xs,N,cn,A,c⟩:CnP))) (hR:CnR w g a b s (⟨gb,gd,Db,Dd,K,ck,V,cv,T,ct,X,cx,xs,N,cn,A,c⟩:CnP)) (h1:s.ph=1):
  Fn Tryz.prog 43 #[(.pointer (some ⟨g,0,none⟩))] w (fun v w'=>v=.int .i64 ((sL s).2:Int)∧CnTo w w' g (cnS g (⟨gb,gd,Db,Dd,K,ck,V,cv,T,ct,X,cx,xs,N,cn,A,c⟩:CnP)) a b (sL s).1):=by
 replace aV:Blk w g 57 [(.pointer (some ⟨gb,0,none⟩)),(.int .i64 (↑s.ci:Int)),(.int .i64 (↑s.co:Int)),(.int .i64 (↑s.cp:Int)),(.pointer (some ⟨gd,0,none⟩)),(.int .i64 (↑s.ph:Int)),(.int .i64 s.cmd.op),(.string (av s.cmd.key)),(.slice K s.cmd.keys.length ck),(.slice V s.cmd.value.length cv),(.slice T s.cmd.tags.length ct),(.int .u64 (↑s.cmd.life:Int)),(.int .u64 (↑s.cmd.ver:Int)),(.string (av s.cmd.tag)),(.string (av s.cmd.pre)),(.string (av s.cmd.child)),(.int .i64 s.ans.op),(.int .i64 s.ans.err),(.slice X s.ans.items.length cx),(.int .u64 (↑s.ans.ver:Int)),(.int .i64 s.ans.count),(.slice N s.ans.nums.length cn),(.slice A s.bs.length c)]:=aV
 have hW:=hR.bnd
 have Ih:=aV.lt
 have ep:=hR.ok
 obtain⟨kp1,kp2,ki1,ki2,ko1,khl,kph1,kph4,ksz,kbl,kan,kcb⟩:=id ep
 have hdp:=IM s
 have eq:=Kp.refl (cnS g (⟨gb,gd,Db,Dd,K,ck,V,cv,T,ct,X,cx,xs,N,cn,A,c⟩:CnP)) w
 refine aO (args:=[(.pointer (some ⟨g,0,none⟩))]) Tryz.func43 ?_
 refine af (aa ?_)
 refine va ?_
 refine ag (ae (af (aa ?_)))
 refine vm ?_
 refine vn ?_
 refine ab (ah (off:=4) lV) ?_
 refine ab (ak wr aV) ?_
 refine ar (aw YQ (F3 _ 0 gd Dd s.cp s.cl s.held hR.dec (by omega))) ?_
 rintro v w1 ⟨A10,c10,rfl,eY,Ma,Iz⟩
 have hz10:=Iz.size
 replace aV:=Iz.bk aV hR.ne1.2.1 hR.ne3.1
 replace eq:=eq.chd Iz
 replace hR:CnR w1 g a b (xY s) (⟨gb,gd,Db,Dd,K,ck,V,cv,T,ct,X,cx,xs,N,cn,A,c⟩:CnP):=hR.decTo Iz Ma (Nx.refl _ _) (by have:=IN s;show(cD s).2.1.length≤s.ci;omega)
 refine aN (d:=10) rfl (v':=(.tuple #[(.agg #[(.int .u8 (↑(cD s).2.2.1.1.toNat:Int)),(.slice A10 (cD s).2.2.1.2.length c10)]),(.int .i64 (↑(cD s).2.2.2:Int))])) rfl ?_
 have uk:=fun g e=>Own.lt eY (g:=g) e
 refine vm ?_
 iterate 2 refine vx ?_
 refine ar (bc (cs:=[(.int .u8 0),(.slice none 0 0)]) dN) ?_
 rintro v w2 ⟨g3,rfl,aM,d7,sy,su⟩
 replace aV:=aV.ext d7
 replace hR:=hR.ext d7
 replace eq:=Kp.te eq d7
 replace eY:=Own.ext eY d7
 refine aB (aD (vs:=[(.int .u8 (↑(cD s).2.2.1.1.toNat:Int)),(.slice A10 (cD s).2.2.1.2.length c10)]) du aM) ?_
 rintro _ w3 ⟨rL,lu⟩
 have Ux:=lu.size
 replace aV:=aV.gr lu
 replace hR:=by first|exact hR.grg lu|exact hR.grf lu hW (by omega)
 replace eq:=Kp.tg eq lu (by first|exact .inl (dZ _ _)|(right;omega))
 replace eY:=Own.gr eY lu (by first|exact .inl rfl|(right;intro e;first|(have:=uk _ e;omega)|(have:=Own.lt eY e;omega)|exact aT eY aM (by decide) e))
 replace aM:=rL
 refine va ?_
 refine ag (ae (af (af (aa ?_))))
 refine vm ?_
 refine ag (ae (a9 (af (a9 (af (a9 (af (a9 (af (af (af (aa ?_))))))))))))
 refine ve ?_
 refine va ?_
 refine ag (ae ?_)
 refine aL (fun dM=>?_) (fun dM=>?_)
 ·refine cW (bx (bx (ce (ae (af (af (aa ?_)))))))
  refine va ?_
  refine ag (ae (aE (az (aQ (az (aQ (az (aQ (az ?_)))))))))
  refine aY ?_
  rw[Gf (s:=s) (by omega)]
  exact⟨rfl,CnTo.of (⟨gb,gd,Db,Dd,K,ck,V,cv,T,ct,X,cx,xs,N,cn,A,c⟩:CnP) (⟨gb,gd,Db,Dd,K,ck,V,cv,T,ct,X,cx,xs,N,cn,A,c⟩:CnP) aV hR eq (fun x h=>.inl h) (.inl ⟨rfl,rfl⟩)⟩
 ·refine aS (ae (af (aa ?_)))
  refine ve ?_
  refine va ?_
  refine ag (ae ?_)
  refine aL (fun eN=>?_) (fun eN=>?_)
  ·refine cW (bx ?_)
   refine q0 rfl ?_
   refine bx (ce (ae (af (aa ?_))))
   refine vm ?_
   refine ab (aK (cs:=[(.int .u8 (↑(cD s).2.2.1.1.toNat:Int)),(.slice A10 (cD s).2.2.1.2.length c10)]) bN aM) ?_
   obtain⟨W21,Mw⟩:∃n,n=w3.heap.size:=⟨_,rfl⟩
   refine ar (aw YP (Bj _ (cD s).2.2.1.1 _ _ A10 c10 (cD s).2.2.1.2 (OwnB.rd eY) (by first|omega|decide|(simp;done)))) ?_
   rintro v w204 ⟨K21,ck21,V21,cv21,T21,ct21,rfl,y3,yZ,y0,pA⟩
   replace aV:=aV.ext pA
   replace hR:=hR.ext pA
   replace eq:=Kp.te eq pA
   have z6:=pA.size
   refine vm ?_
   iterate 2 refine vx ?_
   refine vn ?_
   refine ab (ah (off:=6) uY) ?_
   refine aB (dY (vs:=[(.int .i64 (jO (cD s).2.2.1.1 (cD s).2.2.1.2).1.op),(.string (av (jO (cD s).2.2.1.1 (cD s).2.2.1.2).1.key)),(.slice K21 (jO (cD s).2.2.1.1 (cD s).2.2.1.2).1.keys.length ck21),(.slice V21 (jO (cD s).2.2.1.1 (cD s).2.2.1.2).1.value.length cv21),(.slice T21 (jO (cD s).2.2.1.1 (cD s).2.2.1.2).1.tags.length ct21),(.int .u64 (↑(jO (cD s).2.2.1.1 (cD s).2.2.1.2).1.life:Int)),(.int .u64 (↑(jO (cD s).2.2.1.1 (cD s).2.2.1.2).1.ver:Int)),(.string (av (jO (cD s).2.2.1.1 (cD s).2.2.1.2).1.tag)),(.string (av (jO (cD s).2.2.1.1 (cD s).2.2.1.2).1.pre)),(.string (av (jO (cD s).2.2.1.1 (cD s).2.2.1.2).1.child))]) (cs':=[(.pointer (some ⟨gb,0,none⟩)),(.int .i64 (↑s.ci:Int)),(.int .i64 (↑s.co:Int)),(.int .i64 (↑s.cp:Int)),(.pointer (some ⟨gd,0,none⟩)),(.int .i64 (↑s.ph:Int)),(.int .i64 (jO (cD s).2.2.1.1 (cD s).2.2.1.2).1.op),(.string (av (jO (cD s).2.2.1.1 (cD s).2.2.1.2).1.key)),(.slice K21 (jO (cD s).2.2.1.1 (cD s).2.2.1.2).1.keys.length ck21),(.slice V21 (jO (cD s).2.2.1.1 (cD s).2.2.1.2).1.value.length cv21),(.slice T21 (jO (cD s).2.2.1.1 (cD s).2.2.1.2).1.tags.length ct21),(.int .u64 (↑(jO (cD s).2.2.1.1 (cD s).2.2.1.2).1.life:Int)),(.int .u64 (↑(jO (cD s).2.2.1.1 (cD s).2.2.1.2).1.ver:Int)),(.string (av (jO (cD s).2.2.1.1 (cD s).2.2.1.2).1.tag)),(.string (av (jO (cD s).2.2.1.1 (cD s).2.2.1.2).1.pre)),(.string (av (jO (cD s).2.2.1.1 (cD s).2.2.1.2).1.child)),(.int .i64 s.ans.op),(.int .i64 s.ans.err),(.slice X s.ans.items.length cx),(.int .u64 (↑s.ans.ver:Int)),(.int .i64 s.ans.count),(.slice N s.ans.nums.length cn),(.slice A s.bs.length c)]) fy aV (iH:=by simp[Value.oneCell'])) ?_
   rintro _ w205 ⟨cy,ba⟩
   have wJ:=ba.size
   replace hR:=by first|exact hR.grg ba|exact hR.grf ba hW (by omega)
   replace eq:=Kp.tg eq ba (by first|exact .inl (dZ _ _)|(right;omega))
   replace y3:=y3.gr ba
   replace yZ:=yZ.gr ba
   replace y0:=y0.gr ba
   replace aV:=cy
   refine va ?_
   refine ag (ae (af (aa ?_)))
   refine vm ?_
   refine ve ?_
   refine ag (ae ?_)
   refine aL (fun e9=>?_) (fun e9=>?_)
   ·refine af (aa ?_)
    refine vm ?_
    refine vn ?_
    refine ab (ah (off:=5) oa) ?_
    refine aB (aU (cs':=[(.pointer (some ⟨gb,0,none⟩)),(.int .i64 (↑s.ci:Int)),(.int .i64 (↑s.co:Int)),(.int .i64 (↑s.cp:Int)),(.pointer (some ⟨gd,0,none⟩)),(.int .i64 2),(.int .i64 (jO (cD s).2.2.1.1 (cD s).2.2.1.2).1.op),(.string (av (jO (cD s).2.2.1.1 (cD s).2.2.1.2).1.key)),(.slice K21 (jO (cD s).2.2.1.1 (cD s).2.2.1.2).1.keys.length ck21),(.slice V21 (jO (cD s).2.2.1.1 (cD s).2.2.1.2).1.value.length cv21),(.slice T21 (jO (cD s).2.2.1.1 (cD s).2.2.1.2).1.tags.length ct21),(.int .u64 (↑(jO (cD s).2.2.1.1 (cD s).2.2.1.2).1.life:Int)),(.int .u64 (↑(jO (cD s).2.2.1.1 (cD s).2.2.1.2).1.ver:Int)),(.string (av (jO (cD s).2.2.1.1 (cD s).2.2.1.2).1.tag)),(.string (av (jO (cD s).2.2.1.1 (cD s).2.2.1.2).1.pre)),(.string (av (jO (cD s).2.2.1.1 (cD s).2.2.1.2).1.child)),(.int .i64 s.ans.op),(.int .i64 s.ans.err),(.slice X s.ans.items.length cx),(.int .u64 (↑s.ans.ver:Int)),(.int .i64 s.ans.count),(.slice N s.ans.nums.length cn),(.slice A s.bs.length c)]) sm aV) ?_
    rintro _ w206 ⟨dm,b7⟩
    replace hR:=by first|exact hR.grg b7|exact hR.grf b7 hW (by omega)
    replace eq:=Kp.tg eq b7 (by first|exact .inl (dZ _ _)|(right;omega))
    replace y3:=y3.gr b7
    replace yZ:=yZ.gr b7
    replace y0:=y0.gr b7
    replace aV:=dm
    refine ag (ae (af (aa ?_)))
    refine va ?_
    refine ag (ae (aE (aQ (az (aQ (az ?_))))))
    refine aY ?_
    rw[Gd (s:=s) (by omega) (by omega) (show(jO (cD s).2.2.1.1 (cD s).2.2.1.2).2=0 by omega)]
    refine⟨rfl,CnTo.of (⟨gb,gd,Db,Dd,K,ck,V,cv,T,ct,X,cx,xs,N,cn,A,c⟩:CnP) (Nl (⟨gb,gd,Db,Dd,K,ck,V,cv,T,ct,X,cx,xs,N,cn,A,c⟩:CnP) K21 ck21 V21 cv21 T21 ct21) aV (CnR.cmd hR ?_ (lo:=W21) ?_ ?_ ?_ ?_ (Kf _ _ (by omega))) eq (fun x h=>.inl h) (.inr (by omega))⟩
    ·exact(ep.an).resolve_left (by omega)
    ·exact fun x hx=>Nat.lt_of_lt_of_le (hW.1 x hx) (by omega)
    ·rw[Mw];exact Rd.top y3
    ·rw[Mw];exact Rd.top yZ
    ·rw[Mw];exact Rd.top y0
   ·have jE:(jO (cD s).2.2.1.1 (cD s).2.2.1.2)=(cmd0 0,6):=Hd e9
    have hcm2:sM s=(cmd0 0,6):=jE
    rw[jE] at y3 yZ y0
    replace hR:=CnR.cmd0 hR y3 yZ y0
    rw[jE] at aV
    refine aS (bb (ae (af (aa ?_))))
    iterate 2 refine vm ?_
    refine ar (aw Ns (pM _ _ _)) ?_
    rintro v w206 ⟨rfl,jC⟩
    replace aV:=aV.ext jC
    replace hR:=hR.ext jC
    replace eq:=Kp.te eq jC
    have z5:=jC.size
    refine ar (aw IY (nl _ g a b {xY s with cmd:=cmd0 0} gb gd Db Dd K21 ck21 V21 cv21 T21 ct21 X cx xs N cn A c aV hR (rspO 0 ((jO (cD s).2.2.1.1 (cD s).2.2.1.2).2:Int)) [] rfl w206.heap.size w206.heap.size none 0 none 0 (RdI.nil _ _ _) (kF _ _) (sY _ _) (fun x hx=>Nat.lt_of_lt_of_le (hW.1 x hx) (by omega)))) ?_
    rintro v w207 ⟨rfl,A34,c34,Mr,MH,LT⟩
    replace eq:=eq.tr LT (fun x hx=>.inl hx)
    refine ag (ae (cW (ce (ae (af (aa ?_))))))
    refine va ?_
    refine ag (ae (aE ?_))
    refine aY ?_
    rw[Ge (s:=s) (by omega) (by omega) (show¬(jO (cD s).2.2.1.1 (cD s).2.2.1.2).2=0 by omega)]
    exact⟨rfl,CnTo.of (⟨gb,gd,Db,Dd,K,ck,V,cv,T,ct,X,cx,xs,N,cn,A,c⟩:CnP) _ Mr MH eq (fun x h=>.inl h) (.inr (by omega))⟩
  ·refine aS (ae (cW ?_))
   refine q0 rfl ?_
   refine bx ?_
   refine q0 rfl ?_
   refine bx (ce (ae (af (aa ?_))))
   iterate 2 refine vm ?_
   refine ar (aw Ns (pM _ _ _)) ?_
   rintro v w204 ⟨rfl,jC⟩
   replace aV:=aV.ext jC
   replace hR:=hR.ext jC
   replace eq:=Kp.te eq jC
   have z5:=jC.size
   refine ar (aw IY (nl _ g a b (xY s) gb gd Db Dd K ck V cv T ct X cx xs N cn A c aV hR (rspO 0 ((cD s).2.2.2:Int)) [] rfl w204.heap.size w204.heap.size none 0 none 0 (RdI.nil _ _ _) (kF _ _) (sY _ _) (fun x hx=>Nat.lt_of_lt_of_le (hW.1 x hx) (by omega)))) ?_
   rintro v w205 ⟨rfl,A34,c34,Mr,MH,LT⟩
   replace eq:=eq.tr LT (fun x hx=>.inl hx)
   refine ag (ae (cW (ce (ae (af (aa ?_))))))
   refine va ?_
   refine ag (ae (aE ?_))
   refine aY ?_
   rw[zg (s:=s) (by omega) (by omega)]
   exact⟨rfl,CnTo.of (⟨gb,gd,Db,Dd,K,ck,V,cv,T,ct,X,cx,xs,N,cn,A,c⟩:CnP) _ Mr MH eq (fun x h=>.inl h) (.inr (by omega))⟩
theorem F6 (w:World) (g a b:Nat) (s:Cn) (gb gd:Nat) (Db Dd:Option Nat) (K:Option Addr) (ck:Nat) (V:Option Addr) (cv:Nat) (T:Option Addr) (ct:Nat) (X:Option Addr) (cx:Nat) (xs:List IT) (N:Option Addr) (cn:Nat) (A:Option Addr) (c:Nat) (aV:Blk w g 57 (vB s (⟨gb,gd,Db,Dd,K,ck,V,cv,T,ct,X,cx,xs,N,cn,A,c⟩:CnP))) (hR:CnR w g a b s (⟨gb,gd,Db,Dd,K,ck,V,cv,T,ct,X,cx,xs,N,cn,A,c⟩:CnP)) (H0:s.pt≤4611686018427387904):
  Fn Tryz.prog 17 #[(.pointer (some ⟨g,0,none⟩))] w (fun v w'=>v=.tuple #[.int .i64 ((b8 s).2:Int),.int .i64 0]∧CnTo w w' g (cnS g (⟨gb,gd,Db,Dd,K,ck,V,cv,T,ct,X,cx,xs,N,cn,A,c⟩:CnP)) a b (b8 s).1):=by
 replace aV:Blk w g 57 [(.pointer (some ⟨gb,0,none⟩)),(.int .i64 (↑s.ci:Int)),(.int .i64 (↑s.co:Int)),(.int .i64 (↑s.cp:Int)),(.pointer (some ⟨gd,0,none⟩)),(.int .i64 (↑s.ph:Int)),(.int .i64 s.cmd.op),(.string (av s.cmd.key)),(.slice K s.cmd.keys.length ck),(.slice V s.cmd.value.length cv),(.slice T s.cmd.tags.length ct),(.int .u64 (↑s.cmd.life:Int)),(.int .u64 (↑s.cmd.ver:Int)),(.string (av s.cmd.tag)),(.string (av s.cmd.pre)),(.string (av s.cmd.child)),(.int .i64 s.ans.op),(.int .i64 s.ans.err),(.slice X s.ans.items.length cx),(.int .u64 (↑s.ans.ver:Int)),(.int .i64 s.ans.count),(.slice N s.ans.nums.length cn),(.slice A s.bs.length c)]:=aV
 have ep:=hR.ok
 obtain⟨kp1,kp2,ki1,ki2,ko1,khl,kph1,kph4,ksz,kbl,kan,kcb⟩:=id ep
 have eq:=Kp.refl (cnS g (⟨gb,gd,Db,Dd,K,ck,V,cv,T,ct,X,cx,xs,N,cn,A,c⟩:CnP)) w
 refine aO Tryz.func17 ?_
 refine af (aa ?_)
 iterate 2 refine va ?_
 refine ag (ae (af (af (aa ?_))))
 refine vm ?_
 refine ab (aw zj (kh _ g s gb gd Db Dd K ck V cv T ct X cx xs N cn A c aV)) ?_
 refine ag (ae ?_)
 refine aC ?_
 refine aS (ae (af (af (aa ?_))))
 refine vm ?_
 refine vn ?_
 refine ab (ah oa) ?_
 refine ab (ak mb aV) ?_
 refine ag (ae (a9 (af (aa ?_))))
 refine ve ?_
 refine va ?_
 refine ag (ae ?_)
 refine aL (fun eN=>?_) (fun eN=>?_)
 ·refine af (aa ?_)
  refine vm ?_
  refine ar (aw Y0 (F8 _ g a b s gb gd Db Dd K ck V cv T ct X cx xs N cn A c aV hR (by omega))) ?_
  rintro v w1 ⟨rfl,PF⟩
  iterate 2 refine va ?_
  refine ag (ae (aE (aQ (az ?_))))
  refine cX ?_
  have e:b8 s=sL s:=if_pos (by omega)
  rw[e]
  exact⟨rfl,PF⟩
 ·refine af (aa ?_)
  refine ve ?_
  refine va ?_
  refine ag (ae ?_)
  refine aL (fun e9=>?_) (fun e9=>?_)
  ·refine af (aa ?_)
   iterate 2 refine va ?_
   refine ag (ae (aE (aQ (az ?_))))
   refine cX ?_
   have e:b8 s=(s,3):=(if_neg (by omega)).trans (if_pos (by omega))
   rw[e]
   exact⟨rfl,CnTo.of (⟨gb,gd,Db,Dd,K,ck,V,cv,T,ct,X,cx,xs,N,cn,A,c⟩:CnP) (⟨gb,gd,Db,Dd,K,ck,V,cv,T,ct,X,cx,xs,N,cn,A,c⟩:CnP) aV hR eq (fun x h=>.inl h) (.inl ⟨rfl,rfl⟩)⟩
  ·refine af (aa ?_)
   refine ve ?_
   refine va ?_
   refine ag (ae ?_)
   refine aL (fun iD=>?_) (fun iD=>?_)
   ·refine af (aa ?_)
    iterate 2 refine va ?_
    refine ag (ae (aE (aQ (az ?_))))
    refine cX ?_
    have e:b8 s=(s,0):=(if_neg (by omega)).trans ((if_neg (by omega)).trans (if_pos (by omega)))
    rw[e]
    exact⟨rfl,CnTo.of (⟨gb,gd,Db,Dd,K,ck,V,cv,T,ct,X,cx,xs,N,cn,A,c⟩:CnP) (⟨gb,gd,Db,Dd,K,ck,V,cv,T,ct,X,cx,xs,N,cn,A,c⟩:CnP) aV hR eq (fun x h=>.inl h) (.inl ⟨rfl,rfl⟩)⟩
   ·refine aS (bb (ae (af (af ?_))))
    refine cC ej 8 [(18,a0 (.pointer (some ⟨g,0,none⟩))),(19,a0 (.pointer (some ⟨g,0,none⟩))),(20,a0 (.pointer (some ⟨g,0,none⟩))),(21,a0 (.pointer (some ⟨gb,0,none⟩))),(22,a0 (.pointer (some ⟨g,0,none⟩))),(23,a0 (.pointer (some ⟨g,0,none⟩))),(24,a0 (.pointer (some ⟨g,22,none⟩))),(25,a0 (.slice A s.bs.length c))] [[],[0],[1],[2],[],[4],[5],[6]] _ [] [] (fun _ _ h=>h) trivial (by kernel_rfl) rfl ?_ ?_
    ·repeat' apply And.intro
     all_goals first|exact trivial|(intro wd bW;replace aV:=aV.ext bW;(repeat rintro _ rfl))
     exact am (ax (aF))
     exact am (ax (bD))
     exact am (ax (ah rP))
     exact am (ax (ak Hl aV))
     exact am (ax (aF))
     exact am (ax (bD))
     exact am (ax (ah uX))
     exact am (ax (ak dc aV))
    ·intro wf10 sH
     replace aV:=aV.ext sH
     replace hR:=hR.ext sH
     replace eq:=Kp.te eq sH
     have SL:=sH.size
     iterate 8 rintro _ rfl
     refine ar (aw YZ (zn _ 0 gb Db s.co s.out s.pt s.tk hR.buf _ _ A c s.bs hR.hA (hR.sep _ (jz g (⟨gb,gd,Db,Dd,K,ck,V,cv,T,ct,X,cx,xs,N,cn,A,c⟩:CnP))).2 (fun x e=>(hR.sep x (kV e)).2) H0 (Nat.zero_le _))) ?_
     rintro v w201 ⟨rfl,⟨D26,Mh,Ix⟩,M4⟩
     replace aV:=M4.bk aV hR.ne1.1 hR.ne2.1
     replace eq:=eq.chb M4
     replace hR:=hR.bufTo M4 Mh Ix
     have WW:=zr s.co s.out s.bs
     have hW2:=hR.bnd
     refine ab (bS) ?_
     refine ag (ae ?_)
     refine aL (fun ld=>?_) (fun ld=>?_)
     ·refine af (aa ?_)
      iterate 2 refine va ?_
      refine ag (ae (aE (az ?_)))
      refine cX ?_
      rcases WW with⟨Fm,Cf⟩|⟨Fm,Cf⟩
      ·have e:b8 s=(s,5):=(if_neg (by omega)).trans ((if_neg (by omega)).trans ((if_neg (by omega)).trans (if_pos Fm)))
       rw[e]
       rw[Cf] at hR
       exact⟨rfl,CnTo.of (⟨gb,gd,Db,Dd,K,ck,V,cv,T,ct,X,cx,xs,N,cn,A,c⟩:CnP) (CG (⟨gb,gd,Db,Dd,K,ck,V,cv,T,ct,X,cx,xs,N,cn,A,c⟩:CnP) D26) aV hR eq (fun x h=>(Gc Ix h).imp id (fun h=>by omega)) (.inl ⟨rfl,rfl⟩)⟩
      ·rw[Cf] at ld;exact absurd rfl ld
     ·refine aS (ae (af (aa ?_)))
      iterate 3 refine vm ?_
      refine ab (bi fQ j6) ?_
      refine vn ?_
      refine ab (ah oa) ?_
      refine aB (aU sm aV) ?_
      rintro _ w202 ⟨e8,dQ⟩
      have wL:=dQ.size
      replace hR:=by first|exact hR.grg dQ|exact hR.grf dQ hW (by omega)
      replace eq:=Kp.tg eq dQ (by first|exact .inl (dZ _ _)|(right;omega))
      replace aV:=e8
      refine vn ?_
      refine ab (ah zb) ?_
      refine aB (dY (vs:=[(.int .i64 0),(.int .i64 0),(.slice none 0 0),(.int .u64 0),(.int .i64 0),(.slice none 0 0)]) fm aV (iH:=by simp[Value.oneCell'])) ?_
      rintro _ w203 ⟨gy,df⟩
      have wK:=df.size
      replace hR:=by first|exact hR.grg df|exact hR.grf df hW (by omega)
      replace eq:=Kp.tg eq df (by first|exact .inl (dZ _ _)|(right;omega))
      replace aV:=gy
      refine vn ?_
      refine ab (ah uX) ?_
      refine aB (aU gV aV) ?_
      rintro _ w204 ⟨dR,bM⟩
      have D6:=bM.size
      replace hR:=by first|exact hR.grg bM|exact hR.grf bM hW (by omega)
      replace eq:=Kp.tg eq bM (by first|exact .inl (dZ _ _)|(right;omega))
      replace aV:=dR
      refine ag (ae (af (af (aa ?_))))
      refine vm ?_
      refine vn ?_
      refine ab (ah lV) ?_
      refine ab (ak wr aV) ?_
      refine ar (aw RX (rV _ 0 gd Dd s.cp s.cl s.held hR.dec (by omega))) ?_
      rintro v w205 ⟨rfl,uA⟩
      replace aV:=aV.ext uA
      replace hR:=hR.ext uA
      replace eq:=Kp.te eq uA
      have HB:=uA.size
      refine ag (ae ?_)
      refine dJ (fun pC=>?_) (fun pC=>?_)
      ·refine aa ?_
       refine vm ?_
       refine vn ?_
       refine ab (ah (off:=5) oa) ?_
       refine aB (aU (cs':=[(.pointer (some ⟨gb,0,none⟩)),(.int .i64 (↑s.ci:Int)),(.int .i64 (↑s.co:Int)),(.int .i64 (↑s.cp:Int)),(.pointer (some ⟨gd,0,none⟩)),(.int .i64 4),(.int .i64 s.cmd.op),(.string (av s.cmd.key)),(.slice K s.cmd.keys.length ck),(.slice V s.cmd.value.length cv),(.slice T s.cmd.tags.length ct),(.int .u64 (↑s.cmd.life:Int)),(.int .u64 (↑s.cmd.ver:Int)),(.string (av s.cmd.tag)),(.string (av s.cmd.pre)),(.string (av s.cmd.child)),(.int .i64 0),(.int .i64 0),(.slice none 0 0),(.int .u64 0),(.int .i64 0),(.slice none 0 0),(.slice none 0 0)]) sm aV) ?_
       rintro _ w206 ⟨dm,b7⟩
       have D5:=b7.size
       replace hR:=by first|exact hR.grg b7|exact hR.grf b7 hW (by omega)
       replace eq:=Kp.tg eq b7 (by first|exact .inl (dZ _ _)|(right;omega))
       replace aV:=dm
       refine ag (ae (af (aa ?_)))
       iterate 2 refine va ?_
       refine ag (ae (aE ?_))
       refine cX ?_
       rcases WW with⟨Fm,Cf⟩|⟨Fm,Cf⟩
       ·rw[Cf] at ld;exact absurd (show((7:Nat):Int)≠0 by decide) ld
       rw[Cf] at hR
       have e:b8 s=(kS s,4):=(if_neg (by omega)).trans ((if_neg (by omega)).trans ((if_neg (by omega)).trans (if_neg Fm)))
       have e2:kS s={s with out:=s.out++s.bs,pt:=s.pt+s.bs.length,ph:=4,ans:=rspO 0 0,bs:=[]}:=by unfold kS;rw[if_pos (by simpa using pC)]
       rw[e]
       refine⟨rfl,?_⟩
       show CnTo w _ g (cnS g (⟨gb,gd,Db,Dd,K,ck,V,cv,T,ct,X,cx,xs,N,cn,A,c⟩:CnP)) a b (kS s)
       rw[e2]
       exact CnTo.of (⟨gb,gd,Db,Dd,K,ck,V,cv,T,ct,X,cx,xs,N,cn,A,c⟩:CnP) (Nh (CG (⟨gb,gd,Db,Dd,K,ck,V,cv,T,ct,X,cx,xs,N,cn,A,c⟩:CnP) D26)) aV (hR.ans0 (n:=4) (by decide) (by decide)) eq (fun x h=>(Gc (p:=(⟨gb,gd,Db,Dd,K,ck,V,cv,T,ct,X,cx,xs,N,cn,A,c⟩:CnP)) (D:=D26) Ix h).imp id (fun h=>by omega)) (.inl ⟨rfl,rfl⟩)
      ·refine aS (ae (af (aa ?_)))
       iterate 2 refine va ?_
       refine ag (ae (aE ?_))
       refine cX ?_
       rcases WW with⟨Fm,Cf⟩|⟨Fm,Cf⟩
       ·rw[Cf] at ld;exact absurd (show((7:Nat):Int)≠0 by decide) ld
       rw[Cf] at hR
       have e:b8 s=(kS s,4):=(if_neg (by omega)).trans ((if_neg (by omega)).trans ((if_neg (by omega)).trans (if_neg Fm)))
       have e2:kS s={s with out:=s.out++s.bs,pt:=s.pt+s.bs.length,ph:=1,ans:=rspO 0 0,bs:=[]}:=by unfold kS;rw[if_neg (by simpa using pC)]
       rw[e]
       refine⟨rfl,?_⟩
       show CnTo w _ g (cnS g (⟨gb,gd,Db,Dd,K,ck,V,cv,T,ct,X,cx,xs,N,cn,A,c⟩:CnP)) a b (kS s)
       rw[e2]
       exact CnTo.of (⟨gb,gd,Db,Dd,K,ck,V,cv,T,ct,X,cx,xs,N,cn,A,c⟩:CnP) (Nh (CG (⟨gb,gd,Db,Dd,K,ck,V,cv,T,ct,X,cx,xs,N,cn,A,c⟩:CnP) D26)) aV (hR.ans0 (n:=1) (by decide) (by decide)) eq (fun x h=>(Gc (p:=(⟨gb,gd,Db,Dd,K,ck,V,cv,T,ct,X,cx,xs,N,cn,A,c⟩:CnP)) (D:=D26) Ix h).imp id (fun h=>by omega)) (.inl ⟨rfl,rfl⟩)
end Go.Proofs.YtiighkbehiddkaaGreat
namespace Go.Proofs.YtiighkbehiddkaaGreat
open Go.RowKit
set_option linter.unusedVariables false
set_option maxRecDepth 4000
theorem RO:aX Tryz.prog 70=true:=by kernel_rfl
theorem RN:aX Tryz.prog 71=true:=by kernel_rfl
theorem Cx (xs:List IT):∀x∈xs,(itc x).length=4:=fun _ _=>rfl
section
variable {P:Program} {L:Env} {w:World} {d:Option Nat} {ty:TypeId} {pos:String} {aft:Array Edge} {gd:Option (Nat×Bool)}
theorem tU {t e:TypeId} {x y:Operand} {lo g k n c size:Nat} {xs:List Value} {v:Value} (ht:(P.info? t).map (·.size)=some 1) (hx:ev L x=some (.pointer (some ⟨g,k,none⟩))) (hy:ev L y=some v) (iH:v.oneCell'=true) (f7:Own w lo e size (some ⟨g,0,none⟩) n c xs) (hk:k<n*size) (hl:k<xs.length):
  OpRun P ⟨d,.store t x y,ty,pos,aft,gd⟩ L w fun _ w'=>Own w' lo e size (some ⟨g,0,none⟩) n c (xs.set k v)∧Gr w w' (some g):=
 iM fun ρ h1 _=>by
  have mG:=World.ownsRow.cellAt f7 k hk
  have GK:=World.ownsRow.frozenAt f7 k
  obtain⟨inf,rx,gf⟩:=Option.map_eq_some_iff.1 ht
  refine⟨w.setCell ⟨g,k,none⟩ v,?_,(World.ownsRow.stored f7 k v).1,n8 w ⟨g,k,none⟩ v⟩
  have it:=run_store P w ⟨g,k,none⟩ v .plain iH
  rw[mG,List.getElem?_eq_getElem hl] at it
  simp only[GK] at it
  have hc:v.cells=#[v]:=by cases v<;>first|rfl|(simp[Value.oneCell'] at iH)
  simp[execOp,h1 x _ hx,h1 y _ hy,Instr.storeAt,Instr.sureAddr,storeVar,cV rx,gf,hc,storeCells,Addr.add_zero',it]
end
theorem Bx {w:World} {lo e g n c:Nat} {zs:List IT} {i j:Nat} {x:IT} {u:Value} (h:Own w lo e 4 (some ⟨g,0,none⟩) n c (zs.flatMap itc)) (hn:n=zs.length) (hx:zs[i]?=some x) (hu:(itc x)[j]?=some u):w.cell? ⟨g,i*4+j,none⟩=some u:=by
 have hi:=(List.getElem?_eq_some_iff.1 hx).1
 have hj:j<4:=(List.getElem?_eq_some_iff.1 hu).1
 rw[World.ownsRow.cellAt h (i*4+j) (by omega)]
 exact oO (Cx zs) hx hu
/-- The items so far copied, and the rest. -/
theorem A2 {ys xs:List IT} {i:Nat} {x:IT} (hy:ys.length=i) (hx:xs[i]?=some x) (A:Option Addr) (c:Nat):
  ((ys++xs.drop i).flatMap itc).set (i*4+1) (.slice A x.1.value.length c)=((ys++[(x.1,A,c)])++xs.drop (i+1)).flatMap itc:=by
 have hi:=(List.getElem?_eq_some_iff.1 hx).1
 have hd:xs.drop i=x::xs.drop (i+1):=by rw[List.drop_eq_getElem_cons hi];congr 1;exact(List.getElem?_eq_some_iff.1 hx).2
 rw[List.flatMap_append,hd,List.flatMap_cons,List.set_append_right _ _ (by rw[oF];omega),oF,hy,show i*4+1 - 4*i=1 by omega,List.flatMap_append,List.flatMap_append,List.append_assoc,List.flatMap_singleton]
 rfl
/-- The values of items, each in a row of one's own, in order. -/
def OwnV (w:World) (lo:Nat) (ys:List IT):Prop:=(∀y∈ys,OwnB w lo 5 y.2.1 y.2.2 y.1.value)∧ys.Pairwise fun a b=>∀g g',gI a.2.1=some g→gI b.2.1=some g'→g<g'
theorem OwnV.ext {w w':World} {lo:Nat} {ys:List IT} (h:OwnV w lo ys) (he:Ext w w'):OwnV w' lo ys:=⟨fun y hy=>Own.ext (h.1 y hy) he,h.2⟩
theorem OwnV.gr {w w':World} {lo:Nat} {ys:List IT} (h:OwnV w lo ys) {row:Option Nat} (hg:Gr w w' row) (hr:∀g,row=some g→g<lo:=by intro _ e;cases e;omega):OwnV w' lo ys:=
 ⟨fun y hy=>Own.gr (h.1 y hy) hg (By fun g e g' e'=>by have:=Own.lt (h.1 y hy) e;have:=hr g' e';omega),h.2⟩
theorem OwnV.add {w:World} {lo B:Nat} {ys:List IT} {y:IT} (h:OwnV w lo ys) (hy:OwnB w lo 5 y.2.1 y.2.2 y.1.value) (hb:∀g,gI y.2.1=some g→B≤g) (hB:∀x∈ys,∀g,gI x.2.1=some g→g<B):OwnV w lo (ys++[y]):=by
 refine⟨?_,?_⟩
 ·intro z hz
  rcases List.mem_append.1 hz with hz|hz
  ·exact h.1 z hz
  ·rw[List.mem_singleton.1 hz];exact hy
 ·rw[List.pairwise_append]
  refine⟨h.2,by simp,?_⟩
  intro a ha b vA g g' e e'
  rw[List.mem_singleton.1 vA] at e'
  have:=hB a ha g e
  have:=hb g' e'
  omega
theorem OwnV.vr {w:World} {lo:Nat} {ys:List IT} (h:OwnV w lo ys):VR w lo ys:=fun y hy=>OwnB.rd (h.1 y hy)
theorem OwnV.lt {w:World} {lo:Nat} {ys:List IT} (h:OwnV w lo ys):∀x∈ys,∀g,gI x.2.1=some g→g<w.heap.size:=fun x hx g e=>(Own.lt (h.1 x hx) e).2
theorem OwnV.mono {w:World} {lo lo':Nat} {ys:List IT} (h:OwnV w lo ys) (hl:lo'≤lo):OwnV w lo' ys:=⟨fun y hy=>Own.mono (h.1 y hy) hl,h.2⟩
theorem Hu:∀{xs:List IT} {u:Value},u∈xs.flatMap itc→u.oneCell'=true:=by
 intro xs u h
 obtain⟨x,_,hx⟩:=List.mem_flatMap.1 h
 simp only[itc,List.mem_cons,List.not_mem_nil,or_false] at hx
 rcases hx with rfl|rfl|rfl|rfl<;>rfl
theorem Hm:∀{xs:List Nat} {u:Value},u∈xs.flatMap nuc→u.oneCell'=true:=by
 intro xs u h
 obtain⟨x,_,hx⟩:=List.mem_flatMap.1 h
 rw[List.mem_singleton.1 hx];rfl
/-- A copy: the items' row, the values' rows and the numbers' row are one's own, from lo on. -/
structure CopyAt (w:World) (lo:Nat) (r:Rsp) (ys:List IT) (X:Option Addr) (cx:Nat) (N:Option Addr) (cn:Nat):Prop where
 v:vals ys=r.items
 x:Own w lo 80 4 X r.items.length cx (ys.flatMap itc)
 vs:OwnV w lo ys
 n:Own w lo 36 1 N r.nums.length cn (r.nums.flatMap nuc)
theorem CopyAt.ext {w w':World} {lo:Nat} {r:Rsp} {ys:List IT} {X:Option Addr} {cx:Nat} {N:Option Addr} {cn:Nat} (h:CopyAt w lo r ys X cx N cn) (he:Ext w w'):CopyAt w' lo r ys X cx N cn:=⟨h.v,Own.ext h.x he,h.vs.ext he,Own.ext h.n he⟩
theorem CopyAt.hx {w:World} {lo:Nat} {r:Rsp} {ys:List IT} {X:Option Addr} {cx:Nat} {N:Option Addr} {cn:Nat} (h:CopyAt w lo r ys X cx N cn):RdI w lo w.heap.size X cx ys:=by
 have e:(vals ys).length=ys.length:=List.length_map ..
 have hr:=Own.rd h.x
 rw[←h.v,e] at hr
 exact⟨hr,h.vs.vr⟩
theorem C8:∀{xs:List (List UInt8)} {u:Value},u∈xs.flatMap gO→u.oneCell'=true:=by
 intro xs u h
 obtain⟨x,_,hx⟩:=List.mem_flatMap.1 h
 rw[List.mem_singleton.1 hx];rfl
theorem qJ {α:Type} {w:World} {lo hi size c:Nat} {f:α→List Value} {xs:List α} (h:RdR w lo hi size f none c xs) (hs:0<size:=by decide):xs=[]:=by
 rcases Nat.eq_zero_or_pos xs.length with e|e
 ·exact List.eq_nil_of_length_eq_zero e
 ·have h1:=h.2.2.1
  have eB:xs.flatMap f≠[]:=fun q=>by
   rw[q] at h1
   have:0<xs.length*size:=Nat.mul_pos e hs
   simp at h1;omega
  obtain⟨ad,ha,_⟩:=h.2.2.2 eB
  cases ha
theorem DX {xs:List Itm} {x:Itm} (h:x∈xs):x.value.length+40≤(xs.map o3).sum:=by
 induction xs with
 |nil=>cases h
 |cons y r ih=>
  rw[List.map_cons,List.sum_cons]
  rcases List.mem_cons.1 h with h|h
  ·subst h;show _≤(x.value.length+40)+_;omega
  ·have:=ih h;omega
theorem wG:∀(xs:List Itm),40*xs.length≤(xs.map o3).sum
 |[]=>Nat.zero_le _
 |x::r=>by
  have:=wG r
  rw[List.map_cons,List.sum_cons,List.length_cons]
  show _≤(x.value.length+40)+_
  omega
theorem p0 (w:World) (lo hi:Nat) (A:Option Addr) (c:Nat) (xs:List IT) (hr:RdR w lo hi 4 itc A c xs) (hl:xs.length≤1099511627776):
  Fn Tryz.prog 70 #[(.slice A xs.length c)] w (fun v w'=>∃A' c',v=.slice A' xs.length c'∧Own w' w.heap.size 80 4 A' xs.length c' (xs.flatMap itc)∧Ext w w'):=by
 refine aO Tryz.func70 ?_
 refine af (aa ?_)
 refine va ?_
 refine ag (ae (af (af (aa ?_))))
 refine vm ?_
 refine ab (jg Tryz.underlying40 rfl) ?_
 refine ag (ae ?_)
 refine dJ (fun dM=>?_) (fun dM=>?_)
 ·have hA:A=none:=by cases A<;>simp_all
  subst hA
  have mq:=qJ hr
  subst mq
  refine af (aa ?_)
  refine va ?_
  refine ag (ae (aE (az ?_)))
  refine aY ?_
  exact⟨none,0,rfl,Own.nil_ w w.heap.size _ _,aP w⟩
 ·refine aS (ae (af (aa ?_)))
  refine ar (ka nm) ?_
  rintro v w201 ⟨A5,c5,rfl,Aj,f0⟩
  replace hr:=hr.ext f0
  have t8:=f0.size
  have rn:=fun g e=>Own.lt Aj (g:=g) e
  refine vm ?_
  refine ar (j1 nm rfl Aj rfl hr (fun u hu=>Hu hu) (by simp only[maxLen];omega)) ?_
  rintro v w202 ⟨A7,c7,rfl,sw,jw,Tp⟩
  have Rx:Ext _ _:=f0.gr jw (fun g e=>(rn g e).1)
  rw[Nat.zero_add,List.nil_append] at sw
  refine aN (d:=7) rfl (v':=.slice A7 xs.length c7) (by rw[Nat.zero_add]) ?_
  refine va ?_
  refine ag (ae (aE ?_))
  refine aY ?_
  exact⟨A7,c7,rfl,sw,Rx⟩
theorem pW (w:World) (lo hi:Nat) (A:Option Addr) (c:Nat) (xs:List Nat) (hr:RdR w lo hi 1 nuc A c xs) (hl:xs.length≤1099511627776):
  Fn Tryz.prog 71 #[(.slice A xs.length c)] w (fun v w'=>∃A' c',v=.slice A' xs.length c'∧Own w' w.heap.size 36 1 A' xs.length c' (xs.flatMap nuc)∧Ext w w'):=by
 refine aO Tryz.func71 ?_
 refine af (aa ?_)
 refine va ?_
 refine ag (ae (af (af (aa ?_))))
 refine vm ?_
 refine ab (jg Tryz.underlying41 rfl) ?_
 refine ag (ae ?_)
 refine dJ (fun dM=>?_) (fun dM=>?_)
 ·have hA:A=none:=by cases A<;>simp_all
  subst hA
  have mq:=qJ hr
  subst mq
  refine af (aa ?_)
  refine va ?_
  refine ag (ae (aE (az ?_)))
  refine aY ?_
  exact⟨none,0,rfl,Own.nil_ w w.heap.size _ _,aP w⟩
 ·refine aS (ae (af (aa ?_)))
  refine ar (ka sn) ?_
  rintro v w201 ⟨A5,c5,rfl,Aj,f0⟩
  replace hr:=hr.ext f0
  have t8:=f0.size
  have rn:=fun g e=>Own.lt Aj (g:=g) e
  refine vm ?_
  refine ar (j1 sn rfl Aj rfl hr (fun u hu=>Hm hu) (by simp only[maxLen];omega)) ?_
  rintro v w202 ⟨A7,c7,rfl,sw,jw,Tp⟩
  have Rx:Ext _ _:=f0.gr jw (fun g e=>(rn g e).1)
  rw[Nat.zero_add,List.nil_append] at sw
  refine aN (d:=7) rfl (v':=.slice A7 xs.length c7) (by rw[Nat.zero_add]) ?_
  refine va ?_
  refine ag (ae (aE ?_))
  refine aY ?_
  exact⟨A7,c7,rfl,sw,Rx⟩
theorem pU (w:World) (lo hi:Nat) (A:Option Addr) (c:Nat) (xs:List (List UInt8)) (hr:RdR w lo hi 1 gO A c xs) (hl:xs.length≤1099511627776):
  Fn Tryz.prog 46 #[(.slice A xs.length c)] w (fun v w'=>∃A' c',v=.slice A' xs.length c'∧Own w' w.heap.size 9 1 A' xs.length c' (xs.flatMap gO)∧Ext w w'):=by
 refine aO Tryz.func46 ?_
 refine af (aa ?_)
 refine va ?_
 refine ag (ae (af (af (aa ?_))))
 refine vm ?_
 refine ab (jg Tryz.underlying35 rfl) ?_
 refine ag (ae ?_)
 refine dJ (fun dM=>?_) (fun dM=>?_)
 ·have hA:A=none:=by cases A<;>simp_all
  subst hA
  have mq:=qJ hr
  subst mq
  refine af (aa ?_)
  refine va ?_
  refine ag (ae (aE (az ?_)))
  refine aY ?_
  exact⟨none,0,rfl,Own.nil_ w w.heap.size _ _,aP w⟩
 ·refine aS (ae (af (aa ?_)))
  refine ar (ka p5) ?_
  rintro v w201 ⟨A5,c5,rfl,Aj,f0⟩
  replace hr:=hr.ext f0
  have t8:=f0.size
  have rn:=fun g e=>Own.lt Aj (g:=g) e
  refine vm ?_
  refine ar (j1 p5 rfl Aj rfl hr (fun u hu=>C8 hu) (by simp only[maxLen];omega)) ?_
  rintro v w202 ⟨A7,c7,rfl,sw,jw,Tp⟩
  have Rx:Ext _ _:=f0.gr jw (fun g e=>(rn g e).1)
  rw[Nat.zero_add,List.nil_append] at sw
  refine aN (d:=7) rfl (v':=.slice A7 xs.length c7) (by rw[Nat.zero_add]) ?_
  refine va ?_
  refine ag (ae (aE ?_))
  refine aY ?_
  exact⟨A7,c7,rfl,sw,Rx⟩
theorem Nc (w:World) (r:Rsp) (xs:List IT) (hv:vals xs=r.items) (lo hi:Nat) (X:Option Addr) (cx:Nat) (N:Option Addr) (cn:Nat) (hx:RdI w lo hi X cx xs) (hn:RdN w lo hi N cn r.nums) (gf:rsz r≤4398046511104) (p3:0<xs.length):
  Fn Tryz.prog 48 #[(.agg #[(.int .i64 r.op),(.int .i64 r.err),(.slice X r.items.length cx),(.int .u64 (↑r.ver:Int)),(.int .i64 r.count),(.slice N r.nums.length cn)])] w (fun v w'=>∃ys X' cx' N' cn',v=.agg (b9 r X' cx' N' cn').toArray∧CopyAt w' w.heap.size r ys X' cx' N' cn'∧Ext w w'):=by
 replace hx:=hx.top
 replace hn:=Rd.top hn
 have hE:=aP w
 obtain⟨hi,nr⟩:∃n,n=w.heap.size:=⟨_,rfl⟩
 rw[←nr] at hx hn
 have mu:=cP xs
 rw[hv] at mu
 have vq:rsz r=(r.items.map o3).sum+10*r.nums.length+100:=rfl
 have NS:=wG r.items
 have Zs:∀x∈r.items,x.value.length≤4398046511104:=fun x hx=>by have:=DX hx;omega
 refine aO Tryz.func48 ?_
 refine af (aa ?_)
 refine ar (bU) ?_
 rintro v w1 ⟨g1,rfl,au,dL,kM,ls⟩
 replace hx:=RdI.ext hx dL
 replace hn:=hn.ext dL
 replace hE:=hE.tr dL
 refine ar (bc fQ) ?_
 rintro v w2 ⟨g2,rfl,aq,dk,my,nd⟩
 replace hx:=RdI.ext hx dk
 replace hn:=hn.ext dk
 replace hE:=hE.tr dk
 replace au:=au.ext dk
 have re:=dk.size
 refine ag (ae (af ?_))
 refine fD 7 [(4,a0 (.pointer (some ⟨g1,2,none⟩))),(5,a0 (.slice X xs.length cx)),(6,(fun v wz=>∃A c,v=.slice A xs.length c∧Own wz w2.heap.size 80 4 A xs.length c (xs.flatMap itc))),(7,a0 (.pointer (some ⟨g1,5,none⟩))),(8,a0 (.slice N r.nums.length cn)),(9,(fun v wz=>∃A c,v=.slice A r.nums.length c∧Own wz w2.heap.size 36 1 A r.nums.length c (r.nums.flatMap nuc))),(10,a0 (.pointer (some ⟨g1,2,none⟩)))] [[],[0],[1],[],[3],[4],[]] _ [] [] ⟨sE,sE,⟨(fun v w w' ⟨A,c,hv,ho⟩ he=>⟨A,c,hv,Own.ext ho he⟩),fun _ he=>by cases he⟩,sE,sE,⟨(fun v w w' ⟨A,c,hv,ho⟩ he=>⟨A,c,hv,Own.ext ho he⟩),fun _ he=>by cases he⟩,sE,trivial⟩ ?_ ?_
 ·repeat' apply And.intro
  all_goals first|exact trivial|(intro wd bW;replace au:=au.ext bW;replace hx:=RdI.ext hx bW;have dK:=bW.size;replace hn:=hn.ext bW;(repeat rintro _ rfl))
  exact am (ax (ah cJ))
  exact am (qO (ak fA au) (by rw[←hv,cP]))
  ·refine am (OpRun.mono (aw RO (p0 _ _ _ X cx xs hx.1 (by omega))) ?_)
   rintro v w3 ⟨A6,c6,rfl,ie,lm⟩
   exact⟨⟨A6,c6,rfl,Own.mono ie (by omega)⟩,lm⟩
  exact am (ax (ah dI))
  exact am (ax (ak iG au))
  ·refine am (OpRun.mono (aw RN (pW _ _ _ N cn r.nums hn (by omega))) ?_)
   rintro v w3 ⟨A9,c9,rfl,jv,ii⟩
   exact⟨⟨A9,c9,rfl,Own.mono jv (by omega)⟩,ii⟩
  exact am (ax (ah cJ))
 ·intro wf1 jB
  replace hx:=RdI.ext hx jB
  replace hE:=hE.tr jB
  replace au:=au.ext jB
  replace aq:=aq.ext jB
  iterate 2 rintro _ rfl
  rintro _ ⟨A6,c6,rfl,ie⟩
  iterate 2 rintro _ rfl
  rintro _ ⟨A9,c9,rfl,jv⟩
  rintro _ rfl
  have kW:=fun g e=>Own.lt ie (g:=g) e
  have lI:=fun g e=>Own.lt jv (g:=g) e
  replace ie:=Own.mono ie (show w.heap.size≤_ by omega)
  replace jv:=Own.mono jv (show w.heap.size≤_ by omega)
  refine aB (aU AZ au) ?_
  rintro _ w3 ⟨rL,lu⟩
  replace hx:=RdI.gr hx lu (fun _ e=>by cases e;omega)
  replace hE:=hE.gr lu
  replace aq:=aq.gr lu
  replace ie:=Own.gr ie lu (by first|exact .inl rfl|(right;intro e;first|(have:=kW _ e;omega)|(have:=Own.lt ie e;omega)|exact aT ie au (by decide) e))
  replace jv:=Own.gr jv lu (by first|exact .inl rfl|(right;intro e;first|(have:=lI _ e;omega)|(have:=Own.lt jv e;omega)|exact aT jv au (by decide) e))
  replace au:=rL
  refine ab (ah dI) ?_
  refine aB (aU G3 au) ?_
  rintro _ w4 ⟨gT,cQ⟩
  replace hx:=RdI.gr hx cQ (fun _ e=>by cases e;omega)
  replace hE:=hE.gr cQ
  replace aq:=aq.gr cQ
  replace ie:=Own.gr ie cQ (by first|exact .inl rfl|(right;intro e;first|(have:=kW _ e;omega)|(have:=Own.lt ie e;omega)|exact aT ie au (by decide) e))
  replace jv:=Own.gr jv cQ (by first|exact .inl rfl|(right;intro e;first|(have:=lI _ e;omega)|(have:=Own.lt jv e;omega)|exact aT jv au (by decide) e))
  replace au:=gT
  refine ag (ae (af (af (aa ?_))))
  refine ab (ah cJ) ?_
  refine ab (ak fA au) ?_
  refine ab (bj Tryz.underlying40) ?_
  refine vm ?_
  refine ag (ae (a9 ?_))
  have Ph:=aq.lt
  obtain⟨g7,rfl,hg71,hg72⟩:=Own.addr ie (by omega)
  have Il:g7≠g1∧g7≠g2:=⟨fun e=>aT ie au (by decide) (by rw[e];rfl),fun e=>aT ie aq (by decide) (by rw[e];rfl)⟩
  obtain⟨hg7a,hg7b⟩:=Il
  obtain⟨B1,hB1⟩:∃n,n=w4.heap.size:=⟨_,rfl⟩
  have hg7B:g7<B1:=by omega
  have hBw:w.heap.size≤B1:=by omega
  refine cU (σ:=Nat×List IT) (fun s=>xs.length - s.1) (fun s=>[(1,.pointer (some ⟨g1,0,none⟩)),(2,.pointer (some ⟨g2,0,none⟩)),(14,.int .i64 (xs.length:Int)),(15,.int .i64 (s.1:Int))]) (fun s w'=>s.1≤xs.length∧s.2.length=s.1∧vals s.2=(vals xs).take s.1∧Own w' w.heap.size 80 4 (some ⟨g7,0,none⟩) xs.length c6 ((s.2++xs.drop s.1).flatMap itc)∧OwnV w' B1 s.2∧Own w' w.heap.size 36 1 A9 r.nums.length c9 (r.nums.flatMap nuc)∧B1≤w'.heap.size∧Blk w' g1 43 [.int .i64 r.op,.int .i64 r.err,.slice (some ⟨g7,0,none⟩) xs.length c6,.int .u64 (r.ver:Int),.int .i64 r.count,.slice A9 r.nums.length c9]∧Blk w' g2 43 (b9 (rspO 0 0) none 0 none 0)∧RdI w' lo hi X cx xs∧Ext w w') ((0,[])) (⟨Nat.zero_le _,rfl,rfl,ie,⟨fun _ h=>(by cases h),List.Pairwise.nil⟩,jv,by omega,au,aq,hx,hE⟩) ?_
  rintro⟨i,ys⟩ wq ⟨nh,NL,KM,ie,CV,jv,hBq,au,aq,hx,hE⟩
  simp only at nh NL KM
  replace ie:Own wq w.heap.size 80 4 (some ⟨g7,0,none⟩) xs.length c6 ((ys++xs.drop i).flatMap itc):=ie
  replace CV:OwnV wq B1 ys:=CV
  have kW:=fun g e=>Own.lt ie (g:=g) e
  have lI:=fun g e=>Own.lt jv (g:=g) e
  have Wk:=(kW g7 rfl).2
  have hyb:=CV.lt
  refine af (aa ?_)
  refine ab (bz) ?_
  refine ag (ae (af ?_))
  refine aL (fun dM=>?_) (fun dM=>?_)
  ·obtain⟨x,hk⟩:∃s,xs[i]?=some s:=⟨_,List.getElem?_eq_getElem (by omega)⟩
   have l6:=m2 hv hk
   have Ac:=Zs x.1 (List.mem_of_getElem? l6)
   have ng:(ys++xs.drop i)[i]?=some x:=by rw[List.getElem?_append_right (by omega),NL,Nat.sub_self,List.getElem?_drop,Nat.add_zero];exact hk
   have hlz:xs.length=(ys++xs.drop i).length:=by rw[List.length_append,List.length_drop];omega
   have kI:=hx.2 x (List.mem_of_getElem? hk)
   refine aS (ae (af (a9 (af (aa ?_)))))
   refine vm ?_
   refine va ?_
   refine ag (ae ?_)
   refine cC ej 10 [(18,a0 (.pointer (some ⟨g1,2,none⟩))),(19,a0 (.slice (some ⟨g7,0,none⟩) xs.length c6)),(20,a0 (.int .i64 (↑i:Int))),(21,a0 (.pointer (some ⟨g1,2,none⟩))),(22,a0 (.slice (some ⟨g7,0,none⟩) xs.length c6)),(23,a0 (.int .i64 (↑i:Int))),(24,a0 (.pointer (some ⟨g7,(i*4),none⟩))),(25,a0 (.pointer (some ⟨g7,(i*4+1),none⟩))),(26,a0 (.slice x.2.1 x.1.value.length x.2.2)),(27,iP wq.heap.size 5 x.1.value)] [[],[0],[],[],[3],[],[4,5],[6],[7],[8]] _ [] [] (fun _ _ h=>h) trivial (by kernel_rfl) rfl ?_ ?_
   ·repeat' apply And.intro
    all_goals first|exact trivial|(intro wd bW;replace au:=au.ext bW;replace ie:=Own.ext ie bW;replace kI:=kI.ext bW;have dK:=bW.size;(repeat rintro _ rfl))
    exact am (ax (ah cJ))
    exact am (ax (ak fA au))
    exact am (ax (aF))
    exact am (ax (ah cJ))
    exact am (ax (ak fA au))
    exact am (ax (aF))
    exact am (ax (pe nm rfl rfl rfl))
    exact am (ax (ah iB))
    ·have WP:=Bx (j:=1) ie hlz ng rfl
     exact am (ax (dv dc rfl WP))
    ·refine am (OpRun.mono (aw CI (hY _ _ _ _ _ _ kI)) ?_)
     rintro v w5 ⟨A27,c27,rfl,mc,Cb⟩
     exact⟨⟨A27,c27,rfl,Own.mono mc (by omega)⟩,Cb⟩
   ·intro wf5 px
    replace ie:=Own.ext ie px
    replace CV:=OwnV.ext CV px
    replace jv:=Own.ext jv px
    replace au:=au.ext px
    replace aq:=aq.ext px
    replace hx:=RdI.ext hx px
    replace hE:=hE.tr px
    have D7:=px.size
    iterate 9 rintro _ rfl
    rintro _ ⟨A27,c27,rfl,mc⟩
    have oJ:=fun g e=>Own.lt mc (g:=g) e
    refine ab (pe nm rfl rfl rfl) ?_
    refine ab (ah iB) ?_
    refine aB (tU gV rfl rfl rfl ie (by omega) (by rw[oF,List.length_append,List.length_drop];omega)) ?_
    rintro _ w5 ⟨Rq,xg⟩
    replace jv:=Own.gr jv xg (yq jv ie (by decide))
    have SH:=xg.size
    replace CV:=OwnV.gr CV xg (fun _ e=>by cases e;omega)
    replace au:=au.gr xg
    replace aq:=aq.gr xg
    replace hx:=RdI.gr hx xg (fun _ e=>by cases e;omega)
    replace hE:=hE.gr xg
    replace mc:=Own.gr mc xg (by first|exact .inl rfl|(right;intro e;first|(have:=oJ _ e;omega)|(have:=Own.lt mc e;omega)))
    rw[A2 NL hk] at Rq
    replace ie:=Rq
    refine ag (bb (ae (aa ?_)))
    refine ab (bH) ?_
    refine vm ?_
    refine ag ?_
    have hyn:vals (ys++[(x.1,A27,c27)])=(vals xs).take (i+1):=by rw[qB,KM,List.take_add_one,io hk];rfl
    have hvn:OwnV w5 B1 (ys++[(x.1,A27,c27)]):=CV.add (B:=wq.heap.size) (Own.mono mc (by omega)) (fun g e=>by have:=oJ g e;omega) hyb
    refine cB ((i+1,ys++[(x.1,A27,c27)])) (by show xs.length -(i+1)<xs.length - i;omega) (⟨by show i+1≤_;omega,by show(ys++[_]).length=i+1;rw[List.length_append,NL];rfl,hyn,ie,hvn,jv,by omega,au,aq,hx,hE⟩)
  ·have pr:xs.length=i:=by omega
   subst pr
   rw[List.drop_length,List.append_nil] at ie
   rw[show(vals xs).take xs.length=vals xs from by rw[←cP xs,List.take_length],hv] at KM
   refine cW (bx (bx (ce (ae (af (aa ?_))))))
   refine ab (aK (cs:=[(.int .i64 r.op),(.int .i64 r.err),(.slice (some ⟨g7,0,none⟩) xs.length c6),(.int .u64 (↑r.ver:Int)),(.int .i64 r.count),(.slice A9 r.nums.length c9)]) bZ au) ?_
   refine aB (aD (vs:=[(.int .i64 r.op),(.int .i64 r.err),(.slice (some ⟨g7,0,none⟩) xs.length c6),(.int .u64 (↑r.ver:Int)),(.int .i64 r.count),(.slice A9 r.nums.length c9)]) fm aq) ?_
   rintro _ w205 ⟨cy,ba⟩
   replace ie:=Own.gr ie ba (by first|exact .inl rfl|(right;intro e;first|(have:=kW _ e;omega)|(have:=Own.lt ie e;omega)|exact aT ie aq (by decide) e))
   replace CV:=OwnV.gr CV ba (fun _ e=>by cases e;omega)
   replace jv:=Own.gr jv ba (by first|exact .inl rfl|(right;intro e;first|(have:=lI _ e;omega)|(have:=Own.lt jv e;omega)|exact aT jv aq (by decide) e))
   replace hE:=hE.gr ba
   replace aq:=cy
   refine ag (ae (aE ?_))
   refine bm (vs:=[.agg #[(.int .i64 r.op),(.int .i64 r.err),(.slice (some ⟨g7,0,none⟩) xs.length c6),(.int .u64 (↑r.ver:Int)),(.int .i64 r.count),(.slice A9 r.nums.length c9)]]) rfl ⟨⟨_,_,[(.int .i64 r.op),(.int .i64 r.err),(.slice (some ⟨g7,0,none⟩) xs.length c6),(.int .u64 (↑r.ver:Int)),(.int .i64 r.count),(.slice A9 r.nums.length c9)],rfl,bZ,aq,rfl⟩,trivial⟩ ?_
   refine⟨ys,(some ⟨g7,0,none⟩),c6,A9,c9,?_,⟨KM,by rw[mu];exact ie,CV.mono (by omega),jv⟩,hE⟩
   unfold b9
   rw[mu]
   rfl
theorem Nf (w:World) (r:Rsp) (xs:List IT) (hv:vals xs=r.items) (lo hi:Nat) (X:Option Addr) (cx:Nat) (N:Option Addr) (cn:Nat) (hx:RdI w lo hi X cx xs) (hn:RdN w lo hi N cn r.nums) (gf:rsz r≤4398046511104) (p3:xs.length=0):
  Fn Tryz.prog 48 #[(.agg #[(.int .i64 r.op),(.int .i64 r.err),(.slice X r.items.length cx),(.int .u64 (↑r.ver:Int)),(.int .i64 r.count),(.slice N r.nums.length cn)])] w (fun v w'=>∃ys X' cx' N' cn',v=.agg (b9 r X' cx' N' cn').toArray∧CopyAt w' w.heap.size r ys X' cx' N' cn'∧Ext w w'):=by
 replace hx:=hx.top
 replace hn:=Rd.top hn
 have hE:=aP w
 obtain⟨hi,nr⟩:∃n,n=w.heap.size:=⟨_,rfl⟩
 rw[←nr] at hx hn
 have mu:=cP xs
 rw[hv] at mu
 have vq:rsz r=(r.items.map o3).sum+10*r.nums.length+100:=rfl
 refine aO Tryz.func48 ?_
 refine af (aa ?_)
 refine ar (bU) ?_
 rintro v w1 ⟨g1,rfl,au,dL,kM,ls⟩
 replace hx:=RdI.ext hx dL
 replace hn:=hn.ext dL
 replace hE:=hE.tr dL
 refine ar (bc fQ) ?_
 rintro v w2 ⟨g2,rfl,aq,dk,my,nd⟩
 replace hx:=RdI.ext hx dk
 replace hn:=hn.ext dk
 replace hE:=hE.tr dk
 replace au:=au.ext dk
 have re:=dk.size
 refine ag (ae (af ?_))
 refine fD 7 [(4,a0 (.pointer (some ⟨g1,2,none⟩))),(5,a0 (.slice X xs.length cx)),(6,(fun v wz=>∃A c,v=.slice A xs.length c∧Own wz w2.heap.size 80 4 A xs.length c (xs.flatMap itc))),(7,a0 (.pointer (some ⟨g1,5,none⟩))),(8,a0 (.slice N r.nums.length cn)),(9,(fun v wz=>∃A c,v=.slice A r.nums.length c∧Own wz w2.heap.size 36 1 A r.nums.length c (r.nums.flatMap nuc))),(10,a0 (.pointer (some ⟨g1,2,none⟩)))] [[],[0],[1],[],[3],[4],[]] _ [] [] ⟨sE,sE,⟨(fun v w w' ⟨A,c,hv,ho⟩ he=>⟨A,c,hv,Own.ext ho he⟩),fun _ he=>by cases he⟩,sE,sE,⟨(fun v w w' ⟨A,c,hv,ho⟩ he=>⟨A,c,hv,Own.ext ho he⟩),fun _ he=>by cases he⟩,sE,trivial⟩ ?_ ?_
 ·repeat' apply And.intro
  all_goals first|exact trivial|(intro wd bW;replace au:=au.ext bW;replace hx:=RdI.ext hx bW;have dK:=bW.size;replace hn:=hn.ext bW;(repeat rintro _ rfl))
  exact am (ax (ah cJ))
  exact am (qO (ak fA au) (by rw[←hv,cP]))
  ·refine am (OpRun.mono (aw RO (p0 _ _ _ X cx xs hx.1 (by omega))) ?_)
   rintro v w3 ⟨A6,c6,rfl,ie,lm⟩
   exact⟨⟨A6,c6,rfl,Own.mono ie (by omega)⟩,lm⟩
  exact am (ax (ah dI))
  exact am (ax (ak iG au))
  ·refine am (OpRun.mono (aw RN (pW _ _ _ N cn r.nums hn (by omega))) ?_)
   rintro v w3 ⟨A9,c9,rfl,jv,ii⟩
   exact⟨⟨A9,c9,rfl,Own.mono jv (by omega)⟩,ii⟩
  exact am (ax (ah cJ))
 ·intro wf1 jB
  replace hE:=hE.tr jB
  replace au:=au.ext jB
  replace aq:=aq.ext jB
  iterate 2 rintro _ rfl
  rintro _ ⟨A6,c6,rfl,ie⟩
  iterate 2 rintro _ rfl
  rintro _ ⟨A9,c9,rfl,jv⟩
  rintro _ rfl
  have kW:=fun g e=>Own.lt ie (g:=g) e
  have lI:=fun g e=>Own.lt jv (g:=g) e
  replace ie:=Own.mono ie (show w.heap.size≤_ by omega)
  replace jv:=Own.mono jv (show w.heap.size≤_ by omega)
  refine aB (aU AZ au) ?_
  rintro _ w3 ⟨rL,lu⟩
  replace hE:=hE.gr lu
  replace aq:=aq.gr lu
  replace ie:=Own.gr ie lu (by first|exact .inl rfl|(right;intro e;first|(have:=kW _ e;omega)|(have:=Own.lt ie e;omega)|exact aT ie au (by decide) e))
  replace jv:=Own.gr jv lu (by first|exact .inl rfl|(right;intro e;first|(have:=lI _ e;omega)|(have:=Own.lt jv e;omega)|exact aT jv au (by decide) e))
  replace au:=rL
  refine ab (ah dI) ?_
  refine aB (aU G3 au) ?_
  rintro _ w4 ⟨gT,cQ⟩
  replace hE:=hE.gr cQ
  replace aq:=aq.gr cQ
  replace ie:=Own.gr ie cQ (by first|exact .inl rfl|(right;intro e;first|(have:=kW _ e;omega)|(have:=Own.lt ie e;omega)|exact aT ie au (by decide) e))
  replace jv:=Own.gr jv cQ (by first|exact .inl rfl|(right;intro e;first|(have:=lI _ e;omega)|(have:=Own.lt jv e;omega)|exact aT jv au (by decide) e))
  replace au:=gT
  refine ag (ae (af (af (aa ?_))))
  refine ab (ah cJ) ?_
  refine ab (ak fA au) ?_
  refine ab (bj Tryz.underlying40) ?_
  refine vm ?_
  refine ag (ae (a9 ?_))
  refine cU (fun s=>s) (fun s=>[(1,.pointer (some ⟨g1,0,none⟩)),(2,.pointer (some ⟨g2,0,none⟩)),(14,.int .i64 (xs.length:Int)),(15,.int .i64 0)]) (fun s w'=>Own w' w.heap.size 80 4 A6 xs.length c6 (xs.flatMap itc)∧Own w' w.heap.size 36 1 A9 r.nums.length c9 (r.nums.flatMap nuc)∧Blk w' g1 43 [.int .i64 r.op,.int .i64 r.err,.slice A6 xs.length c6,.int .u64 (r.ver:Int),.int .i64 r.count,.slice A9 r.nums.length c9]∧Blk w' g2 43 (b9 (rspO 0 0) none 0 none 0)∧Ext w w') (0) (⟨ie,jv,au,aq,hE⟩) ?_
  rintro i wq ⟨ie,jv,au,aq,hE⟩
  have kW:=fun g e=>Own.lt ie (g:=g) e
  have lI:=fun g e=>Own.lt jv (g:=g) e
  refine af (aa ?_)
  refine ab (bz) ?_
  refine ag (ae (af ?_))
  refine dD rfl (decide_eq_false (by omega)) ?_
  refine cW (bx (bx (ce (ae (af (aa ?_))))))
  refine ab (aK (cs:=[(.int .i64 r.op),(.int .i64 r.err),(.slice A6 xs.length c6),(.int .u64 (↑r.ver:Int)),(.int .i64 r.count),(.slice A9 r.nums.length c9)]) bZ au) ?_
  refine aB (aD (vs:=[(.int .i64 r.op),(.int .i64 r.err),(.slice A6 xs.length c6),(.int .u64 (↑r.ver:Int)),(.int .i64 r.count),(.slice A9 r.nums.length c9)]) fm aq) ?_
  rintro _ w5 ⟨pE,fB⟩
  replace ie:=Own.gr ie fB (by first|exact .inl rfl|(right;intro e;first|(have:=kW _ e;omega)|(have:=Own.lt ie e;omega)|exact aT ie aq (by decide) e))
  replace jv:=Own.gr jv fB (by first|exact .inl rfl|(right;intro e;first|(have:=lI _ e;omega)|(have:=Own.lt jv e;omega)|exact aT jv aq (by decide) e))
  replace hE:=hE.gr fB
  replace aq:=pE
  refine ag (ae (aE ?_))
  refine bm (vs:=[.agg #[(.int .i64 r.op),(.int .i64 r.err),(.slice A6 xs.length c6),(.int .u64 (↑r.ver:Int)),(.int .i64 r.count),(.slice A9 r.nums.length c9)]]) rfl ⟨⟨_,_,[(.int .i64 r.op),(.int .i64 r.err),(.slice A6 xs.length c6),(.int .u64 (↑r.ver:Int)),(.int .i64 r.count),(.slice A9 r.nums.length c9)],rfl,bZ,aq,rfl⟩,trivial⟩ ?_
  have mq:xs=[]:=List.eq_nil_of_length_eq_zero p3
  subst mq
  refine⟨[],A6,c6,A9,c9,?_,⟨hv,by rw[mu];exact ie,⟨fun _ h=>(by cases h),List.Pairwise.nil⟩,jv⟩,hE⟩
  unfold b9
  rw[mu]
  rfl
theorem xF (w:World) (r:Rsp) (xs:List IT) (hv:vals xs=r.items) (lo hi:Nat) (X:Option Addr) (cx:Nat) (N:Option Addr) (cn:Nat) (hx:RdI w lo hi X cx xs) (hn:RdN w lo hi N cn r.nums) (gf:rsz r≤4398046511104):
  Fn Tryz.prog 48 #[.agg (b9 r X cx N cn).toArray] w (fun v w'=>∃ys X' cx' N' cn',v=.agg (b9 r X' cx' N' cn').toArray∧CopyAt w' w.heap.size r ys X' cx' N' cn'∧Ext w w'):=by
 by_cases h:xs.length=0
 ·exact Nf w r xs hv lo hi X cx N cn hx hn gf h
 ·exact Nc w r xs hv lo hi X cx N cn hx hn gf (by omega)
end Go.Proofs.YtiighkbehiddkaaGreat
