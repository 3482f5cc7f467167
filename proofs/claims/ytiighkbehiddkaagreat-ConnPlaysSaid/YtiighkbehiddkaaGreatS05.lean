/-
 Read of responses.
 Equal responses.
 The frame of a response.
-/
import Derived.Test.YtiighkbehiddkaaGreatS04
namespace Go.Proofs.YtiighkbehiddkaaGreat
open Go.RowKit
set_option linter.unusedVariables false
set_option maxRecDepth 4000
theorem bZ:jt Tryz.prog 43 6=true:=by kernel_rfl
theorem zh:aX Tryz.prog 86=true:=by kernel_rfl
theorem CH:aX Tryz.prog 88=true:=by kernel_rfl
theorem IW:aX Tryz.prog 91=true:=by kernel_rfl
theorem IE:bB Tryz.prog 162 1=some 1:=by kernel_rfl
theorem cj:bB Tryz.prog 43 0=some 0:=by kernel_rfl
theorem cK:bB Tryz.prog 43 1=some 1:=by kernel_rfl
theorem OQ:cu Tryz.prog 160=true:=by kernel_rfl
theorem cO:cu Tryz.prog 34=true:=by kernel_rfl
theorem j6:fj Tryz.prog 43=some [(0,1),(1,1),(2,1),(3,1),(4,1),(5,1)]:=by kernel_rfl
theorem N8:(Tryz.prog.info? 29).map (·.size)=some 1:=by kernel_rfl
theorem fm:(Tryz.prog.info? 43).map (·.size)=some 6:=by kernel_rfl
theorem fQ:fV Tryz.prog 43=some (.agg #[(.int .i64 0),(.int .i64 0),(.slice none 0 0),(.int .u64 0),(.int .i64 0),(.slice none 0 0)]):=by kernel_rfl
/-- Reading: what has been read, whether it is untouched, the rest, whether all is well. -/
structure GS where
 x:Rsp
 fr:Bool
 l:List UInt8
 ok:Bool
def rspO (op err:Int):Rsp:=⟨op,err,[],0,0,[]⟩
def dS (s:GS) (p:UInt8):GS:=⟨gX p s.x s.l,gF p s.fr,gR p s.x s.l,s.ok&&gK p s.x s.l⟩
def iE (op:Int) (l:List UInt8) (k:Nat):GS:=((pl op).take k).foldl dS ⟨rspO op 0,true,l,true⟩
def gend (op:Int) (l:List UInt8):GS:=iE op l (pl op).length
theorem oN {op:Int} {l:List UInt8} {k:Nat} {p:UInt8} (h:(pl op)[k]?=some p):iE op l (k+1)=dS (iE op l k) p:=by
 unfold iE;rw[List.take_add_one,h,List.foldl_append];rfl
theorem FU {op:Int} {l:List UInt8} {k:Nat} (hk:k≤(pl op).length) (h:(iE op l k).ok=false):(gend op l).ok=false:=by
 have e:∀(ps:List UInt8) (s:GS),s.ok=false→(ps.foldl dS s).ok=false:=by
  intro ps
  induction ps with
  |nil=>intro s hs;exact hs
  |cons p r ih=>intro s hs;rw[List.foldl_cons];exact ih _ (by show(s.ok&&_)=false;rw[hs];rfl)
 unfold gend iE
 rw[List.take_length,←List.take_append_drop k (pl op),List.foldl_append]
 exact e _ _ h
theorem M9 (p:UInt8) (x:Rsp) (l:List UInt8):(gR p x l).length≤l.length:=by
 have h1:=iN l
 have h2:=(lF l x.items.length).2
 have h3:=(o8 (nR l) (nV l)).2
 unfold gR
 repeat' split
 all_goals omega
theorem AB (op:Int) (l:List UInt8) (k:Nat):(iE op l k).l.length≤l.length:=by
 have e:∀(ps:List UInt8) (s:GS),(ps.foldl dS s).l.length≤s.l.length:=by
  intro ps
  induction ps with
  |nil=>intro s;exact Nat.le_refl _
  |cons p r ih=>intro s;rw[List.foldl_cons];have h1:=ih (dS s p);have h2:=M9 p s.x s.l;exact Nat.le_trans h1 h2
 exact e _ _
theorem ID {op:Int} {l:List UInt8} {k:Nat} {p:UInt8} (h:(pl op)[k]?=some p) (ep:(iE op l k).ok=true):RG p (iE op l k).x (iE op l k).fr:=by
 unfold iE at*
 have two:∀{a b:UInt8},pl op=[a,b]→(k=0∧p=a)∨(k=1∧p=b):=by
  intro a b e
  rw[e] at h
  match k,h with
  |0,h=>exact .inl ⟨rfl,by simpa using h.symm⟩
  |1,h=>exact .inr ⟨rfl,by simpa using h.symm⟩
  |k+2,h=>simp at h
 have one:∀{a:UInt8},pl op=[a]→k=0∧p=a:=by
  intro a e
  rw[e] at h
  match k,h with
  |0,h=>exact⟨rfl,by simpa using h.symm⟩
  |k+1,h=>simp at h
 rcases ox op with e|e|e|e|e
 ·rcases two e with⟨rfl,rfl⟩|⟨rfl,rfl⟩<;>exact⟨fun h=>absurd h (by decide),fun h=>absurd h (by decide)⟩
 ·rcases two e with⟨rfl,rfl⟩|⟨rfl,rfl⟩
  ·exact⟨fun h=>absurd h (by decide),fun h=>absurd h (by decide)⟩
  ·rw[e];exact⟨fun _=>⟨rfl,fun h=>(by cases h),(by show([zI]:List Itm).length≤16;decide)⟩,fun h=>absurd h (by decide)⟩
 ·rcases two e with⟨rfl,rfl⟩|⟨rfl,rfl⟩
  ·exact⟨fun h=>absurd h (by decide),fun h=>absurd h (by decide)⟩
  ·rw[e] at ep ⊢
   have hk:(rK 16 l&&decide (0<nV l))=true:=ep
   rw[Bool.and_eq_true,decide_eq_true_eq] at hk
   have pF:=kH hk.1
   have hl:(List.replicate (nV l) zI).length=nV l:=List.length_replicate
   refine⟨fun _=>⟨rfl,fun h=>?_,?_⟩,fun h=>absurd h (by decide)⟩
   ·have h':List.replicate (nV l) zI=[]:=h
    rw[h'] at hl
    have:([]:List Itm).length=0:=rfl
    omega
   ·show(List.replicate (nV l) zI).length≤16
    omega
 ·obtain⟨rfl,rfl⟩:=one e
  exact⟨fun h=>absurd h (by decide),fun _=>rfl⟩
 ·obtain⟨rfl,rfl⟩:=one e
  exact⟨fun h=>absurd h (by decide),fun h=>absurd h (by decide)⟩
/-- The response of a frame, and the error. -/
def RdOkR (op:Int) (l:List UInt8):Prop:=0≤op∧op≤15∧rK 100000 l=true∧(kt op=true∨¬nV l=0)∧(nV l=0→(gend op (nR l)).ok=true∧(gend op (nR l)).l.length=0)∧(¬nV l=0→(nR l).length=0)
instance (op:Int) (l:List UInt8):Decidable (RdOkR op l):=by unfold RdOkR;infer_instance
def rdR (op:Int) (l:List UInt8):Rsp×Nat:=if RdOkR op l then(if nV l=0 then(gend op (nR l)).x else rspO op (nV l),0) else(rspO 0 0,6)
theorem gZ {op:Int} {l:List UInt8} (h:¬RdOkR op l):rdR op l=(rspO 0 0,6):=if_neg h
theorem Dm {op:Int} {l:List UInt8} (h:RdOkR op l) (h0:nV l=0):rdR op l=((gend op (nR l)).x,0):=by unfold rdR;rw[if_pos h,if_pos h0]
theorem zL {op:Int} {l:List UInt8} (h:RdOkR op l) (h0:¬nV l=0):rdR op l=(rspO op (nV l),0):=by unfold rdR;rw[if_pos h,if_neg h0]
theorem tQ (op:Int):(pl op).length≤2:=by rcases ox op with e|e|e|e|e<;>rw[e]<;>decide
theorem Hf (ps:List UInt8):(So ps).length=ps.length*2:=by
 induction ps with
 |nil=>rfl
 |cons p r ih=>unfold So at*;rw[List.flatMap_cons,List.length_append,ih,List.length_cons];show 2+_=_;omega
theorem Du {w:World} {g:Nat} {op:Int} (h:Blk w g 162 (So (pl op))):RdR w 0 w.heap.size 2 Dt (some ⟨g,0,none⟩) (pl op).length (pl op):=
 Blk.rdF h (Hf _) (by have:=tQ op;simp only[maxLen];omega)
theorem Blk.rdL8 {w:World} {g n lo size:Nat} {t:TypeId} {cs:List Value} (h:Blk w g t cs) (hl:cs.length=n*size) (hn:n≤maxLen) (hg:lo≤g):Rd w lo w.heap.size size (some ⟨g,0,none⟩) n n cs:=
 ⟨Nat.le_refl _,hn,hl,fun _=>⟨_,rfl,hg,h.lt,fun j u hu=>by rw[Addr.add_lit,Nat.zero_add,h.cell];exact hu⟩⟩
theorem G8 {w:World} {b cx:Nat} {X:Option Addr} {xs:List IT} (h:RowI w b X cx xs) (hv:VR w b xs):RdI w b w.heap.size X cx xs:=by
 refine⟨?_,hv⟩
 rcases h with⟨rfl,rfl,rfl⟩|⟨ge,rfl,rfl,pF,NT,hb⟩
 ·exact Rd.nil _ _ _ _ _ _ (Nat.zero_le _)
 ·exact Blk.rdL8 hb (by rw[oF];omega) (by simp only[maxLen];omega) NT
theorem Ow (w:World) (code:UInt8) (op:Int) (hop:(code.toNat:Int) - 64=op) (lo hi:Nat) (A:Option Addr) (c:Nat) (l:List UInt8) (hr:RdB w lo hi A c l) (bI:l.length≤140737488355328) (p3:nV l=0):
  Fn Tryz.prog 93 #[(.agg #[(.int .u8 (↑code.toNat:Int)),(.slice A l.length c)])] w (fun v w'=>∃X cx N cn xs,v=.tuple #[.agg (b9 (rdR op l).1 X cx N cn).toArray,.int .i64 ((rdR op l).2:Int)]∧vals xs=(rdR op l).1.items∧RdI w' w.heap.size w'.heap.size X cx xs∧RdN w' w.heap.size w'.heap.size N cn (rdR op l).1.nums∧Ext w w'):=by
 replace hr:=hr.top
 have hE:=aP w
 have Tm:=code.toNat_lt
 refine aO (args:=[(.agg #[(.int .u8 (↑code.toNat:Int)),(.slice A l.length c)])]) Tryz.func93 ?_
 refine af (aa ?_)
 refine ar (bU (cs:=[(.int .u8 (↑code.toNat:Int)),(.slice A l.length c)])) ?_
 rintro v w1 ⟨g1,rfl,au,dL,kM,ls⟩
 replace hr:=hr.ext dL
 replace hE:=hE.tr dL
 refine ar (bc (cs:=[(.int .i64 0),(.int .i64 0),(.slice none 0 0),(.int .u64 0),(.int .i64 0),(.slice none 0 0)]) fQ) ?_
 rintro v w2 ⟨g2,rfl,aq,dk,my,nd⟩
 replace hr:=hr.ext dk
 replace hE:=hE.tr dk
 replace au:=au.ext dk
 refine va ?_
 refine ag (ae (af (aa ?_)))
 refine ab (ah (off:=0) jY) ?_
 refine ab (ak qf au) ?_
 refine ab (bv Tryz.underlying5 Tryz.underlying34 (hm:=kU)) ?_
 refine ab (jx) ?_
 refine aN (d:=15) rfl (v':=(.int .i64 op)) (by rw[hop]) ?_
 refine ab (bi (cs:=[(.int .i64 op),(.int .i64 0),(.slice none 0 0),(.int .u64 0),(.int .i64 0),(.slice none 0 0)]) fQ j6) ?_
 refine ar (bc (cs:=[(.int .i64 0),(.int .i64 0),(.slice none 0 0),(.int .u64 0),(.int .i64 0),(.slice none 0 0)]) fQ) ?_
 rintro v w3 ⟨g4,rfl,aI,eM,th,ta⟩
 replace hr:=hr.ext eM
 replace hE:=hE.tr eM
 replace au:=au.ext eM
 replace aq:=aq.ext eM
 have yE:=eM.size
 refine aB (aD (vs:=[(.int .i64 op),(.int .i64 0),(.slice none 0 0),(.int .u64 0),(.int .i64 0),(.slice none 0 0)]) fm aI) ?_
 rintro _ w4 ⟨gT,cQ⟩
 have t3:=cQ.size
 replace hr:=hr.gr cQ
 replace hE:=hE.gr cQ
 replace au:=au.gr cQ
 replace aq:=aq.gr cQ
 replace aI:=gT
 refine ag (ae (af (aa ?_)))
 refine ab (ah (off:=0) cj) ?_
 refine ab (ak cO aI) ?_
 refine ar (aw IW (lC _ _)) ?_
 rintro v w5 ⟨gl,rfl,fc,lP,Qs⟩
 replace hr:=hr.ext lP
 replace hE:=hE.tr lP
 replace au:=au.ext lP
 replace aq:=aq.ext lP
 replace aI:=aI.ext lP
 refine vm ?_
 iterate 2 refine vx ?_
 iterate 2 refine va ?_
 refine ag (ae (af (aa ?_)))
 refine ab (ah (off:=1) gH) ?_
 refine ab (ak dc au) ?_
 obtain⟨lo1,LM⟩:∃n,n=w5.heap.size:=⟨_,rfl⟩
 have Us:=fc.lt
 have Pg:=aI.lt
 refine ar (aw zh (le _ _ _ _ _ l hr bI)) ?_
 rintro v w6 ⟨gr,A1,c1,h2,rfl,aJ,np,vy,fY,EV,dt⟩
 replace hE:=hE.tr fY
 replace aq:=aq.ext fY
 replace aI:=aI.ext fY
 replace fc:=fc.ext fY
 have ua:=fY.size
 rw[←LM] at np EV
 refine va ?_
 refine ag (ae (af (aa ?_)))
 refine vm ?_
 refine ar (aw r5 (lA _ gr _ _ A1 c1 l aJ np 100000)) ?_
 rintro v w7 ⟨rfl,⟨A28,c28,Ms,oH⟩,xh⟩
 replace hE:=hE.gr xh
 replace aq:=aq.gr xh
 replace aI:=aI.gr xh
 replace fc:=fc.gr xh
 have aJ:=Ms
 have Qw:=iN l
 refine vm ?_
 iterate 2 refine vx ?_
 iterate 2 refine va ?_
 refine ag (ae (af (aa ?_)))
 refine vm ?_
 refine ab (bv Tryz.underlying36 Tryz.underlying29 (hm:=rfl)) ?_
 refine aN (d:=32) rfl (v':=(.int .i64 0)) (by rw[p3];rfl) ?_
 refine ab (ah (off:=1) cK) ?_
 refine aB (aU (cs':=[(.int .i64 op),(.int .i64 0),(.slice none 0 0),(.int .u64 0),(.int .i64 0),(.slice none 0 0)]) N8 aI) ?_
 rintro _ w8 ⟨Iv,mB⟩
 have D1:=mB.size
 replace hE:=hE.gr mB
 replace aq:=aq.gr mB
 replace fc:=fc.gr mB
 replace aJ:=aJ.gr mB
 replace oH:=oH.gr mB
 replace aI:=Iv
 refine ag (ae (af (af (aa ?_))))
 refine ab (ah (off:=0) cj) ?_
 refine ab (ak cO aI) ?_
 refine ab (bz) ?_
 refine aG (d:=36) (fun IC=>?_) (fun IC=>?_)
 ·have bF:¬RdOkR op l:=by
   rintro⟨q1,q2,q3,q4,q5,q6⟩
   omega
  refine vm ?_
  iterate 3 refine aA ?_
  refine ab (ay) ?_
  refine vm ?_
  iterate 2 refine aA ?_
  refine ab (ay) ?_
  refine vm ?_
  iterate 3 refine aA ?_
  iterate 2 refine cN ?_
  refine aA ?_
  refine ab (ay) ?_
  refine ag (ae ?_)
  refine aR ?_
  refine af (aa ?_)
  refine ab (bi (cs:=[(.int .i64 0),(.int .i64 0),(.slice none 0 0),(.int .u64 0),(.int .i64 0),(.slice none 0 0)]) fQ j6) ?_
  refine aB (aD (vs:=[(.int .i64 0),(.int .i64 0),(.slice none 0 0),(.int .u64 0),(.int .i64 0),(.slice none 0 0)]) fm aq) ?_
  rintro _ w9 ⟨uQ,lk⟩
  replace hE:=hE.gr lk
  replace aq:=uQ
  refine va ?_
  refine ag (ae (aE (az ?_)))
  refine bm (rs:=[.cell 2 43,.tmp 3]) (vs:=[.agg #[(.int .i64 0),(.int .i64 0),(.slice none 0 0),(.int .u64 0),(.int .i64 0),(.slice none 0 0)],(.int .i64 6)]) rfl ⟨⟨_,_,[(.int .i64 0),(.int .i64 0),(.slice none 0 0),(.int .u64 0),(.int .i64 0),(.slice none 0 0)],rfl,bZ,aq,rfl⟩,rfl,trivial⟩ ?_
  rw[gZ bF]
  exact⟨none,0,none,0,[],rfl,rfl,RdI.nil _ _ _,Rd.nil _ _ _ _ _ _ (Nat.zero_le _),hE⟩
 ·refine vm ?_
  refine aj (ah (off:=0) cj) ?_
  refine aj (ak cO aI) ?_
  refine aj (bw) ?_
  refine aG (d:=40) (fun Cu=>?_) (fun Cu=>?_)
  ·have bF:¬RdOkR op l:=by
    rintro⟨q1,q2,q3,q4,q5,q6⟩
    omega
   refine ab (ap) ?_
   refine vm ?_
   iterate 2 refine aA ?_
   refine ab (ay) ?_
   refine vm ?_
   iterate 3 refine aA ?_
   iterate 2 refine cN ?_
   refine aA ?_
   refine ab (ay) ?_
   refine ag (ae ?_)
   refine aR ?_
   refine af (aa ?_)
   refine ab (bi (cs:=[(.int .i64 0),(.int .i64 0),(.slice none 0 0),(.int .u64 0),(.int .i64 0),(.slice none 0 0)]) fQ j6) ?_
   refine aB (aD (vs:=[(.int .i64 0),(.int .i64 0),(.slice none 0 0),(.int .u64 0),(.int .i64 0),(.slice none 0 0)]) fm aq) ?_
   rintro _ w209 ⟨eL,dy⟩
   replace hE:=hE.gr dy
   replace aq:=eL
   refine va ?_
   refine ag (ae (aE (az ?_)))
   refine bm (rs:=[.cell 2 43,.tmp 3]) (vs:=[.agg #[(.int .i64 0),(.int .i64 0),(.slice none 0 0),(.int .u64 0),(.int .i64 0),(.slice none 0 0)],(.int .i64 6)]) rfl ⟨⟨_,_,[(.int .i64 0),(.int .i64 0),(.slice none 0 0),(.int .u64 0),(.int .i64 0),(.slice none 0 0)],rfl,bZ,aq,rfl⟩,rfl,trivial⟩ ?_
   rw[gZ bF]
   exact⟨none,0,none,0,[],rfl,rfl,RdI.nil _ _ _,Rd.nil _ _ _ _ _ _ (Nat.zero_le _),hE⟩
  ·refine ab (ap) ?_
   refine vm ?_
   refine aj (aF) ?_
   refine aj (b6) ?_
   refine aN (d:=44) rfl (v':=(.bool (decide (rK 100000 l=false)))) (by cases rK 100000 l<;>rfl) ?_
   refine aG (d:=44) (fun M8=>?_) (fun M8=>?_)
   ·have bF:¬RdOkR op l:=by
     rintro⟨q1,q2,q3,q4,q5,q6⟩
     rw[M8] at q3;cases q3
    refine ab (ap) ?_
    refine vm ?_
    iterate 3 refine aA ?_
    iterate 2 refine cN ?_
    refine aA ?_
    refine ab (ay) ?_
    refine ag (ae ?_)
    refine aR ?_
    refine af (aa ?_)
    refine ab (bi (cs:=[(.int .i64 0),(.int .i64 0),(.slice none 0 0),(.int .u64 0),(.int .i64 0),(.slice none 0 0)]) fQ j6) ?_
    refine aB (aD (vs:=[(.int .i64 0),(.int .i64 0),(.slice none 0 0),(.int .u64 0),(.int .i64 0),(.slice none 0 0)]) fm aq) ?_
    rintro _ w209 ⟨eL,dy⟩
    replace hE:=hE.gr dy
    replace aq:=eL
    refine va ?_
    refine ag (ae (aE (az ?_)))
    refine bm (rs:=[.cell 2 43,.tmp 3]) (vs:=[.agg #[(.int .i64 0),(.int .i64 0),(.slice none 0 0),(.int .u64 0),(.int .i64 0),(.slice none 0 0)],(.int .i64 6)]) rfl ⟨⟨_,_,[(.int .i64 0),(.int .i64 0),(.slice none 0 0),(.int .u64 0),(.int .i64 0),(.slice none 0 0)],rfl,bZ,aq,rfl⟩,rfl,trivial⟩ ?_
    rw[gZ bF]
    exact⟨none,0,none,0,[],rfl,rfl,RdI.nil _ _ _,Rd.nil _ _ _ _ _ _ (Nat.zero_le _),hE⟩
   ·have pp:rK 100000 l=true:=by simpa using M8
    refine ab (ap) ?_
    refine vm ?_
    refine aj (aF) ?_
    refine aj (b6) ?_
    refine aN (d:=48) rfl (v':=(.bool (decide (kt op=false)))) (by cases kt op<;>rfl) ?_
    refine aG (d:=48) (fun RA=>?_) (fun RA=>?_)
    ·refine aj (aF) ?_
     refine aj (aF) ?_
     refine aj (cI) ?_
     have bF:¬RdOkR op l:=by
      rintro⟨q1,q2,q3,q4,q5,q6⟩
      rcases q4 with q|q
      ·rw[RA] at q;cases q
      ·exact q p3
     refine aN (d:=51) rfl (bt (by omega)) ?_
     refine aj (ay) ?_
     refine ab (ap) ?_
     refine ag (ae ?_)
     refine aR ?_
     refine af (aa ?_)
     refine ab (bi (cs:=[(.int .i64 0),(.int .i64 0),(.slice none 0 0),(.int .u64 0),(.int .i64 0),(.slice none 0 0)]) fQ j6) ?_
     refine aB (aD (vs:=[(.int .i64 0),(.int .i64 0),(.slice none 0 0),(.int .u64 0),(.int .i64 0),(.slice none 0 0)]) fm aq) ?_
     rintro _ w209 ⟨eL,dy⟩
     replace hE:=hE.gr dy
     replace aq:=eL
     refine va ?_
     refine ag (ae (aE (az ?_)))
     refine bm (rs:=[.cell 2 43,.tmp 3]) (vs:=[.agg #[(.int .i64 0),(.int .i64 0),(.slice none 0 0),(.int .u64 0),(.int .i64 0),(.slice none 0 0)],(.int .i64 6)]) rfl ⟨⟨_,_,[(.int .i64 0),(.int .i64 0),(.slice none 0 0),(.int .u64 0),(.int .i64 0),(.slice none 0 0)],rfl,bZ,aq,rfl⟩,rfl,trivial⟩ ?_
     rw[gZ bF]
     exact⟨none,0,none,0,[],rfl,rfl,RdI.nil _ _ _,Rd.nil _ _ _ _ _ _ (Nat.zero_le _),hE⟩
    ·refine aj (aF) ?_
     iterate 2 refine aA ?_
     refine aj (ap) ?_
     refine ab (ap) ?_
     refine ag (ae ?_)
     refine aC ?_
     refine aS (ae (af (af (aa ?_))))
     refine vm ?_
     refine ve ?_
     refine aN (d:=56) rfl (bt (by omega)) ?_
     refine ag (ae ?_)
     refine aR ?_
     refine af (aa ?_)
     refine vm ?_
     refine ab (bj Tryz.underlying155) ?_
     refine vm ?_
     refine ag (ae (a9 ?_))
     obtain⟨W0,rfl⟩:∃x,x=w8:=⟨_,rfl⟩
     have Va:kt op=true:=by simpa using RA
     have uM:=aq
     have yY:=fc
     have Tw:=hE
     have hzw:=hE.size
     have Zq:=aI.lt
     have NK:=aJ.lt
     have Ph:=aq.lt
     refine cU (σ:=Nat) (fun k=>(pl op).length - k) (fun k=>[(2,.pointer (some ⟨g2,0,none⟩)),(4,.pointer (some ⟨g4,0,none⟩)),(7,.pointer (some ⟨gr,0,none⟩)),(57,.slice (some ⟨gl,0,none⟩) (pl op).length (pl op).length),(58,.int .i64 ((pl op).length:Int)),(59,.int .i64 (k:Int))]) (fun k w'=>k≤(pl op).length∧(iE op (nR l) k).ok=true∧RspAt w' g4 W0.heap.size (iE op (nR l) k).x (iE op (nR l) k).fr∧RdrAt8 w' gr lo1 h2 (iE op (nR l) k).l∧Kp [g4,gr] W0 w') (0) (⟨Nat.zero_le _,rfl,⟨none,0,none,0,[],aI,rfl,.inl ⟨rfl,rfl,rfl⟩,(fun _ h=>by cases h),Rd.nil _ _ _ _ _ _ (Nat.zero_le _),fun _=>⟨rfl,rfl,rfl,rfl⟩⟩,⟨A28,c28,aJ,oH⟩,Kp.refl _ _⟩) ?_ (hL:=⟨rfl,rfl,rfl,rfl,rfl,rfl,trivial⟩)
     rintro k wq ⟨CY,ep,hX,hD,hK⟩
     have aq:=hK.bk uM (by simp;omega)
     have fc:=hK.bk yY (by simp;omega)
     have hE:=hK.e0 Tw (by simp;omega)
     have KL:=hK.size
     have NW:=aP wq
     have P0:=tQ op
     refine af (aa ?_)
     refine ab (bz) ?_
     refine ag (ae (af ?_))
     refine aL (fun e9=>?_) (fun e9=>?_)
     ·obtain⟨p,hk⟩:∃p,(pl op)[k]?=some p:=⟨_,List.getElem?_eq_getElem (by omega)⟩
      refine aS (ae (af (a9 (af (aa ?_)))))
      refine ar (cS (m:=(k)) ot (Du fc) hk) ?_
      rintro v _ ⟨rfl,p61,rfl,BM,PS,P2⟩
      refine ab (dX (cs:=[(.func (.func (ym p)) #[] #[]),(.func (.func (y9 p)) #[] #[])]) kT BM) ?_
      refine ar (bc (cs:=[.nilFunc,.nilFunc]) kC) ?_
      rintro v w209 ⟨g11,rfl,eP,dV,BW,BJ⟩
      replace aq:=aq.ext dV
      replace fc:=fc.ext dV
      replace hE:=hE.tr dV
      replace hK:=Kp.te hK dV
      replace NW:=NW.tr dV
      refine aB (aD (vs:=[(.func (.func (ym p)) #[] #[]),(.func (.func (y9 p)) #[] #[])]) pT eP) ?_
      rintro _ w210 ⟨ln,dw⟩
      replace aq:=aq.gr dw
      replace fc:=fc.gr dw
      replace hE:=hE.gr dw
      replace hK:=Kp.tg hK dw (by first|(left;simp;done)|(right;omega))
      replace NW:=NW.gr dw
      replace eP:=ln
      refine ag (ae (af (aa ?_)))
      refine ab (ah (off:=1) IE) ?_
      refine ab (ak OQ eP) ?_
      refine vm ?_
      obtain⟨Wi,nB⟩:=FW (List.mem_of_getElem? hk)
      have Ih:=AB op (nR l) k
      refine ar (aw nB (Wi W0 _ g4 gr lo1 h2 _ _ _ (by omega) hK (by omega) (.inl (by omega)) (.inr vy) (by omega) (by omega) (by omega) (hX.ext NW) (hD.ext NW) (ID hk ep))) ?_
      rintro v w211 ⟨rfl,gN,ri⟩
      clear aq hE fc
      have aq:=gN.bk uM (by simp;omega)
      have hE:=gN.e0 Tw (by simp;omega)
      refine ab (b6) ?_
      refine ag (ae ?_)
      refine dJ (fun iD=>?_) (fun iD=>?_)
      ·have VY:gK p (iE op (nR l) k).x (iE op (nR l) k).l=false:=by simpa using iD
       have bF:¬RdOkR op l:=by
        rintro⟨q1,q2,q3,q4,q5,q6⟩
        have q:=(q5 p3).1
        rw[FU (k:=k+1) (by omega) (by rw[oN hk];show(_&&_)=false;rw[VY,Bool.and_false])] at q;cases q
       refine af (aa ?_)
       refine ab (bi (cs:=[(.int .i64 0),(.int .i64 0),(.slice none 0 0),(.int .u64 0),(.int .i64 0),(.slice none 0 0)]) fQ j6) ?_
       refine aB (aD (vs:=[(.int .i64 0),(.int .i64 0),(.slice none 0 0),(.int .u64 0),(.int .i64 0),(.slice none 0 0)]) fm aq) ?_
       rintro _ w212 ⟨xw,ny⟩
       replace hE:=hE.gr ny
       replace aq:=xw
       refine va ?_
       refine ag (ae (aE (aQ (az (az (aQ (az ?_)))))))
       refine bm (rs:=[.cell 2 43,.tmp 3]) (vs:=[.agg #[(.int .i64 0),(.int .i64 0),(.slice none 0 0),(.int .u64 0),(.int .i64 0),(.slice none 0 0)],(.int .i64 6)]) rfl ⟨⟨_,_,[(.int .i64 0),(.int .i64 0),(.slice none 0 0),(.int .u64 0),(.int .i64 0),(.slice none 0 0)],rfl,bZ,aq,rfl⟩,rfl,trivial⟩ ?_
       rw[gZ bF]
       exact⟨none,0,none,0,[],rfl,rfl,RdI.nil _ _ _,Rd.nil _ _ _ _ _ _ (Nat.zero_le _),hE⟩
      ·have LP:gK p (iE op (nR l) k).x (iE op (nR l) k).l=true:=by simpa using iD
       refine aS (bb (ae (aa ?_)))
       refine ab (bH) ?_
       refine vm ?_
       refine ag ?_
       refine cB (k+1) (by show(pl op).length -(k+1)<(pl op).length - k;omega) (⟨by omega,by rw[oN hk];show(_&&_)=true;rw[ep,LP];rfl,by rw[oN hk];exact(ri LP).1,by rw[oN hk];exact(ri LP).2,gN⟩) (hL:=⟨rfl,rfl,rfl,rfl,rfl,rfl,trivial⟩)
     ·have VX:k=(pl op).length:=by omega
      subst VX
      obtain⟨X,cx,N,cn,xs,aI,GI,tf,vq,Ae,hff⟩:=hX
      obtain⟨A9,c9,aJ,uh⟩:=hD
      have XD:=G8 tf vq
      refine cW (bx (bx (ce (ae (af (af (aa ?_)))))))
      refine vm ?_
      refine ab (aw CH (oD _ gr _ _ A9 c9 _ aJ uh (bI:=by have:=AB op (nR l) (pl op).length;have:=iN l;omega))) ?_
      refine ab (bw) ?_
      refine ag (ae ?_)
      refine aL (fun ld=>?_) (fun ld=>?_)
      ·have bF:¬RdOkR op l:=by
        rintro⟨q1,q2,q3,q4,q5,q6⟩
        have q:=(q5 p3).2
        unfold gend at q;omega
       refine af (aa ?_)
       refine ab (bi (cs:=[(.int .i64 0),(.int .i64 0),(.slice none 0 0),(.int .u64 0),(.int .i64 0),(.slice none 0 0)]) fQ j6) ?_
       refine aB (aD (vs:=[(.int .i64 0),(.int .i64 0),(.slice none 0 0),(.int .u64 0),(.int .i64 0),(.slice none 0 0)]) fm aq) ?_
       rintro _ w209 ⟨eL,dy⟩
       replace hE:=hE.gr dy
       replace aq:=eL
       refine va ?_
       refine ag (ae (aE (az ?_)))
       refine bm (rs:=[.cell 2 43,.tmp 3]) (vs:=[.agg #[(.int .i64 0),(.int .i64 0),(.slice none 0 0),(.int .u64 0),(.int .i64 0),(.slice none 0 0)],(.int .i64 6)]) rfl ⟨⟨_,_,[(.int .i64 0),(.int .i64 0),(.slice none 0 0),(.int .u64 0),(.int .i64 0),(.slice none 0 0)],rfl,bZ,aq,rfl⟩,rfl,trivial⟩ ?_
       rw[gZ bF]
       exact⟨none,0,none,0,[],rfl,rfl,RdI.nil _ _ _,Rd.nil _ _ _ _ _ _ (Nat.zero_le _),hE⟩
      ·have eZ:RdOkR op l:=⟨by omega,by omega,pp,.inl Va,fun _=>⟨ep,by unfold gend;omega⟩,fun h=>absurd p3 h⟩
       refine aS (ae (af (aa ?_)))
       refine ab (aK (cs:=[(.int .i64 (iE op (nR l) (pl op).length).x.op),(.int .i64 (iE op (nR l) (pl op).length).x.err),(.slice X (iE op (nR l) (pl op).length).x.items.length cx),(.int .u64 (↑(iE op (nR l) (pl op).length).x.ver:Int)),(.int .i64 (iE op (nR l) (pl op).length).x.count),(.slice N (iE op (nR l) (pl op).length).x.nums.length cn)]) bZ aI) ?_
       refine aB (aD (vs:=[(.int .i64 (iE op (nR l) (pl op).length).x.op),(.int .i64 (iE op (nR l) (pl op).length).x.err),(.slice X (iE op (nR l) (pl op).length).x.items.length cx),(.int .u64 (↑(iE op (nR l) (pl op).length).x.ver:Int)),(.int .i64 (iE op (nR l) (pl op).length).x.count),(.slice N (iE op (nR l) (pl op).length).x.nums.length cn)]) fm aq) ?_
       rintro _ w209 ⟨eL,dy⟩
       have D4:=dy.size
       replace hE:=hE.gr dy
       replace XD:=RdI.gr XD dy (fun _ e=>by cases e;omega)
       replace Ae:=Ae.gr dy
       replace aq:=eL
       refine va ?_
       refine ag (ae (aE ?_))
       refine bm (rs:=[.cell 2 43,.tmp 3]) (vs:=[.agg #[(.int .i64 (iE op (nR l) (pl op).length).x.op),(.int .i64 (iE op (nR l) (pl op).length).x.err),(.slice X (iE op (nR l) (pl op).length).x.items.length cx),(.int .u64 (↑(iE op (nR l) (pl op).length).x.ver:Int)),(.int .i64 (iE op (nR l) (pl op).length).x.count),(.slice N (iE op (nR l) (pl op).length).x.nums.length cn)],(.int .i64 0)]) rfl ⟨⟨_,_,[(.int .i64 (iE op (nR l) (pl op).length).x.op),(.int .i64 (iE op (nR l) (pl op).length).x.err),(.slice X (iE op (nR l) (pl op).length).x.items.length cx),(.int .u64 (↑(iE op (nR l) (pl op).length).x.ver:Int)),(.int .i64 (iE op (nR l) (pl op).length).x.count),(.slice N (iE op (nR l) (pl op).length).x.nums.length cn)],rfl,bZ,aq,rfl⟩,rfl,trivial⟩ ?_
       rw[Dm eZ p3]
       exact⟨X,cx,N,cn,xs,rfl,GI,XD.mono (by omega) (by omega),Ae.mono (by omega) (by omega),hE⟩
theorem Ov (w:World) (code:UInt8) (op:Int) (hop:(code.toNat:Int) - 64=op) (lo hi:Nat) (A:Option Addr) (c:Nat) (l:List UInt8) (hr:RdB w lo hi A c l) (bI:l.length≤140737488355328) (p3:¬nV l=0):
  Fn Tryz.prog 93 #[(.agg #[(.int .u8 (↑code.toNat:Int)),(.slice A l.length c)])] w (fun v w'=>∃X cx N cn xs,v=.tuple #[.agg (b9 (rdR op l).1 X cx N cn).toArray,.int .i64 ((rdR op l).2:Int)]∧vals xs=(rdR op l).1.items∧RdI w' w.heap.size w'.heap.size X cx xs∧RdN w' w.heap.size w'.heap.size N cn (rdR op l).1.nums∧Ext w w'):=by
 replace hr:=hr.top
 have hE:=aP w
 have Tm:=code.toNat_lt
 refine aO Tryz.func93 ?_
 refine af (aa ?_)
 refine ar (bU) ?_
 rintro v w1 ⟨g1,rfl,au,dL,kM,ls⟩
 replace hr:=hr.ext dL
 replace hE:=hE.tr dL
 refine ar (bc fQ) ?_
 rintro v w2 ⟨g2,rfl,aq,dk,my,nd⟩
 replace hr:=hr.ext dk
 replace hE:=hE.tr dk
 replace au:=au.ext dk
 refine va ?_
 refine ag (ae (af (aa ?_)))
 refine ab (ah (off:=0) jY) ?_
 refine ab (ak qf au) ?_
 refine ab (bv Tryz.underlying5 Tryz.underlying34 (hm:=kU)) ?_
 refine ab (jx) ?_
 refine aN (d:=15) rfl (v':=(.int .i64 op)) (by rw[hop]) ?_
 refine ab (bi fQ j6) ?_
 refine ar (bc (cs:=[(.int .i64 0),(.int .i64 0),(.slice none 0 0),(.int .u64 0),(.int .i64 0),(.slice none 0 0)]) fQ) ?_
 rintro v w3 ⟨g4,rfl,aI,eM,th,ta⟩
 replace hr:=hr.ext eM
 replace hE:=hE.tr eM
 replace au:=au.ext eM
 replace aq:=aq.ext eM
 have yE:=eM.size
 refine aB (aD (vs:=[(.int .i64 op),(.int .i64 0),(.slice none 0 0),(.int .u64 0),(.int .i64 0),(.slice none 0 0)]) fm aI) ?_
 rintro _ w4 ⟨gT,cQ⟩
 have t3:=cQ.size
 replace hr:=hr.gr cQ
 replace hE:=hE.gr cQ
 replace au:=au.gr cQ
 replace aq:=aq.gr cQ
 replace aI:=gT
 refine ag (ae (af (aa ?_)))
 refine ab (ah cj) ?_
 refine ab (ak cO aI) ?_
 refine ar (aw IW (lC _ _)) ?_
 rintro v w5 ⟨gl,rfl,fc,lP,Qs⟩
 replace hr:=hr.ext lP
 replace hE:=hE.tr lP
 replace au:=au.ext lP
 replace aq:=aq.ext lP
 replace aI:=aI.ext lP
 refine vm ?_
 iterate 2 refine vx ?_
 iterate 2 refine va ?_
 refine ag (ae (af (aa ?_)))
 refine ab (ah gH) ?_
 refine ab (ak dc au) ?_
 obtain⟨lo1,LM⟩:∃n,n=w5.heap.size:=⟨_,rfl⟩
 have Us:=fc.lt
 have Pg:=aI.lt
 refine ar (aw zh (le _ _ _ _ _ l hr bI)) ?_
 rintro v w6 ⟨gr,A1,c1,h2,rfl,aJ,np,vy,fY,EV,dt⟩
 replace hE:=hE.tr fY
 replace aq:=aq.ext fY
 replace aI:=aI.ext fY
 have ua:=fY.size
 rw[←LM] at np EV
 refine va ?_
 refine ag (ae (af (aa ?_)))
 refine vm ?_
 refine ar (aw r5 (lA _ gr _ _ A1 c1 l aJ np 100000)) ?_
 rintro v w7 ⟨rfl,⟨A28,c28,Ms,oH⟩,xh⟩
 replace hE:=hE.gr xh
 replace aq:=aq.gr xh
 replace aI:=aI.gr xh
 have aJ:=Ms
 have Qw:=iN l
 have hv28:=oB l
 refine vm ?_
 iterate 2 refine vx ?_
 iterate 2 refine va ?_
 refine ag (ae (af (aa ?_)))
 refine vm ?_
 refine ab (bv Tryz.underlying36 Tryz.underlying29 (hm:=rfl)) ?_
 refine ab (ah cK) ?_
 refine aB (aU N8 aI) ?_
 rintro _ w8 ⟨Iv,mB⟩
 replace hE:=hE.gr mB
 replace aq:=aq.gr mB
 replace aJ:=aJ.gr mB
 replace oH:=oH.gr mB
 replace aI:=Iv
 refine ag (ae (af (af (aa ?_))))
 refine ab (ah cj) ?_
 refine ab (ak cO aI) ?_
 refine ab (bz) ?_
 refine aG (d:=36) (fun IC=>?_) (fun IC=>?_)
 ·have bF:¬RdOkR op l:=by
   rintro⟨q1,q2,q3,q4,q5,q6⟩
   omega
  refine vm ?_
  iterate 3 refine aA ?_
  refine ab (ay) ?_
  refine vm ?_
  iterate 2 refine aA ?_
  refine ab (ay) ?_
  refine vm ?_
  iterate 3 refine aA ?_
  iterate 2 refine cN ?_
  refine aA ?_
  refine ab (ay) ?_
  refine ag (ae ?_)
  refine aR ?_
  refine af (aa ?_)
  refine ab (bi fQ j6) ?_
  refine aB (aD (vs:=[(.int .i64 0),(.int .i64 0),(.slice none 0 0),(.int .u64 0),(.int .i64 0),(.slice none 0 0)]) fm aq) ?_
  rintro _ w9 ⟨uQ,lk⟩
  replace hE:=hE.gr lk
  replace aq:=uQ
  refine va ?_
  refine ag (ae (aE (az ?_)))
  refine bm (rs:=[.cell 2 43,.tmp 3]) (vs:=[.agg #[(.int .i64 0),(.int .i64 0),(.slice none 0 0),(.int .u64 0),(.int .i64 0),(.slice none 0 0)],(.int .i64 6)]) rfl ⟨⟨_,_,[(.int .i64 0),(.int .i64 0),(.slice none 0 0),(.int .u64 0),(.int .i64 0),(.slice none 0 0)],rfl,bZ,aq,rfl⟩,rfl,trivial⟩ ?_
  rw[gZ bF]
  exact⟨none,0,none,0,[],rfl,rfl,RdI.nil _ _ _,Rd.nil _ _ _ _ _ _ (Nat.zero_le _),hE⟩
 ·refine vm ?_
  refine aj (ah cj) ?_
  refine aj (ak cO aI) ?_
  refine aj (bw) ?_
  refine aG (d:=40) (fun Cu=>?_) (fun Cu=>?_)
  ·have bF:¬RdOkR op l:=by
    rintro⟨q1,q2,q3,q4,q5,q6⟩
    omega
   refine ab (ap) ?_
   refine vm ?_
   iterate 2 refine aA ?_
   refine ab (ay) ?_
   refine vm ?_
   iterate 3 refine aA ?_
   iterate 2 refine cN ?_
   refine aA ?_
   refine ab (ay) ?_
   refine ag (ae ?_)
   refine aR ?_
   refine af (aa ?_)
   refine ab (bi fQ j6) ?_
   refine aB (aD (vs:=[(.int .i64 0),(.int .i64 0),(.slice none 0 0),(.int .u64 0),(.int .i64 0),(.slice none 0 0)]) fm aq) ?_
   rintro _ w209 ⟨eL,dy⟩
   replace hE:=hE.gr dy
   replace aq:=eL
   refine va ?_
   refine ag (ae (aE (az ?_)))
   refine bm (rs:=[.cell 2 43,.tmp 3]) (vs:=[.agg #[(.int .i64 0),(.int .i64 0),(.slice none 0 0),(.int .u64 0),(.int .i64 0),(.slice none 0 0)],(.int .i64 6)]) rfl ⟨⟨_,_,[(.int .i64 0),(.int .i64 0),(.slice none 0 0),(.int .u64 0),(.int .i64 0),(.slice none 0 0)],rfl,bZ,aq,rfl⟩,rfl,trivial⟩ ?_
   rw[gZ bF]
   exact⟨none,0,none,0,[],rfl,rfl,RdI.nil _ _ _,Rd.nil _ _ _ _ _ _ (Nat.zero_le _),hE⟩
  ·refine ab (ap) ?_
   refine vm ?_
   refine aj (aF) ?_
   refine aj (b6) ?_
   refine aN (d:=44) rfl (v':=(.bool (decide (rK 100000 l=false)))) (by cases rK 100000 l<;>rfl) ?_
   refine aG (d:=44) (fun M8=>?_) (fun M8=>?_)
   ·have bF:¬RdOkR op l:=by
     rintro⟨q1,q2,q3,q4,q5,q6⟩
     rw[M8] at q3;cases q3
    refine ab (ap) ?_
    refine vm ?_
    iterate 3 refine aA ?_
    iterate 2 refine cN ?_
    refine aA ?_
    refine ab (ay) ?_
    refine ag (ae ?_)
    refine aR ?_
    refine af (aa ?_)
    refine ab (bi fQ j6) ?_
    refine aB (aD (vs:=[(.int .i64 0),(.int .i64 0),(.slice none 0 0),(.int .u64 0),(.int .i64 0),(.slice none 0 0)]) fm aq) ?_
    rintro _ w209 ⟨eL,dy⟩
    replace hE:=hE.gr dy
    replace aq:=eL
    refine va ?_
    refine ag (ae (aE (az ?_)))
    refine bm (rs:=[.cell 2 43,.tmp 3]) (vs:=[.agg #[(.int .i64 0),(.int .i64 0),(.slice none 0 0),(.int .u64 0),(.int .i64 0),(.slice none 0 0)],(.int .i64 6)]) rfl ⟨⟨_,_,[(.int .i64 0),(.int .i64 0),(.slice none 0 0),(.int .u64 0),(.int .i64 0),(.slice none 0 0)],rfl,bZ,aq,rfl⟩,rfl,trivial⟩ ?_
    rw[gZ bF]
    exact⟨none,0,none,0,[],rfl,rfl,RdI.nil _ _ _,Rd.nil _ _ _ _ _ _ (Nat.zero_le _),hE⟩
   ·have pp:rK 100000 l=true:=by simpa using M8
    have Af:=kH pp
    refine ab (ap) ?_
    refine vm ?_
    refine aj (aF) ?_
    refine aj (b6) ?_
    refine aN (d:=48) rfl (v':=(.bool (decide (kt op=false)))) (by cases kt op<;>rfl) ?_
    refine aG (d:=48) (fun RA=>?_) (fun RA=>?_)
    ·refine aj (aF) ?_
     refine aj (aF) ?_
     refine aj (cI) ?_
     refine aN (d:=51) rfl (bf (by omega)) ?_
     refine aj (ay) ?_
     refine ab (ap) ?_
     refine ag (ae ?_)
     refine aC ?_
     refine aS (ae (af (af (aa ?_))))
     refine vm ?_
     refine ve ?_
     refine aN (d:=56) rfl (bf (by omega)) ?_
     refine ag (ae ?_)
     refine aC ?_
     refine aS (ae (af (af (aa ?_))))
     refine vm ?_
     refine ab (aw CH (oD _ gr _ _ A28 c28 _ aJ oH)) ?_
     refine ab (bw) ?_
     refine ag (ae ?_)
     refine aL (fun ld=>?_) (fun ld=>?_)
     ·have bF:¬RdOkR op l:=by
       rintro⟨q1,q2,q3,q4,q5,q6⟩
       have q:=q6 p3
       omega
      refine af (aa ?_)
      refine ab (bi fQ j6) ?_
      refine aB (aD (vs:=[(.int .i64 0),(.int .i64 0),(.slice none 0 0),(.int .u64 0),(.int .i64 0),(.slice none 0 0)]) fm aq) ?_
      rintro _ w209 ⟨eL,dy⟩
      replace hE:=hE.gr dy
      replace aq:=eL
      refine va ?_
      refine ag (ae (aE (az ?_)))
      refine bm (rs:=[.cell 2 43,.tmp 3]) (vs:=[.agg #[(.int .i64 0),(.int .i64 0),(.slice none 0 0),(.int .u64 0),(.int .i64 0),(.slice none 0 0)],(.int .i64 6)]) rfl ⟨⟨_,_,[(.int .i64 0),(.int .i64 0),(.slice none 0 0),(.int .u64 0),(.int .i64 0),(.slice none 0 0)],rfl,bZ,aq,rfl⟩,rfl,trivial⟩ ?_
      rw[gZ bF]
      exact⟨none,0,none,0,[],rfl,rfl,RdI.nil _ _ _,Rd.nil _ _ _ _ _ _ (Nat.zero_le _),hE⟩
     ·have LC:kt op=true∨¬nV l=0:=.inr p3
      have eZ:RdOkR op l:=⟨by omega,by omega,pp,LC,fun h=>absurd h p3,fun _=>by omega⟩
      refine aS (ae (af (aa ?_)))
      refine ab (aK (cs:=[(.int .i64 op),(.int .i64 (IntKind.i64.wrap (↑(nV l):Int))),(.slice none 0 0),(.int .u64 0),(.int .i64 0),(.slice none 0 0)]) bZ aI) ?_
      refine aB (aD (vs:=[(.int .i64 op),(.int .i64 (IntKind.i64.wrap (↑(nV l):Int))),(.slice none 0 0),(.int .u64 0),(.int .i64 0),(.slice none 0 0)]) fm aq) ?_
      rintro _ w209 ⟨eL,dy⟩
      replace hE:=hE.gr dy
      replace aq:=eL
      refine va ?_
      refine ag (ae (aE ?_))
      refine bm (rs:=[.cell 2 43,.tmp 3]) (vs:=[.agg #[(.int .i64 op),(.int .i64 (IntKind.i64.wrap (↑(nV l):Int))),(.slice none 0 0),(.int .u64 0),(.int .i64 0),(.slice none 0 0)],(.int .i64 0)]) rfl ⟨⟨_,_,[(.int .i64 op),(.int .i64 (IntKind.i64.wrap (↑(nV l):Int))),(.slice none 0 0),(.int .u64 0),(.int .i64 0),(.slice none 0 0)],rfl,bZ,aq,rfl⟩,rfl,trivial⟩ ?_
      rw[zL eZ p3]
      exact⟨none,0,none,0,[],by rw[kU];rfl,rfl,RdI.nil _ _ _,Rd.nil _ _ _ _ _ _ (Nat.zero_le _),hE⟩
    ·refine aj (aF) ?_
     iterate 2 refine aA ?_
     refine aj (ap) ?_
     refine ab (ap) ?_
     refine ag (ae ?_)
     refine aC ?_
     refine aS (ae (af (af (aa ?_))))
     refine vm ?_
     refine ve ?_
     refine aN (d:=56) rfl (bf (by omega)) ?_
     refine ag (ae ?_)
     refine aC ?_
     refine aS (ae (af (af (aa ?_))))
     refine vm ?_
     refine ab (aw CH (oD _ gr _ _ A28 c28 _ aJ oH)) ?_
     refine ab (bw) ?_
     refine ag (ae ?_)
     refine aL (fun ld=>?_) (fun ld=>?_)
     ·have bF:¬RdOkR op l:=by
       rintro⟨q1,q2,q3,q4,q5,q6⟩
       have q:=q6 p3
       omega
      refine af (aa ?_)
      refine ab (bi fQ j6) ?_
      refine aB (aD (vs:=[(.int .i64 0),(.int .i64 0),(.slice none 0 0),(.int .u64 0),(.int .i64 0),(.slice none 0 0)]) fm aq) ?_
      rintro _ w209 ⟨eL,dy⟩
      replace hE:=hE.gr dy
      replace aq:=eL
      refine va ?_
      refine ag (ae (aE (az ?_)))
      refine bm (rs:=[.cell 2 43,.tmp 3]) (vs:=[.agg #[(.int .i64 0),(.int .i64 0),(.slice none 0 0),(.int .u64 0),(.int .i64 0),(.slice none 0 0)],(.int .i64 6)]) rfl ⟨⟨_,_,[(.int .i64 0),(.int .i64 0),(.slice none 0 0),(.int .u64 0),(.int .i64 0),(.slice none 0 0)],rfl,bZ,aq,rfl⟩,rfl,trivial⟩ ?_
      rw[gZ bF]
      exact⟨none,0,none,0,[],rfl,rfl,RdI.nil _ _ _,Rd.nil _ _ _ _ _ _ (Nat.zero_le _),hE⟩
     ·have LC:kt op=true∨¬nV l=0:=.inr p3
      have eZ:RdOkR op l:=⟨by omega,by omega,pp,LC,fun h=>absurd h p3,fun _=>by omega⟩
      refine aS (ae (af (aa ?_)))
      refine ab (aK (cs:=[(.int .i64 op),(.int .i64 (IntKind.i64.wrap (↑(nV l):Int))),(.slice none 0 0),(.int .u64 0),(.int .i64 0),(.slice none 0 0)]) bZ aI) ?_
      refine aB (aD (vs:=[(.int .i64 op),(.int .i64 (IntKind.i64.wrap (↑(nV l):Int))),(.slice none 0 0),(.int .u64 0),(.int .i64 0),(.slice none 0 0)]) fm aq) ?_
      rintro _ w209 ⟨eL,dy⟩
      replace hE:=hE.gr dy
      replace aq:=eL
      refine va ?_
      refine ag (ae (aE ?_))
      refine bm (rs:=[.cell 2 43,.tmp 3]) (vs:=[.agg #[(.int .i64 op),(.int .i64 (IntKind.i64.wrap (↑(nV l):Int))),(.slice none 0 0),(.int .u64 0),(.int .i64 0),(.slice none 0 0)],(.int .i64 0)]) rfl ⟨⟨_,_,[(.int .i64 op),(.int .i64 (IntKind.i64.wrap (↑(nV l):Int))),(.slice none 0 0),(.int .u64 0),(.int .i64 0),(.slice none 0 0)],rfl,bZ,aq,rfl⟩,rfl,trivial⟩ ?_
      rw[zL eZ p3]
      exact⟨none,0,none,0,[],by rw[kU];rfl,rfl,RdI.nil _ _ _,Rd.nil _ _ _ _ _ _ (Nat.zero_le _),hE⟩
theorem qK (w:World) (code:UInt8) (op:Int) (hop:(code.toNat:Int) - 64=op) (lo hi:Nat) (A:Option Addr) (c:Nat) (l:List UInt8) (hr:RdB w lo hi A c l) (bI:l.length≤140737488355328:=by first|omega|decide|(simp;done)):
  Fn Tryz.prog 93 #[.agg #[.int .u8 (code.toNat:Int),.slice A l.length c]] w (fun v w'=>∃X cx N cn xs,v=.tuple #[.agg (b9 (rdR op l).1 X cx N cn).toArray,.int .i64 ((rdR op l).2:Int)]∧vals xs=(rdR op l).1.items∧RdI w' w.heap.size w'.heap.size X cx xs∧RdN w' w.heap.size w'.heap.size N cn (rdR op l).1.nums∧Ext w w'):=by
 by_cases h:nV l=0
 ·exact Ow w code op hop lo hi A c l hr bI h
 ·exact Ov w code op hop lo hi A c l hr bI h
end Go.Proofs.YtiighkbehiddkaaGreat
namespace Go.Proofs.YtiighkbehiddkaaGreat
open Go.RowKit
set_option linter.unusedVariables false
set_option maxRecDepth 4000
theorem Se:aX Tryz.prog 119=true:=by kernel_rfl
theorem Sc:aX Tryz.prog 120=true:=by kernel_rfl
theorem Sb:aX Tryz.prog 121=true:=by kernel_rfl
theorem R6:aX Tryz.prog 143=true:=by kernel_rfl
theorem fb:cu Tryz.prog 29=true:=by kernel_rfl
theorem oq {α:Type} {xs ys:List α} {i:Nat} {s:α} (h:xs.take i=ys.take i) (hx:xs[i]?=some s) (hy:ys[i]?=some s):xs.take (i+1)=ys.take (i+1):=by
 rw[List.take_add_one,List.take_add_one,h,hx,hy]
theorem cP (xs:List IT):(vals xs).length=xs.length:=List.length_map ..
theorem io {xs:List IT} {k:Nat} {x:IT} (h:xs[k]?=some x):(vals xs)[k]?=some x.1:=by unfold vals;rw[List.getElem?_map,h];rfl
theorem DO (w:World) (lo hi lo2 eO:Nat) (K:Option Addr) (ck:Nat) (xs:List Nat) (K2:Option Addr) (ck2:Nat) (ys:List Nat) (hK:RdN w lo hi K ck xs) (gN:RdN w lo2 eO K2 ck2 ys):
  Fn Tryz.prog 121 #[(.slice K xs.length ck),(.slice K2 ys.length ck2)] w (fun v w'=>v=.bool (decide (xs=ys))∧Ext w w'):=by
 have hE:=aP w
 have fR:=hK.2.1
 have QV:=gN.2.1
 have E4:=hK.1
 have WD:=gN.1
 simp only[maxLen] at fR QV
 refine aO Tryz.func121 ?_
 refine af (aa ?_)
 refine va ?_
 refine ag (ae (af (af (aa ?_))))
 refine vm ?_
 refine ab (bj Tryz.underlying41) ?_
 refine vm ?_
 refine ab (bj Tryz.underlying41) ?_
 refine ab (bS) ?_
 refine ag (ae ?_)
 refine aL (fun dM=>?_) (fun dM=>?_)
 ·have eB:¬xs=ys:=fun e=>by subst e;omega
  refine af (aa ?_)
  refine va ?_
  refine ag (ae (aE (az ?_)))
  refine aY ?_
  first|exact⟨by rw[decide_eq_false eB],hE⟩|exact⟨by rw[decide_eq_true heq],hE⟩
 ·refine aS (ae (af (af (aa ?_))))
  refine vm ?_
  refine ab (bj Tryz.underlying41) ?_
  refine vm ?_
  refine ag (ae (a9 ?_))
  refine cU (fun i=>xs.length - i) (fun i=>[(0,.slice K xs.length ck),(1,.slice K2 ys.length ck2),(12,.int .i64 (xs.length:Int)),(13,.int .i64 (i:Int))]) (fun i w'=>i≤xs.length∧xs.take i=ys.take i∧RdN w' lo hi K ck xs∧RdN w' lo2 eO K2 ck2 ys∧Ext w w') (0) (⟨Nat.zero_le _,rfl,hK,gN,hE⟩) ?_
  rintro i wq ⟨nh,no,hK,gN,hE⟩
  refine af (aa ?_)
  refine ab (bz) ?_
  refine ag (ae (af ?_))
  refine aL (fun eN=>?_) (fun eN=>?_)
  ·obtain⟨s1,sj⟩:∃s,xs[i]?=some s:=⟨_,List.getElem?_eq_getElem (by omega)⟩
   obtain⟨s2,ng⟩:∃s,ys[i]?=some s:=⟨_,List.getElem?_eq_getElem (by omega)⟩
   refine aS (ae (af (a9 (af (aa ?_)))))
   refine vm ?_
   refine va ?_
   refine ag (ae (af ?_))
   refine cC ej 8 [(16,a0 (.slice K xs.length ck)),(17,a0 (.int .i64 (↑i:Int))),(18,i0 [(.int .u64 (↑s1:Int))]),(19,a0 (.int .u64 (↑s1:Int))),(20,a0 (.slice K2 ys.length ck2)),(21,a0 (.int .i64 (↑i:Int))),(22,i0 [(.int .u64 (↑s2:Int))]),(23,a0 (.int .u64 (↑s2:Int)))] [[],[],[0,1],[2],[],[],[4,5],[6]] _ [] [] (fun _ _ h=>h) trivial (by kernel_rfl) rfl ?_ ?_
   ·repeat' apply And.intro
    all_goals first|exact trivial|(intro wd bW;replace hK:=hK.ext bW;replace gN:=gN.ext bW;(repeat rintro _ rfl))
    iterate 2 exact am (ax (aF))
    ·refine am (OpRun.mono (cS sn hK sj) ?_)
     rintro v _ ⟨rfl,p18,rfl,H5,ZF,ZQ⟩
     exact⟨⟨p18,rfl,H5⟩,aP _⟩
    ·rintro _ ⟨p18,rfl,H5⟩
     show eV _ _ _ _ _ _
     exact am (ax (dv ft rfl (fg H5)))
    iterate 2 exact am (ax (aF))
    ·refine am (OpRun.mono (cS sn gN ng) ?_)
     rintro v _ ⟨rfl,p22,rfl,H4,ZE,ZP⟩
     exact⟨⟨p22,rfl,H4⟩,aP _⟩
    ·rintro _ ⟨p22,rfl,H4⟩
     show eV _ _ _ _ _ _
     exact am (ax (dv ft rfl (fg H4)))
   ·intro wf6 nz
    replace hK:=hK.ext nz
    replace gN:=gN.ext nz
    replace hE:=hE.tr nz
    iterate 2 rintro _ rfl
    rintro _ ⟨p18,rfl,H5⟩
    iterate 3 rintro _ rfl
    rintro _ ⟨p22,rfl,H4⟩
    rintro _ rfl
    refine ab (bS) ?_
    refine ag (ae ?_)
    refine aL (fun e9=>?_) (fun e9=>?_)
    ·have eB:¬xs=ys:=fun e=>by subst e;rw[sj] at ng;have h5:=Option.some.inj ng;omega
     refine af (aa ?_)
     refine va ?_
     refine ag (ae (aE (aQ (az (az (aQ (az ?_)))))))
     refine aY ?_
     first|exact⟨by rw[decide_eq_false eB],hE⟩|exact⟨by rw[decide_eq_true heq],hE⟩
    ·have heq:s1=s2:=by omega
     refine aS (bb (ae (aa ?_)))
     refine ab (bH) ?_
     refine vm ?_
     refine ag ?_
     refine cB (i+1) (by show xs.length -(i+1)<xs.length - i;omega) (⟨by omega,oq no sj (ng.trans (congrArg some heq.symm)),hK,gN,hE⟩)
  ·have heq:xs=ys:=by rw[List.take_of_length_le (by omega),List.take_of_length_le (by omega)] at no;exact no
   refine cW (bx (bx (ce (ae (af (aa ?_))))))
   refine va ?_
   refine ag (ae (aE ?_))
   refine aY ?_
   first|exact⟨by rw[decide_eq_false eB],hE⟩|exact⟨by rw[decide_eq_true heq],hE⟩
theorem Hv (w:World) (x y:Itm) (lo hi lo2 eO:Nat) (A:Option Addr) (c:Nat) (B:Option Addr) (d:Nat) (hA:RdB w lo hi A c x.value) (hB:RdB w lo2 eO B d y.value):
  Fn Tryz.prog 120 #[(.agg #[(.int .i64 x.mark),(.slice A x.value.length c),(.int .u64 (↑x.ver:Int)),(.int .u64 (↑x.dead:Int))]),(.agg #[(.int .i64 y.mark),(.slice B y.value.length d),(.int .u64 (↑y.ver:Int)),(.int .u64 (↑y.dead:Int))])] w (fun v w'=>v=.bool (decide (x=y))∧Ext w w'):=by
 have hE:=aP w
 refine aO Tryz.func120 ?_
 refine af (aa ?_)
 refine ar (bU) ?_
 rintro v w1 ⟨g2,rfl,aq,dk,my,nd⟩
 replace hA:=hA.ext dk
 replace hB:=hB.ext dk
 replace hE:=hE.tr dk
 refine ar (bU) ?_
 rintro v w2 ⟨g3,rfl,aM,d7,sy,su⟩
 replace hA:=hA.ext d7
 replace hB:=hB.ext d7
 replace hE:=hE.tr d7
 replace aq:=aq.ext d7
 refine va ?_
 refine ag (ae (af (aa ?_)))
 refine ab (ah fO) ?_
 refine ab (ak lg aq) ?_
 refine ab (ah fO) ?_
 refine ab (ak lg aM) ?_
 refine ve ?_
 refine aG (d:=9) (fun h9=>?_) (fun h9=>?_)
 ·refine vm ?_
  refine aj (ah iB) ?_
  refine aj (ak dc aq) ?_
  refine aj (ah iB) ?_
  refine aj (ak dc aM) ?_
  refine aj (aw R6 (zo _ _ _ _ _ _ _ x.value _ _ y.value hA hB)) ?_
  refine aG (d:=15) (fun Cv=>?_) (fun Cv=>?_)
  ·refine ab (ay) ?_
   refine vm ?_
   refine aj (ah pI) ?_
   refine aj (ak ft aq) ?_
   refine aj (ah pI) ?_
   refine aj (ak ft aM) ?_
   refine aj (cI) ?_
   refine aG (d:=22) (fun sk=>?_) (fun sk=>?_)
   ·refine ab (ay) ?_
    refine vm ?_
    refine aj (ah pH) ?_
    refine aj (ak pg aq) ?_
    refine aj (ah pH) ?_
    refine aj (ak pg aM) ?_
    refine aj (cI) ?_
    refine aG (d:=29) (fun RC=>?_) (fun RC=>?_)
    ·refine ab (ay) ?_
     refine va ?_
     refine ag (ae (aE ?_))
     refine aY ?_
     exact⟨by rw[decide_eq_true (Itm.ext_iff'.2 ⟨h9,Cv,(by omega),(by omega)⟩)],hE⟩
    ·refine ab (ay) ?_
     refine va ?_
     refine ag (ae (aE ?_))
     refine aY ?_
     exact⟨by rw[decide_eq_false (fun e=>RC (by rw[e]))],hE⟩
   ·refine ab (ay) ?_
    refine vm ?_
    iterate 5 refine aA ?_
    refine ab (ap) ?_
    refine va ?_
    refine ag (ae (aE ?_))
    refine aY ?_
    exact⟨by rw[decide_eq_false (fun e=>sk (by rw[e]))],hE⟩
  ·refine ab (ay) ?_
   refine vm ?_
   iterate 5 refine aA ?_
   refine ab (ap) ?_
   refine vm ?_
   iterate 5 refine aA ?_
   refine ab (ap) ?_
   refine va ?_
   refine ag (ae (aE ?_))
   refine aY ?_
   exact⟨by rw[decide_eq_false (fun e=>Cv (by rw[e]))],hE⟩
 ·refine vm ?_
  iterate 5 refine aA ?_
  refine ab (ap) ?_
  refine vm ?_
  iterate 5 refine aA ?_
  refine ab (ap) ?_
  refine vm ?_
  iterate 5 refine aA ?_
  refine ab (ap) ?_
  refine va ?_
  refine ag (ae (aE ?_))
  refine aY ?_
  exact⟨by rw[decide_eq_false (fun e=>h9 (by rw[e]))],hE⟩
theorem II (w:World) (lo hi lo2 eO:Nat) (K:Option Addr) (ck:Nat) (xs:List IT) (K2:Option Addr) (ck2:Nat) (ys:List IT) (hx:RdI w lo hi K ck xs) (hy:RdI w lo2 eO K2 ck2 ys):
  Fn Tryz.prog 119 #[(.slice K xs.length ck),(.slice K2 ys.length ck2),(.func (.func 120) #[] #[])] w (fun v w'=>v=.bool (decide (vals xs=vals ys))∧Ext w w'):=by
 replace hx:=hx.top
 replace hy:=hy.top
 have hE:=aP w
 have fR:=hx.1.2.1
 have QV:=hy.1.2.1
 have E4:=hx.1.1
 simp only[maxLen] at fR QV
 have s8:=cP xs
 have CV:=cP ys
 obtain⟨h1,nr⟩:∃n,n=w.heap.size:=⟨_,rfl⟩
 rw[←nr] at hx hy
 refine aO Tryz.func119 ?_
 refine af (aa ?_)
 refine va ?_
 refine ag (ae (af (af (aa ?_))))
 refine vm ?_
 refine ab (bj Tryz.underlying40) ?_
 refine vm ?_
 refine ab (bj Tryz.underlying40) ?_
 refine ab (bS) ?_
 refine ag (ae ?_)
 refine aL (fun dM=>?_) (fun dM=>?_)
 ·have eB:¬vals xs=vals ys:=fun e=>by have e2:=congrArg List.length e;omega
  refine af (aa ?_)
  refine va ?_
  refine ag (ae (aE (az ?_)))
  refine aY ?_
  first|exact⟨by rw[decide_eq_false eB],hE⟩|exact⟨by rw[decide_eq_true heq],hE⟩
 ·refine aS (ae (af (af (aa ?_))))
  refine vm ?_
  refine ab (bj Tryz.underlying40) ?_
  refine vm ?_
  refine ag (ae (a9 ?_))
  refine cU (fun i=>xs.length - i) (fun i=>[(1,.slice K2 ys.length ck2),(2,.func (.func 120) #[] #[]),(15,.slice K xs.length ck),(16,.int .i64 (xs.length:Int)),(17,.int .i64 (i:Int))]) (fun i w'=>i≤xs.length∧(vals xs).take i=(vals ys).take i∧RdI w' lo h1 K ck xs∧RdI w' lo2 h1 K2 ck2 ys∧Ext w w') (0) (⟨Nat.zero_le _,rfl,hx,hy,hE⟩) ?_ (hL:=⟨rfl,rfl,rfl,rfl,rfl,trivial⟩)
  rintro i wq ⟨nh,no,hx,hy,hE⟩
  have ud:=hE.size
  refine af (aa ?_)
  refine ab (bz) ?_
  refine ag (ae (af ?_))
  refine aL (fun eN=>?_) (fun eN=>?_)
  ·obtain⟨x,sj⟩:∃s,xs[i]?=some s:=⟨_,List.getElem?_eq_getElem (by omega)⟩
   obtain⟨y,ng⟩:∃s,ys[i]?=some s:=⟨_,List.getElem?_eq_getElem (by omega)⟩
   refine aS (ae (af (a9 (af (aa ?_)))))
   refine vm ?_
   refine ar (cS nm hx.1 sj) ?_
   rintro v _ ⟨rfl,p20,rfl,LF,PY,P8⟩
   refine ab (dX jI LF) ?_
   refine ar (bc (cs:=[(.int .i64 0),(.slice none 0 0),(.int .u64 0),(.int .u64 0)]) tD) ?_
   rintro v w201 ⟨g8,rfl,cA,mg,NR,UL⟩
   replace hx:=RdI.ext hx mg
   replace hy:=RdI.ext hy mg
   replace hE:=hE.tr mg
   refine va ?_
   refine aB (aD (vs:=[(.int .i64 x.1.mark),(.slice x.2.1 x.1.value.length x.2.2),(.int .u64 (↑x.1.ver:Int)),(.int .u64 (↑x.1.dead:Int))]) x7 cA) ?_
   rintro _ w202 ⟨e8,dQ⟩
   have wL:=dQ.size
   replace hx:=RdI.gr hx dQ (fun _ e=>by cases e;omega)
   replace hy:=RdI.gr hy dQ (fun _ e=>by cases e;omega)
   replace hE:=hE.gr dQ
   replace cA:=e8
   refine ag (ae (af (aa ?_)))
   iterate 2 refine vm ?_
   refine ar (cS nm hy.1 ng) ?_
   rintro v _ ⟨rfl,p24,rfl,LE,PW,P6⟩
   refine ab (dX jI LE) ?_
   refine ar (bc (cs:=[(.int .i64 0),(.slice none 0 0),(.int .u64 0),(.int .u64 0)]) tD) ?_
   rintro v w203 ⟨g9,rfl,ia,ii,NQ,Td⟩
   replace hx:=RdI.ext hx ii
   replace hy:=RdI.ext hy ii
   replace hE:=hE.tr ii
   replace cA:=cA.ext ii
   refine aB (aD (vs:=[(.int .i64 y.1.mark),(.slice y.2.1 y.1.value.length y.2.2),(.int .u64 (↑y.1.ver:Int)),(.int .u64 (↑y.1.dead:Int))]) x7 ia) ?_
   rintro _ w204 ⟨dR,bM⟩
   replace hx:=RdI.gr hx bM (fun _ e=>by cases e;omega)
   replace hy:=RdI.gr hy bM (fun _ e=>by cases e;omega)
   replace hE:=hE.gr bM
   replace cA:=cA.gr bM
   replace ia:=dR
   refine ag (ae (af (aa ?_)))
   refine vm ?_
   refine ab (aK (cs:=[(.int .i64 x.1.mark),(.slice x.2.1 x.1.value.length x.2.2),(.int .u64 (↑x.1.ver:Int)),(.int .u64 (↑x.1.dead:Int))]) jI cA) ?_
   refine ab (aK (cs:=[(.int .i64 y.1.mark),(.slice y.2.1 y.1.value.length y.2.2),(.int .u64 (↑y.1.ver:Int)),(.int .u64 (↑y.1.dead:Int))]) jI ia) ?_
   refine ar (aw Sc (Hv _ x.1 y.1 _ _ _ _ _ _ _ _ (hx.2 x (List.mem_of_getElem? sj)) (hy.2 y (List.mem_of_getElem? ng)))) ?_
   rintro v w205 ⟨rfl,L7⟩
   replace hx:=RdI.ext hx L7
   replace hy:=RdI.ext hy L7
   replace hE:=hE.tr L7
   refine ab (b6) ?_
   refine aN (d:=30) rfl (v':=(.bool (decide (¬x.1=y.1)))) (by by_cases h:x.1=y.1<;>simp[h]) ?_
   refine ag (ae ?_)
   refine aL (fun e9=>?_) (fun e9=>?_)
   ·have eB:¬vals xs=vals ys:=fun e=>by have h5:=io sj;rw[e,io ng] at h5;exact e9 (Option.some.inj h5).symm
    refine af (aa ?_)
    refine va ?_
    refine ag (ae (aE (aQ (az (az (aQ (az ?_)))))))
    refine aY ?_
    first|exact⟨by rw[decide_eq_false eB],hE⟩|exact⟨by rw[decide_eq_true heq],hE⟩
   ·have heq:x.1=y.1:=Decidable.not_not.1 e9
    refine aS (bb (ae (aa ?_)))
    refine ab (bH) ?_
    refine vm ?_
    refine ag ?_
    refine cB (i+1) (by show xs.length -(i+1)<xs.length - i;omega) (⟨by omega,oq no (io sj) ((io ng).trans (congrArg some heq.symm)),hx,hy,hE⟩) (hL:=⟨rfl,rfl,rfl,rfl,rfl,trivial⟩)
  ·have heq:vals xs=vals ys:=by rw[List.take_of_length_le (by omega),List.take_of_length_le (by omega)] at no;exact no
   refine cW (bx (bx (ce (ae (af (aa ?_))))))
   refine va ?_
   refine ag (ae (aE ?_))
   refine aY ?_
   first|exact⟨by rw[decide_eq_false eB],hE⟩|exact⟨by rw[decide_eq_true heq],hE⟩
theorem u1 (w:World) (a:Rsp) (xs:List IT) (hv:vals xs=a.items) (lo hi:Nat) (X:Option Addr) (cx:Nat) (N:Option Addr) (cn:Nat) (hx:RdI w lo hi X cx xs) (hn:RdN w lo hi N cn a.nums) (b:Rsp) (xs2:List IT) (Jp:vals xs2=b.items) (lo2 eO:Nat) (X2:Option Addr) (cx2:Nat) (N2:Option Addr) (cn2:Nat) (h8:RdI w lo2 eO X2 cx2 xs2) (kA:RdN w lo2 eO N2 cn2 b.nums):
  Fn Tryz.prog 94 #[(.agg #[(.int .i64 a.op),(.int .i64 a.err),(.slice X a.items.length cx),(.int .u64 (↑a.ver:Int)),(.int .i64 a.count),(.slice N a.nums.length cn)]),(.agg #[(.int .i64 b.op),(.int .i64 b.err),(.slice X2 b.items.length cx2),(.int .u64 (↑b.ver:Int)),(.int .i64 b.count),(.slice N2 b.nums.length cn2)])] w (fun v w'=>v=.bool (decide (a=b))∧Ext w w'):=by
 have hE:=aP w
 refine aO Tryz.func94 ?_
 refine af (aa ?_)
 refine ar (bU) ?_
 rintro v w1 ⟨g2,rfl,aq,dk,my,nd⟩
 replace hx:=RdI.ext hx dk
 replace hn:=hn.ext dk
 replace h8:=RdI.ext h8 dk
 replace kA:=kA.ext dk
 replace hE:=hE.tr dk
 refine ar (bU) ?_
 rintro v w2 ⟨g3,rfl,aM,d7,sy,su⟩
 replace hx:=RdI.ext hx d7
 replace hn:=hn.ext d7
 replace h8:=RdI.ext h8 d7
 replace kA:=kA.ext d7
 replace hE:=hE.tr d7
 replace aq:=aq.ext d7
 refine va ?_
 refine ag (ae (af (aa ?_)))
 refine ab (ah cj) ?_
 refine ab (ak cO aq) ?_
 refine ab (ah cj) ?_
 refine ab (ak cO aM) ?_
 refine ve ?_
 refine aG (d:=9) (fun h9=>?_) (fun h9=>?_)
 ·refine vm ?_
  refine aj (ah cK) ?_
  refine aj (ak fb aq) ?_
  refine aj (ah cK) ?_
  refine aj (ak fb aM) ?_
  refine aj (cI) ?_
  refine aG (d:=15) (fun Cv=>?_) (fun Cv=>?_)
  ·refine ab (ay) ?_
   refine vm ?_
   refine aj (ah cJ) ?_
   refine aj (ak fA aq) ?_
   refine aN (d:=19) rfl (v':=.slice X xs.length cx) (by rw[←hv,cP]) ?_
   refine aj (ah cJ) ?_
   refine aj (ak fA aM) ?_
   refine aN (d:=21) rfl (v':=.slice X2 xs2.length cx2) (by rw[←Jp,cP]) ?_
   refine bP (aw Se (II _ _ _ _ _ X cx xs X2 cx2 xs2 hx h8)) ?_
   rintro v w3 ⟨rfl,ij⟩
   replace hn:=hn.ext ij
   replace kA:=kA.ext ij
   replace hE:=hE.tr ij
   replace aq:=aq.ext ij
   replace aM:=aM.ext ij
   refine aG (d:=22) (fun sk=>?_) (fun sk=>?_)
   ·refine ab (ay) ?_
    refine vm ?_
    refine aj (ah lW) ?_
    refine aj (ak ft aq) ?_
    refine aj (ah lW) ?_
    refine aj (ak ft aM) ?_
    refine aj (cI) ?_
    refine aG (d:=29) (fun RC=>?_) (fun RC=>?_)
    ·refine ab (ay) ?_
     refine vm ?_
     refine aj (ah dE) ?_
     refine aj (ak gg aq) ?_
     refine aj (ah dE) ?_
     refine aj (ak gg aM) ?_
     refine aj (cI) ?_
     refine aG (d:=36) (fun IC=>?_) (fun IC=>?_)
     ·refine ab (ay) ?_
      refine vm ?_
      refine aj (ah dI) ?_
      refine aj (ak iG aq) ?_
      refine aj (ah dI) ?_
      refine aj (ak iG aM) ?_
      refine bP (aw Sb (DO _ _ _ _ _ N cn a.nums N2 cn2 b.nums hn kA)) ?_
      rintro v w4 ⟨rfl,kY⟩
      replace hE:=hE.tr kY
      refine aG (d:=43) (fun RB=>?_) (fun RB=>?_)
      ·refine ab (ay) ?_
       refine va ?_
       refine ag (ae (aE ?_))
       refine aY ?_
       exact⟨by rw[decide_eq_true (Rsp.ext_iff'.2 ⟨h9,Cv,(hv.symm.trans (sk.trans Jp)),(by omega),IC,RB⟩)],hE⟩
      ·refine ab (ay) ?_
       refine va ?_
       refine ag (ae (aE ?_))
       refine aY ?_
       exact⟨by rw[decide_eq_false (fun e=>RB (by rw[e]))],hE⟩
     ·refine ab (ay) ?_
      refine vm ?_
      iterate 5 refine aA ?_
      refine ab (ap) ?_
      refine va ?_
      refine ag (ae (aE ?_))
      refine aY ?_
      exact⟨by rw[decide_eq_false (fun e=>IC (by rw[e]))],hE⟩
    ·refine ab (ay) ?_
     refine vm ?_
     iterate 5 refine aA ?_
     refine ab (ap) ?_
     refine vm ?_
     iterate 5 refine aA ?_
     refine ab (ap) ?_
     refine va ?_
     refine ag (ae (aE ?_))
     refine aY ?_
     exact⟨by rw[decide_eq_false (fun e=>RC (by rw[e]))],hE⟩
   ·refine ab (ay) ?_
    refine vm ?_
    iterate 5 refine aA ?_
    refine ab (ap) ?_
    refine vm ?_
    iterate 5 refine aA ?_
    refine ab (ap) ?_
    refine vm ?_
    iterate 5 refine aA ?_
    refine ab (ap) ?_
    refine va ?_
    refine ag (ae (aE ?_))
    refine aY ?_
    exact⟨by rw[decide_eq_false (fun e=>sk (by rw[hv,Jp,e]))],hE⟩
  ·refine ab (ay) ?_
   refine vm ?_
   iterate 5 refine aA ?_
   refine ab (ap) ?_
   refine vm ?_
   iterate 5 refine aA ?_
   refine ab (ap) ?_
   refine vm ?_
   iterate 5 refine aA ?_
   refine ab (ap) ?_
   refine vm ?_
   iterate 5 refine aA ?_
   refine ab (ap) ?_
   refine va ?_
   refine ag (ae (aE ?_))
   refine aY ?_
   exact⟨by rw[decide_eq_false (fun e=>Cv (by rw[e]))],hE⟩
 ·refine vm ?_
  iterate 5 refine aA ?_
  refine ab (ap) ?_
  refine vm ?_
  iterate 5 refine aA ?_
  refine ab (ap) ?_
  refine vm ?_
  iterate 5 refine aA ?_
  refine ab (ap) ?_
  refine vm ?_
  iterate 5 refine aA ?_
  refine ab (ap) ?_
  refine vm ?_
  iterate 5 refine aA ?_
  refine ab (ap) ?_
  refine va ?_
  refine ag (ae (aE ?_))
  refine aY ?_
  exact⟨by rw[decide_eq_false (fun e=>h9 (by rw[e]))],hE⟩
theorem pM (w:World) (op e:Int):
  Fn Tryz.prog 55 #[(.int .i64 op),(.int .i64 e)] w (fun v w'=>v=.agg (b9 ⟨op,e,[],0,0,[]⟩ none 0 none 0).toArray∧Ext w w'):=by
 have hE:=aP w
 refine aO (args:=[(.int .i64 op),(.int .i64 e)]) Tryz.func55 ?_
 refine af (aa ?_)
 refine ar (bc (cs:=[(.int .i64 0),(.int .i64 0),(.slice none 0 0),(.int .u64 0),(.int .i64 0),(.slice none 0 0)]) fQ) ?_
 rintro v w1 ⟨g4,rfl,aI,eM,th,ta⟩
 replace hE:=hE.tr eM
 refine ag (ae (af (aa ?_)))
 iterate 2 refine vm ?_
 refine ab (bi (cs:=[(.int .i64 op),(.int .i64 e),(.slice none 0 0),(.int .u64 0),(.int .i64 0),(.slice none 0 0)]) fQ j6) ?_
 refine aB (aD (vs:=[(.int .i64 op),(.int .i64 e),(.slice none 0 0),(.int .u64 0),(.int .i64 0),(.slice none 0 0)]) fm aI) ?_
 rintro _ w2 ⟨gY,dt⟩
 replace hE:=hE.gr dt
 replace aI:=gY
 refine ag (ae (aE ?_))
 refine bm (rs:=[.cell 4 43]) (vs:=[.agg #[(.int .i64 op),(.int .i64 e),(.slice none 0 0),(.int .u64 0),(.int .i64 0),(.slice none 0 0)]]) rfl ⟨⟨_,_,[(.int .i64 op),(.int .i64 e),(.slice none 0 0),(.int .u64 0),(.int .i64 0),(.slice none 0 0)],rfl,bZ,aI,rfl⟩,trivial⟩ ?_
 exact⟨rfl,hE⟩
end Go.Proofs.YtiighkbehiddkaaGreat
namespace Go.Proofs.YtiighkbehiddkaaGreat
open Go.RowKit
set_option linter.unusedVariables false
set_option maxRecDepth 4000
theorem RM:aX Tryz.prog 74=true:=by kernel_rfl
theorem Nn:aX Tryz.prog 93=true:=by kernel_rfl
theorem Nm:aX Tryz.prog 94=true:=by kernel_rfl
theorem IF:bB Tryz.prog 162 0=some 0:=by kernel_rfl
theorem OR:cu Tryz.prog 159=true:=by kernel_rfl
theorem J1:fV Tryz.prog 32=some (.slice none 0 0):=by kernel_rfl
/-- The frame of a response, and the error. -/
def dF (r:Rsp):UInt8:=UInt8.ofNat (64+r.op).toNat
theorem tz {r:Rsp} (h1:0≤r.op) (h2:r.op≤15):((dF r).toNat:Int)=64+r.op:=by unfold dF;rw[UInt8.toNat_ofNat'];omega
theorem pO {r:Rsp} (h1:0≤r.op:=by omega) (h2:r.op≤15:=by omega):((dF r).toNat:Int) - 64=r.op:=by rw[tz h1 h2];omega
theorem vD {r:Rsp} (h1:0≤r.op:=by omega) (h2:r.op≤15:=by omega):IntKind.u8.wrap (64+r.op)=((dF r).toNat:Int):=by rw[tz h1 h2,wu8 (by omega) (by omega)]
def bA (r:Rsp):List UInt8:=br r.err.toNat++if r.err=0 then(pl r.op).flatMap (putC r) else[]
def WrOk (r:Rsp):Prop:=0≤r.op∧r.op≤15∧0≤r.err∧r.err≤100000∧(kt r.op=true∨¬r.err=0)∧(r.err=0→(pl r.op).all (okP r)=true)∧(rdR r.op (bA r)).2=0∧(rdR r.op (bA r)).1=r
instance (r:Rsp):Decidable (WrOk r):=by unfold WrOk;infer_instance
def mf (r:Rsp):(UInt8×List UInt8)×Nat:=if WrOk r then((dF r,bA r),0) else((0,[]),2)
theorem o6 {r:Rsp} (h:WrOk r):mf r=((dF r,bA r),0):=if_pos h
theorem fC {r:Rsp} (h:¬WrOk r):mf r=((0,[]),2):=if_neg h
def kq (r:Rsp) (k:Nat):List UInt8:=br r.err.toNat++((pl r.op).take k).flatMap (putC r)
theorem o7 {r:Rsp} {k:Nat} {p:UInt8} (h:(pl r.op)[k]?=some p):kq r (k+1)=kq r k++putC r p:=by
 unfold kq;rw[List.take_add_one,h,List.flatMap_append,List.append_assoc];simp
theorem vE {r:Rsp} (h:r.err=0):kq r (pl r.op).length=bA r:=by unfold kq bA;rw[List.take_length,if_pos h]
theorem oj {r:Rsp} (h:¬r.err=0):bA r=br r.err.toNat:=by unfold bA;rw[if_neg h,List.append_nil]
theorem wn {r:Rsp} {k:Nat} {p:UInt8} (h:(pl r.op)[k]?=some p):((pl r.op).take (k+1)).all (okP r)=(((pl r.op).take k).all (okP r)&&okP r p):=by
 rw[List.take_add_one,h,List.all_append];simp
theorem Dr (r:Rsp) (p:UInt8) (h:okP r p=true):(putC r p).length≤rsz r:=by
 have h1:=cw r.ver
 have h2:=cw r.count.toNat
 have h3:=cw r.items.length
 have h4:=cw r.nums.length
 have h5:=oS r.nums
 unfold putC rsz
 split
 ·omega
 split
 ·omega
 split
 ·simp
 split
 ·rename_i e
  subst e
  have h6:=pj r.items h
  omega
 split
 ·omega
 ·rw[List.length_append];omega
theorem qx (r:Rsp):∀k,((pl r.op).take k).all (okP r)=true→(kq r k).length≤10+k*rsz r
 |0,_=>by unfold kq;have:=cw r.err.toNat;simp;omega
 |k+1,h=>by
  rcases Nat.lt_or_ge k (pl r.op).length with hk|hk
  ·have e:(pl r.op)[k]?=some (pl r.op)[k]:=List.getElem?_eq_getElem hk
   rw[wn e,Bool.and_eq_true] at h
   have h1:=qx r k h.1
   have h2:=Dr r _ h.2
   rw[o7 e,List.length_append,Nat.succ_mul];omega
  ·have e:kq r (k+1)=kq r k:=by unfold kq;rw[List.take_of_length_le (by omega),List.take_of_length_le hk]
   have e2:((pl r.op).take k).all (okP r)=true:=by rw[List.take_of_length_le (by omega)] at h;rw[List.take_of_length_le hk];exact h
   have h1:=qx r k e2
   rw[e,Nat.succ_mul];omega
theorem sS {r:Rsp} {k:Nat} (hk:k≤2) (h:((pl r.op).take k).all (okP r)=true):(kq r k).length≤10+2*rsz r:=by
 have h1:=qx r k h
 have h2:k*rsz r≤2*rsz r:=Nat.mul_le_mul_right _ hk
 omega
theorem N5 (w:World) (r:Rsp) (xs:List IT) (hv:vals xs=r.items) (lo hi:Nat) (X:Option Addr) (cx:Nat) (N:Option Addr) (cn:Nat) (hx:RdI w lo hi X cx xs) (hn:RdN w lo hi N cn r.nums) (ep:RspOk r) (gf:rsz r≤4398046511104) (o4:r.err=0):
  Fn Tryz.prog 74 #[(.agg #[(.int .i64 r.op),(.int .i64 r.err),(.slice X r.items.length cx),(.int .u64 (↑r.ver:Int)),(.int .i64 r.count),(.slice N r.nums.length cn)])] w (fun v w'=>∃A c,v=.tuple #[.agg #[.int .u8 ((mf r).1.1.toNat:Int),.slice A (mf r).1.2.length c],.int .i64 ((mf r).2:Int)]∧OwnB w' w.heap.size 5 A c (mf r).1.2∧Ext w w'):=by
 replace hx:=hx.top
 replace hn:=Rd.top hn
 have hE:=aP w
 obtain⟨h1,nr⟩:∃n,n=w.heap.size:=⟨_,rfl⟩
 rw[←nr] at hx hn
 have UF:=fun k=>sS (r:=r) (k:=k)
 have P0:=tQ r.op
 refine aO (args:=[(.agg #[(.int .i64 r.op),(.int .i64 r.err),(.slice X r.items.length cx),(.int .u64 (↑r.ver:Int)),(.int .i64 r.count),(.slice N r.nums.length cn)])]) Tryz.func74 ?_
 refine af (aa ?_)
 refine ar (bU (cs:=[(.int .i64 r.op),(.int .i64 r.err),(.slice X r.items.length cx),(.int .u64 (↑r.ver:Int)),(.int .i64 r.count),(.slice N r.nums.length cn)])) ?_
 rintro v w1 ⟨g1,rfl,au,dL,kM,ls⟩
 replace hx:=RdI.ext hx dL
 replace hn:=hn.ext dL
 replace hE:=hE.tr dL
 refine ar (bc (cs:=[(.int .u8 0),(.slice none 0 0)]) dN) ?_
 rintro v w2 ⟨g2,rfl,aq,dk,my,nd⟩
 replace hx:=RdI.ext hx dk
 replace hn:=hn.ext dk
 replace hE:=hE.tr dk
 replace au:=au.ext dk
 have re:=dk.size
 refine va ?_
 refine ag (ae (af (aa ?_)))
 refine ab (bi (cs:=[(.int .u8 0),(.slice none 0 0)]) dN f8) ?_
 refine ar (bc (cs:=[(.int .u8 0),(.slice none 0 0)]) dN) ?_
 rintro v w3 ⟨g4,rfl,aI,eM,th,ta⟩
 replace hx:=RdI.ext hx eM
 replace hn:=hn.ext eM
 replace hE:=hE.tr eM
 replace au:=au.ext eM
 replace aq:=aq.ext eM
 refine aB (aD (vs:=[(.int .u8 0),(.slice none 0 0)]) du aI) ?_
 rintro _ w4 ⟨gT,cQ⟩
 have t3:=cQ.size
 replace hx:=RdI.gr hx cQ (fun _ e=>by cases e;omega)
 replace hn:=hn.gr cQ
 replace hE:=hE.gr cQ
 replace au:=au.gr cQ
 replace aq:=aq.gr cQ
 replace aI:=gT
 refine ag (ae (af (aa ?_)))
 refine ab (ah (off:=0) cj) ?_
 refine ab (ak cO au) ?_
 refine ar (aw IW (lC _ _)) ?_
 rintro v w5 ⟨gl,rfl,fc,jD,Qs⟩
 replace hx:=RdI.ext hx jD
 replace hn:=hn.ext jD
 replace hE:=hE.tr jD
 replace au:=au.ext jD
 replace aq:=aq.ext jD
 replace aI:=aI.ext jD
 have HG:=jD.size
 have Us:=fc.lt
 refine vm ?_
 iterate 2 refine vx ?_
 iterate 2 refine va ?_
 refine ag (ae (af (af (aa ?_))))
 refine ab (ah (off:=0) cj) ?_
 refine ab (ak cO au) ?_
 refine ab (bz) ?_
 refine aG (d:=22) (fun sk=>?_) (fun sk=>?_)
 ·have bF:¬WrOk r:=by
   rintro⟨q1,q2,q3,q4,q5,q6,q7,q8⟩
   omega
  refine vm ?_
  iterate 3 refine aA ?_
  refine ab (ay) ?_
  refine vm ?_
  iterate 3 refine aA ?_
  refine ab (ay) ?_
  refine vm ?_
  iterate 3 refine aA ?_
  refine ab (ay) ?_
  refine vm ?_
  iterate 3 refine aA ?_
  iterate 3 refine cN ?_
  refine aA ?_
  refine ab (ay) ?_
  refine ag (ae ?_)
  refine aR ?_
  refine af (aa ?_)
  refine ab (aK (cs:=[(.int .u8 0),(.slice none 0 0)]) bN aI) ?_
  refine aB (aD (vs:=[(.int .u8 0),(.slice none 0 0)]) du aq) ?_
  rintro _ w6 ⟨Cp,rz⟩
  replace hE:=hE.gr rz
  replace aq:=Cp
  refine va ?_
  refine ag (ae (aE (az ?_)))
  refine bm (rs:=[.cell 2 117,.tmp 3]) (vs:=[.agg #[(.int .u8 0),(.slice none 0 0)],(.int .i64 2)]) rfl ⟨⟨_,_,[(.int .u8 0),(.slice none 0 0)],rfl,bN,aq,rfl⟩,rfl,trivial⟩ ?_
  rw[fC bF]
  exact⟨none,0,rfl,Own.nil_ _ _ _ _,hE⟩
 ·refine vm ?_
  refine aj (ah (off:=0) cj) ?_
  refine aj (ak cO au) ?_
  refine aj (bw) ?_
  refine aG (d:=26) (fun RD=>?_) (fun RD=>?_)
  ·have bF:¬WrOk r:=by
    rintro⟨q1,q2,q3,q4,q5,q6,q7,q8⟩
    omega
   refine ab (ap) ?_
   refine vm ?_
   iterate 3 refine aA ?_
   refine ab (ay) ?_
   refine vm ?_
   iterate 3 refine aA ?_
   refine ab (ay) ?_
   refine vm ?_
   iterate 3 refine aA ?_
   iterate 3 refine cN ?_
   refine aA ?_
   refine ab (ay) ?_
   refine ag (ae ?_)
   refine aR ?_
   refine af (aa ?_)
   refine ab (aK (cs:=[(.int .u8 0),(.slice none 0 0)]) bN aI) ?_
   refine aB (aD (vs:=[(.int .u8 0),(.slice none 0 0)]) du aq) ?_
   rintro _ w206 ⟨dm,b7⟩
   replace hE:=hE.gr b7
   replace aq:=dm
   refine va ?_
   refine ag (ae (aE (az ?_)))
   refine bm (rs:=[.cell 2 117,.tmp 3]) (vs:=[.agg #[(.int .u8 0),(.slice none 0 0)],(.int .i64 2)]) rfl ⟨⟨_,_,[(.int .u8 0),(.slice none 0 0)],rfl,bN,aq,rfl⟩,rfl,trivial⟩ ?_
   rw[fC bF]
   exact⟨none,0,rfl,Own.nil_ _ _ _ _,hE⟩
  ·refine ab (ap) ?_
   refine vm ?_
   refine aj (ah (off:=1) cK) ?_
   refine aj (ak fb au) ?_
   refine aj (bz) ?_
   refine aN (d:=31) rfl (bf (by omega)) ?_
   refine ab (ap) ?_
   refine vm ?_
   refine aj (ah (off:=1) cK) ?_
   refine aj (ak fb au) ?_
   refine aj (bw) ?_
   refine aN (d:=36) rfl (bf (by omega)) ?_
   refine ab (ap) ?_
   refine vm ?_
   refine aj (aF) ?_
   refine aj (b6) ?_
   refine aN (d:=40) rfl (v':=(.bool (decide (kt r.op=false)))) (by cases kt r.op<;>rfl) ?_
   refine aG (d:=40) (fun Cu=>?_) (fun Cu=>?_)
   ·refine aj (aF) ?_
    refine aj (ah (off:=1) cK) ?_
    refine aj (ak fb au) ?_
    refine aj (cI) ?_
    have bF:¬WrOk r:=by
     rintro⟨q1,q2,q3,q4,q5,q6,q7,q8⟩
     rcases q5 with q|q
     ·rw[Cu] at q;cases q
     ·exact q o4
    refine aN (d:=44) rfl (bt (by omega)) ?_
    refine aj (ay) ?_
    refine ab (ap) ?_
    refine ag (ae ?_)
    refine aR ?_
    refine af (aa ?_)
    refine ab (aK (cs:=[(.int .u8 0),(.slice none 0 0)]) bN aI) ?_
    refine aB (aD (vs:=[(.int .u8 0),(.slice none 0 0)]) du aq) ?_
    rintro _ w206 ⟨dm,b7⟩
    replace hE:=hE.gr b7
    replace aq:=dm
    refine va ?_
    refine ag (ae (aE (az ?_)))
    refine bm (rs:=[.cell 2 117,.tmp 3]) (vs:=[.agg #[(.int .u8 0),(.slice none 0 0)],(.int .i64 2)]) rfl ⟨⟨_,_,[(.int .u8 0),(.slice none 0 0)],rfl,bN,aq,rfl⟩,rfl,trivial⟩ ?_
    rw[fC bF]
    exact⟨none,0,rfl,Own.nil_ _ _ _ _,hE⟩
   ·refine aj (aF) ?_
    iterate 3 refine aA ?_
    refine aj (ap) ?_
    refine ab (ap) ?_
    refine ag (ae ?_)
    refine aC ?_
    refine aS (ae (af (aa ?_)))
    refine ab (ah (off:=1) cK) ?_
    refine ab (ak fb au) ?_
    refine ab (bv Tryz.underlying29 Tryz.underlying36) ?_
    refine aN (d:=50) rfl (v':=(.int .u64 (↑r.err.toNat:Int))) (by rw[Int.toNat_of_nonneg (by omega)]) ?_
    refine ar (aw sO (iY _ _ _ _ _ [] (r.err.toNat) (RdB.nil _ 0 0) (bI:=by simp))) ?_
    rintro v w206 ⟨A51,c51,rfl,dq,jl⟩
    replace hx:=RdI.ext hx jl
    replace hn:=hn.ext jl
    replace hE:=hE.tr jl
    replace au:=au.ext jl
    replace aq:=aq.ext jl
    replace aI:=aI.ext jl
    replace fc:=fc.ext jl
    have z4:=jl.size
    have iu:=fun g e=>Own.lt dq (g:=g) e
    refine ar (bc (cs:=[(.slice none 0 0)]) J1) ?_
    rintro v w207 ⟨g7,rfl,be,eS,Ia,HL⟩
    replace hx:=RdI.ext hx eS
    replace hn:=hn.ext eS
    replace hE:=hE.tr eS
    replace au:=au.ext eS
    replace aq:=aq.ext eS
    replace aI:=aI.ext eS
    replace fc:=fc.ext eS
    replace dq:=Own.ext dq eS
    refine aB (aU (cs':=[(.slice A51 ([]++br (r.err.toNat)).length c51)]) gV be) ?_
    rintro _ w208 ⟨iy,de⟩
    have rb:=de.size
    replace hx:=RdI.gr hx de (fun _ e=>by cases e;omega)
    replace hn:=hn.gr de
    replace hE:=hE.gr de
    replace au:=au.gr de
    replace aq:=aq.gr de
    replace aI:=aI.gr de
    replace fc:=fc.gr de
    replace dq:=Own.gr dq de (by first|exact .inl rfl|(right;intro e;first|(have:=iu _ e;omega)|(have:=Own.lt dq e;omega)|exact aT dq be (by decide) e))
    replace be:=iy
    refine ag (ae (af (af (aa ?_))))
    refine ab (ah (off:=1) cK) ?_
    refine ab (ak fb au) ?_
    refine ve ?_
    refine aN (d:=54) rfl (bt (by omega)) ?_
    refine ag (ae ?_)
    refine aR ?_
    refine af (aa ?_)
    refine vm ?_
    refine ab (bj Tryz.underlying155) ?_
    refine vm ?_
    refine ag (ae (a9 ?_))
    obtain⟨W0,rfl⟩:∃x,x=w208:=⟨_,rfl⟩
    have Va:kt r.op=true:=by simpa using Cu
    have hz7:=be.lt
    have Mv:=au
    have uM:=aq
    have Mu:=aI
    have yY:=fc
    have Tw:=hE
    have hx0:=hx
    have p3:=hn
    refine cU (σ:=Nat×Option Addr×Nat) (fun s=>(pl r.op).length - s.1) (fun s=>[(1,.pointer (some ⟨g1,0,none⟩)),(2,.pointer (some ⟨g2,0,none⟩)),(4,.pointer (some ⟨g4,0,none⟩)),(7,.pointer (some ⟨g7,0,none⟩)),(55,.slice (some ⟨gl,0,none⟩) (pl r.op).length (pl r.op).length),(56,.int .i64 ((pl r.op).length:Int)),(57,.int .i64 (s.1:Int))]) (fun s w'=>s.1≤(pl r.op).length∧((pl r.op).take s.1).all (okP r)=true∧Blk w' g7 32 [.slice s.2.1 (kq r s.1).length s.2.2]∧OwnB w' w.heap.size 5 s.2.1 s.2.2 (kq r s.1)∧Gr W0 w' (some g7)) ((0,A51,c51)) (⟨Nat.zero_le _,rfl,by show Blk _ g7 _ [.slice _ (kq r 0).length _];rw[show kq r 0=br r.err.toNat from List.append_nil _];exact be,by show OwnB _ _ _ _ _ (kq r 0);rw[show kq r 0=br r.err.toNat from List.append_nil _];exact Own.mono dq (by omega),(aP _).row _⟩) ?_ (hL:=⟨rfl,rfl,rfl,rfl,rfl,rfl,rfl,trivial⟩)
    rintro⟨k,Ak,ck⟩ wq ⟨CY,gW,be,gQ,hW⟩
    simp only at CY gW
    replace be:Blk wq g7 32 [.slice Ak (kq r k).length ck]:=be
    replace gQ:OwnB wq w.heap.size 5 Ak ck (kq r k):=gQ
    have au:=Mv.gr hW (by intro e;cases e;omega)
    have aq:=uM.gr hW (by intro e;cases e;omega)
    have aI:=Mu.gr hW (by intro e;cases e;omega)
    have fc:=yY.gr hW (by intro e;cases e;omega)
    have hx:=hx0.gr hW (fun _ e=>by cases e;omega)
    have hn:=p3.gr hW (fun _ e=>by cases e;omega)
    have hE:=Tw.gr hW (fun _ e=>by cases e;omega)
    have hz_W:=hW.size
    have qj:=fun g e=>Own.lt gQ (g:=g) e
    have hwk:=UF k (by omega) gW
    refine af (aa ?_)
    refine ab (bz) ?_
    refine ag (ae (af ?_))
    refine aL (fun e9=>?_) (fun e9=>?_)
    ·obtain⟨p,hk⟩:∃p,(pl r.op)[k]?=some p:=⟨_,List.getElem?_eq_getElem (by omega)⟩
     refine aS (ae (af (a9 (af (aa ?_)))))
     refine ar (cS (m:=(k)) ot (Du fc) hk) ?_
     rintro v _ ⟨rfl,p59,rfl,Vc,ZA,ZL⟩
     refine ab (dX (cs:=[(.func (.func (ym p)) #[] #[]),(.func (.func (y9 p)) #[] #[])]) kT Vc) ?_
     refine ar (bc (cs:=[.nilFunc,.nilFunc]) kC) ?_
     rintro v w209 ⟨g9,rfl,ia,ii,NQ,Td⟩
     replace au:=au.ext ii
     replace aq:=aq.ext ii
     replace aI:=aI.ext ii
     replace hx:=RdI.ext hx ii
     replace hn:=hn.ext ii
     replace hE:=hE.tr ii
     replace be:=be.ext ii
     replace gQ:=Own.ext gQ ii
     replace hW:=hW.gr ii (fun _ e=>by cases e)
     refine aB (aD (vs:=[(.func (.func (ym p)) #[] #[]),(.func (.func (y9 p)) #[] #[])]) pT ia) ?_
     rintro _ w210 ⟨ln,dw⟩
     replace au:=au.gr dw
     replace aq:=aq.gr dw
     replace aI:=aI.gr dw
     replace hx:=RdI.gr hx dw (fun _ e=>by cases e;omega)
     replace hn:=hn.gr dw
     replace hE:=hE.gr dw
     replace be:=be.gr dw
     replace gQ:=Own.gr gQ dw (by first|exact .inl rfl|(right;intro e;first|(have:=qj _ e;omega)|(have:=Own.lt gQ e;omega)|exact aT gQ ia (by decide) e))
     replace hW:=hW.gr dw (fun _ e=>by first|exact .inl e|(cases e;right;omega))
     replace ia:=ln
     refine ag (ae (af (aa ?_)))
     refine ab (ah (off:=0) IF) ?_
     refine ab (ak OR ia) ?_
     obtain⟨hpc,nB⟩:=Ds (List.mem_of_getElem? hk)
     have KL:=be.lt
     refine ar (aw nB (hpc _ g7 g1 Ak ck (kq r k) w.heap.size (by omega) be gQ (by omega) r xs hv X cx N cn au (by omega) lo h1 hx (hn) (by omega) (by omega) ep (by omega))) ?_
     rintro v w211 ⟨rfl,⟨A63,c63,o63,XV,Vu,ri⟩,Ii⟩
     replace aq:=aq.gr Ii
     replace aI:=aI.gr Ii
     replace hE:=hE.gr Ii
     replace hW:=hW.gr Ii (fun _ e=>by first|exact .inl e|(cases e;right;omega))
     replace be:=XV
     refine ab (b6) ?_
     refine ag (ae ?_)
     refine dJ (fun iD=>?_) (fun iD=>?_)
     ·have VY:okP r p=false:=by simpa using iD
      have bF:¬WrOk r:=by
       rintro⟨q1,q2,q3,q4,q5,q6,q7,q8⟩
       have q:=List.all_eq_true.1 (q6 o4) p (List.mem_of_getElem? hk)
       rw[VY] at q;cases q
      refine af (aa ?_)
      refine ab (aK (cs:=[(.int .u8 0),(.slice none 0 0)]) bN aI) ?_
      refine aB (aD (vs:=[(.int .u8 0),(.slice none 0 0)]) du aq) ?_
      rintro _ w212 ⟨xw,ny⟩
      replace hE:=hE.gr ny
      replace aq:=xw
      refine va ?_
      refine ag (ae (aE (aQ (az (az (aQ (az ?_)))))))
      refine bm (rs:=[.cell 2 117,.tmp 3]) (vs:=[.agg #[(.int .u8 0),(.slice none 0 0)],(.int .i64 2)]) rfl ⟨⟨_,_,[(.int .u8 0),(.slice none 0 0)],rfl,bN,aq,rfl⟩,rfl,trivial⟩ ?_
      rw[fC bF]
      exact⟨none,0,rfl,Own.nil_ _ _ _ _,hE⟩
     ·have LP:okP r p=true:=by simpa using iD
      refine aS (bb (ae (aa ?_)))
      refine ab (bH) ?_
      refine vm ?_
      refine ag ?_
      refine cB ((k+1,A63,c63)) (by show(pl r.op).length -(k+1)<(pl r.op).length - k;omega) (⟨by show k+1≤_;omega,by rw[wn hk,gW,LP];rfl,by show Blk _ g7 _ [.slice _ (kq r (k+1)).length _];rw[o7 hk,←ri LP];exact be,by show OwnB _ _ _ _ _ (kq r (k+1));rw[o7 hk,←ri LP];exact Vu,hW⟩) (hL:=⟨rfl,rfl,rfl,rfl,rfl,rfl,rfl,trivial⟩)
    ·have VX:k=(pl r.op).length:=by omega
     subst VX
     have Fo:(pl r.op).all (okP r)=true:=by rw[List.take_length] at gW;exact gW
     rw[vE o4] at be gQ hwk
     refine cW (bx (bx (ce (ae (af (aa ?_))))))
     refine ab (ah (off:=0) cj) ?_
     refine ab (ak cO au) ?_
     refine ab (bH) ?_
     refine ab (bv Tryz.underlying34 Tryz.underlying5 (hm:=vD)) ?_
     refine ab (ak dc be) ?_
     refine ab (bi (cs:=[(.int .u8 (↑(dF r).toNat:Int)),(.slice Ak (bA r).length ck)]) dN f8) ?_
     refine ar (bc (cs:=[(.int .u8 0),(.slice none 0 0)]) dN) ?_
     rintro v w209 ⟨g10,rfl,bG,cY,wZ,wO⟩
     replace au:=au.ext cY
     replace aq:=aq.ext cY
     replace aI:=aI.ext cY
     replace hx:=RdI.ext hx cY
     replace hn:=hn.ext cY
     replace hE:=hE.tr cY
     replace gQ:=Own.ext gQ cY
     refine aB (aD (vs:=[(.int .u8 (↑(dF r).toNat:Int)),(.slice Ak (bA r).length ck)]) du bG) ?_
     rintro _ w210 ⟨ln,dw⟩
     have wH:=dw.size
     replace au:=au.gr dw
     replace aq:=aq.gr dw
     replace aI:=aI.gr dw
     replace hx:=RdI.gr hx dw (fun _ e=>by cases e;omega)
     replace hn:=hn.gr dw
     replace hE:=hE.gr dw
     replace gQ:=Own.gr gQ dw (by first|exact .inl rfl|(right;intro e;first|(have:=qj _ e;omega)|(have:=Own.lt gQ e;omega)|exact aT gQ bG (by decide) e))
     replace bG:=ln
     refine ag (ae (af (af (aa ?_))))
     refine ab (aK (cs:=[(.int .u8 (↑(dF r).toNat:Int)),(.slice Ak (bA r).length ck)]) bN bG) ?_
     refine ar (aw Nn (qK _ (dF r) r.op (pO) _ _ Ak ck (bA r) (OwnB.rd gQ))) ?_
     rintro v w211 ⟨X75,cx75,N75,cn75,xs75,rfl,Ed,mr,mw,iw⟩
     replace au:=au.ext iw
     replace aq:=aq.ext iw
     replace aI:=aI.ext iw
     replace hx:=RdI.ext hx iw
     replace hn:=hn.ext iw
     replace hE:=hE.tr iw
     replace gQ:=Own.ext gQ iw
     replace bG:=bG.ext iw
     have z2:=iw.size
     refine vm ?_
     iterate 2 refine vx ?_
     refine ar (bc (cs:=[(.int .i64 0),(.int .i64 0),(.slice none 0 0),(.int .u64 0),(.int .i64 0),(.slice none 0 0)]) fQ) ?_
     rintro v w212 ⟨g11,rfl,eP,dV,BW,BJ⟩
     replace au:=au.ext dV
     replace aq:=aq.ext dV
     replace aI:=aI.ext dV
     replace hx:=RdI.ext hx dV
     replace hn:=hn.ext dV
     replace hE:=hE.tr dV
     replace gQ:=Own.ext gQ dV
     replace bG:=bG.ext dV
     replace mr:=RdI.ext mr dV
     replace mw:=mw.ext dV
     refine aB (aD (vs:=[(.int .i64 (rdR r.op (bA r)).1.op),(.int .i64 (rdR r.op (bA r)).1.err),(.slice X75 (rdR r.op (bA r)).1.items.length cx75),(.int .u64 (↑(rdR r.op (bA r)).1.ver:Int)),(.int .i64 (rdR r.op (bA r)).1.count),(.slice N75 (rdR r.op (bA r)).1.nums.length cn75)]) fm eP) ?_
     rintro _ w213 ⟨xv,eR⟩
     replace au:=au.gr eR
     replace aq:=aq.gr eR
     replace aI:=aI.gr eR
     replace hx:=RdI.gr hx eR (fun _ e=>by cases e;omega)
     replace hn:=hn.gr eR
     replace hE:=hE.gr eR
     replace gQ:=Own.gr gQ eR (by first|exact .inl rfl|(right;intro e;first|(have:=qj _ e;omega)|(have:=Own.lt gQ e;omega)|exact aT gQ eP (by decide) e))
     replace bG:=bG.gr eR
     replace mr:=RdI.gr mr eR (fun _ e=>by cases e;omega)
     replace mw:=mw.gr eR
     replace eP:=xv
     refine va ?_
     refine ag (ae (af (aa ?_)))
     refine vm ?_
     refine ab (bS) ?_
     refine aG (d:=79) (fun y5=>?_) (fun y5=>?_)
     ·have bF:¬WrOk r:=by
       rintro⟨q1,q2,q3,q4,q5,q6,q7,q8⟩
       omega
      refine vm ?_
      iterate 4 refine aA ?_
      refine ab (ay) ?_
      refine ag (ae ?_)
      refine aR ?_
      refine af (aa ?_)
      refine ab (aK (cs:=[(.int .u8 0),(.slice none 0 0)]) bN aI) ?_
      refine aB (aD (vs:=[(.int .u8 0),(.slice none 0 0)]) du aq) ?_
      rintro _ w214 ⟨xu,xi⟩
      replace hE:=hE.gr xi
      replace aq:=xu
      refine va ?_
      refine ag (ae (aE (az ?_)))
      refine bm (rs:=[.cell 2 117,.tmp 3]) (vs:=[.agg #[(.int .u8 0),(.slice none 0 0)],(.int .i64 2)]) rfl ⟨⟨_,_,[(.int .u8 0),(.slice none 0 0)],rfl,bN,aq,rfl⟩,rfl,trivial⟩ ?_
      rw[fC bF]
      exact⟨none,0,rfl,Own.nil_ _ _ _ _,hE⟩
     ·refine vm ?_
      refine aj (aK (cs:=[(.int .i64 (rdR r.op (bA r)).1.op),(.int .i64 (rdR r.op (bA r)).1.err),(.slice X75 (rdR r.op (bA r)).1.items.length cx75),(.int .u64 (↑(rdR r.op (bA r)).1.ver:Int)),(.int .i64 (rdR r.op (bA r)).1.count),(.slice N75 (rdR r.op (bA r)).1.nums.length cn75)]) bZ eP) ?_
      refine aj (aK (cs:=[(.int .i64 r.op),(.int .i64 r.err),(.slice X r.items.length cx),(.int .u64 (↑r.ver:Int)),(.int .i64 r.count),(.slice N r.nums.length cn)]) bZ au) ?_
      refine bP (aw Nm (u1 _ (rdR r.op (bA r)).1 xs75 Ed _ _ X75 cx75 N75 cn75 mr mw r xs hv _ _ X cx N cn hx hn)) ?_
      rintro v w214 ⟨rfl,lN⟩
      replace aq:=aq.ext lN
      replace aI:=aI.ext lN
      replace hE:=hE.tr lN
      replace gQ:=Own.ext gQ lN
      replace bG:=bG.ext lN
      refine aj (b6) ?_
      refine aN (d:=84) rfl (v':=(.bool (decide (¬(rdR r.op (bA r)).1=r)))) (by by_cases h:(rdR r.op (bA r)).1=r<;>simp[h]) ?_
      refine aG (d:=84) (fun y4=>?_) (fun y4=>?_)
      ·have bF:¬WrOk r:=by
        rintro⟨q1,q2,q3,q4,q5,q6,q7,q8⟩
        exact y4 q8
       refine ab (ap) ?_
       refine ag (ae ?_)
       refine aR ?_
       refine af (aa ?_)
       refine ab (aK (cs:=[(.int .u8 0),(.slice none 0 0)]) bN aI) ?_
       refine aB (aD (vs:=[(.int .u8 0),(.slice none 0 0)]) du aq) ?_
       rintro _ w215 ⟨mL,kN⟩
       replace hE:=hE.gr kN
       replace aq:=mL
       refine va ?_
       refine ag (ae (aE (az ?_)))
       refine bm (rs:=[.cell 2 117,.tmp 3]) (vs:=[.agg #[(.int .u8 0),(.slice none 0 0)],(.int .i64 2)]) rfl ⟨⟨_,_,[(.int .u8 0),(.slice none 0 0)],rfl,bN,aq,rfl⟩,rfl,trivial⟩ ?_
       rw[fC bF]
       exact⟨none,0,rfl,Own.nil_ _ _ _ _,hE⟩
      ·have wQ:=Decidable.not_not.1 y4
       have eZ:WrOk r:=⟨by omega,by omega,by omega,by omega,.inl Va,fun _=>Fo,by omega,wQ⟩
       refine ab (ap) ?_
       refine ag (ae ?_)
       refine aC ?_
       refine aS (ae (af (aa ?_)))
       refine ab (aK (cs:=[(.int .u8 (↑(dF r).toNat:Int)),(.slice Ak (bA r).length ck)]) bN bG) ?_
       refine aB (aD (vs:=[(.int .u8 (↑(dF r).toNat:Int)),(.slice Ak (bA r).length ck)]) du aq) ?_
       rintro _ w215 ⟨mL,kN⟩
       replace hE:=hE.gr kN
       replace gQ:=Own.gr gQ kN (by first|exact .inl rfl|(right;intro e;first|(have:=qj _ e;omega)|(have:=Own.lt gQ e;omega)|exact aT gQ aq (by decide) e))
       replace aq:=mL
       refine va ?_
       refine ag (ae (aE ?_))
       refine bm (rs:=[.cell 2 117,.tmp 3]) (vs:=[.agg #[(.int .u8 (↑(dF r).toNat:Int)),(.slice Ak (bA r).length ck)],(.int .i64 0)]) rfl ⟨⟨_,_,[(.int .u8 (↑(dF r).toNat:Int)),(.slice Ak (bA r).length ck)],rfl,bN,aq,rfl⟩,rfl,trivial⟩ ?_
       rw[o6 eZ]
       exact⟨Ak,ck,rfl,Own.mono gQ (by omega),hE⟩
theorem N4 (w:World) (r:Rsp) (xs:List IT) (hv:vals xs=r.items) (lo hi:Nat) (X:Option Addr) (cx:Nat) (N:Option Addr) (cn:Nat) (hx:RdI w lo hi X cx xs) (hn:RdN w lo hi N cn r.nums) (ep:RspOk r) (gf:rsz r≤4398046511104) (o4:¬r.err=0):
  Fn Tryz.prog 74 #[(.agg #[(.int .i64 r.op),(.int .i64 r.err),(.slice X r.items.length cx),(.int .u64 (↑r.ver:Int)),(.int .i64 r.count),(.slice N r.nums.length cn)])] w (fun v w'=>∃A c,v=.tuple #[.agg #[.int .u8 ((mf r).1.1.toNat:Int),.slice A (mf r).1.2.length c],.int .i64 ((mf r).2:Int)]∧OwnB w' w.heap.size 5 A c (mf r).1.2∧Ext w w'):=by
 replace hx:=hx.top
 replace hn:=Rd.top hn
 have hE:=aP w
 obtain⟨h1,nr⟩:∃n,n=w.heap.size:=⟨_,rfl⟩
 rw[←nr] at hx hn
 have GL:=cw r.err.toNat
 refine aO (args:=[(.agg #[(.int .i64 r.op),(.int .i64 r.err),(.slice X r.items.length cx),(.int .u64 (↑r.ver:Int)),(.int .i64 r.count),(.slice N r.nums.length cn)])]) Tryz.func74 ?_
 refine af (aa ?_)
 refine ar (bU (cs:=[(.int .i64 r.op),(.int .i64 r.err),(.slice X r.items.length cx),(.int .u64 (↑r.ver:Int)),(.int .i64 r.count),(.slice N r.nums.length cn)])) ?_
 rintro v w1 ⟨g1,rfl,au,dL,kM,ls⟩
 replace hx:=RdI.ext hx dL
 replace hn:=hn.ext dL
 replace hE:=hE.tr dL
 refine ar (bc (cs:=[(.int .u8 0),(.slice none 0 0)]) dN) ?_
 rintro v w2 ⟨g2,rfl,aq,dk,my,nd⟩
 replace hx:=RdI.ext hx dk
 replace hn:=hn.ext dk
 replace hE:=hE.tr dk
 replace au:=au.ext dk
 have re:=dk.size
 refine va ?_
 refine ag (ae (af (aa ?_)))
 refine ab (bi (cs:=[(.int .u8 0),(.slice none 0 0)]) dN f8) ?_
 refine ar (bc (cs:=[(.int .u8 0),(.slice none 0 0)]) dN) ?_
 rintro v w3 ⟨g4,rfl,aI,eM,th,ta⟩
 replace hx:=RdI.ext hx eM
 replace hn:=hn.ext eM
 replace hE:=hE.tr eM
 replace au:=au.ext eM
 replace aq:=aq.ext eM
 refine aB (aD (vs:=[(.int .u8 0),(.slice none 0 0)]) du aI) ?_
 rintro _ w4 ⟨gT,cQ⟩
 have t3:=cQ.size
 replace hx:=RdI.gr hx cQ (fun _ e=>by cases e;omega)
 replace hn:=hn.gr cQ
 replace hE:=hE.gr cQ
 replace au:=au.gr cQ
 replace aq:=aq.gr cQ
 replace aI:=gT
 refine ag (ae (af (aa ?_)))
 refine ab (ah (off:=0) cj) ?_
 refine ab (ak cO au) ?_
 refine ar (aw IW (lC _ _)) ?_
 rintro v w5 ⟨gl,rfl,fc,jD,Qs⟩
 replace hx:=RdI.ext hx jD
 replace hn:=hn.ext jD
 replace hE:=hE.tr jD
 replace au:=au.ext jD
 replace aq:=aq.ext jD
 replace aI:=aI.ext jD
 have HG:=jD.size
 have Us:=fc.lt
 refine vm ?_
 iterate 2 refine vx ?_
 iterate 2 refine va ?_
 refine ag (ae (af (af (aa ?_))))
 refine ab (ah (off:=0) cj) ?_
 refine ab (ak cO au) ?_
 refine ab (bz) ?_
 refine aG (d:=22) (fun sk=>?_) (fun sk=>?_)
 ·have bF:¬WrOk r:=by
   rintro⟨q1,q2,q3,q4,q5,q6,q7,q8⟩
   omega
  refine vm ?_
  iterate 3 refine aA ?_
  refine ab (ay) ?_
  refine vm ?_
  iterate 3 refine aA ?_
  refine ab (ay) ?_
  refine vm ?_
  iterate 3 refine aA ?_
  refine ab (ay) ?_
  refine vm ?_
  iterate 3 refine aA ?_
  iterate 3 refine cN ?_
  refine aA ?_
  refine ab (ay) ?_
  refine ag (ae ?_)
  refine aR ?_
  refine af (aa ?_)
  refine ab (aK (cs:=[(.int .u8 0),(.slice none 0 0)]) bN aI) ?_
  refine aB (aD (vs:=[(.int .u8 0),(.slice none 0 0)]) du aq) ?_
  rintro _ w6 ⟨Cp,rz⟩
  replace hE:=hE.gr rz
  replace aq:=Cp
  refine va ?_
  refine ag (ae (aE (az ?_)))
  refine bm (rs:=[.cell 2 117,.tmp 3]) (vs:=[.agg #[(.int .u8 0),(.slice none 0 0)],(.int .i64 2)]) rfl ⟨⟨_,_,[(.int .u8 0),(.slice none 0 0)],rfl,bN,aq,rfl⟩,rfl,trivial⟩ ?_
  rw[fC bF]
  exact⟨none,0,rfl,Own.nil_ _ _ _ _,hE⟩
 ·refine vm ?_
  refine aj (ah (off:=0) cj) ?_
  refine aj (ak cO au) ?_
  refine aj (bw) ?_
  refine aG (d:=26) (fun RD=>?_) (fun RD=>?_)
  ·have bF:¬WrOk r:=by
    rintro⟨q1,q2,q3,q4,q5,q6,q7,q8⟩
    omega
   refine ab (ap) ?_
   refine vm ?_
   iterate 3 refine aA ?_
   refine ab (ay) ?_
   refine vm ?_
   iterate 3 refine aA ?_
   refine ab (ay) ?_
   refine vm ?_
   iterate 3 refine aA ?_
   iterate 3 refine cN ?_
   refine aA ?_
   refine ab (ay) ?_
   refine ag (ae ?_)
   refine aR ?_
   refine af (aa ?_)
   refine ab (aK (cs:=[(.int .u8 0),(.slice none 0 0)]) bN aI) ?_
   refine aB (aD (vs:=[(.int .u8 0),(.slice none 0 0)]) du aq) ?_
   rintro _ w206 ⟨dm,b7⟩
   replace hE:=hE.gr b7
   replace aq:=dm
   refine va ?_
   refine ag (ae (aE (az ?_)))
   refine bm (rs:=[.cell 2 117,.tmp 3]) (vs:=[.agg #[(.int .u8 0),(.slice none 0 0)],(.int .i64 2)]) rfl ⟨⟨_,_,[(.int .u8 0),(.slice none 0 0)],rfl,bN,aq,rfl⟩,rfl,trivial⟩ ?_
   rw[fC bF]
   exact⟨none,0,rfl,Own.nil_ _ _ _ _,hE⟩
  ·refine ab (ap) ?_
   refine vm ?_
   refine aj (ah (off:=1) cK) ?_
   refine aj (ak fb au) ?_
   refine aj (bz) ?_
   refine aG (d:=31) (fun FT=>?_) (fun FT=>?_)
   ·have bF:¬WrOk r:=by
     rintro⟨q1,q2,q3,q4,q5,q6,q7,q8⟩
     omega
    refine ab (ap) ?_
    refine vm ?_
    iterate 3 refine aA ?_
    refine ab (ay) ?_
    refine vm ?_
    iterate 3 refine aA ?_
    iterate 3 refine cN ?_
    refine aA ?_
    refine ab (ay) ?_
    refine ag (ae ?_)
    refine aR ?_
    refine af (aa ?_)
    refine ab (aK (cs:=[(.int .u8 0),(.slice none 0 0)]) bN aI) ?_
    refine aB (aD (vs:=[(.int .u8 0),(.slice none 0 0)]) du aq) ?_
    rintro _ w206 ⟨dm,b7⟩
    replace hE:=hE.gr b7
    replace aq:=dm
    refine va ?_
    refine ag (ae (aE (az ?_)))
    refine bm (rs:=[.cell 2 117,.tmp 3]) (vs:=[.agg #[(.int .u8 0),(.slice none 0 0)],(.int .i64 2)]) rfl ⟨⟨_,_,[(.int .u8 0),(.slice none 0 0)],rfl,bN,aq,rfl⟩,rfl,trivial⟩ ?_
    rw[fC bF]
    exact⟨none,0,rfl,Own.nil_ _ _ _ _,hE⟩
   ·refine ab (ap) ?_
    refine vm ?_
    refine aj (ah (off:=1) cK) ?_
    refine aj (ak fb au) ?_
    refine aj (bw) ?_
    refine aG (d:=36) (fun IC=>?_) (fun IC=>?_)
    ·have bF:¬WrOk r:=by
      rintro⟨q1,q2,q3,q4,q5,q6,q7,q8⟩
      omega
     refine ab (ap) ?_
     refine vm ?_
     iterate 3 refine aA ?_
     iterate 3 refine cN ?_
     refine aA ?_
     refine ab (ay) ?_
     refine ag (ae ?_)
     refine aR ?_
     refine af (aa ?_)
     refine ab (aK (cs:=[(.int .u8 0),(.slice none 0 0)]) bN aI) ?_
     refine aB (aD (vs:=[(.int .u8 0),(.slice none 0 0)]) du aq) ?_
     rintro _ w206 ⟨dm,b7⟩
     replace hE:=hE.gr b7
     replace aq:=dm
     refine va ?_
     refine ag (ae (aE (az ?_)))
     refine bm (rs:=[.cell 2 117,.tmp 3]) (vs:=[.agg #[(.int .u8 0),(.slice none 0 0)],(.int .i64 2)]) rfl ⟨⟨_,_,[(.int .u8 0),(.slice none 0 0)],rfl,bN,aq,rfl⟩,rfl,trivial⟩ ?_
     rw[fC bF]
     exact⟨none,0,rfl,Own.nil_ _ _ _ _,hE⟩
    ·refine ab (ap) ?_
     refine vm ?_
     refine aj (aF) ?_
     refine aj (b6) ?_
     refine aN (d:=40) rfl (v':=(.bool (decide (kt r.op=false)))) (by cases kt r.op<;>rfl) ?_
     refine aG (d:=40) (fun Cu=>?_) (fun Cu=>?_)
     ·refine aj (aF) ?_
      refine aj (ah (off:=1) cK) ?_
      refine aj (ak fb au) ?_
      refine aj (cI) ?_
      refine aN (d:=44) rfl (bf (by omega)) ?_
      refine aj (ay) ?_
      refine ab (ap) ?_
      refine ag (ae ?_)
      refine aC ?_
      refine aS (ae (af (aa ?_)))
      refine ab (ah (off:=1) cK) ?_
      refine ab (ak fb au) ?_
      refine ab (bv Tryz.underlying29 Tryz.underlying36) ?_
      refine aN (d:=50) rfl (v':=(.int .u64 (↑r.err.toNat:Int))) (by rw[Int.toNat_of_nonneg (by omega)]) ?_
      refine ar (aw sO (iY _ _ _ _ _ [] (r.err.toNat) (RdB.nil _ 0 0) (bI:=by simp))) ?_
      rintro v w206 ⟨A51,c51,rfl,dq,jl⟩
      replace hx:=RdI.ext hx jl
      replace hn:=hn.ext jl
      replace hE:=hE.tr jl
      replace au:=au.ext jl
      replace aq:=aq.ext jl
      replace aI:=aI.ext jl
      have z4:=jl.size
      have iu:=fun g e=>Own.lt dq (g:=g) e
      refine ar (bc (cs:=[(.slice none 0 0)]) J1) ?_
      rintro v w207 ⟨g7,rfl,be,eS,Ia,HL⟩
      replace hx:=RdI.ext hx eS
      replace hn:=hn.ext eS
      replace hE:=hE.tr eS
      replace au:=au.ext eS
      replace aq:=aq.ext eS
      replace aI:=aI.ext eS
      replace dq:=Own.ext dq eS
      refine aB (aU (cs':=[(.slice A51 ([]++br (r.err.toNat)).length c51)]) gV be) ?_
      rintro _ w208 ⟨iy,de⟩
      have rb:=de.size
      replace hx:=RdI.gr hx de (fun _ e=>by cases e;omega)
      replace hn:=hn.gr de
      replace hE:=hE.gr de
      replace au:=au.gr de
      replace aq:=aq.gr de
      replace aI:=aI.gr de
      replace dq:=Own.gr dq de (by first|exact .inl rfl|(right;intro e;first|(have:=iu _ e;omega)|(have:=Own.lt dq e;omega)|exact aT dq be (by decide) e))
      replace be:=iy
      refine ag (ae (af (af (aa ?_))))
      refine ab (ah (off:=1) cK) ?_
      refine ab (ak fb au) ?_
      refine ve ?_
      refine aN (d:=54) rfl (bf (by omega)) ?_
      refine ag (ae ?_)
      refine aC ?_
      refine aS (ae (af (aa ?_)))
      refine ab (ah (off:=0) cj) ?_
      refine ab (ak cO au) ?_
      refine ab (bH) ?_
      refine ab (bv Tryz.underlying34 Tryz.underlying5 (hm:=vD)) ?_
      refine ab (ak dc be) ?_
      have KP:=oj o4
      have UE:(bA r).length≤10:=by rw[KP];omega
      refine aN (d:=71) rfl (v':=.slice A51 (bA r).length c51) (by rw[KP];rfl) ?_
      rw[show([]++br r.err.toNat:List UInt8)=bA r from KP.symm] at dq
      refine ab (bi (cs:=[(.int .u8 (↑(dF r).toNat:Int)),(.slice A51 (bA r).length c51)]) dN f8) ?_
      refine ar (bc (cs:=[(.int .u8 0),(.slice none 0 0)]) dN) ?_
      rintro v w209 ⟨g10,rfl,bG,cY,wZ,wO⟩
      replace hx:=RdI.ext hx cY
      replace hn:=hn.ext cY
      replace hE:=hE.tr cY
      replace au:=au.ext cY
      replace aq:=aq.ext cY
      replace aI:=aI.ext cY
      replace dq:=Own.ext dq cY
      refine aB (aD (vs:=[(.int .u8 (↑(dF r).toNat:Int)),(.slice A51 (bA r).length c51)]) du bG) ?_
      rintro _ w210 ⟨ln,dw⟩
      have wH:=dw.size
      replace hx:=RdI.gr hx dw (fun _ e=>by cases e;omega)
      replace hn:=hn.gr dw
      replace hE:=hE.gr dw
      replace au:=au.gr dw
      replace aq:=aq.gr dw
      replace aI:=aI.gr dw
      replace dq:=Own.gr dq dw (by first|exact .inl rfl|(right;intro e;first|(have:=iu _ e;omega)|(have:=Own.lt dq e;omega)|exact aT dq bG (by decide) e))
      replace bG:=ln
      refine ag (ae (af (af (aa ?_))))
      refine ab (aK (cs:=[(.int .u8 (↑(dF r).toNat:Int)),(.slice A51 (bA r).length c51)]) bN bG) ?_
      refine ar (aw Nn (qK _ (dF r) r.op (pO) _ _ A51 c51 (bA r) (OwnB.rd dq))) ?_
      rintro v w211 ⟨X75,cx75,N75,cn75,xs75,rfl,Ed,mr,mw,iw⟩
      replace hx:=RdI.ext hx iw
      replace hn:=hn.ext iw
      replace hE:=hE.tr iw
      replace au:=au.ext iw
      replace aq:=aq.ext iw
      replace aI:=aI.ext iw
      replace dq:=Own.ext dq iw
      replace bG:=bG.ext iw
      have z2:=iw.size
      refine vm ?_
      iterate 2 refine vx ?_
      refine ar (bc (cs:=[(.int .i64 0),(.int .i64 0),(.slice none 0 0),(.int .u64 0),(.int .i64 0),(.slice none 0 0)]) fQ) ?_
      rintro v w212 ⟨g11,rfl,eP,dV,BW,BJ⟩
      replace hx:=RdI.ext hx dV
      replace hn:=hn.ext dV
      replace hE:=hE.tr dV
      replace au:=au.ext dV
      replace aq:=aq.ext dV
      replace aI:=aI.ext dV
      replace dq:=Own.ext dq dV
      replace bG:=bG.ext dV
      replace mr:=RdI.ext mr dV
      replace mw:=mw.ext dV
      refine aB (aD (vs:=[(.int .i64 (rdR r.op (bA r)).1.op),(.int .i64 (rdR r.op (bA r)).1.err),(.slice X75 (rdR r.op (bA r)).1.items.length cx75),(.int .u64 (↑(rdR r.op (bA r)).1.ver:Int)),(.int .i64 (rdR r.op (bA r)).1.count),(.slice N75 (rdR r.op (bA r)).1.nums.length cn75)]) fm eP) ?_
      rintro _ w213 ⟨xv,eR⟩
      replace hx:=RdI.gr hx eR (fun _ e=>by cases e;omega)
      replace hn:=hn.gr eR
      replace hE:=hE.gr eR
      replace au:=au.gr eR
      replace aq:=aq.gr eR
      replace aI:=aI.gr eR
      replace dq:=Own.gr dq eR (by first|exact .inl rfl|(right;intro e;first|(have:=iu _ e;omega)|(have:=Own.lt dq e;omega)|exact aT dq eP (by decide) e))
      replace bG:=bG.gr eR
      replace mr:=RdI.gr mr eR (fun _ e=>by cases e;omega)
      replace mw:=mw.gr eR
      replace eP:=xv
      refine va ?_
      refine ag (ae (af (aa ?_)))
      refine vm ?_
      refine ab (bS) ?_
      refine aG (d:=79) (fun y5=>?_) (fun y5=>?_)
      ·have bF:¬WrOk r:=by
        rintro⟨q1,q2,q3,q4,q5,q6,q7,q8⟩
        omega
       refine vm ?_
       iterate 4 refine aA ?_
       refine ab (ay) ?_
       refine ag (ae ?_)
       refine aR ?_
       refine af (aa ?_)
       refine ab (aK (cs:=[(.int .u8 0),(.slice none 0 0)]) bN aI) ?_
       refine aB (aD (vs:=[(.int .u8 0),(.slice none 0 0)]) du aq) ?_
       rintro _ w214 ⟨xu,xi⟩
       replace hE:=hE.gr xi
       replace aq:=xu
       refine va ?_
       refine ag (ae (aE (az ?_)))
       refine bm (rs:=[.cell 2 117,.tmp 3]) (vs:=[.agg #[(.int .u8 0),(.slice none 0 0)],(.int .i64 2)]) rfl ⟨⟨_,_,[(.int .u8 0),(.slice none 0 0)],rfl,bN,aq,rfl⟩,rfl,trivial⟩ ?_
       rw[fC bF]
       exact⟨none,0,rfl,Own.nil_ _ _ _ _,hE⟩
      ·refine vm ?_
       refine aj (aK (cs:=[(.int .i64 (rdR r.op (bA r)).1.op),(.int .i64 (rdR r.op (bA r)).1.err),(.slice X75 (rdR r.op (bA r)).1.items.length cx75),(.int .u64 (↑(rdR r.op (bA r)).1.ver:Int)),(.int .i64 (rdR r.op (bA r)).1.count),(.slice N75 (rdR r.op (bA r)).1.nums.length cn75)]) bZ eP) ?_
       refine aj (aK (cs:=[(.int .i64 r.op),(.int .i64 r.err),(.slice X r.items.length cx),(.int .u64 (↑r.ver:Int)),(.int .i64 r.count),(.slice N r.nums.length cn)]) bZ au) ?_
       refine bP (aw Nm (u1 _ (rdR r.op (bA r)).1 xs75 Ed _ _ X75 cx75 N75 cn75 mr mw r xs hv _ _ X cx N cn hx hn)) ?_
       rintro v w214 ⟨rfl,lN⟩
       replace hE:=hE.tr lN
       replace aq:=aq.ext lN
       replace aI:=aI.ext lN
       replace dq:=Own.ext dq lN
       replace bG:=bG.ext lN
       refine aj (b6) ?_
       refine aN (d:=84) rfl (v':=(.bool (decide (¬(rdR r.op (bA r)).1=r)))) (by by_cases h:(rdR r.op (bA r)).1=r<;>simp[h]) ?_
       refine aG (d:=84) (fun y4=>?_) (fun y4=>?_)
       ·have bF:¬WrOk r:=by
         rintro⟨q1,q2,q3,q4,q5,q6,q7,q8⟩
         exact y4 q8
        refine ab (ap) ?_
        refine ag (ae ?_)
        refine aR ?_
        refine af (aa ?_)
        refine ab (aK (cs:=[(.int .u8 0),(.slice none 0 0)]) bN aI) ?_
        refine aB (aD (vs:=[(.int .u8 0),(.slice none 0 0)]) du aq) ?_
        rintro _ w215 ⟨mL,kN⟩
        replace hE:=hE.gr kN
        replace aq:=mL
        refine va ?_
        refine ag (ae (aE (az ?_)))
        refine bm (rs:=[.cell 2 117,.tmp 3]) (vs:=[.agg #[(.int .u8 0),(.slice none 0 0)],(.int .i64 2)]) rfl ⟨⟨_,_,[(.int .u8 0),(.slice none 0 0)],rfl,bN,aq,rfl⟩,rfl,trivial⟩ ?_
        rw[fC bF]
        exact⟨none,0,rfl,Own.nil_ _ _ _ _,hE⟩
       ·have wQ:=Decidable.not_not.1 y4
        have eZ:WrOk r:=⟨by omega,by omega,by omega,by omega,.inr o4,fun h=>absurd h o4,by omega,wQ⟩
        refine ab (ap) ?_
        refine ag (ae ?_)
        refine aC ?_
        refine aS (ae (af (aa ?_)))
        refine ab (aK (cs:=[(.int .u8 (↑(dF r).toNat:Int)),(.slice A51 (bA r).length c51)]) bN bG) ?_
        refine aB (aD (vs:=[(.int .u8 (↑(dF r).toNat:Int)),(.slice A51 (bA r).length c51)]) du aq) ?_
        rintro _ w215 ⟨mL,kN⟩
        replace hE:=hE.gr kN
        replace dq:=Own.gr dq kN (by first|exact .inl rfl|(right;intro e;first|(have:=iu _ e;omega)|(have:=Own.lt dq e;omega)|exact aT dq aq (by decide) e))
        replace aq:=mL
        refine va ?_
        refine ag (ae (aE ?_))
        refine bm (rs:=[.cell 2 117,.tmp 3]) (vs:=[.agg #[(.int .u8 (↑(dF r).toNat:Int)),(.slice A51 (bA r).length c51)],(.int .i64 0)]) rfl ⟨⟨_,_,[(.int .u8 (↑(dF r).toNat:Int)),(.slice A51 (bA r).length c51)],rfl,bN,aq,rfl⟩,rfl,trivial⟩ ?_
        rw[o6 eZ]
        exact⟨A51,c51,rfl,Own.mono dq (by omega),hE⟩
     ·refine aj (aF) ?_
      iterate 3 refine aA ?_
      refine aj (ap) ?_
      refine ab (ap) ?_
      refine ag (ae ?_)
      refine aC ?_
      refine aS (ae (af (aa ?_)))
      refine ab (ah (off:=1) cK) ?_
      refine ab (ak fb au) ?_
      refine ab (bv Tryz.underlying29 Tryz.underlying36) ?_
      refine aN (d:=50) rfl (v':=(.int .u64 (↑r.err.toNat:Int))) (by rw[Int.toNat_of_nonneg (by omega)]) ?_
      refine ar (aw sO (iY _ _ _ _ _ [] (r.err.toNat) (RdB.nil _ 0 0) (bI:=by simp))) ?_
      rintro v w206 ⟨A51,c51,rfl,dq,jl⟩
      replace hx:=RdI.ext hx jl
      replace hn:=hn.ext jl
      replace hE:=hE.tr jl
      replace au:=au.ext jl
      replace aq:=aq.ext jl
      replace aI:=aI.ext jl
      have z4:=jl.size
      have iu:=fun g e=>Own.lt dq (g:=g) e
      refine ar (bc (cs:=[(.slice none 0 0)]) J1) ?_
      rintro v w207 ⟨g7,rfl,be,eS,Ia,HL⟩
      replace hx:=RdI.ext hx eS
      replace hn:=hn.ext eS
      replace hE:=hE.tr eS
      replace au:=au.ext eS
      replace aq:=aq.ext eS
      replace aI:=aI.ext eS
      replace dq:=Own.ext dq eS
      refine aB (aU (cs':=[(.slice A51 ([]++br (r.err.toNat)).length c51)]) gV be) ?_
      rintro _ w208 ⟨iy,de⟩
      have rb:=de.size
      replace hx:=RdI.gr hx de (fun _ e=>by cases e;omega)
      replace hn:=hn.gr de
      replace hE:=hE.gr de
      replace au:=au.gr de
      replace aq:=aq.gr de
      replace aI:=aI.gr de
      replace dq:=Own.gr dq de (by first|exact .inl rfl|(right;intro e;first|(have:=iu _ e;omega)|(have:=Own.lt dq e;omega)|exact aT dq be (by decide) e))
      replace be:=iy
      refine ag (ae (af (af (aa ?_))))
      refine ab (ah (off:=1) cK) ?_
      refine ab (ak fb au) ?_
      refine ve ?_
      refine aN (d:=54) rfl (bf (by omega)) ?_
      refine ag (ae ?_)
      refine aC ?_
      refine aS (ae (af (aa ?_)))
      refine ab (ah (off:=0) cj) ?_
      refine ab (ak cO au) ?_
      refine ab (bH) ?_
      refine ab (bv Tryz.underlying34 Tryz.underlying5 (hm:=vD)) ?_
      refine ab (ak dc be) ?_
      have KP:=oj o4
      have UE:(bA r).length≤10:=by rw[KP];omega
      refine aN (d:=71) rfl (v':=.slice A51 (bA r).length c51) (by rw[KP];rfl) ?_
      rw[show([]++br r.err.toNat:List UInt8)=bA r from KP.symm] at dq
      refine ab (bi (cs:=[(.int .u8 (↑(dF r).toNat:Int)),(.slice A51 (bA r).length c51)]) dN f8) ?_
      refine ar (bc (cs:=[(.int .u8 0),(.slice none 0 0)]) dN) ?_
      rintro v w209 ⟨g10,rfl,bG,cY,wZ,wO⟩
      replace hx:=RdI.ext hx cY
      replace hn:=hn.ext cY
      replace hE:=hE.tr cY
      replace au:=au.ext cY
      replace aq:=aq.ext cY
      replace aI:=aI.ext cY
      replace dq:=Own.ext dq cY
      refine aB (aD (vs:=[(.int .u8 (↑(dF r).toNat:Int)),(.slice A51 (bA r).length c51)]) du bG) ?_
      rintro _ w210 ⟨ln,dw⟩
      have wH:=dw.size
      replace hx:=RdI.gr hx dw (fun _ e=>by cases e;omega)
      replace hn:=hn.gr dw
      replace hE:=hE.gr dw
      replace au:=au.gr dw
      replace aq:=aq.gr dw
      replace aI:=aI.gr dw
      replace dq:=Own.gr dq dw (by first|exact .inl rfl|(right;intro e;first|(have:=iu _ e;omega)|(have:=Own.lt dq e;omega)|exact aT dq bG (by decide) e))
      replace bG:=ln
      refine ag (ae (af (af (aa ?_))))
      refine ab (aK (cs:=[(.int .u8 (↑(dF r).toNat:Int)),(.slice A51 (bA r).length c51)]) bN bG) ?_
      refine ar (aw Nn (qK _ (dF r) r.op (pO) _ _ A51 c51 (bA r) (OwnB.rd dq))) ?_
      rintro v w211 ⟨X75,cx75,N75,cn75,xs75,rfl,Ed,mr,mw,iw⟩
      replace hx:=RdI.ext hx iw
      replace hn:=hn.ext iw
      replace hE:=hE.tr iw
      replace au:=au.ext iw
      replace aq:=aq.ext iw
      replace aI:=aI.ext iw
      replace dq:=Own.ext dq iw
      replace bG:=bG.ext iw
      have z2:=iw.size
      refine vm ?_
      iterate 2 refine vx ?_
      refine ar (bc (cs:=[(.int .i64 0),(.int .i64 0),(.slice none 0 0),(.int .u64 0),(.int .i64 0),(.slice none 0 0)]) fQ) ?_
      rintro v w212 ⟨g11,rfl,eP,dV,BW,BJ⟩
      replace hx:=RdI.ext hx dV
      replace hn:=hn.ext dV
      replace hE:=hE.tr dV
      replace au:=au.ext dV
      replace aq:=aq.ext dV
      replace aI:=aI.ext dV
      replace dq:=Own.ext dq dV
      replace bG:=bG.ext dV
      replace mr:=RdI.ext mr dV
      replace mw:=mw.ext dV
      refine aB (aD (vs:=[(.int .i64 (rdR r.op (bA r)).1.op),(.int .i64 (rdR r.op (bA r)).1.err),(.slice X75 (rdR r.op (bA r)).1.items.length cx75),(.int .u64 (↑(rdR r.op (bA r)).1.ver:Int)),(.int .i64 (rdR r.op (bA r)).1.count),(.slice N75 (rdR r.op (bA r)).1.nums.length cn75)]) fm eP) ?_
      rintro _ w213 ⟨xv,eR⟩
      replace hx:=RdI.gr hx eR (fun _ e=>by cases e;omega)
      replace hn:=hn.gr eR
      replace hE:=hE.gr eR
      replace au:=au.gr eR
      replace aq:=aq.gr eR
      replace aI:=aI.gr eR
      replace dq:=Own.gr dq eR (by first|exact .inl rfl|(right;intro e;first|(have:=iu _ e;omega)|(have:=Own.lt dq e;omega)|exact aT dq eP (by decide) e))
      replace bG:=bG.gr eR
      replace mr:=RdI.gr mr eR (fun _ e=>by cases e;omega)
      replace mw:=mw.gr eR
      replace eP:=xv
      refine va ?_
      refine ag (ae (af (aa ?_)))
      refine vm ?_
      refine ab (bS) ?_
      refine aG (d:=79) (fun y5=>?_) (fun y5=>?_)
      ·have bF:¬WrOk r:=by
        rintro⟨q1,q2,q3,q4,q5,q6,q7,q8⟩
        omega
       refine vm ?_
       iterate 4 refine aA ?_
       refine ab (ay) ?_
       refine ag (ae ?_)
       refine aR ?_
       refine af (aa ?_)
       refine ab (aK (cs:=[(.int .u8 0),(.slice none 0 0)]) bN aI) ?_
       refine aB (aD (vs:=[(.int .u8 0),(.slice none 0 0)]) du aq) ?_
       rintro _ w214 ⟨xu,xi⟩
       replace hE:=hE.gr xi
       replace aq:=xu
       refine va ?_
       refine ag (ae (aE (az ?_)))
       refine bm (rs:=[.cell 2 117,.tmp 3]) (vs:=[.agg #[(.int .u8 0),(.slice none 0 0)],(.int .i64 2)]) rfl ⟨⟨_,_,[(.int .u8 0),(.slice none 0 0)],rfl,bN,aq,rfl⟩,rfl,trivial⟩ ?_
       rw[fC bF]
       exact⟨none,0,rfl,Own.nil_ _ _ _ _,hE⟩
      ·refine vm ?_
       refine aj (aK (cs:=[(.int .i64 (rdR r.op (bA r)).1.op),(.int .i64 (rdR r.op (bA r)).1.err),(.slice X75 (rdR r.op (bA r)).1.items.length cx75),(.int .u64 (↑(rdR r.op (bA r)).1.ver:Int)),(.int .i64 (rdR r.op (bA r)).1.count),(.slice N75 (rdR r.op (bA r)).1.nums.length cn75)]) bZ eP) ?_
       refine aj (aK (cs:=[(.int .i64 r.op),(.int .i64 r.err),(.slice X r.items.length cx),(.int .u64 (↑r.ver:Int)),(.int .i64 r.count),(.slice N r.nums.length cn)]) bZ au) ?_
       refine bP (aw Nm (u1 _ (rdR r.op (bA r)).1 xs75 Ed _ _ X75 cx75 N75 cn75 mr mw r xs hv _ _ X cx N cn hx hn)) ?_
       rintro v w214 ⟨rfl,lN⟩
       replace hE:=hE.tr lN
       replace aq:=aq.ext lN
       replace aI:=aI.ext lN
       replace dq:=Own.ext dq lN
       replace bG:=bG.ext lN
       refine aj (b6) ?_
       refine aN (d:=84) rfl (v':=(.bool (decide (¬(rdR r.op (bA r)).1=r)))) (by by_cases h:(rdR r.op (bA r)).1=r<;>simp[h]) ?_
       refine aG (d:=84) (fun y4=>?_) (fun y4=>?_)
       ·have bF:¬WrOk r:=by
         rintro⟨q1,q2,q3,q4,q5,q6,q7,q8⟩
         exact y4 q8
        refine ab (ap) ?_
        refine ag (ae ?_)
        refine aR ?_
        refine af (aa ?_)
        refine ab (aK (cs:=[(.int .u8 0),(.slice none 0 0)]) bN aI) ?_
        refine aB (aD (vs:=[(.int .u8 0),(.slice none 0 0)]) du aq) ?_
        rintro _ w215 ⟨mL,kN⟩
        replace hE:=hE.gr kN
        replace aq:=mL
        refine va ?_
        refine ag (ae (aE (az ?_)))
        refine bm (rs:=[.cell 2 117,.tmp 3]) (vs:=[.agg #[(.int .u8 0),(.slice none 0 0)],(.int .i64 2)]) rfl ⟨⟨_,_,[(.int .u8 0),(.slice none 0 0)],rfl,bN,aq,rfl⟩,rfl,trivial⟩ ?_
        rw[fC bF]
        exact⟨none,0,rfl,Own.nil_ _ _ _ _,hE⟩
       ·have wQ:=Decidable.not_not.1 y4
        have eZ:WrOk r:=⟨by omega,by omega,by omega,by omega,.inr o4,fun h=>absurd h o4,by omega,wQ⟩
        refine ab (ap) ?_
        refine ag (ae ?_)
        refine aC ?_
        refine aS (ae (af (aa ?_)))
        refine ab (aK (cs:=[(.int .u8 (↑(dF r).toNat:Int)),(.slice A51 (bA r).length c51)]) bN bG) ?_
        refine aB (aD (vs:=[(.int .u8 (↑(dF r).toNat:Int)),(.slice A51 (bA r).length c51)]) du aq) ?_
        rintro _ w215 ⟨mL,kN⟩
        replace hE:=hE.gr kN
        replace dq:=Own.gr dq kN (by first|exact .inl rfl|(right;intro e;first|(have:=iu _ e;omega)|(have:=Own.lt dq e;omega)|exact aT dq aq (by decide) e))
        replace aq:=mL
        refine va ?_
        refine ag (ae (aE ?_))
        refine bm (rs:=[.cell 2 117,.tmp 3]) (vs:=[.agg #[(.int .u8 (↑(dF r).toNat:Int)),(.slice A51 (bA r).length c51)],(.int .i64 0)]) rfl ⟨⟨_,_,[(.int .u8 (↑(dF r).toNat:Int)),(.slice A51 (bA r).length c51)],rfl,bN,aq,rfl⟩,rfl,trivial⟩ ?_
        rw[o6 eZ]
        exact⟨A51,c51,rfl,Own.mono dq (by omega),hE⟩
theorem sR (w:World) (r:Rsp) (xs:List IT) (hv:vals xs=r.items) (lo hi:Nat) (X:Option Addr) (cx:Nat) (N:Option Addr) (cn:Nat) (hx:RdI w lo hi X cx xs) (hn:RdN w lo hi N cn r.nums) (ep:RspOk r) (gf:rsz r≤4398046511104):
  Fn Tryz.prog 74 #[.agg (b9 r X cx N cn).toArray] w (fun v w'=>∃A c,v=.tuple #[.agg #[.int .u8 ((mf r).1.1.toNat:Int),.slice A (mf r).1.2.length c],.int .i64 ((mf r).2:Int)]∧OwnB w' w.heap.size 5 A c (mf r).1.2∧Ext w w'):=by
 by_cases h:r.err=0
 ·exact N5 w r xs hv lo hi X cx N cn hx hn ep gf h
 ·exact N4 w r xs hv lo hi X cx N cn hx hn ep gf h
theorem zy (w:World) (r:Rsp) (xs:List IT) (hv:vals xs=r.items) (lo hi:Nat) (X:Option Addr) (cx:Nat) (N:Option Addr) (cn:Nat) (hx:RdI w lo hi X cx xs) (hn:RdN w lo hi N cn r.nums) (ep:RspOk r) (gf:rsz r≤4398046511104):
  Fn Tryz.prog 53 #[(.agg #[(.int .i64 r.op),(.int .i64 r.err),(.slice X r.items.length cx),(.int .u64 (↑r.ver:Int)),(.int .i64 r.count),(.slice N r.nums.length cn)])] w (fun v w'=>v=.bool (decide ((mf r).2=0))∧Ext w w'):=by
 replace hx:=hx.top
 replace hn:=Rd.top hn
 have hE:=aP w
 refine aO Tryz.func53 ?_
 refine af (aa ?_)
 refine ar (bU) ?_
 rintro v w1 ⟨g1,rfl,au,dL,kM,ls⟩
 replace hx:=RdI.ext hx dL
 replace hn:=hn.ext dL
 replace hE:=hE.tr dL
 refine va ?_
 refine ag (ae (af (aa ?_)))
 refine ab (aK (cs:=[(.int .i64 r.op),(.int .i64 r.err),(.slice X r.items.length cx),(.int .u64 (↑r.ver:Int)),(.int .i64 r.count),(.slice N r.nums.length cn)]) bZ au) ?_
 refine ar (aw RM (sR _ r xs hv _ _ X cx N cn hx hn ep gf)) ?_
 rintro v w2 ⟨A7,c7,rfl,sw,eS⟩
 replace hE:=hE.tr eS
 have t7:=eS.size
 refine vm ?_
 iterate 2 refine vx ?_
 refine ar (bc dN) ?_
 rintro v w3 ⟨g3,rfl,aM,d7,sy,su⟩
 replace hE:=hE.tr d7
 refine aB (aD (vs:=[(.int .u8 (↑(mf r).1.1.toNat:Int)),(.slice A7 (mf r).1.2.length c7)]) du aM) ?_
 rintro _ w4 ⟨gT,cQ⟩
 replace hE:=hE.gr cQ
 refine va ?_
 refine ag (ae (af (aa ?_)))
 refine vm ?_
 refine ve ?_
 refine va ?_
 refine ag (ae (aE ?_))
 refine aY ?_
 exact⟨by congr 1;rw[decide_eq_decide];omega,hE⟩
end Go.Proofs.YtiighkbehiddkaaGreat
