/-
 The contracts of the decoder.
 The contracts of the buffer that only read, and of its making.
 The contracts of the buffer that write.
 Connections, plainly; what memory holds of one. No condition.
 The contracts of a connection: what is asked of it.
-/
import Derived.Test.YtiighkbehiddkaaGreatS07
namespace Go.Proofs.YtiighkbehiddkaaGreat
open Go.RowKit
set_option linter.unusedVariables false
set_option maxRecDepth 4000
theorem Jh:jt Tryz.prog 122 4=true:=by kernel_rfl
theorem Gi:aX Tryz.prog 64=true:=by kernel_rfl
theorem YG:aX Tryz.prog 85=true:=by kernel_rfl
theorem IH:bB Tryz.prog 122 0=some 0:=by kernel_rfl
theorem AD:bB Tryz.prog 122 1=some 1:=by kernel_rfl
theorem IG:bB Tryz.prog 122 2=some 2:=by kernel_rfl
theorem gG:bB Tryz.prog 122 3=some 3:=by kernel_rfl
theorem ON:fj Tryz.prog 122=some [(0,1),(1,1),(2,1),(3,1)]:=by kernel_rfl
theorem Oa:(Tryz.prog.info? 122).map (·.size)=some 4:=by kernel_rfl
theorem Jk:fV Tryz.prog 122=some (.agg #[(.bool false),(.bool false),(.int .i64 0),(.slice none 0 0)]):=by kernel_rfl
/-- A decoder's cells. -/
abbrev RH (m:Nat) (cl:Bool) (A:Option Addr) (c:Nat) (l:List UInt8):List Value:=[.bool true,.bool cl,.int .i64 (m:Int),.slice A l.length c]
/-- The block g holds a decoder: its maximum, whether it is closed, the bytes that it holds, their row. -/
def Dec (w:World) (lo g:Nat) (D:Option Nat) (m:Nat) (cl:Bool) (l:List UInt8):Prop:=
 ∃A c,D=gI A∧Blk w g 122 (RH m cl A c l)∧OwnT w lo 5 A c l∧m≤2097152
section
variable {w w':World} {lo lo' g m:Nat} {D:Option Nat} {cl:Bool} {l:List UInt8}
theorem Dec.ext (h:Dec w lo g D m cl l) (he:Ext w w'):Dec w' lo g D m cl l:=by
 obtain⟨A,c,hD,hb,ho,r⟩:=h
 exact⟨A,c,hD,hb.ext he,ho.ext he,r⟩
theorem Dec.mono (h:Dec w lo g D m cl l) (hl:lo'≤lo):Dec w lo' g D m cl l:=by
 obtain⟨A,c,hD,hb,ho,r⟩:=h
 exact⟨A,c,hD,hb,ho.mono hl,r⟩
theorem Dec.lt (h:Dec w lo g D m cl l):g<w.heap.size∧∀x,D=some x→lo≤x∧x<w.heap.size:=by
 obtain⟨A,c,rfl,hb,ho,r⟩:=h
 exact⟨hb.lt,fun x e=>ho.lt e⟩
theorem Dec.cap (h:Dec w lo g D m cl l):m≤2097152:=by
 obtain⟨A,c,rfl,hb,ho,r⟩:=h
 exact r
theorem Dec.ne (h:Dec w lo g D m cl l):D≠some g:=by
 obtain⟨A,c,rfl,hb,ho,r⟩:=h
 exact ho.ne hb (by decide)
theorem Dec.ch {g2:Nat} {D2:Option Nat} (h:Dec w lo g D m cl l) (k:Ch g2 D2 w w') (h1:g≠g2) (h2:D2≠some g) (h3:D≠some g2) (h4:∀x,D=some x→D2≠some x):Dec w' lo g D m cl l:=by
 obtain⟨A,c,rfl,hb,ho,r⟩:=h
 exact⟨A,c,rfl,k.bk hb h1 h2,k.ownT ho (fun x e=>⟨fun e2=>h3 (e2▸e),h4 x e⟩),r⟩
theorem Dec.gr {row:Option Nat} (h:Dec w lo g D m cl l) (hg:Gr w w' row) (h1:∀x,row=some x→x≠g) (h2:∀x,row=some x→D≠some x):Dec w' lo g D m cl l:=by
 obtain⟨A,c,rfl,hb,ho,r⟩:=h
 exact⟨A,c,rfl,hb.gr hg (fun e=>h1 g e rfl),ho.same (fun x e=>hg.block x (ho.lt e).2 (fun e2=>h2 x e2.symm e)),r⟩
theorem Dec.kp {gs:List Nat} (h:Dec w lo g D m cl l) (hk:Kp gs w w') (h1:g∉gs) (h2:∀x,D=some x→x∉gs):Dec w' lo g D m cl l:=by
 obtain⟨A,c,rfl,hb,ho,r⟩:=h
 exact⟨A,c,rfl,hk.bk hb h1,hk.ownT ho h2,r⟩
end
theorem mO (l:List UInt8) {m:Nat} (hm:m≤2097152):
  ((bJ l (m:Int)).2.2=0∧1≤(bJ l (m:Int)).2.1)∨((bJ l (m:Int)).2.2=4∧(bJ l (m:Int)).1=(0,[])∧(bJ l (m:Int)).2.1=0∧((bd l).2.2=4∨((bd l).2.2=0∧(bd l).1≤m+1)))∨
  ((bJ l (m:Int)).2.2=5∧(bJ l (m:Int)).1=(0,[])∧(bJ l (m:Int)).2.1=0∧1≤l.length)∨((bJ l (m:Int)).2.2=6∧(bJ l (m:Int)).1=(0,[])∧(bJ l (m:Int)).2.1=0∧1≤l.length):=by
 have h0:(0:Int)≤(m:Int)∧(m:Int)≤2097152:=by omega
 have he:=vH l
 have hs:=gA l
 have ep:=GY l
 by_cases h1:(bd l).2.2=4
 ·rw[bL (h:=h0) (h1:=h1)];exact .inr (.inl ⟨rfl,rfl,rfl,.inl h1⟩)
 ·have kM:1≤l.length:=by
   rcases Nat.eq_zero_or_pos l.length with h|h
   ·have hl:=List.eq_nil_of_length_eq_zero h
    subst hl
    exact absurd (by decide) h1
   ·exact h
  by_cases h2:(bd l).2.2≠0∨(m:Int)+1<((bd l).1:Int)
  ·rw[dz (h:=h0) (h1:=h1) (h2:=h2)];exact .inr (.inr (.inl ⟨rfl,rfl,rfl,kM⟩))
  ·have h3:(bd l).2.2=0:=by omega
   have h4:¬(m:Int)+1<((bd l).1:Int):=fun h=>h2 (.inr h)
   by_cases h5:(bd l).1=0
   ·rw[dT (h:=h0) (h1:=h3) (h2:=h5)];exact .inr (.inr (.inr ⟨rfl,rfl,rfl,kM⟩))
   ·by_cases h6:l.length -(bd l).2.1<(bd l).1
    ·rw[dg (h:=h0) (h1:=h3) (h2:=h4) (h3:=h5) (h4:=h6)];exact .inr (.inl ⟨rfl,rfl,rfl,.inr ⟨h3,by omega⟩⟩)
    ·rw[eu (h:=h0) (h1:=h3) (h2:=h4) (h3:=h5) (h4:=h6)];exact .inl ⟨rfl,by show 1≤(bd l).2.1+_;have:=ep h3;omega⟩
/-- A decoder's error ahead of all else. -/
def IQ (cl:Bool):Nat:=if cl=true then 14 else 0
/-- What Next does: closed behind it, the bytes that are left, the frame, the error. -/
def jS (m:Nat) (cl:Bool) (l:List UInt8):Bool×List UInt8×(UInt8×List UInt8)×Nat:=
 if cl=true then(true,l,(0,[]),14) else
  (decide ((bJ l (m:Int)).2.2=5),l.drop (if(bJ l (m:Int)).2.2=6 then 1 else if(bJ l (m:Int)).2.2=5 then l.length else(bJ l (m:Int)).2.1),(bJ l (m:Int)).1,(bJ l (m:Int)).2.2)
theorem AJ {m:Nat} {l:List UInt8} (h:(bJ l (m:Int)).2.2=6):jS m false l=(false,l.drop 1,(bJ l (m:Int)).1,(bJ l (m:Int)).2.2):=by
 rw[jS,if_neg (by decide),if_pos h,h];rfl
theorem AK {m:Nat} {l:List UInt8} (h:(bJ l (m:Int)).2.2=5):jS m false l=(true,l.drop l.length,(bJ l (m:Int)).1,(bJ l (m:Int)).2.2):=by
 rw[jS,if_neg (by decide),if_neg (by omega),if_pos h,h];rfl
theorem u2 {m:Nat} {l:List UInt8} (h:¬(bJ l (m:Int)).2.2=6:=by omega) (h':¬(bJ l (m:Int)).2.2=5:=by omega):jS m false l=(false,l.drop (bJ l (m:Int)).2.1,(bJ l (m:Int)).1,(bJ l (m:Int)).2.2):=by
 rw[jS,if_neg (by decide),if_neg h,if_neg h',decide_eq_false h']
def JW (cl:Bool) (l q:List UInt8):List UInt8:=if cl=true then l else l++q
def jo (cl:Bool) (l:List UInt8):Nat:=if cl=true then 0 else l.length
theorem lp (w:World) (g m:Nat) (cl:Bool) (A:Option Addr) (c:Nat) (l:List UInt8) (aV:Blk w g 122 (RH m cl A c l)):
  Fn Tryz.prog 64 #[(.pointer (some ⟨g,0,none⟩))] w (fun v w'=>v=.int .i64 (IQ cl:Int)∧w'=w):=by
 refine aO Tryz.func64 ?_
 refine af (aa ?_)
 refine va ?_
 refine ag (ae (af (a9 (af (aa ?_)))))
 refine vm ?_
 refine ab (dO Tryz.underlying55) ?_
 refine vm ?_
 refine aj (aF) ?_
 refine aj (bD) ?_
 refine aj (ah IH) ?_
 refine aj (ak ss aV) ?_
 refine aj (b6) ?_
 refine aN (d:=11) rfl (rfl) ?_
 refine ab (ap) ?_
 refine va ?_
 refine ag (ae ?_)
 refine aC ?_
 refine af (aa ?_)
 refine vm ?_
 refine vn ?_
 refine ab (ah AD) ?_
 refine ab (ak ss aV) ?_
 refine va ?_
 refine ag (ae ?_)
 refine dJ (fun eN=>?_) (fun eN=>?_)
 ·refine af (aa ?_)
  refine va ?_
  refine ag (ae (aE (aQ (az ?_))))
  refine aY ?_
  subst eN
  exact⟨rfl,rfl⟩
 ·refine aS (bb (ae (af (aa ?_))))
  refine va ?_
  refine ag (ae (aE ?_))
  refine aY ?_
  subst eN
  exact⟨rfl,rfl⟩
theorem IP (w:World) (m:Nat) (h2:m≤2097152):
  Fn Tryz.prog 34 #[(.int .i64 (↑m:Int))] w (fun v w'=>∃g,v=.tuple #[.pointer (some ⟨g,0,none⟩),.int .i64 0]∧Dec w' w.heap.size g none m false []∧Ext w w'∧w.heap.size≤g):=by
 have hE:=aP w
 refine aO Tryz.func34 ?_
 refine af (aa ?_)
 iterate 2 refine va ?_
 refine ag (ae (af (af (aa ?_))))
 refine vm ?_
 refine ab (bz) ?_
 refine aN (d:=5) rfl (bf (by omega)) ?_
 refine vm ?_
 refine aj (aF) ?_
 refine aj (bw) ?_
 refine aN (d:=8) rfl (bf (by omega)) ?_
 refine ab (ap) ?_
 refine ag (ae ?_)
 refine aC ?_
 refine aS (ae (af (aa ?_)))
 refine vm ?_
 refine ab (bi Jk ON) ?_
 refine ar (bU) ?_
 rintro v w1 ⟨g12,rfl,ix,eK,LO,Pk⟩
 replace hE:=hE.tr eK
 iterate 2 refine va ?_
 refine ag (ae (aE ?_))
 refine cX ?_
 exact⟨g12,rfl,⟨none,0,rfl,ix,OwnT.nil_ _ _ _,h2⟩,hE,by omega⟩
theorem xE (w:World) (lo g:Nat) (D:Option Nat) (m:Nat) (cl:Bool) (l:List UInt8) (uG:Dec w lo g D m cl l) (ur:l.length≤1099511627776):
  Fn Tryz.prog 41 #[(.pointer (some ⟨g,0,none⟩))] w (fun v w'=>v=.int .i64 (jo cl l:Int)∧Ext w w'):=by
 obtain⟨A,c,rfl,aV,dH,l5⟩:=uG
 have jE:=dH.2.1
 simp only[maxLen] at jE
 have hE:=aP w
 refine aO Tryz.func41 ?_
 refine af (aa ?_)
 refine va ?_
 refine ag (ae (af (af (aa ?_))))
 refine vm ?_
 refine ab (aw Gi (lp _ _ _ _ _ _ _ aV)) ?_
 refine ab (bS) ?_
 refine ag (ae ?_)
 refine aL (fun dM=>?_) (fun dM=>?_)
 ·refine af (aa ?_)
  refine va ?_
  refine ag (ae (aE (az ?_)))
  refine aY ?_
  cases cl with
  |false=>exact absurd rfl dM
  |true=>exact⟨rfl,hE⟩
 ·refine aS (ae (af (aa ?_)))
  refine vm ?_
  refine vn ?_
  refine ab (ah gG) ?_
  refine ab (ak dc aV) ?_
  refine ab (bj Tryz.underlying32) ?_
  refine va ?_
  refine ag (ae (aE ?_))
  refine aY ?_
  cases cl with
  |false=>exact⟨rfl,hE⟩
  |true=>exact absurd (by decide) dM
theorem rV (w:World) (lo g:Nat) (D:Option Nat) (m:Nat) (cl:Bool) (l:List UInt8) (uG:Dec w lo g D m cl l) (ur:l.length≤1099511627776):
  Fn Tryz.prog 40 #[(.pointer (some ⟨g,0,none⟩))] w (fun v w'=>v=.bool cl∧Ext w w'):=by
 obtain⟨A,c,rfl,aV,dH,l5⟩:=uG
 have jE:=dH.2.1
 simp only[maxLen] at jE
 have hE:=aP w
 refine aO Tryz.func40 ?_
 refine af (aa ?_)
 refine va ?_
 refine ag (ae (af (aa ?_)))
 refine vm ?_
 refine ab (aw Gi (lp _ _ _ _ _ _ _ aV)) ?_
 refine ve ?_
 refine aN (d:=5) rfl (v':=(.bool cl)) (by cases cl<;>rfl) ?_
 refine va ?_
 refine ag (ae (aE ?_))
 refine aY ?_
 exact⟨rfl,hE⟩
theorem F5 (w:World) (lo g:Nat) (D:Option Nat) (m:Nat) (cl:Bool) (l:List UInt8) (uG:Dec w lo g D m cl l) (ur:l.length≤1099511627776):
  Fn Tryz.prog 57 #[(.pointer (some ⟨g,0,none⟩))] w (fun v w'=>∃g' D',v=.pointer (some ⟨g',0,none⟩)∧Dec w' w.heap.size g' D' m cl l∧Ext w w'∧w.heap.size≤g'∧∀x,D'=some x→w.heap.size≤x):=by
 obtain⟨A,c,rfl,aV,dH,l5⟩:=uG
 have lH:=fun g e=>OwnT.lt dH (g:=g) e
 have Ih:=aV.lt
 have jE:=dH.2.1
 simp only[maxLen] at jE
 have hE:=aP w
 refine aO (args:=[(.pointer (some ⟨g,0,none⟩))]) Tryz.func57 ?_
 refine af (aa ?_)
 refine va ?_
 refine ag (ae (af (af (aa ?_))))
 refine vm ?_
 refine ab (aw Gi (lp _ _ _ _ _ _ _ aV)) ?_
 refine ve ?_
 refine aN (d:=6) rfl (bf (by cases cl<;>decide)) ?_
 refine ag (ae ?_)
 refine aC ?_
 refine aS (ae (af (aa ?_)))
 refine vm ?_
 refine vn ?_
 refine ab (aK (cs:=[(.bool true),(.bool cl),(.int .i64 (↑m:Int)),(.slice A l.length c)]) Jh aV) ?_
 refine ar (bc Jk) ?_
 rintro v w1 ⟨g3,rfl,aM,d7,sy,su⟩
 replace aV:=aV.ext d7
 replace dH:=OwnT.ext dH d7
 replace hE:=hE.tr d7
 refine aB (aD (vs:=[(.bool true),(.bool cl),(.int .i64 (↑m:Int)),(.slice A l.length c)]) Oa aM) ?_
 rintro _ w2 ⟨gY,dt⟩
 have nO:=dt.size
 replace aV:=aV.gr dt
 replace dH:=OwnT.gr dH dt (by first|exact .inl rfl|(right;intro e;first|(have:=lH _ e;omega)|exact OwnT.ne dH aM (by decide) e))
 replace hE:=hE.gr dt
 replace aM:=gY
 refine ag (ae (af (aa ?_)))
 refine vm ?_
 refine vn ?_
 refine ab (ah gG) ?_
 refine ab (ak dc aV) ?_
 refine ar (aw Nq (mU _ _ _ _ _ _ (OwnT.rd dH))) ?_
 rintro v w3 ⟨A14,c14,rfl,nq,jV⟩
 replace hE:=hE.tr jV
 replace aM:=aM.ext jV
 have HW:=fun g e=>Own.lt nq (g:=g) e
 refine ab (ah gG) ?_
 refine aB (aU gV aM) ?_
 rintro _ w4 ⟨gT,cQ⟩
 replace hE:=hE.gr cQ
 replace nq:=Own.gr nq cQ (by first|exact .inl rfl|(right;intro e;first|(have:=HW _ e;omega)|(have:=Own.lt nq e;omega)|exact aT nq aM (by decide) e))
 replace aM:=gT
 refine ag (ae (af (aa ?_)))
 refine va ?_
 refine ag (ae (aE ?_))
 refine aY ?_
 exact⟨_,_,rfl,⟨A14,c14,rfl,aM,(OwnT.of nq).mono (by omega),l5⟩,hE,by omega,fun x e=>by have:=Own.lt nq e;omega⟩
theorem F4 (w:World) (lo g:Nat) (D:Option Nat) (m:Nat) (cl:Bool) (l:List UInt8) (uG:Dec w lo g D m cl l) (ur:l.length≤1099511627776) (lo2 eO:Nat) (B:Option Addr) (c2:Nat) (q:List UInt8) (kJ:RdB w lo2 eO B c2 q) (Wh:g<lo2∨eO≤g) (Tx:∀x,D=some x→x<lo2∨eO≤x) (kn:lo≤w.heap.size) (Qo:q.length≤1099511627776):
  Fn Tryz.prog 42 #[(.pointer (some ⟨g,0,none⟩)),(.slice B q.length c2)] w (fun v w'=>v=.int .i64 (IQ cl:Int)∧(∃D',Dec w' lo g D' m cl (JW cl l q)∧Nx w D D')∧Ch g D w w'):=by
 obtain⟨A,c,rfl,aV,dH,l5⟩:=uG
 have jE:=dH.2.1
 simp only[maxLen] at jE
 have hC:=Ch.refl g (gI A) w
 refine aO Tryz.func42 ?_
 refine af (aa ?_)
 refine va ?_
 refine ag (ae (af (aa ?_)))
 refine vm ?_
 refine ab (aw Gi (lp _ _ _ _ _ _ _ aV)) ?_
 refine va ?_
 refine ag (ae (af (af (aa ?_))))
 refine vm ?_
 refine ve ?_
 refine ag (ae ?_)
 refine aL (fun dM=>?_) (fun dM=>?_)
 ·refine aa ?_
  iterate 2 refine vm ?_
  refine vn ?_
  refine ab (ah gG) ?_
  refine ab (ak dc aV) ?_
  refine vm ?_
  refine ar (nM cE rfl dH rfl kJ (by omega)) ?_
  rintro v w1 ⟨A16,c16,rfl,Ah,Ik,XZ,_⟩
  replace aV:=aV.gr Ik (OwnT.ne dH aV (by decide))
  replace hC:=hC.tr (Ch.of_row Ik) (fun x e=>.inl e)
  refine vn ?_
  refine ab (ah gG) ?_
  refine aB (aU gV aV) ?_
  rintro _ w2 ⟨gY,dt⟩
  replace Ah:=OwnT.gr Ah dt (by first|exact .inl rfl|(right;intro e;first|(have:=hq_hot16 _ e;omega)|exact OwnT.ne Ah aV (by decide) e))
  replace hC:=hC.gr2 dt (fun x e=>by cases e;first|exact .inl rfl|(right;right;omega))
  replace aV:=gY
  refine ag (ae (af (aa ?_)))
  refine vm ?_
  refine va ?_
  refine ag (ae (aE ?_))
  refine aY ?_
  cases cl with
  |false=>exact⟨rfl,⟨_,⟨_,_,rfl,aV,Ah,l5⟩,XZ⟩,hC⟩
  |true=>exact absurd dM (by decide)
 ·refine aS (ae (af (aa ?_)))
  refine vm ?_
  refine va ?_
  refine ag (ae (aE ?_))
  refine aY ?_
  cases cl with
  |false=>exact absurd rfl dM
  |true=>exact⟨rfl,⟨_,⟨_,_,rfl,aV,dH,l5⟩,Nx.refl _ _⟩,hC⟩
theorem F3 (w:World) (lo g:Nat) (D:Option Nat) (m:Nat) (cl:Bool) (l:List UInt8) (uG:Dec w lo g D m cl l) (ur:l.length≤1099511627776):
  Fn Tryz.prog 65 #[(.pointer (some ⟨g,0,none⟩))] w (fun v w'=>∃B c2,v=.tuple #[.agg #[.int .u8 ((jS m cl l).2.2.1.1.toNat:Int),.slice B (jS m cl l).2.2.1.2.length c2],.int .i64 ((jS m cl l).2.2.2:Int)]∧OwnB w' w.heap.size 5 B c2 (jS m cl l).2.2.1.2∧Dec w' lo g D m (jS m cl l).1 (jS m cl l).2.1∧Ch g D w w'):=by
 obtain⟨A,c,rfl,aV,dH,l5⟩:=uG
 have lH:=fun g e=>OwnT.lt dH (g:=g) e
 have Ih:=aV.lt
 have jE:=dH.2.1
 simp only[maxLen] at jE
 have hC:=Ch.refl g (gI A) w
 refine aO Tryz.func65 ?_
 refine af (aa ?_)
 refine ar (bc dN) ?_
 rintro v w1 ⟨g2,rfl,aq,dk,my,nd⟩
 replace aV:=aV.ext dk
 replace dH:=OwnT.ext dH dk
 replace hC:=hC.ext dk
 refine va ?_
 refine ag (ae (af (af (aa ?_))))
 refine vm ?_
 refine ab (aw Gi (lp _ _ _ _ _ _ _ aV)) ?_
 refine va ?_
 refine ag (ae (af (aa ?_)))
 refine vm ?_
 refine ab (bS) ?_
 refine ag (ae ?_)
 refine aL (fun dM=>?_) (fun dM=>?_)
 ·have WE:cl=true:=by cases cl with|true=>rfl|false=>exact absurd rfl dM
  subst WE
  refine af (aa ?_)
  refine ab (bi dN f8) ?_
  refine vm ?_
  refine aB (aD (vs:=[(.int .u8 0),(.slice none 0 0)]) du aq) ?_
  rintro _ w2 ⟨gY,dt⟩
  replace aV:=aV.gr dt
  replace dH:=OwnT.gr dH dt (by first|exact .inl rfl|(right;intro e;first|(have:=lH _ e;omega)|exact OwnT.ne dH aq (by decide) e))
  replace hC:=hC.gr2 dt (fun x e=>by cases e;first|exact .inl rfl|(right;right;omega))
  replace aq:=gY
  refine va ?_
  refine ag (ae (aE (az ?_)))
  refine bm (rs:=[.cell 2 117,.tmp 3]) (vs:=[.agg #[(.int .u8 0),(.slice none 0 0)],(.int .i64 (↑(IQ true):Int))]) rfl ⟨⟨_,_,[(.int .u8 0),(.slice none 0 0)],rfl,bN,aq,rfl⟩,rfl,trivial⟩ ?_
  exact⟨none,0,rfl,Own.nil_ _ _ _ _,⟨_,_,rfl,aV,dH,l5⟩,hC⟩
 ·have WF:cl=false:=by cases cl with|false=>rfl|true=>exact absurd (by decide) dM
  subst WF
  have Wq:=mO l l5
  have hfp:=mN l (m:Int)
  refine aS (ae (af ?_))
  refine eH ?_
  intro w202 xX
  replace aV:=aV.ext xX
  replace dH:=OwnT.ext dH xX
  replace hC:=hC.ext xX
  replace aq:=aq.ext xX
  have D0:=xX.size
  refine fh (sQ (xW w202.heap.size 5)) (oR (mW)) (oQ (AU)) (oP (mW) (AU)) 0 16 [(15,a0 (.pointer (some ⟨g,0,none⟩))),(16,a0 (.pointer (some ⟨g,0,none⟩))),(17,a0 (.pointer (some ⟨g,3,none⟩))),(18,a0 (.slice A l.length c)),(19,a0 (.pointer (some ⟨g,0,none⟩))),(20,a0 (.pointer (some ⟨g,0,none⟩))),(21,a0 (.pointer (some ⟨g,2,none⟩))),(22,a0 (.int .i64 (↑m:Int))),(23,(fun v w=>∃A23 c23,v=(.tuple #[(.agg #[(.int .u8 (↑(bJ l (m:Int)).1.1.toNat:Int)),(.slice A23 (bJ l (m:Int)).1.2.length c23)]),(.int .i64 (↑(bJ l (m:Int)).2.1:Int)),(.int .i64 (↑(bJ l (m:Int)).2.2:Int))])∧OwnB w w202.heap.size 5 A23 c23 (bJ l (m:Int)).1.2)),(14,(fun v w=>∃A23 c23,v=(.tuple #[(.agg #[(.int .u8 (↑(bJ l (m:Int)).1.1.toNat:Int)),(.slice A23 (bJ l (m:Int)).1.2.length c23)]),(.int .i64 (↑(bJ l (m:Int)).2.1:Int)),(.int .i64 (↑(bJ l (m:Int)).2.2:Int))])∧OwnB w w202.heap.size 5 A23 c23 (bJ l (m:Int)).1.2)),(24,(fun v w=>∃A23 c23,v=(.agg #[(.int .u8 (↑(bJ l (m:Int)).1.1.toNat:Int)),(.slice A23 (bJ l (m:Int)).1.2.length c23)])∧OwnB w w202.heap.size 5 A23 c23 (bJ l (m:Int)).1.2)),(25,a0 (.int .i64 (↑(bJ l (m:Int)).2.1:Int))),(26,a0 (.int .i64 (↑(bJ l (m:Int)).2.2:Int))),(5,(fun v w=>∃g5,v=.pointer (some ⟨g5,0,none⟩)∧Blk w g5 117 [(.int .u8 0),(.slice none 0 0)]∧w202.heap.size≤g5)),(5,(fun v w=>∃g_f A23 c23,v=.pointer (some ⟨g_f,0,none⟩)∧Blk w g_f 117 [(.int .u8 (↑(bJ l (m:Int)).1.1.toNat:Int)),(.slice A23 (bJ l (m:Int)).1.2.length c23)]∧w202.heap.size≤g_f∧OwnB w w202.heap.size 5 A23 c23 (bJ l (m:Int)).1.2)),(6,a0 (.int .i64 (↑(bJ l (m:Int)).2.1:Int)))] [[],[0],[1],[2],[],[4],[5],[6],[3,7],[8],[9],[9],[9],[],[10,13],[11]] [[0],[0],[0],[0],[0],[0],[0],[0],[0],[0],[0],[0],[0],[],[],[0]] [[0],[0],[0],[0],[0],[0],[0],[0],[0],[0],[0],[0],[0],[0],[0],[0]] [none,none,none,none,none,none,none,none,none,none,none,none,none,none,some 0,none] [true,true,true,true,true,true,true,true,true,true,true,true,true,false,true,true] [0] _ [] [] ⟨sA,sA,sA,sA,sA,sA,sA,sA,Ka (mW) ((fun v w w' ⟨A,c,hv,ho⟩ he=>⟨A,c,hv,Own.belu ho he⟩)),Ka (mW) ((fun v w w' ⟨A23,c23,hb,dr⟩ he=>⟨A23,c23,hb,Own.belu dr he⟩)),Ka (mW) ((fun v w w' ⟨A23,c23,hb,dr⟩ he=>⟨A23,c23,hb,Own.belu dr he⟩)),sA,sA,iF ((fun v w w' ⟨g,hv,hb,hl⟩ he=>⟨g,hv,hb.ext he,hl⟩)),iF ((fun v w w' ⟨g_f,A23,c23,hv,hb,hl,dr⟩ he=>⟨g_f,A23,c23,hv,hb.ext he,hl,Own.ext dr he⟩)),sA,trivial⟩ ?_ ?_
  ·repeat' apply And.intro
   any_goals exact trivial
   all_goals intro wd bW
   exact am (ax (aF))
   ·rintro _ rfl
    exact am (ax (bD))
   ·rintro _ rfl
    exact am (ax (ah gG))
   ·replace bW:=kk bW
    replace aV:=aV.ext bW
    rintro _ rfl
    show eV _ _ _ _ _ _
    exact am (ax (ak dc aV))
   exact am (ax (aF))
   ·rintro _ rfl
    exact am (ax (bD))
   ·rintro _ rfl
    exact am (ax (ah IG))
   ·replace bW:=kk bW
    replace aV:=aV.ext bW
    rintro _ rfl
    show eV _ _ _ _ _ _
    exact am (ax (ak gg aV))
   ·replace bW:=kk bW
    replace dH:=OwnT.ext dH bW
    have dK:=bW.size
    iterate 2 rintro _ rfl
    show eV _ _ _ _ _ _
    refine am (OpRun.mono (aw YG (Cw _ _ _ _ _ l (m:Int) (by omega) (by omega) (OwnT.rd dH) (by omega))) ?_)
    rintro v w203 ⟨A23,c23,rfl,dr,yW⟩
    exact⟨⟨A23,c23,rfl,Own.mono dr (by omega)⟩,yW⟩
   ·replace bW:=kk bW
    have dK:=bW.size
    rintro _ ⟨A23,c23,rfl,dr⟩
    show eV _ _ _ _ _ _
    refine am (OpRun.mono (aF) ?_)
    rintro v _ ⟨rfl,rfl⟩
    exact⟨⟨A23,c23,rfl,dr⟩,aP _⟩
   ·replace bW:=kk bW
    have dK:=bW.size
    rintro _ ⟨A23,c23,rfl,dr⟩
    show eV _ _ _ _ _ _
    refine am (OpRun.mono (fq) ?_)
    rintro v _ ⟨rfl,rfl⟩
    exact⟨⟨A23,c23,rfl,dr⟩,aP _⟩
   ·rintro _ ⟨A23,c23,rfl,dr⟩
    show eV _ _ _ _ _ _
    exact am (ax (fq))
   ·rintro _ ⟨A23,c23,rfl,dr⟩
    show eV _ _ _ _ _ _
    exact am (ax (fq))
   ·replace bW:=kk bW
    have dK:=bW.size
    show eV _ _ _ _ _ _
    refine am (OpRun.mono (bc dN) ?_)
    rintro v w203 ⟨g5,rfl,bu,f0,Am,GJ⟩
    exact⟨⟨g5,rfl,bu,by omega⟩,f0⟩
   ·rintro _ ⟨A23,c23,rfl,dr⟩
    rintro _ ⟨g5,rfl,bu,Am⟩
    show eV _ _ _ _ _ _
    have kf:=bu
    refine am (OpRun.mono (aD (vs:=[(.int .u8 (↑(bJ l (m:Int)).1.1.toNat:Int)),(.slice A23 (bJ l (m:Int)).1.2.length c23)]) du bu) ?_)
    rintro _ w203 ⟨gy,df⟩
    replace dr:=Own.gr dr df (by first|exact .inl rfl|(right;intro e;first|(have:=kL _ e;omega)|(have:=Own.lt dr e;omega)|exact aT dr bu (by decide) e))
    replace bu:=gy
    exact⟨⟨g5,A23,c23,rfl,bu,by omega,dr⟩,zp df kf (by decide) (by omega)⟩
   ·rintro _ rfl
    exact am (ax (eU))
  ·intro wf4 ll
   replace ll:=kk ll
   replace aV:=aV.ext ll
   replace dH:=OwnT.ext dH ll
   replace hC:=hC.ext ll
   replace aq:=aq.ext ll
   iterate 8 rintro _ rfl
   iterate 3 rintro _ ⟨A23,c23,rfl,dr⟩
   iterate 2 rintro _ rfl
   intro v5
   rintro _ ⟨g5,A23,c23,rfl,bu,VI,dr⟩
   rintro _ rfl
   have kL:=fun g e=>Own.lt dr (g:=g) e
   refine fE ?_
   refine va ?_
   refine ag (ae (af (af (aa ?_))))
   refine vm ?_
   refine ag (ae (a9 (af (aa ?_))))
   refine ve ?_
   refine va ?_
   refine ag (ae ?_)
   refine aL (fun eN=>?_) (fun eN=>?_)
   ·refine aa ?_
    refine va ?_
    refine ag (bb (ae (af (aa ?_))))
    iterate 2 refine vm ?_
    refine vn ?_
    refine ab (ah gG) ?_
    refine ab (ak dc aV) ?_
    refine vm ?_
    refine ar (qS cE 1 rfl dH rfl rfl (by omega)) ?_
    rintro v _ ⟨rfl,A46,c46,rfl,fU,FQ⟩
    have jk:=fun g e=>OwnT.lt fU (g:=g) e
    refine vn ?_
    refine ab (ah gG) ?_
    refine aB (aU gV aV) ?_
    rintro _ w203 ⟨gy,df⟩
    replace fU:=OwnT.gr fU df (by first|exact .inl rfl|(right;intro e;first|(have:=jk _ e;omega)|exact OwnT.ne fU aV (by decide) e))
    replace hC:=hC.gr2 df (fun x e=>by cases e;first|exact .inl rfl|(right;right;omega))
    replace aq:=aq.gr df
    replace dr:=Own.gr dr df (by first|exact .inl rfl|(right;intro e;first|(have:=kL _ e;omega)|(have:=Own.lt dr e;omega)|exact aT dr aV (by decide) e))
    replace bu:=bu.gr df
    replace aV:=gy
    refine ag (ae (af (aa ?_)))
    refine ab (aK (cs:=[(.int .u8 (↑(bJ l (m:Int)).1.1.toNat:Int)),(.slice A23 (bJ l (m:Int)).1.2.length c23)]) bN bu) ?_
    refine vm ?_
    refine aB (aD (vs:=[(.int .u8 (↑(bJ l (m:Int)).1.1.toNat:Int)),(.slice A23 (bJ l (m:Int)).1.2.length c23)]) du aq) ?_
    rintro _ w204 ⟨dR,bM⟩
    replace aV:=aV.gr bM
    replace fU:=OwnT.gr fU bM (by first|exact .inl rfl|(right;intro e;first|(have:=jk _ e;omega)|exact OwnT.ne fU aq (by decide) e))
    replace hC:=hC.gr2 bM (fun x e=>by cases e;first|exact .inl rfl|(right;right;omega))
    replace dr:=Own.gr dr bM (by first|exact .inl rfl|(right;intro e;first|(have:=kL _ e;omega)|(have:=Own.lt dr e;omega)|exact aT dr aq (by decide) e))
    replace aq:=dR
    refine va ?_
    refine ag (ae (aE ?_))
    refine bm (rs:=[.cell 2 117,.tmp 3]) (vs:=[.agg #[(.int .u8 (↑(bJ l (m:Int)).1.1.toNat:Int)),(.slice A23 (bJ l (m:Int)).1.2.length c23)],(.int .i64 (↑(bJ l (m:Int)).2.2:Int))]) rfl ⟨⟨_,_,[(.int .u8 (↑(bJ l (m:Int)).1.1.toNat:Int)),(.slice A23 (bJ l (m:Int)).1.2.length c23)],rfl,bN,aq,rfl⟩,rfl,trivial⟩ ?_
    rw[AJ (by omega)]
    exact⟨_,_,rfl,Own.mono dr (by omega),⟨_,_,FQ.symm,aV,fU,l5⟩,hC⟩
   ·refine af (aa ?_)
    refine ve ?_
    refine va ?_
    refine ag (ae ?_)
    refine aL (fun e9=>?_) (fun e9=>?_)
    ·refine aa ?_
     iterate 2 refine vm ?_
     refine vn ?_
     refine ab (ah gG) ?_
     refine ab (ak dc aV) ?_
     refine ab (bj Tryz.underlying32) ?_
     refine vn ?_
     refine ab (ah AD) ?_
     refine aB (aU vM aV) ?_
     rintro _ w203 ⟨gy,df⟩
     replace dH:=OwnT.gr dH df (by first|exact .inl rfl|(right;intro e;first|(have:=lH _ e;omega)|exact OwnT.ne dH aV (by decide) e))
     replace hC:=hC.gr2 df (fun x e=>by cases e;first|exact .inl rfl|(right;right;omega))
     replace aq:=aq.gr df
     replace dr:=Own.gr dr df (by first|exact .inl rfl|(right;intro e;first|(have:=kL _ e;omega)|(have:=Own.lt dr e;omega)|exact aT dr aV (by decide) e))
     replace bu:=bu.gr df
     replace aV:=gy
     refine va ?_
     refine ag (bb (ae (af (aa ?_))))
     iterate 2 refine vm ?_
     refine vn ?_
     refine ab (ah gG) ?_
     refine ab (ak dc aV) ?_
     refine vm ?_
     refine ar (qS cE l.length rfl dH rfl rfl (Nat.le_refl _)) ?_
     rintro v _ ⟨rfl,A46,c46,rfl,fU,FQ⟩
     have jk:=fun g e=>OwnT.lt fU (g:=g) e
     refine vn ?_
     refine ab (ah gG) ?_
     refine aB (aU gV aV) ?_
     rintro _ w204 ⟨dR,bM⟩
     replace fU:=OwnT.gr fU bM (by first|exact .inl rfl|(right;intro e;first|(have:=jk _ e;omega)|exact OwnT.ne fU aV (by decide) e))
     replace hC:=hC.gr2 bM (fun x e=>by cases e;first|exact .inl rfl|(right;right;omega))
     replace aq:=aq.gr bM
     replace dr:=Own.gr dr bM (by first|exact .inl rfl|(right;intro e;first|(have:=kL _ e;omega)|(have:=Own.lt dr e;omega)|exact aT dr aV (by decide) e))
     replace bu:=bu.gr bM
     replace aV:=dR
     refine ag (ae (af (aa ?_)))
     refine ab (aK (cs:=[(.int .u8 (↑(bJ l (m:Int)).1.1.toNat:Int)),(.slice A23 (bJ l (m:Int)).1.2.length c23)]) bN bu) ?_
     refine vm ?_
     refine aB (aD (vs:=[(.int .u8 (↑(bJ l (m:Int)).1.1.toNat:Int)),(.slice A23 (bJ l (m:Int)).1.2.length c23)]) du aq) ?_
     rintro _ w205 ⟨cy,ba⟩
     replace aV:=aV.gr ba
     replace fU:=OwnT.gr fU ba (by first|exact .inl rfl|(right;intro e;first|(have:=jk _ e;omega)|exact OwnT.ne fU aq (by decide) e))
     replace hC:=hC.gr2 ba (fun x e=>by cases e;first|exact .inl rfl|(right;right;omega))
     replace dr:=Own.gr dr ba (by first|exact .inl rfl|(right;intro e;first|(have:=kL _ e;omega)|(have:=Own.lt dr e;omega)|exact aT dr aq (by decide) e))
     replace aq:=cy
     refine va ?_
     refine ag (ae (aE ?_))
     refine bm (rs:=[.cell 2 117,.tmp 3]) (vs:=[.agg #[(.int .u8 (↑(bJ l (m:Int)).1.1.toNat:Int)),(.slice A23 (bJ l (m:Int)).1.2.length c23)],(.int .i64 (↑(bJ l (m:Int)).2.2:Int))]) rfl ⟨⟨_,_,[(.int .u8 (↑(bJ l (m:Int)).1.1.toNat:Int)),(.slice A23 (bJ l (m:Int)).1.2.length c23)],rfl,bN,aq,rfl⟩,rfl,trivial⟩ ?_
     rw[AK (by omega)]
     exact⟨_,_,rfl,Own.mono dr (by omega),⟨_,_,FQ.symm,aV,fU,l5⟩,hC⟩
    ·refine aS (bb (ae (af (aa ?_))))
     iterate 2 refine vm ?_
     refine vn ?_
     refine ab (ah gG) ?_
     refine ab (ak dc aV) ?_
     refine vm ?_
     refine ar (qS cE (bJ l (m:Int)).2.1 rfl dH rfl rfl (by omega)) ?_
     rintro v _ ⟨rfl,A46,c46,rfl,fU,FQ⟩
     have jk:=fun g e=>OwnT.lt fU (g:=g) e
     refine vn ?_
     refine ab (ah gG) ?_
     refine aB (aU gV aV) ?_
     rintro _ w203 ⟨gy,df⟩
     replace fU:=OwnT.gr fU df (by first|exact .inl rfl|(right;intro e;first|(have:=jk _ e;omega)|exact OwnT.ne fU aV (by decide) e))
     replace hC:=hC.gr2 df (fun x e=>by cases e;first|exact .inl rfl|(right;right;omega))
     replace aq:=aq.gr df
     replace dr:=Own.gr dr df (by first|exact .inl rfl|(right;intro e;first|(have:=kL _ e;omega)|(have:=Own.lt dr e;omega)|exact aT dr aV (by decide) e))
     replace bu:=bu.gr df
     replace aV:=gy
     refine ag (ae (af (aa ?_)))
     refine ab (aK (cs:=[(.int .u8 (↑(bJ l (m:Int)).1.1.toNat:Int)),(.slice A23 (bJ l (m:Int)).1.2.length c23)]) bN bu) ?_
     refine vm ?_
     refine aB (aD (vs:=[(.int .u8 (↑(bJ l (m:Int)).1.1.toNat:Int)),(.slice A23 (bJ l (m:Int)).1.2.length c23)]) du aq) ?_
     rintro _ w204 ⟨dR,bM⟩
     replace aV:=aV.gr bM
     replace fU:=OwnT.gr fU bM (by first|exact .inl rfl|(right;intro e;first|(have:=jk _ e;omega)|exact OwnT.ne fU aq (by decide) e))
     replace hC:=hC.gr2 bM (fun x e=>by cases e;first|exact .inl rfl|(right;right;omega))
     replace dr:=Own.gr dr bM (by first|exact .inl rfl|(right;intro e;first|(have:=kL _ e;omega)|(have:=Own.lt dr e;omega)|exact aT dr aq (by decide) e))
     replace aq:=dR
     refine va ?_
     refine ag (ae (aE ?_))
     refine bm (rs:=[.cell 2 117,.tmp 3]) (vs:=[.agg #[(.int .u8 (↑(bJ l (m:Int)).1.1.toNat:Int)),(.slice A23 (bJ l (m:Int)).1.2.length c23)],(.int .i64 (↑(bJ l (m:Int)).2.2:Int))]) rfl ⟨⟨_,_,[(.int .u8 (↑(bJ l (m:Int)).1.1.toNat:Int)),(.slice A23 (bJ l (m:Int)).1.2.length c23)],rfl,bN,aq,rfl⟩,rfl,trivial⟩ ?_
     rw[u2]
     exact⟨_,_,rfl,Own.mono dr (by omega),⟨_,_,FQ.symm,aV,fU,l5⟩,hC⟩
end Go.Proofs.YtiighkbehiddkaaGreat
namespace Go.Proofs.YtiighkbehiddkaaGreat
open Go.RowKit
set_option linter.unusedVariables false
set_option maxRecDepth 4000
theorem Ji:jt Tryz.prog 120 5=true:=by kernel_rfl
theorem IZ:aX Tryz.prog 50=true:=by kernel_rfl
theorem zi:aX Tryz.prog 67=true:=by kernel_rfl
theorem YF:aX Tryz.prog 89=true:=by kernel_rfl
theorem AG:bB Tryz.prog 120 0=some 0:=by kernel_rfl
theorem jX:bB Tryz.prog 120 1=some 1:=by kernel_rfl
theorem kR:bB Tryz.prog 120 2=some 2:=by kernel_rfl
theorem OO:fj Tryz.prog 120=some [(0,1),(1,1),(2,1),(3,1),(4,1)]:=by kernel_rfl
theorem Ob:(Tryz.prog.info? 120).map (·.size)=some 5:=by kernel_rfl
theorem Jl:fV Tryz.prog 120=some (.agg #[(.int .i64 0),(.slice none 0 0),(.int .i64 0),(.int .u64 0),(.int .u64 0)]):=by kernel_rfl
/-- A buffer's cells. -/
abbrev Sk (m:Nat) (A:Option Addr) (c:Nat) (d:List UInt8) (k p t:Nat):List Value:=[.int .i64 (m:Int),.slice A d.length c,.int .i64 (k:Int),.int .u64 (p:Int),.int .u64 (t:Int)]
/-- The block g holds a buffer with the cap m and the bytes l; p were put in, t were taken; its bytes lie in the row D. -/
def Buf (w:World) (lo g:Nat) (D:Option Nat) (m:Nat) (l:List UInt8) (p t:Nat):Prop:=
 ∃A c d k,D=gI A∧Blk w g 120 (Sk m A c d k p t)∧OwnT w lo 5 A c d∧k+l.length=d.length∧d.drop k=l∧k≤m∧l.length≤m∧1≤m∧m≤1048576
theorem Buf.ext {w w':World} {lo g m p t:Nat} {D:Option Nat} {l:List UInt8} (h:Buf w lo g D m l p t) (he:Ext w w'):Buf w' lo g D m l p t:=by
 obtain⟨A,c,d,k,hD,hb,ho,r⟩:=h
 exact⟨A,c,d,k,hD,hb.ext he,ho.ext he,r⟩
theorem Buf.mono {w:World} {lo lo' g m p t:Nat} {D:Option Nat} {l:List UInt8} (h:Buf w lo g D m l p t) (hl:lo'≤lo):Buf w lo' g D m l p t:=by
 obtain⟨A,c,d,k,hD,hb,ho,r⟩:=h
 exact⟨A,c,d,k,hD,hb,ho.mono hl,r⟩
theorem Buf.lt {w:World} {lo g m p t:Nat} {D:Option Nat} {l:List UInt8} (h:Buf w lo g D m l p t):g<w.heap.size∧∀x,D=some x→lo≤x∧x<w.heap.size:=by
 obtain⟨A,c,d,k,rfl,hb,ho,r⟩:=h
 exact⟨hb.lt,fun x e=>ho.lt e⟩
theorem Buf.cap {w:World} {lo g m p t:Nat} {D:Option Nat} {l:List UInt8} (h:Buf w lo g D m l p t):l.length≤m∧1≤m∧m≤1048576:=by
 obtain⟨A,c,d,k,rfl,hb,ho,h1,h2,h3,h4,h5,h6⟩:=h
 exact⟨h4,h5,h6⟩
theorem Buf.ne {w:World} {lo g m p t:Nat} {D:Option Nat} {l:List UInt8} (h:Buf w lo g D m l p t):D≠some g:=by
 obtain⟨A,c,d,k,rfl,hb,ho,r⟩:=h
 exact ho.ne hb (by decide)
/-- Another object's step. -/
theorem Buf.ch {w w':World} {lo g m p t g2:Nat} {D D2:Option Nat} {l:List UInt8} (h:Buf w lo g D m l p t) (k:Ch g2 D2 w w') (h1:g≠g2) (h2:D2≠some g) (h3:D≠some g2) (h4:∀x,D=some x→D2≠some x):Buf w' lo g D m l p t:=by
 obtain⟨A,c,d,k',rfl,hb,ho,r⟩:=h
 exact⟨A,c,d,k',rfl,k.bk hb h1 h2,k.ownT ho (fun x e=>⟨fun e2=>h3 (e2▸e),h4 x e⟩),r⟩
theorem Buf.gr {w w':World} {lo g m p t:Nat} {D row:Option Nat} {l:List UInt8} (h:Buf w lo g D m l p t) (hg:Gr w w' row) (h1:∀x,row=some x→x≠g) (h2:∀x,row=some x→D≠some x):Buf w' lo g D m l p t:=by
 obtain⟨A,c,d,k',rfl,hb,ho,r⟩:=h
 exact⟨A,c,d,k',rfl,hb.gr hg (fun e=>h1 g e rfl),ho.same (fun x e=>hg.block x (ho.lt e).2 (fun e2=>h2 x e2.symm e)),r⟩
theorem Buf.kp {w w':World} {lo g m p t:Nat} {D:Option Nat} {l:List UInt8} {gs:List Nat} (h:Buf w lo g D m l p t) (hk:Kp gs w w') (h1:g∉gs) (h2:∀x,D=some x→x∉gs):Buf w' lo g D m l p t:=by
 obtain⟨A,c,d,k',rfl,hb,ho,r⟩:=h
 exact⟨A,c,d,k',rfl,hk.bk hb h1,hk.ownT ho h2,r⟩
/-- What Peek gives: the bytes, the error. -/
def dW (l:List UInt8) (n:Int):List UInt8×Nat:=if n<0 then([],2) else(l.take n.toNat,0)
theorem Jc {l:List UInt8} {n:Int} (h:n<0):dW l n=([],2):=by rw[dW,if_pos h]
theorem Nz {l:List UInt8} {n:Int} (h:¬n<0):dW l n=(l.take n.toNat,0):=by rw[dW,if_neg h]
theorem AS (l:List UInt8) (n:Int):(dW l n).1.length≤l.length:=by
 unfold dW
 split
 ·exact Nat.zero_le _
 ·simp;omega
theorem Jd (l:List UInt8) (n:Int):(dW l n).2=0∨((dW l n).2=2∧(dW l n).1=[]∧n<0):=by
 unfold dW
 split
 ·rename_i h;exact .inr ⟨rfl,rfl,h⟩
 ·exact .inl rfl
/-- What Skip leaves: the bytes, how many went, the error. -/
def nD (l:List UInt8) (n:Int):List UInt8×Nat×Nat:=if n<0 then(l,0,2) else if(l.length:Int)<n then(l,0,3) else(l.drop n.toNat,n.toNat,0)
theorem I9 {l:List UInt8} {n:Int} (h:n<0):nD l n=(l,0,2):=by rw[nD,if_pos h]
theorem Ja {l:List UInt8} {n:Int} (h:¬n<0) (h2:(l.length:Int)<n):nD l n=(l,0,3):=by rw[nD,if_neg h,if_pos h2]
theorem Ny {l:List UInt8} {n:Int} (h:¬n<0) (h2:¬(l.length:Int)<n):nD l n=(l.drop n.toNat,n.toNat,0):=by rw[nD,if_neg h,if_neg h2]
theorem qu {l:List UInt8} {j:Nat} (h:j≤l.length):nD l (j:Int)=(l.drop j,j,0):=by rw[Ny (by omega) (by omega),Int.toNat_natCast]
/-- What All leaves. -/
def vd (m:Nat) (l q:List UInt8):List UInt8×Nat×Nat:=if m - l.length<q.length then(l,0,7) else(l++q,q.length,0)
theorem xO {m:Nat} {l q:List UInt8} (h:m - l.length<q.length):vd m l q=(l,0,7):=by rw[vd,if_pos h]
theorem GC {m:Nat} {l q:List UInt8} (h:¬m - l.length<q.length):vd m l q=(l++q,q.length,0):=by rw[vd,if_neg h]
theorem Cz {d l q:List UInt8} {k:Nat} (h:d.drop k=l) (hk:k≤d.length):(d++q).drop k=l++q:=by rw[List.drop_append_of_le_length hk,h]
theorem Hh {d l:List UInt8} {k n:Nat} {hi:Int} (o5:d.drop k=l) (hk:k≤d.length) (hh:hi=(k:Int)+((min n l.length:Nat):Int)):(d.drop (k:Int).toNat).take (hi.toNat -(k:Int).toNat)=l.take n:=by
 have e:hi.toNat -(k:Int).toNat=min n l.length:=by omega
 rw[e,Int.toNat_natCast,o5]
 rcases Nat.le_total n l.length with h|h
 ·rw[Nat.min_eq_left h]
 ·rw[Nat.min_eq_right h,List.take_of_length_le (Nat.le_refl _),List.take_of_length_le h]
theorem kj (w:World) (g:Nat) (m:Nat) (A:Option Addr) (c:Nat) (d:List UInt8) (k p t:Nat) (hm:1≤m) (aV:Blk w g 120 (Sk m A c d k p t)):
  Fn Tryz.prog 67 #[(.pointer (some ⟨g,0,none⟩))] w (fun v w'=>v=.bool false∧w'=w):=by
 refine aO Tryz.func67 ?_
 refine af (aa ?_)
 refine va ?_
 refine ag (ae (af (aa ?_)))
 refine vm ?_
 refine ab (dO Tryz.underlying54) ?_
 refine vm ?_
 refine aj (aF) ?_
 refine aj (bD) ?_
 refine aj (ah AG) ?_
 refine aj (ak gg aV) ?_
 refine aj (cI) ?_
 refine aN (d:=10) rfl (bf (by omega)) ?_
 refine ab (ap) ?_
 refine va ?_
 refine ag (ae (aE ?_))
 refine aY ?_
 exact⟨rfl,rfl⟩
theorem qv (w:World) (lo g:Nat) (D:Option Nat) (m:Nat) (l:List UInt8) (p t:Nat) (mH:Buf w lo g D m l p t):
  Fn Tryz.prog 50 #[(.pointer (some ⟨g,0,none⟩))] w (fun v w'=>v=.int .i64 (l.length:Int)∧Ext w w'):=by
 obtain⟨A,c,d,k,rfl,aV,dH,gS,o5,qo,si,nf,l5⟩:=mH
 have jE:=dH.2.1
 simp only[maxLen] at jE
 have hE:=aP w
 refine aO Tryz.func50 ?_
 refine af (aa ?_)
 refine va ?_
 refine ag (ae (af (af (aa ?_))))
 refine vm ?_
 refine ab (aw zi (kj _ _ _ _ _ _ _ _ _ nf aV)) ?_
 refine ag (ae ?_)
 refine aC ?_
 refine aS (ae (af ?_))
 refine cC ej 9 [(5,a0 (.pointer (some ⟨g,0,none⟩))),(6,a0 (.pointer (some ⟨g,0,none⟩))),(7,a0 (.pointer (some ⟨g,1,none⟩))),(8,a0 (.slice A d.length c)),(9,a0 (.int .i64 (↑d.length:Int))),(10,a0 (.pointer (some ⟨g,0,none⟩))),(11,a0 (.pointer (some ⟨g,0,none⟩))),(12,a0 (.pointer (some ⟨g,2,none⟩))),(13,a0 (.int .i64 (↑k:Int)))] [[],[0],[1],[2],[3],[],[5],[6],[7]] _ [] [] (fun _ _ h=>h) trivial (by kernel_rfl) rfl ?_ ?_
 ·repeat' apply And.intro
  all_goals first|exact trivial|(intro wd bW;replace aV:=aV.ext bW;(repeat rintro _ rfl))
  exact am (ax (aF))
  exact am (ax (bD))
  exact am (ax (ah jX))
  exact am (ax (ak dc aV))
  exact am (ax (bj Tryz.underlying32))
  exact am (ax (aF))
  exact am (ax (bD))
  exact am (ax (ah kR))
  exact am (ax (ak gg aV))
 ·intro wf3 B7
  replace hE:=hE.tr B7
  iterate 9 rintro _ rfl
  refine ab (jx) ?_
  refine va ?_
  refine ag (ae (aE ?_))
  refine aY ?_
  exact⟨by congr 1;omega,hE⟩
theorem Jf (w:World) (lo g:Nat) (D:Option Nat) (m:Nat) (l:List UInt8) (p t:Nat) (mH:Buf w lo g D m l p t):
  Fn Tryz.prog 89 #[(.pointer (some ⟨g,0,none⟩))] w (fun v w'=>v=.int .i64 (m:Int)∧Ext w w'):=by
 obtain⟨A,c,d,k,rfl,aV,dH,gS,o5,qo,si,nf,l5⟩:=mH
 have jE:=dH.2.1
 simp only[maxLen] at jE
 have hE:=aP w
 refine aO Tryz.func89 ?_
 refine af (aa ?_)
 refine va ?_
 refine ag (ae (af (af (aa ?_))))
 refine vm ?_
 refine ab (aw zi (kj _ _ _ _ _ _ _ _ _ nf aV)) ?_
 refine ag (ae ?_)
 refine aC ?_
 refine aS (ae (af (aa ?_)))
 refine vm ?_
 refine vn ?_
 refine ab (ah AG) ?_
 refine ab (ak gg aV) ?_
 refine va ?_
 refine ag (ae (aE ?_))
 refine aY ?_
 exact⟨rfl,hE⟩
theorem xN (w:World) (lo g:Nat) (D:Option Nat) (m:Nat) (l:List UInt8) (p t:Nat) (mH:Buf w lo g D m l p t):
  Fn Tryz.prog 68 #[(.pointer (some ⟨g,0,none⟩))] w (fun v w'=>v=.int .i64 ((m - l.length:Nat):Int)∧Ext w w'):=by
 obtain⟨A,c,d,k,rfl,aV,dH,gS,o5,qo,si,nf,l5⟩:=mH
 have jE:=dH.2.1
 simp only[maxLen] at jE
 have hE:=aP w
 refine aO Tryz.func68 ?_
 refine af (aa ?_)
 refine va ?_
 refine ag (ae (af (aa ?_)))
 refine vm ?_
 refine ar (aw YF (Jf _ _ _ _ _ _ _ _ ⟨_,_,_,_,rfl,aV,dH,gS,o5,qo,si,nf,l5⟩)) ?_
 rintro v w1 ⟨rfl,eM⟩
 replace aV:=aV.ext eM
 replace dH:=OwnT.ext dH eM
 replace hE:=hE.tr eM
 refine vm ?_
 refine ar (aw IZ (qv _ _ _ _ _ _ _ _ ⟨_,_,_,_,rfl,aV,dH,gS,o5,qo,si,nf,l5⟩)) ?_
 rintro v w2 ⟨rfl,lm⟩
 replace hE:=hE.tr lm
 refine ab (jx) ?_
 refine va ?_
 refine ag (ae (aE ?_))
 refine aY ?_
 exact⟨by congr 1;omega,hE⟩
theorem Je (w:World) (m:Nat) (h1:1≤m) (h2:m≤1048576):
  Fn Tryz.prog 33 #[(.int .i64 (↑m:Int))] w (fun v w'=>∃g,v=.tuple #[.pointer (some ⟨g,0,none⟩),.int .i64 0]∧Buf w' w.heap.size g none m [] 0 0∧Ext w w'∧w.heap.size≤g):=by
 have hE:=aP w
 refine aO Tryz.func33 ?_
 refine af (aa ?_)
 iterate 2 refine va ?_
 refine ag (ae (af (af (aa ?_))))
 refine vm ?_
 refine ab (bz) ?_
 refine aN (d:=5) rfl (bf (by omega)) ?_
 refine vm ?_
 refine aj (aF) ?_
 refine aj (bw) ?_
 refine aN (d:=8) rfl (bf (by omega)) ?_
 refine ab (ap) ?_
 refine ag (ae ?_)
 refine aC ?_
 refine aS (ae (af (aa ?_)))
 refine vm ?_
 refine ab (bi Jl OO) ?_
 refine ar (bU) ?_
 rintro v w1 ⟨g12,rfl,ix,eK,LO,Pk⟩
 replace hE:=hE.tr eK
 iterate 2 refine va ?_
 refine ag (ae (aE ?_))
 refine cX ?_
 exact⟨g12,rfl,⟨none,0,[],0,rfl,ix,OwnT.nil_ _ _ _,rfl,rfl,by omega,by simp,h1,h2⟩,hE,by omega⟩
theorem GB (w:World) (lo g:Nat) (D:Option Nat) (m:Nat) (l:List UInt8) (p t:Nat) (mH:Buf w lo g D m l p t):
  Fn Tryz.prog 56 #[(.pointer (some ⟨g,0,none⟩))] w (fun v w'=>∃g' D',v=.pointer (some ⟨g',0,none⟩)∧Buf w' w.heap.size g' D' m l p t∧Ext w w'∧w.heap.size≤g'∧∀x,D'=some x→w.heap.size≤x):=by
 obtain⟨A,c,d,k,rfl,aV,dH,gS,o5,qo,si,nf,l5⟩:=mH
 have lH:=fun g e=>OwnT.lt dH (g:=g) e
 have Ih:=aV.lt
 have jE:=dH.2.1
 simp only[maxLen] at jE
 have hE:=aP w
 refine aO Tryz.func56 ?_
 refine af (aa ?_)
 refine va ?_
 refine ag (ae (af (af (aa ?_))))
 refine vm ?_
 refine ab (aw zi (kj _ _ _ _ _ _ _ _ _ nf aV)) ?_
 refine ag (ae ?_)
 refine aC ?_
 refine aS (ae (af (aa ?_)))
 refine vm ?_
 refine vn ?_
 refine ab (aK (cs:=[(.int .i64 (↑m:Int)),(.slice A d.length c),(.int .i64 (↑k:Int)),(.int .u64 (↑p:Int)),(.int .u64 (↑t:Int))]) Ji aV) ?_
 refine ar (bc Jl) ?_
 rintro v w1 ⟨g3,rfl,aM,d7,sy,su⟩
 replace aV:=aV.ext d7
 replace dH:=OwnT.ext dH d7
 replace hE:=hE.tr d7
 refine aB (aD (vs:=[(.int .i64 (↑m:Int)),(.slice A d.length c),(.int .i64 (↑k:Int)),(.int .u64 (↑p:Int)),(.int .u64 (↑t:Int))]) Ob aM) ?_
 rintro _ w2 ⟨gY,dt⟩
 have nO:=dt.size
 replace aV:=aV.gr dt
 replace dH:=OwnT.gr dH dt (by first|exact .inl rfl|(right;intro e;first|(have:=lH _ e;omega)|exact OwnT.ne dH aM (by decide) e))
 replace hE:=hE.gr dt
 replace aM:=gY
 refine ag (ae (af (aa ?_)))
 refine vm ?_
 refine vn ?_
 refine ab (ah jX) ?_
 refine ab (ak dc aV) ?_
 refine ar (aw CI (hY _ _ _ _ _ _ (OwnT.rd dH))) ?_
 rintro v w3 ⟨A13,c13,rfl,up,ik⟩
 replace hE:=hE.tr ik
 replace aM:=aM.ext ik
 have HX:=fun g e=>Own.lt up (g:=g) e
 refine ab (ah jX) ?_
 refine aB (aU gV aM) ?_
 rintro _ w4 ⟨gT,cQ⟩
 replace hE:=hE.gr cQ
 replace up:=Own.gr up cQ (by first|exact .inl rfl|(right;intro e;first|(have:=HX _ e;omega)|(have:=Own.lt up e;omega)|exact aT up aM (by decide) e))
 replace aM:=gT
 refine ag (ae (af (aa ?_)))
 refine va ?_
 refine ag (ae (aE ?_))
 refine aY ?_
 exact⟨_,_,rfl,⟨A13,c13,d,k,rfl,aM,(OwnT.of up).mono (by omega),gS,o5,qo,si,nf,l5⟩,hE,by omega,fun x e=>by have:=Own.lt up e;omega⟩
theorem Gy (w:World) (lo g:Nat) (D:Option Nat) (m:Nat) (l:List UInt8) (p t:Nat) (mH:Buf w lo g D m l p t) (n:Int) (BU:-9223372036854775808≤n) (hn:n≤9223372036854775807):
  Fn Tryz.prog 72 #[(.pointer (some ⟨g,0,none⟩)),(.int .i64 n)] w (fun v w'=>∃B c2,v=.tuple #[.slice B (dW l n).1.length c2,.int .i64 ((dW l n).2:Int)]∧OwnB w' w.heap.size 5 B c2 (dW l n).1∧Ext w w'):=by
 obtain⟨A,c,d,k,rfl,aV,dH,gS,o5,qo,si,nf,l5⟩:=mH
 have QW:=dH.1
 have jE:=dH.2.1
 simp only[maxLen] at jE
 have hE:=aP w
 refine aO Tryz.func72 ?_
 refine af (aa ?_)
 iterate 2 refine va ?_
 refine ag (ae (af (a9 (af (aa ?_)))))
 refine vm ?_
 refine ab (aw zi (kj _ _ _ _ _ _ _ _ _ nf aV)) ?_
 refine va ?_
 refine ag (ae ?_)
 refine aC ?_
 refine af (aa ?_)
 refine vm ?_
 refine ab (bz) ?_
 refine aG (d:=12) (fun LK=>?_) (fun LK=>?_)
 ·refine va ?_
  refine ag (ae ?_)
  refine aR ?_
  refine af (aa ?_)
  iterate 2 refine va ?_
  refine ag (ae (aE (aQ (az ?_))))
  refine cX ?_
  rw[Jc LK]
  exact⟨none,0,rfl,Own.nil_ _ _ _ _,hE⟩
 ·refine va ?_
  refine ag (ae ?_)
  refine aC ?_
  refine aS (bb (ae (af (aa ?_))))
  iterate 2 refine vm ?_
  refine ar (aw IZ (qv _ _ _ _ _ _ _ _ ⟨_,_,_,_,rfl,aV,dH,gS,o5,qo,si,nf,l5⟩)) ?_
  rintro v w201 ⟨rfl,jm⟩
  replace aV:=aV.ext jm
  replace dH:=OwnT.ext dH jm
  replace hE:=hE.tr jm
  have qi:=jm.size
  refine ab (qQ rfl rfl (m:=((min n.toNat l.length:Nat):Int)) (by omega)) ?_
  refine va ?_
  refine ag (ae (af ?_))
  refine cC ej 14 [(17,a0 (.pointer (some ⟨g,0,none⟩))),(18,a0 (.pointer (some ⟨g,0,none⟩))),(19,a0 (.pointer (some ⟨g,1,none⟩))),(20,a0 (.slice A d.length c)),(21,a0 (.pointer (some ⟨g,0,none⟩))),(22,a0 (.pointer (some ⟨g,0,none⟩))),(23,a0 (.pointer (some ⟨g,2,none⟩))),(24,a0 (.int .i64 (↑k:Int))),(25,a0 (.pointer (some ⟨g,0,none⟩))),(26,a0 (.pointer (some ⟨g,0,none⟩))),(27,a0 (.pointer (some ⟨g,2,none⟩))),(28,a0 (.int .i64 (↑k:Int))),(29,a0 (.int .i64 ((min n.toNat l.length:Nat):Int))),(30,a0 (.int .i64 ((↑k:Int)+((min n.toNat l.length:Nat):Int))))] [[],[0],[1],[2],[],[4],[5],[6],[],[8],[9],[10],[],[11,12]] _ [] [] (fun _ _ h=>h) trivial (by kernel_rfl) rfl ?_ ?_
  ·repeat' apply And.intro
   all_goals first|exact trivial|(intro wd bW;replace aV:=aV.ext bW;(repeat rintro _ rfl))
   exact am (ax (aF))
   exact am (ax (bD))
   exact am (ax (ah jX))
   exact am (ax (ak dc aV))
   exact am (ax (aF))
   exact am (ax (bD))
   exact am (ax (ah kR))
   exact am (ax (ak gg aV))
   exact am (ax (aF))
   exact am (ax (bD))
   exact am (ax (ah kR))
   exact am (ax (ak gg aV))
   exact am (ax (aF))
   exact am (ax (bH))
  ·intro wf6 nz
   replace dH:=OwnT.ext dH nz
   replace hE:=hE.tr nz
   have KI:=nz.size
   iterate 14 rintro _ rfl
   refine ar (dP cE (OwnT.rd dH) (lq rfl rfl (by omega) (by omega) (by omega))) ?_
   rintro v _ ⟨rfl,A31,c31,rfl,nS,Qv⟩
   have Ll:(d.drop (Int.toNat (↑k:Int))).take ((Int.toNat ((↑k:Int)+((min n.toNat l.length:Nat):Int))) -(Int.toNat (↑k:Int)))=(l.take n.toNat):=(Hh o5 (by omega) rfl)
   rw[Ll] at nS Qv;rw[Ll];clear Ll
   refine ar (aw CI (hY _ _ _ _ _ _ nS)) ?_
   rintro v w202 ⟨A32,c32,rfl,nY,uB⟩
   replace hE:=hE.tr uB
   iterate 2 refine va ?_
   refine ag (ae (aE ?_))
   refine cX ?_
   rw[Nz LK]
   exact⟨A32,c32,rfl,Own.mono nY (by omega),hE⟩
end Go.Proofs.YtiighkbehiddkaaGreat
namespace Go.Proofs.YtiighkbehiddkaaGreat
open Go.RowKit
set_option linter.unusedVariables false
set_option maxRecDepth 4000
theorem RP:aX Tryz.prog 68=true:=by kernel_rfl
theorem YO:aX Tryz.prog 69=true:=by kernel_rfl
theorem YN:aX Tryz.prog 72=true:=by kernel_rfl
theorem YM:aX Tryz.prog 73=true:=by kernel_rfl
theorem YE:aX Tryz.prog 90=true:=by kernel_rfl
theorem AF:bB Tryz.prog 120 3=some 3:=by kernel_rfl
theorem AE:bB Tryz.prog 120 4=some 4:=by kernel_rfl
theorem zf (w:World) (lo:Nat) (A:Option Addr) (c:Nat) (d:List UInt8) (k:Nat) (dH:OwnT w lo 5 A c d) (hk:k≤d.length) (kn:lo≤w.heap.size) (bI:d.length≤140737488355328):
  Fn Tryz.prog 90 #[(.slice A d.length c),(.int .i64 0),(.int .i64 (↑k:Int))] w (fun v w'=>v=.slice A (d.drop k).length c∧OwnT w' lo 5 A c (d.drop k)∧Gr w w' (gI A)):=by
 have hG:=(aP w).row (gI A)
 have QW:=dH.1
 have jE:=dH.2.1
 simp only[maxLen] at jE
 refine aO (args:=[(.slice A d.length c),(.int .i64 0),(.int .i64 (↑k:Int))]) Tryz.func90 ?_
 refine af (aa ?_)
 refine va ?_
 refine ag (ae (af (aa ?_)))
 iterate 4 refine vm ?_
 refine ab (bj Tryz.underlying32) ?_
 refine ab (oy cE rfl (r8 rfl rfl rfl (by omega) (by omega) (by omega) (by omega))) ?_
 refine ag (ae (af (af (aa ?_))))
 iterate 2 refine vm ?_
 refine ve ?_
 refine aG (d:=16) (fun h0=>?_) (fun h0=>?_)
 ·refine ag (ae ?_)
  refine aR ?_
  refine af (aa ?_)
  refine vm ?_
  refine va ?_
  refine ag (ae (aE (az ?_)))
  refine aY ?_
  have CY:k=0:=by omega
  subst CY
  exact⟨rfl,dH,(aP w).row _⟩
 ·refine ag (ae ?_)
  refine aC ?_
  refine aS (ae (af (aa ?_)))
  refine vm ?_
  refine ab (bj Tryz.underlying32) ?_
  refine va ?_
  refine ag (ae (af ?_))
  refine cC ej 6 [(20,a0 (.slice A d.length c)),(21,a0 (.int .i64 0)),(22,a0 (.slice A (d.take 0).length c)),(23,a0 (.slice A d.length c)),(24,a0 (.int .i64 (↑k:Int))),(25,O5 0 (d.drop k))] [[],[],[0,1],[],[],[3,4]] _ [] [] (fun _ _ h=>h) trivial (by kernel_rfl) rfl ?_ ?_
  ·repeat' apply And.intro
   all_goals first|exact trivial|(intro wd bW;replace dH:=OwnT.ext dH bW;(repeat rintro _ rfl))
   iterate 2 exact am (ax (aF))
   exact am (ax (DJ cE 0 rfl dH rfl rfl (by omega)))
   iterate 2 exact am (ax (aF))
   ·refine am (OpRun.mono (dP cE (OwnT.rd dH) (iC rfl (by omega) (by omega))) ?_)
    rintro v _ ⟨rfl,A25,c25,rfl,iQ,Qx⟩
    have Ln:(d.drop (Int.toNat (↑k:Int))).take (d.length -(Int.toNat (↑k:Int)))=(d.drop k):=(by rw[Int.toNat_natCast,List.take_of_length_le (by simp)])
    rw[Ln] at iQ Qx;rw[Ln];clear Ln
    exact⟨⟨A25,c25,rfl,(Rd.top iQ).mono (Nat.zero_le _) (Nat.le_refl _)⟩,aP _⟩
  ·intro wf5 px
   replace dH:=OwnT.ext dH px
   replace hG:=hG.gr px (fun _ e=>by cases e)
   have D7:=px.size
   iterate 5 rintro _ rfl
   rintro _ ⟨A25,c25,rfl,iQ⟩
   refine ar (nM cE rfl (dH.take 0) rfl iQ (by simp;omega)) ?_
   rintro v w201 ⟨A26,c26,rfl,Jt,Wm,_,tc⟩
   obtain⟨Yg,E8⟩:=tc (by simp;omega)
   subst Yg E8
   simp only[List.take_zero,List.nil_append] at Jt
   replace hG:=hG.gr Wm (fun x e=>.inl e)
   refine aN (d:=26) rfl (v':=.slice A26 (d.drop k).length c26) (by simp) ?_
   refine va ?_
   refine ag (ae (af (aa ?_)))
   iterate 2 refine vm ?_
   refine ab (bj Tryz.underlying32) ?_
   refine vm ?_
   refine ab (oy cE rfl (fun ρ hρ=>(lq rfl rfl (by omega) (by simp only[List.length_drop];omega) (by omega) ρ hρ).trans (by rw[Int.toNat_natCast,Int.toNat_natCast]))) ?_
   refine aN (d:=31) rfl (v':=.slice (if c26=(d.drop k).length then A26 else A26.map (·.add ((d.drop k).length*1))) k (c26 -(d.drop k).length)) (by rw[show d.length -(d.drop k).length=k by simp only[List.length_drop];omega]) ?_
   refine aB (BA cE rfl Jt (Nat.le_refl _) (by omega) (by simp only[List.length_drop];omega)) ?_
   rintro _ w202 ⟨Qb,Wi⟩
   refine ag (ae (af (aa ?_)))
   refine vm ?_
   refine va ?_
   refine ag (ae (aE ?_))
   refine aY ?_
   exact⟨rfl,Qb,hG.gr Wi (fun x e=>.inl e)⟩
theorem Jb (w:World) (lo g:Nat) (D:Option Nat) (m:Nat) (l:List UInt8) (p t:Nat) (mH:Buf w lo g D m l p t) (lo2 eO:Nat) (B:Option Addr) (c2:Nat) (q:List UInt8) (kJ:RdB w lo2 eO B c2 q) (Wh:g<lo2∨eO≤g) (Tx:∀x,D=some x→x<lo2∨eO≤x) (hp:p≤4611686018427387904) (kn:lo≤w.heap.size):
  Fn Tryz.prog 69 #[(.pointer (some ⟨g,0,none⟩)),(.slice B q.length c2)] w (fun v w'=>v=.tuple #[.int .i64 ((min q.length (m - l.length):Nat):Int),.int .i64 0]∧(∃D',Buf w' lo g D' m (l++(q.take (min q.length (m - l.length)))) (p+min q.length (m - l.length)) t∧Nx w D D')∧Ch g D w w'):=by
 obtain⟨A,c,d,k,rfl,aV,dH,gS,o5,qo,si,nf,l5⟩:=mH
 have QW:=dH.1
 have jE:=dH.2.1
 simp only[maxLen] at jE
 have hC:=Ch.refl g (gI A) w
 refine aO Tryz.func69 ?_
 refine af (aa ?_)
 iterate 2 refine va ?_
 refine ag (ae (af (af (aa ?_))))
 refine vm ?_
 refine ab (aw zi (kj _ _ _ _ _ _ _ _ _ nf aV)) ?_
 refine ag (ae ?_)
 refine aC ?_
 refine aS (ae (af (aa ?_)))
 refine vm ?_
 refine ab (bj Tryz.underlying32) ?_
 refine vm ?_
 refine ar (aw RP (xN _ _ _ _ _ _ _ _ ⟨_,_,_,_,rfl,aV,dH,gS,o5,qo,si,nf,l5⟩)) ?_
 rintro v w1 ⟨rfl,eK⟩
 replace aV:=aV.ext eK
 replace dH:=OwnT.ext dH eK
 replace kJ:=kJ.ext eK
 replace hC:=hC.ext eK
 have na:=eK.size
 refine ab (qQ rfl rfl (m:=((min q.length (m - l.length):Nat):Int)) (by omega)) ?_
 refine va ?_
 refine ag (ae (af ?_))
 refine eH ?_
 intro w2 xX
 replace aV:=aV.ext xX
 replace dH:=OwnT.ext dH xX
 replace kJ:=kJ.ext xX
 replace hC:=hC.ext xX
 have D0:=xX.size
 refine fh (sQ ((fun a b=>Gr a b (gI A)))) (oR ((fun _ _ h=>Ext.row h _))) (oQ ((fun _ _ _ h k=>Gr.gr h k (fun g e=>.inl e)))) (oP ((fun _ _ h=>Ext.row h _)) ((fun _ _ _ h k=>Gr.gr h k (fun g e=>.inl e)))) 0 9 [(14,a0 (.pointer (some ⟨g,0,none⟩))),(15,a0 (.pointer (some ⟨g,0,none⟩))),(16,a0 (.pointer (some ⟨g,0,none⟩))),(17,a0 (.pointer (some ⟨g,1,none⟩))),(18,a0 (.slice A d.length c)),(19,a0 (.slice B q.length c2)),(20,a0 (.int .i64 ((min q.length (m - l.length):Nat):Int))),(21,O5 0 (q.take (min q.length (m - l.length)))),(22,(fun v w'=>∃A22 c22,v=.slice A22 (d++(q.take (min q.length (m - l.length)))).length c22∧OwnT w' lo 5 A22 c22 (d++(q.take (min q.length (m - l.length))))∧Nx w (gI A) (gI A22)))] [[],[],[1],[2],[3],[],[],[5,6],[4,7]] [[0],[0],[0],[0],[0],[0],[0],[],[]] [[0],[0],[0],[0],[0],[0],[0],[0],[]] [none,none,none,none,none,none,none,none,some 0] [true,true,true,true,true,true,true,false,true] [0] _ [] [] ⟨sA,sA,sA,sA,sA,sA,sA,iF (tI _ _),iF ((fun v w w' ⟨A,c,hv,ho,hN⟩ he=>⟨A,c,hv,OwnT.ext ho he,hN⟩)),trivial⟩ ?_ ?_
 ·repeat' apply And.intro
  any_goals exact trivial
  all_goals intro wd bW
  iterate 2 exact am (ax (aF))
  ·rintro _ rfl
   exact am (ax (bD))
  ·rintro _ rfl
   exact am (ax (ah jX))
  ·have uq:=OwnT.ne dH aV (by decide)
   replace aV:=aV.gr bW uq
   rintro _ rfl
   show eV _ _ _ _ _ _
   exact am (ax (ak dc aV))
  iterate 2 exact am (ax (aF))
  ·replace kJ:=kJ.gr bW (fun x e=>Tx x e)
   iterate 2 rintro _ rfl
   show eV _ _ _ _ _ _
   have WM:=RdB.cap kJ
   refine am (OpRun.mono (dP cE kJ (mV rfl (by omega) (by omega))) ?_)
   rintro v _ ⟨rfl,A21,c21,rfl,HO,VU⟩
   have Lp:(q.drop 0).take ((Int.toNat ((min q.length (m - l.length):Nat):Int)) - 0)=(q.take (min q.length (m - l.length))):=(by rw[List.drop_zero,Nat.sub_zero,Int.toNat_natCast])
   rw[Lp] at HO VU;rw[Lp];clear Lp
   exact⟨⟨A21,c21,rfl,(Rd.top HO).mono (Nat.zero_le _) (Nat.le_refl _)⟩,aP _⟩
  ·replace dH:=OwnT.ext dH bW
   have dK:=bW.size
   rintro _ rfl
   rintro _ ⟨A21,c21,rfl,HO⟩
   show eV _ _ _ _ _ _
   refine am (OpRun.mono (nM cE rfl dH rfl HO (by simp;omega)) ?_)
   rintro v w3 ⟨A22,c22,rfl,oL,LW,uR,_⟩
   exact⟨⟨A22,c22,rfl,oL,uR.mono (by omega)⟩,LW⟩
 ·intro wf4 ll
  have uq:=OwnT.ne dH aV (by decide)
  replace aV:=aV.gr ll uq
  replace hC:=hC.tr (Ch.of_row ll) (fun x e=>.inl e)
  iterate 7 rintro _ rfl
  intro v21
  rintro _ ⟨A22,c22,rfl,oL,uR⟩
  refine fE ?_
  refine vn ?_
  refine ab (ah jX) ?_
  refine aB (aU gV aV) ?_
  rintro _ w3 ⟨rL,lu⟩
  replace hC:=hC.gr2 lu (fun x e=>by cases e;first|exact .inl rfl|(right;right;omega))
  replace oL:=OwnT.gr oL lu (by first|exact .inl rfl|(right;intro e;first|(have:=hq_hot22 _ e;omega)|exact OwnT.ne oL aV (by decide) e))
  replace aV:=rL
  refine ag (ae (af (aa ?_)))
  refine vm ?_
  refine vn ?_
  refine ab (ah AF) ?_
  refine ab (ak ft aV) ?_
  refine vm ?_
  refine ab (bv Tryz.underlying3 Tryz.underlying36) ?_
  refine ab (bH (hm:=sl)) ?_
  refine vn ?_
  refine ab (ah AF) ?_
  refine aB (aU mi aV) ?_
  rintro _ w4 ⟨gT,cQ⟩
  replace hC:=hC.gr2 cQ (fun x e=>by cases e;first|exact .inl rfl|(right;right;omega))
  replace oL:=OwnT.gr oL cQ (by first|exact .inl rfl|(right;intro e;first|(have:=hq_hot22 _ e;omega)|exact OwnT.ne oL aV (by decide) e))
  replace aV:=gT
  refine ag (ae (af (aa ?_)))
  refine vm ?_
  iterate 2 refine va ?_
  refine ag (ae (aE ?_))
  refine cX ?_
  exact⟨rfl,⟨_,⟨_,_,_,k,rfl,aV,oL,by simp;omega,Cz o5 (by omega),by omega,by simp;omega,nf,l5⟩,uR⟩,hC⟩
theorem zn (w:World) (lo g:Nat) (D:Option Nat) (m:Nat) (l:List UInt8) (p t:Nat) (mH:Buf w lo g D m l p t) (lo2 eO:Nat) (B:Option Addr) (c2:Nat) (q:List UInt8) (kJ:RdB w lo2 eO B c2 q) (Wh:g<lo2∨eO≤g) (Tx:∀x,D=some x→x<lo2∨eO≤x) (hp:p≤4611686018427387904) (kn:lo≤w.heap.size):
  Fn Tryz.prog 44 #[(.pointer (some ⟨g,0,none⟩)),(.slice B q.length c2)] w (fun v w'=>v=.int .i64 ((vd m l q).2.2:Int)∧(∃D',Buf w' lo g D' m (vd m l q).1 (p+(vd m l q).2.1) t∧Nx w D D')∧Ch g D w w'):=by
 obtain⟨A,c,d,k,rfl,aV,dH,gS,o5,qo,si,nf,l5⟩:=mH
 have jE:=dH.2.1
 simp only[maxLen] at jE
 have hC:=Ch.refl g (gI A) w
 refine aO Tryz.func44 ?_
 refine af (aa ?_)
 refine va ?_
 refine ag (ae (af (af (aa ?_))))
 refine vm ?_
 refine ab (aw zi (kj _ _ _ _ _ _ _ _ _ nf aV)) ?_
 refine ag (ae ?_)
 refine aC ?_
 refine aS (ae (af (af (aa ?_))))
 refine vm ?_
 refine ab (bj Tryz.underlying32) ?_
 refine vm ?_
 refine ar (aw RP (xN _ _ _ _ _ _ _ _ ⟨_,_,_,_,rfl,aV,dH,gS,o5,qo,si,nf,l5⟩)) ?_
 rintro v w1 ⟨rfl,eK⟩
 replace aV:=aV.ext eK
 replace dH:=OwnT.ext dH eK
 replace kJ:=kJ.ext eK
 replace hC:=hC.ext eK
 have na:=eK.size
 refine ab (bw) ?_
 refine ag (ae ?_)
 refine aL (fun eN=>?_) (fun eN=>?_)
 ·refine af (aa ?_)
  refine va ?_
  refine ag (ae (aE (az ?_)))
  refine aY ?_
  rw[xO (by omega)]
  exact⟨rfl,⟨_,⟨_,_,_,_,rfl,aV,dH,gS,o5,qo,si,nf,l5⟩,Nx.refl _ _⟩,hC⟩
 ·refine aS (ae (af (aa ?_)))
  iterate 2 refine vm ?_
  refine ar (aw YO (Jb _ lo g (gI A) m l p t ⟨_,_,_,_,rfl,aV,dH,gS,o5,qo,si,nf,l5⟩ _ _ _ _ q kJ Wh Tx hp (by omega))) ?_
  rintro v w202 ⟨rfl,⟨D17,Fh,MU⟩,Ye⟩
  refine vm ?_
  iterate 2 refine vx ?_
  iterate 2 refine va ?_
  refine ag (ae (af (aa ?_)))
  refine vm ?_
  refine va ?_
  refine ag (ae (aE ?_))
  refine aY ?_
  rw[GC (by omega)]
  rw[Nat.min_eq_left (by omega),List.take_of_length_le (Nat.le_refl _)] at Fh
  exact⟨rfl,⟨_,Fh,MU.mono (by omega)⟩,hC.tr Ye (fun x e=>.inl e)⟩
theorem CL (w:World) (lo g:Nat) (D:Option Nat) (m:Nat) (l:List UInt8) (p t:Nat) (mH:Buf w lo g D m l p t) (n:Int) (BU:-9223372036854775808≤n) (hn:n≤9223372036854775807) (ht:t≤4611686018427387904) (kn:lo≤w.heap.size):
  Fn Tryz.prog 73 #[(.pointer (some ⟨g,0,none⟩)),(.int .i64 n)] w (fun v w'=>v=.int .i64 ((nD l n).2.2:Int)∧Buf w' lo g D m (nD l n).1 p (t+(nD l n).2.1)∧Ch g D w w'):=by
 obtain⟨A,c,d,k,rfl,aV,dH,gS,o5,qo,si,nf,l5⟩:=mH
 have lH:=fun g e=>OwnT.lt dH (g:=g) e
 have QW:=dH.1
 have jE:=dH.2.1
 simp only[maxLen] at jE
 have hC:=Ch.refl g (gI A) w
 refine aO Tryz.func73 ?_
 refine af (aa ?_)
 refine va ?_
 refine ag (ae (af (a9 (af (aa ?_)))))
 refine vm ?_
 refine ab (aw zi (kj _ _ _ _ _ _ _ _ _ nf aV)) ?_
 refine va ?_
 refine ag (ae ?_)
 refine aC ?_
 refine af (aa ?_)
 refine vm ?_
 refine ab (bz) ?_
 refine va ?_
 refine ag (ae ?_)
 refine aL (fun eN=>?_) (fun eN=>?_)
 ·refine af (aa ?_)
  refine va ?_
  refine ag (ae (aE (aQ (az ?_))))
  refine aY ?_
  rw[I9 eN]
  exact⟨rfl,⟨_,_,_,_,rfl,aV,dH,gS,o5,qo,si,nf,l5⟩,hC⟩
 ·refine af (aa ?_)
  iterate 2 refine vm ?_
  refine ar (aw IZ (qv _ _ _ _ _ _ _ _ ⟨_,_,_,_,rfl,aV,dH,gS,o5,qo,si,nf,l5⟩)) ?_
  rintro v w201 ⟨rfl,jV⟩
  replace aV:=aV.ext jV
  replace dH:=OwnT.ext dH jV
  replace hC:=hC.ext jV
  have z7:=jV.size
  refine ab (bw) ?_
  refine va ?_
  refine ag (ae ?_)
  refine aL (fun e9=>?_) (fun e9=>?_)
  ·refine af (aa ?_)
   refine va ?_
   refine ag (ae (aE (aQ (az ?_))))
   refine aY ?_
   rw[Ja eN e9]
   exact⟨rfl,⟨_,_,_,_,rfl,aV,dH,gS,o5,qo,si,nf,l5⟩,hC⟩
  ·obtain⟨j,rfl⟩:∃j:Nat,n=(j:Int):=⟨n.toNat,by omega⟩
   refine aS (bb (ae (af (aa ?_))))
   refine vm ?_
   refine vn ?_
   refine ab (ah kR) ?_
   refine ab (ak gg aV) ?_
   refine vm ?_
   refine ab (bH (m:=((k+j:Nat):Int)) (hm:=by rw[←Int.natCast_add];exact kU)) ?_
   refine vn ?_
   refine ab (ah kR) ?_
   refine aB (aU NG aV) ?_
   rintro _ w202 ⟨e8,dQ⟩
   have wL:=dQ.size
   replace dH:=OwnT.gr dH dQ (by first|exact .inl rfl|(right;intro e;first|(have:=lH _ e;omega)|exact OwnT.ne dH aV (by decide) e))
   replace hC:=hC.gr2 dQ (fun x e=>by cases e;first|exact .inl rfl|(right;right;omega))
   replace aV:=e8
   refine ag (ae (af (aa ?_)))
   refine vm ?_
   refine vn ?_
   refine ab (ah AE) ?_
   refine ab (ak ft aV) ?_
   refine vm ?_
   refine ab (bv Tryz.underlying3 Tryz.underlying36) ?_
   refine ab (bH (hm:=CN t j (by omega))) ?_
   refine vn ?_
   refine ab (ah AE) ?_
   refine aB (aU mi aV) ?_
   rintro _ w203 ⟨gy,df⟩
   have wK:=df.size
   replace dH:=OwnT.gr dH df (by first|exact .inl rfl|(right;intro e;first|(have:=lH _ e;omega)|exact OwnT.ne dH aV (by decide) e))
   replace hC:=hC.gr2 df (fun x e=>by cases e;first|exact .inl rfl|(right;right;omega))
   replace aV:=gy
   refine ag (ae (af (af ?_)))
   refine cC ej 10 [(33,a0 (.pointer (some ⟨g,0,none⟩))),(34,a0 (.pointer (some ⟨g,0,none⟩))),(35,a0 (.pointer (some ⟨g,2,none⟩))),(36,a0 (.int .i64 ((k+j:Nat):Int))),(37,a0 (.int .i64 (2*((k+j:Nat):Int)))),(38,a0 (.pointer (some ⟨g,0,none⟩))),(39,a0 (.pointer (some ⟨g,0,none⟩))),(40,a0 (.pointer (some ⟨g,1,none⟩))),(41,a0 (.slice A d.length c)),(42,a0 (.int .i64 (↑d.length:Int)))] [[],[0],[1],[2],[3],[],[5],[6],[7],[8]] _ [] [] (fun _ _ h=>h) trivial (by kernel_rfl) rfl ?_ ?_
   ·repeat' apply And.intro
    all_goals first|exact trivial|(intro wd bW;replace aV:=aV.ext bW;(repeat rintro _ rfl))
    exact am (ax (aF))
    exact am (ax (bD))
    exact am (ax (ah (off:=2) kR))
    exact am (ax (ak gg aV))
    exact am (ax (go))
    exact am (ax (aF))
    exact am (ax (bD))
    exact am (ax (ah jX))
    exact am (ax (ak dc aV))
    exact am (ax (bj Tryz.underlying32))
   ·intro wf9 Tj
    replace aV:=aV.ext Tj
    replace dH:=OwnT.ext dH Tj
    replace hC:=hC.ext Tj
    have Uy:=Tj.size
    iterate 10 rintro _ rfl
    refine ab (fX) ?_
    refine ag (ae ?_)
    refine aL (fun iD=>?_) (fun iD=>?_)
    ·refine af ?_
     refine eH ?_
     intro w204 uf
     replace aV:=aV.ext uf
     replace dH:=OwnT.ext dH uf
     replace hC:=hC.ext uf
     have SB:=uf.size
     refine fh (sQ ((fun a b=>Gr a b (gI A)))) (oR ((fun _ _ h=>Ext.row h _))) (oQ ((fun _ _ _ h k=>Gr.gr h k (fun g e=>.inl e)))) (oP ((fun _ _ h=>Ext.row h _)) ((fun _ _ _ h k=>Gr.gr h k (fun g e=>.inl e)))) 0 10 [(44,a0 (.pointer (some ⟨g,0,none⟩))),(45,a0 (.pointer (some ⟨g,0,none⟩))),(46,a0 (.pointer (some ⟨g,0,none⟩))),(47,a0 (.pointer (some ⟨g,1,none⟩))),(48,a0 (.slice A d.length c)),(49,a0 (.pointer (some ⟨g,0,none⟩))),(50,a0 (.pointer (some ⟨g,0,none⟩))),(51,a0 (.pointer (some ⟨g,2,none⟩))),(52,a0 (.int .i64 ((k+j:Nat):Int))),(53,(fun v w'=>v=.slice A (d.drop (k+j)).length c∧OwnT w' lo 5 A c (d.drop (k+j))))] [[],[],[1],[2],[3],[],[5],[6],[7],[4,8]] [[0],[0],[0],[0],[0],[0],[0],[0],[0],[]] [[0],[0],[0],[0],[0],[0],[0],[0],[0],[]] [none,none,none,none,none,none,none,none,none,some 0] [true,true,true,true,true,true,true,true,true,true] [0] _ [] [] ⟨sA,sA,sA,sA,sA,sA,sA,sA,sA,iF ((fun v w w' ⟨hv,ho⟩ he=>⟨hv,OwnT.ext ho he⟩)),trivial⟩ ?_ ?_
     ·repeat' apply And.intro
      any_goals exact trivial
      all_goals intro wd bW
      iterate 2 exact am (ax (aF))
      ·rintro _ rfl
       exact am (ax (bD))
      ·rintro _ rfl
       exact am (ax (ah jX))
      ·have uq:=OwnT.ne dH aV (by decide)
       replace aV:=aV.gr bW uq
       rintro _ rfl
       show eV _ _ _ _ _ _
       exact am (ax (ak dc aV))
      exact am (ax (aF))
      ·rintro _ rfl
       exact am (ax (bD))
      ·rintro _ rfl
       exact am (ax (ah (off:=2) kR))
      ·have uq:=OwnT.ne dH aV (by decide)
       replace aV:=aV.gr bW uq
       rintro _ rfl
       show eV _ _ _ _ _ _
       exact am (ax (ak gg aV))
      ·replace dH:=OwnT.ext dH bW
       have dK:=bW.size
       iterate 2 rintro _ rfl
       show eV _ _ _ _ _ _
       refine am (OpRun.mono (aw YE (zf _ lo A c d (k+j) dH (by omega) (by omega) (by omega))) ?_)
       rintro v w205 ⟨rfl,oK,Wl⟩
       exact⟨⟨rfl,oK⟩,Wl⟩
     ·intro wf10 sH
      have uq:=OwnT.ne dH aV (by decide)
      replace aV:=aV.gr sH uq
      replace hC:=hC.tr (Ch.of_row sH) (fun x e=>.inl e)
      iterate 9 rintro _ rfl
      rintro _ ⟨rfl,oK⟩
      refine fE ?_
      refine vn ?_
      refine ab (ah jX) ?_
      refine aB (aU gV aV) ?_
      rintro _ w205 ⟨cy,ba⟩
      replace hC:=hC.gr2 ba (fun x e=>by cases e;first|exact .inl rfl|(right;right;omega))
      replace oK:=OwnT.gr oK ba (by first|exact .inl rfl|(right;intro e;first|(have:=hq_hot53 _ e;omega)|exact OwnT.ne oK aV (by decide) e))
      replace aV:=cy
      refine ag (ae (aa ?_))
      refine vm ?_
      refine vn ?_
      refine ab (ah kR) ?_
      refine aB (aU (cs':=[(.int .i64 (↑m:Int)),(.slice A (d.drop (k+j)).length c),(.int .i64 0),(.int .u64 (↑p:Int)),(.int .u64 ((t+j:Nat):Int))]) NG aV) ?_
      rintro _ w206 ⟨dm,b7⟩
      replace hC:=hC.gr2 b7 (fun x e=>by cases e;first|exact .inl rfl|(right;right;omega))
      replace oK:=OwnT.gr oK b7 (by first|exact .inl rfl|(right;intro e;first|(have:=hq_hot53 _ e;omega)|exact OwnT.ne oK aV (by decide) e))
      replace aV:=dm
      refine ag (ae (af (aa ?_)))
      refine va ?_
      refine ag (ae (aE ?_))
      refine aY ?_
      rw[qu (by omega)]
      exact⟨rfl,⟨A,c,_,0,rfl,aV,oK,by simp;omega,by rw[List.drop_zero,←o5,List.drop_drop],by omega,by simp;omega,nf,l5⟩,hC⟩
    ·refine aS (ae (af (aa ?_)))
     refine va ?_
     refine ag (ae (aE ?_))
     refine aY ?_
     rw[qu (by omega)]
     exact⟨rfl,⟨A,c,d,k+j,rfl,aV,dH,by simp;omega,by rw[←o5,List.drop_drop],by omega,by simp;omega,nf,l5⟩,hC⟩
theorem Gx (w:World) (lo g:Nat) (D:Option Nat) (m:Nat) (l:List UInt8) (p t:Nat) (mH:Buf w lo g D m l p t) (n:Int) (BU:-9223372036854775808≤n) (hn:n≤9223372036854775807) (ht:t≤4611686018427387904) (kn:lo≤w.heap.size):
  Fn Tryz.prog 49 #[(.pointer (some ⟨g,0,none⟩)),(.int .i64 n)] w (fun v w'=>∃B c2,v=.tuple #[.slice B (dW l n).1.length c2,.int .i64 ((dW l n).2:Int)]∧OwnB w' w.heap.size 5 B c2 (dW l n).1∧Buf w' lo g D m (l.drop (dW l n).1.length) p (t+(dW l n).1.length)∧Ch g D w w'):=by
 obtain⟨A,c,d,k,rfl,aV,dH,gS,o5,qo,si,nf,l5⟩:=mH
 have Ih:=aV.lt
 have jE:=dH.2.1
 simp only[maxLen] at jE
 have hC:=Ch.refl g (gI A) w
 have Yb:∀x,gI A=some x→lo≤x∧x<w.heap.size:=fun x e=>dH.lt e
 refine aO (args:=[(.pointer (some ⟨g,0,none⟩)),(.int .i64 n)]) Tryz.func49 ?_
 refine af (aa ?_)
 iterate 2 refine va ?_
 refine ag (ae (af (aa ?_)))
 iterate 2 refine vm ?_
 refine ar (aw YN (Gy _ lo g _ m l p t ⟨_,_,_,_,rfl,aV,dH,gS,o5,qo,si,nf,l5⟩ n BU hn)) ?_
 rintro v w1 ⟨A11,c11,rfl,yQ,dV⟩
 replace aV:=aV.ext dV
 replace dH:=OwnT.ext dH dV
 replace hC:=hC.ext dV
 have HH:=dV.size
 have HZ:=fun g e=>Own.lt yQ (g:=g) e
 refine vm ?_
 iterate 2 refine vx ?_
 iterate 2 refine va ?_
 refine ag (ae (af (af (aa ?_))))
 refine vm ?_
 refine ve ?_
 refine ag (ae ?_)
 refine aL (fun dM=>?_) (fun dM=>?_)
 ·refine aa ?_
  iterate 2 refine vm ?_
  refine ab (bj Tryz.underlying32) ?_
  have P0:=AS l n
  refine ar (aw YM (CL _ lo g _ m l p t ⟨_,_,_,_,rfl,aV,dH,gS,o5,qo,si,nf,l5⟩ (↑(dW l n).1.length:Int) (by omega) (by omega) ht (by omega))) ?_
  rintro v w2 ⟨rfl,Fg,Ry⟩
  rw[qu P0] at Fg
  refine aN (d:=19) rfl (v':=.int .i64 0) (by rw[qu P0];rfl) ?_
  replace yQ:=Ry.own yQ (fun x e=>by have h1:=HZ x e;exact⟨by omega,fun e2=>by have:=Yb x e2;omega⟩)
  refine va ?_
  refine ag (ae (af (aa ?_)))
  iterate 2 refine vm ?_
  iterate 2 refine va ?_
  refine ag (ae (aE ?_))
  refine cX ?_
  exact⟨A11,c11,by rw[show(dW l n).2=0 by omega];rfl,Own.mono yQ (by omega),Fg,hC.tr Ry (fun x e=>.inl e)⟩
 ·refine aS (ae (af (aa ?_)))
  iterate 2 refine vm ?_
  iterate 2 refine va ?_
  refine ag (ae (aE ?_))
  refine cX ?_
  rcases Jd l n with h|⟨h1,h2,_⟩
  ·exact absurd (by rw[h];rfl) dM
  ·exact⟨A11,c11,rfl,Own.mono yQ (by omega),by rw[h2];exact⟨_,_,_,_,rfl,aV,dH,gS,o5,qo,si,nf,l5⟩,hC⟩
end Go.Proofs.YtiighkbehiddkaaGreat
namespace Go.Proofs.YtiighkbehiddkaaGreat
open Go.RowKit
set_option linter.unusedVariables false
set_option maxRecDepth 4000
section
variable {P:Program} {L:Env} {w:World} {d:Option Nat} {ty:TypeId} {pos:String} {aft:Array Edge} {gd:Option (Nat×Bool)}
/-- A struct that is a part of a block. -/
theorem gp {t tb:TypeId} {x:Operand} {g o:Nat} {cs vs:List Value} (ht:jt P t vs.length=true) (hx:ev L x=some (.pointer (some ⟨g,o,none⟩))) (hb:Blk w g tb cs) (hv:(cs.drop o).take vs.length=vs):db P ⟨d,.load t x,ty,pos,aft,gd⟩ L w (.agg vs.toArray):=
 dX ht (hx:=hx) fun j u hu=>by
  have h:((cs.drop o).take vs.length)[j]?=some u:=by rw[hv];exact hu
  rw[List.getElem?_take,List.getElem?_drop] at h
  rw[Addr.add_lit,hb.cell]
  split at h
  ·exact h
  ·cases h
/-- A store of a struct into a part of a block. -/
theorem dY {t tb:TypeId} {x y:Operand} {g o:Nat} {cs vs cs':List Value} (ht:(P.info? t).map (·.size)=some vs.length) (hb:Blk w g tb cs) (hx:ev L x=some (.pointer (some ⟨g,o,none⟩)):=by exact rfl) (hy:ev L y=some (.agg vs.toArray):=by exact rfl) (iH:∀u∈vs,u.oneCell'=true:=by exact cH rfl) (hl:Nat.ble (o+vs.length) cs.length=true:=by exact rfl) (hc:cs.take o++vs++cs.drop (o+vs.length)=cs':=by exact rfl):
  OpRun P ⟨d,.store t x y,ty,pos,aft,gd⟩ L w fun _ w'=>Blk w' g tb cs'∧Gr w w' (some g):=
 iM fun ρ h1 _=>by
  obtain⟨inf,rx,gf⟩:=Option.map_eq_some_iff.1 ht
  have it:=run_storeCells_at P g o tb vs 0 cs.toArray w hb (by simpa using Nat.le_of_ble_eq_true hl) iH
  simp only[Nat.add_zero,hc] at it
  refine⟨w.setRow g cs'.toArray,?_,setRow_heap w g cs.toArray _ tb _ hb,⟨rfl,rfl,rfl,by simp,fun k _ hk=>setRow_other w g k _ (fun e=>hk (by simp[e]))⟩⟩
  simp[execOp,h1 x _ hx,h1 y _ hy,Instr.storeAt,Instr.sureAddr,storeVar,cV rx,gf,Value.cells,it]
theorem ka {t e:TypeId} {size bytes:Nat} {z:Value} (T:SliceTy P t e size bytes z):
  OpRun P ⟨d,.buildSlice t 0 #[],ty,pos,aft,gd⟩ L w fun v w'=>∃A c,v=.slice A 0 c∧Own w' w.heap.size e size A 0 c []∧Ext w w':=
 eX fun ρ h1 h2=>by
  obtain⟨i,hi,hz,hs,Az⟩:=T.i
  refine⟨.slice (some ⟨w.heap.size,0,none⟩) 0 0,w.alloc (.cells (#[]:Array Value) e),?_,_,_,rfl,⟨by simp,.inr ⟨w.heap.size,0,#[],rfl,Nat.le_refl _,Blk.new w e [],Nat.le_refl _,by simp[maxLen],by simp,by simp⟩⟩,nk w _⟩
  simp only[execOp,Instr.buildSlice,Sem.run_bind,run_underlying T.u,Result.andThen_ok,cV hi,hs]
  simp[Array.range_zero',Instr.fill,newRow]
end
structure LawOk (r:Rsp):Prop where
 ok:RspOk r
 len:∀x∈r.items,x.value.length≤140737488355328
/-- A connection: how much input, output and payload it may have; its output, how much was put in and taken out; its input, whether that is closed; its phase, command, answer, and the answer's bytes. -/
structure Cn where
 ci:Nat
 co:Nat
 cp:Nat
 out:List UInt8
 pt:Nat
 tk:Nat
 held:List UInt8
 cl:Bool
 ph:Nat
 cmd:Cmd
 ans:Rsp
 bs:List UInt8
/-- The bytes of the frame of a response. -/
def cnFr (r:Rsp):List UInt8:=(jF (mf r).1.1 (mf r).1.2).1
theorem Gg (r:Rsp):(cnFr r).length≤2097200:=by
 unfold cnFr
 rcases kg (mf r).1.2 with⟨h1,h2,h3⟩|⟨h1,h2,h3⟩
 ·rw[n9];exact Nat.zero_le _
 ·rw[pG h3,List.length_append,List.length_append,h2]
  have:=cw ((mf r).1.2.length+1)
  rw[List.length_singleton];omega
theorem GR (r:Rsp):(mf r).1.2.length≤10+2*rsz r:=by
 by_cases h:WrOk r
 ·rw[o6 h]
  show(bA r).length≤_
  by_cases he:r.err=0
  ·rw[←vE he]
   refine sS (tQ r.op) ?_
   rw[List.take_length]
   exact h.2.2.2.2.2.1 he
  ·rw[oj he];have:=cw r.err.toNat;omega
 ·rw[fC h];exact Nat.zero_le _
def r3 (ci co cp:Nat):Cn:=⟨ci,co,cp,[],0,0,[],false,1,cmd0 0,rspO 0 0,[]⟩
/-- Whether a configuration is valid. -/
def cfOk (i o p:Int):Prop:=16≤p∧p≤2097152∧p+8≤i∧i≤4194304∧64≤o∧o≤1048576
instance (i o p:Int):Decidable (cfOk i o p):=by unfold cfOk;infer_instance
def sK (s:Cn) (r:Rsp):Cn:={s with ph:=3,cmd:=cmd0 0,ans:=r,bs:=cnFr r}
def cT (s:Cn) (q:List UInt8):Cn×Nat×Nat:=
 if s.cl=true then(s,0,14) else({s with held:=s.held++q.take (min q.length (s.ci - s.held.length))},min q.length (s.ci - s.held.length),0)
def cD (s:Cn):Bool×List UInt8×(UInt8×List UInt8)×Nat:=jS s.cp s.cl s.held
def xY (s:Cn):Cn:={s with cl:=(cD s).1,held:=(cD s).2.1}
def sM (s:Cn):Cmd×Nat:=jO (cD s).2.2.1.1 (cD s).2.2.1.2
def sL (s:Cn):Cn×Nat:=
 if(cD s).2.2.2=4 then(xY s,0)
 else if(cD s).2.2.2=0 then(if(sM s).2=0 then({xY s with cmd:=(sM s).1,ph:=2},1) else(sK (xY s) (rspO 0 ((sM s).2:Int)),2))
 else(sK (xY s) (rspO 0 ((cD s).2.2.2:Int)),2)
def kS (s:Cn):Cn:={s with out:=s.out++s.bs,pt:=s.pt+s.bs.length,ph:=if s.cl=true then 4 else 1,ans:=rspO 0 0,bs:=[]}
def b8 (s:Cn):Cn×Nat:=
 if s.ph=1 then sL s else if s.ph=2 then(s,3) else if s.ph=4 then(s,0) else if s.co - s.out.length<s.bs.length then(s,5) else(kS s,4)
def dG (s:Cn) (r:Rsp):Cn×Nat:=
 if¬s.ph=2 then(s,8) else if¬(mf r).2=0∨¬r.op=s.cmd.op then(s,2)
 else if s.co<(cnFr r).length then(sK s (rspO r.op 5),0) else(sK s r,0)
def lZ (s:Cn) (n:Int):Cn×List UInt8×Nat:=
 ({s with out:=s.out.drop (dW s.out n).1.length,tk:=s.tk+(dW s.out n).1.length},dW s.out n)
def fe (s:Cn) (p:Nat):Nat:=if s.ph=p then 0 else 8
def bX (s:Cn):Cmd:=if s.ph=2 then s.cmd else cmd0 0
def dp (s:Cn):Rsp:=if s.ph=3 then s.ans else rspO 0 0
/-- What a connection keeps to. -/
structure CnOk (s:Cn):Prop where
 p1:16≤s.cp
 p2:s.cp≤2097152
 i1:s.cp+8≤s.ci
 i2:s.ci≤4194304
 o1:64≤s.co
 hl:s.held.length≤s.ci
 h1:1≤s.ph
 h4:s.ph≤4
 sz:rsz s.ans≤4398046511104
 bl:s.bs.length≤2097200
 an:s.ph=3∨(s.ans=rspO 0 0∧s.bs=[])
 cb:s.cmd.keys.length≤16∧s.cmd.tags.length≤16∧s.cmd.value.length≤4194304
/-- Where its parts lie. -/
structure CnP where
 gb:Nat
 gd:Nat
 Db:Option Nat
 Dd:Option Nat
 K:Option Addr
 ck:Nat
 V:Option Addr
 cv:Nat
 T:Option Addr
 ct:Nat
 X:Option Addr
 cx:Nat
 xs:List IT
 N:Option Addr
 cn:Nat
 A:Option Addr
 c:Nat
def vB (s:Cn) (p:CnP):List Value:=
 [.pointer (some ⟨p.gb,0,none⟩),.int .i64 (s.ci:Int),.int .i64 (s.co:Int),.int .i64 (s.cp:Int),.pointer (some ⟨p.gd,0,none⟩),.int .i64 (s.ph:Int)]++cL s.cmd p.K p.ck p.V p.cv p.T p.ct++b9 s.ans p.X p.cx p.N p.cn++[.slice p.A s.bs.length p.c]
/-- The blocks that its steps may change. -/
def cnS (g:Nat) (p:CnP):List Nat:=[g,p.gb,p.gd]++(p.Db.toList++p.Dd.toList)
theorem fk {g x:Nat} {p:CnP}:x∈cnS g p↔x=g∨x=p.gb∨x=p.gd∨p.Db=some x∨p.Dd=some x:=by
 unfold cnS
 rw[List.mem_append,List.mem_append,Option.mem_toList,Option.mem_toList]
 simp only[List.mem_cons,List.not_mem_nil,or_false,or_assoc]
theorem dZ (g:Nat) (p:CnP):g∈cnS g p:=fk.2 (.inl rfl)
/-- What memory holds of it besides its own block. -/
structure CnR (w:World) (g a b:Nat) (s:Cn) (p:CnP):Prop where
 buf:Buf w 0 p.gb p.Db s.co s.out s.pt s.tk
 dec:Dec w 0 p.gd p.Dd s.cp s.cl s.held
 hK:RdS w a b p.K p.ck s.cmd.keys
 hV:RdB w a b p.V p.cv s.cmd.value
 hT:RdS w a b p.T p.ct s.cmd.tags
 hv:vals p.xs=s.ans.items
 hx:RdI w a b p.X p.cx p.xs
 hn:RdN w a b p.N p.cn s.ans.nums
 hA:RdB w a b p.A p.c s.bs
 sep:∀x∈cnS g p,x<w.heap.size∧(x<a∨b≤x)
 hb:b≤w.heap.size
 ne1:g≠p.gb∧g≠p.gd∧p.gb≠p.gd
 ne2:p.Db≠some g∧p.Db≠some p.gb∧p.Db≠some p.gd
 ne3:p.Dd≠some g∧p.Dd≠some p.gb∧p.Dd≠some p.gd
 dd:∀x,p.Db=some x→p.Dd≠some x
 ok:CnOk s
theorem vV {L:Nat}:∀(ps:List UInt8) (s:Cmd×List UInt8×Bool),(s.1.keys.length≤16∧s.1.tags.length≤16∧s.1.value.length≤L∧s.2.1.length≤L)→
  ((ps.foldl fS s).1.keys.length≤16∧(ps.foldl fS s).1.tags.length≤16∧(ps.foldl fS s).1.value.length≤L∧(ps.foldl fS s).2.1.length≤L)
 |[],s,h=>h
 |p::ps,s,⟨h1,h2,h3,h4⟩=>by
  rw[List.foldl_cons]
  refine vV ps _ ?_
  have a1:=pc s.2.1
  have a2:=eT s.2.1
  have a3:=iq s.2.1
  have a4:=zH 0 16 s.2.1
  have a5:=zH 1 16 s.2.1
  have a6:=lz 0 16 s.2.1
  have a7:=lz 1 16 s.2.1
  unfold fS
  repeat' split
  all_goals(refine⟨?_,?_,?_,?_⟩<;>first|assumption|exact a4|exact a5|exact Nat.le_trans a1 h4|exact Nat.le_trans a2 h4|exact Nat.le_trans a3 h4|exact Nat.le_trans a6 h4|exact Nat.le_trans a7 h4)
theorem Kf (x:UInt8) (l:List UInt8) {L:Nat} (hl:l.length≤L):(jO x l).1.keys.length≤16∧(jO x l).1.tags.length≤16∧(jO x l).1.value.length≤L:=by
 by_cases q:1≤x.toNat∧x.toNat≤15∧(bg (x.toNat:Int) l).2.2=false∧(bg (x.toNat:Int) l).2.1=[]
 ·rw[tM q.1 q.2.1 q.2.2.1 q.2.2.2]
  have h:=vV (L:=L) (aZ (x.toNat:Int)) (cmd0 (x.toNat:Int),l,false) ⟨Nat.zero_le _,Nat.zero_le _,Nat.zero_le _,hl⟩
  exact⟨h.1,h.2.1,h.2.2.1⟩
 ·rw[kG q];exact⟨Nat.zero_le _,Nat.zero_le _,Nat.zero_le _⟩
section
variable {w w':World} {g a b:Nat} {s:Cn} {p:CnP}
theorem CnR.kp {gs:List Nat} (h:CnR w g a b s p) (k:Kp gs w w') (hg:∀x∈gs,x≠p.gb∧x≠p.gd∧p.Db≠some x∧p.Dd≠some x∧(x<a∨b≤x)):CnR w' g a b s p where
 buf:=h.buf.kp k (fun e=>(hg _ e).1 rfl) (fun x e e2=>(hg _ e2).2.2.1 e)
 dec:=h.dec.kp k (fun e=>(hg _ e).2.1 rfl) (fun x e e2=>(hg _ e2).2.2.2.1 e)
 hK:=k.rd h.hK fun x e=>(hg x e).2.2.2.2
 hV:=k.rd h.hV fun x e=>(hg x e).2.2.2.2
 hT:=k.rd h.hT fun x e=>(hg x e).2.2.2.2
 hv:=h.hv
 hx:=RdI.kp h.hx k fun x e=>(hg x e).2.2.2.2
 hn:=k.rd h.hn fun x e=>(hg x e).2.2.2.2
 hA:=k.rd h.hA fun x e=>(hg x e).2.2.2.2
 sep:=fun x hx=>⟨Nat.lt_of_lt_of_le (h.sep x hx).1 k.size,(h.sep x hx).2⟩
 hb:=Nat.le_trans h.hb k.size
 ne1:=h.ne1
 ne2:=h.ne2
 ne3:=h.ne3
 dd:=h.dd
 ok:=h.ok
theorem CnR.ext (h:CnR w g a b s p) (e:Ext w w'):CnR w' g a b s p:=h.kp (Kp.of_ext (gs:=[]) e) fun x hx=>by cases hx
theorem CnR.grg (h:CnR w g a b s p) (k:Gr w w' (some g)):CnR w' g a b s p:=h.kp (Kp.of_gr k) fun x hx=>by
 have e:x=g:=by simpa using hx
 subst e
 exact⟨h.ne1.1,h.ne1.2.1,h.ne2.1,h.ne3.1,(h.sep _ (dZ _ _)).2⟩
theorem CnR.kpg (h:CnR w g a b s p) (k:Kp [g] w w'):CnR w' g a b s p:=h.kp k fun x hx=>by
 rw[List.mem_singleton.1 hx]
 exact⟨h.ne1.1,h.ne1.2.1,h.ne2.1,h.ne3.1,(h.sep _ (dZ _ _)).2⟩
/-- All of it lies below a bound. -/
def Ze (B g b:Nat) (p:CnP):Prop:=(∀x∈cnS g p,x<B)∧b≤B
theorem CnR.bnd (h:CnR w g a b s p):Ze w.heap.size g b p:=⟨fun x hx=>(h.sep x hx).1,h.hb⟩
theorem CnR.grw {B:Nat} {row:Option Nat} (h:CnR w g a b s p) (k:Gr w w' row) (hW:Ze B g b p) (hr:∀x,row=some x→B≤x):CnR w' g a b s p:=h.kp (Kp.of_gr k) fun x hx=>by
 have e:=hr x (Option.mem_toList.1 hx)
 have h1:=hW.1 p.gb (fk.2 (.inr (.inl rfl)))
 have h2:=hW.1 p.gd (fk.2 (.inr (.inr (.inl rfl))))
 have h5:=hW.2
 refine⟨by omega,by omega,fun q=>?_,fun q=>?_,by omega⟩
 ·have:=hW.1 x (fk.2 (.inr (.inr (.inr (.inl q)))));omega
 ·have:=hW.1 x (fk.2 (.inr (.inr (.inr (.inr q)))));omega
theorem CnR.grf {B g3:Nat} (h:CnR w g a b s p) (k:Gr w w' (some g3)) (hW:Ze B g b p) (h3:B≤g3):CnR w' g a b s p:=h.grw k hW fun x e=>by cases e;exact h3
/-- The answer is another one. -/
def Nj (p:CnP) (X:Option Addr) (cx:Nat) (xs:List IT) (N:Option Addr) (cn:Nat) (A:Option Addr) (c:Nat):CnP:=⟨p.gb,p.gd,p.Db,p.Dd,none,0,none,0,none,0,X,cx,xs,N,cn,A,c⟩
theorem CnR.put (h:CnR w g a b s p) {r:Rsp} {lo:Nat} {X:Option Addr} {cx:Nat} {xs:List IT} {N:Option Addr} {cn:Nat} {A:Option Addr} {c:Nat} (kn:∀x∈cnS g p,x<lo) (hl:lo≤w.heap.size) (hv:vals xs=r.items) (hx:RdI w lo w.heap.size X cx xs) (hn:RdN w lo w.heap.size N cn r.nums) (hA:RdB w lo w.heap.size A c (cnFr r)) (gf:rsz r≤4398046511104):CnR w g lo w.heap.size (sK s r) (Nj p X cx xs N cn A c) where
 buf:=h.buf
 dec:=h.dec
 hK:=Rd.nil _ _ _ _ _ _ (Nat.zero_le _)
 hV:=Rd.nil _ _ _ _ _ _ (Nat.zero_le _)
 hT:=Rd.nil _ _ _ _ _ _ (Nat.zero_le _)
 hv:=hv
 hx:=hx
 hn:=hn
 hA:=hA
 sep:=fun x hx=>⟨(h.sep x hx).1,.inl (kn x hx)⟩
 hb:=Nat.le_refl _
 ne1:=h.ne1
 ne2:=h.ne2
 ne3:=h.ne3
 dd:=h.dd
 ok:=⟨h.ok.p1,h.ok.p2,h.ok.i1,h.ok.i2,h.ok.o1,h.ok.hl,by show 1≤3;decide,by show 3≤4;decide,gf,Gg r,.inl rfl,⟨Nat.zero_le _,Nat.zero_le _,Nat.zero_le _⟩⟩
/-- The command is another one. -/
def Nl (p:CnP) (K:Option Addr) (ck:Nat) (V:Option Addr) (cv:Nat) (T:Option Addr) (ct:Nat):CnP:=⟨p.gb,p.gd,p.Db,p.Dd,K,ck,V,cv,T,ct,p.X,p.cx,p.xs,p.N,p.cn,p.A,p.c⟩
/-- A state is another one with the same parts in memory. -/
theorem CnR.st {s':Cn} (h:CnR w g a b s p) (h1:s'.co=s.co∧s'.out=s.out∧s'.pt=s.pt∧s'.tk=s.tk∧s'.cp=s.cp∧s'.cl=s.cl∧s'.held=s.held) (h2:s'.cmd=s.cmd∧s'.ans=s.ans∧s'.bs=s.bs) (ep:CnOk s'):CnR w g a b s' p:=by
 obtain⟨e1,e2,e3,e4,e5,e6,e7⟩:=h1
 obtain⟨d1,d2,d3⟩:=h2
 exact⟨by rw[e1,e2,e3,e4];exact h.buf,by rw[e5,e6,e7];exact h.dec,by rw[d1];exact h.hK,by rw[d1];exact h.hV,by rw[d1];exact h.hT,by rw[d2];exact h.hv,h.hx,by rw[d2];exact h.hn,by rw[d3];exact h.hA,h.sep,h.hb,h.ne1,h.ne2,h.ne3,h.dd,ep⟩
theorem Rd.zero {lo hi lo' qb size c:Nat} {A:Option Addr} (h:Rd w lo hi size A 0 c []):Rd w' lo' qb size A 0 c []:=⟨h.1,h.2.1,h.2.2.1,fun hn=>absurd rfl hn⟩
/-- A command was read. -/
theorem CnR.cmd (h:CnR w g a b s p) (ha:s.ans=rspO 0 0∧s.bs=[]) {cm:Cmd} {lo:Nat} {K:Option Addr} {ck:Nat} {V:Option Addr} {cv:Nat} {T:Option Addr} {ct:Nat} (kn:∀x∈cnS g p,x<lo) (hK:RdS w lo w.heap.size K ck cm.keys) (hV:RdB w lo w.heap.size V cv cm.value) (hT:RdS w lo w.heap.size T ct cm.tags) (hcb:cm.keys.length≤16∧cm.tags.length≤16∧cm.value.length≤4194304):CnR w g lo w.heap.size {s with cmd:=cm,ph:=2} (Nl p K ck V cv T ct) where
 buf:=h.buf
 dec:=h.dec
 hK:=hK
 hV:=hV
 hT:=hT
 hv:=h.hv
 hx:=by
  have hx:=h.hx
  have mq:p.xs=[]:=by
   have e:=h.hv
   rw[ha.1] at e
   exact List.map_eq_nil_iff.1 e
  show RdI w _ _ p.X p.cx p.xs
  rw[mq] at hx ⊢
  exact⟨Rd.zero hx.1,fun x hx=>by cases hx⟩
 hn:=by
  have hn:=h.hn
  show Rd _ _ _ _ _ s.ans.nums.length _ (s.ans.nums.flatMap nuc)
  rw[ha.1] at hn ⊢
  exact Rd.zero hn
 hA:=by
  have hA:=h.hA
  show RdB _ _ _ _ _ s.bs
  rw[ha.2] at hA ⊢
  exact Rd.zero hA
 sep:=fun x hx=>⟨(h.sep x hx).1,.inl (kn x hx)⟩
 hb:=Nat.le_refl _
 ne1:=h.ne1
 ne2:=h.ne2
 ne3:=h.ne3
 dd:=h.dd
 ok:=⟨h.ok.p1,h.ok.p2,h.ok.i1,h.ok.i2,h.ok.o1,h.ok.hl,by show 1≤2;decide,by show 2≤4;decide,h.ok.sz,h.ok.bl,.inr ha,hcb⟩
/-- The answer was written out. -/
def Nh (p:CnP):CnP:=⟨p.gb,p.gd,p.Db,p.Dd,p.K,p.ck,p.V,p.cv,p.T,p.ct,none,0,[],none,0,none,0⟩
theorem CnR.ans0 (h:CnR w g a b s p) {n:Nat} (h1:1≤n) (h4:n≤4):CnR w g a b {s with ph:=n,ans:=rspO 0 0,bs:=[]} (Nh p) where
 buf:=h.buf
 dec:=h.dec
 hK:=h.hK
 hV:=h.hV
 hT:=h.hT
 hv:=rfl
 hx:=RdI.nil _ _ _
 hn:=Rd.nil _ _ _ _ _ _ (Nat.zero_le _)
 hA:=Rd.nil _ _ _ _ _ _ (Nat.zero_le _)
 sep:=h.sep
 hb:=h.hb
 ne1:=h.ne1
 ne2:=h.ne2
 ne3:=h.ne3
 dd:=h.dd
 ok:=⟨h.ok.p1,h.ok.p2,h.ok.i1,h.ok.i2,h.ok.o1,h.ok.hl,h1,h4,by show 0+10*0+100≤_;decide,Nat.zero_le _,.inr ⟨rfl,rfl⟩,h.ok.cb⟩
theorem Kp.of_ch {g2:Nat} {D:Option Nat} (k:Ch g2 D w w'):Kp (g2::D.toList) w w':=
 ⟨k.os,k.tape,k.output,k.size,fun i hi hn=>k.block i hi (fun e=>hn (by rw[e];exact List.mem_cons_self ..)) (fun e=>hn (List.mem_cons_of_mem _ (Option.mem_toList.2 e)))⟩
theorem tX {g2 x:Nat} {D:Option Nat}:x∈g2::D.toList→x=g2∨D=some x:=fun h=>by
 rcases List.mem_cons.1 h with e|e
 ·exact .inl e
 ·exact .inr (Option.mem_toList.1 e)
def CG (p:CnP) (D:Option Nat):CnP:={p with Db:=D}
def Nk (p:CnP) (D:Option Nat):CnP:={p with Dd:=D}
theorem jz (g:Nat) (p:CnP):p.gb∈cnS g p:=fk.2 (.inr (.inl rfl))
theorem iO (g:Nat) (p:CnP):p.gd∈cnS g p:=fk.2 (.inr (.inr (.inl rfl)))
theorem kV {g x:Nat} {p:CnP} (h:p.Db=some x):x∈cnS g p:=fk.2 (.inr (.inr (.inr (.inl h))))
theorem kb {g x:Nat} {p:CnP} (h:p.Dd=some x):x∈cnS g p:=fk.2 (.inr (.inr (.inr (.inr h))))
theorem Nx.ne {D D':Option Nat} {x:Nat} (h:Nx w D D') (h1:D≠some x) (h2:x<w.heap.size):D'≠some x:=fun e=>by
 rcases h x e with h3|h3
 ·exact h1 h3
 ·omega
/-- The output changed. -/
theorem CnR.bufTo (h:CnR w g a b s p) {o:List UInt8} {n m:Nat} {D:Option Nat} (k:Ch p.gb p.Db w w') (hb:Buf w' 0 p.gb D s.co o n m) (hN:Nx w p.Db D):CnR w' g a b {s with out:=o,pt:=n,tk:=m} (CG p D):=by
 have hk:=Kp.of_ch k
 have hs:∀x∈p.gb::p.Db.toList,x<a∨b≤x:=fun x hx=>by
  rcases tX hx with e|e
  ·rw[e];exact(h.sep _ (jz g p)).2
  ·exact(h.sep x (kV e)).2
 exact{
  buf:=hb
  dec:=h.dec.ch k h.ne1.2.2.symm h.ne2.2.2 h.ne3.2.1 (fun x e e2=>h.dd x e2 e)
  hK:=hk.rd h.hK hs
  hV:=hk.rd h.hV hs
  hT:=hk.rd h.hT hs
  hv:=h.hv
  hx:=RdI.kp h.hx hk hs
  hn:=hk.rd h.hn hs
  hA:=hk.rd h.hA hs
  sep:=fun x hx=>by
   rcases fk.1 hx with e|e|e|e|e
   ·exact⟨Nat.lt_of_lt_of_le (h.sep x (by rw[e];exact dZ _ _)).1 k.size,(h.sep x (by rw[e];exact dZ _ _)).2⟩
   ·exact⟨Nat.lt_of_lt_of_le (h.sep x (by rw[e];exact jz g p)).1 k.size,(h.sep x (by rw[e];exact jz g p)).2⟩
   ·exact⟨Nat.lt_of_lt_of_le (h.sep x (by rw[e];exact iO g p)).1 k.size,(h.sep x (by rw[e];exact iO g p)).2⟩
   ·refine⟨(hb.lt.2 x e).2,?_⟩
    rcases hN x e with e2|e2
    ·exact(h.sep x (kV e2)).2
    ·have:=h.hb;omega
   ·exact⟨Nat.lt_of_lt_of_le (h.sep x (kb e)).1 k.size,(h.sep x (kb e)).2⟩
  hb:=Nat.le_trans h.hb k.size
  ne1:=h.ne1
  ne2:=⟨hN.ne h.ne2.1 (h.sep _ (dZ _ _)).1,hN.ne h.ne2.2.1 (h.sep _ (jz g p)).1,hN.ne h.ne2.2.2 (h.sep _ (iO g p)).1⟩
  ne3:=h.ne3
  dd:=fun x e e2=>by
   rcases hN x e with e3|e3
   ·exact h.dd x e3 e2
   ·have:=(h.sep x (kb e2)).1;omega
  ok:=⟨h.ok.p1,h.ok.p2,h.ok.i1,h.ok.i2,h.ok.o1,h.ok.hl,h.ok.h1,h.ok.h4,h.ok.sz,h.ok.bl,h.ok.an,h.ok.cb⟩}
/-- The input changed. -/
theorem CnR.decTo (h:CnR w g a b s p) {l:List UInt8} {c:Bool} {D:Option Nat} (k:Ch p.gd p.Dd w w') (hb:Dec w' 0 p.gd D s.cp c l) (hN:Nx w p.Dd D) (hl:l.length≤s.ci):CnR w' g a b {s with cl:=c,held:=l} (Nk p D):=by
 have hk:=Kp.of_ch k
 have hs:∀x∈p.gd::p.Dd.toList,x<a∨b≤x:=fun x hx=>by
  rcases tX hx with e|e
  ·rw[e];exact(h.sep _ (iO g p)).2
  ·exact(h.sep x (kb e)).2
 exact{
  buf:=h.buf.ch k h.ne1.2.2 h.ne3.2.1 h.ne2.2.2 (fun x e e2=>h.dd x e e2)
  dec:=hb
  hK:=hk.rd h.hK hs
  hV:=hk.rd h.hV hs
  hT:=hk.rd h.hT hs
  hv:=h.hv
  hx:=RdI.kp h.hx hk hs
  hn:=hk.rd h.hn hs
  hA:=hk.rd h.hA hs
  sep:=fun x hx=>by
   rcases fk.1 hx with e|e|e|e|e
   ·exact⟨Nat.lt_of_lt_of_le (h.sep x (by rw[e];exact dZ _ _)).1 k.size,(h.sep x (by rw[e];exact dZ _ _)).2⟩
   ·exact⟨Nat.lt_of_lt_of_le (h.sep x (by rw[e];exact jz g p)).1 k.size,(h.sep x (by rw[e];exact jz g p)).2⟩
   ·exact⟨Nat.lt_of_lt_of_le (h.sep x (by rw[e];exact iO g p)).1 k.size,(h.sep x (by rw[e];exact iO g p)).2⟩
   ·exact⟨Nat.lt_of_lt_of_le (h.sep x (kV e)).1 k.size,(h.sep x (kV e)).2⟩
   ·refine⟨(hb.lt.2 x e).2,?_⟩
    rcases hN x e with e2|e2
    ·exact(h.sep x (kb e2)).2
    ·have:=h.hb;omega
  hb:=Nat.le_trans h.hb k.size
  ne1:=h.ne1
  ne2:=h.ne2
  ne3:=⟨hN.ne h.ne3.1 (h.sep _ (dZ _ _)).1,hN.ne h.ne3.2.1 (h.sep _ (jz g p)).1,hN.ne h.ne3.2.2 (h.sep _ (iO g p)).1⟩
  dd:=fun x e e2=>by
   rcases hN x e2 with e3|e3
   ·exact h.dd x e e3
   ·have:=(h.sep x (kV e)).1;omega
  ok:=⟨h.ok.p1,h.ok.p2,h.ok.i1,h.ok.i2,h.ok.o1,hl,h.ok.h1,h.ok.h4,h.ok.sz,h.ok.bl,h.ok.an,h.ok.cb⟩}
theorem Gc {x:Nat} {D:Option Nat} (hN:Nx w p.Db D):x∈cnS g (CG p D)→x∈cnS g p∨w.heap.size≤x:=fun hx=>by
 rcases fk.1 hx with e|e|e|e|e
 ·exact .inl (by rw[e];exact dZ _ _)
 ·exact .inl (by rw[e];exact jz g p)
 ·exact .inl (by rw[e];exact iO g p)
 ·exact(hN x e).imp kV id
 ·exact .inl (kb e)
theorem RI {x:Nat} {D:Option Nat} (hN:Nx w p.Dd D):x∈cnS g (Nk p D)→x∈cnS g p∨w.heap.size≤x:=fun hx=>by
 rcases fk.1 hx with e|e|e|e|e
 ·exact .inl (by rw[e];exact dZ _ _)
 ·exact .inl (by rw[e];exact jz g p)
 ·exact .inl (by rw[e];exact iO g p)
 ·exact .inl (kV e)
 ·exact(hN x e).imp kb id
theorem Kp.chb {w0:World} (h:Kp (cnS g p) w0 w) (k:Ch p.gb p.Db w w'):Kp (cnS g p) w0 w':=h.tr (Kp.of_ch k) fun x hx=>.inl (by
 rcases tX hx with e|e
 ·rw[e];exact jz g p
 ·exact kV e)
theorem Kp.chd {w0:World} (h:Kp (cnS g p) w0 w) (k:Ch p.gd p.Dd w w'):Kp (cnS g p) w0 w':=h.tr (Kp.of_ch k) fun x hx=>.inl (by
 rcases tX hx with e|e
 ·rw[e];exact iO g p
 ·exact kb e)
end
end Go.Proofs.YtiighkbehiddkaaGreat
namespace Go.Proofs.YtiighkbehiddkaaGreat
open Go.RowKit
set_option linter.unusedVariables false
set_option maxRecDepth 4000
theorem lb:jt Tryz.prog 23 3=true:=by kernel_rfl
theorem R0:aX Tryz.prog 27=true:=by kernel_rfl
theorem Y6:aX Tryz.prog 33=true:=by kernel_rfl
theorem Y5:aX Tryz.prog 34=true:=by kernel_rfl
theorem zj:aX Tryz.prog 39=true:=by kernel_rfl
theorem RW:aX Tryz.prog 41=true:=by kernel_rfl
theorem mS:bB Tryz.prog 23 0=some 0:=by kernel_rfl
theorem la:bB Tryz.prog 23 1=some 1:=by kernel_rfl
theorem mR:bB Tryz.prog 23 2=some 2:=by kernel_rfl
theorem rP:bB Tryz.prog 57 0=some 0:=by kernel_rfl
theorem lV:bB Tryz.prog 57 2=some 4:=by kernel_rfl
theorem oa:bB Tryz.prog 57 3=some 5:=by kernel_rfl
theorem mb:cu Tryz.prog 33=true:=by kernel_rfl
theorem Hl:cu Tryz.prog 54=true:=by kernel_rfl
theorem wr:cu Tryz.prog 55=true:=by kernel_rfl
theorem TO:fj Tryz.prog 57=some [(0,1),(1,3),(4,1),(5,1),(6,10),(16,6),(22,1)]:=by kernel_rfl
theorem NZ:fV Tryz.prog 57=some (.agg #[(.pointer none),(.int .i64 0),(.int .i64 0),(.int .i64 0),(.pointer none),(.int .i64 0),(.int .i64 0),(.string (av [])),(.slice none 0 0),(.slice none 0 0),(.slice none 0 0),(.int .u64 0),(.int .u64 0),(.string (av [])),(.string (av [])),(.string (av [])),(.int .i64 0),(.int .i64 0),(.slice none 0 0),(.int .u64 0),(.int .i64 0),(.slice none 0 0),(.slice none 0 0)]):=by kernel_rfl
theorem kh (w:World) (g:Nat) (s:Cn) (gb gd:Nat) (Db Dd:Option Nat) (K:Option Addr) (ck:Nat) (V:Option Addr) (cv:Nat) (T:Option Addr) (ct:Nat) (X:Option Addr) (cx:Nat) (xs:List IT) (N:Option Addr) (cn:Nat) (A:Option Addr) (c:Nat) (aV:Blk w g 57 (vB s (⟨gb,gd,Db,Dd,K,ck,V,cv,T,ct,X,cx,xs,N,cn,A,c⟩:CnP))):
  Fn Tryz.prog 39 #[(.pointer (some ⟨g,0,none⟩))] w (fun v w'=>v=.bool false∧w'=w):=by
 replace aV:Blk w g 57 [(.pointer (some ⟨gb,0,none⟩)),(.int .i64 (↑s.ci:Int)),(.int .i64 (↑s.co:Int)),(.int .i64 (↑s.cp:Int)),(.pointer (some ⟨gd,0,none⟩)),(.int .i64 (↑s.ph:Int)),(.int .i64 s.cmd.op),(.string (av s.cmd.key)),(.slice K s.cmd.keys.length ck),(.slice V s.cmd.value.length cv),(.slice T s.cmd.tags.length ct),(.int .u64 (↑s.cmd.life:Int)),(.int .u64 (↑s.cmd.ver:Int)),(.string (av s.cmd.tag)),(.string (av s.cmd.pre)),(.string (av s.cmd.child)),(.int .i64 s.ans.op),(.int .i64 s.ans.err),(.slice X s.ans.items.length cx),(.int .u64 (↑s.ans.ver:Int)),(.int .i64 s.ans.count),(.slice N s.ans.nums.length cn),(.slice A s.bs.length c)]:=aV
 refine aO Tryz.func39 ?_
 refine af (aa ?_)
 refine va ?_
 refine ag (ae (af (aa ?_)))
 refine vm ?_
 refine ab (dO Tryz.underlying28) ?_
 refine vm ?_
 refine aj (aF) ?_
 refine aj (bD) ?_
 refine aj (ah lV) ?_
 refine aj (ak wr aV) ?_
 refine aj (dO Tryz.underlying55) ?_
 refine ab (ap) ?_
 refine va ?_
 refine ag (ae (aE ?_))
 refine aY ?_
 exact⟨rfl,rfl⟩
theorem u9 (w:World) (g a b:Nat) (s:Cn) (gb gd:Nat) (Db Dd:Option Nat) (K:Option Addr) (ck:Nat) (V:Option Addr) (cv:Nat) (T:Option Addr) (ct:Nat) (X:Option Addr) (cx:Nat) (xs:List IT) (N:Option Addr) (cn:Nat) (A:Option Addr) (c:Nat) (aV:Blk w g 57 (vB s (⟨gb,gd,Db,Dd,K,ck,V,cv,T,ct,X,cx,xs,N,cn,A,c⟩:CnP))) (hR:CnR w g a b s (⟨gb,gd,Db,Dd,K,ck,V,cv,T,ct,X,cx,xs,N,cn,A,c⟩:CnP)) (p:Nat):
  Fn Tryz.prog 45 #[(.pointer (some ⟨g,0,none⟩)),(.int .i64 (↑p:Int))] w (fun v w'=>v=.int .i64 (fe s p:Int)∧Ext w w'):=by
 replace aV:Blk w g 57 [(.pointer (some ⟨gb,0,none⟩)),(.int .i64 (↑s.ci:Int)),(.int .i64 (↑s.co:Int)),(.int .i64 (↑s.cp:Int)),(.pointer (some ⟨gd,0,none⟩)),(.int .i64 (↑s.ph:Int)),(.int .i64 s.cmd.op),(.string (av s.cmd.key)),(.slice K s.cmd.keys.length ck),(.slice V s.cmd.value.length cv),(.slice T s.cmd.tags.length ct),(.int .u64 (↑s.cmd.life:Int)),(.int .u64 (↑s.cmd.ver:Int)),(.string (av s.cmd.tag)),(.string (av s.cmd.pre)),(.string (av s.cmd.child)),(.int .i64 s.ans.op),(.int .i64 s.ans.err),(.slice X s.ans.items.length cx),(.int .u64 (↑s.ans.ver:Int)),(.int .i64 s.ans.count),(.slice N s.ans.nums.length cn),(.slice A s.bs.length c)]:=aV
 have ep:=hR.ok
 obtain⟨kp1,kp2,ki1,ki2,ko1,khl,kph1,kph4,ksz,kbl,kan,kcb⟩:=id ep
 have hE:=aP w
 refine aO Tryz.func45 ?_
 refine af (aa ?_)
 refine va ?_
 refine ag (ae (af (a9 (af (aa ?_)))))
 refine vm ?_
 refine ab (aw zj (kh _ g s gb gd Db Dd K ck V cv T ct X cx xs N cn A c aV)) ?_
 refine va ?_
 refine ag (ae ?_)
 refine aC ?_
 refine af (aa ?_)
 refine vm ?_
 refine vn ?_
 refine ab (ah oa) ?_
 refine ab (ak mb aV) ?_
 refine vm ?_
 refine ab (bS) ?_
 refine va ?_
 refine ag (ae ?_)
 refine aL (fun eN=>?_) (fun eN=>?_)
 ·refine af (aa ?_)
  refine va ?_
  refine ag (ae (aE (aQ (az ?_))))
  refine aY ?_
  have e:fe s p=8:=if_neg (by omega)
  rw[e]
  exact⟨rfl,hE⟩
 ·refine aS (bb (ae (af (aa ?_))))
  refine va ?_
  refine ag (ae (aE ?_))
  refine aY ?_
  have e:fe s p=0:=if_pos (by omega)
  rw[e]
  exact⟨rfl,hE⟩
theorem CD (w:World) (g a b:Nat) (s:Cn) (gb gd:Nat) (Db Dd:Option Nat) (K:Option Addr) (ck:Nat) (V:Option Addr) (cv:Nat) (T:Option Addr) (ct:Nat) (X:Option Addr) (cx:Nat) (xs:List IT) (N:Option Addr) (cn:Nat) (A:Option Addr) (c:Nat) (aV:Blk w g 57 (vB s (⟨gb,gd,Db,Dd,K,ck,V,cv,T,ct,X,cx,xs,N,cn,A,c⟩:CnP))) (hR:CnR w g a b s (⟨gb,gd,Db,Dd,K,ck,V,cv,T,ct,X,cx,xs,N,cn,A,c⟩:CnP)):
  Fn Tryz.prog 25 #[(.pointer (some ⟨g,0,none⟩))] w (fun v w'=>v=.int .i64 (s.ph:Int)∧Ext w w'):=by
 replace aV:Blk w g 57 [(.pointer (some ⟨gb,0,none⟩)),(.int .i64 (↑s.ci:Int)),(.int .i64 (↑s.co:Int)),(.int .i64 (↑s.cp:Int)),(.pointer (some ⟨gd,0,none⟩)),(.int .i64 (↑s.ph:Int)),(.int .i64 s.cmd.op),(.string (av s.cmd.key)),(.slice K s.cmd.keys.length ck),(.slice V s.cmd.value.length cv),(.slice T s.cmd.tags.length ct),(.int .u64 (↑s.cmd.life:Int)),(.int .u64 (↑s.cmd.ver:Int)),(.string (av s.cmd.tag)),(.string (av s.cmd.pre)),(.string (av s.cmd.child)),(.int .i64 s.ans.op),(.int .i64 s.ans.err),(.slice X s.ans.items.length cx),(.int .u64 (↑s.ans.ver:Int)),(.int .i64 s.ans.count),(.slice N s.ans.nums.length cn),(.slice A s.bs.length c)]:=aV
 have ep:=hR.ok
 obtain⟨kp1,kp2,ki1,ki2,ko1,khl,kph1,kph4,ksz,kbl,kan,kcb⟩:=id ep
 have hE:=aP w
 refine aO Tryz.func25 ?_
 refine af (aa ?_)
 refine va ?_
 refine ag (ae (af (af (aa ?_))))
 refine vm ?_
 refine ab (aw zj (kh _ g s gb gd Db Dd K ck V cv T ct X cx xs N cn A c aV)) ?_
 refine ag (ae ?_)
 refine aC ?_
 refine aS (ae (af (aa ?_)))
 refine vm ?_
 refine vn ?_
 refine ab (ah oa) ?_
 refine ab (ak mb aV) ?_
 refine va ?_
 refine ag (ae (aE ?_))
 refine aY ?_
 exact⟨rfl,hE⟩
theorem CB (w:World) (g a b:Nat) (s:Cn) (gb gd:Nat) (Db Dd:Option Nat) (K:Option Addr) (ck:Nat) (V:Option Addr) (cv:Nat) (T:Option Addr) (ct:Nat) (X:Option Addr) (cx:Nat) (xs:List IT) (N:Option Addr) (cn:Nat) (A:Option Addr) (c:Nat) (aV:Blk w g 57 (vB s (⟨gb,gd,Db,Dd,K,ck,V,cv,T,ct,X,cx,xs,N,cn,A,c⟩:CnP))) (hR:CnR w g a b s (⟨gb,gd,Db,Dd,K,ck,V,cv,T,ct,X,cx,xs,N,cn,A,c⟩:CnP)):
  Fn Tryz.prog 21 #[(.pointer (some ⟨g,0,none⟩))] w (fun v w'=>v=.tuple #[.int .i64 (jo s.cl s.held:Int),.int .i64 (s.out.length:Int)]∧Ext w w'):=by
 replace aV:Blk w g 57 [(.pointer (some ⟨gb,0,none⟩)),(.int .i64 (↑s.ci:Int)),(.int .i64 (↑s.co:Int)),(.int .i64 (↑s.cp:Int)),(.pointer (some ⟨gd,0,none⟩)),(.int .i64 (↑s.ph:Int)),(.int .i64 s.cmd.op),(.string (av s.cmd.key)),(.slice K s.cmd.keys.length ck),(.slice V s.cmd.value.length cv),(.slice T s.cmd.tags.length ct),(.int .u64 (↑s.cmd.life:Int)),(.int .u64 (↑s.cmd.ver:Int)),(.string (av s.cmd.tag)),(.string (av s.cmd.pre)),(.string (av s.cmd.child)),(.int .i64 s.ans.op),(.int .i64 s.ans.err),(.slice X s.ans.items.length cx),(.int .u64 (↑s.ans.ver:Int)),(.int .i64 s.ans.count),(.slice N s.ans.nums.length cn),(.slice A s.bs.length c)]:=aV
 have ep:=hR.ok
 obtain⟨kp1,kp2,ki1,ki2,ko1,khl,kph1,kph4,ksz,kbl,kan,kcb⟩:=id ep
 have hE:=aP w
 refine aO Tryz.func21 ?_
 refine af (aa ?_)
 iterate 2 refine va ?_
 refine ag (ae (af (af (aa ?_))))
 refine vm ?_
 refine ab (aw zj (kh _ g s gb gd Db Dd K ck V cv T ct X cx xs N cn A c aV)) ?_
 refine ag (ae ?_)
 refine aC ?_
 refine aS (ae (af ?_))
 refine cC ej 9 [(6,a0 (.pointer (some ⟨g,0,none⟩))),(7,a0 (.pointer (some ⟨g,0,none⟩))),(8,a0 (.pointer (some ⟨g,4,none⟩))),(9,a0 (.pointer (some ⟨gd,0,none⟩))),(10,a0 (.int .i64 (↑(jo s.cl s.held):Int))),(11,a0 (.pointer (some ⟨g,0,none⟩))),(12,a0 (.pointer (some ⟨g,0,none⟩))),(13,a0 (.pointer (some ⟨g,0,none⟩))),(14,a0 (.pointer (some ⟨gb,0,none⟩)))] [[],[0],[1],[2],[3],[],[5],[6],[7]] _ [] [] (fun _ _ h=>h) trivial (by kernel_rfl) rfl ?_ ?_
 ·repeat' apply And.intro
  all_goals first|exact trivial|(intro wd bW;replace aV:=aV.ext bW;replace hR:=hR.ext bW;(repeat rintro _ rfl))
  exact am (ax (aF))
  exact am (ax (bD))
  exact am (ax (ah lV))
  exact am (ax (ak wr aV))
  ·refine am (OpRun.mono (aw RW (xE _ 0 gd Dd s.cp s.cl s.held hR.dec (by omega))) ?_)
   rintro v w1 ⟨rfl,cY⟩
   exact⟨rfl,cY⟩
  exact am (ax (aF))
  exact am (ax (bD))
  exact am (ax (ah rP))
  exact am (ax (ak Hl aV))
 ·intro wf3 B7
  replace hR:=hR.ext B7
  replace hE:=hE.tr B7
  iterate 9 rintro _ rfl
  refine ar (aw IZ (qv _ 0 gb Db s.co s.out s.pt s.tk hR.buf)) ?_
  rintro v w1 ⟨rfl,jm⟩
  replace hE:=hE.tr jm
  iterate 2 refine va ?_
  refine ag (ae (aE ?_))
  refine cX ?_
  exact⟨rfl,hE⟩
theorem rW (w:World) (i o p:Int) (B4:-9223372036854775808≤i) (eO:i≤9223372036854775807) (EB:-9223372036854775808≤o) (CW:o≤9223372036854775807) (NO:-9223372036854775808≤p) (NN:p≤9223372036854775807):
  Fn Tryz.prog 27 #[(.agg #[(.int .i64 i),(.int .i64 o),(.int .i64 p)])] w (fun v w'=>v=.bool (decide (cfOk i o p))∧Ext w w'):=by
 have hE:=aP w
 refine aO Tryz.func27 ?_
 refine af (aa ?_)
 refine ar (bU) ?_
 rintro v w1 ⟨g1,rfl,au,dL,kM,ls⟩
 replace hE:=hE.tr dL
 refine va ?_
 refine ag (ae (af (a9 (af (aa ?_)))))
 refine ab (ah mR) ?_
 refine ab (ak gg au) ?_
 refine ab (bz) ?_
 refine aG (d:=6) (fun h6=>?_) (fun h6=>?_)
 ·refine vm ?_
  iterate 3 refine aA ?_
  refine ab (ay) ?_
  refine va ?_
  refine ag (ae ?_)
  refine aR ?_
  refine af (aa ?_)
  refine va ?_
  refine ag (ae (aE (aQ (az ?_))))
  refine aY ?_
  first
   |(rw[decide_eq_true (show cfOk i o p from⟨by omega,by omega,by omega,by omega,by omega,by omega⟩)];exact⟨rfl,hE⟩)
   |(rw[decide_eq_false (show¬cfOk i o p from fun q=>by obtain⟨q1,q2,q3,q4,q5,q6⟩:=q;omega)];exact⟨rfl,hE⟩)
 ·refine vm ?_
  refine aj (ah mR) ?_
  refine aj (ak gg au) ?_
  refine aj (bw) ?_
  refine aG (d:=10) (fun RF=>?_) (fun RF=>?_)
  ·refine ab (ap) ?_
   refine va ?_
   refine ag (ae ?_)
   refine aR ?_
   refine af (aa ?_)
   refine va ?_
   refine ag (ae (aE (aQ (az ?_))))
   refine aY ?_
   first
    |(rw[decide_eq_true (show cfOk i o p from⟨by omega,by omega,by omega,by omega,by omega,by omega⟩)];exact⟨rfl,hE⟩)
    |(rw[decide_eq_false (show¬cfOk i o p from fun q=>by obtain⟨q1,q2,q3,q4,q5,q6⟩:=q;omega)];exact⟨rfl,hE⟩)
  ·refine ab (ap) ?_
   refine va ?_
   refine ag (ae ?_)
   refine aC ?_
   refine af (aa ?_)
   refine ab (ah mS) ?_
   refine ab (ak gg au) ?_
   refine ab (ah mR) ?_
   refine ab (ak gg au) ?_
   refine ab (bH) ?_
   refine ab (bz) ?_
   refine aG (d:=18) (fun Yq=>?_) (fun Yq=>?_)
   ·refine vm ?_
    iterate 3 refine aA ?_
    refine ab (ay) ?_
    refine va ?_
    refine ag (ae ?_)
    refine aR ?_
    refine af (aa ?_)
    refine va ?_
    refine ag (ae (aE (aQ (az ?_))))
    refine aY ?_
    first
     |(rw[decide_eq_true (show cfOk i o p from⟨by omega,by omega,by omega,by omega,by omega,by omega⟩)];exact⟨rfl,hE⟩)
     |(rw[decide_eq_false (show¬cfOk i o p from fun q=>by obtain⟨q1,q2,q3,q4,q5,q6⟩:=q;omega)];exact⟨rfl,hE⟩)
   ·refine vm ?_
    refine aj (ah mS) ?_
    refine aj (ak gg au) ?_
    refine aj (bw) ?_
    refine aG (d:=22) (fun sk=>?_) (fun sk=>?_)
    ·refine ab (ap) ?_
     refine va ?_
     refine ag (ae ?_)
     refine aR ?_
     refine af (aa ?_)
     refine va ?_
     refine ag (ae (aE (aQ (az ?_))))
     refine aY ?_
     first
      |(rw[decide_eq_true (show cfOk i o p from⟨by omega,by omega,by omega,by omega,by omega,by omega⟩)];exact⟨rfl,hE⟩)
      |(rw[decide_eq_false (show¬cfOk i o p from fun q=>by obtain⟨q1,q2,q3,q4,q5,q6⟩:=q;omega)];exact⟨rfl,hE⟩)
    ·refine ab (ap) ?_
     refine va ?_
     refine ag (ae ?_)
     refine aC ?_
     refine aS (bb (ae (af (aa ?_))))
     refine ab (ah la) ?_
     refine ab (ak gg au) ?_
     refine ab (fX) ?_
     refine aG (d:=26) (fun RD=>?_) (fun RD=>?_)
     ·refine vm ?_
      refine aj (ah la) ?_
      refine aj (ak gg au) ?_
      refine aj (dl) ?_
      refine aG (d:=30) (fun Yn=>?_) (fun Yn=>?_)
      ·refine ab (ay) ?_
       refine va ?_
       refine ag (ae (aE ?_))
       refine aY ?_
       first
        |(rw[decide_eq_true (show cfOk i o p from⟨by omega,by omega,by omega,by omega,by omega,by omega⟩)];exact⟨rfl,hE⟩)
        |(rw[decide_eq_false (show¬cfOk i o p from fun q=>by obtain⟨q1,q2,q3,q4,q5,q6⟩:=q;omega)];exact⟨rfl,hE⟩)
      ·refine ab (ay) ?_
       refine va ?_
       refine ag (ae (aE ?_))
       refine aY ?_
       first
        |(rw[decide_eq_true (show cfOk i o p from⟨by omega,by omega,by omega,by omega,by omega,by omega⟩)];exact⟨rfl,hE⟩)
        |(rw[decide_eq_false (show¬cfOk i o p from fun q=>by obtain⟨q1,q2,q3,q4,q5,q6⟩:=q;omega)];exact⟨rfl,hE⟩)
     ·refine vm ?_
      iterate 3 refine aA ?_
      refine ab (ap) ?_
      refine va ?_
      refine ag (ae (aE ?_))
      refine aY ?_
      first
       |(rw[decide_eq_true (show cfOk i o p from⟨by omega,by omega,by omega,by omega,by omega,by omega⟩)];exact⟨rfl,hE⟩)
       |(rw[decide_eq_false (show¬cfOk i o p from fun q=>by obtain⟨q1,q2,q3,q4,q5,q6⟩:=q;omega)];exact⟨rfl,hE⟩)
/-- A connection in memory: its block, the blocks that its steps may change, from where to where what is read alone lies. -/
def Cnn (w:World) (g:Nat) (S:List Nat) (a b:Nat) (s:Cn):Prop:=∃p:CnP,S=cnS g p∧Blk w g 57 (vB s p)∧CnR w g a b s p
theorem Cnn.mk {w:World} {g a b:Nat} {s:Cn} (p:CnP) (hb:Blk w g 57 (vB s p)) (hR:CnR w g a b s p):Cnn w g (cnS g p) a b s:=⟨p,rfl,hb,hR⟩
theorem u5 (w:World) (i o p:Nat) (hc:16≤p∧p≤2097152∧p+8≤i∧i≤4194304∧64≤o∧o≤1048576):
  Fn Tryz.prog 11 #[(.agg #[(.int .i64 (↑i:Int)),(.int .i64 (↑o:Int)),(.int .i64 (↑p:Int))])] w (fun v w'=>∃g S a,v=.tuple #[.pointer (some ⟨g,0,none⟩),.int .i64 0]∧Cnn w' g S a a (r3 i o p)∧(∀x∈S,w.heap.size≤x)∧Ext w w'):=by
 have hE:=aP w
 refine aO (args:=[(.agg #[(.int .i64 (↑i:Int)),(.int .i64 (↑o:Int)),(.int .i64 (↑p:Int))])]) Tryz.func11 ?_
 refine af (aa ?_)
 refine ar (bU (cs:=[(.int .i64 (↑i:Int)),(.int .i64 (↑o:Int)),(.int .i64 (↑p:Int))])) ?_
 rintro v w1 ⟨g1,rfl,au,dL,kM,ls⟩
 replace hE:=hE.tr dL
 iterate 2 refine va ?_
 refine ag (ae (af (af (aa ?_))))
 refine ab (aK (cs:=[(.int .i64 (↑i:Int)),(.int .i64 (↑o:Int)),(.int .i64 (↑p:Int))]) lb au) ?_
 refine ar (aw R0 (rW _ (↑i:Int) (↑o:Int) (↑p:Int) (by omega) (by omega) (by omega) (by omega) (by omega) (by omega))) ?_
 rintro v w2 ⟨rfl,ii⟩
 replace hE:=hE.tr ii
 replace au:=au.ext ii
 have rc:=ii.size
 refine aN (d:=9) rfl (bt (by unfold cfOk;omega)) ?_
 refine ab (b6 (b:=true)) ?_
 refine ag (ae ?_)
 refine aC ?_
 refine aS (ae (af (aa ?_)))
 refine ab (ah (off:=1) la) ?_
 refine ab (ak gg au) ?_
 refine ar (aw Y6 (Je _ (o) (by omega) (by omega))) ?_
 rintro v w3 ⟨gn14,rfl,Cg,jV,hg114⟩
 replace hE:=hE.tr jV
 replace au:=au.ext jV
 have Zg:=Cg.lt.1
 refine vm ?_
 iterate 2 refine vx ?_
 iterate 2 refine va ?_
 refine ag (ae (af (aa ?_)))
 refine ab (ah (off:=2) mR) ?_
 refine ab (ak gg au) ?_
 refine ar (aw Y5 (IP _ (p) (by omega))) ?_
 rintro v w4 ⟨gn20,rfl,Is,lP,hg120⟩
 replace hE:=hE.tr lP
 replace au:=au.ext lP
 replace Cg:=Cg.ext lP
 have Zf:=Is.lt.1
 refine vm ?_
 iterate 2 refine vx ?_
 iterate 2 refine va ?_
 refine ag (ae (af (af (aa ?_))))
 refine vm ?_
 refine ab (bS) ?_
 refine vm ?_
 refine aj (aF) ?_
 refine aj (bS) ?_
 refine ab (ap) ?_
 refine ag (ae ?_)
 refine aC ?_
 refine aS (ae (af (aa ?_)))
 refine vm ?_
 refine ab (aK (cs:=[(.int .i64 (↑i:Int)),(.int .i64 (↑o:Int)),(.int .i64 (↑p:Int))]) lb au) ?_
 refine vm ?_
 refine ab (bi (cs:=[(.pointer (some ⟨gn14,0,none⟩)),(.int .i64 (↑i:Int)),(.int .i64 (↑o:Int)),(.int .i64 (↑p:Int)),(.pointer (some ⟨gn20,0,none⟩)),(.int .i64 1),(.int .i64 0),(.string (av [])),(.slice none 0 0),(.slice none 0 0),(.slice none 0 0),(.int .u64 0),(.int .u64 0),(.string (av [])),(.string (av [])),(.string (av [])),(.int .i64 0),(.int .i64 0),(.slice none 0 0),(.int .u64 0),(.int .i64 0),(.slice none 0 0),(.slice none 0 0)]) NZ TO (hf:=by kernel_rfl)) ?_
 refine ar (bU (cs:=[(.pointer (some ⟨gn14,0,none⟩)),(.int .i64 (↑i:Int)),(.int .i64 (↑o:Int)),(.int .i64 (↑p:Int)),(.pointer (some ⟨gn20,0,none⟩)),(.int .i64 1),(.int .i64 0),(.string (av [])),(.slice none 0 0),(.slice none 0 0),(.slice none 0 0),(.int .u64 0),(.int .u64 0),(.string (av [])),(.string (av [])),(.string (av [])),(.int .i64 0),(.int .i64 0),(.slice none 0 0),(.int .u64 0),(.int .i64 0),(.slice none 0 0),(.slice none 0 0)])) ?_
 rintro v w5 ⟨g33,rfl,Mm,jC,hl33,hu33⟩
 replace hE:=hE.tr jC
 replace Cg:=Cg.ext jC
 replace Is:=Is.ext jC
 iterate 2 refine va ?_
 refine ag (ae (aE ?_))
 refine cX ?_
 refine⟨g33,_,w5.heap.size,rfl,Cnn.mk (s:=r3 i o p) ⟨gn14,gn20,none,none,none,0,none,0,none,0,none,0,[],none,0,none,0⟩ Mm ?_,?_,hE⟩
 ·refine⟨Buf.mono Cg (Nat.zero_le _),Dec.mono Is (Nat.zero_le _),Rd.nil _ _ _ _ _ _ (Nat.zero_le _),Rd.nil _ _ _ _ _ _ (Nat.zero_le _),Rd.nil _ _ _ _ _ _ (Nat.zero_le _),rfl,RdI.nil _ _ _,Rd.nil _ _ _ _ _ _ (Nat.zero_le _),Rd.nil _ _ _ _ _ _ (Nat.zero_le _),?_,by omega,?_,⟨(fun e=>by cases e),(fun e=>by cases e),(fun e=>by cases e)⟩,⟨(fun e=>by cases e),(fun e=>by cases e),(fun e=>by cases e)⟩,(fun x e=>by cases e),?_⟩
  ·intro x hx
   rcases fk.1 hx with e|e|e|e|e
   ·omega
   ·have e2:x=gn14:=e;omega
   ·have e2:x=gn20:=e;omega
   ·cases e
   ·cases e
  ·show g33≠gn14∧g33≠gn20∧gn14≠gn20;omega
  ·exact⟨hc.1,hc.2.1,hc.2.2.1,hc.2.2.2.1,hc.2.2.2.2.1,Nat.zero_le _,Nat.le_refl _,by show 1≤4;decide,by show 0+10*0+100≤_;decide,Nat.zero_le _,.inr ⟨rfl,rfl⟩,⟨Nat.zero_le _,Nat.zero_le _,Nat.zero_le _⟩⟩
 ·intro x hx
  rcases fk.1 hx with e|e|e|e|e
  ·omega
  ·have e2:x=gn14:=e;omega
  ·have e2:x=gn20:=e;omega
  ·cases e
  ·cases e
theorem Gb (w:World) (i o p:Int) (hc:¬cfOk i o p) (B4:-9223372036854775808≤i) (eO:i≤9223372036854775807) (EB:-9223372036854775808≤o) (CW:o≤9223372036854775807) (NO:-9223372036854775808≤p) (NN:p≤9223372036854775807):
  Fn Tryz.prog 11 #[(.agg #[(.int .i64 i),(.int .i64 o),(.int .i64 p)])] w (fun v w'=>v=.tuple #[.pointer none,.int .i64 2]∧Ext w w'):=by
 have hE:=aP w
 refine aO Tryz.func11 ?_
 refine af (aa ?_)
 refine ar (bU) ?_
 rintro v w1 ⟨g1,rfl,au,dL,kM,ls⟩
 replace hE:=hE.tr dL
 iterate 2 refine va ?_
 refine ag (ae (af (af (aa ?_))))
 refine ab (aK (cs:=[(.int .i64 i),(.int .i64 o),(.int .i64 p)]) lb au) ?_
 refine ar (aw R0 (rW _ i o p (by omega) (by omega) (by omega) (by omega) (by omega) (by omega))) ?_
 rintro v w2 ⟨rfl,ii⟩
 replace hE:=hE.tr ii
 refine aN (d:=9) rfl (bf (hc)) ?_
 refine ab (b6) ?_
 refine ag (ae ?_)
 refine aR ?_
 refine af (aa ?_)
 iterate 2 refine va ?_
 refine ag (ae (aE (az ?_)))
 refine cX ?_
 exact⟨rfl,hE⟩
end Go.Proofs.YtiighkbehiddkaaGreat
