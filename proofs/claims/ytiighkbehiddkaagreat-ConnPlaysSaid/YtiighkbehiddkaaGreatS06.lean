/-
 The reference: equal responses.
 The reading of numbers and parts.
 The reading of values, lifetimes and lists.
-/
import Derived.Test.YtiighkbehiddkaaGreatS05
namespace Go.Proofs.YtiighkbehiddkaaGreat
open Go.RowKit
set_option linter.unusedVariables false
set_option maxRecDepth 4000
theorem Nt:aX Tryz.prog 52=true:=by kernel_rfl
theorem ra (w:World) (x y:Itm) (lo hi lo2 eO:Nat) (A:Option Addr) (c:Nat) (B:Option Addr) (d:Nat) (hA:RdB w lo hi A c x.value) (hB:RdB w lo2 eO B d y.value):
  Fn Tryz.prog 52 #[(.agg #[(.int .i64 x.mark),(.slice A x.value.length c),(.int .u64 (↑x.ver:Int)),(.int .u64 (↑x.dead:Int))]),(.agg #[(.int .i64 y.mark),(.slice B y.value.length d),(.int .u64 (↑y.ver:Int)),(.int .u64 (↑y.dead:Int))])] w (fun v w'=>v=.bool (decide (x=y))∧Ext w w'):=by
 have hE:=aP w
 refine aO Tryz.func52 ?_
 refine af (aa ?_)
 refine ar (bU) ?_
 rintro v w1 ⟨g2,rfl,aq,dk,my,nd⟩
 replace hA:=hA.ext dk
 replace hB:=hB.ext dk
 replace hE:=hE.tr dk
 refine ar (bU) ?_
 rintro v w2 ⟨g3,rfl,aM,d7,sy,su⟩
 replace hA:=hA.ext d7
 replace hB:=hB.ext d7
 replace hE:=hE.tr d7
 replace aq:=aq.ext d7
 refine va ?_
 refine ag (ae (af (aa ?_)))
 refine ab (ah fO) ?_
 refine ab (ak lg aq) ?_
 refine ab (ah fO) ?_
 refine ab (ak lg aM) ?_
 refine ve ?_
 refine aG (d:=9) (fun h9=>?_) (fun h9=>?_)
 ·refine vm ?_
  refine aj (ah iB) ?_
  refine aj (ak dc aq) ?_
  refine aj (gB cE Tryz.underlying9 hA) ?_
  refine aj (ah iB) ?_
  refine aj (ak dc aM) ?_
  refine aj (gB cE Tryz.underlying9 hB) ?_
  refine aj (mm) ?_
  refine aG (d:=17) (fun JV=>?_) (fun JV=>?_)
  ·refine ab (ay) ?_
   refine vm ?_
   refine aj (ah pI) ?_
   refine aj (ak ft aq) ?_
   refine aj (ah pI) ?_
   refine aj (ak ft aM) ?_
   refine aj (cI) ?_
   refine aG (d:=24) (fun RE=>?_) (fun RE=>?_)
   ·refine ab (ay) ?_
    refine vm ?_
    refine aj (ah pH) ?_
    refine aj (ak pg aq) ?_
    refine aj (ah pH) ?_
    refine aj (ak pg aM) ?_
    refine aj (cI) ?_
    refine aG (d:=31) (fun FT=>?_) (fun FT=>?_)
    ·refine ab (ay) ?_
     refine va ?_
     refine ag (ae (aE ?_))
     refine aY ?_
     exact⟨by rw[decide_eq_true (Itm.ext_iff'.2 ⟨h9,JV,(by omega),(by omega)⟩)],hE⟩
    ·refine ab (ay) ?_
     refine va ?_
     refine ag (ae (aE ?_))
     refine aY ?_
     exact⟨by rw[decide_eq_false (fun e=>FT (by rw[e]))],hE⟩
   ·refine ab (ay) ?_
    refine vm ?_
    iterate 5 refine aA ?_
    refine ab (ap) ?_
    refine va ?_
    refine ag (ae (aE ?_))
    refine aY ?_
    exact⟨by rw[decide_eq_false (fun e=>RE (by rw[e]))],hE⟩
  ·refine ab (ay) ?_
   refine vm ?_
   iterate 5 refine aA ?_
   refine ab (ap) ?_
   refine vm ?_
   iterate 5 refine aA ?_
   refine ab (ap) ?_
   refine va ?_
   refine ag (ae (aE ?_))
   refine aY ?_
   exact⟨by rw[decide_eq_false (fun e=>JV (by rw[e]))],hE⟩
 ·refine vm ?_
  iterate 7 refine aA ?_
  refine ab (ap) ?_
  refine vm ?_
  iterate 5 refine aA ?_
  refine ab (ap) ?_
  refine vm ?_
  iterate 5 refine aA ?_
  refine ab (ap) ?_
  refine va ?_
  refine ag (ae (aE ?_))
  refine aY ?_
  exact⟨by rw[decide_eq_false (fun e=>h9 (by rw[e]))],hE⟩
theorem j5 (w:World) (a:Rsp) (xs:List IT) (hv:vals xs=a.items) (lo hi:Nat) (X:Option Addr) (cx:Nat) (N:Option Addr) (cn:Nat) (hx:RdI w lo hi X cx xs) (hn:RdN w lo hi N cn a.nums) (b:Rsp) (xs2:List IT) (Jp:vals xs2=b.items) (lo2 eO:Nat) (X2:Option Addr) (cx2:Nat) (N2:Option Addr) (cn2:Nat) (h8:RdI w lo2 eO X2 cx2 xs2) (kA:RdN w lo2 eO N2 cn2 b.nums):
  Fn Tryz.prog 23 #[(.agg #[(.int .i64 a.op),(.int .i64 a.err),(.slice X a.items.length cx),(.int .u64 (↑a.ver:Int)),(.int .i64 a.count),(.slice N a.nums.length cn)]),(.agg #[(.int .i64 b.op),(.int .i64 b.err),(.slice X2 b.items.length cx2),(.int .u64 (↑b.ver:Int)),(.int .i64 b.count),(.slice N2 b.nums.length cn2)])] w (fun v w'=>v=.bool (decide (a=b))∧Ext w w'):=by
 replace hx:=hx.top
 replace hn:=Rd.top hn
 replace h8:=h8.top
 replace kA:=Rd.top kA
 have hE:=aP w
 obtain⟨hi,nr⟩:∃n,n=w.heap.size:=⟨_,rfl⟩
 rw[←nr] at hx hn h8 kA
 obtain⟨eO,hh2⟩:∃n,n=hi:=⟨_,rfl⟩
 rw[←hh2] at h8 kA
 have mu:=cP xs
 have UH:=cP xs2
 rw[hv] at mu
 rw[Jp] at UH
 have fR:=hx.1.2.1
 have E4:=hx.1.1
 have tl:=hn.2.1
 have hcn1:=hn.1
 simp only[maxLen] at fR tl
 refine aO Tryz.func23 ?_
 refine af (aa ?_)
 refine ar (bU) ?_
 rintro v w1 ⟨g2,rfl,aq,dk,my,nd⟩
 replace hx:=RdI.ext hx dk
 replace hn:=hn.ext dk
 replace h8:=RdI.ext h8 dk
 replace kA:=kA.ext dk
 replace hE:=hE.tr dk
 refine ar (bU) ?_
 rintro v w2 ⟨g3,rfl,aM,d7,sy,su⟩
 replace hx:=RdI.ext hx d7
 replace hn:=hn.ext d7
 replace h8:=RdI.ext h8 d7
 replace kA:=kA.ext d7
 replace hE:=hE.tr d7
 replace aq:=aq.ext d7
 refine va ?_
 refine ag (ae (af (af (aa ?_))))
 refine ab (ah cj) ?_
 refine ab (ak cO aq) ?_
 refine ab (ah cj) ?_
 refine ab (ak cO aM) ?_
 refine ab (bS) ?_
 refine aG (d:=11) (fun Ty=>?_) (fun Ty=>?_)
 ·refine vm ?_
  iterate 5 refine aA ?_
  refine ab (ay) ?_
  refine vm ?_
  iterate 5 refine aA ?_
  refine ab (ay) ?_
  refine vm ?_
  iterate 5 refine aA ?_
  refine ab (ay) ?_
  refine vm ?_
  iterate 7 refine aA ?_
  refine ab (ay) ?_
  refine vm ?_
  iterate 7 refine aA ?_
  refine ab (ay) ?_
  refine ag (ae ?_)
  refine aR ?_
  refine af (aa ?_)
  refine va ?_
  refine ag (ae (aE (az ?_)))
  refine aY ?_
  exact⟨by rw[decide_eq_false (fun e=>Ty (by rw[e]))],hE⟩
 ·refine vm ?_
  refine aj (ah cK) ?_
  refine aj (ak fb aq) ?_
  refine aj (ah cK) ?_
  refine aj (ak fb aM) ?_
  refine aj (bS) ?_
  refine aG (d:=17) (fun JV=>?_) (fun JV=>?_)
  ·refine ab (ap) ?_
   refine vm ?_
   iterate 5 refine aA ?_
   refine ab (ay) ?_
   refine vm ?_
   iterate 5 refine aA ?_
   refine ab (ay) ?_
   refine vm ?_
   iterate 7 refine aA ?_
   refine ab (ay) ?_
   refine vm ?_
   iterate 7 refine aA ?_
   refine ab (ay) ?_
   refine ag (ae ?_)
   refine aR ?_
   refine af (aa ?_)
   refine va ?_
   refine ag (ae (aE (az ?_)))
   refine aY ?_
   exact⟨by rw[decide_eq_false (fun e=>JV (by rw[e]))],hE⟩
  ·refine ab (ap) ?_
   refine vm ?_
   refine aj (ah lW) ?_
   refine aj (ak ft aq) ?_
   refine aj (ah lW) ?_
   refine aj (ak ft aM) ?_
   refine aj (bS) ?_
   refine aG (d:=24) (fun RE=>?_) (fun RE=>?_)
   ·refine ab (ap) ?_
    refine vm ?_
    iterate 5 refine aA ?_
    refine ab (ay) ?_
    refine vm ?_
    iterate 7 refine aA ?_
    refine ab (ay) ?_
    refine vm ?_
    iterate 7 refine aA ?_
    refine ab (ay) ?_
    refine ag (ae ?_)
    refine aR ?_
    refine af (aa ?_)
    refine va ?_
    refine ag (ae (aE (az ?_)))
    refine aY ?_
    exact⟨by rw[decide_eq_false (fun e=>RE (by rw[e]))],hE⟩
   ·refine ab (ap) ?_
    refine vm ?_
    refine aj (ah dE) ?_
    refine aj (ak gg aq) ?_
    refine aj (ah dE) ?_
    refine aj (ak gg aM) ?_
    refine aj (bS) ?_
    refine aG (d:=31) (fun FT=>?_) (fun FT=>?_)
    ·refine ab (ap) ?_
     refine vm ?_
     iterate 7 refine aA ?_
     refine ab (ay) ?_
     refine vm ?_
     iterate 7 refine aA ?_
     refine ab (ay) ?_
     refine ag (ae ?_)
     refine aR ?_
     refine af (aa ?_)
     refine va ?_
     refine ag (ae (aE (az ?_)))
     refine aY ?_
     exact⟨by rw[decide_eq_false (fun e=>FT (by rw[e]))],hE⟩
    ·refine ab (ap) ?_
     refine vm ?_
     refine aj (ah cJ) ?_
     refine aj (ak fA aq) ?_
     refine aj (bj Tryz.underlying40) ?_
     refine aj (ah cJ) ?_
     refine aj (ak fA aM) ?_
     refine aj (bj Tryz.underlying40) ?_
     refine aj (bS) ?_
     refine aG (d:=40) (fun Cu=>?_) (fun Cu=>?_)
     ·refine ab (ap) ?_
      refine vm ?_
      iterate 7 refine aA ?_
      refine ab (ay) ?_
      refine ag (ae ?_)
      refine aR ?_
      refine af (aa ?_)
      refine va ?_
      refine ag (ae (aE (az ?_)))
      refine aY ?_
      exact⟨by rw[decide_eq_false (fun e=>Cu (by rw[e]))],hE⟩
     ·refine ab (ap) ?_
      refine vm ?_
      refine aj (ah dI) ?_
      refine aj (ak iG aq) ?_
      refine aj (bj Tryz.underlying41) ?_
      refine aj (ah dI) ?_
      refine aj (ak iG aM) ?_
      refine aj (bj Tryz.underlying41) ?_
      refine aj (bS) ?_
      refine aG (d:=49) (fun h49=>?_) (fun h49=>?_)
      ·refine ab (ap) ?_
       refine ag (ae ?_)
       refine aR ?_
       refine af (aa ?_)
       refine va ?_
       refine ag (ae (aE (az ?_)))
       refine aY ?_
       exact⟨by rw[decide_eq_false (fun e=>h49 (by rw[e]))],hE⟩
      ·refine ab (ap) ?_
       refine ag (ae ?_)
       refine aC ?_
       refine aS (ae (af (af (aa ?_))))
       refine va ?_
       refine ag (ae (a9 ?_))
       refine cU (fun i=>a.items.length - i) (fun i=>[(2,.pointer (some ⟨g2,0,none⟩)),(3,.pointer (some ⟨g3,0,none⟩)),(5,.int .i64 (i:Int))]) (fun i w'=>i≤a.items.length∧a.items.take i=b.items.take i∧RdI w' lo hi X cx xs∧RdN w' lo hi N cn a.nums∧RdI w' lo2 eO X2 cx2 xs2∧RdN w' lo2 eO N2 cn2 b.nums∧Ext w w'∧Blk w' g2 43 (b9 a X cx N cn)∧Blk w' g3 43 (b9 b X2 cx2 N2 cn2)) (0) (⟨Nat.zero_le _,rfl,hx,hn,h8,kA,hE,aq,aM⟩) ?_ (hL:=⟨rfl,rfl,rfl,trivial⟩)
       rintro i wq5 ⟨nh,no,hx,hn,h8,kA,hE,aq,aM⟩
       have ud:=hE.size
       have Ph:=aq.lt
       have hz3:=aM.lt
       refine af (af (aa ?_))
       refine vm ?_
       refine ab (ah cJ) ?_
       refine ab (ak fA aq) ?_
       refine ab (bj Tryz.underlying40) ?_
       refine ab (bz) ?_
       refine ag (ae ?_)
       refine aL (fun eN=>?_) (fun eN=>?_)
       ·obtain⟨x,sj⟩:∃s,xs[i]?=some s:=⟨_,List.getElem?_eq_getElem (by omega)⟩
        obtain⟨y,ng⟩:∃s,xs2[i]?=some s:=⟨_,List.getElem?_eq_getElem (by omega)⟩
        refine aS (ae (af (a9 (af ?_))))
        refine cC ej 10 [(58,a0 (.pointer (some ⟨g2,2,none⟩))),(59,a0 (.slice X xs.length cx)),(60,a0 (.int .i64 (↑i:Int))),(61,i0 [(.int .i64 x.1.mark),(.slice x.2.1 x.1.value.length x.2.2),(.int .u64 (↑x.1.ver:Int)),(.int .u64 (↑x.1.dead:Int))]),(62,a0 (.agg #[(.int .i64 x.1.mark),(.slice x.2.1 x.1.value.length x.2.2),(.int .u64 (↑x.1.ver:Int)),(.int .u64 (↑x.1.dead:Int))])),(63,a0 (.pointer (some ⟨g3,2,none⟩))),(64,a0 (.slice X2 xs2.length cx2)),(65,a0 (.int .i64 (↑i:Int))),(66,i0 [(.int .i64 y.1.mark),(.slice y.2.1 y.1.value.length y.2.2),(.int .u64 (↑y.1.ver:Int)),(.int .u64 (↑y.1.dead:Int))]),(67,a0 (.agg #[(.int .i64 y.1.mark),(.slice y.2.1 y.1.value.length y.2.2),(.int .u64 (↑y.1.ver:Int)),(.int .u64 (↑y.1.dead:Int))]))] [[],[0],[],[1,2],[3],[],[5],[],[6,7],[8]] _ [] [] (fun _ _ h=>h) trivial (by kernel_rfl) rfl ?_ ?_
        ·repeat' apply And.intro
         all_goals first|exact trivial|(intro wd bW;replace aq:=aq.ext bW;replace hx:=RdI.ext hx bW;replace aM:=aM.ext bW;replace h8:=RdI.ext h8 bW;(repeat rintro _ rfl))
         exact am (ax (ah cJ))
         exact am (qO (ak fA aq) (by rw[←hv,cP]))
         exact am (ax (aF))
         ·refine am (OpRun.mono (cS nm hx.1 sj) ?_)
          rintro v _ ⟨rfl,p61,rfl,BM,PS,P2⟩
          exact⟨⟨p61,rfl,BM⟩,aP _⟩
         ·rintro _ ⟨p61,rfl,BM⟩
          show eV _ _ _ _ _ _
          exact am (ax (dX jI BM))
         exact am (ax (ah cJ))
         exact am (qO (ak fA aM) (by rw[←Jp,cP]))
         exact am (ax (aF))
         ·refine am (OpRun.mono (cS nm h8.1 ng) ?_)
          rintro v _ ⟨rfl,p66,rfl,BL,PQ,P1⟩
          exact⟨⟨p66,rfl,BL⟩,aP _⟩
         ·rintro _ ⟨p66,rfl,BL⟩
          show eV _ _ _ _ _ _
          exact am (ax (dX jI BL))
        ·intro wf6 nz
         replace hx:=RdI.ext hx nz
         replace hn:=hn.ext nz
         replace h8:=RdI.ext h8 nz
         replace kA:=kA.ext nz
         replace hE:=hE.tr nz
         replace aq:=aq.ext nz
         replace aM:=aM.ext nz
         iterate 3 rintro _ rfl
         rintro _ ⟨p61,rfl,BM⟩
         iterate 4 rintro _ rfl
         rintro _ ⟨p66,rfl,BL⟩
         rintro _ rfl
         refine ar (aw Nt (ra _ x.1 y.1 _ _ _ _ _ _ _ _ (hx.2 x (List.mem_of_getElem? sj)) (h8.2 y (List.mem_of_getElem? ng)))) ?_
         rintro v w203 ⟨rfl,rB⟩
         replace hx:=RdI.ext hx rB
         replace hn:=hn.ext rB
         replace h8:=RdI.ext h8 rB
         replace kA:=kA.ext rB
         replace hE:=hE.tr rB
         replace aq:=aq.ext rB
         replace aM:=aM.ext rB
         refine ab (b6) ?_
         refine aN (d:=69) rfl (v':=(.bool (decide (¬x.1=y.1)))) (by by_cases h:x.1=y.1<;>simp[h]) ?_
         refine ag (ae ?_)
         refine aL (fun e9=>?_) (fun e9=>?_)
         ·have eB:¬a=b:=fun e=>by have h5:=io sj;rw[hv,e,←Jp,io ng] at h5;exact e9 (Option.some.inj h5).symm
          refine af (aa ?_)
          refine va ?_
          refine ag (ae (aE (aQ (az (az (aQ (az ?_)))))))
          refine aY ?_
          exact⟨by rw[decide_eq_false eB],hE⟩
         ·have heq:x.1=y.1:=Decidable.not_not.1 e9
          refine aS (bb (ae (aa ?_)))
          refine vm ?_
          refine ab (bH) ?_
          refine va ?_
          refine ag ?_
          refine cB (i+1) (by show a.items.length -(i+1)<a.items.length - i;omega) (⟨by omega,oq no (hv▸io sj) ((Jp▸io ng).trans (congrArg some heq.symm)),hx,hn,h8,kA,hE,aq,aM⟩) (hL:=⟨rfl,rfl,rfl,trivial⟩)
       ·have Wu:a.items=b.items:=by rw[List.take_of_length_le (by omega),List.take_of_length_le (by omega)] at no;exact no
        clear no nh
        refine cW (bx (bx (ce (ae (af (af (aa ?_)))))))
        refine va ?_
        refine ag (ae (a9 ?_))
        refine cU (fun i=>a.nums.length - i) (fun i=>[(2,.pointer (some ⟨g2,0,none⟩)),(3,.pointer (some ⟨g3,0,none⟩)),(6,.int .i64 (i:Int))]) (fun i w'=>i≤a.nums.length∧a.nums.take i=b.nums.take i∧RdI w' lo hi X cx xs∧RdN w' lo hi N cn a.nums∧RdI w' lo2 eO X2 cx2 xs2∧RdN w' lo2 eO N2 cn2 b.nums∧Ext w w'∧Blk w' g2 43 (b9 a X cx N cn)∧Blk w' g3 43 (b9 b X2 cx2 N2 cn2)) (0) (⟨Nat.zero_le _,rfl,hx,hn,h8,kA,hE,aq,aM⟩) ?_ (hL:=⟨rfl,rfl,rfl,trivial⟩)
        rintro i wq6 ⟨nh,no,hx,hn,h8,kA,hE,aq,aM⟩
        have ud:=hE.size
        have Ph:=aq.lt
        have hz3:=aM.lt
        refine af (af (aa ?_))
        refine vm ?_
        refine ab (ah dI) ?_
        refine ab (ak iG aq) ?_
        refine ab (bj Tryz.underlying41) ?_
        refine ab (bz) ?_
        refine ag (ae ?_)
        refine aL (fun iD=>?_) (fun iD=>?_)
        ·obtain⟨s1,sj⟩:∃s,a.nums[i]?=some s:=⟨_,List.getElem?_eq_getElem (by omega)⟩
         obtain⟨s2,ng⟩:∃s,b.nums[i]?=some s:=⟨_,List.getElem?_eq_getElem (by omega)⟩
         refine aS (ae (af (a9 (af ?_))))
         refine cC ej 10 [(77,a0 (.pointer (some ⟨g2,5,none⟩))),(78,a0 (.slice N a.nums.length cn)),(79,a0 (.int .i64 (↑i:Int))),(80,i0 [(.int .u64 (↑s1:Int))]),(81,a0 (.int .u64 (↑s1:Int))),(82,a0 (.pointer (some ⟨g3,5,none⟩))),(83,a0 (.slice N2 b.nums.length cn2)),(84,a0 (.int .i64 (↑i:Int))),(85,i0 [(.int .u64 (↑s2:Int))]),(86,a0 (.int .u64 (↑s2:Int)))] [[],[0],[],[1,2],[3],[],[5],[],[6,7],[8]] _ [] [] (fun _ _ h=>h) trivial (by kernel_rfl) rfl ?_ ?_
         ·repeat' apply And.intro
          all_goals first|exact trivial|(intro wd bW;replace aq:=aq.ext bW;replace hn:=hn.ext bW;replace aM:=aM.ext bW;replace kA:=kA.ext bW;(repeat rintro _ rfl))
          exact am (ax (ah dI))
          exact am (ax (ak iG aq))
          exact am (ax (aF))
          ·refine am (OpRun.mono (cS sn hn sj) ?_)
           rintro v _ ⟨rfl,p80,rfl,H2,Zz,ZK⟩
           exact⟨⟨p80,rfl,H2⟩,aP _⟩
          ·rintro _ ⟨p80,rfl,H2⟩
           show eV _ _ _ _ _ _
           exact am (ax (dv ft rfl (fg H2)))
          exact am (ax (ah dI))
          exact am (ax (ak iG aM))
          exact am (ax (aF))
          ·refine am (OpRun.mono (cS sn kA ng) ?_)
           rintro v _ ⟨rfl,p85,rfl,H1,Zy,ZJ⟩
           exact⟨⟨p85,rfl,H1⟩,aP _⟩
          ·rintro _ ⟨p85,rfl,H1⟩
           show eV _ _ _ _ _ _
           exact am (ax (dv ft rfl (fg H1)))
         ·intro wf11 nt
          replace hx:=RdI.ext hx nt
          replace hn:=hn.ext nt
          replace h8:=RdI.ext h8 nt
          replace kA:=kA.ext nt
          replace hE:=hE.tr nt
          replace aq:=aq.ext nt
          replace aM:=aM.ext nt
          have Hy:=nt.size
          iterate 3 rintro _ rfl
          rintro _ ⟨p80,rfl,H2⟩
          iterate 4 rintro _ rfl
          rintro _ ⟨p85,rfl,H1⟩
          rintro _ rfl
          refine ab (bS) ?_
          refine ag (ae ?_)
          refine aL (fun ld=>?_) (fun ld=>?_)
          ·have eB:¬a=b:=fun e=>by rw[e,ng] at sj;have h5:=Option.some.inj sj;omega
           refine af (aa ?_)
           refine va ?_
           refine ag (ae (aE (aQ (az (az (aQ (az ?_)))))))
           refine aY ?_
           exact⟨by rw[decide_eq_false eB],hE⟩
          ·have heq:s1=s2:=by omega
           refine aS (bb (ae (aa ?_)))
           refine vm ?_
           refine ab (bH) ?_
           refine va ?_
           refine ag ?_
           refine cB (i+1) (by show a.nums.length -(i+1)<a.nums.length - i;omega) (⟨by omega,oq no sj (ng.trans (congrArg some heq.symm)),hx,hn,h8,kA,hE,aq,aM⟩) (hL:=⟨rfl,rfl,rfl,trivial⟩)
        ·have Wt:a.nums=b.nums:=by rw[List.take_of_length_le (by omega),List.take_of_length_le (by omega)] at no;exact no
         refine cW (bx (bx (ce (ae (af (aa ?_))))))
         refine va ?_
         refine ag (ae (aE ?_))
         refine aY ?_
         exact⟨by rw[decide_eq_true (Rsp.ext_iff'.2 ⟨by omega,by omega,Wu,by omega,by omega,Wt⟩)],hE⟩
end Go.Proofs.YtiighkbehiddkaaGreat
namespace Go.Proofs.YtiighkbehiddkaaGreat
open Go.RowKit
set_option linter.unusedVariables false
set_option maxRecDepth 4000
theorem fI:bB Tryz.prog 153 1=some 1:=by kernel_rfl
theorem dx:bB Tryz.prog 153 3=some 3:=by kernel_rfl
theorem jP:cu Tryz.prog 150=true:=by kernel_rfl
theorem p5:SliceTy Tryz.prog 35 9 1 16 (.string (av [])):=iI Tryz.underlying35 rfl
theorem vM:(Tryz.prog.info? 4).map (·.size)=some 1:=by kernel_rfl
theorem CU:(Tryz.prog.info? 9).map (·.size)=some 1:=by kernel_rfl
/-- What is read: a number, its rest, whether it is bad; a part; strings; a list of them. -/
def bO (l:List UInt8):Nat:=(bd l).1
def cz (l:List UInt8):List UInt8:=l.drop (bd l).2.1
def gq (l:List UInt8):Bool:=decide (((bd l).2.2:Int)≠0)
def bq (l:List UInt8):List UInt8:=(cM l 65536).1
def bh (l:List UInt8):List UInt8:=l.drop (cM l 65536).2.1
def cF (al:List UInt8→Bool) (l:List UInt8):Bool:=decide (((cM l 65536).2.2:Int)≠0)|| !al (bq l)
def rS (al:List UInt8→Bool):Nat→List UInt8→List (List UInt8)×List UInt8×Bool
 |0,l=>([],l,false)
 |n+1,l=>((rS al n l).1++[bq (rS al n l).2.1],bh (rS al n l).2.1,(rS al n l).2.2||cF al (rS al n l).2.1)
def p7 (a b:Nat) (l:List UInt8):List (List UInt8):=if bO l<a∨b<bO l then[] else(rS kv (bO l) (cz l)).1
def l3 (a b:Nat) (l:List UInt8):List UInt8:=if bO l<a∨b<bO l then cz l else(rS kv (bO l) (cz l)).2.1
def vl (a b:Nat) (al:List UInt8→Bool) (l:List UInt8):Bool:=if bO l<a∨b<bO l then true else gq l||(rS al (bO l) (cz l)).2.2
theorem iq (l:List UInt8):(cz l).length≤l.length:=by unfold cz;rw[List.length_drop];omega
theorem eT (l:List UInt8):(bh l).length≤l.length:=by unfold bh;rw[List.length_drop];omega
theorem pc (l:List UInt8):(bq l).length≤l.length:=(kD l 65536).1
theorem zU (l:List UInt8):bO l<18446744073709551616:=m1 l
theorem ip (al:List UInt8→Bool) (l:List UInt8):∀n,(rS al n l).1.length=n∧(rS al n l).2.1.length≤l.length
 |0=>⟨rfl,Nat.le_refl _⟩
 |n+1=>by
  have h:=ip al l n
  have h2:=eT (rS al n l).2.1
  exact⟨by rw[rS,List.length_append,h.1];rfl,by show(bh _).length≤_;omega⟩
theorem vZ (al al':List UInt8→Bool) (l:List UInt8):∀n,(rS al n l).1=(rS al' n l).1∧(rS al n l).2.1=(rS al' n l).2.1
 |0=>⟨rfl,rfl⟩
 |n+1=>by have h:=vZ al al' l n;simp only[rS,h.1,h.2,and_self]
theorem lz (a b:Nat) (l:List UInt8):(l3 a b l).length≤l.length:=by
 have h:=iq l
 unfold l3
 split
 ·exact h
 ·have:=(ip kv (cz l) (bO l)).2;omega
theorem yi {a b:Nat} {al:List UInt8→Bool} {l:List UInt8} (h:bO l<a∨b<bO l):p7 a b l=[]∧l3 a b l=cz l∧vl a b al l=true:=⟨if_pos h,if_pos h,if_pos h⟩
theorem Di {a b:Nat} (al:List UInt8→Bool) {l:List UInt8} (h:¬(bO l<a∨b<bO l)):p7 a b l=(rS al (bO l) (cz l)).1∧l3 a b l=(rS al (bO l) (cz l)).2.1∧vl a b al l=(gq l||(rS al (bO l) (cz l)).2.2):=
 ⟨(if_neg h).trans (vZ _ _ _ _).1,(if_neg h).trans (vZ _ _ _ _).2,if_neg h⟩
theorem zH (a b:Nat) (l:List UInt8):(p7 a b l).length≤b:=by
 unfold p7
 split
 ·exact Nat.zero_le _
 ·rw[(ip kv _ _).1];omega
/-- The rows of a string's list that is being read. -/
def o9 (al:List UInt8→Bool) (n i:Nat) (l:List UInt8):List Value:=(rS al i l).1.flatMap gO++List.replicate (n - i) (.string (av []))
theorem nj (xs:List (List UInt8)):xs.flatMap gO=xs.map fun s=>.string (av s):=by
 induction xs with
 |nil=>rfl
 |cons a r ih=>rw[List.flatMap_cons,ih];rfl
theorem vT (al:List UInt8→Bool) {n i:Nat} (l:List UInt8) (h:i≤n):(o9 al n i l).length=n:=by
 unfold o9;rw[List.length_append,nj,List.length_map,(ip al l i).1,List.length_replicate];omega
theorem vS (al:List UInt8→Bool) {n i:Nat} (l:List UInt8) (h:i<n):(o9 al n i l).set i (.string (av (bq (rS al i l).2.1)))=o9 al n (i+1) l:=by
 unfold o9
 have hl:((rS al i l).1.flatMap gO).length=i:=by rw[nj,List.length_map,(ip al l i).1]
 rw[List.set_append_right _ _ (by omega),hl,Nat.sub_self,show n - i=(n -(i+1))+1 by omega,List.replicate_succ,List.set_cons_zero]
 show _=((rS al i l).1++[bq (rS al i l).2.1]).flatMap gO++_
 rw[List.flatMap_append,List.append_assoc]
 rfl
theorem Dh (al:List UInt8→Bool) (n:Nat) (l:List UInt8):o9 al n 0 l=List.replicate n (.string (av [])):=by simp[o9,rS]
theorem Dg (al:List UInt8→Bool) (n:Nat) (l:List UInt8):o9 al n n l=(rS al n l).1.flatMap gO:=by simp[o9]
theorem r9 {k n:Nat} (h:k<n):Nat.blt k n=true:=Nat.blt_eq.mpr h
theorem Kd {cs:List Value} {k:Nat} {v:Value} (h:k<cs.length):(cs.set k v)[k]?=some v:=by rw[List.getElem?_set_self h]
/-- What is left of a reader. -/
def ee (w:World) (g lo hi:Nat) (l:List UInt8):Prop:=∃A c,Blk w g 178 [.bool true,.slice A l.length c]∧RdB w lo hi A c l
theorem Blk.rdL {w:World} {g n lo size:Nat} {t:TypeId} {cs:List Value} (h:Blk w g t cs) (hl:cs.length=n*size) (hn:n≤maxLen) (hg:lo≤g):Rd w lo w.heap.size size (some ⟨g,0,none⟩) n n cs:=
 ⟨Nat.le_refl _,hn,hl,fun _=>⟨_,rfl,hg,h.lt,fun j u hu=>by rw[Addr.add_lit,Nat.zero_add,h.cell];exact hu⟩⟩
theorem Kw (w:World) (gx gc gr lo hi:Nat) (A:Option Addr) (c:Nat) (l:List UInt8) (aH:Blk w gx 153 [.pointer (some ⟨gc,0,none⟩),.pointer (some ⟨gr,0,none⟩),.slice none 0 0,.bool true]) (aJ:Blk w gr 178 [.bool true,.slice A l.length c]) (hr:RdB w lo hi A c l) (ig:gx≠gr) (gP:gx<lo∨hi≤gx) (fT:gr<lo∨hi≤gr) (bI:l.length≤140737488355328) (gt k:Nat) (tt:TypeId) (cs:List Value) (cR:Blk w gt tt cs) (hk:k<cs.length) (Ef:gt≠gx) (Ad:gt≠gr) (yH:gt<lo∨hi≤gt):
  Fn Tryz.prog 109 #[(.pointer (some ⟨gx,0,none⟩)),(.pointer (some ⟨gt,k,none⟩))] w (fun v w'=>v=.tuple #[]∧Blk w' gx 153 [.pointer (some ⟨gc,0,none⟩),.pointer (some ⟨gr,0,none⟩),.slice none 0 0,.bool (true||gq l)]∧ee w' gr lo hi (cz l)∧Blk w' gt tt (cs.set k (.int .u64 (bO l:Int)))∧Kp [gx,gr,gt] w w'):=by
 have hK:=Kp.refl [gx,gr,gt] w
 have md:=aJ.lt
 have Ig:=cR.lt
 refine aO Tryz.func109 ?_
 refine af (af (aa ?_))
 refine vm ?_
 refine vn ?_
 refine ab (ah fI) ?_
 refine ab (ak jP aH) ?_
 refine ab (dO Tryz.underlying150) ?_
 refine ag (ae ?_)
 refine aC ?_
 refine aS (ae (af (aa ?_)))
 refine vm ?_
 refine vn ?_
 refine ab (ah fI) ?_
 refine ab (ak jP aH) ?_
 refine ar (aw r4 (m7 _ gr lo hi A c l aJ hr fT bI)) ?_
 rintro v w1 ⟨rfl,ry,A127,c127,MM,mv⟩
 replace aH:=aH.gr ry
 replace hK:=Kp.tg hK ry (by first|(left;simp;done)|(right;omega))
 replace cR:=cR.gr ry
 have aJ:=MM
 refine vm ?_
 iterate 2 refine vx ?_
 iterate 2 refine va ?_
 refine ag (ae (af (aa ?_)))
 iterate 2 refine vm ?_
 refine vn ?_
 refine ab (ah dx) ?_
 refine ab (ak ss aH) ?_
 refine vm ?_
 iterate 2 refine aA ?_
 refine ab (ay) ?_
 refine vn ?_
 refine ab (ah dx) ?_
 refine aB (aU vM aH) ?_
 rintro _ w2 ⟨gY,dt⟩
 replace hK:=Kp.tg hK dt (by first|(left;simp;done)|(right;omega))
 replace cR:=cR.gr dt
 replace aJ:=aJ.gr dt
 replace mv:=mv.gr dt
 replace aH:=gY
 refine ag (ae (aa ?_))
 iterate 2 refine vm ?_
 refine vn ?_
 refine aB (aU mi cR (hi:=r9 hk)) ?_
 rintro _ w3 ⟨Iu,qp⟩
 replace aH:=aH.gr qp
 replace hK:=Kp.tg hK qp (by first|(left;simp;done)|(right;omega))
 replace aJ:=aJ.gr qp
 replace mv:=mv.gr qp
 replace cR:=Iu
 refine ag ?_
 refine d5 ?_
 exact⟨rfl,aH,⟨_,_,aJ,mv⟩,cR,hK⟩
theorem Kx (w:World) (gx gc gr lo hi:Nat) (A:Option Addr) (c:Nat) (l:List UInt8) (aH:Blk w gx 153 [.pointer (some ⟨gc,0,none⟩),.pointer (some ⟨gr,0,none⟩),.slice none 0 0,.bool false]) (aJ:Blk w gr 178 [.bool true,.slice A l.length c]) (hr:RdB w lo hi A c l) (ig:gx≠gr) (gP:gx<lo∨hi≤gx) (fT:gr<lo∨hi≤gr) (bI:l.length≤140737488355328) (gt k:Nat) (tt:TypeId) (cs:List Value) (cR:Blk w gt tt cs) (hk:k<cs.length) (Ef:gt≠gx) (Ad:gt≠gr) (yH:gt<lo∨hi≤gt):
  Fn Tryz.prog 109 #[(.pointer (some ⟨gx,0,none⟩)),(.pointer (some ⟨gt,k,none⟩))] w (fun v w'=>v=.tuple #[]∧Blk w' gx 153 [.pointer (some ⟨gc,0,none⟩),.pointer (some ⟨gr,0,none⟩),.slice none 0 0,.bool (false||gq l)]∧ee w' gr lo hi (cz l)∧Blk w' gt tt (cs.set k (.int .u64 (bO l:Int)))∧Kp [gx,gr,gt] w w'):=by
 have hK:=Kp.refl [gx,gr,gt] w
 have md:=aJ.lt
 have Ig:=cR.lt
 refine aO Tryz.func109 ?_
 refine af (af (aa ?_))
 refine vm ?_
 refine vn ?_
 refine ab (ah fI) ?_
 refine ab (ak jP aH) ?_
 refine ab (dO Tryz.underlying150) ?_
 refine ag (ae ?_)
 refine aC ?_
 refine aS (ae (af (aa ?_)))
 refine vm ?_
 refine vn ?_
 refine ab (ah fI) ?_
 refine ab (ak jP aH) ?_
 refine ar (aw r4 (m7 _ gr lo hi A c l aJ hr fT bI)) ?_
 rintro v w1 ⟨rfl,ry,A127,c127,MM,mv⟩
 replace aH:=aH.gr ry
 replace hK:=Kp.tg hK ry (by first|(left;simp;done)|(right;omega))
 replace cR:=cR.gr ry
 have aJ:=MM
 refine vm ?_
 iterate 2 refine vx ?_
 iterate 2 refine va ?_
 refine ag (ae (af (aa ?_)))
 iterate 2 refine vm ?_
 refine vn ?_
 refine ab (ah dx) ?_
 refine ab (ak ss aH) ?_
 refine vm ?_
 refine aj (aF) ?_
 refine aj (bS) ?_
 refine ab (ap) ?_
 refine vn ?_
 refine ab (ah dx) ?_
 refine aB (aU vM aH) ?_
 rintro _ w2 ⟨gY,dt⟩
 replace hK:=Kp.tg hK dt (by first|(left;simp;done)|(right;omega))
 replace cR:=cR.gr dt
 replace aJ:=aJ.gr dt
 replace mv:=mv.gr dt
 replace aH:=gY
 refine ag (ae (aa ?_))
 iterate 2 refine vm ?_
 refine vn ?_
 refine aB (aU mi cR (hi:=r9 hk)) ?_
 rintro _ w3 ⟨Iu,qp⟩
 replace aH:=aH.gr qp
 replace hK:=Kp.tg hK qp (by first|(left;simp;done)|(right;omega))
 replace aJ:=aJ.gr qp
 replace mv:=mv.gr qp
 replace cR:=Iu
 refine ag ?_
 refine d5 ?_
 exact⟨rfl,aH,⟨_,_,aJ,mv⟩,cR,hK⟩
theorem wv (w:World) (gx gc gr lo hi:Nat) (A:Option Addr) (c:Nat) (l:List UInt8) (bad:Bool) (aH:Blk w gx 153 [.pointer (some ⟨gc,0,none⟩),.pointer (some ⟨gr,0,none⟩),.slice none 0 0,.bool bad]) (aJ:Blk w gr 178 [.bool true,.slice A l.length c]) (hr:RdB w lo hi A c l) (gt k:Nat) (tt:TypeId) (cs:List Value) (cR:Blk w gt tt cs) (ig:gx≠gr:=by omega) (gP:gx<lo∨hi≤gx:=by omega) (fT:gr<lo∨hi≤gr:=by omega) (bI:l.length≤140737488355328:=by omega) (hk:k<cs.length:=by exact Nat.le_of_ble_eq_true rfl) (Ef:gt≠gx:=by omega) (Ad:gt≠gr:=by omega) (yH:gt<lo∨hi≤gt:=by omega):
  Fn Tryz.prog 109 #[.pointer (some ⟨gx,0,none⟩),.pointer (some ⟨gt,k,none⟩)] w (fun v w'=>v=.tuple #[]∧Blk w' gx 153 [.pointer (some ⟨gc,0,none⟩),.pointer (some ⟨gr,0,none⟩),.slice none 0 0,.bool (bad||gq l)]∧ee w' gr lo hi (cz l)∧Blk w' gt tt (cs.set k (.int .u64 (bO l:Int)))∧Kp [gx,gr,gt] w w'):=by
 cases bad with
 |true=>exact Kw w gx gc gr lo hi A c l aH aJ hr ig gP fT bI gt k tt cs cR hk Ef Ad yH
 |false=>exact Kx w gx gc gr lo hi A c l aH aJ hr ig gP fT bI gt k tt cs cR hk Ef Ad yH
theorem Hi (w:World) (gx gc gr lo hi:Nat) (A:Option Addr) (c:Nat) (l:List UInt8) (aH:Blk w gx 153 [.pointer (some ⟨gc,0,none⟩),.pointer (some ⟨gr,0,none⟩),.slice none 0 0,.bool true]) (aJ:Blk w gr 178 [.bool true,.slice A l.length c]) (hr:RdB w lo hi A c l) (ig:gx≠gr) (gP:gx<lo∨hi≤gx) (fT:gr<lo∨hi≤gr) (bI:l.length≤140737488355328) (gt k:Nat) (tt:TypeId) (cs:List Value) (cR:Blk w gt tt cs) (hk:k<cs.length) (Ef:gt≠gx) (Ad:gt≠gr) (yH:gt<lo∨hi≤gt) (al:List UInt8→Bool) (f:FuncId) (nB:aX Tryz.prog f=true) (qq:∀w s,Fn Tryz.prog f #[.string (av s)] w (fun v w'=>v=.bool (al s)∧w'=w)):
  Fn Tryz.prog 103 #[(.pointer (some ⟨gx,0,none⟩)),(.pointer (some ⟨gt,k,none⟩)),(.func (.func f) #[] #[])] w (fun v w'=>v=.tuple #[]∧Blk w' gx 153 [.pointer (some ⟨gc,0,none⟩),.pointer (some ⟨gr,0,none⟩),.slice none 0 0,.bool true]∧ee w' gr lo hi (bh l)∧Blk w' gt tt (cs.set k (.string (av (bq l))))∧Kp [gx,gr,gt] w w'):=by
 have hK:=Kp.refl [gx,gr,gt] w
 have lj:=aH.lt
 have md:=aJ.lt
 have Ig:=cR.lt
 refine aO Tryz.func103 ?_
 refine af (af (aa ?_))
 refine vm ?_
 refine vn ?_
 refine ab (ah fI) ?_
 refine ab (ak jP aH) ?_
 refine ab (dO Tryz.underlying150) ?_
 refine ag (ae ?_)
 refine aC ?_
 refine af (aa ?_)
 refine vm ?_
 refine vn ?_
 refine ab (ah fI) ?_
 refine ab (ak jP aH) ?_
 refine ar (aw xL (m4 _ gr lo hi A c l aJ hr fT bI 65536)) ?_
 rintro v w1 ⟨⟨A30,c30,rfl,iT⟩,mA,A130,c130,Fx,gv⟩
 replace aH:=aH.gr mA
 replace hK:=Kp.tg hK mA (by first|(left;simp;done)|(right;omega))
 replace cR:=cR.gr mA
 have aJ:=Fx
 have lK:=fun g e=>Own.lt iT (g:=g) e
 refine vm ?_
 iterate 2 refine vx ?_
 iterate 2 refine va ?_
 refine ag (ae (af (aa ?_)))
 iterate 2 refine vm ?_
 refine vn ?_
 refine ab (ah dx) ?_
 refine ab (ak ss aH) ?_
 refine vm ?_
 iterate 2 refine aA ?_
 refine ab (ay) ?_
 refine vn ?_
 refine ab (ah dx) ?_
 refine aB (aU vM aH) ?_
 rintro _ w2 ⟨gY,dt⟩
 replace hK:=Kp.tg hK dt (by first|(left;simp;done)|(right;omega))
 replace cR:=cR.gr dt
 replace aJ:=aJ.gr dt
 replace gv:=gv.gr dt
 replace iT:=Own.gr iT dt (by first|exact .inl rfl|(right;intro e;first|(have:=lK _ e;omega)|(have:=Own.lt iT e;omega)|exact aT iT aH (by decide) e))
 replace aH:=gY
 refine ag (ae (aa ?_))
 iterate 2 refine vm ?_
 refine ab (gB cE Tryz.underlying9 (OwnB.rd iT)) ?_
 refine vn ?_
 refine aB (aU CU cR (hi:=r9 hk)) ?_
 rintro _ w3 ⟨Iu,qp⟩
 replace aH:=aH.gr qp
 replace hK:=Kp.tg hK qp (by first|(left;simp;done)|(right;omega))
 replace aJ:=aJ.gr qp
 replace gv:=gv.gr qp
 replace cR:=Iu
 refine ag (ae (aa ?_))
 iterate 2 refine vm ?_
 refine vn ?_
 refine ab (ah dx) ?_
 refine ab (ak ss aH) ?_
 refine vm ?_
 iterate 6 refine aA ?_
 refine ab (ay) ?_
 refine vn ?_
 refine ab (ah dx) ?_
 refine aB (aU vM aH) ?_
 rintro _ w4 ⟨gT,cQ⟩
 replace hK:=Kp.tg hK cQ (by first|(left;simp;done)|(right;omega))
 replace cR:=cR.gr cQ
 replace aJ:=aJ.gr cQ
 replace gv:=gv.gr cQ
 replace aH:=gT
 refine ag ?_
 refine d5 ?_
 exact⟨rfl,aH,⟨_,_,aJ,gv⟩,cR,hK⟩
theorem Hk (w:World) (gx gc gr lo hi:Nat) (A:Option Addr) (c:Nat) (l:List UInt8) (aH:Blk w gx 153 [.pointer (some ⟨gc,0,none⟩),.pointer (some ⟨gr,0,none⟩),.slice none 0 0,.bool false]) (aJ:Blk w gr 178 [.bool true,.slice A l.length c]) (hr:RdB w lo hi A c l) (ig:gx≠gr) (gP:gx<lo∨hi≤gx) (fT:gr<lo∨hi≤gr) (bI:l.length≤140737488355328) (gt k:Nat) (tt:TypeId) (cs:List Value) (cR:Blk w gt tt cs) (hk:k<cs.length) (Ef:gt≠gx) (Ad:gt≠gr) (yH:gt<lo∨hi≤gt) (al:List UInt8→Bool) (f:FuncId) (nB:aX Tryz.prog f=true) (qq:∀w s,Fn Tryz.prog f #[.string (av s)] w (fun v w'=>v=.bool (al s)∧w'=w)) (he:¬(cM l 65536).2.2=0):
  Fn Tryz.prog 103 #[(.pointer (some ⟨gx,0,none⟩)),(.pointer (some ⟨gt,k,none⟩)),(.func (.func f) #[] #[])] w (fun v w'=>v=.tuple #[]∧Blk w' gx 153 [.pointer (some ⟨gc,0,none⟩),.pointer (some ⟨gr,0,none⟩),.slice none 0 0,.bool true]∧ee w' gr lo hi (bh l)∧Blk w' gt tt (cs.set k (.string (av (bq l))))∧Kp [gx,gr,gt] w w'):=by
 have hK:=Kp.refl [gx,gr,gt] w
 have lj:=aH.lt
 have md:=aJ.lt
 have Ig:=cR.lt
 refine aO Tryz.func103 ?_
 refine af (af (aa ?_))
 refine vm ?_
 refine vn ?_
 refine ab (ah fI) ?_
 refine ab (ak jP aH) ?_
 refine ab (dO Tryz.underlying150) ?_
 refine ag (ae ?_)
 refine aC ?_
 refine af (aa ?_)
 refine vm ?_
 refine vn ?_
 refine ab (ah fI) ?_
 refine ab (ak jP aH) ?_
 refine ar (aw xL (m4 _ gr lo hi A c l aJ hr fT bI 65536)) ?_
 rintro v w1 ⟨⟨A30,c30,rfl,iT⟩,mA,A130,c130,Fx,gv⟩
 replace aH:=aH.gr mA
 replace hK:=Kp.tg hK mA (by first|(left;simp;done)|(right;omega))
 replace cR:=cR.gr mA
 have aJ:=Fx
 have lK:=fun g e=>Own.lt iT (g:=g) e
 refine vm ?_
 iterate 2 refine vx ?_
 iterate 2 refine va ?_
 refine ag (ae (af (aa ?_)))
 iterate 2 refine vm ?_
 refine vn ?_
 refine ab (ah dx) ?_
 refine ab (ak ss aH) ?_
 refine vm ?_
 refine aj (aF) ?_
 refine aj (bS) ?_
 refine aN (d:=40) rfl (bt (by omega)) ?_
 refine ab (ap) ?_
 refine vn ?_
 refine ab (ah dx) ?_
 refine aB (aU vM aH) ?_
 rintro _ w2 ⟨gY,dt⟩
 replace hK:=Kp.tg hK dt (by first|(left;simp;done)|(right;omega))
 replace cR:=cR.gr dt
 replace aJ:=aJ.gr dt
 replace gv:=gv.gr dt
 replace iT:=Own.gr iT dt (by first|exact .inl rfl|(right;intro e;first|(have:=lK _ e;omega)|(have:=Own.lt iT e;omega)|exact aT iT aH (by decide) e))
 replace aH:=gY
 refine ag (ae (aa ?_))
 iterate 2 refine vm ?_
 refine ab (gB cE Tryz.underlying9 (OwnB.rd iT)) ?_
 refine vn ?_
 refine aB (aU CU cR (hi:=r9 hk)) ?_
 rintro _ w3 ⟨Iu,qp⟩
 replace aH:=aH.gr qp
 replace hK:=Kp.tg hK qp (by first|(left;simp;done)|(right;omega))
 replace aJ:=aJ.gr qp
 replace gv:=gv.gr qp
 replace cR:=Iu
 refine ag (ae (aa ?_))
 iterate 2 refine vm ?_
 refine vn ?_
 refine ab (ah dx) ?_
 refine ab (ak ss aH) ?_
 refine vm ?_
 iterate 6 refine aA ?_
 refine ab (ay) ?_
 refine vn ?_
 refine ab (ah dx) ?_
 refine aB (aU vM aH) ?_
 rintro _ w4 ⟨gT,cQ⟩
 replace hK:=Kp.tg hK cQ (by first|(left;simp;done)|(right;omega))
 replace cR:=cR.gr cQ
 replace aJ:=aJ.gr cQ
 replace gv:=gv.gr cQ
 replace aH:=gT
 refine ag ?_
 refine d5 ?_
 exact⟨rfl,aH,⟨_,_,aJ,gv⟩,cR,hK⟩
theorem Hj (w:World) (gx gc gr lo hi:Nat) (A:Option Addr) (c:Nat) (l:List UInt8) (aH:Blk w gx 153 [.pointer (some ⟨gc,0,none⟩),.pointer (some ⟨gr,0,none⟩),.slice none 0 0,.bool false]) (aJ:Blk w gr 178 [.bool true,.slice A l.length c]) (hr:RdB w lo hi A c l) (ig:gx≠gr) (gP:gx<lo∨hi≤gx) (fT:gr<lo∨hi≤gr) (bI:l.length≤140737488355328) (gt k:Nat) (tt:TypeId) (cs:List Value) (cR:Blk w gt tt cs) (hk:k<cs.length) (Ef:gt≠gx) (Ad:gt≠gr) (yH:gt<lo∨hi≤gt) (al:List UInt8→Bool) (f:FuncId) (nB:aX Tryz.prog f=true) (qq:∀w s,Fn Tryz.prog f #[.string (av s)] w (fun v w'=>v=.bool (al s)∧w'=w)) (he:(cM l 65536).2.2=0):
  Fn Tryz.prog 103 #[(.pointer (some ⟨gx,0,none⟩)),(.pointer (some ⟨gt,k,none⟩)),(.func (.func f) #[] #[])] w (fun v w'=>v=.tuple #[]∧Blk w' gx 153 [.pointer (some ⟨gc,0,none⟩),.pointer (some ⟨gr,0,none⟩),.slice none 0 0,.bool (!al (bq l))]∧ee w' gr lo hi (bh l)∧Blk w' gt tt (cs.set k (.string (av (bq l))))∧Kp [gx,gr,gt] w w'):=by
 have hK:=Kp.refl [gx,gr,gt] w
 have lj:=aH.lt
 have md:=aJ.lt
 have Ig:=cR.lt
 refine aO Tryz.func103 ?_
 refine af (af (aa ?_))
 refine vm ?_
 refine vn ?_
 refine ab (ah fI) ?_
 refine ab (ak jP aH) ?_
 refine ab (dO Tryz.underlying150) ?_
 refine ag (ae ?_)
 refine aC ?_
 refine af (aa ?_)
 refine vm ?_
 refine vn ?_
 refine ab (ah fI) ?_
 refine ab (ak jP aH) ?_
 refine ar (aw xL (m4 _ gr lo hi A c l aJ hr fT bI 65536)) ?_
 rintro v w1 ⟨⟨A30,c30,rfl,iT⟩,mA,A130,c130,Fx,gv⟩
 replace aH:=aH.gr mA
 replace hK:=Kp.tg hK mA (by first|(left;simp;done)|(right;omega))
 replace cR:=cR.gr mA
 have aJ:=Fx
 have lK:=fun g e=>Own.lt iT (g:=g) e
 refine vm ?_
 iterate 2 refine vx ?_
 iterate 2 refine va ?_
 refine ag (ae (af (aa ?_)))
 iterate 2 refine vm ?_
 refine vn ?_
 refine ab (ah dx) ?_
 refine ab (ak ss aH) ?_
 refine vm ?_
 refine aj (aF) ?_
 refine aj (bS) ?_
 refine aN (d:=40) rfl (bf (by omega)) ?_
 refine ab (ap) ?_
 refine vn ?_
 refine ab (ah dx) ?_
 refine aB (aU vM aH) ?_
 rintro _ w2 ⟨gY,dt⟩
 replace hK:=Kp.tg hK dt (by first|(left;simp;done)|(right;omega))
 replace cR:=cR.gr dt
 replace aJ:=aJ.gr dt
 replace gv:=gv.gr dt
 replace iT:=Own.gr iT dt (by first|exact .inl rfl|(right;intro e;first|(have:=lK _ e;omega)|(have:=Own.lt iT e;omega)|exact aT iT aH (by decide) e))
 replace aH:=gY
 refine ag (ae (aa ?_))
 iterate 2 refine vm ?_
 refine ab (gB cE Tryz.underlying9 (OwnB.rd iT)) ?_
 refine vn ?_
 refine aB (aU CU cR (hi:=r9 hk)) ?_
 rintro _ w3 ⟨Iu,qp⟩
 replace aH:=aH.gr qp
 replace hK:=Kp.tg hK qp (by first|(left;simp;done)|(right;omega))
 replace aJ:=aJ.gr qp
 replace gv:=gv.gr qp
 replace cR:=Iu
 refine ag (ae (aa ?_))
 iterate 2 refine vm ?_
 refine vn ?_
 refine ab (ah dx) ?_
 refine ab (ak ss aH) ?_
 refine vm ?_
 iterate 2 refine aj (aF) ?_
 refine aj (bD) ?_
 refine aj (ak qU cR (hv:=Kd hk)) ?_
 refine aj (aw nB (qq _ _)) ?_
 refine aj (b6) ?_
 refine ab (ap) ?_
 refine vn ?_
 refine ab (ah dx) ?_
 refine aB (aU vM aH) ?_
 rintro _ w4 ⟨gT,cQ⟩
 replace hK:=Kp.tg hK cQ (by first|(left;simp;done)|(right;omega))
 replace cR:=cR.gr cQ
 replace aJ:=aJ.gr cQ
 replace gv:=gv.gr cQ
 replace aH:=gT
 refine ag ?_
 refine d5 ?_
 exact⟨rfl,aH,⟨_,_,aJ,gv⟩,cR,hK⟩
theorem jf (w:World) (gx gc gr lo hi:Nat) (A:Option Addr) (c:Nat) (l:List UInt8) (bad:Bool) (aH:Blk w gx 153 [.pointer (some ⟨gc,0,none⟩),.pointer (some ⟨gr,0,none⟩),.slice none 0 0,.bool bad]) (aJ:Blk w gr 178 [.bool true,.slice A l.length c]) (hr:RdB w lo hi A c l) (gt k:Nat) (tt:TypeId) (cs:List Value) (cR:Blk w gt tt cs) (al:List UInt8→Bool) (f:FuncId) (nB:aX Tryz.prog f=true) (qq:∀w s,Fn Tryz.prog f #[.string (av s)] w (fun v w'=>v=.bool (al s)∧w'=w)) (ig:gx≠gr:=by omega) (gP:gx<lo∨hi≤gx:=by omega) (fT:gr<lo∨hi≤gr:=by omega) (bI:l.length≤140737488355328:=by omega) (hk:k<cs.length:=by exact Nat.le_of_ble_eq_true rfl) (Ef:gt≠gx:=by omega) (Ad:gt≠gr:=by omega) (yH:gt<lo∨hi≤gt:=by omega):
  Fn Tryz.prog 103 #[.pointer (some ⟨gx,0,none⟩),.pointer (some ⟨gt,k,none⟩),.func (.func f) #[] #[]] w (fun v w'=>v=.tuple #[]∧Blk w' gx 153 [.pointer (some ⟨gc,0,none⟩),.pointer (some ⟨gr,0,none⟩),.slice none 0 0,.bool (bad||cF al l)]∧ee w' gr lo hi (bh l)∧Blk w' gt tt (cs.set k (.string (av (bq l))))∧Kp [gx,gr,gt] w w'):=by
 cases bad with
 |true=>exact Hi w gx gc gr lo hi A c l aH aJ hr ig gP fT bI gt k tt cs cR hk Ef Ad yH al f nB qq
 |false=>
  by_cases he:(cM l 65536).2.2=0
  ·have e:(false||cF al l)= !al (bq l):=by unfold cF;rw[decide_eq_false (by omega)];rfl
   rw[e];exact Hj w gx gc gr lo hi A c l aH aJ hr ig gP fT bI gt k tt cs cR hk Ef Ad yH al f nB qq he
  ·have e:(false||cF al l)=true:=by unfold cF;rw[decide_eq_true (by omega)];rfl
   rw[e];exact Hk w gx gc gr lo hi A c l aH aJ hr ig gP fT bI gt k tt cs cR hk Ef Ad yH al f nB qq he
end Go.Proofs.YtiighkbehiddkaaGreat
namespace Go.Proofs.YtiighkbehiddkaaGreat
open Go.RowKit
set_option linter.unusedVariables false
set_option maxRecDepth 4000
theorem jp:aX Tryz.prog 103=true:=by kernel_rfl
theorem l7:aX Tryz.prog 104=true:=by kernel_rfl
theorem Gm:aX Tryz.prog 107=true:=by kernel_rfl
theorem p4:aX Tryz.prog 109=true:=by kernel_rfl
theorem R7:aX Tryz.prog 128=true:=by kernel_rfl
theorem eg:bB Tryz.prog 153 0=some 0:=by kernel_rfl
theorem k9:bB Tryz.prog 39 3=some 3:=by kernel_rfl
theorem k8:bB Tryz.prog 39 5=some 5:=by kernel_rfl
theorem gM:cu Tryz.prog 149=true:=by kernel_rfl
theorem jy:cu Tryz.prog 35=true:=by kernel_rfl
theorem vN:(Tryz.prog.info? 35).map (·.size)=some 1:=by kernel_rfl
theorem G4:(Tryz.prog.info? 37).map (·.size)=some 1:=by kernel_rfl
theorem xZ:fV Tryz.prog 36=some (.int .u64 0):=by kernel_rfl
theorem ze9:fV Tryz.prog 9=some (.string (av [])):=by kernel_rfl
theorem x1 (w:World) (gx gc gr lo hi:Nat) (A:Option Addr) (c:Nat) (l:List UInt8) (bad:Bool) (aH:Blk w gx 153 [.pointer (some ⟨gc,0,none⟩),.pointer (some ⟨gr,0,none⟩),.slice none 0 0,.bool bad]) (aJ:Blk w gr 178 [.bool true,.slice A l.length c]) (hr:RdB w lo hi A c l) (v0 v1 v2 v4 v5 v6 v7 v8 v9:Value) (aW:Blk w gc 39 [v0,v1,v2,.slice none 0 0,v4,v5,v6,v7,v8,v9]) (ig:gx≠gr:=by omega) (gP:gx<lo∨hi≤gx:=by omega) (fT:gr<lo∨hi≤gr:=by omega) (bI:l.length≤140737488355328:=by omega) (fR:gc≠gx:=by omega) (jW:gc≠gr:=by omega) (iU:gc<lo∨hi≤gc:=by omega) (fP:hi≤w.heap.size:=by omega):
  Fn Tryz.prog 105 #[(.pointer (some ⟨gx,0,none⟩))] w (fun v w'=>v=.tuple #[]∧Blk w' gx 153 [.pointer (some ⟨gc,0,none⟩),.pointer (some ⟨gr,0,none⟩),.slice none 0 0,.bool (bad||cF vv l)]∧ee w' gr lo hi (bh l)∧(∃V cv,Blk w' gc 39 [v0,v1,v2,.slice V (bq l).length cv,v4,v5,v6,v7,v8,v9]∧RdB w' w.heap.size w'.heap.size V cv (bq l))∧Kp [gx,gr,gc] w w'):=by
 have hK:=Kp.refl [gx,gr,gc] w
 have lj:=aH.lt
 have md:=aJ.lt
 have sB:=aW.lt
 obtain⟨B0,hB0⟩:∃n,n=w.heap.size:=⟨_,rfl⟩
 refine aO Tryz.func105 ?_
 refine af (aa ?_)
 refine vm ?_
 refine vn ?_
 refine ab (ah eg) ?_
 refine ab (ak gM aH) ?_
 refine vn ?_
 refine ab (ah k9) ?_
 refine ab (ak dc aW) ?_
 refine ab (gB cE Tryz.underlying9 (RdB.nil _ 0 0)) ?_
 refine ar (bc ze9) ?_
 rintro v w1 ⟨g2,rfl,aq,dk,my,nd⟩
 replace aH:=aH.ext dk
 replace aJ:=aJ.ext dk
 replace hr:=hr.ext dk
 replace hK:=Kp.te hK dk
 replace aW:=aW.ext dk
 refine aB (aU CU aq) ?_
 rintro _ w2 ⟨gY,dt⟩
 have nO:=dt.size
 replace aH:=aH.gr dt
 replace aJ:=aJ.gr dt
 replace hr:=hr.gr dt
 replace hK:=Kp.tg hK dt (by first|(left;simp;done)|(right;omega))
 replace aW:=aW.gr dt
 replace aq:=gY
 refine ag (ae (af (aa ?_)))
 refine vm ?_
 refine ar (aw jp (jf _ gx gc gr _ _ A c l bad aH aJ hr g2 0 _ _ aq vv 128 R7 J8)) ?_
 rintro v w3 ⟨rfl,X1,⟨A12,c12,XM,wS⟩,Xp,M2⟩
 have Tb:=M2.size
 replace hK:=Kp.tr hK M2 (by intro x hx;simp only[List.mem_cons,List.not_mem_nil,or_false] at hx ⊢;omega)
 replace aW:=M2.bk aW (by intro hg;simp at hg;omega)
 replace aH:=X1
 replace aJ:=XM
 replace aq:Blk _ g2 _ [(.string (av (bq l)))]:=Xp
 have hlv12:=pc l
 refine ag (ae (af (aa ?_)))
 refine vm ?_
 refine vn ?_
 refine ab (ah fI) ?_
 refine ab (ak jP aH) ?_
 refine ab (lD Tryz.underlying150 rfl) ?_
 refine vm ?_
 refine aj (ak qU aq) ?_
 refine aj (fW Tryz.underlying9) ?_
 refine aj (bw) ?_
 refine ab (ay) ?_
 refine ag (ae ?_)
 refine aL (fun dM=>?_) (fun dM=>?_)
 ·refine fD 6 [(23,a0 (.pointer (some ⟨gx,0,none⟩))),(24,a0 (.pointer (some ⟨gx,0,none⟩))),(25,a0 (.pointer (some ⟨gx,0,none⟩))),(26,a0 (.pointer (some ⟨gc,0,none⟩))),(27,a0 (.string (av (bq l)))),(28,(fun v w=>∃A c,v=.slice A (bq l).length c∧RdB w B0 w.heap.size A c (bq l)))] [[],[0],[1],[2],[],[4]] _ [] [] ⟨sE,sE,sE,sE,sE,⟨(fun v w1 w2 ⟨A,c,hv,ho⟩ he=>⟨A,c,hv,(Rd.ext ho he).mono (Nat.le_refl _) he.size⟩),fun _ he=>by cases he⟩,trivial⟩ ?_ ?_
  ·repeat' apply And.intro
   all_goals first|exact trivial|(intro wd bW;replace aH:=aH.ext bW;replace aq:=aq.ext bW;have dK:=bW.size;(repeat rintro _ rfl))
   exact am (ax (aF))
   exact am (ax (bD))
   exact am (ax (ah eg))
   exact am (ax (ak gM aH))
   exact am (ax (ak qU aq))
   ·refine am (OpRun.mono (we cE Tryz.underlying9 rfl (by simp only[maxLen];omega)) ?_)
    rintro v w4 ⟨A28,c28,rfl,oH,lO⟩
    exact⟨⟨A28,c28,rfl,oH.mono (by omega) (Nat.le_refl _)⟩,lO⟩
  ·intro wf3 B7
   replace hK:=Kp.te hK B7
   replace aW:=aW.ext B7
   replace aH:=aH.ext B7
   replace aJ:=aJ.ext B7
   replace wS:=wS.ext B7
   iterate 5 rintro _ rfl
   rintro _ ⟨A28,c28,rfl,oH⟩
   refine vn ?_
   refine ab (ah k9) ?_
   refine aB (aU gV aW) ?_
   rintro _ w4 ⟨gT,cQ⟩
   replace hK:=Kp.tg hK cQ (by first|(left;simp;done)|(right;omega))
   replace aH:=aH.gr cQ
   replace aJ:=aJ.gr cQ
   replace wS:=wS.gr cQ
   replace oH:=oH.gr cQ
   replace aW:=gT
   refine ag ?_
   refine d5 ?_
   exact⟨rfl,aH,⟨_,_,aJ,wS⟩,⟨_,_,aW,(Rd.top oH).mono (by omega) (Nat.le_refl _)⟩,hK⟩
 ·refine aS ?_
  refine d5 ?_
  have ev:bq l=[]:=List.eq_nil_of_length_eq_zero (by omega)
  rw[ev]
  exact⟨rfl,aH,⟨_,_,aJ,wS⟩,⟨none,0,aW,RdB.nil _ _ _⟩,hK⟩
theorem Hr (w:World) (gx gc gr lo hi:Nat) (A:Option Addr) (c:Nat) (l:List UInt8) (bad:Bool) (aH:Blk w gx 153 [.pointer (some ⟨gc,0,none⟩),.pointer (some ⟨gr,0,none⟩),.slice none 0 0,.bool bad]) (aJ:Blk w gr 178 [.bool true,.slice A l.length c]) (hr:RdB w lo hi A c l) (ig:gx≠gr) (gP:gx<lo∨hi≤gx) (fT:gr<lo∨hi≤gr) (bI:l.length≤140737488355328) (v0 v1 v2 v3 v4 v6 v7 v8 v9:Value) (aW:Blk w gc 39 [v0,v1,v2,v3,v4,.int .u64 0,v6,v7,v8,v9]) (fR:gc≠gx) (jW:gc≠gr) (iU:gc<lo∨hi≤gc) (fP:hi≤w.heap.size) (Mj:(bad||gq l)=true):
  Fn Tryz.prog 108 #[(.pointer (some ⟨gx,0,none⟩))] w (fun v w'=>v=.tuple #[]∧Blk w' gx 153 [.pointer (some ⟨gc,0,none⟩),.pointer (some ⟨gr,0,none⟩),.slice none 0 0,.bool true]∧ee w' gr lo hi (cz l)∧Blk w' gc 39 [v0,v1,v2,v3,v4,.int .u64 (bO l:Int),v6,v7,v8,v9]∧Kp [gx,gr,gc] w w'):=by
 have hK:=Kp.refl [gx,gr,gc] w
 have lj:=aH.lt
 have md:=aJ.lt
 have sB:=aW.lt
 refine aO Tryz.func108 ?_
 refine af (aa ?_)
 refine vm ?_
 refine vn ?_
 refine ab (ah eg) ?_
 refine ab (ak gM aH) ?_
 refine vn ?_
 refine ab (ah k8) ?_
 refine ab (ak pg aW) ?_
 refine ar (bc xZ) ?_
 rintro v w1 ⟨g2,rfl,aq,dk,my,nd⟩
 replace aH:=aH.ext dk
 replace aJ:=aJ.ext dk
 replace hr:=hr.ext dk
 replace hK:=Kp.te hK dk
 replace aW:=aW.ext dk
 refine aB (aU mi aq) ?_
 rintro _ w2 ⟨gY,dt⟩
 replace aH:=aH.gr dt
 replace aJ:=aJ.gr dt
 replace hr:=hr.gr dt
 replace hK:=Kp.tg hK dt (by first|(left;simp;done)|(right;omega))
 replace aW:=aW.gr dt
 replace aq:=gY
 refine ag (ae (af (aa ?_)))
 refine vm ?_
 refine ar (aw p4 (wv _ gx gc gr _ _ A c l bad aH aJ hr g2 0 _ _ aq)) ?_
 rintro v w3 ⟨rfl,MV,⟨A11,c11,MN,nT⟩,MG,FM⟩
 replace hK:=Kp.tr hK FM (by intro x hx;simp only[List.mem_cons,List.not_mem_nil,or_false] at hx ⊢;omega)
 replace aW:=FM.bk aW (by intro hg;simp at hg;omega)
 replace aH:=MV
 replace aJ:=MN
 replace aq:Blk _ g2 _ [(.int .u64 (↑(bO l):Int))]:=MG
 refine ag (ae (af ?_))
 refine cC ej 5 [(12,a0 (.pointer (some ⟨gx,0,none⟩))),(13,a0 (.pointer (some ⟨gx,0,none⟩))),(14,a0 (.pointer (some ⟨gx,0,none⟩))),(15,a0 (.pointer (some ⟨gc,0,none⟩))),(16,a0 (.int .u64 (↑(bO l):Int)))] [[],[0],[1],[2],[]] _ [] [] (fun _ _ h=>h) trivial (by kernel_rfl) rfl ?_ ?_
 ·repeat' apply And.intro
  all_goals first|exact trivial|(intro wd bW;replace aH:=aH.ext bW;replace aq:=aq.ext bW;(repeat rintro _ rfl))
  exact am (ax (aF))
  exact am (ax (bD))
  exact am (ax (ah eg))
  exact am (ax (ak gM aH))
  exact am (ax (ak ft aq))
 ·intro wf2 mC
  replace hK:=Kp.te hK mC
  replace aW:=aW.ext mC
  replace aH:=aH.ext mC
  replace aJ:=aJ.ext mC
  replace nT:=nT.ext mC
  iterate 5 rintro _ rfl
  refine vn ?_
  refine ab (ah k8) ?_
  refine aB (aU G4 aW) ?_
  rintro _ w4 ⟨gT,cQ⟩
  replace hK:=Kp.tg hK cQ (by first|(left;simp;done)|(right;omega))
  replace aH:=aH.gr cQ
  replace aJ:=aJ.gr cQ
  replace nT:=nT.gr cQ
  replace aW:=gT
  refine ag (ae (aa ?_))
  iterate 2 refine vm ?_
  refine vn ?_
  refine ab (ah (off:=3) dx) ?_
  refine ab (ak ss aH) ?_
  refine aN (d:=23) rfl (v':=(.bool true)) (by rw[Mj]) ?_
  refine vm ?_
  iterate 2 refine aA ?_
  refine ab (ay) ?_
  refine vn ?_
  refine ab (ah dx) ?_
  refine aB (aU vM aH) ?_
  rintro _ w5 ⟨pE,fB⟩
  replace hK:=Kp.tg hK fB (by first|(left;simp;done)|(right;omega))
  replace aW:=aW.gr fB
  replace aJ:=aJ.gr fB
  replace nT:=nT.gr fB
  replace aH:=pE
  refine ag ?_
  refine d5 ?_
  exact⟨rfl,aH,⟨_,_,aJ,nT⟩,aW,hK⟩
theorem Hs (w:World) (gx gc gr lo hi:Nat) (A:Option Addr) (c:Nat) (l:List UInt8) (bad:Bool) (aH:Blk w gx 153 [.pointer (some ⟨gc,0,none⟩),.pointer (some ⟨gr,0,none⟩),.slice none 0 0,.bool bad]) (aJ:Blk w gr 178 [.bool true,.slice A l.length c]) (hr:RdB w lo hi A c l) (ig:gx≠gr) (gP:gx<lo∨hi≤gx) (fT:gr<lo∨hi≤gr) (bI:l.length≤140737488355328) (v0 v1 v2 v3 v4 v6 v7 v8 v9:Value) (aW:Blk w gc 39 [v0,v1,v2,v3,v4,.int .u64 0,v6,v7,v8,v9]) (fR:gc≠gx) (jW:gc≠gr) (iU:gc<lo∨hi≤gc) (fP:hi≤w.heap.size) (Mj:(bad||gq l)=false):
  Fn Tryz.prog 108 #[(.pointer (some ⟨gx,0,none⟩))] w (fun v w'=>v=.tuple #[]∧Blk w' gx 153 [.pointer (some ⟨gc,0,none⟩),.pointer (some ⟨gr,0,none⟩),.slice none 0 0,.bool (decide ((bO l:Int)=0))]∧ee w' gr lo hi (cz l)∧Blk w' gc 39 [v0,v1,v2,v3,v4,.int .u64 (bO l:Int),v6,v7,v8,v9]∧Kp [gx,gr,gc] w w'):=by
 have hK:=Kp.refl [gx,gr,gc] w
 have lj:=aH.lt
 have md:=aJ.lt
 have sB:=aW.lt
 refine aO Tryz.func108 ?_
 refine af (aa ?_)
 refine vm ?_
 refine vn ?_
 refine ab (ah eg) ?_
 refine ab (ak gM aH) ?_
 refine vn ?_
 refine ab (ah k8) ?_
 refine ab (ak pg aW) ?_
 refine ar (bc xZ) ?_
 rintro v w1 ⟨g2,rfl,aq,dk,my,nd⟩
 replace aH:=aH.ext dk
 replace aJ:=aJ.ext dk
 replace hr:=hr.ext dk
 replace hK:=Kp.te hK dk
 replace aW:=aW.ext dk
 refine aB (aU mi aq) ?_
 rintro _ w2 ⟨gY,dt⟩
 replace aH:=aH.gr dt
 replace aJ:=aJ.gr dt
 replace hr:=hr.gr dt
 replace hK:=Kp.tg hK dt (by first|(left;simp;done)|(right;omega))
 replace aW:=aW.gr dt
 replace aq:=gY
 refine ag (ae (af (aa ?_)))
 refine vm ?_
 refine ar (aw p4 (wv _ gx gc gr _ _ A c l bad aH aJ hr g2 0 _ _ aq)) ?_
 rintro v w3 ⟨rfl,MV,⟨A11,c11,MN,nT⟩,MG,FM⟩
 replace hK:=Kp.tr hK FM (by intro x hx;simp only[List.mem_cons,List.not_mem_nil,or_false] at hx ⊢;omega)
 replace aW:=FM.bk aW (by intro hg;simp at hg;omega)
 replace aH:=MV
 replace aJ:=MN
 replace aq:Blk _ g2 _ [(.int .u64 (↑(bO l):Int))]:=MG
 refine ag (ae (af ?_))
 refine cC ej 5 [(12,a0 (.pointer (some ⟨gx,0,none⟩))),(13,a0 (.pointer (some ⟨gx,0,none⟩))),(14,a0 (.pointer (some ⟨gx,0,none⟩))),(15,a0 (.pointer (some ⟨gc,0,none⟩))),(16,a0 (.int .u64 (↑(bO l):Int)))] [[],[0],[1],[2],[]] _ [] [] (fun _ _ h=>h) trivial (by kernel_rfl) rfl ?_ ?_
 ·repeat' apply And.intro
  all_goals first|exact trivial|(intro wd bW;replace aH:=aH.ext bW;replace aq:=aq.ext bW;(repeat rintro _ rfl))
  exact am (ax (aF))
  exact am (ax (bD))
  exact am (ax (ah eg))
  exact am (ax (ak gM aH))
  exact am (ax (ak ft aq))
 ·intro wf2 mC
  replace hK:=Kp.te hK mC
  replace aW:=aW.ext mC
  replace aH:=aH.ext mC
  replace aJ:=aJ.ext mC
  replace nT:=nT.ext mC
  replace aq:=aq.ext mC
  iterate 5 rintro _ rfl
  refine vn ?_
  refine ab (ah k8) ?_
  refine aB (aU G4 aW) ?_
  rintro _ w4 ⟨gT,cQ⟩
  replace hK:=Kp.tg hK cQ (by first|(left;simp;done)|(right;omega))
  replace aH:=aH.gr cQ
  replace aJ:=aJ.gr cQ
  replace nT:=nT.gr cQ
  replace aq:=aq.gr cQ
  replace aW:=gT
  refine ag (ae (aa ?_))
  iterate 2 refine vm ?_
  refine vn ?_
  refine ab (ah (off:=3) dx) ?_
  refine ab (ak ss aH) ?_
  refine aN (d:=23) rfl (v':=(.bool false)) (by rw[Mj]) ?_
  refine vm ?_
  refine aj (ak ft aq) ?_
  refine aj (cI) ?_
  refine ab (ap) ?_
  refine vn ?_
  refine ab (ah dx) ?_
  refine aB (aU vM aH) ?_
  rintro _ w5 ⟨pE,fB⟩
  replace hK:=Kp.tg hK fB (by first|(left;simp;done)|(right;omega))
  replace aW:=aW.gr fB
  replace aJ:=aJ.gr fB
  replace nT:=nT.gr fB
  replace aH:=pE
  refine ag ?_
  refine d5 ?_
  exact⟨rfl,aH,⟨_,_,aJ,nT⟩,aW,hK⟩
theorem zX (w:World) (gx gc gr lo hi:Nat) (A:Option Addr) (c:Nat) (l:List UInt8) (bad:Bool) (aH:Blk w gx 153 [.pointer (some ⟨gc,0,none⟩),.pointer (some ⟨gr,0,none⟩),.slice none 0 0,.bool bad]) (aJ:Blk w gr 178 [.bool true,.slice A l.length c]) (hr:RdB w lo hi A c l) (v0 v1 v2 v3 v4 v6 v7 v8 v9:Value) (aW:Blk w gc 39 [v0,v1,v2,v3,v4,.int .u64 0,v6,v7,v8,v9]) (ig:gx≠gr:=by omega) (gP:gx<lo∨hi≤gx:=by omega) (fT:gr<lo∨hi≤gr:=by omega) (bI:l.length≤140737488355328:=by omega) (fR:gc≠gx:=by omega) (jW:gc≠gr:=by omega) (iU:gc<lo∨hi≤gc:=by omega) (fP:hi≤w.heap.size:=by omega):
  Fn Tryz.prog 108 #[.pointer (some ⟨gx,0,none⟩)] w (fun v w'=>v=.tuple #[]∧Blk w' gx 153 [.pointer (some ⟨gc,0,none⟩),.pointer (some ⟨gr,0,none⟩),.slice none 0 0,.bool (bad||gq l||decide (bO l=0))]∧ee w' gr lo hi (cz l)∧Blk w' gc 39 [v0,v1,v2,v3,v4,.int .u64 (bO l:Int),v6,v7,v8,v9]∧Kp [gx,gr,gc] w w'):=by
 by_cases Mj:(bad||gq l)=true
 ·rw[Mj];exact Hr w gx gc gr lo hi A c l bad aH aJ hr ig gP fT bI v0 v1 v2 v3 v4 v6 v7 v8 v9 aW fR jW iU fP Mj
 ·have QY:(bad||gq l)=false:=by simpa using Mj
  have e:((bad||gq l)||decide (bO l=0))=decide ((bO l:Int)=0):=by rw[QY,Bool.false_or,decide_eq_decide];omega
  rw[e];exact Hs w gx gc gr lo hi A c l bad aH aJ hr ig gP fT bI v0 v1 v2 v3 v4 v6 v7 v8 v9 aW fR jW iU fP QY
theorem BF (w:World) (gx gc gr lo hi:Nat) (A:Option Addr) (c:Nat) (l:List UInt8) (bad:Bool) (aH:Blk w gx 153 [.pointer (some ⟨gc,0,none⟩),.pointer (some ⟨gr,0,none⟩),.slice none 0 0,.bool bad]) (aJ:Blk w gr 178 [.bool true,.slice A l.length c]) (hr:RdB w lo hi A c l) (ig:gx≠gr) (gP:gx<lo∨hi≤gx) (fT:gr<lo∨hi≤gr) (bI:l.length≤140737488355328) (v0 v1 v3 v4 v5 v6 v7 v8 v9:Value) (aW:Blk w gc 39 [v0,v1,.slice none 0 0,v3,v4,v5,v6,v7,v8,v9]) (fR:gc≠gx) (jW:gc≠gr) (iU:gc<lo∨hi≤gc) (fP:hi≤w.heap.size) (h1:1≤bO l) (h0:1≤bO l) (h2:bO l≤16):
  Fn Tryz.prog 106 #[(.pointer (some ⟨gx,0,none⟩)),(.pointer (some ⟨gc,2,none⟩)),(.int .i64 1),(.int .i64 16),(.func (.func 104) #[] #[])] w (fun v w'=>v=.tuple #[]∧Blk w' gx 153 [.pointer (some ⟨gc,0,none⟩),.pointer (some ⟨gr,0,none⟩),.slice none 0 0,.bool (bad||gq l||(rS kv (bO l) (cz l)).2.2)]∧ee w' gr lo hi ((rS kv (bO l) (cz l)).2.1)∧(∃K ck,Blk w' gc 39 [v0,v1,.slice K ((rS kv (bO l) (cz l)).1).length ck,v3,v4,v5,v6,v7,v8,v9]∧RdS w' w.heap.size w'.heap.size K ck ((rS kv (bO l) (cz l)).1))∧Kp [gx,gr,gc] w w'):=by
 have hK:=Kp.refl [gx,gr,gc] w
 have lj:=aH.lt
 have md:=aJ.lt
 have sB:=aW.lt
 refine aO (args:=[(.pointer (some ⟨gx,0,none⟩)),(.pointer (some ⟨gc,2,none⟩)),(.int .i64 1),(.int .i64 16),(.func (.func 104) #[] #[])]) Tryz.func106 ?_
 refine af (aa ?_)
 refine vm ?_
 refine vn ?_
 refine ab (ak jy aW) ?_
 refine ab (bj Tryz.underlying35) ?_
 refine ab (bv Tryz.underlying3 Tryz.underlying36 (m:=0) (hm:=by decide)) ?_
 refine ar (bc (cs:=[(.int .u64 0)]) xZ) ?_
 rintro v w1 ⟨g10,rfl,bG,cY,wZ,wO⟩
 replace aH:=aH.ext cY
 replace aJ:=aJ.ext cY
 replace hr:=hr.ext cY
 replace hK:=Kp.te hK cY
 replace aW:=aW.ext cY
 refine aB (aU (cs':=[(.int .u64 0)]) mi bG) ?_
 rintro _ w2 ⟨gY,dt⟩
 have nO:=dt.size
 replace aH:=aH.gr dt
 replace aJ:=aJ.gr dt
 replace hr:=hr.gr dt
 replace hK:=Kp.tg hK dt (by first|(left;simp;done)|(right;omega))
 replace aW:=aW.gr dt
 replace bG:=gY
 refine ag (ae (af (aa ?_)))
 refine vm ?_
 refine ar (aw p4 (wv _ gx gc gr _ _ A c l bad aH aJ hr g10 0 _ _ bG)) ?_
 rintro v w3 ⟨rfl,uT,⟨A18,c18,uP,jU⟩,uO,nu⟩
 have HI:=nu.size
 replace hK:=Kp.tr hK nu (by intro x hx;simp only[List.mem_cons,List.not_mem_nil,or_false] at hx ⊢;omega)
 replace aW:=nu.bk aW (by intro hg;simp at hg;omega)
 replace aH:=uT
 replace aJ:=uP
 replace bG:Blk _ g10 _ [(.int .u64 (↑(bO l):Int))]:=uO
 have Qn:=iq l
 refine ag (ae (af (af (aa ?_))))
 refine ab (ak ft bG) ?_
 refine vm ?_
 refine ab (bv Tryz.underlying3 Tryz.underlying36 (m:=1) (hm:=by decide)) ?_
 refine ab (bz) ?_
 refine aN (d:=22) rfl (bf (by omega)) ?_
 refine vm ?_
 refine aj (ak ft bG) ?_
 refine aj (aF) ?_
 refine aj (bv Tryz.underlying3 Tryz.underlying36 (m:=16) (hm:=by decide)) ?_
 refine aj (bw) ?_
 refine aN (d:=27) rfl (bf (by omega)) ?_
 refine ab (ap) ?_
 refine ag (ae ?_)
 refine aC ?_
 refine aS (ae (af (af (aa ?_))))
 refine vm ?_
 refine vn ?_
 refine ab (ah (off:=1) fI) ?_
 refine ab (ak jP aH) ?_
 refine ab (lD Tryz.underlying150 rfl) ?_
 refine vm ?_
 refine aj (ak ft bG) ?_
 refine aj (bw) ?_
 refine aN (d:=39) rfl (bt (by omega)) ?_
 refine ab (ay) ?_
 refine ag (ae ?_)
 refine aR ?_
 refine aa ?_
 refine vm ?_
 refine ab (ak ft bG) ?_
 refine ar (wk p5 rfl rfl rfl rfl (by omega) (by simp only[maxLen];omega)) ?_
 rintro v w4 ⟨g43,rfl,fw,kY,VO,UM⟩
 replace hK:=Kp.te hK kY
 replace aW:=aW.ext kY
 replace aH:=aH.ext kY
 replace aJ:=aJ.ext kY
 replace jU:=jU.ext kY
 refine vn ?_
 refine aB (aU (cs':=[v0,v1,(.slice (some ⟨g43,0,none⟩) (bO l) (bO l)),v3,v4,v5,v6,v7,v8,v9]) vN aW) ?_
 rintro _ w5 ⟨pE,fB⟩
 replace hK:=Kp.tg hK fB (by first|(left;simp;done)|(right;omega))
 replace aH:=aH.gr fB
 replace aJ:=aJ.gr fB
 replace jU:=jU.gr fB
 replace fw:=fw.gr fB
 replace aW:=pE
 refine ag (ae (af (aa ?_)))
 refine vm ?_
 refine vn ?_
 refine ab (ak jy aW) ?_
 refine ab (bj Tryz.underlying35) ?_
 refine vm ?_
 refine ag (ae (a9 ?_))
 refine cU (σ:=Nat) (fun i=>bO l - i) (fun i=>[(0,.pointer (some ⟨gx,0,none⟩)),(1,.pointer (some ⟨gc,2,none⟩)),(4,.func (.func 104) #[] #[]),(48,.int .i64 (bO l:Int)),(49,.int .i64 (i:Int))]) (fun i w'=>i≤bO l∧Blk w' gx 153 [.pointer (some ⟨gc,0,none⟩),.pointer (some ⟨gr,0,none⟩),.slice none 0 0,.bool (bad||gq l||(rS kv i (cz l)).2.2)]∧ee w' gr lo hi (rS kv i (cz l)).2.1∧Blk w' gc 39 [v0,v1,(.slice (some ⟨g43,0,none⟩) (bO l) (bO l)),v3,v4,v5,v6,v7,v8,v9]∧Blk w' g43 9 (o9 kv (bO l) i (cz l))∧Kp [gx,gr,gc] w w') (0) (⟨Nat.zero_le _,by show Blk _ gx _ [.pointer (some ⟨gc,0,none⟩),.pointer (some ⟨gr,0,none⟩),.slice none 0 0,.bool (bad||gq l||(rS kv 0 (cz l)).2.2)];rw[show(rS kv 0 (cz l)).2.2=false from rfl,Bool.or_false];exact aH,⟨_,_,aJ,jU⟩,aW,by rw[Dh];exact fw,hK⟩) ?_ (hL:=⟨rfl,rfl,rfl,rfl,rfl,trivial⟩)
 rintro i wq ⟨nh,aH,⟨A9,c9,aJ,uh⟩,aW,fw,hK⟩
 have Af:=(ip kv (cz l) i).2
 refine af (aa ?_)
 refine ab (bz) ?_
 refine ag (ae (af ?_))
 refine aL (fun e9=>?_) (fun e9=>?_)
 ·refine aS (ae (af (a9 (af (aa ?_)))))
  refine vm ?_
  refine va ?_
  refine ag (ae (aa ?_))
  iterate 2 refine vm ?_
  refine vn ?_
  refine ab (ak jy aW) ?_
  refine vm ?_
  refine ab (m5 p5 rfl rfl rfl) ?_
  refine vm ?_
  refine ar (aw jp (jf _ gx gc gr _ _ A9 c9 (rS kv i (cz l)).2.1 (bad||gq l||(rS kv i (cz l)).2.2) aH aJ uh g43 i _ (o9 kv (bO l) i (cz l)) fw kv 104 l7 jA (hk:=by rw[vT _ _ (by omega)];omega))) ?_
  rintro v w6 ⟨rfl,MT,⟨A59,c59,ML,Lw⟩,MF,FK⟩
  replace aW:=FK.bk aW (by intro hg;simp at hg;omega)
  replace hK:=Kp.tr hK FK (by intro x hx;simp only[List.mem_cons,List.not_mem_nil,or_false] at hx ⊢;omega)
  replace aH:=MT
  replace aJ:=ML
  replace fw:=MF
  refine ag (bb (ae (aa ?_)))
  refine ab (bH) ?_
  refine vm ?_
  refine ag ?_
  refine cB (i+1) (by show bO l -(i+1)<bO l - i;omega) (⟨by omega,by show Blk _ gx _ [.pointer (some ⟨gc,0,none⟩),.pointer (some ⟨gr,0,none⟩),.slice none 0 0,.bool (bad||gq l||(rS kv (i+1) (cz l)).2.2)];rw[show(rS kv (i+1) (cz l)).2.2=((rS kv i (cz l)).2.2||cF kv (rS kv i (cz l)).2.1) from rfl,←Bool.or_assoc];exact aH,⟨_,_,aJ,Lw⟩,aW,by rw[←vS _ _ (by omega)];exact fw,hK⟩) (hL:=⟨rfl,rfl,rfl,rfl,rfl,trivial⟩)
 ·have mz:i=bO l:=by omega
  subst mz
  rw[Dg] at fw
  have Ae:=(ip kv (cz l) (bO l)).1
  have UT:=fw.rdL (lo:=w.heap.size) (size:=1) (n:=bO l) (by rw[nj,List.length_map];omega) (by simp only[maxLen];omega) (by omega)
  refine cW (bx (bx (ce ?_)))
  refine d5 ?_
  refine⟨rfl,aH,⟨_,_,aJ,uh⟩,⟨some ⟨g43,0,none⟩,bO l,?_,?_⟩,hK⟩
  ·rw[Ae];exact aW
  ·show Rd _ _ _ _ _ (List.length _) _ _
   rw[Ae];exact UT
theorem yz (w:World) (gx gc gr lo hi:Nat) (A:Option Addr) (c:Nat) (l:List UInt8) (bad:Bool) (aH:Blk w gx 153 [.pointer (some ⟨gc,0,none⟩),.pointer (some ⟨gr,0,none⟩),.slice none 0 0,.bool bad]) (aJ:Blk w gr 178 [.bool true,.slice A l.length c]) (hr:RdB w lo hi A c l) (ig:gx≠gr) (gP:gx<lo∨hi≤gx) (fT:gr<lo∨hi≤gr) (bI:l.length≤140737488355328) (v0 v1 v3 v4 v5 v6 v7 v8 v9:Value) (aW:Blk w gc 39 [v0,v1,.slice none 0 0,v3,v4,v5,v6,v7,v8,v9]) (fR:gc≠gx) (jW:gc≠gr) (iU:gc<lo∨hi≤gc) (fP:hi≤w.heap.size) (h1:bO l<1∨16<bO l):
  Fn Tryz.prog 106 #[(.pointer (some ⟨gx,0,none⟩)),(.pointer (some ⟨gc,2,none⟩)),(.int .i64 1),(.int .i64 16),(.func (.func 104) #[] #[])] w (fun v w'=>v=.tuple #[]∧Blk w' gx 153 [.pointer (some ⟨gc,0,none⟩),.pointer (some ⟨gr,0,none⟩),.slice none 0 0,.bool true]∧ee w' gr lo hi (cz l)∧(∃K ck,Blk w' gc 39 [v0,v1,.slice K (([]:List (List UInt8))).length ck,v3,v4,v5,v6,v7,v8,v9]∧RdS w' w.heap.size w'.heap.size K ck (([]:List (List UInt8))))∧Kp [gx,gr,gc] w w'):=by
 have hK:=Kp.refl [gx,gr,gc] w
 have lj:=aH.lt
 have md:=aJ.lt
 have sB:=aW.lt
 refine aO (args:=[(.pointer (some ⟨gx,0,none⟩)),(.pointer (some ⟨gc,2,none⟩)),(.int .i64 1),(.int .i64 16),(.func (.func 104) #[] #[])]) Tryz.func106 ?_
 refine af (aa ?_)
 refine vm ?_
 refine vn ?_
 refine ab (ak jy aW) ?_
 refine ab (bj Tryz.underlying35) ?_
 refine ab (bv Tryz.underlying3 Tryz.underlying36 (m:=0) (hm:=by decide)) ?_
 refine ar (bc (cs:=[(.int .u64 0)]) xZ) ?_
 rintro v w1 ⟨g10,rfl,bG,cY,wZ,wO⟩
 replace aH:=aH.ext cY
 replace aJ:=aJ.ext cY
 replace hr:=hr.ext cY
 replace hK:=Kp.te hK cY
 replace aW:=aW.ext cY
 refine aB (aU (cs':=[(.int .u64 0)]) mi bG) ?_
 rintro _ w2 ⟨gY,dt⟩
 replace aH:=aH.gr dt
 replace aJ:=aJ.gr dt
 replace hr:=hr.gr dt
 replace hK:=Kp.tg hK dt (by first|(left;simp;done)|(right;omega))
 replace aW:=aW.gr dt
 replace bG:=gY
 refine ag (ae (af (aa ?_)))
 refine vm ?_
 refine ar (aw p4 (wv _ gx gc gr _ _ A c l bad aH aJ hr g10 0 _ _ bG)) ?_
 rintro v w3 ⟨rfl,uT,⟨A18,c18,uP,jU⟩,uO,nu⟩
 replace hK:=Kp.tr hK nu (by intro x hx;simp only[List.mem_cons,List.not_mem_nil,or_false] at hx ⊢;omega)
 replace aW:=nu.bk aW (by intro hg;simp at hg;omega)
 replace aH:=uT
 replace aJ:=uP
 replace bG:Blk _ g10 _ [(.int .u64 (↑(bO l):Int))]:=uO
 have Ql:=zU l
 refine ag (ae (af (af (aa ?_))))
 refine ab (ak ft bG) ?_
 refine vm ?_
 refine ab (bv Tryz.underlying3 Tryz.underlying36 (m:=1) (hm:=by decide)) ?_
 refine ab (bz) ?_
 refine aG (d:=22) (fun sk=>?_) (fun sk=>?_)
 ·refine vm ?_
  iterate 4 refine aA ?_
  refine ab (ay) ?_
  refine ag (ae ?_)
  refine aR ?_
  refine af (aa ?_)
  refine vm ?_
  refine vn ?_
  refine ab (ah (off:=3) dx) ?_
  refine aB (aU (cs':=[(.pointer (some ⟨gc,0,none⟩)),(.pointer (some ⟨gr,0,none⟩)),(.slice none 0 0),(.bool true)]) vM aH) ?_
  rintro _ w4 ⟨gT,cQ⟩
  replace hK:=Kp.tg hK cQ (by first|(left;simp;done)|(right;omega))
  replace aW:=aW.gr cQ
  replace aJ:=aJ.gr cQ
  replace jU:=jU.gr cQ
  replace aH:=gT
  refine ag (ae (aE (az ?_)))
  refine ze rfl ?_
  exact⟨rfl,aH,⟨_,_,aJ,jU⟩,⟨none,0,aW,Rd.nil _ _ _ _ _ _ (Nat.zero_le _)⟩,hK⟩
 ·refine vm ?_
  refine aj (ak ft bG) ?_
  refine aj (aF) ?_
  refine aj (bv Tryz.underlying3 Tryz.underlying36 (m:=16) (hm:=by decide)) ?_
  refine aj (bw) ?_
  refine aN (d:=27) rfl (bt (by omega)) ?_
  refine ab (ap) ?_
  refine ag (ae ?_)
  refine aR ?_
  refine af (aa ?_)
  refine vm ?_
  refine vn ?_
  refine ab (ah (off:=3) dx) ?_
  refine aB (aU (cs':=[(.pointer (some ⟨gc,0,none⟩)),(.pointer (some ⟨gr,0,none⟩)),(.slice none 0 0),(.bool true)]) vM aH) ?_
  rintro _ w204 ⟨dR,bM⟩
  replace hK:=Kp.tg hK bM (by first|(left;simp;done)|(right;omega))
  replace aW:=aW.gr bM
  replace aJ:=aJ.gr bM
  replace jU:=jU.gr bM
  replace aH:=dR
  refine ag (ae (aE (az ?_)))
  refine ze rfl ?_
  exact⟨rfl,aH,⟨_,_,aJ,jU⟩,⟨none,0,aW,Rd.nil _ _ _ _ _ _ (Nat.zero_le _)⟩,hK⟩
theorem KB (w:World) (gx gc gr lo hi:Nat) (A:Option Addr) (c:Nat) (l:List UInt8) (bad:Bool) (aH:Blk w gx 153 [.pointer (some ⟨gc,0,none⟩),.pointer (some ⟨gr,0,none⟩),.slice none 0 0,.bool bad]) (aJ:Blk w gr 178 [.bool true,.slice A l.length c]) (hr:RdB w lo hi A c l) (ig:gx≠gr) (gP:gx<lo∨hi≤gx) (fT:gr<lo∨hi≤gr) (bI:l.length≤140737488355328) (v0 v1 v3 v4 v5 v6 v7 v8 v9:Value) (aW:Blk w gc 39 [v0,v1,.slice none 0 0,v3,v4,v5,v6,v7,v8,v9]) (fR:gc≠gx) (jW:gc≠gr) (iU:gc<lo∨hi≤gc) (fP:hi≤w.heap.size):
  Fn Tryz.prog 106 #[.pointer (some ⟨gx,0,none⟩),.pointer (some ⟨gc,2,none⟩),.int .i64 1,.int .i64 16,.func (.func 104) #[] #[]] w (fun v w'=>v=.tuple #[]∧Blk w' gx 153 [.pointer (some ⟨gc,0,none⟩),.pointer (some ⟨gr,0,none⟩),.slice none 0 0,.bool (bad||vl 1 16 kv l)]∧ee w' gr lo hi (l3 1 16 l)∧(∃K ck,Blk w' gc 39 [v0,v1,.slice K (p7 1 16 l).length ck,v3,v4,v5,v6,v7,v8,v9]∧RdS w' w.heap.size w'.heap.size K ck (p7 1 16 l))∧Kp [gx,gr,gc] w w'):=by
 by_cases h:bO l<1∨16<bO l
 ·obtain⟨e1,e2,e3⟩:=yi (al:=kv) h
  rw[e1,e2,e3,Bool.or_true];exact yz w gx gc gr lo hi A c l bad aH aJ hr ig gP fT bI v0 v1 v3 v4 v5 v6 v7 v8 v9 aW fR jW iU fP h
 ·obtain⟨e1,e2,e3⟩:=Di kv h
  rw[e1,e2,e3,←Bool.or_assoc]
  exact BF w gx gc gr lo hi A c l bad aH aJ hr ig gP fT bI v0 v1 v3 v4 v5 v6 v7 v8 v9 aW fR jW iU fP (by omega) (by omega) (by omega)
theorem BE (w:World) (gx gc gr lo hi:Nat) (A:Option Addr) (c:Nat) (l:List UInt8) (bad:Bool) (aH:Blk w gx 153 [.pointer (some ⟨gc,0,none⟩),.pointer (some ⟨gr,0,none⟩),.slice none 0 0,.bool bad]) (aJ:Blk w gr 178 [.bool true,.slice A l.length c]) (hr:RdB w lo hi A c l) (ig:gx≠gr) (gP:gx<lo∨hi≤gx) (fT:gr<lo∨hi≤gr) (bI:l.length≤140737488355328) (v0 v1 v2 v3 v5 v6 v7 v8 v9:Value) (aW:Blk w gc 39 [v0,v1,v2,v3,.slice none 0 0,v5,v6,v7,v8,v9]) (fR:gc≠gx) (jW:gc≠gr) (iU:gc<lo∨hi≤gc) (fP:hi≤w.heap.size) (h1:0≤bO l) (h0:1≤bO l) (h2:bO l≤16):
  Fn Tryz.prog 106 #[(.pointer (some ⟨gx,0,none⟩)),(.pointer (some ⟨gc,4,none⟩)),(.int .i64 0),(.int .i64 16),(.func (.func 107) #[] #[])] w (fun v w'=>v=.tuple #[]∧Blk w' gx 153 [.pointer (some ⟨gc,0,none⟩),.pointer (some ⟨gr,0,none⟩),.slice none 0 0,.bool (bad||gq l||(rS tv (bO l) (cz l)).2.2)]∧ee w' gr lo hi ((rS tv (bO l) (cz l)).2.1)∧(∃K ck,Blk w' gc 39 [v0,v1,v2,v3,.slice K ((rS tv (bO l) (cz l)).1).length ck,v5,v6,v7,v8,v9]∧RdS w' w.heap.size w'.heap.size K ck ((rS tv (bO l) (cz l)).1))∧Kp [gx,gr,gc] w w'):=by
 have hK:=Kp.refl [gx,gr,gc] w
 have lj:=aH.lt
 have md:=aJ.lt
 have sB:=aW.lt
 refine aO (args:=[(.pointer (some ⟨gx,0,none⟩)),(.pointer (some ⟨gc,4,none⟩)),(.int .i64 0),(.int .i64 16),(.func (.func 107) #[] #[])]) Tryz.func106 ?_
 refine af (aa ?_)
 refine vm ?_
 refine vn ?_
 refine ab (ak jy aW) ?_
 refine ab (bj Tryz.underlying35) ?_
 refine ab (bv Tryz.underlying3 Tryz.underlying36 (m:=0) (hm:=by decide)) ?_
 refine ar (bc (cs:=[(.int .u64 0)]) xZ) ?_
 rintro v w1 ⟨g10,rfl,bG,cY,wZ,wO⟩
 replace aH:=aH.ext cY
 replace aJ:=aJ.ext cY
 replace hr:=hr.ext cY
 replace hK:=Kp.te hK cY
 replace aW:=aW.ext cY
 refine aB (aU (cs':=[(.int .u64 0)]) mi bG) ?_
 rintro _ w2 ⟨gY,dt⟩
 have nO:=dt.size
 replace aH:=aH.gr dt
 replace aJ:=aJ.gr dt
 replace hr:=hr.gr dt
 replace hK:=Kp.tg hK dt (by first|(left;simp;done)|(right;omega))
 replace aW:=aW.gr dt
 replace bG:=gY
 refine ag (ae (af (aa ?_)))
 refine vm ?_
 refine ar (aw p4 (wv _ gx gc gr _ _ A c l bad aH aJ hr g10 0 _ _ bG)) ?_
 rintro v w3 ⟨rfl,uT,⟨A18,c18,uP,jU⟩,uO,nu⟩
 have HI:=nu.size
 replace hK:=Kp.tr hK nu (by intro x hx;simp only[List.mem_cons,List.not_mem_nil,or_false] at hx ⊢;omega)
 replace aW:=nu.bk aW (by intro hg;simp at hg;omega)
 replace aH:=uT
 replace aJ:=uP
 replace bG:Blk _ g10 _ [(.int .u64 (↑(bO l):Int))]:=uO
 have Qn:=iq l
 refine ag (ae (af (af (aa ?_))))
 refine ab (ak ft bG) ?_
 refine vm ?_
 refine ab (bv Tryz.underlying3 Tryz.underlying36 (m:=0) (hm:=by decide)) ?_
 refine ab (bz) ?_
 refine aN (d:=22) rfl (bf (by omega)) ?_
 refine vm ?_
 refine aj (ak ft bG) ?_
 refine aj (aF) ?_
 refine aj (bv Tryz.underlying3 Tryz.underlying36 (m:=16) (hm:=by decide)) ?_
 refine aj (bw) ?_
 refine aN (d:=27) rfl (bf (by omega)) ?_
 refine ab (ap) ?_
 refine ag (ae ?_)
 refine aC ?_
 refine aS (ae (af (af (aa ?_))))
 refine vm ?_
 refine vn ?_
 refine ab (ah (off:=1) fI) ?_
 refine ab (ak jP aH) ?_
 refine ab (lD Tryz.underlying150 rfl) ?_
 refine vm ?_
 refine aj (ak ft bG) ?_
 refine aj (bw) ?_
 refine aN (d:=39) rfl (bt (by omega)) ?_
 refine ab (ay) ?_
 refine ag (ae ?_)
 refine aR ?_
 refine aa ?_
 refine vm ?_
 refine ab (ak ft bG) ?_
 refine ar (wk p5 rfl rfl rfl rfl (by omega) (by simp only[maxLen];omega)) ?_
 rintro v w4 ⟨g43,rfl,fw,kY,VO,UM⟩
 replace hK:=Kp.te hK kY
 replace aW:=aW.ext kY
 replace aH:=aH.ext kY
 replace aJ:=aJ.ext kY
 replace jU:=jU.ext kY
 refine vn ?_
 refine aB (aU (cs':=[v0,v1,v2,v3,(.slice (some ⟨g43,0,none⟩) (bO l) (bO l)),v5,v6,v7,v8,v9]) vN aW) ?_
 rintro _ w5 ⟨pE,fB⟩
 replace hK:=Kp.tg hK fB (by first|(left;simp;done)|(right;omega))
 replace aH:=aH.gr fB
 replace aJ:=aJ.gr fB
 replace jU:=jU.gr fB
 replace fw:=fw.gr fB
 replace aW:=pE
 refine ag (ae (af (aa ?_)))
 refine vm ?_
 refine vn ?_
 refine ab (ak jy aW) ?_
 refine ab (bj Tryz.underlying35) ?_
 refine vm ?_
 refine ag (ae (a9 ?_))
 refine cU (σ:=Nat) (fun i=>bO l - i) (fun i=>[(0,.pointer (some ⟨gx,0,none⟩)),(1,.pointer (some ⟨gc,4,none⟩)),(4,.func (.func 107) #[] #[]),(48,.int .i64 (bO l:Int)),(49,.int .i64 (i:Int))]) (fun i w'=>i≤bO l∧Blk w' gx 153 [.pointer (some ⟨gc,0,none⟩),.pointer (some ⟨gr,0,none⟩),.slice none 0 0,.bool (bad||gq l||(rS tv i (cz l)).2.2)]∧ee w' gr lo hi (rS tv i (cz l)).2.1∧Blk w' gc 39 [v0,v1,v2,v3,(.slice (some ⟨g43,0,none⟩) (bO l) (bO l)),v5,v6,v7,v8,v9]∧Blk w' g43 9 (o9 tv (bO l) i (cz l))∧Kp [gx,gr,gc] w w') (0) (⟨Nat.zero_le _,by show Blk _ gx _ [.pointer (some ⟨gc,0,none⟩),.pointer (some ⟨gr,0,none⟩),.slice none 0 0,.bool (bad||gq l||(rS tv 0 (cz l)).2.2)];rw[show(rS tv 0 (cz l)).2.2=false from rfl,Bool.or_false];exact aH,⟨_,_,aJ,jU⟩,aW,by rw[Dh];exact fw,hK⟩) ?_ (hL:=⟨rfl,rfl,rfl,rfl,rfl,trivial⟩)
 rintro i wq ⟨nh,aH,⟨A9,c9,aJ,uh⟩,aW,fw,hK⟩
 have Af:=(ip tv (cz l) i).2
 refine af (aa ?_)
 refine ab (bz) ?_
 refine ag (ae (af ?_))
 refine aL (fun e9=>?_) (fun e9=>?_)
 ·refine aS (ae (af (a9 (af (aa ?_)))))
  refine vm ?_
  refine va ?_
  refine ag (ae (aa ?_))
  iterate 2 refine vm ?_
  refine vn ?_
  refine ab (ak jy aW) ?_
  refine vm ?_
  refine ab (m5 p5 rfl rfl rfl) ?_
  refine vm ?_
  refine ar (aw jp (jf _ gx gc gr _ _ A9 c9 (rS tv i (cz l)).2.1 (bad||gq l||(rS tv i (cz l)).2.2) aH aJ uh g43 i _ (o9 tv (bO l) i (cz l)) fw tv 107 Gm x2 (hk:=by rw[vT _ _ (by omega)];omega))) ?_
  rintro v w6 ⟨rfl,MT,⟨A59,c59,ML,Lw⟩,MF,FK⟩
  replace aW:=FK.bk aW (by intro hg;simp at hg;omega)
  replace hK:=Kp.tr hK FK (by intro x hx;simp only[List.mem_cons,List.not_mem_nil,or_false] at hx ⊢;omega)
  replace aH:=MT
  replace aJ:=ML
  replace fw:=MF
  refine ag (bb (ae (aa ?_)))
  refine ab (bH) ?_
  refine vm ?_
  refine ag ?_
  refine cB (i+1) (by show bO l -(i+1)<bO l - i;omega) (⟨by omega,by show Blk _ gx _ [.pointer (some ⟨gc,0,none⟩),.pointer (some ⟨gr,0,none⟩),.slice none 0 0,.bool (bad||gq l||(rS tv (i+1) (cz l)).2.2)];rw[show(rS tv (i+1) (cz l)).2.2=((rS tv i (cz l)).2.2||cF tv (rS tv i (cz l)).2.1) from rfl,←Bool.or_assoc];exact aH,⟨_,_,aJ,Lw⟩,aW,by rw[←vS _ _ (by omega)];exact fw,hK⟩) (hL:=⟨rfl,rfl,rfl,rfl,rfl,trivial⟩)
 ·have mz:i=bO l:=by omega
  subst mz
  rw[Dg] at fw
  have Ae:=(ip tv (cz l) (bO l)).1
  have UT:=fw.rdL (lo:=w.heap.size) (size:=1) (n:=bO l) (by rw[nj,List.length_map];omega) (by simp only[maxLen];omega) (by omega)
  refine cW (bx (bx (ce ?_)))
  refine d5 ?_
  refine⟨rfl,aH,⟨_,_,aJ,uh⟩,⟨some ⟨g43,0,none⟩,bO l,?_,?_⟩,hK⟩
  ·rw[Ae];exact aW
  ·show Rd _ _ _ _ _ (List.length _) _ _
   rw[Ae];exact UT
theorem yx (w:World) (gx gc gr lo hi:Nat) (A:Option Addr) (c:Nat) (l:List UInt8) (bad:Bool) (aH:Blk w gx 153 [.pointer (some ⟨gc,0,none⟩),.pointer (some ⟨gr,0,none⟩),.slice none 0 0,.bool bad]) (aJ:Blk w gr 178 [.bool true,.slice A l.length c]) (hr:RdB w lo hi A c l) (ig:gx≠gr) (gP:gx<lo∨hi≤gx) (fT:gr<lo∨hi≤gr) (bI:l.length≤140737488355328) (v0 v1 v2 v3 v5 v6 v7 v8 v9:Value) (aW:Blk w gc 39 [v0,v1,v2,v3,.slice none 0 0,v5,v6,v7,v8,v9]) (fR:gc≠gx) (jW:gc≠gr) (iU:gc<lo∨hi≤gc) (fP:hi≤w.heap.size) (h1:bO l<0∨16<bO l):
  Fn Tryz.prog 106 #[(.pointer (some ⟨gx,0,none⟩)),(.pointer (some ⟨gc,4,none⟩)),(.int .i64 0),(.int .i64 16),(.func (.func 107) #[] #[])] w (fun v w'=>v=.tuple #[]∧Blk w' gx 153 [.pointer (some ⟨gc,0,none⟩),.pointer (some ⟨gr,0,none⟩),.slice none 0 0,.bool true]∧ee w' gr lo hi (cz l)∧(∃K ck,Blk w' gc 39 [v0,v1,v2,v3,.slice K (([]:List (List UInt8))).length ck,v5,v6,v7,v8,v9]∧RdS w' w.heap.size w'.heap.size K ck (([]:List (List UInt8))))∧Kp [gx,gr,gc] w w'):=by
 have hK:=Kp.refl [gx,gr,gc] w
 have lj:=aH.lt
 have md:=aJ.lt
 have sB:=aW.lt
 refine aO (args:=[(.pointer (some ⟨gx,0,none⟩)),(.pointer (some ⟨gc,4,none⟩)),(.int .i64 0),(.int .i64 16),(.func (.func 107) #[] #[])]) Tryz.func106 ?_
 refine af (aa ?_)
 refine vm ?_
 refine vn ?_
 refine ab (ak jy aW) ?_
 refine ab (bj Tryz.underlying35) ?_
 refine ab (bv Tryz.underlying3 Tryz.underlying36 (m:=0) (hm:=by decide)) ?_
 refine ar (bc (cs:=[(.int .u64 0)]) xZ) ?_
 rintro v w1 ⟨g10,rfl,bG,cY,wZ,wO⟩
 replace aH:=aH.ext cY
 replace aJ:=aJ.ext cY
 replace hr:=hr.ext cY
 replace hK:=Kp.te hK cY
 replace aW:=aW.ext cY
 refine aB (aU (cs':=[(.int .u64 0)]) mi bG) ?_
 rintro _ w2 ⟨gY,dt⟩
 replace aH:=aH.gr dt
 replace aJ:=aJ.gr dt
 replace hr:=hr.gr dt
 replace hK:=Kp.tg hK dt (by first|(left;simp;done)|(right;omega))
 replace aW:=aW.gr dt
 replace bG:=gY
 refine ag (ae (af (aa ?_)))
 refine vm ?_
 refine ar (aw p4 (wv _ gx gc gr _ _ A c l bad aH aJ hr g10 0 _ _ bG)) ?_
 rintro v w3 ⟨rfl,uT,⟨A18,c18,uP,jU⟩,uO,nu⟩
 replace hK:=Kp.tr hK nu (by intro x hx;simp only[List.mem_cons,List.not_mem_nil,or_false] at hx ⊢;omega)
 replace aW:=nu.bk aW (by intro hg;simp at hg;omega)
 replace aH:=uT
 replace aJ:=uP
 replace bG:Blk _ g10 _ [(.int .u64 (↑(bO l):Int))]:=uO
 have Ql:=zU l
 refine ag (ae (af (af (aa ?_))))
 refine ab (ak ft bG) ?_
 refine vm ?_
 refine ab (bv Tryz.underlying3 Tryz.underlying36 (m:=0) (hm:=by decide)) ?_
 refine ab (bz) ?_
 refine aN (d:=22) rfl (bf (by omega)) ?_
 refine vm ?_
 refine aj (ak ft bG) ?_
 refine aj (aF) ?_
 refine aj (bv Tryz.underlying3 Tryz.underlying36 (m:=16) (hm:=by decide)) ?_
 refine aj (bw) ?_
 refine aN (d:=27) rfl (bt (by omega)) ?_
 refine ab (ap) ?_
 refine ag (ae ?_)
 refine aR ?_
 refine af (aa ?_)
 refine vm ?_
 refine vn ?_
 refine ab (ah (off:=3) dx) ?_
 refine aB (aU (cs':=[(.pointer (some ⟨gc,0,none⟩)),(.pointer (some ⟨gr,0,none⟩)),(.slice none 0 0),(.bool true)]) vM aH) ?_
 rintro _ w4 ⟨gT,cQ⟩
 replace hK:=Kp.tg hK cQ (by first|(left;simp;done)|(right;omega))
 replace aW:=aW.gr cQ
 replace aJ:=aJ.gr cQ
 replace jU:=jU.gr cQ
 replace aH:=gT
 refine ag (ae (aE (az ?_)))
 refine ze rfl ?_
 exact⟨rfl,aH,⟨_,_,aJ,jU⟩,⟨none,0,aW,Rd.nil _ _ _ _ _ _ (Nat.zero_le _)⟩,hK⟩
theorem wE (w:World) (gx gc gr lo hi:Nat) (A:Option Addr) (c:Nat) (l:List UInt8) (bad:Bool) (aH:Blk w gx 153 [.pointer (some ⟨gc,0,none⟩),.pointer (some ⟨gr,0,none⟩),.slice none 0 0,.bool bad]) (aJ:Blk w gr 178 [.bool true,.slice A l.length c]) (hr:RdB w lo hi A c l) (ig:gx≠gr) (gP:gx<lo∨hi≤gx) (fT:gr<lo∨hi≤gr) (bI:l.length≤140737488355328) (v0 v1 v2 v3 v5 v6 v7 v8 v9:Value) (aW:Blk w gc 39 [v0,v1,v2,v3,.slice none 0 0,v5,v6,v7,v8,v9]) (fR:gc≠gx) (jW:gc≠gr) (iU:gc<lo∨hi≤gc) (fP:hi≤w.heap.size) (h0:bO l=0):
  Fn Tryz.prog 106 #[(.pointer (some ⟨gx,0,none⟩)),(.pointer (some ⟨gc,4,none⟩)),(.int .i64 0),(.int .i64 16),(.func (.func 107) #[] #[])] w (fun v w'=>v=.tuple #[]∧Blk w' gx 153 [.pointer (some ⟨gc,0,none⟩),.pointer (some ⟨gr,0,none⟩),.slice none 0 0,.bool (bad||gq l)]∧ee w' gr lo hi (cz l)∧(∃K ck,Blk w' gc 39 [v0,v1,v2,v3,.slice K (([]:List (List UInt8))).length ck,v5,v6,v7,v8,v9]∧RdS w' w.heap.size w'.heap.size K ck (([]:List (List UInt8))))∧Kp [gx,gr,gc] w w'):=by
 have hK:=Kp.refl [gx,gr,gc] w
 have lj:=aH.lt
 have md:=aJ.lt
 have sB:=aW.lt
 refine aO (args:=[(.pointer (some ⟨gx,0,none⟩)),(.pointer (some ⟨gc,4,none⟩)),(.int .i64 0),(.int .i64 16),(.func (.func 107) #[] #[])]) Tryz.func106 ?_
 refine af (aa ?_)
 refine vm ?_
 refine vn ?_
 refine ab (ak jy aW) ?_
 refine ab (bj Tryz.underlying35) ?_
 refine ab (bv Tryz.underlying3 Tryz.underlying36 (m:=0) (hm:=by decide)) ?_
 refine ar (bc (cs:=[(.int .u64 0)]) xZ) ?_
 rintro v w1 ⟨g10,rfl,bG,cY,wZ,wO⟩
 replace aH:=aH.ext cY
 replace aJ:=aJ.ext cY
 replace hr:=hr.ext cY
 replace hK:=Kp.te hK cY
 replace aW:=aW.ext cY
 refine aB (aU (cs':=[(.int .u64 0)]) mi bG) ?_
 rintro _ w2 ⟨gY,dt⟩
 replace aH:=aH.gr dt
 replace aJ:=aJ.gr dt
 replace hr:=hr.gr dt
 replace hK:=Kp.tg hK dt (by first|(left;simp;done)|(right;omega))
 replace aW:=aW.gr dt
 replace bG:=gY
 refine ag (ae (af (aa ?_)))
 refine vm ?_
 refine ar (aw p4 (wv _ gx gc gr _ _ A c l bad aH aJ hr g10 0 _ _ bG)) ?_
 rintro v w3 ⟨rfl,uT,⟨A18,c18,uP,jU⟩,uO,nu⟩
 replace hK:=Kp.tr hK nu (by intro x hx;simp only[List.mem_cons,List.not_mem_nil,or_false] at hx ⊢;omega)
 replace aW:=nu.bk aW (by intro hg;simp at hg;omega)
 replace aH:=uT
 replace aJ:=uP
 replace bG:Blk _ g10 _ [(.int .u64 (↑(bO l):Int))]:=uO
 refine ag (ae (af (af (aa ?_))))
 refine ab (ak ft bG) ?_
 refine vm ?_
 refine ab (bv Tryz.underlying3 Tryz.underlying36 (m:=0) (hm:=by decide)) ?_
 refine ab (bz) ?_
 refine aN (d:=22) rfl (bf (by omega)) ?_
 refine vm ?_
 refine aj (ak ft bG) ?_
 refine aj (aF) ?_
 refine aj (bv Tryz.underlying3 Tryz.underlying36 (m:=16) (hm:=by decide)) ?_
 refine aj (bw) ?_
 refine aN (d:=27) rfl (bf (by omega)) ?_
 refine ab (ap) ?_
 refine ag (ae ?_)
 refine aC ?_
 refine aS (ae (af (af (aa ?_))))
 refine vm ?_
 refine vn ?_
 refine ab (ah (off:=1) fI) ?_
 refine ab (ak jP aH) ?_
 refine ab (lD Tryz.underlying150 rfl) ?_
 refine vm ?_
 refine aj (ak ft bG) ?_
 refine aj (bw) ?_
 refine aN (d:=39) rfl (bf (by omega)) ?_
 refine ab (ay) ?_
 refine ag (ae ?_)
 refine aC ?_
 refine aS (ae (af (aa ?_)))
 refine vm ?_
 refine vn ?_
 refine ab (ak jy aW) ?_
 refine ab (bj Tryz.underlying35) ?_
 refine vm ?_
 refine ag (ae (a9 ?_))
 refine cU (σ:=Nat) (fun i=>i) (fun i=>[(0,.pointer (some ⟨gx,0,none⟩)),(1,.pointer (some ⟨gc,4,none⟩)),(4,.func (.func 107) #[] #[]),(48,.int .i64 0),(49,.int .i64 0)]) (fun i w'=>Blk w' gx 153 [.pointer (some ⟨gc,0,none⟩),.pointer (some ⟨gr,0,none⟩),.slice none 0 0,.bool (bad||gq l)]∧ee w' gr lo hi (cz l)∧Blk w' gc 39 [v0,v1,v2,v3,.slice none 0 0,v5,v6,v7,v8,v9]∧Kp [gx,gr,gc] w w') (0) (⟨aH,⟨_,_,aJ,jU⟩,aW,hK⟩) ?_ (hL:=⟨rfl,rfl,rfl,rfl,rfl,trivial⟩)
 rintro i wq ⟨aH,⟨A9,c9,aJ,uh⟩,aW,hK⟩
 refine af (aa ?_)
 refine ab (bz) ?_
 refine ag (ae (af ?_))
 refine aC ?_
 refine cW (bx (bx (ce ?_)))
 refine d5 ?_
 exact⟨rfl,aH,⟨_,_,aJ,uh⟩,⟨none,0,aW,Rd.nil _ _ _ _ _ _ (Nat.zero_le _)⟩,hK⟩
theorem yy (w:World) (gx gc gr lo hi:Nat) (A:Option Addr) (c:Nat) (l:List UInt8) (bad:Bool) (aH:Blk w gx 153 [.pointer (some ⟨gc,0,none⟩),.pointer (some ⟨gr,0,none⟩),.slice none 0 0,.bool bad]) (aJ:Blk w gr 178 [.bool true,.slice A l.length c]) (hr:RdB w lo hi A c l) (v0 v1 v2 v3 v5 v6 v7 v8 v9:Value) (aW:Blk w gc 39 [v0,v1,v2,v3,.slice none 0 0,v5,v6,v7,v8,v9]) (ig:gx≠gr:=by omega) (gP:gx<lo∨hi≤gx:=by omega) (fT:gr<lo∨hi≤gr:=by omega) (bI:l.length≤140737488355328:=by omega) (fR:gc≠gx:=by omega) (jW:gc≠gr:=by omega) (iU:gc<lo∨hi≤gc:=by omega) (fP:hi≤w.heap.size:=by omega):
  Fn Tryz.prog 106 #[.pointer (some ⟨gx,0,none⟩),.pointer (some ⟨gc,4,none⟩),.int .i64 0,.int .i64 16,.func (.func 107) #[] #[]] w (fun v w'=>v=.tuple #[]∧Blk w' gx 153 [.pointer (some ⟨gc,0,none⟩),.pointer (some ⟨gr,0,none⟩),.slice none 0 0,.bool (bad||vl 0 16 tv l)]∧ee w' gr lo hi (l3 0 16 l)∧(∃K ck,Blk w' gc 39 [v0,v1,v2,v3,.slice K (p7 0 16 l).length ck,v5,v6,v7,v8,v9]∧RdS w' w.heap.size w'.heap.size K ck (p7 0 16 l))∧Kp [gx,gr,gc] w w'):=by
 by_cases h:bO l<0∨16<bO l
 ·obtain⟨e1,e2,e3⟩:=yi (al:=tv) h
  rw[e1,e2,e3,Bool.or_true];exact yx w gx gc gr lo hi A c l bad aH aJ hr ig gP fT bI v0 v1 v2 v3 v5 v6 v7 v8 v9 aW fR jW iU fP h
 ·obtain⟨e1,e2,e3⟩:=Di tv h
  rw[e1,e2,e3,←Bool.or_assoc]
  by_cases h0:bO l=0
  ·rw[h0,show rS tv 0 (cz l)=([],cz l,false) from rfl,Bool.or_false];exact wE w gx gc gr lo hi A c l bad aH aJ hr ig gP fT bI v0 v1 v2 v3 v5 v6 v7 v8 v9 aW fR jW iU fP h0
  ·exact BE w gx gc gr lo hi A c l bad aH aJ hr ig gP fT bI v0 v1 v2 v3 v5 v6 v7 v8 v9 aW fR jW iU fP (by omega) (by omega) (by omega)
end Go.Proofs.YtiighkbehiddkaaGreat
