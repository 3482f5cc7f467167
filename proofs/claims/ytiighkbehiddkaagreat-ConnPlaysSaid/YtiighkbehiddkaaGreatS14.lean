/-
 The reference: Valid.
-/
import Derived.Test.YtiighkbehiddkaaGreatS13
namespace Go.Proofs.YtiighkbehiddkaaGreat
open Go.RowKit
set_option linter.unusedVariables false
set_option maxRecDepth 4000
theorem AQ:aX Tryz.prog 101=true:=by kernel_rfl
theorem m6 (w:World) (r:Rsp) (xs:List IT) (hv:vals xs=r.items) (lo hi:Nat) (X:Option Addr) (cx:Nat) (N:Option Addr) (cn:Nat) (hx:RdI w lo hi X cx xs) (hn:RdN w lo hi N cn r.nums) (fP:hi≤w.heap.size:=by omega):
  Fn Tryz.prog 101 #[(.agg #[(.int .i64 r.op),(.int .i64 r.err),(.slice X r.items.length cx),(.int .u64 (↑r.ver:Int)),(.int .i64 r.count),(.slice N r.nums.length cn)])] w (fun v w'=>∃xs' X' cx' N' cn',v=.agg (b9 (onlyR r) X' cx' N' cn').toArray∧vals xs'=(onlyR r).items∧RdI w' lo hi X' cx' xs'∧RdN w' lo hi N' cn' (onlyR r).nums∧Ext w w'):=by
 have hE:=aP w
 refine aO (args:=[(.agg #[(.int .i64 r.op),(.int .i64 r.err),(.slice X r.items.length cx),(.int .u64 (↑r.ver:Int)),(.int .i64 r.count),(.slice N r.nums.length cn)])]) Tryz.func101 ?_
 refine af (aa ?_)
 refine ar (bU (cs:=[(.int .i64 r.op),(.int .i64 r.err),(.slice X r.items.length cx),(.int .u64 (↑r.ver:Int)),(.int .i64 r.count),(.slice N r.nums.length cn)])) ?_
 rintro v w1 ⟨g1,rfl,au,dL,kM,ls⟩
 replace hx:=RdI.ext hx dL
 replace hn:=hn.ext dL
 replace hE:=hE.tr dL
 refine ar (bc (cs:=[(.int .i64 0),(.int .i64 0),(.slice none 0 0),(.int .u64 0),(.int .i64 0),(.slice none 0 0)]) fQ) ?_
 rintro v w2 ⟨g2,rfl,aq,dk,my,nd⟩
 replace hx:=RdI.ext hx dk
 replace hn:=hn.ext dk
 replace hE:=hE.tr dk
 replace au:=au.ext dk
 refine ag (ae (af (aa ?_)))
 refine ab (ah (off:=0) cj) ?_
 refine ab (ak cO au) ?_
 refine ab (ah (off:=1) cK) ?_
 refine ab (ak fb au) ?_
 refine ab (bi (cs:=[(.int .i64 r.op),(.int .i64 r.err),(.slice none 0 0),(.int .u64 0),(.int .i64 0),(.slice none 0 0)]) fQ j6) ?_
 refine ar (bc (cs:=[(.int .i64 0),(.int .i64 0),(.slice none 0 0),(.int .u64 0),(.int .i64 0),(.slice none 0 0)]) fQ) ?_
 rintro v w3 ⟨g3,rfl,aM,d7,sy,su⟩
 replace hx:=RdI.ext hx d7
 replace hn:=hn.ext d7
 replace hE:=hE.tr d7
 replace au:=au.ext d7
 replace aq:=aq.ext d7
 refine aB (aD (vs:=[(.int .i64 r.op),(.int .i64 r.err),(.slice none 0 0),(.int .u64 0),(.int .i64 0),(.slice none 0 0)]) fm aM) ?_
 rintro _ w4 ⟨gT,cQ⟩
 replace hx:=RdI.gr hx cQ (fun _ e=>by cases e;omega)
 replace hn:=hn.gr cQ
 replace hE:=hE.gr cQ
 replace au:=au.gr cQ
 replace aq:=aq.gr cQ
 replace aM:=gT
 refine ag (ae (af (af (aa ?_))))
 refine ab (ah (off:=1) cK) ?_
 refine ab (ak fb au) ?_
 refine ab (bS) ?_
 refine ag (ae ?_)
 refine aL (fun dM=>?_) (fun dM=>?_)
 ·refine af (aa ?_)
  refine ab (aK (cs:=[(.int .i64 r.op),(.int .i64 r.err),(.slice none 0 0),(.int .u64 0),(.int .i64 0),(.slice none 0 0)]) bZ aM) ?_
  refine aB (aD (vs:=[(.int .i64 r.op),(.int .i64 r.err),(.slice none 0 0),(.int .u64 0),(.int .i64 0),(.slice none 0 0)]) fm aq) ?_
  rintro _ w5 ⟨pE,fB⟩
  replace hE:=hE.gr fB
  replace aq:=pE
  refine ag (ae (aE (az ?_)))
  refine bm (rs:=[.cell 2 43]) (vs:=[.agg #[(.int .i64 r.op),(.int .i64 r.err),(.slice none 0 0),(.int .u64 0),(.int .i64 0),(.slice none 0 0)]]) rfl ⟨⟨_,_,[(.int .i64 r.op),(.int .i64 r.err),(.slice none 0 0),(.int .u64 0),(.int .i64 0),(.slice none 0 0)],rfl,bZ,aq,rfl⟩,trivial⟩ ?_
  have e1:onlyR r=rspO r.op r.err:=by unfold onlyR;rw[if_pos (by omega)]
  rw[e1]
  exact⟨[],none,0,none,0,rfl,rfl,(RdI.nil _ _ _),(Rd.nil _ _ _ _ _ _ (Nat.zero_le _)),hE⟩
 ·refine aS (ae (af (af (aa ?_))))
  refine ab (ah (off:=0) cj) ?_
  refine ab (ak cO au) ?_
  refine ab (aw u6 (gu _ r.op)) ?_
  refine ag (ae (a9 (af (aa ?_))))
  refine ve ?_
  refine va ?_
  refine ag (ae ?_)
  refine aL (fun eN=>?_) (fun eN=>?_)
  ·refine af (aa ?_)
   refine ab (ah (off:=3) lW) ?_
   refine ab (ak ft au) ?_
   refine ab (ah (off:=3) lW) ?_
   refine aB (aU (cs':=[(.int .i64 r.op),(.int .i64 r.err),(.slice none 0 0),(.int .u64 (↑r.ver:Int)),(.int .i64 0),(.slice none 0 0)]) mi aM) ?_
   rintro _ w205 ⟨cy,ba⟩
   replace hE:=hE.gr ba
   replace au:=au.gr ba
   replace aq:=aq.gr ba
   replace aM:=cy
   refine ag (ae (aa ?_))
   refine ab (ah (off:=4) dE) ?_
   refine ab (ak gg au) ?_
   refine ab (ah (off:=4) dE) ?_
   refine aB (aU (cs':=[(.int .i64 r.op),(.int .i64 r.err),(.slice none 0 0),(.int .u64 (↑r.ver:Int)),(.int .i64 r.count),(.slice none 0 0)]) NG aM) ?_
   rintro _ w206 ⟨dm,b7⟩
   replace hE:=hE.gr b7
   replace aq:=aq.gr b7
   replace aM:=dm
   refine ag (bb (ae (af (aa ?_))))
   refine ab (aK (cs:=[(.int .i64 r.op),(.int .i64 r.err),(.slice none 0 0),(.int .u64 (↑r.ver:Int)),(.int .i64 r.count),(.slice none 0 0)]) bZ aM) ?_
   refine aB (aD (vs:=[(.int .i64 r.op),(.int .i64 r.err),(.slice none 0 0),(.int .u64 (↑r.ver:Int)),(.int .i64 r.count),(.slice none 0 0)]) fm aq) ?_
   rintro _ w207 ⟨iz,et⟩
   replace hE:=hE.gr et
   replace aq:=iz
   refine ag (ae (aE ?_))
   refine bm (rs:=[.cell 2 43]) (vs:=[.agg #[(.int .i64 r.op),(.int .i64 r.err),(.slice none 0 0),(.int .u64 (↑r.ver:Int)),(.int .i64 r.count),(.slice none 0 0)]]) rfl ⟨⟨_,_,[(.int .i64 r.op),(.int .i64 r.err),(.slice none 0 0),(.int .u64 (↑r.ver:Int)),(.int .i64 r.count),(.slice none 0 0)],rfl,bZ,aq,rfl⟩,trivial⟩ ?_
   have e1:onlyR r={rspO r.op r.err with ver:=r.ver,count:=r.count}:=by unfold onlyR;rw[if_neg (by omega),if_pos (by omega)]
   rw[e1]
   exact⟨[],none,0,none,0,rfl,rfl,(RdI.nil _ _ _),(Rd.nil _ _ _ _ _ _ (Nat.zero_le _)),hE⟩
  ·refine af (af (aa ?_))
   refine ve ?_
   refine va ?_
   refine ag (ae ?_)
   refine aL (fun e9=>?_) (fun e9=>?_)
   ·refine aS (ae ?_)
    refine d6 rfl (decide_eq_true e9) ?_
    refine aa ?_
    refine ab (ah (off:=2) cJ) ?_
    refine ab (ak fA au) ?_
    refine ab (ah (off:=2) cJ) ?_
    refine aB (aU (cs':=[(.int .i64 r.op),(.int .i64 r.err),(.slice X r.items.length cx),(.int .u64 0),(.int .i64 0),(.slice none 0 0)]) AZ aM) ?_
    rintro _ w205 ⟨cy,ba⟩
    replace hx:=RdI.gr hx ba (fun _ e=>by cases e;omega)
    replace hE:=hE.gr ba
    replace aq:=aq.gr ba
    replace aM:=cy
    refine ag (bb (ae (af (aa ?_))))
    refine ab (aK (cs:=[(.int .i64 r.op),(.int .i64 r.err),(.slice X r.items.length cx),(.int .u64 0),(.int .i64 0),(.slice none 0 0)]) bZ aM) ?_
    refine aB (aD (vs:=[(.int .i64 r.op),(.int .i64 r.err),(.slice X r.items.length cx),(.int .u64 0),(.int .i64 0),(.slice none 0 0)]) fm aq) ?_
    rintro _ w206 ⟨dm,b7⟩
    replace hx:=RdI.gr hx b7 (fun _ e=>by cases e;omega)
    replace hE:=hE.gr b7
    replace aq:=dm
    refine ag (ae (aE ?_))
    refine bm (rs:=[.cell 2 43]) (vs:=[.agg #[(.int .i64 r.op),(.int .i64 r.err),(.slice X r.items.length cx),(.int .u64 0),(.int .i64 0),(.slice none 0 0)]]) rfl ⟨⟨_,_,[(.int .i64 r.op),(.int .i64 r.err),(.slice X r.items.length cx),(.int .u64 0),(.int .i64 0),(.slice none 0 0)],rfl,bZ,aq,rfl⟩,trivial⟩ ?_
    have e1:onlyR r={rspO r.op r.err with items:=r.items}:=by unfold onlyR;rw[if_neg (by omega),if_neg (by omega),if_pos (by omega)]
    rw[e1]
    exact⟨xs,X,cx,none,0,rfl,hv,hx,(Rd.nil _ _ _ _ _ _ (Nat.zero_le _)),hE⟩
   ·refine aa ?_
    refine ve ?_
    refine va ?_
    refine ag (ae ?_)
    refine aL (fun iD=>?_) (fun iD=>?_)
    ·refine aa ?_
     refine ab (ah (off:=2) cJ) ?_
     refine ab (ak fA au) ?_
     refine ab (ah (off:=2) cJ) ?_
     refine aB (aU (cs':=[(.int .i64 r.op),(.int .i64 r.err),(.slice X r.items.length cx),(.int .u64 0),(.int .i64 0),(.slice none 0 0)]) AZ aM) ?_
     rintro _ w205 ⟨cy,ba⟩
     replace hx:=RdI.gr hx ba (fun _ e=>by cases e;omega)
     replace hE:=hE.gr ba
     replace aq:=aq.gr ba
     replace aM:=cy
     refine ag (bb (ae (af (aa ?_))))
     refine ab (aK (cs:=[(.int .i64 r.op),(.int .i64 r.err),(.slice X r.items.length cx),(.int .u64 0),(.int .i64 0),(.slice none 0 0)]) bZ aM) ?_
     refine aB (aD (vs:=[(.int .i64 r.op),(.int .i64 r.err),(.slice X r.items.length cx),(.int .u64 0),(.int .i64 0),(.slice none 0 0)]) fm aq) ?_
     rintro _ w206 ⟨dm,b7⟩
     replace hx:=RdI.gr hx b7 (fun _ e=>by cases e;omega)
     replace hE:=hE.gr b7
     replace aq:=dm
     refine ag (ae (aE ?_))
     refine bm (rs:=[.cell 2 43]) (vs:=[.agg #[(.int .i64 r.op),(.int .i64 r.err),(.slice X r.items.length cx),(.int .u64 0),(.int .i64 0),(.slice none 0 0)]]) rfl ⟨⟨_,_,[(.int .i64 r.op),(.int .i64 r.err),(.slice X r.items.length cx),(.int .u64 0),(.int .i64 0),(.slice none 0 0)],rfl,bZ,aq,rfl⟩,trivial⟩ ?_
     have e1:onlyR r={rspO r.op r.err with items:=r.items}:=by unfold onlyR;rw[if_neg (by omega),if_neg (by omega),if_pos (by omega)]
     rw[e1]
     exact⟨xs,X,cx,none,0,rfl,hv,hx,(Rd.nil _ _ _ _ _ _ (Nat.zero_le _)),hE⟩
    ·refine af (aa ?_)
     refine ve ?_
     refine va ?_
     refine ag (ae ?_)
     refine aL (fun ld=>?_) (fun ld=>?_)
     ·refine aa ?_
      refine ab (ah (off:=4) dE) ?_
      refine ab (ak gg au) ?_
      refine ab (ah (off:=4) dE) ?_
      refine aB (aU (cs':=[(.int .i64 r.op),(.int .i64 r.err),(.slice none 0 0),(.int .u64 0),(.int .i64 r.count),(.slice none 0 0)]) NG aM) ?_
      rintro _ w205 ⟨cy,ba⟩
      replace hE:=hE.gr ba
      replace aq:=aq.gr ba
      replace aM:=cy
      refine ag (bb (ae (af (aa ?_))))
      refine ab (aK (cs:=[(.int .i64 r.op),(.int .i64 r.err),(.slice none 0 0),(.int .u64 0),(.int .i64 r.count),(.slice none 0 0)]) bZ aM) ?_
      refine aB (aD (vs:=[(.int .i64 r.op),(.int .i64 r.err),(.slice none 0 0),(.int .u64 0),(.int .i64 r.count),(.slice none 0 0)]) fm aq) ?_
      rintro _ w206 ⟨dm,b7⟩
      replace hE:=hE.gr b7
      replace aq:=dm
      refine ag (ae (aE ?_))
      refine bm (rs:=[.cell 2 43]) (vs:=[.agg #[(.int .i64 r.op),(.int .i64 r.err),(.slice none 0 0),(.int .u64 0),(.int .i64 r.count),(.slice none 0 0)]]) rfl ⟨⟨_,_,[(.int .i64 r.op),(.int .i64 r.err),(.slice none 0 0),(.int .u64 0),(.int .i64 r.count),(.slice none 0 0)],rfl,bZ,aq,rfl⟩,trivial⟩ ?_
      have e1:onlyR r={rspO r.op r.err with count:=r.count}:=by unfold onlyR;rw[if_neg (by omega),if_neg (by omega),if_neg (by omega),if_pos (by omega)]
      rw[e1]
      exact⟨[],none,0,none,0,rfl,rfl,(RdI.nil _ _ _),(Rd.nil _ _ _ _ _ _ (Nat.zero_le _)),hE⟩
     ·refine af (aa ?_)
      refine ve ?_
      refine va ?_
      refine ag (ae ?_)
      refine aL (fun pC=>?_) (fun pC=>?_)
      ·refine aa ?_
       refine ab (ah (off:=5) dI) ?_
       refine ab (ak iG au) ?_
       refine ab (ah (off:=5) dI) ?_
       refine aB (aU (cs':=[(.int .i64 r.op),(.int .i64 r.err),(.slice none 0 0),(.int .u64 0),(.int .i64 0),(.slice N r.nums.length cn)]) G3 aM) ?_
       rintro _ w205 ⟨cy,ba⟩
       replace hn:=hn.gr ba
       replace hE:=hE.gr ba
       replace aq:=aq.gr ba
       replace aM:=cy
       refine ag (bb (ae (af (aa ?_))))
       refine ab (aK (cs:=[(.int .i64 r.op),(.int .i64 r.err),(.slice none 0 0),(.int .u64 0),(.int .i64 0),(.slice N r.nums.length cn)]) bZ aM) ?_
       refine aB (aD (vs:=[(.int .i64 r.op),(.int .i64 r.err),(.slice none 0 0),(.int .u64 0),(.int .i64 0),(.slice N r.nums.length cn)]) fm aq) ?_
       rintro _ w206 ⟨dm,b7⟩
       replace hn:=hn.gr b7
       replace hE:=hE.gr b7
       replace aq:=dm
       refine ag (ae (aE ?_))
       refine bm (rs:=[.cell 2 43]) (vs:=[.agg #[(.int .i64 r.op),(.int .i64 r.err),(.slice none 0 0),(.int .u64 0),(.int .i64 0),(.slice N r.nums.length cn)]]) rfl ⟨⟨_,_,[(.int .i64 r.op),(.int .i64 r.err),(.slice none 0 0),(.int .u64 0),(.int .i64 0),(.slice N r.nums.length cn)],rfl,bZ,aq,rfl⟩,trivial⟩ ?_
       have e1:onlyR r={rspO r.op r.err with nums:=r.nums}:=by unfold onlyR;rw[if_neg (by omega),if_neg (by omega),if_neg (by omega),if_neg (by omega),if_pos (by omega)]
       rw[e1]
       exact⟨[],none,0,N,cn,rfl,rfl,(RdI.nil _ _ _),hn,hE⟩
      ·refine aS (bb (ae (af (aa ?_))))
       refine ab (aK (cs:=[(.int .i64 r.op),(.int .i64 r.err),(.slice none 0 0),(.int .u64 0),(.int .i64 0),(.slice none 0 0)]) bZ aM) ?_
       refine aB (aD (vs:=[(.int .i64 r.op),(.int .i64 r.err),(.slice none 0 0),(.int .u64 0),(.int .i64 0),(.slice none 0 0)]) fm aq) ?_
       rintro _ w205 ⟨cy,ba⟩
       replace hE:=hE.gr ba
       replace aq:=cy
       refine ag (ae (aE ?_))
       refine bm (rs:=[.cell 2 43]) (vs:=[.agg #[(.int .i64 r.op),(.int .i64 r.err),(.slice none 0 0),(.int .u64 0),(.int .i64 0),(.slice none 0 0)]]) rfl ⟨⟨_,_,[(.int .i64 r.op),(.int .i64 r.err),(.slice none 0 0),(.int .u64 0),(.int .i64 0),(.slice none 0 0)],rfl,bZ,aq,rfl⟩,trivial⟩ ?_
       have e1:onlyR r=rspO r.op r.err:=by unfold onlyR;rw[if_neg (by omega),if_neg (by omega),if_neg (by omega),if_neg (by omega),if_neg (by omega)]
       rw[e1]
       exact⟨[],none,0,none,0,rfl,rfl,(RdI.nil _ _ _),(Rd.nil _ _ _ _ _ _ (Nat.zero_le _)),hE⟩
theorem Ou (w:World) (r:Rsp) (xs:List IT) (hv:vals xs=r.items) (lo hi:Nat) (X:Option Addr) (cx:Nat) (N:Option Addr) (cn:Nat) (hx:RdI w lo hi X cx xs) (hn:RdN w lo hi N cn r.nums) (h:r.op<0):
  Fn Tryz.prog 84 #[(.agg #[(.int .i64 r.op),(.int .i64 r.err),(.slice X r.items.length cx),(.int .u64 (↑r.ver:Int)),(.int .i64 r.count),(.slice N r.nums.length cn)])] w (fun v w'=>v=.bool (decide (RV r))∧Ext w w'):=by
 replace hx:=hx.top
 replace hn:=Rd.top hn
 have hE:=aP w
 obtain⟨hi,nr⟩:∃n,n=w.heap.size:=⟨_,rfl⟩
 rw[←nr] at hx hn
 have mu:=cP xs
 rw[hv] at mu
 have fR:=hx.1.2.1
 have tl:=hn.2.1
 simp only[maxLen] at fR tl
 have bF:¬RV r:=fun q=>by have:=q.o1;omega
 refine aO Tryz.func84 ?_
 refine af (aa ?_)
 refine ar (bU) ?_
 rintro v w1 ⟨g1,rfl,au,dL,kM,ls⟩
 replace hE:=hE.tr dL
 refine va ?_
 refine ag (ae (af (af ?_)))
 refine cC ej 32 [(5,a0 (.pointer (some ⟨g1,0,none⟩))),(6,a0 (.int .i64 r.op)),(7,a0 (.bool true)),(8,a0 (.bool true)),(9,a0 undef),(10,a0 undef),(11,a0 undef),(12,a0 (.bool true)),(13,a0 (.bool true)),(14,a0 undef),(15,a0 undef),(16,a0 undef),(17,a0 (.bool true)),(18,a0 (.bool true)),(19,a0 undef),(20,a0 undef),(21,a0 undef),(22,a0 (.bool true)),(23,a0 (.bool true)),(24,a0 undef),(25,a0 undef),(26,a0 undef),(27,a0 undef),(28,a0 undef),(29,a0 undef),(30,a0 undef),(31,a0 undef),(32,a0 (.bool true)),(33,a0 (.bool true)),(34,a0 undef),(35,a0 undef),(36,a0 undef)] [[],[0],[1],[2],[3],[3,4],[3,5],[3,6],[7],[8],[8,9],[8,10],[8,11],[12],[13],[13,14],[13,15],[13,16],[17],[18],[18,19],[18,20],[18,21],[22],[22,23],[22,24],[18,22,25],[18,26],[27],[28],[28],[28,30]] _ [] [] (fun _ _ h=>h) trivial (by kernel_rfl) rfl ?_ ?_
 ·repeat' apply And.intro
  all_goals first|exact trivial|(intro wd bW;replace au:=au.ext bW;(repeat rintro _ rfl))
  exact am (ax (ah cj))
  exact am (ax (ak cO au))
  exact am (nL (bz))
  exact am (ax (aF))
  iterate 3 exact eF ⟨rfl,aP _⟩
  exact am (ax (ay))
  exact am (ax (aF))
  iterate 3 exact eF ⟨rfl,aP _⟩
  exact am (ax (ay))
  exact am (ax (aF))
  iterate 3 exact eF ⟨rfl,aP _⟩
  exact am (ax (ay))
  exact am (ax (aF))
  iterate 4 exact eF ⟨rfl,aP _⟩
  iterate 3 exact qe rfl rfl rfl ⟨rfl,aP _⟩
  exact eF ⟨rfl,aP _⟩
  exact am (ax (ay))
  exact am (ax (aF))
  iterate 3 exact eF ⟨rfl,aP _⟩
 ·intro wf1 jB
  replace hE:=hE.tr jB
  iterate 32 rintro _ rfl
  iterate 2 refine aA ?_
  refine ab (ay) ?_
  refine ag (ae ?_)
  refine aR ?_
  refine af (aa ?_)
  refine va ?_
  refine ag (ae (aE (az ?_)))
  refine aY ?_
  exact⟨by rw[decide_eq_false bF],hE⟩
theorem Ot (w:World) (r:Rsp) (xs:List IT) (hv:vals xs=r.items) (lo hi:Nat) (X:Option Addr) (cx:Nat) (N:Option Addr) (cn:Nat) (hx:RdI w lo hi X cx xs) (hn:RdN w lo hi N cn r.nums) (h:15<r.op):
  Fn Tryz.prog 84 #[(.agg #[(.int .i64 r.op),(.int .i64 r.err),(.slice X r.items.length cx),(.int .u64 (↑r.ver:Int)),(.int .i64 r.count),(.slice N r.nums.length cn)])] w (fun v w'=>v=.bool (decide (RV r))∧Ext w w'):=by
 replace hx:=hx.top
 replace hn:=Rd.top hn
 have hE:=aP w
 obtain⟨hi,nr⟩:∃n,n=w.heap.size:=⟨_,rfl⟩
 rw[←nr] at hx hn
 have mu:=cP xs
 rw[hv] at mu
 have fR:=hx.1.2.1
 have tl:=hn.2.1
 simp only[maxLen] at fR tl
 have bF:¬RV r:=fun q=>by have:=q.o2;omega
 refine aO Tryz.func84 ?_
 refine af (aa ?_)
 refine ar (bU) ?_
 rintro v w1 ⟨g1,rfl,au,dL,kM,ls⟩
 replace hE:=hE.tr dL
 refine va ?_
 refine ag (ae (af (af ?_)))
 refine cC ej 32 [(5,a0 (.pointer (some ⟨g1,0,none⟩))),(6,a0 (.int .i64 r.op)),(7,a0 (.bool false)),(8,a0 (.bool false)),(9,a0 (.pointer (some ⟨g1,0,none⟩))),(10,a0 (.int .i64 r.op)),(11,a0 (.bool true)),(12,a0 (.bool true)),(13,a0 (.bool true)),(14,a0 undef),(15,a0 undef),(16,a0 undef),(17,a0 (.bool true)),(18,a0 (.bool true)),(19,a0 undef),(20,a0 undef),(21,a0 undef),(22,a0 (.bool true)),(23,a0 (.bool true)),(24,a0 undef),(25,a0 undef),(26,a0 undef),(27,a0 undef),(28,a0 undef),(29,a0 undef),(30,a0 undef),(31,a0 undef),(32,a0 (.bool true)),(33,a0 (.bool true)),(34,a0 undef),(35,a0 undef),(36,a0 undef)] [[],[0],[1],[2],[3],[3,4],[3,5],[3,6],[7],[8],[8,9],[8,10],[8,11],[12],[13],[13,14],[13,15],[13,16],[17],[18],[18,19],[18,20],[18,21],[22],[22,23],[22,24],[18,22,25],[18,26],[27],[28],[28],[28,30]] _ [] [] (fun _ _ h=>h) trivial (by kernel_rfl) rfl ?_ ?_
 ·repeat' apply And.intro
  all_goals first|exact trivial|(intro wd bW;replace au:=au.ext bW;(repeat rintro _ rfl))
  exact am (ax (ah cj))
  exact am (ax (ak cO au))
  exact am (fL (bz))
  exact am (ax (aF))
  exact bn (ax (ah cj))
  exact bn (ax (ak cO au))
  exact bn (nL (bw))
  exact am (ax (ap))
  exact am (ax (aF))
  iterate 3 exact eF ⟨rfl,aP _⟩
  exact am (ax (ay))
  exact am (ax (aF))
  iterate 3 exact eF ⟨rfl,aP _⟩
  exact am (ax (ay))
  exact am (ax (aF))
  iterate 4 exact eF ⟨rfl,aP _⟩
  iterate 3 exact qe rfl rfl rfl ⟨rfl,aP _⟩
  exact eF ⟨rfl,aP _⟩
  exact am (ax (ay))
  exact am (ax (aF))
  iterate 3 exact eF ⟨rfl,aP _⟩
 ·intro wf1 jB
  replace hE:=hE.tr jB
  iterate 32 rintro _ rfl
  iterate 2 refine aA ?_
  refine ab (ay) ?_
  refine ag (ae ?_)
  refine aR ?_
  refine af (aa ?_)
  refine va ?_
  refine ag (ae (aE (az ?_)))
  refine aY ?_
  exact⟨by rw[decide_eq_false bF],hE⟩
theorem Oq (w:World) (r:Rsp) (xs:List IT) (hv:vals xs=r.items) (lo hi:Nat) (X:Option Addr) (cx:Nat) (N:Option Addr) (cn:Nat) (hx:RdI w lo hi X cx xs) (hn:RdN w lo hi N cn r.nums) (h1:0≤r.op) (h2:r.op≤15) (h:r.err<0):
  Fn Tryz.prog 84 #[(.agg #[(.int .i64 r.op),(.int .i64 r.err),(.slice X r.items.length cx),(.int .u64 (↑r.ver:Int)),(.int .i64 r.count),(.slice N r.nums.length cn)])] w (fun v w'=>v=.bool (decide (RV r))∧Ext w w'):=by
 replace hx:=hx.top
 replace hn:=Rd.top hn
 have hE:=aP w
 obtain⟨hi,nr⟩:∃n,n=w.heap.size:=⟨_,rfl⟩
 rw[←nr] at hx hn
 have mu:=cP xs
 rw[hv] at mu
 have fR:=hx.1.2.1
 have tl:=hn.2.1
 simp only[maxLen] at fR tl
 have bF:¬RV r:=fun q=>by have:=q.e1;omega
 refine aO Tryz.func84 ?_
 refine af (aa ?_)
 refine ar (bU) ?_
 rintro v w1 ⟨g1,rfl,au,dL,kM,ls⟩
 replace hE:=hE.tr dL
 refine va ?_
 refine ag (ae (af (af ?_)))
 refine cC ej 32 [(5,a0 (.pointer (some ⟨g1,0,none⟩))),(6,a0 (.int .i64 r.op)),(7,a0 (.bool false)),(8,a0 (.bool false)),(9,a0 (.pointer (some ⟨g1,0,none⟩))),(10,a0 (.int .i64 r.op)),(11,a0 (.bool false)),(12,a0 (.bool false)),(13,a0 (.bool false)),(14,a0 (.pointer (some ⟨g1,1,none⟩))),(15,a0 (.int .i64 r.err)),(16,a0 (.bool true)),(17,a0 (.bool true)),(18,a0 (.bool true)),(19,a0 undef),(20,a0 undef),(21,a0 undef),(22,a0 (.bool true)),(23,a0 (.bool true)),(24,a0 undef),(25,a0 undef),(26,a0 undef),(27,a0 undef),(28,a0 undef),(29,a0 undef),(30,a0 undef),(31,a0 undef),(32,a0 (.bool true)),(33,a0 (.bool true)),(34,a0 undef),(35,a0 undef),(36,a0 undef)] [[],[0],[1],[2],[3],[3,4],[3,5],[3,6],[7],[8],[8,9],[8,10],[8,11],[12],[13],[13,14],[13,15],[13,16],[17],[18],[18,19],[18,20],[18,21],[22],[22,23],[22,24],[18,22,25],[18,26],[27],[28],[28],[28,30]] _ [] [] (fun _ _ h=>h) trivial (by kernel_rfl) rfl ?_ ?_
 ·repeat' apply And.intro
  all_goals first|exact trivial|(intro wd bW;replace au:=au.ext bW;(repeat rintro _ rfl))
  exact am (ax (ah cj))
  exact am (ax (ak cO au))
  exact am (fL (bz))
  exact am (ax (aF))
  exact bn (ax (ah cj))
  exact bn (ax (ak cO au))
  exact bn (fL (bw))
  exact am (ax (ap))
  exact am (ax (aF))
  exact bn (ax (ah cK))
  exact bn (ax (ak fb au))
  exact bn (nL (bz))
  exact am (ax (ap))
  exact am (ax (aF))
  iterate 3 exact eF ⟨rfl,aP _⟩
  exact am (ax (ay))
  exact am (ax (aF))
  iterate 4 exact eF ⟨rfl,aP _⟩
  iterate 3 exact qe rfl rfl rfl ⟨rfl,aP _⟩
  exact eF ⟨rfl,aP _⟩
  exact am (ax (ay))
  exact am (ax (aF))
  iterate 3 exact eF ⟨rfl,aP _⟩
 ·intro wf1 jB
  replace hE:=hE.tr jB
  iterate 32 rintro _ rfl
  iterate 2 refine aA ?_
  refine ab (ay) ?_
  refine ag (ae ?_)
  refine aR ?_
  refine af (aa ?_)
  refine va ?_
  refine ag (ae (aE (az ?_)))
  refine aY ?_
  exact⟨by rw[decide_eq_false bF],hE⟩
theorem Op (w:World) (r:Rsp) (xs:List IT) (hv:vals xs=r.items) (lo hi:Nat) (X:Option Addr) (cx:Nat) (N:Option Addr) (cn:Nat) (hx:RdI w lo hi X cx xs) (hn:RdN w lo hi N cn r.nums) (h1:0≤r.op) (h2:r.op≤15) (h:100000<r.err):
  Fn Tryz.prog 84 #[(.agg #[(.int .i64 r.op),(.int .i64 r.err),(.slice X r.items.length cx),(.int .u64 (↑r.ver:Int)),(.int .i64 r.count),(.slice N r.nums.length cn)])] w (fun v w'=>v=.bool (decide (RV r))∧Ext w w'):=by
 replace hx:=hx.top
 replace hn:=Rd.top hn
 have hE:=aP w
 obtain⟨hi,nr⟩:∃n,n=w.heap.size:=⟨_,rfl⟩
 rw[←nr] at hx hn
 have mu:=cP xs
 rw[hv] at mu
 have fR:=hx.1.2.1
 have tl:=hn.2.1
 simp only[maxLen] at fR tl
 have bF:¬RV r:=fun q=>by have:=q.e2;omega
 refine aO Tryz.func84 ?_
 refine af (aa ?_)
 refine ar (bU) ?_
 rintro v w1 ⟨g1,rfl,au,dL,kM,ls⟩
 replace hE:=hE.tr dL
 refine va ?_
 refine ag (ae (af (af ?_)))
 refine cC ej 32 [(5,a0 (.pointer (some ⟨g1,0,none⟩))),(6,a0 (.int .i64 r.op)),(7,a0 (.bool false)),(8,a0 (.bool false)),(9,a0 (.pointer (some ⟨g1,0,none⟩))),(10,a0 (.int .i64 r.op)),(11,a0 (.bool false)),(12,a0 (.bool false)),(13,a0 (.bool false)),(14,a0 (.pointer (some ⟨g1,1,none⟩))),(15,a0 (.int .i64 r.err)),(16,a0 (.bool false)),(17,a0 (.bool false)),(18,a0 (.bool false)),(19,a0 (.pointer (some ⟨g1,1,none⟩))),(20,a0 (.int .i64 r.err)),(21,a0 (.bool true)),(22,a0 (.bool true)),(23,a0 (.bool true)),(24,a0 undef),(25,a0 undef),(26,a0 undef),(27,a0 undef),(28,a0 undef),(29,a0 undef),(30,a0 undef),(31,a0 undef),(32,a0 (.bool true)),(33,a0 (.bool true)),(34,a0 undef),(35,a0 undef),(36,a0 undef)] [[],[0],[1],[2],[3],[3,4],[3,5],[3,6],[7],[8],[8,9],[8,10],[8,11],[12],[13],[13,14],[13,15],[13,16],[17],[18],[18,19],[18,20],[18,21],[22],[22,23],[22,24],[18,22,25],[18,26],[27],[28],[28],[28,30]] _ [] [] (fun _ _ h=>h) trivial (by kernel_rfl) rfl ?_ ?_
 ·repeat' apply And.intro
  all_goals first|exact trivial|(intro wd bW;replace au:=au.ext bW;(repeat rintro _ rfl))
  exact am (ax (ah cj))
  exact am (ax (ak cO au))
  exact am (fL (bz))
  exact am (ax (aF))
  exact bn (ax (ah cj))
  exact bn (ax (ak cO au))
  exact bn (fL (bw))
  exact am (ax (ap))
  exact am (ax (aF))
  exact bn (ax (ah cK))
  exact bn (ax (ak fb au))
  exact bn (fL (bz))
  exact am (ax (ap))
  exact am (ax (aF))
  exact bn (ax (ah cK))
  exact bn (ax (ak fb au))
  exact bn (nL (bw))
  exact am (ax (ap))
  exact am (ax (aF))
  iterate 4 exact eF ⟨rfl,aP _⟩
  iterate 3 exact qe rfl rfl rfl ⟨rfl,aP _⟩
  exact eF ⟨rfl,aP _⟩
  exact am (ax (ay))
  exact am (ax (aF))
  iterate 3 exact eF ⟨rfl,aP _⟩
 ·intro wf1 jB
  replace hE:=hE.tr jB
  iterate 32 rintro _ rfl
  iterate 2 refine aA ?_
  refine ab (ay) ?_
  refine ag (ae ?_)
  refine aR ?_
  refine af (aa ?_)
  refine va ?_
  refine ag (ae (aE (az ?_)))
  refine aY ?_
  exact⟨by rw[decide_eq_false bF],hE⟩
theorem Oo (w:World) (r:Rsp) (xs:List IT) (hv:vals xs=r.items) (lo hi:Nat) (X:Option Addr) (cx:Nat) (N:Option Addr) (cn:Nat) (hx:RdI w lo hi X cx xs) (hn:RdN w lo hi N cn r.nums) (h5:r.op=0) (h6:r.err=0):
  Fn Tryz.prog 84 #[(.agg #[(.int .i64 r.op),(.int .i64 r.err),(.slice X r.items.length cx),(.int .u64 (↑r.ver:Int)),(.int .i64 r.count),(.slice N r.nums.length cn)])] w (fun v w'=>v=.bool (decide (RV r))∧Ext w w'):=by
 replace hx:=hx.top
 replace hn:=Rd.top hn
 have hE:=aP w
 obtain⟨hi,nr⟩:∃n,n=w.heap.size:=⟨_,rfl⟩
 rw[←nr] at hx hn
 have mu:=cP xs
 rw[hv] at mu
 have fR:=hx.1.2.1
 have tl:=hn.2.1
 simp only[maxLen] at fR tl
 have bF:¬RV r:=fun q=>q.ne ⟨h5,h6⟩
 refine aO Tryz.func84 ?_
 refine af (aa ?_)
 refine ar (bU) ?_
 rintro v w1 ⟨g1,rfl,au,dL,kM,ls⟩
 replace hE:=hE.tr dL
 refine va ?_
 refine ag (ae (af (af ?_)))
 refine cC ej 32 [(5,a0 (.pointer (some ⟨g1,0,none⟩))),(6,a0 (.int .i64 r.op)),(7,a0 (.bool false)),(8,a0 (.bool false)),(9,a0 (.pointer (some ⟨g1,0,none⟩))),(10,a0 (.int .i64 r.op)),(11,a0 (.bool false)),(12,a0 (.bool false)),(13,a0 (.bool false)),(14,a0 (.pointer (some ⟨g1,1,none⟩))),(15,a0 (.int .i64 r.err)),(16,a0 (.bool false)),(17,a0 (.bool false)),(18,a0 (.bool false)),(19,a0 (.pointer (some ⟨g1,1,none⟩))),(20,a0 (.int .i64 r.err)),(21,a0 (.bool false)),(22,a0 (.bool false)),(23,a0 (.bool false)),(24,a0 (.pointer (some ⟨g1,0,none⟩))),(25,a0 (.int .i64 r.op)),(26,a0 (.bool true)),(27,a0 (.bool true)),(28,a0 (.pointer (some ⟨g1,1,none⟩))),(29,a0 (.int .i64 r.err)),(30,a0 (.bool true)),(31,a0 (.bool true)),(32,a0 (.bool true)),(33,a0 (.bool true)),(34,a0 undef),(35,a0 undef),(36,a0 undef)] [[],[0],[1],[2],[3],[3,4],[3,5],[3,6],[7],[8],[8,9],[8,10],[8,11],[12],[13],[13,14],[13,15],[13,16],[17],[18],[18,19],[18,20],[18,21],[22],[22,23],[22,24],[18,22,25],[18,26],[27],[28],[28],[28,30]] _ [] [] (fun _ _ h=>h) trivial (by kernel_rfl) rfl ?_ ?_
 ·repeat' apply And.intro
  all_goals first|exact trivial|(intro wd bW;replace au:=au.ext bW;(repeat rintro _ rfl))
  exact am (ax (ah cj))
  exact am (ax (ak cO au))
  exact am (fL (bz))
  exact am (ax (aF))
  exact bn (ax (ah cj))
  exact bn (ax (ak cO au))
  exact bn (fL (bw))
  exact am (ax (ap))
  exact am (ax (aF))
  exact bn (ax (ah cK))
  exact bn (ax (ak fb au))
  exact bn (fL (bz))
  exact am (ax (ap))
  exact am (ax (aF))
  exact bn (ax (ah cK))
  exact bn (ax (ak fb au))
  exact bn (fL (bw))
  exact am (ax (ap))
  exact am (ax (aF))
  exact bn (ax (ah cj))
  exact bn (ax (ak cO au))
  exact bn (nL (cI))
  exact bn (ax (aF))
  exact bn (ax (ah cK))
  exact bn (ax (ak fb au))
  exact bn (nL (cI))
  exact bn (ax (ay))
  exact am (ax (ap))
  exact am (ax (aF))
  iterate 3 exact eF ⟨rfl,aP _⟩
 ·intro wf1 jB
  replace hE:=hE.tr jB
  iterate 32 rintro _ rfl
  iterate 2 refine aA ?_
  refine ab (ay) ?_
  refine ag (ae ?_)
  refine aR ?_
  refine af (aa ?_)
  refine va ?_
  refine ag (ae (aE (az ?_)))
  refine aY ?_
  exact⟨by rw[decide_eq_false bF],hE⟩
theorem On (w:World) (r:Rsp) (xs:List IT) (hv:vals xs=r.items) (lo hi:Nat) (X:Option Addr) (cx:Nat) (N:Option Addr) (cn:Nat) (hx:RdI w lo hi X cx xs) (hn:RdN w lo hi N cn r.nums) (h1:0≤r.op) (h2:r.op≤15) (h3:0≤r.err) (h4:r.err≤100000) (h5:r.op=0) (h6:¬r.err=0) (eB:¬r=onlyR r):
  Fn Tryz.prog 84 #[(.agg #[(.int .i64 r.op),(.int .i64 r.err),(.slice X r.items.length cx),(.int .u64 (↑r.ver:Int)),(.int .i64 r.count),(.slice N r.nums.length cn)])] w (fun v w'=>v=.bool (decide (RV r))∧Ext w w'):=by
 replace hx:=hx.top
 replace hn:=Rd.top hn
 have hE:=aP w
 obtain⟨hi,nr⟩:∃n,n=w.heap.size:=⟨_,rfl⟩
 rw[←nr] at hx hn
 have mu:=cP xs
 rw[hv] at mu
 have fR:=hx.1.2.1
 have tl:=hn.2.1
 simp only[maxLen] at fR tl
 have bF:¬RV r:=fun q=>eB q.only
 refine aO Tryz.func84 ?_
 refine af (aa ?_)
 refine ar (bU) ?_
 rintro v w1 ⟨g1,rfl,au,dL,kM,ls⟩
 replace hx:=RdI.ext hx dL
 replace hn:=hn.ext dL
 replace hE:=hE.tr dL
 refine va ?_
 refine ag (ae (af (af ?_)))
 refine fD 32 [(5,a0 (.pointer (some ⟨g1,0,none⟩))),(6,a0 (.int .i64 r.op)),(7,a0 (.bool false)),(8,a0 (.bool false)),(9,a0 (.pointer (some ⟨g1,0,none⟩))),(10,a0 (.int .i64 r.op)),(11,a0 (.bool false)),(12,a0 (.bool false)),(13,a0 (.bool false)),(14,a0 (.pointer (some ⟨g1,1,none⟩))),(15,a0 (.int .i64 r.err)),(16,a0 (.bool false)),(17,a0 (.bool false)),(18,a0 (.bool false)),(19,a0 (.pointer (some ⟨g1,1,none⟩))),(20,a0 (.int .i64 r.err)),(21,a0 (.bool false)),(22,a0 (.bool false)),(23,a0 (.bool false)),(24,a0 (.pointer (some ⟨g1,0,none⟩))),(25,a0 (.int .i64 r.op)),(26,a0 (.bool true)),(27,a0 (.bool true)),(28,a0 (.pointer (some ⟨g1,1,none⟩))),(29,a0 (.int .i64 r.err)),(30,a0 (.bool false)),(31,a0 (.bool false)),(32,a0 (.bool false)),(33,a0 (.bool false)),(34,a0 (.agg #[(.int .i64 r.op),(.int .i64 r.err),(.slice X r.items.length cx),(.int .u64 (↑r.ver:Int)),(.int .i64 r.count),(.slice N r.nums.length cn)])),(35,a0 (.agg #[(.int .i64 r.op),(.int .i64 r.err),(.slice X r.items.length cx),(.int .u64 (↑r.ver:Int)),(.int .i64 r.count),(.slice N r.nums.length cn)])),(36,(fun v w=>∃xs36 X36 cx36 N36 cn36,v=.agg (b9 (onlyR r) X36 cx36 N36 cn36).toArray∧vals xs36=(onlyR r).items∧RdI w lo hi X36 cx36 xs36∧RdN w lo hi N36 cn36 (onlyR r).nums))] [[],[0],[1],[2],[3],[3,4],[3,5],[3,6],[7],[8],[8,9],[8,10],[8,11],[12],[13],[13,14],[13,15],[13,16],[17],[18],[18,19],[18,20],[18,21],[22],[22,23],[22,24],[18,22,25],[18,26],[27],[28],[28],[28,30]] _ [] [] ⟨sE,sE,sE,sE,sE,sE,sE,sE,sE,sE,sE,sE,sE,sE,sE,sE,sE,sE,sE,sE,sE,sE,sE,sE,sE,sE,sE,sE,sE,sE,sE,⟨(fun v w1 w2 ⟨a,b,c,d,e,hv,h1,h2,h3⟩ he=>⟨a,b,c,d,e,hv,h1,h2.ext he,Rd.ext h3 he⟩),fun _ he=>by cases he⟩,trivial⟩ ?_ ?_
 ·repeat' apply And.intro
  all_goals first|exact trivial|(intro wd bW;replace au:=au.ext bW;replace hx:=RdI.ext hx bW;replace hn:=hn.ext bW;have dK:=bW.size;(repeat rintro _ rfl))
  exact am (ax (ah cj))
  exact am (ax (ak cO au))
  exact am (fL (bz))
  exact am (ax (aF))
  exact bn (ax (ah cj))
  exact bn (ax (ak cO au))
  exact bn (fL (bw))
  exact am (ax (ap))
  exact am (ax (aF))
  exact bn (ax (ah cK))
  exact bn (ax (ak fb au))
  exact bn (fL (bz))
  exact am (ax (ap))
  exact am (ax (aF))
  exact bn (ax (ah cK))
  exact bn (ax (ak fb au))
  exact bn (fL (bw))
  exact am (ax (ap))
  exact am (ax (aF))
  exact bn (ax (ah cj))
  exact bn (ax (ak cO au))
  exact bn (nL (cI))
  exact bn (ax (aF))
  exact bn (ax (ah cK))
  exact bn (ax (ak fb au))
  exact bn (fL (cI))
  exact bn (ax (ay))
  exact am (ax (ap))
  exact am (ax (aF))
  iterate 2 exact bn (ax (aK bZ au))
  ·refine bn (OpRun.mono (aw AQ (m6 _ r xs hv lo hi X cx N cn hx hn)) ?_)
   rintro v w2 ⟨xs36,X36,cx36,N36,cn36,rfl,nQ,nP,nZ,yV⟩
   exact⟨⟨xs36,X36,cx36,N36,cn36,rfl,nQ,nP,nZ⟩,yV⟩
 ·intro wf1 jB
  replace hx:=RdI.ext hx jB
  replace hn:=hn.ext jB
  replace hE:=hE.tr jB
  iterate 31 rintro _ rfl
  rintro _ ⟨xs36,X36,cx36,N36,cn36,rfl,nQ,nP,nZ⟩
  refine bP (aw u7 (j5 _ r xs hv _ _ X cx N cn hx hn (onlyR r) xs36 nQ _ _ X36 cx36 N36 cn36 nP nZ)) ?_
  rintro v w2 ⟨rfl,fv⟩
  replace hE:=hE.tr fv
  refine aN (d:=37) rfl (bf (eB)) ?_
  refine aj (b6) ?_
  refine ab (ap) ?_
  refine ag (ae ?_)
  refine aR ?_
  refine af (aa ?_)
  refine va ?_
  refine ag (ae (aE (az ?_)))
  refine aY ?_
  exact⟨by rw[decide_eq_false bF],hE⟩
theorem Om (w:World) (r:Rsp) (xs:List IT) (hv:vals xs=r.items) (lo hi:Nat) (X:Option Addr) (cx:Nat) (N:Option Addr) (cn:Nat) (hx:RdI w lo hi X cx xs) (hn:RdN w lo hi N cn r.nums) (h1:0≤r.op) (h2:r.op≤15) (h3:0≤r.err) (h4:r.err≤100000) (h5:¬r.op=0) (eB:¬r=onlyR r):
  Fn Tryz.prog 84 #[(.agg #[(.int .i64 r.op),(.int .i64 r.err),(.slice X r.items.length cx),(.int .u64 (↑r.ver:Int)),(.int .i64 r.count),(.slice N r.nums.length cn)])] w (fun v w'=>v=.bool (decide (RV r))∧Ext w w'):=by
 replace hx:=hx.top
 replace hn:=Rd.top hn
 have hE:=aP w
 obtain⟨hi,nr⟩:∃n,n=w.heap.size:=⟨_,rfl⟩
 rw[←nr] at hx hn
 have mu:=cP xs
 rw[hv] at mu
 have fR:=hx.1.2.1
 have tl:=hn.2.1
 simp only[maxLen] at fR tl
 have bF:¬RV r:=fun q=>eB q.only
 refine aO Tryz.func84 ?_
 refine af (aa ?_)
 refine ar (bU) ?_
 rintro v w1 ⟨g1,rfl,au,dL,kM,ls⟩
 replace hx:=RdI.ext hx dL
 replace hn:=hn.ext dL
 replace hE:=hE.tr dL
 refine va ?_
 refine ag (ae (af (af ?_)))
 refine fD 32 [(5,a0 (.pointer (some ⟨g1,0,none⟩))),(6,a0 (.int .i64 r.op)),(7,a0 (.bool false)),(8,a0 (.bool false)),(9,a0 (.pointer (some ⟨g1,0,none⟩))),(10,a0 (.int .i64 r.op)),(11,a0 (.bool false)),(12,a0 (.bool false)),(13,a0 (.bool false)),(14,a0 (.pointer (some ⟨g1,1,none⟩))),(15,a0 (.int .i64 r.err)),(16,a0 (.bool false)),(17,a0 (.bool false)),(18,a0 (.bool false)),(19,a0 (.pointer (some ⟨g1,1,none⟩))),(20,a0 (.int .i64 r.err)),(21,a0 (.bool false)),(22,a0 (.bool false)),(23,a0 (.bool false)),(24,a0 (.pointer (some ⟨g1,0,none⟩))),(25,a0 (.int .i64 r.op)),(26,a0 (.bool false)),(27,a0 (.bool false)),(28,a0 undef),(29,a0 undef),(30,a0 undef),(31,a0 (.bool false)),(32,a0 (.bool false)),(33,a0 (.bool false)),(34,a0 (.agg #[(.int .i64 r.op),(.int .i64 r.err),(.slice X r.items.length cx),(.int .u64 (↑r.ver:Int)),(.int .i64 r.count),(.slice N r.nums.length cn)])),(35,a0 (.agg #[(.int .i64 r.op),(.int .i64 r.err),(.slice X r.items.length cx),(.int .u64 (↑r.ver:Int)),(.int .i64 r.count),(.slice N r.nums.length cn)])),(36,(fun v w=>∃xs36 X36 cx36 N36 cn36,v=.agg (b9 (onlyR r) X36 cx36 N36 cn36).toArray∧vals xs36=(onlyR r).items∧RdI w lo hi X36 cx36 xs36∧RdN w lo hi N36 cn36 (onlyR r).nums))] [[],[0],[1],[2],[3],[3,4],[3,5],[3,6],[7],[8],[8,9],[8,10],[8,11],[12],[13],[13,14],[13,15],[13,16],[17],[18],[18,19],[18,20],[18,21],[22],[22,23],[22,24],[18,22,25],[18,26],[27],[28],[28],[28,30]] _ [] [] ⟨sE,sE,sE,sE,sE,sE,sE,sE,sE,sE,sE,sE,sE,sE,sE,sE,sE,sE,sE,sE,sE,sE,sE,sE,sE,sE,sE,sE,sE,sE,sE,⟨(fun v w1 w2 ⟨a,b,c,d,e,hv,h1,h2,h3⟩ he=>⟨a,b,c,d,e,hv,h1,h2.ext he,Rd.ext h3 he⟩),fun _ he=>by cases he⟩,trivial⟩ ?_ ?_
 ·repeat' apply And.intro
  all_goals first|exact trivial|(intro wd bW;replace au:=au.ext bW;replace hx:=RdI.ext hx bW;replace hn:=hn.ext bW;have dK:=bW.size;(repeat rintro _ rfl))
  exact am (ax (ah cj))
  exact am (ax (ak cO au))
  exact am (fL (bz))
  exact am (ax (aF))
  exact bn (ax (ah cj))
  exact bn (ax (ak cO au))
  exact bn (fL (bw))
  exact am (ax (ap))
  exact am (ax (aF))
  exact bn (ax (ah cK))
  exact bn (ax (ak fb au))
  exact bn (fL (bz))
  exact am (ax (ap))
  exact am (ax (aF))
  exact bn (ax (ah cK))
  exact bn (ax (ak fb au))
  exact bn (fL (bw))
  exact am (ax (ap))
  exact am (ax (aF))
  exact bn (ax (ah cj))
  exact bn (ax (ak cO au))
  exact bn (fL (cI))
  exact bn (ax (aF))
  iterate 3 exact eF ⟨rfl,aP _⟩
  exact bn (ax (ap))
  exact am (ax (ap))
  exact am (ax (aF))
  iterate 2 exact bn (ax (aK bZ au))
  ·refine bn (OpRun.mono (aw AQ (m6 _ r xs hv lo hi X cx N cn hx hn)) ?_)
   rintro v w2 ⟨xs36,X36,cx36,N36,cn36,rfl,nQ,nP,nZ,yV⟩
   exact⟨⟨xs36,X36,cx36,N36,cn36,rfl,nQ,nP,nZ⟩,yV⟩
 ·intro wf1 jB
  replace hx:=RdI.ext hx jB
  replace hn:=hn.ext jB
  replace hE:=hE.tr jB
  iterate 31 rintro _ rfl
  rintro _ ⟨xs36,X36,cx36,N36,cn36,rfl,nQ,nP,nZ⟩
  refine bP (aw u7 (j5 _ r xs hv _ _ X cx N cn hx hn (onlyR r) xs36 nQ _ _ X36 cx36 N36 cn36 nP nZ)) ?_
  rintro v w2 ⟨rfl,fv⟩
  replace hE:=hE.tr fv
  refine aN (d:=37) rfl (bf (eB)) ?_
  refine aj (b6) ?_
  refine ab (ap) ?_
  refine ag (ae ?_)
  refine aR ?_
  refine af (aa ?_)
  refine va ?_
  refine ag (ae (aE (az ?_)))
  refine aY ?_
  exact⟨by rw[decide_eq_false bF],hE⟩
theorem Ol (w:World) (r:Rsp) (xs:List IT) (hv:vals xs=r.items) (lo hi:Nat) (X:Option Addr) (cx:Nat) (N:Option Addr) (cn:Nat) (hx:RdI w lo hi X cx xs) (hn:RdN w lo hi N cn r.nums) (h1:0≤r.op) (h2:r.op≤15) (h3:0≤r.err) (h4:r.err≤100000) (h5:r.op=0) (h6:¬r.err=0) (heq:r=onlyR r):
  Fn Tryz.prog 84 #[(.agg #[(.int .i64 r.op),(.int .i64 r.err),(.slice X r.items.length cx),(.int .u64 (↑r.ver:Int)),(.int .i64 r.count),(.slice N r.nums.length cn)])] w (fun v w'=>v=.bool (decide (RV r))∧Ext w w'):=by
 replace hx:=hx.top
 replace hn:=Rd.top hn
 have hE:=aP w
 obtain⟨hi,nr⟩:∃n,n=w.heap.size:=⟨_,rfl⟩
 rw[←nr] at hx hn
 have mu:=cP xs
 rw[hv] at mu
 have fR:=hx.1.2.1
 have E4:=hx.1.1
 have tl:=hn.2.1
 simp only[maxLen] at fR tl
 refine aO Tryz.func84 ?_
 refine af (aa ?_)
 refine ar (bU) ?_
 rintro v w1 ⟨g1,rfl,au,dL,kM,ls⟩
 replace hx:=RdI.ext hx dL
 replace hn:=hn.ext dL
 replace hE:=hE.tr dL
 refine va ?_
 refine ag (ae (af (af ?_)))
 refine fD 32 [(5,a0 (.pointer (some ⟨g1,0,none⟩))),(6,a0 (.int .i64 r.op)),(7,a0 (.bool false)),(8,a0 (.bool false)),(9,a0 (.pointer (some ⟨g1,0,none⟩))),(10,a0 (.int .i64 r.op)),(11,a0 (.bool false)),(12,a0 (.bool false)),(13,a0 (.bool false)),(14,a0 (.pointer (some ⟨g1,1,none⟩))),(15,a0 (.int .i64 r.err)),(16,a0 (.bool false)),(17,a0 (.bool false)),(18,a0 (.bool false)),(19,a0 (.pointer (some ⟨g1,1,none⟩))),(20,a0 (.int .i64 r.err)),(21,a0 (.bool false)),(22,a0 (.bool false)),(23,a0 (.bool false)),(24,a0 (.pointer (some ⟨g1,0,none⟩))),(25,a0 (.int .i64 r.op)),(26,a0 (.bool true)),(27,a0 (.bool true)),(28,a0 (.pointer (some ⟨g1,1,none⟩))),(29,a0 (.int .i64 r.err)),(30,a0 (.bool false)),(31,a0 (.bool false)),(32,a0 (.bool false)),(33,a0 (.bool false)),(34,a0 (.agg #[(.int .i64 r.op),(.int .i64 r.err),(.slice X r.items.length cx),(.int .u64 (↑r.ver:Int)),(.int .i64 r.count),(.slice N r.nums.length cn)])),(35,a0 (.agg #[(.int .i64 r.op),(.int .i64 r.err),(.slice X r.items.length cx),(.int .u64 (↑r.ver:Int)),(.int .i64 r.count),(.slice N r.nums.length cn)])),(36,(fun v w=>∃xs36 X36 cx36 N36 cn36,v=.agg (b9 (onlyR r) X36 cx36 N36 cn36).toArray∧vals xs36=(onlyR r).items∧RdI w lo hi X36 cx36 xs36∧RdN w lo hi N36 cn36 (onlyR r).nums))] [[],[0],[1],[2],[3],[3,4],[3,5],[3,6],[7],[8],[8,9],[8,10],[8,11],[12],[13],[13,14],[13,15],[13,16],[17],[18],[18,19],[18,20],[18,21],[22],[22,23],[22,24],[18,22,25],[18,26],[27],[28],[28],[28,30]] _ [] [] ⟨sE,sE,sE,sE,sE,sE,sE,sE,sE,sE,sE,sE,sE,sE,sE,sE,sE,sE,sE,sE,sE,sE,sE,sE,sE,sE,sE,sE,sE,sE,sE,⟨(fun v w1 w2 ⟨a,b,c,d,e,hv,h1,h2,h3⟩ he=>⟨a,b,c,d,e,hv,h1,h2.ext he,Rd.ext h3 he⟩),fun _ he=>by cases he⟩,trivial⟩ ?_ ?_
 ·repeat' apply And.intro
  all_goals first|exact trivial|(intro wd bW;replace au:=au.ext bW;replace hx:=RdI.ext hx bW;replace hn:=hn.ext bW;have dK:=bW.size;(repeat rintro _ rfl))
  exact am (ax (ah cj))
  exact am (ax (ak cO au))
  exact am (fL (bz))
  exact am (ax (aF))
  exact bn (ax (ah cj))
  exact bn (ax (ak cO au))
  exact bn (fL (bw))
  exact am (ax (ap))
  exact am (ax (aF))
  exact bn (ax (ah cK))
  exact bn (ax (ak fb au))
  exact bn (fL (bz))
  exact am (ax (ap))
  exact am (ax (aF))
  exact bn (ax (ah cK))
  exact bn (ax (ak fb au))
  exact bn (fL (bw))
  exact am (ax (ap))
  exact am (ax (aF))
  exact bn (ax (ah cj))
  exact bn (ax (ak cO au))
  exact bn (nL (cI))
  exact bn (ax (aF))
  exact bn (ax (ah cK))
  exact bn (ax (ak fb au))
  exact bn (fL (cI))
  exact bn (ax (ay))
  exact am (ax (ap))
  exact am (ax (aF))
  iterate 2 exact bn (ax (aK bZ au))
  ·refine bn (OpRun.mono (aw AQ (m6 _ r xs hv lo hi X cx N cn hx hn)) ?_)
   rintro v w2 ⟨xs36,X36,cx36,N36,cn36,rfl,nQ,nP,nZ,yV⟩
   exact⟨⟨xs36,X36,cx36,N36,cn36,rfl,nQ,nP,nZ⟩,yV⟩
 ·intro wf1 jB
  replace hx:=RdI.ext hx jB
  replace hn:=hn.ext jB
  replace hE:=hE.tr jB
  replace au:=au.ext jB
  iterate 31 rintro _ rfl
  rintro _ ⟨xs36,X36,cx36,N36,cn36,rfl,nQ,nP,nZ⟩
  refine bP (aw u7 (j5 _ r xs hv _ _ X cx N cn hx hn (onlyR r) xs36 nQ _ _ X36 cx36 N36 cn36 nP nZ)) ?_
  rintro v w2 ⟨rfl,fv⟩
  replace hx:=RdI.ext hx fv
  replace hn:=hn.ext fv
  replace hE:=hE.tr fv
  replace au:=au.ext fv
  refine aN (d:=37) rfl (bt (heq)) ?_
  refine aj (b6) ?_
  refine ab (ap) ?_
  refine ag (ae ?_)
  refine aC ?_
  refine aS (ae (af (af (aa ?_))))
  refine va ?_
  refine ag (ae (a9 ?_))
  refine cU (fun i=>r.items.length - i) (fun i=>[(1,.pointer (some ⟨g1,0,none⟩)),(3,.int .i64 (i:Int))]) (fun i w'=>i≤r.items.length∧(r.items.take i).all okV=true∧Blk w' g1 43 (b9 r X cx N cn)∧RdI w' lo hi X cx xs∧RdN w' lo hi N cn r.nums∧Ext w w') (0) (⟨Nat.zero_le _,rfl,au,hx,hn,hE⟩) ?_ (hL:=⟨rfl,rfl,trivial⟩)
  rintro i wq ⟨nh,gW,au,hx,hn,hE⟩
  have ud:=hE.size
  have NK:=au.lt
  refine af (af (aa ?_))
  refine vm ?_
  refine ab (ah cJ) ?_
  refine ab (ak fA au) ?_
  refine ab (bj Tryz.underlying40) ?_
  refine ab (bz) ?_
  refine ag (ae ?_)
  refine aL (fun eN=>?_) (fun eN=>?_)
  ·obtain⟨x,hk⟩:∃s,xs[i]?=some s:=⟨_,List.getElem?_eq_getElem (by omega)⟩
   have l6:=m2 hv hk
   refine aS (ae (af (a9 (af (aa ?_)))))
   refine ab (ah (off:=2) cJ) ?_
   refine ab (ak fA au) ?_
   refine aN (d:=48) rfl (v':=(.slice X xs.length cx)) (by rw[←hv,cP]) ?_
   refine vm ?_
   refine ar (cS nm hx.1 hk) ?_
   rintro v _ ⟨rfl,p50,rfl,LD,PU,P4⟩
   refine ab (dX jI LD) ?_
   refine ar (bc (cs:=[(.int .i64 0),(.slice none 0 0),(.int .u64 0),(.int .u64 0)]) tD) ?_
   rintro v w3 ⟨g4,rfl,aI,eM,th,ta⟩
   replace hx:=RdI.ext hx eM
   replace hn:=hn.ext eM
   replace hE:=hE.tr eM
   replace au:=au.ext eM
   refine aB (aD (vs:=[(.int .i64 x.1.mark),(.slice x.2.1 x.1.value.length x.2.2),(.int .u64 (↑x.1.ver:Int)),(.int .u64 (↑x.1.dead:Int))]) x7 aI) ?_
   rintro _ w4 ⟨gT,cQ⟩
   replace hx:=RdI.gr hx cQ (fun _ e=>by cases e;omega)
   replace hn:=hn.gr cQ
   replace hE:=hE.gr cQ
   replace au:=au.gr cQ
   replace aI:=gT
   refine ag (ae (af (aa ?_)))
   refine ab (ah fO) ?_
   refine ab (ak lg aI) ?_
   refine ve ?_
   refine aG (d:=54) (fun Ct=>?_) (fun Ct=>?_)
   ·refine vm ?_
    refine aj (aK (cs:=[(.int .i64 x.1.mark),(.slice x.2.1 x.1.value.length x.2.2),(.int .u64 (↑x.1.ver:Int)),(.int .u64 (↑x.1.dead:Int))]) jI aI) ?_
    refine aj (bi tD Kq) ?_
    refine bP (aw Nt (ra _ x.1 zI _ _ _ _ _ _ _ _ (hx.2 x (List.mem_of_getElem? hk)) (RdB.nil _ 0 0))) ?_
    rintro v w5 ⟨rfl,rC⟩
    replace hx:=RdI.ext hx rC
    replace hn:=hn.ext rC
    replace hE:=hE.tr rC
    replace au:=au.ext rC
    replace aI:=aI.ext rC
    refine aj (b6) ?_
    refine aN (d:=59) rfl (v':=(.bool (decide (¬x.1=zI)))) (by by_cases h:x.1=zI<;>simp[h]) ?_
    refine aG (d:=59) (fun Qqz=>?_) (fun Qqz=>?_)
    ·have po:okV x.1=false:=decide_eq_false (fun q=>q.1 ⟨Ct,Qqz⟩)
     have bF:¬RV r:=fun q=>f9 (List.mem_of_getElem? l6) po q.items
     refine ab (ay) ?_
     refine vm ?_
     iterate 3 refine aA ?_
     refine ab (ay) ?_
     refine vm ?_
     iterate 3 refine aA ?_
     refine ab (ay) ?_
     refine vm ?_
     iterate 4 refine aA ?_
     refine ab (ay) ?_
     refine ag (ae ?_)
     refine aR ?_
     refine af (aa ?_)
     refine va ?_
     refine ag (ae (aE (aQ (az (az (aQ (az ?_)))))))
     refine aY ?_
     exact⟨by rw[decide_eq_false bF],hE⟩
    ·have Ec:=Decidable.not_not.1 Qqz
     refine ab (ay) ?_
     refine vm ?_
     refine aj (ah fO) ?_
     refine aj (ak lg aI) ?_
     refine aj (bz) ?_
     refine aG (d:=64) (fun IB=>?_) (fun IB=>?_)
     ·have po:okV x.1=false:=decide_eq_false (fun q=>by have q2:=q.2;omega)
      have bF:¬RV r:=fun q=>f9 (List.mem_of_getElem? l6) po q.items
      refine ab (ap) ?_
      refine vm ?_
      iterate 3 refine aA ?_
      refine ab (ay) ?_
      refine vm ?_
      iterate 4 refine aA ?_
      refine ab (ay) ?_
      refine ag (ae ?_)
      refine aR ?_
      refine af (aa ?_)
      refine va ?_
      refine ag (ae (aE (aQ (az (az (aQ (az ?_)))))))
      refine aY ?_
      exact⟨by rw[decide_eq_false bF],hE⟩
     ·refine ab (ap) ?_
      refine vm ?_
      refine aj (ah fO) ?_
      refine aj (ak lg aI) ?_
      refine aj (bw) ?_
      refine aG (d:=69) (fun M7=>?_) (fun M7=>?_)
      ·have po:okV x.1=false:=decide_eq_false (fun q=>by have q2:=q.2;omega)
       have bF:¬RV r:=fun q=>f9 (List.mem_of_getElem? l6) po q.items
       refine ab (ap) ?_
       refine vm ?_
       iterate 4 refine aA ?_
       refine ab (ay) ?_
       refine ag (ae ?_)
       refine aR ?_
       refine af (aa ?_)
       refine va ?_
       refine ag (ae (aE (aQ (az (az (aQ (az ?_)))))))
       refine aY ?_
       exact⟨by rw[decide_eq_false bF],hE⟩
      ·refine ab (ap) ?_
       refine vm ?_
       refine aj (ah iB) ?_
       refine aj (ak dc aI) ?_
       refine aj (bj Tryz.underlying32) ?_
       refine aj (bw) ?_
       refine aG (d:=75) (fun M6=>?_) (fun M6=>?_)
       ·have po:okV x.1=false:=decide_eq_false (fun q=>by have q2:=q.2;omega)
        have bF:¬RV r:=fun q=>f9 (List.mem_of_getElem? l6) po q.items
        refine ab (ap) ?_
        refine ag (ae ?_)
        refine aR ?_
        refine af (aa ?_)
        refine va ?_
        refine ag (ae (aE (aQ (az (az (aQ (az ?_)))))))
        refine aY ?_
        exact⟨by rw[decide_eq_false bF],hE⟩
       ·have KN:okV x.1=true:=decide_eq_true ⟨by first|exact fun q=>q.2 Ec|exact fun q=>Ct q.1,by omega,by omega,by omega⟩
        refine ab (ap) ?_
        refine ag (ae ?_)
        refine aC ?_
        refine aS (bb (ae (aa ?_)))
        refine vm ?_
        refine ab (bH) ?_
        refine va ?_
        refine ag ?_
        refine cB (i+1) (by show r.items.length -(i+1)<r.items.length - i;omega) (⟨by omega,by rw[oA l6,gW,KN];rfl,au,hx,hn,hE⟩) (hL:=⟨rfl,rfl,trivial⟩)
   ·refine vm ?_
    iterate 4 refine aA ?_
    refine ab (ap) ?_
    refine vm ?_
    refine aj (ah fO) ?_
    refine aj (ak lg aI) ?_
    refine aj (bz) ?_
    refine aG (d:=64) (fun IB=>?_) (fun IB=>?_)
    ·have po:okV x.1=false:=decide_eq_false (fun q=>by have q2:=q.2;omega)
     have bF:¬RV r:=fun q=>f9 (List.mem_of_getElem? l6) po q.items
     refine ab (ap) ?_
     refine vm ?_
     iterate 3 refine aA ?_
     refine ab (ay) ?_
     refine vm ?_
     iterate 4 refine aA ?_
     refine ab (ay) ?_
     refine ag (ae ?_)
     refine aR ?_
     refine af (aa ?_)
     refine va ?_
     refine ag (ae (aE (aQ (az (az (aQ (az ?_)))))))
     refine aY ?_
     exact⟨by rw[decide_eq_false bF],hE⟩
    ·refine ab (ap) ?_
     refine vm ?_
     refine aj (ah fO) ?_
     refine aj (ak lg aI) ?_
     refine aj (bw) ?_
     refine aG (d:=69) (fun M7=>?_) (fun M7=>?_)
     ·have po:okV x.1=false:=decide_eq_false (fun q=>by have q2:=q.2;omega)
      have bF:¬RV r:=fun q=>f9 (List.mem_of_getElem? l6) po q.items
      refine ab (ap) ?_
      refine vm ?_
      iterate 4 refine aA ?_
      refine ab (ay) ?_
      refine ag (ae ?_)
      refine aR ?_
      refine af (aa ?_)
      refine va ?_
      refine ag (ae (aE (aQ (az (az (aQ (az ?_)))))))
      refine aY ?_
      exact⟨by rw[decide_eq_false bF],hE⟩
     ·refine ab (ap) ?_
      refine vm ?_
      refine aj (ah iB) ?_
      refine aj (ak dc aI) ?_
      refine aj (bj Tryz.underlying32) ?_
      refine aj (bw) ?_
      refine aG (d:=75) (fun M6=>?_) (fun M6=>?_)
      ·have po:okV x.1=false:=decide_eq_false (fun q=>by have q2:=q.2;omega)
       have bF:¬RV r:=fun q=>f9 (List.mem_of_getElem? l6) po q.items
       refine ab (ap) ?_
       refine ag (ae ?_)
       refine aR ?_
       refine af (aa ?_)
       refine va ?_
       refine ag (ae (aE (aQ (az (az (aQ (az ?_)))))))
       refine aY ?_
       exact⟨by rw[decide_eq_false bF],hE⟩
      ·have KN:okV x.1=true:=decide_eq_true ⟨by first|exact fun q=>q.2 Ec|exact fun q=>Ct q.1,by omega,by omega,by omega⟩
       refine ab (ap) ?_
       refine ag (ae ?_)
       refine aC ?_
       refine aS (bb (ae (aa ?_)))
       refine vm ?_
       refine ab (bH) ?_
       refine va ?_
       refine ag ?_
       refine cB (i+1) (by show r.items.length -(i+1)<r.items.length - i;omega) (⟨by omega,by rw[oA l6,gW,KN];rfl,au,hx,hn,hE⟩) (hL:=⟨rfl,rfl,trivial⟩)
  ·have pr:r.items.take i=r.items:=List.take_of_length_le (by omega)
   rw[pr] at gW
   refine cW (bx (bx (ce (ae (af (af (aa ?_)))))))
   refine ab (ah cK) ?_
   refine ab (ak fb au) ?_
   refine ve ?_
   refine aG (d:=79) (fun y5=>?_) (fun y5=>?_)
   ·refine vm ?_
    refine aj (ah cj) ?_
    refine aj (ak cO au) ?_
    refine aj (aw u6 (gu _ r.op)) ?_
    refine aj (cI) ?_
    refine aG (d:=84) (fun y4=>?_) (fun y4=>?_)
    ·refine ab (ay) ?_
     refine vm ?_
     refine aj (ah cJ) ?_
     refine aj (ak fA au) ?_
     refine aj (bj Tryz.underlying40) ?_
     refine aj (bS) ?_
     refine aG (d:=90) (fun Yh=>?_) (fun Yh=>?_)
     ·have bF:¬RV r:=fun q=>q.one ⟨by omega,by omega,by omega⟩
      refine ab (ay) ?_
      refine vm ?_
      iterate 4 refine aA ?_
      iterate 4 refine cN ?_
      iterate 2 refine aA ?_
      iterate 10 refine cN ?_
      refine aA ?_
      refine ab (ay) ?_
      refine ag (ae ?_)
      refine aR ?_
      refine af (aa ?_)
      refine va ?_
      refine ag (ae (aE (az ?_)))
      refine aY ?_
      exact⟨by rw[decide_eq_false bF],hE⟩
     ·refine ab (ay) ?_
      refine vm ?_
      refine aj (ah cK) ?_
      refine aj (ak fb au) ?_
      refine aj (cI) ?_
      refine aN (d:=95) rfl (bt (y5)) ?_
      refine aj (aF) ?_
      refine aj (ah cj) ?_
      refine aj (ak cO au) ?_
      refine aj (aw u6 (gu _ r.op)) ?_
      refine aj (cI) ?_
      refine aG (d:=100) (fun y8=>?_) (fun y8=>?_)
      ·refine aj (ay) ?_
       refine aj (aF) ?_
       refine aj (ah cJ) ?_
       refine aj (ak fA au) ?_
       refine aj (bj Tryz.underlying40) ?_
       refine aj (bz) ?_
       refine aG (d:=106) (fun y7=>?_) (fun y7=>?_)
       ·have bF:¬RV r:=fun q=>q.many ⟨by omega,by omega,by omega⟩
        refine aj (aF) ?_
        iterate 4 refine aA ?_
        iterate 2 refine aj (ay) ?_
        refine ab (ap) ?_
        refine ag (ae ?_)
        refine aR ?_
        refine af (aa ?_)
        refine va ?_
        refine ag (ae (aE (az ?_)))
        refine aY ?_
        exact⟨by rw[decide_eq_false bF],hE⟩
       ·refine aj (aF) ?_
        refine aj (ah cJ) ?_
        refine aj (ak fA au) ?_
        refine aj (bj Tryz.underlying40) ?_
        refine aj (bw) ?_
        refine aG (d:=111) (fun y6=>?_) (fun y6=>?_)
        ·have bF:¬RV r:=fun q=>q.many ⟨by omega,by omega,by omega⟩
         refine aj (ap) ?_
         refine aj (ay) ?_
         refine ab (ap) ?_
         refine ag (ae ?_)
         refine aR ?_
         refine af (aa ?_)
         refine va ?_
         refine ag (ae (aE (az ?_)))
         refine aY ?_
         exact⟨by rw[decide_eq_false bF],hE⟩
        ·refine aj (ap) ?_
         refine aj (ay) ?_
         refine ab (ap) ?_
         refine ag (ae ?_)
         refine aC ?_
         refine aS (ae (af (aa ?_)))
         refine ab (ah dE) ?_
         refine ab (ak gg au) ?_
         refine ab (fX) ?_
         refine aG (d:=117) (fun lT=>?_) (fun lT=>?_)
         ·refine vm ?_
          refine aj (ah dE) ?_
          refine aj (ak gg au) ?_
          refine aj (dl) ?_
          refine aG (d:=121) (fun lS=>?_) (fun lS=>?_)
          ·refine ab (ay) ?_
           refine vm ?_
           refine aj (ah dI) ?_
           refine aj (ak iG au) ?_
           refine aj (bj Tryz.underlying41) ?_
           refine aj (dl) ?_
           refine aG (d:=127) (fun lR=>?_) (fun lR=>?_)
           ·have eZ:RV r:=⟨by omega,by omega,by omega,by omega,by omega,heq,gW,by omega,by omega,by omega,by omega,by omega⟩
            refine ab (ay) ?_
            refine va ?_
            refine ag (ae (aE ?_))
            refine aY ?_
            exact⟨by rw[decide_eq_true eZ],hE⟩
           ·have bF:¬RV r:=fun q=>by have:=q.nums;omega
            refine ab (ay) ?_
            refine va ?_
            refine ag (ae (aE ?_))
            refine aY ?_
            exact⟨by rw[decide_eq_false bF],hE⟩
          ·have bF:¬RV r:=fun q=>by have:=q.c2;omega
           refine ab (ay) ?_
           refine vm ?_
           iterate 4 refine aA ?_
           refine ab (ap) ?_
           refine va ?_
           refine ag (ae (aE ?_))
           refine aY ?_
           exact⟨by rw[decide_eq_false bF],hE⟩
         ·have bF:¬RV r:=fun q=>by have:=q.c1;omega
          refine vm ?_
          iterate 3 refine aA ?_
          refine ab (ap) ?_
          refine vm ?_
          iterate 4 refine aA ?_
          refine ab (ap) ?_
          refine va ?_
          refine ag (ae (aE ?_))
          refine aY ?_
          exact⟨by rw[decide_eq_false bF],hE⟩
      ·refine aj (ay) ?_
       refine aj (aF) ?_
       iterate 5 refine aA ?_
       iterate 4 refine cN ?_
       refine aA ?_
       refine aj (ap) ?_
       refine ab (ap) ?_
       refine ag (ae ?_)
       refine aC ?_
       refine aS (ae (af (aa ?_)))
       refine ab (ah dE) ?_
       refine ab (ak gg au) ?_
       refine ab (fX) ?_
       refine aG (d:=117) (fun lT=>?_) (fun lT=>?_)
       ·refine vm ?_
        refine aj (ah dE) ?_
        refine aj (ak gg au) ?_
        refine aj (dl) ?_
        refine aG (d:=121) (fun lS=>?_) (fun lS=>?_)
        ·refine ab (ay) ?_
         refine vm ?_
         refine aj (ah dI) ?_
         refine aj (ak iG au) ?_
         refine aj (bj Tryz.underlying41) ?_
         refine aj (dl) ?_
         refine aG (d:=127) (fun lR=>?_) (fun lR=>?_)
         ·have eZ:RV r:=⟨by omega,by omega,by omega,by omega,by omega,heq,gW,by omega,by omega,by omega,by omega,by omega⟩
          refine ab (ay) ?_
          refine va ?_
          refine ag (ae (aE ?_))
          refine aY ?_
          exact⟨by rw[decide_eq_true eZ],hE⟩
         ·have bF:¬RV r:=fun q=>by have:=q.nums;omega
          refine ab (ay) ?_
          refine va ?_
          refine ag (ae (aE ?_))
          refine aY ?_
          exact⟨by rw[decide_eq_false bF],hE⟩
        ·have bF:¬RV r:=fun q=>by have:=q.c2;omega
         refine ab (ay) ?_
         refine vm ?_
         iterate 4 refine aA ?_
         refine ab (ap) ?_
         refine va ?_
         refine ag (ae (aE ?_))
         refine aY ?_
         exact⟨by rw[decide_eq_false bF],hE⟩
       ·have bF:¬RV r:=fun q=>by have:=q.c1;omega
        refine vm ?_
        iterate 3 refine aA ?_
        refine ab (ap) ?_
        refine vm ?_
        iterate 4 refine aA ?_
        refine ab (ap) ?_
        refine va ?_
        refine ag (ae (aE ?_))
        refine aY ?_
        exact⟨by rw[decide_eq_false bF],hE⟩
    ·refine ab (ay) ?_
     refine vm ?_
     iterate 4 refine aA ?_
     refine ab (ap) ?_
     refine vm ?_
     refine aj (ah cK) ?_
     refine aj (ak fb au) ?_
     refine aj (cI) ?_
     refine aN (d:=95) rfl (bt (y5)) ?_
     refine aj (aF) ?_
     refine aj (ah cj) ?_
     refine aj (ak cO au) ?_
     refine aj (aw u6 (gu _ r.op)) ?_
     refine aj (cI) ?_
     refine aG (d:=100) (fun y8=>?_) (fun y8=>?_)
     ·refine aj (ay) ?_
      refine aj (aF) ?_
      refine aj (ah cJ) ?_
      refine aj (ak fA au) ?_
      refine aj (bj Tryz.underlying40) ?_
      refine aj (bz) ?_
      refine aG (d:=106) (fun y7=>?_) (fun y7=>?_)
      ·have bF:¬RV r:=fun q=>q.many ⟨by omega,by omega,by omega⟩
       refine aj (aF) ?_
       iterate 4 refine aA ?_
       iterate 2 refine aj (ay) ?_
       refine ab (ap) ?_
       refine ag (ae ?_)
       refine aR ?_
       refine af (aa ?_)
       refine va ?_
       refine ag (ae (aE (az ?_)))
       refine aY ?_
       exact⟨by rw[decide_eq_false bF],hE⟩
      ·refine aj (aF) ?_
       refine aj (ah cJ) ?_
       refine aj (ak fA au) ?_
       refine aj (bj Tryz.underlying40) ?_
       refine aj (bw) ?_
       refine aG (d:=111) (fun y6=>?_) (fun y6=>?_)
       ·have bF:¬RV r:=fun q=>q.many ⟨by omega,by omega,by omega⟩
        refine aj (ap) ?_
        refine aj (ay) ?_
        refine ab (ap) ?_
        refine ag (ae ?_)
        refine aR ?_
        refine af (aa ?_)
        refine va ?_
        refine ag (ae (aE (az ?_)))
        refine aY ?_
        exact⟨by rw[decide_eq_false bF],hE⟩
       ·refine aj (ap) ?_
        refine aj (ay) ?_
        refine ab (ap) ?_
        refine ag (ae ?_)
        refine aC ?_
        refine aS (ae (af (aa ?_)))
        refine ab (ah dE) ?_
        refine ab (ak gg au) ?_
        refine ab (fX) ?_
        refine aG (d:=117) (fun lT=>?_) (fun lT=>?_)
        ·refine vm ?_
         refine aj (ah dE) ?_
         refine aj (ak gg au) ?_
         refine aj (dl) ?_
         refine aG (d:=121) (fun lS=>?_) (fun lS=>?_)
         ·refine ab (ay) ?_
          refine vm ?_
          refine aj (ah dI) ?_
          refine aj (ak iG au) ?_
          refine aj (bj Tryz.underlying41) ?_
          refine aj (dl) ?_
          refine aG (d:=127) (fun lR=>?_) (fun lR=>?_)
          ·have eZ:RV r:=⟨by omega,by omega,by omega,by omega,by omega,heq,gW,by omega,by omega,by omega,by omega,by omega⟩
           refine ab (ay) ?_
           refine va ?_
           refine ag (ae (aE ?_))
           refine aY ?_
           exact⟨by rw[decide_eq_true eZ],hE⟩
          ·have bF:¬RV r:=fun q=>by have:=q.nums;omega
           refine ab (ay) ?_
           refine va ?_
           refine ag (ae (aE ?_))
           refine aY ?_
           exact⟨by rw[decide_eq_false bF],hE⟩
         ·have bF:¬RV r:=fun q=>by have:=q.c2;omega
          refine ab (ay) ?_
          refine vm ?_
          iterate 4 refine aA ?_
          refine ab (ap) ?_
          refine va ?_
          refine ag (ae (aE ?_))
          refine aY ?_
          exact⟨by rw[decide_eq_false bF],hE⟩
        ·have bF:¬RV r:=fun q=>by have:=q.c1;omega
         refine vm ?_
         iterate 3 refine aA ?_
         refine ab (ap) ?_
         refine vm ?_
         iterate 4 refine aA ?_
         refine ab (ap) ?_
         refine va ?_
         refine ag (ae (aE ?_))
         refine aY ?_
         exact⟨by rw[decide_eq_false bF],hE⟩
     ·refine aj (ay) ?_
      refine aj (aF) ?_
      iterate 5 refine aA ?_
      iterate 4 refine cN ?_
      refine aA ?_
      refine aj (ap) ?_
      refine ab (ap) ?_
      refine ag (ae ?_)
      refine aC ?_
      refine aS (ae (af (aa ?_)))
      refine ab (ah dE) ?_
      refine ab (ak gg au) ?_
      refine ab (fX) ?_
      refine aG (d:=117) (fun lT=>?_) (fun lT=>?_)
      ·refine vm ?_
       refine aj (ah dE) ?_
       refine aj (ak gg au) ?_
       refine aj (dl) ?_
       refine aG (d:=121) (fun lS=>?_) (fun lS=>?_)
       ·refine ab (ay) ?_
        refine vm ?_
        refine aj (ah dI) ?_
        refine aj (ak iG au) ?_
        refine aj (bj Tryz.underlying41) ?_
        refine aj (dl) ?_
        refine aG (d:=127) (fun lR=>?_) (fun lR=>?_)
        ·have eZ:RV r:=⟨by omega,by omega,by omega,by omega,by omega,heq,gW,by omega,by omega,by omega,by omega,by omega⟩
         refine ab (ay) ?_
         refine va ?_
         refine ag (ae (aE ?_))
         refine aY ?_
         exact⟨by rw[decide_eq_true eZ],hE⟩
        ·have bF:¬RV r:=fun q=>by have:=q.nums;omega
         refine ab (ay) ?_
         refine va ?_
         refine ag (ae (aE ?_))
         refine aY ?_
         exact⟨by rw[decide_eq_false bF],hE⟩
       ·have bF:¬RV r:=fun q=>by have:=q.c2;omega
        refine ab (ay) ?_
        refine vm ?_
        iterate 4 refine aA ?_
        refine ab (ap) ?_
        refine va ?_
        refine ag (ae (aE ?_))
        refine aY ?_
        exact⟨by rw[decide_eq_false bF],hE⟩
      ·have bF:¬RV r:=fun q=>by have:=q.c1;omega
       refine vm ?_
       iterate 3 refine aA ?_
       refine ab (ap) ?_
       refine vm ?_
       iterate 4 refine aA ?_
       refine ab (ap) ?_
       refine va ?_
       refine ag (ae (aE ?_))
       refine aY ?_
       exact⟨by rw[decide_eq_false bF],hE⟩
   ·refine vm ?_
    iterate 4 refine aA ?_
    refine ab (ap) ?_
    refine vm ?_
    iterate 4 refine aA ?_
    refine ab (ap) ?_
    refine vm ?_
    refine aj (ah cK) ?_
    refine aj (ak fb au) ?_
    refine aj (cI) ?_
    refine aN (d:=95) rfl (bf (y5)) ?_
    refine aj (aF) ?_
    iterate 4 refine aA ?_
    refine aj (ap) ?_
    refine aj (aF) ?_
    iterate 5 refine aA ?_
    iterate 4 refine cN ?_
    refine aA ?_
    refine aj (ap) ?_
    refine ab (ap) ?_
    refine ag (ae ?_)
    refine aC ?_
    refine aS (ae (af (aa ?_)))
    refine ab (ah dE) ?_
    refine ab (ak gg au) ?_
    refine ab (fX) ?_
    refine aG (d:=117) (fun lT=>?_) (fun lT=>?_)
    ·refine vm ?_
     refine aj (ah dE) ?_
     refine aj (ak gg au) ?_
     refine aj (dl) ?_
     refine aG (d:=121) (fun lS=>?_) (fun lS=>?_)
     ·refine ab (ay) ?_
      refine vm ?_
      refine aj (ah dI) ?_
      refine aj (ak iG au) ?_
      refine aj (bj Tryz.underlying41) ?_
      refine aj (dl) ?_
      refine aG (d:=127) (fun lR=>?_) (fun lR=>?_)
      ·have eZ:RV r:=⟨by omega,by omega,by omega,by omega,by omega,heq,gW,by omega,by omega,by omega,by omega,by omega⟩
       refine ab (ay) ?_
       refine va ?_
       refine ag (ae (aE ?_))
       refine aY ?_
       exact⟨by rw[decide_eq_true eZ],hE⟩
      ·have bF:¬RV r:=fun q=>by have:=q.nums;omega
       refine ab (ay) ?_
       refine va ?_
       refine ag (ae (aE ?_))
       refine aY ?_
       exact⟨by rw[decide_eq_false bF],hE⟩
     ·have bF:¬RV r:=fun q=>by have:=q.c2;omega
      refine ab (ay) ?_
      refine vm ?_
      iterate 4 refine aA ?_
      refine ab (ap) ?_
      refine va ?_
      refine ag (ae (aE ?_))
      refine aY ?_
      exact⟨by rw[decide_eq_false bF],hE⟩
    ·have bF:¬RV r:=fun q=>by have:=q.c1;omega
     refine vm ?_
     iterate 3 refine aA ?_
     refine ab (ap) ?_
     refine vm ?_
     iterate 4 refine aA ?_
     refine ab (ap) ?_
     refine va ?_
     refine ag (ae (aE ?_))
     refine aY ?_
     exact⟨by rw[decide_eq_false bF],hE⟩
theorem Ok (w:World) (r:Rsp) (xs:List IT) (hv:vals xs=r.items) (lo hi:Nat) (X:Option Addr) (cx:Nat) (N:Option Addr) (cn:Nat) (hx:RdI w lo hi X cx xs) (hn:RdN w lo hi N cn r.nums) (h1:0≤r.op) (h2:r.op≤15) (h3:0≤r.err) (h4:r.err≤100000) (h5:¬r.op=0) (heq:r=onlyR r):
  Fn Tryz.prog 84 #[(.agg #[(.int .i64 r.op),(.int .i64 r.err),(.slice X r.items.length cx),(.int .u64 (↑r.ver:Int)),(.int .i64 r.count),(.slice N r.nums.length cn)])] w (fun v w'=>v=.bool (decide (RV r))∧Ext w w'):=by
 replace hx:=hx.top
 replace hn:=Rd.top hn
 have hE:=aP w
 obtain⟨hi,nr⟩:∃n,n=w.heap.size:=⟨_,rfl⟩
 rw[←nr] at hx hn
 have mu:=cP xs
 rw[hv] at mu
 have fR:=hx.1.2.1
 have E4:=hx.1.1
 have tl:=hn.2.1
 simp only[maxLen] at fR tl
 refine aO Tryz.func84 ?_
 refine af (aa ?_)
 refine ar (bU) ?_
 rintro v w1 ⟨g1,rfl,au,dL,kM,ls⟩
 replace hx:=RdI.ext hx dL
 replace hn:=hn.ext dL
 replace hE:=hE.tr dL
 refine va ?_
 refine ag (ae (af (af ?_)))
 refine fD 32 [(5,a0 (.pointer (some ⟨g1,0,none⟩))),(6,a0 (.int .i64 r.op)),(7,a0 (.bool false)),(8,a0 (.bool false)),(9,a0 (.pointer (some ⟨g1,0,none⟩))),(10,a0 (.int .i64 r.op)),(11,a0 (.bool false)),(12,a0 (.bool false)),(13,a0 (.bool false)),(14,a0 (.pointer (some ⟨g1,1,none⟩))),(15,a0 (.int .i64 r.err)),(16,a0 (.bool false)),(17,a0 (.bool false)),(18,a0 (.bool false)),(19,a0 (.pointer (some ⟨g1,1,none⟩))),(20,a0 (.int .i64 r.err)),(21,a0 (.bool false)),(22,a0 (.bool false)),(23,a0 (.bool false)),(24,a0 (.pointer (some ⟨g1,0,none⟩))),(25,a0 (.int .i64 r.op)),(26,a0 (.bool false)),(27,a0 (.bool false)),(28,a0 undef),(29,a0 undef),(30,a0 undef),(31,a0 (.bool false)),(32,a0 (.bool false)),(33,a0 (.bool false)),(34,a0 (.agg #[(.int .i64 r.op),(.int .i64 r.err),(.slice X r.items.length cx),(.int .u64 (↑r.ver:Int)),(.int .i64 r.count),(.slice N r.nums.length cn)])),(35,a0 (.agg #[(.int .i64 r.op),(.int .i64 r.err),(.slice X r.items.length cx),(.int .u64 (↑r.ver:Int)),(.int .i64 r.count),(.slice N r.nums.length cn)])),(36,(fun v w=>∃xs36 X36 cx36 N36 cn36,v=.agg (b9 (onlyR r) X36 cx36 N36 cn36).toArray∧vals xs36=(onlyR r).items∧RdI w lo hi X36 cx36 xs36∧RdN w lo hi N36 cn36 (onlyR r).nums))] [[],[0],[1],[2],[3],[3,4],[3,5],[3,6],[7],[8],[8,9],[8,10],[8,11],[12],[13],[13,14],[13,15],[13,16],[17],[18],[18,19],[18,20],[18,21],[22],[22,23],[22,24],[18,22,25],[18,26],[27],[28],[28],[28,30]] _ [] [] ⟨sE,sE,sE,sE,sE,sE,sE,sE,sE,sE,sE,sE,sE,sE,sE,sE,sE,sE,sE,sE,sE,sE,sE,sE,sE,sE,sE,sE,sE,sE,sE,⟨(fun v w1 w2 ⟨a,b,c,d,e,hv,h1,h2,h3⟩ he=>⟨a,b,c,d,e,hv,h1,h2.ext he,Rd.ext h3 he⟩),fun _ he=>by cases he⟩,trivial⟩ ?_ ?_
 ·repeat' apply And.intro
  all_goals first|exact trivial|(intro wd bW;replace au:=au.ext bW;replace hx:=RdI.ext hx bW;replace hn:=hn.ext bW;have dK:=bW.size;(repeat rintro _ rfl))
  exact am (ax (ah cj))
  exact am (ax (ak cO au))
  exact am (fL (bz))
  exact am (ax (aF))
  exact bn (ax (ah cj))
  exact bn (ax (ak cO au))
  exact bn (fL (bw))
  exact am (ax (ap))
  exact am (ax (aF))
  exact bn (ax (ah cK))
  exact bn (ax (ak fb au))
  exact bn (fL (bz))
  exact am (ax (ap))
  exact am (ax (aF))
  exact bn (ax (ah cK))
  exact bn (ax (ak fb au))
  exact bn (fL (bw))
  exact am (ax (ap))
  exact am (ax (aF))
  exact bn (ax (ah cj))
  exact bn (ax (ak cO au))
  exact bn (fL (cI))
  exact bn (ax (aF))
  iterate 3 exact eF ⟨rfl,aP _⟩
  exact bn (ax (ap))
  exact am (ax (ap))
  exact am (ax (aF))
  iterate 2 exact bn (ax (aK bZ au))
  ·refine bn (OpRun.mono (aw AQ (m6 _ r xs hv lo hi X cx N cn hx hn)) ?_)
   rintro v w2 ⟨xs36,X36,cx36,N36,cn36,rfl,nQ,nP,nZ,yV⟩
   exact⟨⟨xs36,X36,cx36,N36,cn36,rfl,nQ,nP,nZ⟩,yV⟩
 ·intro wf1 jB
  replace hx:=RdI.ext hx jB
  replace hn:=hn.ext jB
  replace hE:=hE.tr jB
  replace au:=au.ext jB
  iterate 31 rintro _ rfl
  rintro _ ⟨xs36,X36,cx36,N36,cn36,rfl,nQ,nP,nZ⟩
  refine bP (aw u7 (j5 _ r xs hv _ _ X cx N cn hx hn (onlyR r) xs36 nQ _ _ X36 cx36 N36 cn36 nP nZ)) ?_
  rintro v w2 ⟨rfl,fv⟩
  replace hx:=RdI.ext hx fv
  replace hn:=hn.ext fv
  replace hE:=hE.tr fv
  replace au:=au.ext fv
  refine aN (d:=37) rfl (bt (heq)) ?_
  refine aj (b6) ?_
  refine ab (ap) ?_
  refine ag (ae ?_)
  refine aC ?_
  refine aS (ae (af (af (aa ?_))))
  refine va ?_
  refine ag (ae (a9 ?_))
  refine cU (fun i=>r.items.length - i) (fun i=>[(1,.pointer (some ⟨g1,0,none⟩)),(3,.int .i64 (i:Int))]) (fun i w'=>i≤r.items.length∧(r.items.take i).all okV=true∧Blk w' g1 43 (b9 r X cx N cn)∧RdI w' lo hi X cx xs∧RdN w' lo hi N cn r.nums∧Ext w w') (0) (⟨Nat.zero_le _,rfl,au,hx,hn,hE⟩) ?_ (hL:=⟨rfl,rfl,trivial⟩)
  rintro i wq ⟨nh,gW,au,hx,hn,hE⟩
  have ud:=hE.size
  have NK:=au.lt
  refine af (af (aa ?_))
  refine vm ?_
  refine ab (ah cJ) ?_
  refine ab (ak fA au) ?_
  refine ab (bj Tryz.underlying40) ?_
  refine ab (bz) ?_
  refine ag (ae ?_)
  refine aL (fun eN=>?_) (fun eN=>?_)
  ·obtain⟨x,hk⟩:∃s,xs[i]?=some s:=⟨_,List.getElem?_eq_getElem (by omega)⟩
   have l6:=m2 hv hk
   refine aS (ae (af (a9 (af (aa ?_)))))
   refine ab (ah (off:=2) cJ) ?_
   refine ab (ak fA au) ?_
   refine aN (d:=48) rfl (v':=(.slice X xs.length cx)) (by rw[←hv,cP]) ?_
   refine vm ?_
   refine ar (cS nm hx.1 hk) ?_
   rintro v _ ⟨rfl,p50,rfl,LD,PU,P4⟩
   refine ab (dX jI LD) ?_
   refine ar (bc (cs:=[(.int .i64 0),(.slice none 0 0),(.int .u64 0),(.int .u64 0)]) tD) ?_
   rintro v w3 ⟨g4,rfl,aI,eM,th,ta⟩
   replace hx:=RdI.ext hx eM
   replace hn:=hn.ext eM
   replace hE:=hE.tr eM
   replace au:=au.ext eM
   refine aB (aD (vs:=[(.int .i64 x.1.mark),(.slice x.2.1 x.1.value.length x.2.2),(.int .u64 (↑x.1.ver:Int)),(.int .u64 (↑x.1.dead:Int))]) x7 aI) ?_
   rintro _ w4 ⟨gT,cQ⟩
   replace hx:=RdI.gr hx cQ (fun _ e=>by cases e;omega)
   replace hn:=hn.gr cQ
   replace hE:=hE.gr cQ
   replace au:=au.gr cQ
   replace aI:=gT
   refine ag (ae (af (aa ?_)))
   refine ab (ah fO) ?_
   refine ab (ak lg aI) ?_
   refine ve ?_
   refine aG (d:=54) (fun Ct=>?_) (fun Ct=>?_)
   ·refine vm ?_
    refine aj (aK (cs:=[(.int .i64 x.1.mark),(.slice x.2.1 x.1.value.length x.2.2),(.int .u64 (↑x.1.ver:Int)),(.int .u64 (↑x.1.dead:Int))]) jI aI) ?_
    refine aj (bi tD Kq) ?_
    refine bP (aw Nt (ra _ x.1 zI _ _ _ _ _ _ _ _ (hx.2 x (List.mem_of_getElem? hk)) (RdB.nil _ 0 0))) ?_
    rintro v w5 ⟨rfl,rC⟩
    replace hx:=RdI.ext hx rC
    replace hn:=hn.ext rC
    replace hE:=hE.tr rC
    replace au:=au.ext rC
    replace aI:=aI.ext rC
    refine aj (b6) ?_
    refine aN (d:=59) rfl (v':=(.bool (decide (¬x.1=zI)))) (by by_cases h:x.1=zI<;>simp[h]) ?_
    refine aG (d:=59) (fun Qqz=>?_) (fun Qqz=>?_)
    ·have po:okV x.1=false:=decide_eq_false (fun q=>q.1 ⟨Ct,Qqz⟩)
     have bF:¬RV r:=fun q=>f9 (List.mem_of_getElem? l6) po q.items
     refine ab (ay) ?_
     refine vm ?_
     iterate 3 refine aA ?_
     refine ab (ay) ?_
     refine vm ?_
     iterate 3 refine aA ?_
     refine ab (ay) ?_
     refine vm ?_
     iterate 4 refine aA ?_
     refine ab (ay) ?_
     refine ag (ae ?_)
     refine aR ?_
     refine af (aa ?_)
     refine va ?_
     refine ag (ae (aE (aQ (az (az (aQ (az ?_)))))))
     refine aY ?_
     exact⟨by rw[decide_eq_false bF],hE⟩
    ·have Ec:=Decidable.not_not.1 Qqz
     refine ab (ay) ?_
     refine vm ?_
     refine aj (ah fO) ?_
     refine aj (ak lg aI) ?_
     refine aj (bz) ?_
     refine aG (d:=64) (fun IB=>?_) (fun IB=>?_)
     ·have po:okV x.1=false:=decide_eq_false (fun q=>by have q2:=q.2;omega)
      have bF:¬RV r:=fun q=>f9 (List.mem_of_getElem? l6) po q.items
      refine ab (ap) ?_
      refine vm ?_
      iterate 3 refine aA ?_
      refine ab (ay) ?_
      refine vm ?_
      iterate 4 refine aA ?_
      refine ab (ay) ?_
      refine ag (ae ?_)
      refine aR ?_
      refine af (aa ?_)
      refine va ?_
      refine ag (ae (aE (aQ (az (az (aQ (az ?_)))))))
      refine aY ?_
      exact⟨by rw[decide_eq_false bF],hE⟩
     ·refine ab (ap) ?_
      refine vm ?_
      refine aj (ah fO) ?_
      refine aj (ak lg aI) ?_
      refine aj (bw) ?_
      refine aG (d:=69) (fun M7=>?_) (fun M7=>?_)
      ·have po:okV x.1=false:=decide_eq_false (fun q=>by have q2:=q.2;omega)
       have bF:¬RV r:=fun q=>f9 (List.mem_of_getElem? l6) po q.items
       refine ab (ap) ?_
       refine vm ?_
       iterate 4 refine aA ?_
       refine ab (ay) ?_
       refine ag (ae ?_)
       refine aR ?_
       refine af (aa ?_)
       refine va ?_
       refine ag (ae (aE (aQ (az (az (aQ (az ?_)))))))
       refine aY ?_
       exact⟨by rw[decide_eq_false bF],hE⟩
      ·refine ab (ap) ?_
       refine vm ?_
       refine aj (ah iB) ?_
       refine aj (ak dc aI) ?_
       refine aj (bj Tryz.underlying32) ?_
       refine aj (bw) ?_
       refine aG (d:=75) (fun M6=>?_) (fun M6=>?_)
       ·have po:okV x.1=false:=decide_eq_false (fun q=>by have q2:=q.2;omega)
        have bF:¬RV r:=fun q=>f9 (List.mem_of_getElem? l6) po q.items
        refine ab (ap) ?_
        refine ag (ae ?_)
        refine aR ?_
        refine af (aa ?_)
        refine va ?_
        refine ag (ae (aE (aQ (az (az (aQ (az ?_)))))))
        refine aY ?_
        exact⟨by rw[decide_eq_false bF],hE⟩
       ·have KN:okV x.1=true:=decide_eq_true ⟨by first|exact fun q=>q.2 Ec|exact fun q=>Ct q.1,by omega,by omega,by omega⟩
        refine ab (ap) ?_
        refine ag (ae ?_)
        refine aC ?_
        refine aS (bb (ae (aa ?_)))
        refine vm ?_
        refine ab (bH) ?_
        refine va ?_
        refine ag ?_
        refine cB (i+1) (by show r.items.length -(i+1)<r.items.length - i;omega) (⟨by omega,by rw[oA l6,gW,KN];rfl,au,hx,hn,hE⟩) (hL:=⟨rfl,rfl,trivial⟩)
   ·refine vm ?_
    iterate 4 refine aA ?_
    refine ab (ap) ?_
    refine vm ?_
    refine aj (ah fO) ?_
    refine aj (ak lg aI) ?_
    refine aj (bz) ?_
    refine aG (d:=64) (fun IB=>?_) (fun IB=>?_)
    ·have po:okV x.1=false:=decide_eq_false (fun q=>by have q2:=q.2;omega)
     have bF:¬RV r:=fun q=>f9 (List.mem_of_getElem? l6) po q.items
     refine ab (ap) ?_
     refine vm ?_
     iterate 3 refine aA ?_
     refine ab (ay) ?_
     refine vm ?_
     iterate 4 refine aA ?_
     refine ab (ay) ?_
     refine ag (ae ?_)
     refine aR ?_
     refine af (aa ?_)
     refine va ?_
     refine ag (ae (aE (aQ (az (az (aQ (az ?_)))))))
     refine aY ?_
     exact⟨by rw[decide_eq_false bF],hE⟩
    ·refine ab (ap) ?_
     refine vm ?_
     refine aj (ah fO) ?_
     refine aj (ak lg aI) ?_
     refine aj (bw) ?_
     refine aG (d:=69) (fun M7=>?_) (fun M7=>?_)
     ·have po:okV x.1=false:=decide_eq_false (fun q=>by have q2:=q.2;omega)
      have bF:¬RV r:=fun q=>f9 (List.mem_of_getElem? l6) po q.items
      refine ab (ap) ?_
      refine vm ?_
      iterate 4 refine aA ?_
      refine ab (ay) ?_
      refine ag (ae ?_)
      refine aR ?_
      refine af (aa ?_)
      refine va ?_
      refine ag (ae (aE (aQ (az (az (aQ (az ?_)))))))
      refine aY ?_
      exact⟨by rw[decide_eq_false bF],hE⟩
     ·refine ab (ap) ?_
      refine vm ?_
      refine aj (ah iB) ?_
      refine aj (ak dc aI) ?_
      refine aj (bj Tryz.underlying32) ?_
      refine aj (bw) ?_
      refine aG (d:=75) (fun M6=>?_) (fun M6=>?_)
      ·have po:okV x.1=false:=decide_eq_false (fun q=>by have q2:=q.2;omega)
       have bF:¬RV r:=fun q=>f9 (List.mem_of_getElem? l6) po q.items
       refine ab (ap) ?_
       refine ag (ae ?_)
       refine aR ?_
       refine af (aa ?_)
       refine va ?_
       refine ag (ae (aE (aQ (az (az (aQ (az ?_)))))))
       refine aY ?_
       exact⟨by rw[decide_eq_false bF],hE⟩
      ·have KN:okV x.1=true:=decide_eq_true ⟨by first|exact fun q=>q.2 Ec|exact fun q=>Ct q.1,by omega,by omega,by omega⟩
       refine ab (ap) ?_
       refine ag (ae ?_)
       refine aC ?_
       refine aS (bb (ae (aa ?_)))
       refine vm ?_
       refine ab (bH) ?_
       refine va ?_
       refine ag ?_
       refine cB (i+1) (by show r.items.length -(i+1)<r.items.length - i;omega) (⟨by omega,by rw[oA l6,gW,KN];rfl,au,hx,hn,hE⟩) (hL:=⟨rfl,rfl,trivial⟩)
  ·have pr:r.items.take i=r.items:=List.take_of_length_le (by omega)
   rw[pr] at gW
   refine cW (bx (bx (ce (ae (af (af (aa ?_)))))))
   refine ab (ah cK) ?_
   refine ab (ak fb au) ?_
   refine ve ?_
   refine aG (d:=79) (fun y5=>?_) (fun y5=>?_)
   ·refine vm ?_
    refine aj (ah cj) ?_
    refine aj (ak cO au) ?_
    refine aj (aw u6 (gu _ r.op)) ?_
    refine aj (cI) ?_
    refine aG (d:=84) (fun y4=>?_) (fun y4=>?_)
    ·refine ab (ay) ?_
     refine vm ?_
     refine aj (ah cJ) ?_
     refine aj (ak fA au) ?_
     refine aj (bj Tryz.underlying40) ?_
     refine aj (bS) ?_
     refine aG (d:=90) (fun Yh=>?_) (fun Yh=>?_)
     ·have bF:¬RV r:=fun q=>q.one ⟨by omega,by omega,by omega⟩
      refine ab (ay) ?_
      refine vm ?_
      iterate 4 refine aA ?_
      iterate 4 refine cN ?_
      iterate 2 refine aA ?_
      iterate 10 refine cN ?_
      refine aA ?_
      refine ab (ay) ?_
      refine ag (ae ?_)
      refine aR ?_
      refine af (aa ?_)
      refine va ?_
      refine ag (ae (aE (az ?_)))
      refine aY ?_
      exact⟨by rw[decide_eq_false bF],hE⟩
     ·refine ab (ay) ?_
      refine vm ?_
      refine aj (ah cK) ?_
      refine aj (ak fb au) ?_
      refine aj (cI) ?_
      refine aN (d:=95) rfl (bt (y5)) ?_
      refine aj (aF) ?_
      refine aj (ah cj) ?_
      refine aj (ak cO au) ?_
      refine aj (aw u6 (gu _ r.op)) ?_
      refine aj (cI) ?_
      refine aG (d:=100) (fun y8=>?_) (fun y8=>?_)
      ·refine aj (ay) ?_
       refine aj (aF) ?_
       refine aj (ah cJ) ?_
       refine aj (ak fA au) ?_
       refine aj (bj Tryz.underlying40) ?_
       refine aj (bz) ?_
       refine aG (d:=106) (fun y7=>?_) (fun y7=>?_)
       ·have bF:¬RV r:=fun q=>q.many ⟨by omega,by omega,by omega⟩
        refine aj (aF) ?_
        iterate 4 refine aA ?_
        iterate 2 refine aj (ay) ?_
        refine ab (ap) ?_
        refine ag (ae ?_)
        refine aR ?_
        refine af (aa ?_)
        refine va ?_
        refine ag (ae (aE (az ?_)))
        refine aY ?_
        exact⟨by rw[decide_eq_false bF],hE⟩
       ·refine aj (aF) ?_
        refine aj (ah cJ) ?_
        refine aj (ak fA au) ?_
        refine aj (bj Tryz.underlying40) ?_
        refine aj (bw) ?_
        refine aG (d:=111) (fun y6=>?_) (fun y6=>?_)
        ·have bF:¬RV r:=fun q=>q.many ⟨by omega,by omega,by omega⟩
         refine aj (ap) ?_
         refine aj (ay) ?_
         refine ab (ap) ?_
         refine ag (ae ?_)
         refine aR ?_
         refine af (aa ?_)
         refine va ?_
         refine ag (ae (aE (az ?_)))
         refine aY ?_
         exact⟨by rw[decide_eq_false bF],hE⟩
        ·refine aj (ap) ?_
         refine aj (ay) ?_
         refine ab (ap) ?_
         refine ag (ae ?_)
         refine aC ?_
         refine aS (ae (af (aa ?_)))
         refine ab (ah dE) ?_
         refine ab (ak gg au) ?_
         refine ab (fX) ?_
         refine aG (d:=117) (fun lT=>?_) (fun lT=>?_)
         ·refine vm ?_
          refine aj (ah dE) ?_
          refine aj (ak gg au) ?_
          refine aj (dl) ?_
          refine aG (d:=121) (fun lS=>?_) (fun lS=>?_)
          ·refine ab (ay) ?_
           refine vm ?_
           refine aj (ah dI) ?_
           refine aj (ak iG au) ?_
           refine aj (bj Tryz.underlying41) ?_
           refine aj (dl) ?_
           refine aG (d:=127) (fun lR=>?_) (fun lR=>?_)
           ·have eZ:RV r:=⟨by omega,by omega,by omega,by omega,by omega,heq,gW,by omega,by omega,by omega,by omega,by omega⟩
            refine ab (ay) ?_
            refine va ?_
            refine ag (ae (aE ?_))
            refine aY ?_
            exact⟨by rw[decide_eq_true eZ],hE⟩
           ·have bF:¬RV r:=fun q=>by have:=q.nums;omega
            refine ab (ay) ?_
            refine va ?_
            refine ag (ae (aE ?_))
            refine aY ?_
            exact⟨by rw[decide_eq_false bF],hE⟩
          ·have bF:¬RV r:=fun q=>by have:=q.c2;omega
           refine ab (ay) ?_
           refine vm ?_
           iterate 4 refine aA ?_
           refine ab (ap) ?_
           refine va ?_
           refine ag (ae (aE ?_))
           refine aY ?_
           exact⟨by rw[decide_eq_false bF],hE⟩
         ·have bF:¬RV r:=fun q=>by have:=q.c1;omega
          refine vm ?_
          iterate 3 refine aA ?_
          refine ab (ap) ?_
          refine vm ?_
          iterate 4 refine aA ?_
          refine ab (ap) ?_
          refine va ?_
          refine ag (ae (aE ?_))
          refine aY ?_
          exact⟨by rw[decide_eq_false bF],hE⟩
      ·refine aj (ay) ?_
       refine aj (aF) ?_
       iterate 5 refine aA ?_
       iterate 4 refine cN ?_
       refine aA ?_
       refine aj (ap) ?_
       refine ab (ap) ?_
       refine ag (ae ?_)
       refine aC ?_
       refine aS (ae (af (aa ?_)))
       refine ab (ah dE) ?_
       refine ab (ak gg au) ?_
       refine ab (fX) ?_
       refine aG (d:=117) (fun lT=>?_) (fun lT=>?_)
       ·refine vm ?_
        refine aj (ah dE) ?_
        refine aj (ak gg au) ?_
        refine aj (dl) ?_
        refine aG (d:=121) (fun lS=>?_) (fun lS=>?_)
        ·refine ab (ay) ?_
         refine vm ?_
         refine aj (ah dI) ?_
         refine aj (ak iG au) ?_
         refine aj (bj Tryz.underlying41) ?_
         refine aj (dl) ?_
         refine aG (d:=127) (fun lR=>?_) (fun lR=>?_)
         ·have eZ:RV r:=⟨by omega,by omega,by omega,by omega,by omega,heq,gW,by omega,by omega,by omega,by omega,by omega⟩
          refine ab (ay) ?_
          refine va ?_
          refine ag (ae (aE ?_))
          refine aY ?_
          exact⟨by rw[decide_eq_true eZ],hE⟩
         ·have bF:¬RV r:=fun q=>by have:=q.nums;omega
          refine ab (ay) ?_
          refine va ?_
          refine ag (ae (aE ?_))
          refine aY ?_
          exact⟨by rw[decide_eq_false bF],hE⟩
        ·have bF:¬RV r:=fun q=>by have:=q.c2;omega
         refine ab (ay) ?_
         refine vm ?_
         iterate 4 refine aA ?_
         refine ab (ap) ?_
         refine va ?_
         refine ag (ae (aE ?_))
         refine aY ?_
         exact⟨by rw[decide_eq_false bF],hE⟩
       ·have bF:¬RV r:=fun q=>by have:=q.c1;omega
        refine vm ?_
        iterate 3 refine aA ?_
        refine ab (ap) ?_
        refine vm ?_
        iterate 4 refine aA ?_
        refine ab (ap) ?_
        refine va ?_
        refine ag (ae (aE ?_))
        refine aY ?_
        exact⟨by rw[decide_eq_false bF],hE⟩
    ·refine ab (ay) ?_
     refine vm ?_
     iterate 4 refine aA ?_
     refine ab (ap) ?_
     refine vm ?_
     refine aj (ah cK) ?_
     refine aj (ak fb au) ?_
     refine aj (cI) ?_
     refine aN (d:=95) rfl (bt (y5)) ?_
     refine aj (aF) ?_
     refine aj (ah cj) ?_
     refine aj (ak cO au) ?_
     refine aj (aw u6 (gu _ r.op)) ?_
     refine aj (cI) ?_
     refine aG (d:=100) (fun y8=>?_) (fun y8=>?_)
     ·refine aj (ay) ?_
      refine aj (aF) ?_
      refine aj (ah cJ) ?_
      refine aj (ak fA au) ?_
      refine aj (bj Tryz.underlying40) ?_
      refine aj (bz) ?_
      refine aG (d:=106) (fun y7=>?_) (fun y7=>?_)
      ·have bF:¬RV r:=fun q=>q.many ⟨by omega,by omega,by omega⟩
       refine aj (aF) ?_
       iterate 4 refine aA ?_
       iterate 2 refine aj (ay) ?_
       refine ab (ap) ?_
       refine ag (ae ?_)
       refine aR ?_
       refine af (aa ?_)
       refine va ?_
       refine ag (ae (aE (az ?_)))
       refine aY ?_
       exact⟨by rw[decide_eq_false bF],hE⟩
      ·refine aj (aF) ?_
       refine aj (ah cJ) ?_
       refine aj (ak fA au) ?_
       refine aj (bj Tryz.underlying40) ?_
       refine aj (bw) ?_
       refine aG (d:=111) (fun y6=>?_) (fun y6=>?_)
       ·have bF:¬RV r:=fun q=>q.many ⟨by omega,by omega,by omega⟩
        refine aj (ap) ?_
        refine aj (ay) ?_
        refine ab (ap) ?_
        refine ag (ae ?_)
        refine aR ?_
        refine af (aa ?_)
        refine va ?_
        refine ag (ae (aE (az ?_)))
        refine aY ?_
        exact⟨by rw[decide_eq_false bF],hE⟩
       ·refine aj (ap) ?_
        refine aj (ay) ?_
        refine ab (ap) ?_
        refine ag (ae ?_)
        refine aC ?_
        refine aS (ae (af (aa ?_)))
        refine ab (ah dE) ?_
        refine ab (ak gg au) ?_
        refine ab (fX) ?_
        refine aG (d:=117) (fun lT=>?_) (fun lT=>?_)
        ·refine vm ?_
         refine aj (ah dE) ?_
         refine aj (ak gg au) ?_
         refine aj (dl) ?_
         refine aG (d:=121) (fun lS=>?_) (fun lS=>?_)
         ·refine ab (ay) ?_
          refine vm ?_
          refine aj (ah dI) ?_
          refine aj (ak iG au) ?_
          refine aj (bj Tryz.underlying41) ?_
          refine aj (dl) ?_
          refine aG (d:=127) (fun lR=>?_) (fun lR=>?_)
          ·have eZ:RV r:=⟨by omega,by omega,by omega,by omega,by omega,heq,gW,by omega,by omega,by omega,by omega,by omega⟩
           refine ab (ay) ?_
           refine va ?_
           refine ag (ae (aE ?_))
           refine aY ?_
           exact⟨by rw[decide_eq_true eZ],hE⟩
          ·have bF:¬RV r:=fun q=>by have:=q.nums;omega
           refine ab (ay) ?_
           refine va ?_
           refine ag (ae (aE ?_))
           refine aY ?_
           exact⟨by rw[decide_eq_false bF],hE⟩
         ·have bF:¬RV r:=fun q=>by have:=q.c2;omega
          refine ab (ay) ?_
          refine vm ?_
          iterate 4 refine aA ?_
          refine ab (ap) ?_
          refine va ?_
          refine ag (ae (aE ?_))
          refine aY ?_
          exact⟨by rw[decide_eq_false bF],hE⟩
        ·have bF:¬RV r:=fun q=>by have:=q.c1;omega
         refine vm ?_
         iterate 3 refine aA ?_
         refine ab (ap) ?_
         refine vm ?_
         iterate 4 refine aA ?_
         refine ab (ap) ?_
         refine va ?_
         refine ag (ae (aE ?_))
         refine aY ?_
         exact⟨by rw[decide_eq_false bF],hE⟩
     ·refine aj (ay) ?_
      refine aj (aF) ?_
      iterate 5 refine aA ?_
      iterate 4 refine cN ?_
      refine aA ?_
      refine aj (ap) ?_
      refine ab (ap) ?_
      refine ag (ae ?_)
      refine aC ?_
      refine aS (ae (af (aa ?_)))
      refine ab (ah dE) ?_
      refine ab (ak gg au) ?_
      refine ab (fX) ?_
      refine aG (d:=117) (fun lT=>?_) (fun lT=>?_)
      ·refine vm ?_
       refine aj (ah dE) ?_
       refine aj (ak gg au) ?_
       refine aj (dl) ?_
       refine aG (d:=121) (fun lS=>?_) (fun lS=>?_)
       ·refine ab (ay) ?_
        refine vm ?_
        refine aj (ah dI) ?_
        refine aj (ak iG au) ?_
        refine aj (bj Tryz.underlying41) ?_
        refine aj (dl) ?_
        refine aG (d:=127) (fun lR=>?_) (fun lR=>?_)
        ·have eZ:RV r:=⟨by omega,by omega,by omega,by omega,by omega,heq,gW,by omega,by omega,by omega,by omega,by omega⟩
         refine ab (ay) ?_
         refine va ?_
         refine ag (ae (aE ?_))
         refine aY ?_
         exact⟨by rw[decide_eq_true eZ],hE⟩
        ·have bF:¬RV r:=fun q=>by have:=q.nums;omega
         refine ab (ay) ?_
         refine va ?_
         refine ag (ae (aE ?_))
         refine aY ?_
         exact⟨by rw[decide_eq_false bF],hE⟩
       ·have bF:¬RV r:=fun q=>by have:=q.c2;omega
        refine ab (ay) ?_
        refine vm ?_
        iterate 4 refine aA ?_
        refine ab (ap) ?_
        refine va ?_
        refine ag (ae (aE ?_))
        refine aY ?_
        exact⟨by rw[decide_eq_false bF],hE⟩
      ·have bF:¬RV r:=fun q=>by have:=q.c1;omega
       refine vm ?_
       iterate 3 refine aA ?_
       refine ab (ap) ?_
       refine vm ?_
       iterate 4 refine aA ?_
       refine ab (ap) ?_
       refine va ?_
       refine ag (ae (aE ?_))
       refine aY ?_
       exact⟨by rw[decide_eq_false bF],hE⟩
   ·refine vm ?_
    iterate 4 refine aA ?_
    refine ab (ap) ?_
    refine vm ?_
    iterate 4 refine aA ?_
    refine ab (ap) ?_
    refine vm ?_
    refine aj (ah cK) ?_
    refine aj (ak fb au) ?_
    refine aj (cI) ?_
    refine aN (d:=95) rfl (bf (y5)) ?_
    refine aj (aF) ?_
    iterate 4 refine aA ?_
    refine aj (ap) ?_
    refine aj (aF) ?_
    iterate 5 refine aA ?_
    iterate 4 refine cN ?_
    refine aA ?_
    refine aj (ap) ?_
    refine ab (ap) ?_
    refine ag (ae ?_)
    refine aC ?_
    refine aS (ae (af (aa ?_)))
    refine ab (ah dE) ?_
    refine ab (ak gg au) ?_
    refine ab (fX) ?_
    refine aG (d:=117) (fun lT=>?_) (fun lT=>?_)
    ·refine vm ?_
     refine aj (ah dE) ?_
     refine aj (ak gg au) ?_
     refine aj (dl) ?_
     refine aG (d:=121) (fun lS=>?_) (fun lS=>?_)
     ·refine ab (ay) ?_
      refine vm ?_
      refine aj (ah dI) ?_
      refine aj (ak iG au) ?_
      refine aj (bj Tryz.underlying41) ?_
      refine aj (dl) ?_
      refine aG (d:=127) (fun lR=>?_) (fun lR=>?_)
      ·have eZ:RV r:=⟨by omega,by omega,by omega,by omega,by omega,heq,gW,by omega,by omega,by omega,by omega,by omega⟩
       refine ab (ay) ?_
       refine va ?_
       refine ag (ae (aE ?_))
       refine aY ?_
       exact⟨by rw[decide_eq_true eZ],hE⟩
      ·have bF:¬RV r:=fun q=>by have:=q.nums;omega
       refine ab (ay) ?_
       refine va ?_
       refine ag (ae (aE ?_))
       refine aY ?_
       exact⟨by rw[decide_eq_false bF],hE⟩
     ·have bF:¬RV r:=fun q=>by have:=q.c2;omega
      refine ab (ay) ?_
      refine vm ?_
      iterate 4 refine aA ?_
      refine ab (ap) ?_
      refine va ?_
      refine ag (ae (aE ?_))
      refine aY ?_
      exact⟨by rw[decide_eq_false bF],hE⟩
    ·have bF:¬RV r:=fun q=>by have:=q.c1;omega
     refine vm ?_
     iterate 3 refine aA ?_
     refine ab (ap) ?_
     refine vm ?_
     iterate 4 refine aA ?_
     refine ab (ap) ?_
     refine va ?_
     refine ag (ae (aE ?_))
     refine aY ?_
     exact⟨by rw[decide_eq_false bF],hE⟩
theorem G6 (w:World) (r:Rsp) (xs:List IT) (hv:vals xs=r.items) (lo hi:Nat) (X:Option Addr) (cx:Nat) (N:Option Addr) (cn:Nat) (hx:RdI w lo hi X cx xs) (hn:RdN w lo hi N cn r.nums):
  Fn Tryz.prog 84 #[.agg (b9 r X cx N cn).toArray] w (fun v w'=>v=.bool (decide (RV r))∧Ext w w'):=by
 by_cases h1:r.op<0
 ·exact Ou w r xs hv lo hi X cx N cn hx hn h1
 by_cases h2:15<r.op
 ·exact Ot w r xs hv lo hi X cx N cn hx hn h2
 by_cases h3:r.err<0
 ·exact Oq w r xs hv lo hi X cx N cn hx hn (by omega) (by omega) h3
 by_cases h4:100000<r.err
 ·exact Op w r xs hv lo hi X cx N cn hx hn (by omega) (by omega) h4
 by_cases h5:r.op=0
 ·by_cases h6:r.err=0
  ·exact Oo w r xs hv lo hi X cx N cn hx hn h5 h6
  ·by_cases h7:r=onlyR r
   ·exact Ol w r xs hv lo hi X cx N cn hx hn (by omega) (by omega) (by omega) (by omega) h5 h6 h7
   ·exact On w r xs hv lo hi X cx N cn hx hn (by omega) (by omega) (by omega) (by omega) h5 h6 h7
 ·by_cases h7:r=onlyR r
  ·exact Ok w r xs hv lo hi X cx N cn hx hn (by omega) (by omega) (by omega) (by omega) h5 h7
  ·exact Om w r xs hv lo hi X cx N cn hx hn (by omega) (by omega) (by omega) (by omega) h5 h7
end Go.Proofs.YtiighkbehiddkaaGreat
