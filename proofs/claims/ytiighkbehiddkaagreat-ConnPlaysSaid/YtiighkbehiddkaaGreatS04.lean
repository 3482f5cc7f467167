/-
 Responses, plainly; the writing of parts.
 The writing of numbers and items.
 What is read of a response.
 Items and numbers of a response, read.
 The parts of a response: their list, their contracts by letters.
-/
import Derived.Test.YtiighkbehiddkaaGreatS03
namespace Go.Proofs.YtiighkbehiddkaaGreat
open Go.RowKit
set_option linter.unusedVariables false
set_option maxRecDepth 4000
theorem AM:aX Tryz.prog 131=true:=by kernel_rfl
theorem cJ:bB Tryz.prog 43 2=some 2:=by kernel_rfl
theorem lW:bB Tryz.prog 43 3=some 3:=by kernel_rfl
theorem dE:bB Tryz.prog 43 4=some 4:=by kernel_rfl
theorem fA:cu Tryz.prog 40=true:=by kernel_rfl
/-- An item; a response. -/
structure Itm where
 mark:Int
 value:List UInt8
 ver:Nat
 dead:Nat
structure Rsp where
 op:Int
 err:Int
 items:List Itm
 ver:Nat
 count:Int
 nums:List Nat
theorem Itm.ext_iff' {a b:Itm}:a=b↔a.mark=b.mark∧a.value=b.value∧a.ver=b.ver∧a.dead=b.dead:=by
 constructor
 ·rintro rfl;simp
 ·cases a;cases b;simp only[Itm.mk.injEq];exact id
theorem Rsp.ext_iff' {a b:Rsp}:a=b↔a.op=b.op∧a.err=b.err∧a.items=b.items∧a.ver=b.ver∧a.count=b.count∧a.nums=b.nums:=by
 constructor
 ·rintro rfl;simp
 ·cases a;cases b;simp only[Rsp.mk.injEq];exact id
instance (a b:Itm):Decidable (a=b):=decidable_of_iff _ Itm.ext_iff'.symm
instance (a b:Rsp):Decidable (a=b):=decidable_of_iff _ Rsp.ext_iff'.symm
/-- An item with the place of its value; its cells. -/
abbrev IT:=Itm×Option Addr×Nat
def itc (x:IT):List Value:=[.int .i64 x.1.mark,.slice x.2.1 x.1.value.length x.2.2,.int .u64 (x.1.ver:Int),.int .u64 (x.1.dead:Int)]
def nuc (n:Nat):List Value:=[.int .u64 (n:Int)]
def vals (xs:List IT):List Itm:=xs.map (·.1)
/-- A response's cells; the items with their places. -/
def b9 (r:Rsp) (X:Option Addr) (cx:Nat) (N:Option Addr) (cn:Nat):List Value:=[.int .i64 r.op,.int .i64 r.err,.slice X r.items.length cx,.int .u64 (r.ver:Int),.int .i64 r.count,.slice N r.nums.length cn]
abbrev RdN (w:World) (lo hi:Nat) (A:Option Addr) (c:Nat) (ns:List Nat):Prop:=RdR w lo hi 1 nuc A c ns
/-- The items read, and their values. -/
def RdI (w:World) (lo hi:Nat) (X:Option Addr) (cx:Nat) (xs:List IT):Prop:=RdR w lo hi 4 itc X cx xs∧∀x∈xs,RdB w lo hi x.2.1 x.2.2 x.1.value
theorem RdI.gr {w w':World} {lo hi cx:Nat} {X:Option Addr} {xs:List IT} (h:RdI w lo hi X cx xs) {row:Option Nat} (hg:Gr w w' row) (hr:∀g,row=some g→g<lo∨hi≤g:=by intro _ e;cases e;omega):RdI w' lo hi X cx xs:=
 ⟨h.1.gr hg hr,fun x hx=>(h.2 x hx).gr hg hr⟩
theorem RdI.ext {w w':World} {lo hi cx:Nat} {X:Option Addr} {xs:List IT} (h:RdI w lo hi X cx xs) (he:Ext w w'):RdI w' lo hi X cx xs:=h.gr he fun g e=>by cases e
theorem RdI.mono {w:World} {lo hi lo' qb cx:Nat} {X:Option Addr} {xs:List IT} (h:RdI w lo hi X cx xs) (h1:lo'≤lo) (h2:hi≤qb):RdI w lo' qb X cx xs:=⟨h.1.mono h1 h2,fun x hx=>(h.2 x hx).mono h1 h2⟩
theorem RdI.top {w:World} {lo hi cx:Nat} {X:Option Addr} {xs:List IT} (h:RdI w lo hi X cx xs):RdI w lo w.heap.size X cx xs:=⟨Rd.top h.1,fun x hx=>Rd.top (h.2 x hx)⟩
theorem RdI.kp {w w':World} {gs:List Nat} {lo hi cx:Nat} {X:Option Addr} {xs:List IT} (h:RdI w lo hi X cx xs) (k:Kp gs w w') (hg:∀g∈gs,g<lo∨hi≤g):RdI w' lo hi X cx xs:=⟨k.rd h.1 hg,fun x hx=>k.rd (h.2 x hx) hg⟩
theorem RdI.nil (w:World) (lo hi:Nat):RdI w lo hi none 0 []:=⟨Rd.nil _ _ _ _ _ _ (Nat.zero_le _),by simp⟩
/-- The parts of a response without an error: v version, c count, o one item, i items, m many, n numbers. -/
def pl (op:Int):List UInt8:=if op=1∨op=2∨op=3 then[118,99] else if op=4 then[111,105] else if op=5 then[109,105] else if op=15 then[110] else[99]
def kt (op:Int):Bool:=decide (1≤op∧op≤15)
def ma (x:Itm):Bool:=decide (0≤x.mark∧x.mark≤2∧x.value.length≤65536)
def wI (x:Itm):List UInt8:=br x.mark.toNat++if x.mark=0 then[] else br x.ver++(br x.dead++pb x.value)
def okP (r:Rsp) (p:UInt8):Bool:=
 if p=118 then true else if p=99 then decide (0≤r.count∧r.count≤1099511627776) else if p=111 then decide (r.items.length=1) else if p=105 then r.items.all ma
 else if p=109 then decide (1≤r.items.length∧r.items.length≤16) else decide (r.nums.length≤64)
def putC (r:Rsp) (p:UInt8):List UInt8:=
 if p=118 then br r.ver else if p=99 then br r.count.toNat else if p=111 then[] else if p=105 then r.items.flatMap wI
 else if p=109 then br r.items.length else br r.nums.length++r.nums.flatMap br
def o3 (x:Itm):Nat:=x.value.length+40
def rsz (r:Rsp):Nat:=(r.items.map o3).sum+10*r.nums.length+100
theorem J7 (x:Itm) (h:ma x=true):(wI x).length≤o3 x:=by
 have h1:=cw x.mark.toNat
 have h2:=cw x.ver
 have h3:=cw x.dead
 have h4:=cw x.value.length
 unfold wI o3 pb
 rw[List.length_append]
 split<;>simp only[List.length_nil,List.length_append]<;>omega
theorem m0 {xs:List Itm} {k:Nat} {x:Itm} (h:xs[k]?=some x):(xs.take (k+1)).flatMap wI=(xs.take k).flatMap wI++wI x:=by
 rw[List.take_add_one,h,List.flatMap_append];simp
theorem wo {xs:List Itm} {k:Nat} {x:Itm} (h:xs[k]?=some x):(xs.take (k+1)).all ma=((xs.take k).all ma&&ma x):=by
 rw[List.take_add_one,h,List.all_append];simp
theorem pj:∀(xs:List Itm),xs.all ma=true→(xs.flatMap wI).length≤(xs.map o3).sum
 |[],_=>by simp
 |x::r,h=>by
  rw[List.all_cons,Bool.and_eq_true] at h
  have h1:=J7 x h.1
  have h2:=pj r h.2
  rw[List.flatMap_cons,List.length_append,List.map_cons,List.sum_cons];omega
theorem qE (xs:List Itm):∀k,((xs.take k).map o3).sum≤(xs.map o3).sum:=by
 intro k
 have e:(xs.map o3).sum=((xs.take k).map o3).sum+((xs.drop k).map o3).sum:=by rw[←List.sum_append_nat,←List.map_append,List.take_append_drop]
 omega
theorem rT {xs:List Nat} {k:Nat} {x:Nat} (h:xs[k]?=some x):(xs.take (k+1)).flatMap br=(xs.take k).flatMap br++br x:=by
 rw[List.take_add_one,h,List.flatMap_append];simp
theorem oS (xs:List Nat):(xs.flatMap br).length≤10*xs.length:=by
 induction xs with
 |nil=>simp
 |cons a r ih=>have:=cw a;rw[List.flatMap_cons,List.length_append,List.length_cons];omega
theorem ov (w:World) (gb:Nat) (A:Option Addr) (c:Nat) (out:List UInt8) {b0:Nat} (cg:Blk w gb 32 [.slice A (out).length c]) (ho:OwnB w (b0) 5 A c out) (n m:Nat) (kf:b0≤w.heap.size:=by omega) (un:out.length≤35184372088832:=by omega) (hn:n<18446744073709551616:=by omega) (hm:m<18446744073709551616:=by omega):
  Fn Tryz.prog 131 #[(.pointer (some ⟨gb,0,none⟩)),(.int .u64 (↑n:Int)),(.int .u64 (↑m:Int))] w (fun v w'=>v=.bool (decide (n≤m))∧(∃A' c',Blk w' gb 32 [.slice A' (out++br n).length c']∧OwnB w' (b0) 5 A' c' (out++br n))∧Gr w w' (some gb)):=by
 have hG:=(aP w).row (some gb)
 have hgbl:=cg.lt
 refine aO Tryz.func131 ?_
 refine af (aa ?_)
 refine va ?_
 refine ag (ae (af (aa ?_)))
 iterate 2 refine vm ?_
 refine vn ?_
 refine ab (ak dc cg) ?_
 refine vm ?_
 refine ar (aw sO (iY _ _ _ _ _ out (n) (OwnB.rd ho))) ?_
 rintro v w1 ⟨A12,c12,rfl,rp,eK⟩
 replace cg:=cg.ext eK
 replace hG:=hG.gr eK (fun _ e=>by cases e)
 have HY:=fun g e=>Own.lt rp (g:=g) e
 refine vn ?_
 refine aB (aU gV cg) ?_
 rintro _ w2 ⟨gY,dt⟩
 replace hG:=hG.gr dt (fun _ e=>by first|exact .inl e|(cases e;right;omega))
 replace rp:=Own.gr rp dt (by first|exact .inl rfl|(right;intro e;first|(have:=HY _ e;omega)|(have:=Own.lt rp e;omega)|exact aT rp cg (by decide) e))
 replace cg:=gY
 refine ag (ae (af (aa ?_)))
 iterate 2 refine vm ?_
 refine ab (dl) ?_
 refine va ?_
 refine ag (ae (aE ?_))
 refine aY ?_
 exact⟨by congr 1;rw[decide_eq_decide];omega,⟨A12,c12,cg,Own.mono rp (by omega)⟩,hG⟩
theorem TI (w:World) (gb gx:Nat) (A:Option Addr) (c:Nat) (out:List UInt8) {b0:Nat} (kf:b0≤w.heap.size) (cg:Blk w gb 32 [.slice A (out).length c]) (ho:OwnB w (b0) 5 A c out) (un:out.length≤35184372088832) (r:Rsp) (xs:List IT) (mq:vals xs=r.items) (X:Option Addr) (cx:Nat) (N:Option Addr) (cn:Nat) (aH:Blk w gx 43 (b9 r X cx N cn)) (eB:gx≠gb) (lo hi:Nat) (hx:RdI w lo hi X cx xs) (hn:RdN w lo hi N cn r.nums) (wM:gb<lo∨hi≤gb) (fP:hi≤w.heap.size) (vq:r.ver<18446744073709551616) (JM:∀x∈r.items,x.ver<18446744073709551616∧x.dead<18446744073709551616) (NP:∀n∈r.nums,n<18446744073709551616) (gf:out.length+rsz r≤17592186044416):
  Fn Tryz.prog 130 #[(.pointer (some ⟨gb,0,none⟩)),(.pointer (some ⟨gx,0,none⟩))] w (fun v w'=>v=.bool (okP r 118)∧(∃A' c' o',Blk w' gb 32 [.slice A' (List.length o') c']∧OwnB w' (b0) 5 A' c' o'∧(okP r 118=true→o'=out++putC r 118))∧Gr w w' (some gb)):=by
 have hG:=(aP w).row (some gb)
 have mE:=hx.1.2.1
 have rH:=hn.2.1
 simp only[maxLen] at mE rH
 refine aO Tryz.func130 ?_
 refine af (aa ?_)
 refine va ?_
 refine ag (ae (af (aa ?_)))
 iterate 2 refine vm ?_
 refine vn ?_
 refine ab (ah lW) ?_
 refine ab (ak ft aH) ?_
 refine ar (aw AM (ov _ gb A c out cg ho (r.ver) 18446744073709551615)) ?_
 rintro v w1 ⟨rfl,⟨A10,c10,FI,eY⟩,pw⟩
 replace hG:=hG.gr pw (fun _ e=>by first|exact .inl e|(cases e;right;omega))
 replace cg:=FI
 refine va ?_
 refine ag (ae (aE ?_))
 refine aY ?_
 exact⟨by show Value.bool (decide _)=.bool true;rw[decide_eq_true (by omega)],⟨A10,c10,_,cg,eY,fun _=>rfl⟩,hG⟩
theorem TN (w:World) (gb gx:Nat) (A:Option Addr) (c:Nat) (out:List UInt8) {b0:Nat} (kf:b0≤w.heap.size) (cg:Blk w gb 32 [.slice A (out).length c]) (ho:OwnB w (b0) 5 A c out) (un:out.length≤35184372088832) (r:Rsp) (xs:List IT) (mq:vals xs=r.items) (X:Option Addr) (cx:Nat) (N:Option Addr) (cn:Nat) (aH:Blk w gx 43 (b9 r X cx N cn)) (eB:gx≠gb) (lo hi:Nat) (hx:RdI w lo hi X cx xs) (hn:RdN w lo hi N cn r.nums) (wM:gb<lo∨hi≤gb) (fP:hi≤w.heap.size) (vq:r.ver<18446744073709551616) (JM:∀x∈r.items,x.ver<18446744073709551616∧x.dead<18446744073709551616) (NP:∀n∈r.nums,n<18446744073709551616) (gf:out.length+rsz r≤17592186044416) (hcnt:r.count≤9223372036854775807):
  Fn Tryz.prog 133 #[(.pointer (some ⟨gb,0,none⟩)),(.pointer (some ⟨gx,0,none⟩))] w (fun v w'=>v=.bool (okP r 99)∧(∃A' c' o',Blk w' gb 32 [.slice A' (List.length o') c']∧OwnB w' (b0) 5 A' c' o'∧(okP r 99=true→o'=out++putC r 99))∧Gr w w' (some gb)):=by
 have hG:=(aP w).row (some gb)
 have mE:=hx.1.2.1
 have rH:=hn.2.1
 simp only[maxLen] at mE rH
 refine aO Tryz.func133 ?_
 refine af (aa ?_)
 refine va ?_
 refine ag (ae (af (aa ?_)))
 refine vm ?_
 refine vn ?_
 refine ab (ah dE) ?_
 refine ab (ak gg aH) ?_
 refine ab (fX) ?_
 refine aG (d:=9) (fun h9=>?_) (fun h9=>?_)
 ·refine vm ?_
  iterate 2 refine aj (aF) ?_
  refine aj (bD) ?_
  refine aj (ah dE) ?_
  refine aj (ak gg aH) ?_
  refine aj (bv Tryz.underlying3 Tryz.underlying36) ?_
  refine aN (d:=16) rfl (v':=(.int .u64 (↑r.count.toNat:Int))) (by rw[Int.toNat_of_nonneg (by omega)]) ?_
  refine bP (aw AM (ov _ gb A c out cg ho (r.count.toNat) 1099511627776)) ?_
  rintro v w1 ⟨rfl,⟨A17,c17,MU,LJ⟩,LX⟩
  replace hG:=hG.gr LX (fun _ e=>by first|exact .inl e|(cases e;right;omega))
  replace cg:=MU
  refine ab (ay) ?_
  refine va ?_
  refine ag (ae (aE ?_))
  refine aY ?_
  refine⟨?_,⟨A17,c17,_,cg,LJ,fun _=>rfl⟩,hG⟩
  show Value.bool (decide _)=.bool (decide _)
  congr 1;rw[decide_eq_decide];omega
 ·refine vm ?_
  iterate 7 refine aA ?_
  refine ab (ap) ?_
  refine va ?_
  refine ag (ae (aE ?_))
  refine aY ?_
  refine⟨?_,⟨A,c,out,cg,ho,fun h=>?_⟩,hG⟩
  ·show Value.bool false=.bool (decide _)
   rw[decide_eq_false (by omega)]
  ·have h2:=of_decide_eq_true h
   omega
theorem TJ (w:World) (gb gx:Nat) (A:Option Addr) (c:Nat) (out:List UInt8) {b0:Nat} (kf:b0≤w.heap.size) (cg:Blk w gb 32 [.slice A (out).length c]) (ho:OwnB w (b0) 5 A c out) (un:out.length≤35184372088832) (r:Rsp) (xs:List IT) (mq:vals xs=r.items) (X:Option Addr) (cx:Nat) (N:Option Addr) (cn:Nat) (aH:Blk w gx 43 (b9 r X cx N cn)) (eB:gx≠gb) (lo hi:Nat) (hx:RdI w lo hi X cx xs) (hn:RdN w lo hi N cn r.nums) (wM:gb<lo∨hi≤gb) (fP:hi≤w.heap.size) (vq:r.ver<18446744073709551616) (JM:∀x∈r.items,x.ver<18446744073709551616∧x.dead<18446744073709551616) (NP:∀n∈r.nums,n<18446744073709551616) (gf:out.length+rsz r≤17592186044416):
  Fn Tryz.prog 135 #[(.pointer (some ⟨gb,0,none⟩)),(.pointer (some ⟨gx,0,none⟩))] w (fun v w'=>v=.bool (okP r 111)∧(∃A' c' o',Blk w' gb 32 [.slice A' (List.length o') c']∧OwnB w' (b0) 5 A' c' o'∧(okP r 111=true→o'=out++putC r 111))∧Gr w w' (some gb)):=by
 have hG:=(aP w).row (some gb)
 have mE:=hx.1.2.1
 have rH:=hn.2.1
 simp only[maxLen] at mE rH
 refine aO Tryz.func135 ?_
 refine af (aa ?_)
 refine va ?_
 refine ag (ae (af (aa ?_)))
 refine vm ?_
 refine vn ?_
 refine ab (ah cJ) ?_
 refine ab (ak fA aH) ?_
 refine ab (bj Tryz.underlying40) ?_
 refine ve ?_
 refine va ?_
 refine ag (ae (aE ?_))
 refine aY ?_
 refine⟨?_,⟨A,c,out,cg,ho,fun _=>(List.append_nil _).symm⟩,hG⟩
 show Value.bool (decide _)=.bool (decide _)
 congr 1;rw[decide_eq_decide];omega
theorem TL (w:World) (gb gx:Nat) (A:Option Addr) (c:Nat) (out:List UInt8) {b0:Nat} (kf:b0≤w.heap.size) (cg:Blk w gb 32 [.slice A (out).length c]) (ho:OwnB w (b0) 5 A c out) (un:out.length≤35184372088832) (r:Rsp) (xs:List IT) (mq:vals xs=r.items) (X:Option Addr) (cx:Nat) (N:Option Addr) (cn:Nat) (aH:Blk w gx 43 (b9 r X cx N cn)) (eB:gx≠gb) (lo hi:Nat) (hx:RdI w lo hi X cx xs) (hn:RdN w lo hi N cn r.nums) (wM:gb<lo∨hi≤gb) (fP:hi≤w.heap.size) (vq:r.ver<18446744073709551616) (JM:∀x∈r.items,x.ver<18446744073709551616∧x.dead<18446744073709551616) (NP:∀n∈r.nums,n<18446744073709551616) (gf:out.length+rsz r≤17592186044416):
  Fn Tryz.prog 139 #[(.pointer (some ⟨gb,0,none⟩)),(.pointer (some ⟨gx,0,none⟩))] w (fun v w'=>v=.bool (okP r 109)∧(∃A' c' o',Blk w' gb 32 [.slice A' (List.length o') c']∧OwnB w' (b0) 5 A' c' o'∧(okP r 109=true→o'=out++putC r 109))∧Gr w w' (some gb)):=by
 have hG:=(aP w).row (some gb)
 have Ac:xs.length=r.items.length:=by rw[←mq];exact(List.length_map ..).symm
 have fR:=hx.1.1
 have mE:=hx.1.2.1
 have rH:=hn.2.1
 simp only[maxLen] at mE rH
 refine aO Tryz.func139 ?_
 refine af (aa ?_)
 refine va ?_
 refine ag (ae (af (aa ?_)))
 refine vm ?_
 refine vn ?_
 refine ab (ah cJ) ?_
 refine ab (ak fA aH) ?_
 refine ab (bj Tryz.underlying40) ?_
 refine ab (bw) ?_
 refine aG (d:=10) (fun RF=>?_) (fun RF=>?_)
 ·refine vm ?_
  iterate 2 refine aj (aF) ?_
  refine aj (bD) ?_
  refine aj (ah cJ) ?_
  refine aj (ak fA aH) ?_
  refine aj (bj Tryz.underlying40) ?_
  refine aj (bv Tryz.underlying3 Tryz.underlying36) ?_
  refine bP (aw AM (ov _ gb A c out cg ho (r.items.length) 16)) ?_
  rintro v w1 ⟨rfl,⟨A19,c19,XY,qa⟩,B6⟩
  replace hG:=hG.gr B6 (fun _ e=>by first|exact .inl e|(cases e;right;omega))
  replace cg:=XY
  refine ab (ay) ?_
  refine va ?_
  refine ag (ae (aE ?_))
  refine aY ?_
  refine⟨?_,⟨A19,c19,_,cg,qa,fun _=>rfl⟩,hG⟩
  show Value.bool (decide _)=.bool (decide _)
  congr 1;rw[decide_eq_decide];omega
 ·refine vm ?_
  iterate 8 refine aA ?_
  refine ab (ap) ?_
  refine va ?_
  refine ag (ae (aE ?_))
  refine aY ?_
  refine⟨?_,⟨A,c,out,cg,ho,fun h=>?_⟩,hG⟩
  ·show Value.bool false=.bool (decide _)
   rw[decide_eq_false (by omega)]
  ·have h2:=of_decide_eq_true h
   omega
end Go.Proofs.YtiighkbehiddkaaGreat
namespace Go.Proofs.YtiighkbehiddkaaGreat
open Go.RowKit
set_option linter.unusedVariables false
set_option maxRecDepth 4000
theorem jI:jt Tryz.prog 80 4=true:=by kernel_rfl
theorem R8:aX Tryz.prog 126=true:=by kernel_rfl
theorem dI:bB Tryz.prog 43 5=some 5:=by kernel_rfl
theorem fO:bB Tryz.prog 80 0=some 0:=by kernel_rfl
theorem iB:bB Tryz.prog 80 1=some 1:=by kernel_rfl
theorem pI:bB Tryz.prog 80 2=some 2:=by kernel_rfl
theorem pH:bB Tryz.prog 80 3=some 3:=by kernel_rfl
theorem pg:cu Tryz.prog 37=true:=by kernel_rfl
theorem iG:cu Tryz.prog 41=true:=by kernel_rfl
theorem lg:cu Tryz.prog 78=true:=by kernel_rfl
theorem nm:SliceTy Tryz.prog 40 80 4 48 (.agg #[(.int .i64 0),(.slice none 0 0),(.int .u64 0),(.int .u64 0)]):=iI Tryz.underlying40 rfl
theorem sn:SliceTy Tryz.prog 41 36 1 8 (.int .u64 0):=iI Tryz.underlying41 rfl
theorem x7:(Tryz.prog.info? 80).map (·.size)=some 4:=by kernel_rfl
theorem tD:fV Tryz.prog 80=some (.agg #[(.int .i64 0),(.slice none 0 0),(.int .u64 0),(.int .u64 0)]):=by kernel_rfl
theorem vO {xs:List Itm} {k:Nat} {x:Itm} (h:xs[k]?=some x):((xs.take (k+1)).map o3).sum=((xs.take k).map o3).sum+o3 x:=by
 rw[List.take_add_one,h,List.map_append,List.sum_append_nat];simp
theorem m2 {xs:List IT} {is:List Itm} {k:Nat} {x:IT} (hv:vals xs=is) (h:xs[k]?=some x):is[k]?=some x.1:=by
 rw[←hv];unfold vals;rw[List.getElem?_map,h];rfl
theorem oo {x:Itm} (h:x.mark=0):wI x=br x.mark.toNat:=by unfold wI;rw[if_pos h,List.append_nil]
theorem tE {x:Itm} (h:¬x.mark=0) (o:List UInt8):o++wI x=o++br x.mark.toNat++br x.ver++br x.dead++br x.value.length++x.value:=by
 unfold wI pb;rw[if_neg h];simp only[List.append_assoc]
theorem TK (w:World) (gb gx:Nat) (A:Option Addr) (c:Nat) (out:List UInt8) {b0:Nat} (kf:b0≤w.heap.size) (cg:Blk w gb 32 [.slice A (out).length c]) (ho:OwnB w (b0) 5 A c out) (un:out.length≤35184372088832) (r:Rsp) (xs:List IT) (mq:vals xs=r.items) (X:Option Addr) (cx:Nat) (N:Option Addr) (cn:Nat) (aH:Blk w gx 43 (b9 r X cx N cn)) (eB:gx≠gb) (lo hi:Nat) (hx:RdI w lo hi X cx xs) (hn:RdN w lo hi N cn r.nums) (wM:gb<lo∨hi≤gb) (fP:hi≤w.heap.size) (vq:r.ver<18446744073709551616) (JM:∀x∈r.items,x.ver<18446744073709551616∧x.dead<18446744073709551616) (NP:∀n∈r.nums,n<18446744073709551616) (gf:out.length+rsz r≤17592186044416):
  Fn Tryz.prog 141 #[(.pointer (some ⟨gb,0,none⟩)),(.pointer (some ⟨gx,0,none⟩))] w (fun v w'=>v=.bool (okP r 110)∧(∃A' c' o',Blk w' gb 32 [.slice A' (List.length o') c']∧OwnB w' (b0) 5 A' c' o'∧(okP r 110=true→o'=out++putC r 110))∧Gr w w' (some gb)):=by
 have hG:=(aP w).row (some gb)
 have lj:=aH.lt
 have mE:=hx.1.2.1
 have tl:=hn.1
 have rH:=hn.2.1
 simp only[maxLen] at mE rH
 refine aO Tryz.func141 ?_
 refine af (aa ?_)
 refine va ?_
 refine ag (ae (af (af (aa ?_))))
 iterate 2 refine vm ?_
 refine vn ?_
 refine ab (ah dI) ?_
 refine ab (ak iG aH) ?_
 refine ab (bj Tryz.underlying41) ?_
 refine ab (bv Tryz.underlying3 Tryz.underlying36) ?_
 refine ar (aw AM (ov _ gb A c out cg ho (r.nums.length) 64)) ?_
 rintro v w1 ⟨rfl,⟨A14,c14,X0,nq⟩,LY⟩
 replace hG:=hG.gr LY (fun _ e=>by first|exact .inl e|(cases e;right;omega))
 replace aH:=aH.gr LY
 replace hn:=hn.gr LY
 replace cg:=X0
 have hl14:(out++br (r.nums.length)).length=(out).length+(br (r.nums.length)).length:=List.length_append
 have hle14:=cw (r.nums.length)
 refine ab (b6) ?_
 refine ag (ae ?_)
 refine dJ (fun dM=>?_) (fun dM=>?_)
 ·have hb:¬r.nums.length≤64:=by simpa using dM
  refine af (aa ?_)
  refine va ?_
  refine ag (ae (aE (az ?_)))
  refine aY ?_
  refine⟨?_,⟨A14,c14,_,cg,nq,fun h=>absurd (of_decide_eq_true h) hb⟩,hG⟩
  show Value.bool false=.bool (decide _)
  rw[decide_eq_false hb]
 ·have hb:r.nums.length≤64:=by simpa using dM
  refine aS (ae (af (af (aa ?_))))
  refine vm ?_
  refine vn ?_
  refine ab (ah dI) ?_
  refine ab (ak iG aH) ?_
  refine ab (bj Tryz.underlying41) ?_
  refine vm ?_
  refine ag (ae (a9 ?_))
  refine cU (fun s=>r.nums.length - s.1) (fun s=>[(0,.pointer (some ⟨gb,0,none⟩)),(19,.slice N r.nums.length cn),(20,.int .i64 (r.nums.length:Int)),(21,.int .i64 (s.1:Int))]) (fun s w'=>s.1≤r.nums.length∧Blk w' gb 32 [.slice s.2.1 (out++br r.nums.length++(r.nums.take s.1).flatMap br).length s.2.2]∧OwnB w' (b0) 5 s.2.1 s.2.2 (out++br r.nums.length++(r.nums.take s.1).flatMap br)∧RdN w' lo hi N cn r.nums∧Gr w w' (some gb)) ((0,A14,c14)) (⟨Nat.zero_le _,by show Blk _ _ _ [.slice _ (out++br r.nums.length++(r.nums.take 0).flatMap br).length _];rw[List.take_zero,List.flatMap_nil,List.append_nil];exact cg,by show OwnB _ _ _ _ _ (out++br r.nums.length++(r.nums.take 0).flatMap br);rw[List.take_zero,List.flatMap_nil,List.append_nil];exact nq,hn,hG⟩) ?_
  rintro⟨i,Ai,ci⟩ wq ⟨nh,cg,oM,hn,hG⟩
  simp only at nh
  replace cg:Blk wq gb 32 [.slice Ai (out++br r.nums.length++(r.nums.take i).flatMap br).length ci]:=cg
  replace oM:OwnB wq (b0) 5 Ai ci (out++br r.nums.length++(r.nums.take i).flatMap br):=oM
  have UC:=hG.size
  have Wj:=cg.lt
  have GL:=oS (r.nums.take i)
  rw[List.length_take] at GL
  have heL:=cw r.nums.length
  have Ew:(out++br r.nums.length++(r.nums.take i).flatMap br).length=out.length+(br r.nums.length).length+((r.nums.take i).flatMap br).length:=by rw[List.length_append,List.length_append]
  unfold rsz at gf
  refine af (aa ?_)
  refine ab (bz) ?_
  refine ag (ae (af ?_))
  refine aL (fun eN=>?_) (fun eN=>?_)
  ·obtain⟨n,hk⟩:∃n,r.nums[i]?=some n:=⟨_,List.getElem?_eq_getElem (by omega)⟩
   have hnb:=NP n (List.mem_of_getElem? hk)
   refine aS (ae (af (a9 (af (aa ?_)))))
   refine ar (cS sn hn hk) ?_
   rintro v _ ⟨rfl,p23,rfl,BN,PX,P7⟩
   refine ab (dv ft rfl (fg BN)) ?_
   refine va ?_
   refine ag (ae (aa ?_))
   iterate 2 refine vm ?_
   refine vn ?_
   refine ab (ak dc cg) ?_
   refine vm ?_
   refine ar (aw sO (iY _ _ _ _ _ (out++br r.nums.length++(r.nums.take i).flatMap br) (n) (OwnB.rd oM))) ?_
   rintro v w202 ⟨A30,c30,rfl,iT,qc⟩
   replace cg:=cg.ext qc
   replace hn:=hn.ext qc
   replace hG:=hG.gr qc (fun _ e=>by cases e)
   have lK:=fun g e=>Own.lt iT (g:=g) e
   refine vn ?_
   refine aB (aU gV cg) ?_
   rintro _ w203 ⟨gy,df⟩
   replace hn:=hn.gr df
   replace hG:=hG.gr df (fun _ e=>by first|exact .inl e|(cases e;right;omega))
   replace iT:=Own.gr iT df (by first|exact .inl rfl|(right;intro e;first|(have:=lK _ e;omega)|(have:=Own.lt iT e;omega)|exact aT iT cg (by decide) e))
   replace cg:=gy
   refine ag (bb (ae (aa ?_)))
   refine ab (bH) ?_
   refine vm ?_
   refine ag ?_
   refine cB ((i+1,A30,c30)) (by show r.nums.length -(i+1)<r.nums.length - i;omega) (⟨by show i+1≤_;omega,by show Blk _ _ _ [.slice _ (out++br r.nums.length++(r.nums.take (i+1)).flatMap br).length _];rw[rT hk,←List.append_assoc];exact cg,by show OwnB _ _ _ _ _ (out++br r.nums.length++(r.nums.take (i+1)).flatMap br);rw[rT hk,←List.append_assoc];exact Own.mono iT (by omega),hn,hG⟩)
  ·have pr:r.nums.take i=r.nums:=List.take_of_length_le (by omega)
   rw[pr] at cg oM
   refine cW (bx (bx (ce (ae (af (aa ?_))))))
   refine va ?_
   refine ag (ae (aE ?_))
   refine aY ?_
   refine⟨?_,⟨Ai,ci,_,cg,oM,fun _=>?_⟩,hG⟩
   ·show Value.bool true=.bool (decide _)
    rw[decide_eq_true hb]
   ·exact List.append_assoc ..
theorem TM (w:World) (gb gx:Nat) (A:Option Addr) (c:Nat) (out:List UInt8) {b0:Nat} (kf:b0≤w.heap.size) (cg:Blk w gb 32 [.slice A (out).length c]) (ho:OwnB w (b0) 5 A c out) (un:out.length≤35184372088832) (r:Rsp) (xs:List IT) (mq:vals xs=r.items) (X:Option Addr) (cx:Nat) (N:Option Addr) (cn:Nat) (aH:Blk w gx 43 (b9 r X cx N cn)) (eB:gx≠gb) (lo hi:Nat) (hx:RdI w lo hi X cx xs) (hn:RdN w lo hi N cn r.nums) (wM:gb<lo∨hi≤gb) (fP:hi≤w.heap.size) (vq:r.ver<18446744073709551616) (JM:∀x∈r.items,x.ver<18446744073709551616∧x.dead<18446744073709551616) (NP:∀n∈r.nums,n<18446744073709551616) (gf:out.length+rsz r≤17592186044416):
    Fn Tryz.prog 137 #[(.pointer (some ⟨gb,0,none⟩)),(.pointer (some ⟨gx,0,none⟩))] w (fun v w'=>v=.bool (okP r 105)∧(∃A' c' o',Blk w' gb 32 [.slice A' (List.length o') c']∧OwnB w' (b0) 5 A' c' o'∧(okP r 105=true→o'=out++putC r 105))∧Gr w w' (some gb)):=by
  have hG:=(aP w).row (some gb)
  have Ac:xs.length=r.items.length:=by rw[←mq];exact(List.length_map ..).symm
  have fR:=hx.1.1
  have mE:=hx.1.2.1
  have rH:=hn.2.1
  simp only[maxLen] at mE rH
  refine aO Tryz.func137 ?_
  refine af (aa ?_)
  refine va ?_
  refine ag (ae (af (af (aa ?_))))
  refine vm ?_
  refine vn ?_
  refine ab (ah cJ) ?_
  refine ab (ak fA aH) ?_
  refine aN (d:=10) rfl (v':=.slice X xs.length cx) (by rw[Ac]) ?_
  refine ab (bj Tryz.underlying40) ?_
  refine vm ?_
  refine ag (ae (a9 ?_))
  refine cU (fun s=>xs.length - s.1) (fun s=>[(0,.pointer (some ⟨gb,0,none⟩)),(10,.slice X xs.length cx),(11,.int .i64 (xs.length:Int)),(12,.int .i64 (s.1:Int))]) (fun s w'=>s.1≤xs.length∧(r.items.take s.1).all ma=true∧Blk w' gb 32 [.slice s.2.1 (out++(r.items.take s.1).flatMap wI).length s.2.2]∧OwnB w' (b0) 5 s.2.1 s.2.2 (out++(r.items.take s.1).flatMap wI)∧RdI w' lo hi X cx xs∧Gr w w' (some gb)) ((0,A,c)) (⟨Nat.zero_le _,rfl,by show Blk _ _ _ [.slice _ (out++(r.items.take 0).flatMap wI).length _];rw[List.take_zero,List.flatMap_nil,List.append_nil];exact cg,by show OwnB _ _ _ _ _ (out++(r.items.take 0).flatMap wI);rw[List.take_zero,List.flatMap_nil,List.append_nil];exact ho,hx,hG⟩) ?_
  rintro⟨i,Ai,ci⟩ wq ⟨nh,qq,cg,oM,hx,hG⟩
  simp only at nh qq
  replace cg:Blk wq gb 32 [.slice Ai (out++(r.items.take i).flatMap wI).length ci]:=cg
  replace oM:OwnB wq (b0) 5 Ai ci (out++(r.items.take i).flatMap wI):=oM
  have Ly:=fun g e=>Own.lt oM (g:=g) e
  have UC:=hG.size
  have Wj:=cg.lt
  have NS:=pj (r.items.take i) qq
  have Ew:(out++(r.items.take i).flatMap wI).length=out.length+((r.items.take i).flatMap wI).length:=List.length_append
  unfold rsz at gf
  refine af (aa ?_)
  refine ab (bz) ?_
  refine ag (ae (af ?_))
  refine aL (fun dM=>?_) (fun dM=>?_)
  · obtain⟨x,hk⟩:∃x,xs[i]?=some x:=⟨_,List.getElem?_eq_getElem (by omega)⟩
    have l6:=m2 mq hk
    have yF:=List.mem_of_getElem? l6
    obtain⟨hd1,WB⟩:=JM x.1 yF
    have kI:=hx.2 x (List.mem_of_getElem? hk)
    have hss:=vO l6
    have it:=qE r.items (i+1)
    have hxz:o3 x.1=x.1.value.length+40:=rfl
    refine aS (ae (af (a9 (af (aa ?_)))))
    refine ar (cS nm hx.1 hk) ?_
    rintro v _ ⟨rfl,p14,rfl,Vj,ZH,ZS⟩
    refine ab (dX jI Vj) ?_
    refine ar (bc (cs:=[(.int .i64 0),(.slice none 0 0),(.int .u64 0),(.int .u64 0)]) tD) ?_
    rintro v w1 ⟨g6,rfl,bp,lm,Ti,Te⟩
    replace cg:=cg.ext lm
    replace oM:=Own.ext oM lm
    replace hx:=RdI.ext hx lm
    replace hG:=hG.gr lm (fun _ e=>by cases e)
    replace kI:=kI.ext lm
    refine aB (aD (vs:=[(.int .i64 x.1.mark),(.slice x.2.1 x.1.value.length x.2.2),(.int .u64 (↑x.1.ver:Int)),(.int .u64 (↑x.1.dead:Int))]) x7 bp) ?_
    rintro _ w2 ⟨gY,dt⟩
    have nO:=dt.size
    replace cg:=cg.gr dt
    replace oM:=Own.gr oM dt (by first|exact .inl rfl|(right;intro e;first|(have:=Ly _ e;omega)|(have:=Own.lt oM e;omega)|exact aT oM bp (by decide) e))
    replace hx:=RdI.gr hx dt (fun _ e=>by cases e;omega)
    replace hG:=hG.gr dt (fun _ e=>by first|exact .inl e|(cases e;right;omega))
    replace kI:=kI.gr dt
    replace bp:=gY
    refine ag (ae (af (af (aa ?_))))
    refine ab (ah fO) ?_
    refine ab (ak lg bp) ?_
    refine ab (bz) ?_
    refine aG (d:=18) (fun Yq=>?_) (fun Yq=>?_)
    · have ep:ma x.1=false:=decide_eq_false (by omega)
      refine vm ?_
      iterate 3 refine aA ?_
      refine ab (ay) ?_
      refine vm ?_
      iterate 4 refine aA ?_
      refine ab (ay) ?_
      refine ag (ae ?_)
      refine aR ?_
      refine af (aa ?_)
      refine va ?_
      refine ag (ae (aE (az (aQ (az (az (aQ (az ?_))))))))
      refine aY ?_
      first
        | (refine ⟨?_, ⟨Ai, ci, _, cg, oM, fun h => ?_⟩, hG⟩ <;> have hf : r.items.all ma = false := List.all_eq_false.2 ⟨x.1, yF, by rw [ep]; decide⟩
           · show Value.bool false=.bool (r.items.all ma)
             rw[hf]
           · have h2:r.items.all ma=true:=h
             rw[hf] at h2;cases h2)
        |exact⟨by show Value.bool true=.bool (r.items.all ma);rw[qq],⟨Ai,ci,_,cg,oM,fun _=>rfl⟩,hG⟩
    · refine vm ?_
      refine aj (ah fO) ?_
      refine aj (ak lg bp) ?_
      refine aj (bw) ?_
      refine aG (d:=22) (fun sk=>?_) (fun sk=>?_)
      · have ep:ma x.1=false:=decide_eq_false (by omega)
        refine ab (ap) ?_
        refine vm ?_
        iterate 4 refine aA ?_
        refine ab (ay) ?_
        refine ag (ae ?_)
        refine aR ?_
        refine af (aa ?_)
        refine va ?_
        refine ag (ae (aE (az (aQ (az (az (aQ (az ?_))))))))
        refine aY ?_
        first
          | (refine ⟨?_, ⟨Ai, ci, _, cg, oM, fun h => ?_⟩, hG⟩ <;> have hf : r.items.all ma = false := List.all_eq_false.2 ⟨x.1, yF, by rw [ep]; decide⟩
             · show Value.bool false=.bool (r.items.all ma)
               rw[hf]
             · have h2:r.items.all ma=true:=h
               rw[hf] at h2;cases h2)
          |exact⟨by show Value.bool true=.bool (r.items.all ma);rw[qq],⟨Ai,ci,_,cg,oM,fun _=>rfl⟩,hG⟩
      · refine ab (ap) ?_
        refine vm ?_
        refine aj (ah iB) ?_
        refine aj (ak dc bp) ?_
        refine aj (bj Tryz.underlying32) ?_
        refine aj (bw) ?_
        refine ab (ap) ?_
        refine ag (ae ?_)
        refine aL (fun eN=>?_) (fun eN=>?_)
        · have ep:ma x.1=false:=decide_eq_false (by omega)
          refine af (aa ?_)
          refine va ?_
          refine ag (ae (aE (az (aQ (az (az (aQ (az ?_))))))))
          refine aY ?_
          first
            | (refine ⟨?_, ⟨Ai, ci, _, cg, oM, fun h => ?_⟩, hG⟩ <;> have hf : r.items.all ma = false := List.all_eq_false.2 ⟨x.1, yF, by rw [ep]; decide⟩
               · show Value.bool false=.bool (r.items.all ma)
                 rw[hf]
               · have h2:r.items.all ma=true:=h
                 rw[hf] at h2;cases h2)
            |exact⟨by show Value.bool true=.bool (r.items.all ma);rw[qq],⟨Ai,ci,_,cg,oM,fun _=>rfl⟩,hG⟩
        · have ep:ma x.1=true:=decide_eq_true (by omega)
          refine aS (ae (af ?_))
          refine fD 8 [(30,a0 (.pointer (some ⟨gb,0,none⟩))),(31,a0 (.pointer (some ⟨gb,0,none⟩))),(32,a0 (.pointer (some ⟨gb,0,none⟩))),(33,a0 (.slice Ai (out++(r.items.take i).flatMap wI).length ci)),(34,a0 (.pointer (some ⟨g6,0,none⟩))),(35,a0 (.int .i64 x.1.mark)),(36,a0 (.int .u64 (↑x.1.mark.toNat:Int))),(37,iP w2.heap.size 5 ((out++(r.items.take i).flatMap wI)++br (x.1.mark.toNat)))] [[],[],[1],[2],[],[4],[5],[3,6]] _ [] [] ⟨⟨dU _,fun _ he=>by cases he⟩,⟨dU _,fun _ he=>by cases he⟩,⟨dU _,fun _ he=>by cases he⟩,⟨dU _,fun _ he=>by cases he⟩,⟨dU _,fun _ he=>by cases he⟩,⟨dU _,fun _ he=>by cases he⟩,⟨dU _,fun _ he=>by cases he⟩,⟨fp _ _ _,fun _ he=>by cases he⟩,trivial⟩ ⟨?_,?_,?_,?_,?_,?_,?_,?_,trivial⟩ ?_
          · intro wd bW
            show eV _ _ _ _ _ _
            exact am (ax (aF))
          · intro wd bW
            show eV _ _ _ _ _ _
            exact am (ax (aF))
          · intro wd bW
            rintro _ rfl
            show eV _ _ _ _ _ _
            exact am (ax (bD))
          · intro wd bW
            replace cg:=cg.ext bW
            rintro _ rfl
            show eV _ _ _ _ _ _
            exact am (ax (ak dc cg))
          · intro wd bW
            show eV _ _ _ _ _ _
            exact am (ax (ah fO))
          · intro wd bW
            replace bp:=bp.ext bW
            rintro _ rfl
            show eV _ _ _ _ _ _
            exact am (ax (ak lg bp))
          · intro wd bW
            rintro _ rfl
            show eV _ _ _ _ _ _
            exact am (qO (bv Tryz.underlying78 Tryz.underlying36) (by rw[Int.toNat_of_nonneg (by omega)]))
          · intro wd bW
            replace oM:=Own.ext oM bW
            have dK:=bW.size
            iterate 2 rintro _ rfl
            show eV _ _ _ _ _ _
            refine am (OpRun.mono (aw sO (iY _ _ _ _ _ (out++(r.items.take i).flatMap wI) (x.1.mark.toNat) (OwnB.rd oM))) ?_)
            rintro v w203 ⟨A37,c37,rfl,pq,fv⟩
            exact⟨⟨A37,c37,rfl,Own.mono pq (by omega)⟩,fv⟩
          · intro wf6 nz
            replace cg:=cg.ext nz
            replace hx:=RdI.ext hx nz
            replace hG:=hG.gr nz (fun _ e=>by cases e)
            replace kI:=kI.ext nz
            replace bp:=bp.ext nz
            have KI:=nz.size
            iterate 7 rintro _ rfl
            rintro _ ⟨A37,c37,rfl,pq⟩
            have HT:=fun g e=>Own.lt pq (g:=g) e
            have hem:=cw x.1.mark.toNat
            have hl37:((out++(r.items.take i).flatMap wI)++br x.1.mark.toNat).length=(out++(r.items.take i).flatMap wI).length+(br x.1.mark.toNat).length:=List.length_append
            refine vn ?_
            refine aB (aU gV cg) ?_
            rintro _ w203 ⟨gy,df⟩
            have wK:=df.size
            replace hx:=RdI.gr hx df (fun _ e=>by cases e;omega)
            replace hG:=hG.gr df (fun _ e=>by first|exact .inl e|(cases e;right;omega))
            replace kI:=kI.gr df
            replace bp:=bp.gr df
            replace pq:=Own.gr pq df (by first|exact .inl rfl|(right;intro e;first|(have:=HT _ e;omega)|(have:=Own.lt pq e;omega)|exact aT pq cg (by decide) e))
            replace cg:=gy
            refine ag (ae (af (aa ?_)))
            refine ab (ah fO) ?_
            refine ab (ak lg bp) ?_
            refine ab (bS) ?_
            refine ag (ae ?_)
            refine aL (fun e9=>?_) (fun e9=>?_)
            · have vw:¬x.1.mark=0:=by omega
              have hev:=cw x.1.ver
              have In:=cw x.1.dead
              have hl48:((out++(r.items.take i).flatMap wI)++br x.1.mark.toNat++br x.1.ver).length=((out++(r.items.take i).flatMap wI)++br x.1.mark.toNat).length+(br x.1.ver).length:=List.length_append
              have hl51:((out++(r.items.take i).flatMap wI)++br x.1.mark.toNat++br x.1.ver++br x.1.dead).length=((out++(r.items.take i).flatMap wI)++br x.1.mark.toNat++br x.1.ver).length+(br x.1.dead).length:=List.length_append
              refine fD 13 [(42,a0 (.pointer (some ⟨gb,0,none⟩))),(43,a0 (.pointer (some ⟨gb,0,none⟩))),(44,a0 (.pointer (some ⟨gb,0,none⟩))),(45,a0 (.slice A37 ((out++(r.items.take i).flatMap wI)++br (x.1.mark.toNat)).length c37)),(46,a0 (.pointer (some ⟨g6,2,none⟩))),(47,a0 (.int .u64 (↑x.1.ver:Int))),(48,iP w203.heap.size 5 (((out++(r.items.take i).flatMap wI)++br (x.1.mark.toNat))++br (x.1.ver))),(49,a0 (.pointer (some ⟨g6,3,none⟩))),(50,a0 (.int .u64 (↑x.1.dead:Int))),(51,iP w203.heap.size 5 ((((out++(r.items.take i).flatMap wI)++br (x.1.mark.toNat))++br (x.1.ver))++br (x.1.dead))),(52,a0 (.pointer (some ⟨g6,1,none⟩))),(53,a0 (.slice x.2.1 x.1.value.length x.2.2)),(54,iP w203.heap.size 5 (((((out++(r.items.take i).flatMap wI)++br (x.1.mark.toNat))++br (x.1.ver))++br (x.1.dead))++br x.1.value.length++x.1.value))] [[],[],[1],[2],[],[4],[3,5],[],[7],[6,8],[],[10],[9,11]] _ [] [] ⟨⟨dU _,fun _ he=>by cases he⟩,⟨dU _,fun _ he=>by cases he⟩,⟨dU _,fun _ he=>by cases he⟩,⟨dU _,fun _ he=>by cases he⟩,⟨dU _,fun _ he=>by cases he⟩,⟨dU _,fun _ he=>by cases he⟩,⟨fp _ _ _,fun _ he=>by cases he⟩,⟨dU _,fun _ he=>by cases he⟩,⟨dU _,fun _ he=>by cases he⟩,⟨fp _ _ _,fun _ he=>by cases he⟩,⟨dU _,fun _ he=>by cases he⟩,⟨dU _,fun _ he=>by cases he⟩,⟨fp _ _ _,fun _ he=>by cases he⟩,trivial⟩ ⟨?_,?_,?_,?_,?_,?_,?_,?_,?_,?_,?_,?_,?_,trivial⟩ ?_
              · intro wd bW
                show eV _ _ _ _ _ _
                exact am (ax (aF))
              · intro wd bW
                show eV _ _ _ _ _ _
                exact am (ax (aF))
              · intro wd bW
                rintro _ rfl
                show eV _ _ _ _ _ _
                exact am (ax (bD))
              · intro wd bW
                replace cg:=cg.ext bW
                rintro _ rfl
                show eV _ _ _ _ _ _
                exact am (ax (ak dc cg))
              · intro wd bW
                show eV _ _ _ _ _ _
                exact am (ax (ah pI))
              · intro wd bW
                replace bp:=bp.ext bW
                rintro _ rfl
                show eV _ _ _ _ _ _
                exact am (ax (ak ft bp))
              · intro wd bW
                replace pq:=Own.ext pq bW
                have dK:=bW.size
                iterate 2 rintro _ rfl
                show eV _ _ _ _ _ _
                refine am (OpRun.mono (aw sO (iY _ _ _ _ _ ((out++(r.items.take i).flatMap wI)++br (x.1.mark.toNat)) (x.1.ver) (OwnB.rd pq))) ?_)
                rintro v w204 ⟨A48,c48,rfl,H6,Wx⟩
                exact⟨⟨A48,c48,rfl,Own.mono H6 (by omega)⟩,Wx⟩
              · intro wd bW
                show eV _ _ _ _ _ _
                exact am (ax (ah pH))
              · intro wd bW
                replace bp:=bp.ext bW
                rintro _ rfl
                show eV _ _ _ _ _ _
                exact am (ax (ak pg bp))
              · intro wd bW
                have dK:=bW.size
                rintro _ ⟨A48,c48,rfl,H6⟩
                rintro _ rfl
                show eV _ _ _ _ _ _
                refine am (OpRun.mono (aw sO (iY _ _ _ _ _ (((out++(r.items.take i).flatMap wI)++br (x.1.mark.toNat))++br (x.1.ver)) (x.1.dead) (OwnB.rd H6))) ?_)
                rintro v w204 ⟨A51,c51,rfl,dq,jl⟩
                exact⟨⟨A51,c51,rfl,Own.mono dq (by omega)⟩,jl⟩
              · intro wd bW
                show eV _ _ _ _ _ _
                exact am (ax (ah iB))
              · intro wd bW
                replace bp:=bp.ext bW
                rintro _ rfl
                show eV _ _ _ _ _ _
                exact am (ax (ak dc bp))
              · intro wd bW
                replace kI:=kI.ext bW
                have dK:=bW.size
                rintro _ ⟨A51,c51,rfl,dq⟩
                rintro _ rfl
                show eV _ _ _ _ _ _
                refine am (OpRun.mono (aw R8 (tO _ _ _ _ _ _ _ ((((out++(r.items.take i).flatMap wI)++br (x.1.mark.toNat))++br (x.1.ver))++br (x.1.dead)) _ _ x.1.value (OwnB.rd dq) kI (by omega))) ?_)
                rintro v w204 ⟨A54,c54,rfl,sx,uz⟩
                exact⟨⟨A54,c54,rfl,Own.mono sx (by omega)⟩,uz⟩
              · intro wf8 Wr
                replace cg:=cg.ext Wr
                replace hx:=RdI.ext hx Wr
                replace hG:=hG.gr Wr (fun _ e=>by cases e)
                iterate 6 rintro _ rfl
                rintro _ ⟨A48,c48,rfl,H6⟩
                iterate 2 rintro _ rfl
                rintro _ ⟨A51,c51,rfl,dq⟩
                iterate 2 rintro _ rfl
                rintro _ ⟨A54,c54,rfl,sx⟩
                have HR:=fun g e=>Own.lt sx (g:=g) e
                refine vn ?_
                refine aB (aU gV cg) ?_
                rintro _ w204 ⟨dR,bM⟩
                replace hx:=RdI.gr hx bM (fun _ e=>by cases e;omega)
                replace hG:=hG.gr bM (fun _ e=>by first|exact .inl e|(cases e;right;omega))
                replace sx:=Own.gr sx bM (by first|exact .inl rfl|(right;intro e;first|(have:=HR _ e;omega)|(have:=Own.lt sx e;omega)|exact aT sx cg (by decide) e))
                replace cg:=dR
                refine ag (bb (ae (aa ?_)))
                refine ab (bH) ?_
                refine vm ?_
                refine ag ?_
                refine cB ((i+1,A54,c54)) (by show xs.length -(i+1)<xs.length - i;omega) (⟨by show i+1≤_;omega,by rw[wo l6,qq,ep];rfl,by show Blk _ _ _ [.slice _ (out++(r.items.take (i+1)).flatMap wI).length _];rw[m0 l6,←List.append_assoc,tE vw];exact cg,by show OwnB _ _ _ _ _ (out++(r.items.take (i+1)).flatMap wI);rw[m0 l6,←List.append_assoc,tE vw];exact Own.mono sx (by omega),hx,hG⟩)
            · have vw:x.1.mark=0:=by omega
              refine aS (bb (ae (aa ?_)))
              refine ab (bH) ?_
              refine vm ?_
              refine ag ?_
              refine cB ((i+1,A37,c37)) (by show xs.length -(i+1)<xs.length - i;omega) (⟨by show i+1≤_;omega,by rw[wo l6,qq,ep];rfl,by show Blk _ _ _ [.slice _ (out++(r.items.take (i+1)).flatMap wI).length _];rw[m0 l6,←List.append_assoc,oo vw];exact cg,by show OwnB _ _ _ _ _ (out++(r.items.take (i+1)).flatMap wI);rw[m0 l6,←List.append_assoc,oo vw];exact Own.mono pq (by omega),hx,hG⟩)
  · have pr:r.items.take i=r.items:=List.take_of_length_le (by omega)
    rw[pr] at cg oM qq
    refine cW (bx (bx (ce (ae (af (aa ?_))))))
    refine va ?_
    refine ag (ae (aE ?_))
    refine aY ?_
    first
      | (refine ⟨?_, ⟨Ai, ci, _, cg, oM, fun h => ?_⟩, hG⟩ <;> have hf : r.items.all ma = false := List.all_eq_false.2 ⟨x.1, yF, by rw [ep]; decide⟩
         · show Value.bool false=.bool (r.items.all ma)
           rw[hf]
         · have h2:r.items.all ma=true:=h
           rw[hf] at h2;cases h2)
      |exact⟨by show Value.bool true=.bool (r.items.all ma);rw[qq],⟨Ai,ci,_,cg,oM,fun _=>rfl⟩,hG⟩
end Go.Proofs.YtiighkbehiddkaaGreat
namespace Go.Proofs.YtiighkbehiddkaaGreat
open Go.RowKit
set_option linter.unusedVariables false
set_option maxRecDepth 4000
theorem r5:aX Tryz.prog 118=true:=by kernel_rfl
theorem r4:aX Tryz.prog 129=true:=by kernel_rfl
theorem NG:(Tryz.prog.info? 3).map (·.size)=some 1:=by kernel_rfl
theorem mi:(Tryz.prog.info? 36).map (·.size)=some 1:=by kernel_rfl
theorem AZ:(Tryz.prog.info? 40).map (·.size)=some 1:=by kernel_rfl
/-- What is read: a number, its rest, whether it is there; bytes. -/
def nV (l:List UInt8):Nat:=(bd l).1
def nR (l:List UInt8):List UInt8:=l.drop (bd l).2.1
def nK (l:List UInt8):Bool:=decide ((bd l).2.2=0)
def bV (l:List UInt8):List UInt8:=(cM l 65536).1
def bR (l:List UInt8):List UInt8:=l.drop (cM l 65536).2.1
def bK (l:List UInt8):Bool:=decide ((cM l 65536).2.2=0)
def rK (m:Nat) (l:List UInt8):Bool:=nK l&&decide (nV l≤m)
theorem iN (l:List UInt8):(nR l).length≤l.length:=by unfold nR;rw[List.length_drop];omega
theorem NA (l:List UInt8):(bR l).length≤l.length:=by unfold bR;rw[List.length_drop];omega
theorem oB (l:List UInt8):nV l<18446744073709551616:=m1 l
theorem Zd (l:List UInt8):(bV l).length≤l.length:=(kD l 65536).1
def zI:Itm:=⟨0,[],0,0⟩
def zT:IT:=(zI,none,0)
/-- The k-th item and what is left; whether it is one. -/
def iV (l:List UInt8):Itm:=if nV l=0 then zI else⟨nV l,bV (nR (nR (nR l))),nV (nR l),nV (nR (nR l))⟩
def iR (l:List UInt8):List UInt8:=if nV l=0 then nR l else bR (nR (nR (nR l)))
def iK (l:List UInt8):Bool:=rK 2 l&&(decide (nV l=0)||(nK (nR l)&&nK (nR (nR l))&&bK (nR (nR (nR l)))))
def iS:Nat→List UInt8→List Itm×List UInt8×Bool
 |0,l=>([],l,true)
 |k+1,l=>((iS k l).1++[iV (iS k l).2.1],iR (iS k l).2.1,(iS k l).2.2&&iK (iS k l).2.1)
def uS:Nat→List UInt8→List Nat×List UInt8×Bool
 |0,l=>([],l,true)
 |k+1,l=>((uS k l).1++[nV (uS k l).2.1],nR (uS k l).2.1,(uS k l).2.2&&nK (uS k l).2.1)
theorem KF (l:List UInt8):(iR l).length≤l.length:=by
 have h1:=iN l
 have h2:=iN (nR l)
 have h3:=iN (nR (nR l))
 have h4:=NA (nR (nR (nR l)))
 unfold iR;split<;>omega
theorem lF (l:List UInt8):∀k,(iS k l).1.length=k∧(iS k l).2.1.length≤l.length
 |0=>⟨rfl,Nat.le_refl _⟩
 |k+1=>by
  have h:=lF l k
  have h2:=KF (iS k l).2.1
  exact⟨by rw[iS,List.length_append,h.1];rfl,by show(iR _).length≤_;omega⟩
theorem o8 (l:List UInt8):∀k,(uS k l).1.length=k∧(uS k l).2.1.length≤l.length
 |0=>⟨rfl,Nat.le_refl _⟩
 |k+1=>by
  have h:=o8 l k
  have h2:=iN (uS k l).2.1
  exact⟨by rw[uS,List.length_append,h.1];rfl,by show(nR _).length≤_;omega⟩
theorem ir (l:List UInt8):∀{k n:Nat},k≤n→(iS k l).2.2=false→(iS n l).2.2=false
  | k, 0, h, he => by have : k = 0 := by omega
                      subst this;exact he
  | k, n + 1, h, he => by
    by_cases e:k=n+1
    · subst e;exact he
    · have:=ir l (k:=k) (n:=n) (by omega) he;rw[iS,this];rfl
theorem zz (l:List UInt8):∀{k n:Nat},k≤n→(uS k l).2.2=false→(uS n l).2.2=false
  | k, 0, h, he => by have : k = 0 := by omega
                      subst this;exact he
  | k, n + 1, h, he => by
    by_cases e:k=n+1
    · subst e;exact he
    · have:=zz l (k:=k) (n:=n) (by omega) he;rw[uS,this];rfl
def RdrAt8 (w:World) (g lo hi:Nat) (l:List UInt8):Prop:=∃A c,Blk w g 178 [.bool true,.slice A l.length c]∧RdB w lo hi A c l
theorem Kp.of_gr {a b:World} {row:Option Nat} (h:Gr a b row):Kp row.toList a b:=
 ⟨h.os,h.tape,h.output,h.size,fun i hi hn=>h.block i hi (fun e=>hn (by rw[←e];simp))⟩
/-- Items that are being read: their block. -/
def kc (xs:List IT) (n:Nat):List Value:=xs.flatMap itc++(List.replicate n zT).flatMap itc
theorem oF (xs:List IT):(xs.flatMap itc).length=4*xs.length:=by
 induction xs with
 |nil=>rfl
 |cons a r ih=>rw[List.flatMap_cons,List.length_append,ih,List.length_cons];show 4+_=_;omega
theorem lA (w:World) (gr lo hi:Nat) (A:Option Addr) (c:Nat) (l:List UInt8) (aJ:Blk w gr 178 [.bool true,.slice A l.length c]) (hr:RdB w lo hi A c l) (m:Nat) (fT:gr<lo∨hi≤gr:=by omega) (bI:l.length≤140737488355328:=by omega) (hm:m<18446744073709551616:=by omega):
  Fn Tryz.prog 118 #[(.pointer (some ⟨gr,0,none⟩)),(.int .u64 (↑m:Int))] w (fun v w'=>v=.tuple #[.int .u64 (nV l:Int),.bool (rK m l)]∧RdrAt8 w' gr lo hi (nR l)∧Gr w w' (some gr)):=by
 refine aO Tryz.func118 ?_
 refine af (aa ?_)
 iterate 2 refine va ?_
 refine ag (ae (af (aa ?_)))
 refine vm ?_
 refine ar (aw r4 (m7 _ gr lo hi A c l aJ hr fT bI)) ?_
 rintro v w1 ⟨rfl,pw,A1,c1,Fm,np⟩
 refine vm ?_
 iterate 2 refine vx ?_
 iterate 2 refine va ?_
 refine ag (ae (af (aa ?_)))
 iterate 2 refine vm ?_
 refine ve ?_
 refine aG (d:=15) (fun Cv=>?_) (fun Cv=>?_)
 ·refine vm ?_
  iterate 2 refine aj (aF) ?_
  refine aj (dl) ?_
  refine ab (ay) ?_
  iterate 2 refine va ?_
  refine ag (ae (aE ?_))
  refine cX ?_
  refine⟨?_,⟨_,_,Fm,np⟩,pw⟩
  rw[show rK m l=decide (((bd l).1:Int)≤(m:Int)) from by unfold rK nK nV;rw[decide_eq_true (show(bd l).2.2=0 by omega),Bool.true_and,decide_eq_decide];omega]
  rfl
 ·refine vm ?_
  iterate 3 refine aA ?_
  refine ab (ap) ?_
  iterate 2 refine va ?_
  refine ag (ae (aE ?_))
  refine cX ?_
  refine⟨?_,⟨_,_,Fm,np⟩,pw⟩
  rw[show rK m l=false from by unfold rK nK;rw[decide_eq_false (show¬(bd l).2.2=0 by omega),Bool.false_and]]
  rfl
theorem Own.blkN {w:World} {lo g n size:Nat} {e:TypeId} {xs:List Value} (h:Own w lo e size (some ⟨g,0,none⟩) n n xs):Blk w g e xs:=by
 rcases h.2 with⟨hv,_⟩|⟨g',cap,cur,hv,hb,hh,EC,jE,tj,no⟩
 ·simp at hv
 ·simp only[Value.slice.injEq,Option.some.injEq,Addr.mk.injEq] at hv
  obtain⟨⟨rfl,_⟩,_,rfl⟩:=hv
  have hc:cur.toList=xs:=by rw[←no,List.take_of_length_le (by simp;omega)]
  unfold Blk
  rw[hh,←hc]
section
variable {P:Program} {L:Env} {w:World} {d:Option Nat} {ty:TypeId} {pos:String} {aft:Array Edge} {gd:Option (Nat×Bool)}
theorem wj {t e:TypeId} {size bytes:Nat} {z:Value} (T:SliceTy P t e size bytes z) {x y:Operand} {k:IntKind} {n:Nat} {i:Int} (hx:ev L x=some (.int k i)) (hy:ev L y=some (.int k i)) (hi:i=n) (hb:bytes*n≤140737488355328) (GP:n≤maxLen):
  OpRun P ⟨d,.makeSlice t x y,ty,pos,aft,gd⟩ L w fun v w'=>∃g,v=.slice (some ⟨g,0,none⟩) n n∧Blk w' g e (madeCells z.cells (n*size)).toList∧Ext w w'∧w.heap.size≤g∧g<w'.heap.size:=
 eX fun ρ h1 _=>by
  obtain⟨inf,qb,hz,hs,Az⟩:=T.i
  subst hi
  obtain⟨w',hr,f7,hg⟩:=run_make_full (P:=P) w w.heap.size t e inf z size T.u qb hz hs k k n (by rw[Az];omega) GP (Nat.le_refl _)
  have QZ:Blk w' w.heap.size e (madeCells z.cells (n*size)).toList:=Own.blkN f7
  exact⟨_,w',by simp[execOp,h1 x _ hx,h1 y _ hy,hr],w.heap.size,rfl,QZ,hg,Nat.le_refl _,QZ.lt⟩
end
theorem qX {n:Nat} (h:n≤16):(madeCells (Value.agg #[.int .i64 0,.slice none 0 0,.int .u64 0,.int .u64 0]).cells (n*4)).toList=kc [] n:=by
 have e:∀(z:Array Value) (k:Nat),(madeCells z k).toList=(List.range k).map fun j=>z[j % z.size]! :=fun z k=>by simp[madeCells]
 rw[e]
 have:n=0∨n=1∨n=2∨n=3∨n=4∨n=5∨n=6∨n=7∨n=8∨n=9∨n=10∨n=11∨n=12∨n=13∨n=14∨n=15∨n=16:=by omega
 rcases this with rfl|rfl|rfl|rfl|rfl|rfl|rfl|rfl|rfl|rfl|rfl|rfl|rfl|rfl|rfl|rfl|rfl<;>rfl
theorem Yr (w:World) (gr lo hi:Nat) (A:Option Addr) (c:Nat) (l:List UInt8) (aJ:Blk w gr 178 [.bool true,.slice A l.length c]) (hr:RdB w lo hi A c l) (fT:gr<lo∨hi≤gr) (bI:l.length≤140737488355328) (gx:Nat) (x:Rsp) (X:Option Addr) (cx:Nat) (N:Option Addr) (cn:Nat) (aH:Blk w gx 43 (b9 x X cx N cn)) (eB:gx≠gr) (gP:gx<lo∨hi≤gx) (fP:hi≤w.heap.size):
  Fn Tryz.prog 132 #[(.pointer (some ⟨gr,0,none⟩)),(.pointer (some ⟨gx,0,none⟩))] w (fun v w'=>v=.bool (rK 18446744073709551615 l)∧Kp [gx,gr] w w'∧(rK 18446744073709551615 l=true→Blk w' gx 43 (b9 {x with ver:=nV l} X cx N cn)∧RdrAt8 w' gr lo hi (nR l))):=by
 have hK:=Kp.refl [gx,gr] w
 have lj:=aH.lt
 refine aO Tryz.func132 ?_
 refine af (aa ?_)
 refine va ?_
 refine ag (ae (af (aa ?_)))
 iterate 2 refine vm ?_
 refine ar (aw r5 (lA _ gr _ _ A c l aJ hr 18446744073709551615)) ?_
 rintro v w1 ⟨rfl,⟨A8,c8,hb8,UV⟩,mB⟩
 replace aH:=aH.gr mB
 replace hK:=Kp.tg hK mB (by first|(left;simp;done)|(right;omega))
 have aJ:=hb8
 refine vm ?_
 iterate 2 refine vx ?_
 refine vn ?_
 refine ab (ah lW) ?_
 refine aB (aU mi aH) ?_
 rintro _ w2 ⟨gY,dt⟩
 replace hK:=Kp.tg hK dt (by first|(left;simp;done)|(right;omega))
 replace aJ:=aJ.gr dt
 replace UV:=UV.gr dt
 replace aH:=gY
 refine va ?_
 refine ag (ae (af (aa ?_)))
 refine vm ?_
 refine va ?_
 refine ag (ae (aE ?_))
 refine aY ?_
 exact⟨rfl,hK,fun _=>⟨aH,_,_,aJ,UV⟩⟩
theorem Yw (w:World) (gr lo hi:Nat) (A:Option Addr) (c:Nat) (l:List UInt8) (aJ:Blk w gr 178 [.bool true,.slice A l.length c]) (hr:RdB w lo hi A c l) (fT:gr<lo∨hi≤gr) (bI:l.length≤140737488355328) (gx:Nat) (x:Rsp) (X:Option Addr) (cx:Nat) (N:Option Addr) (cn:Nat) (aH:Blk w gx 43 (b9 x X cx N cn)) (eB:gx≠gr) (gP:gx<lo∨hi≤gx) (fP:hi≤w.heap.size):
  Fn Tryz.prog 134 #[(.pointer (some ⟨gr,0,none⟩)),(.pointer (some ⟨gx,0,none⟩))] w (fun v w'=>v=.bool (rK 1099511627776 l)∧Kp [gx,gr] w w'∧(rK 1099511627776 l=true→Blk w' gx 43 (b9 {x with count:=(nV l:Int)} X cx N cn)∧RdrAt8 w' gr lo hi (nR l))):=by
 have hK:=Kp.refl [gx,gr] w
 have lj:=aH.lt
 refine aO Tryz.func134 ?_
 refine af (aa ?_)
 refine va ?_
 refine ag (ae (af (aa ?_)))
 refine vm ?_
 refine ar (aw r5 (lA _ gr _ _ A c l aJ hr 1099511627776)) ?_
 rintro v w1 ⟨rfl,⟨A9,c9,WX,uh⟩,lk⟩
 replace aH:=aH.gr lk
 replace hK:=Kp.tg hK lk (by first|(left;simp;done)|(right;omega))
 have aJ:=WX
 have sg:=oB l
 refine vm ?_
 iterate 2 refine vx ?_
 iterate 2 refine va ?_
 refine ag (ae (af (aa ?_)))
 iterate 2 refine vm ?_
 refine ab (bv Tryz.underlying36 Tryz.underlying3 (hm:=rfl)) ?_
 refine vn ?_
 refine ab (ah dE) ?_
 refine aB (aU NG aH) ?_
 rintro _ w2 ⟨gY,dt⟩
 replace hK:=Kp.tg hK dt (by first|(left;simp;done)|(right;omega))
 replace aJ:=aJ.gr dt
 replace uh:=uh.gr dt
 replace aH:=gY
 refine ag (ae (af (aa ?_)))
 refine vm ?_
 refine va ?_
 refine ag (ae (aE ?_))
 refine aY ?_
 refine⟨rfl,hK,fun h=>?_⟩
 have hb:nV l≤1099511627776:=by unfold rK at h;rw[Bool.and_eq_true,decide_eq_true_eq] at h;exact h.2
 rw[kU] at aH
 exact⟨aH,_,_,aJ,uh⟩
theorem Ys (w:World) (gr lo hi:Nat) (A:Option Addr) (c:Nat) (l:List UInt8) (aJ:Blk w gr 178 [.bool true,.slice A l.length c]) (hr:RdB w lo hi A c l) (fT:gr<lo∨hi≤gr) (bI:l.length≤140737488355328) (gx:Nat) (x:Rsp) (X:Option Addr) (cx:Nat) (N:Option Addr) (cn:Nat) (aH:Blk w gx 43 (b9 x X cx N cn)) (eB:gx≠gr) (gP:gx<lo∨hi≤gx) (fP:hi≤w.heap.size):
  Fn Tryz.prog 136 #[(.pointer (some ⟨gr,0,none⟩)),(.pointer (some ⟨gx,0,none⟩))] w (fun v w'=>v=.bool (true)∧Kp [gx] w w'∧(true=true→∃ge,Blk w' gx 43 (b9 {x with items:=[zI]} (some ⟨ge,0,none⟩) 1 N cn)∧Blk w' ge 80 (kc [] 1)∧w.heap.size≤ge∧RdrAt8 w' gr lo hi (l))):=by
 have hK:=Kp.refl [gx] w
 have lj:=aH.lt
 refine aO Tryz.func136 ?_
 refine af (aa ?_)
 refine va ?_
 refine ag (ae (af (aa ?_)))
 refine vm ?_
 refine ar (wj nm rfl rfl rfl (by decide) (by decide)) ?_
 rintro v w1 ⟨g6,rfl,bp,lm,Ti,Te⟩
 replace aJ:=aJ.ext lm
 replace hr:=hr.ext lm
 replace aH:=aH.ext lm
 replace hK:=Kp.te hK lm
 have Ea:=lm.size
 rw[qX (n:=1) (by decide)] at bp
 refine vn ?_
 refine ab (ah cJ) ?_
 refine aB (aU AZ aH) ?_
 rintro _ w2 ⟨gY,dt⟩
 replace aJ:=aJ.gr dt
 replace hr:=hr.gr dt
 replace hK:=Kp.tg hK dt (by first|(left;simp;done)|(right;omega))
 replace bp:=bp.gr dt
 replace aH:=gY
 refine ag (ae (af (aa ?_)))
 refine va ?_
 refine ag (ae (aE ?_))
 refine aY ?_
 exact⟨rfl,hK,fun _=>⟨g6,aH,bp,by omega,_,_,aJ,hr⟩⟩
theorem Yu (w:World) (gr lo hi:Nat) (A:Option Addr) (c:Nat) (l:List UInt8) (aJ:Blk w gr 178 [.bool true,.slice A l.length c]) (hr:RdB w lo hi A c l) (fT:gr<lo∨hi≤gr) (bI:l.length≤140737488355328) (gx:Nat) (x:Rsp) (X:Option Addr) (cx:Nat) (N:Option Addr) (cn:Nat) (aH:Blk w gx 43 (b9 x X cx N cn)) (eB:gx≠gr) (gP:gx<lo∨hi≤gx) (fP:hi≤w.heap.size):
  Fn Tryz.prog 140 #[(.pointer (some ⟨gr,0,none⟩)),(.pointer (some ⟨gx,0,none⟩))] w (fun v w'=>v=.bool ((rK 16 l&&decide (0<nV l)))∧Kp [gx,gr] w w'∧((rK 16 l&&decide (0<nV l))=true→∃ge,Blk w' gx 43 (b9 {x with items:=List.replicate (nV l) zI} (some ⟨ge,0,none⟩) (nV l) N cn)∧Blk w' ge 80 (kc [] (nV l))∧w.heap.size≤ge∧RdrAt8 w' gr lo hi (nR l))):=by
 have hK:=Kp.refl [gx,gr] w
 have lj:=aH.lt
 refine aO Tryz.func140 ?_
 refine af (aa ?_)
 refine va ?_
 refine ag (ae (af (aa ?_)))
 refine vm ?_
 refine ar (aw r5 (lA _ gr _ _ A c l aJ hr 16)) ?_
 rintro v w1 ⟨rfl,⟨A9,c9,WX,uh⟩,lk⟩
 have KH:=lk.size
 replace aH:=aH.gr lk
 replace hK:=Kp.tg hK lk (by first|(left;simp;done)|(right;omega))
 have aJ:=WX
 have sg:=oB l
 refine vm ?_
 iterate 2 refine vx ?_
 iterate 2 refine va ?_
 refine ag (ae (af (af (aa ?_))))
 refine vm ?_
 refine ag (ae ?_)
 refine dJ (fun dM=>?_) (fun dM=>?_)
 ·have yR:rK 16 l=true:=by simpa using dM
  have hb:nV l≤16:=by have h:=yR;unfold rK at h;rw[Bool.and_eq_true,decide_eq_true_eq] at h;exact h.2
  refine aa ?_
  iterate 2 refine vm ?_
  refine ar (wj nm rfl rfl rfl (by omega) (by simp only[maxLen];omega)) ?_
  rintro v w2 ⟨g15,rfl,uL,jm,Qy,hu15⟩
  replace aH:=aH.ext jm
  replace hK:=Kp.te hK jm
  replace aJ:=aJ.ext jm
  replace uh:=uh.ext jm
  have qi:=jm.size
  rw[qX hb] at uL
  refine vn ?_
  refine ab (ah (off:=2) cJ) ?_
  refine aB (aU (cs':=[(.int .i64 x.op),(.int .i64 x.err),(.slice (some ⟨g15,0,none⟩) (nV l) (nV l)),(.int .u64 (↑x.ver:Int)),(.int .i64 x.count),(.slice N x.nums.length cn)]) AZ aH) ?_
  rintro _ w3 ⟨rL,lu⟩
  replace hK:=Kp.tg hK lu (by first|(left;simp;done)|(right;omega))
  replace aJ:=aJ.gr lu
  replace uh:=uh.gr lu
  replace uL:=uL.gr lu
  replace aH:=rL
  refine ag (ae (af (aa ?_)))
  refine vm ?_
  refine aN (d:=18) rfl (v':=(.bool true)) (by rw[yR];rfl) ?_
  refine vm ?_
  refine aj (aF) ?_
  refine aj (bw) ?_
  refine ab (ay) ?_
  refine va ?_
  refine ag (ae (aE ?_))
  refine aY ?_
  refine⟨by rw[yR,Bool.true_and];congr 1;rw[decide_eq_decide];omega,hK,fun _=>⟨g15,?_,uL,by omega,_,_,aJ,uh⟩⟩
  unfold b9
  rw[List.length_replicate]
  exact aH
 ·have yR:rK 16 l=false:=by simpa using dM
  refine aS (ae (af (aa ?_)))
  refine vm ?_
  refine aN (d:=18) rfl (v':=(.bool false)) (by rw[yR];rfl) ?_
  refine vm ?_
  iterate 2 refine aA ?_
  refine ab (ap) ?_
  refine va ?_
  refine ag (ae (aE ?_))
  refine aY ?_
  exact⟨by rw[yR];rfl,hK,fun h=>by rw[yR] at h;cases h⟩
end Go.Proofs.YtiighkbehiddkaaGreat
namespace Go.Proofs.YtiighkbehiddkaaGreat
open Go.RowKit
set_option linter.unusedVariables false
set_option maxRecDepth 4000
theorem xL:aX Tryz.prog 127=true:=by kernel_rfl
theorem Kq:fj Tryz.prog 80=some [(0,1),(1,1),(2,1),(3,1)]:=by kernel_rfl
theorem G3:(Tryz.prog.info? 41).map (·.size)=some 1:=by kernel_rfl
/-- The errors of what is read. -/
def nE (l:List UInt8):Nat:=(bd l).2.2
def bE (l:List UInt8):Nat:=(cM l 65536).2.2
theorem Jo {l:List UInt8} (h:¬(nE l:Int)≠0):nK l=true:=decide_eq_true (by unfold nE at h;omega)
theorem DQ {l:List UInt8} (h:(nE l:Int)≠0):nK l=false:=decide_eq_false (by unfold nE at h;omega)
theorem Sl {l:List UInt8} (h:¬(bE l:Int)≠0):bK l=true:=decide_eq_true (by unfold bE at h;omega)
theorem NB {l:List UInt8} (h:(bE l:Int)≠0):bK l=false:=decide_eq_false (by unfold bE at h;omega)
theorem Ky (w:World) (gr lo hi:Nat) (A:Option Addr) (c:Nat) (l:List UInt8) (aJ:Blk w gr 178 [.bool true,.slice A l.length c]) (hr:RdB w lo hi A c l) (fT:gr<lo∨hi≤gr:=by omega) (bI:l.length≤140737488355328:=by omega):Fn Tryz.prog 129 #[.pointer (some ⟨gr,0,none⟩)] w (fun v w'=>v=.tuple #[.int .u64 (nV l:Int),.int .i64 (nE l:Int)]∧RdrAt8 w' gr lo hi (nR l)∧Gr w w' (some gr)):=
 (m7 w gr lo hi A c l aJ hr fT bI).mono fun _ _ ⟨hv,hg,hx⟩=>⟨hv,hx,hg⟩
theorem Zc (w:World) (gr lo hi:Nat) (A:Option Addr) (c:Nat) (l:List UInt8) (aJ:Blk w gr 178 [.bool true,.slice A l.length c]) (hr:RdB w lo hi A c l) (fT:gr<lo∨hi≤gr) (bI:l.length≤140737488355328):Fn Tryz.prog 127 #[.pointer (some ⟨gr,0,none⟩),.int .i64 65536] w (fun v w'=>∃B d,v=.tuple #[.slice B (bV l).length d,.int .i64 (bE l:Int)]∧OwnB w' w.heap.size 5 B d (bV l)∧RdrAt8 w' gr lo hi (bR l)∧Gr w w' (some gr)):=
 (m4 w gr lo hi A c l aJ hr fT bI 65536).mono fun _ _ ⟨⟨B,d,hv,ho⟩,hg,hx⟩=>⟨B,d,hv,ho,hx,hg⟩
/-- The values of the items that have been read. -/
def VR (w:World) (lo:Nat) (xs:List IT):Prop:=∀x∈xs,RdB w lo w.heap.size x.2.1 x.2.2 x.1.value
theorem VR.gr {w w':World} {lo:Nat} {xs:List IT} (h:VR w lo xs) {row:Option Nat} (hg:Gr w w' row) (hr:∀g,row=some g→g<lo:=by intro _ e;cases e;omega):VR w' lo xs:=
 fun x hx=>((h x hx).gr hg fun g e=>.inl (hr g e)).mono (Nat.le_refl _) hg.size
theorem VR.ext {w w':World} {lo:Nat} {xs:List IT} (h:VR w lo xs) (he:Ext w w'):VR w' lo xs:=h.gr he fun _ e=>by cases e
theorem VR.add {w:World} {lo:Nat} {xs:List IT} {x:IT} (h:VR w lo xs) (hx:RdB w lo w.heap.size x.2.1 x.2.2 x.1.value):VR w lo (xs++[x]):=by
 intro y hy
 rcases List.mem_append.1 hy with hy|hy
 ·exact h y hy
 ·rw[List.mem_singleton.1 hy];exact hx
theorem q9 (xs:List IT) (n:Nat):kc xs (n+1)=xs.flatMap itc++itc zT++(List.replicate n zT).flatMap itc:=by
 unfold kc;rw[List.replicate_succ,List.flatMap_cons,List.append_assoc]
theorem s7 (xs:List IT) (x:IT) (n:Nat):kc (xs++[x]) n=xs.flatMap itc++itc x++(List.replicate n zT).flatMap itc:=by
 unfold kc;rw[List.flatMap_append];simp
theorem qB (xs:List IT) (x:IT):vals (xs++[x])=vals xs++[x.1]:=by unfold vals;rw[List.map_append];rfl
section
variable {P:Program} {L:Env} {w:World} {d:Option Nat} {ty:TypeId} {pos:String} {aft:Array Edge} {gd:Option (Nat×Bool)}
theorem pe {t e:TypeId} {size bytes:Nat} {z:Value} (T:SliceTy P t e size bytes z) {x y:Operand} {g n c:Nat} {k:IntKind} {i:Int} {m:Nat} (hx:ev L x=some (.slice (some ⟨g,0,none⟩) n c)) (hy:ev L y=some (.int k i)) (hi:i=(m:Int)) (hm:m<n:=by omega):
  db P ⟨d,.indexAddr t x y,ty,pos,aft,gd⟩ L w (.pointer (some ⟨g,m*size,none⟩)):=by
 subst hi
 have h:=jT (d:=d) (ty:=ty) (pos:=pos) (aft:=aft) (gd:=gd) (w:=w) T hx hy
 rw[Addr.add_lit,Nat.zero_add,Int.toNat_natCast] at h
 exact h
/-- A store of a whole struct amid a block. -/
theorem wi {t tb:TypeId} {x y:Operand} {g o:Nat} {cs a b c vs:List Value} (ht:(P.info? t).map (·.size)=some vs.length) (hx:ev L x=some (.pointer (some ⟨g,o,none⟩))) (hy:ev L y=some (.agg vs.toArray)) (iH:∀u∈vs,u.oneCell'=true) (hb:Blk w g tb cs)
  (tj:cs=a++b++c) (ha:a.length=o) (hl:b.length=vs.length):OpRun P ⟨d,.store t x y,ty,pos,aft,gd⟩ L w fun _ w'=>Blk w' g tb (a++vs++c)∧Gr w w' (some g):=
 iM fun ρ h1 _=>by
  obtain⟨inf,rx,gf⟩:=Option.map_eq_some_iff.1 ht
  subst tj
  have it:=run_storeCells_at P g o tb vs 0 (a++b++c).toArray w hb (by simp;omega) iH
  have e:((a++b++c).toArray.toList.take (o+0)++vs++(a++b++c).toArray.toList.drop (o+0+vs.length))=a++vs++c:=by
   rw[Nat.add_zero,List.append_assoc a b c,List.take_left' ha,←hl,←ha,←List.drop_drop,List.drop_left,List.drop_left]
  rw[e] at it
  refine⟨w.setRow g (a++vs++c).toArray,?_,setRow_heap w g _ _ tb _ hb,⟨rfl,rfl,rfl,by simp,fun k _ hk=>setRow_other w g k _ (fun e=>hk (by simp[e]))⟩⟩
  simp[execOp,h1 x _ hx,h1 y _ hy,Instr.storeAt,Instr.sureAddr,storeVar,cV rx,gf,Value.cells,it]
end
theorem DZ {l:List UInt8} (h:rK 2 l=false):iK l=false:=by unfold iK;rw[h];rfl
theorem tZ {l:List UInt8} (h:rK 2 l=true) (h0:nV l=0):iK l=true∧iV l=zI∧iR l=nR l:=by
 refine⟨by unfold iK;rw[h,decide_eq_true h0];rfl,if_pos h0,if_pos h0⟩
theorem m9 {l:List UInt8} (h:rK 2 l=true) (h0:¬nV l=0):iK l=(nK (nR l)&&nK (nR (nR l))&&bK (nR (nR (nR l))))∧iV l=⟨nV l,bV (nR (nR (nR l))),nV (nR l),nV (nR (nR l))⟩∧iR l=bR (nR (nR (nR l))):=by
 refine⟨by unfold iK;rw[h,decide_eq_false h0];simp,if_neg h0,if_neg h0⟩
theorem kH {m:Nat} {l:List UInt8} (h:rK m l=true):nV l≤m:=by unfold rK at h;rw[Bool.and_eq_true,decide_eq_true_eq] at h;exact h.2
/-- Numbers. -/
def uF (l:List UInt8) (k:Nat):Bool:=rK 64 l&&(uS k (nR l)).2.2
theorem G0 {l:List UInt8} {k n:Nat} (h:k≤n) (he:uF l k=false):uF l n=false:=by
 unfold uF at*
 cases hr:rK 64 l with
 |false=>rfl
 |true=>rw[hr,Bool.true_and] at he;rw[zz _ h he];rfl
theorem GZ {l:List UInt8} {k:Nat} (h:uF l k=true):uF l (k+1)=nK (uS k (nR l)).2.1:=by
 unfold uF at*
 rw[Bool.and_eq_true] at h
 rw[h.1,Bool.true_and,uS,h.2,Bool.true_and]
theorem Yv (w:World) (gr lo hi:Nat) (A:Option Addr) (c:Nat) (l:List UInt8) (aJ:Blk w gr 178 [.bool true,.slice A l.length c]) (hr:RdB w lo hi A c l) (fT:gr<lo∨hi≤gr) (bI:l.length≤140737488355328) (gx ge:Nat) (x:Rsp) (cx:Nat) (N:Option Addr) (cn:Nat) (aH:Blk w gx 43 (b9 x (some ⟨ge,0,none⟩) cx N cn)) (ga:Blk w ge 80 (kc [] x.items.length)) (eB:gx≠gr) (gP:gx<lo∨hi≤gx) (Ws:ge≠gx) (Tk:ge≠gr) (heo:ge<lo∨hi≤ge) (fP:hi≤w.heap.size) (hn16:x.items.length≤16):
    Fn Tryz.prog 138 #[(.pointer (some ⟨gr,0,none⟩)),(.pointer (some ⟨gx,0,none⟩))] w (fun v w'=>v=.bool (iS x.items.length l).2.2∧Kp [ge,gr] w w'∧((iS x.items.length l).2.2=true→∃xs,vals xs=(iS x.items.length l).1∧Blk w' ge 80 (xs.flatMap itc)∧VR w' w.heap.size xs∧Blk w' gx 43 (b9 x (some ⟨ge,0,none⟩) cx N cn)∧RdrAt8 w' gr lo hi (iS x.items.length l).2.1)):=by
  have hK:=Kp.refl [ge,gr] w
  have lj:=aH.lt
  have md:=aJ.lt
  have hgel:=ga.lt
  refine aO Tryz.func138 ?_
  refine af (aa ?_)
  refine va ?_
  refine ag (ae (af (af (aa ?_))))
  refine vm ?_
  refine vn ?_
  refine ab (ah cJ) ?_
  refine ab (ak fA aH) ?_
  refine ab (bj Tryz.underlying40) ?_
  refine vm ?_
  refine ag (ae (a9 ?_))
  refine cU (σ:=Nat×List IT) (fun s=>x.items.length - s.1) (fun s=>[(0,.pointer (some ⟨gr,0,none⟩)),(1,.pointer (some ⟨gx,0,none⟩)),(19,.int .i64 (x.items.length:Int)),(20,.int .i64 (s.1:Int))]) (fun s w'=>s.1≤x.items.length∧s.2.length=s.1∧vals s.2=(iS s.1 l).1∧(iS s.1 l).2.2=true∧RdrAt8 w' gr lo hi (iS s.1 l).2.1∧Blk w' gx 43 (b9 x (some ⟨ge,0,none⟩) cx N cn)∧Blk w' ge 80 (kc s.2 (x.items.length - s.1))∧VR w' w.heap.size s.2∧Kp [ge,gr] w w') ((0,[])) (⟨Nat.zero_le _,rfl,rfl,rfl,⟨A,c,aJ,hr⟩,aH,ga,fun _ h=>(by cases h),hK⟩) ?_
  rintro⟨i,xs⟩ wq ⟨nh,Ac,GI,ep,⟨Ai,ci,aJ,tf⟩,aH,ga,s8,hK⟩
  simp only at nh Ac GI ep
  replace tf:RdB wq lo hi Ai ci (iS i l).2.1:=tf
  replace aJ:Blk wq gr 178 [.bool true,.slice Ai (iS i l).2.1.length ci]:=aJ
  replace ga:Blk wq ge 80 (kc xs (x.items.length - i)):=ga
  replace s8:VR wq w.heap.size xs:=s8
  have KL:=hK.size
  have Qs:=(lF l i).2
  refine af (aa ?_)
  refine ab (bz) ?_
  refine ag (ae (af ?_))
  refine aL (fun dM=>?_) (fun dM=>?_)
  · refine aS (ae (af (a9 (af (aa ?_)))))
    refine vm ?_
    refine va ?_
    refine ag (ae (af (aa ?_)))
    refine vm ?_
    refine ar (aw r5 (lA _ gr _ _ Ai ci (iS i l).2.1 aJ tf 2)) ?_
    rintro v w1 ⟨rfl,⟨A25,c25,Mt,iQ⟩,sC⟩
    have Hx:=sC.size
    replace aH:=aH.gr sC
    replace ga:=ga.gr sC
    replace s8:=VR.gr s8 sC (fun _ e=>by cases e;omega)
    replace hK:=Kp.tg hK sC (by first|(left;simp;done)|(right;omega))
    have aJ:=Mt
    have Qx:=iN (iS i l).2.1
    have hv25:=oB (iS i l).2.1
    refine vm ?_
    iterate 2 refine vx ?_
    iterate 2 refine va ?_
    refine ag (ae (af (af (aa ?_))))
    refine vm ?_
    refine ab (b6) ?_
    refine ag (ae ?_)
    refine dJ (fun eN=>?_) (fun eN=>?_)
    · have ng:rK 2 (iS i l).2.1=false:=by simpa using eN
      have BX:=DZ ng
      refine af (aa ?_)
      refine va ?_
      refine ag (ae (aE (az (aQ (az (az (aQ (az ?_))))))))
      refine aY ?_
      first
        |exact⟨by rw[ep],hK,fun _=>⟨xs,GI,ga,s8,aH,Ai,ci,aJ,tf⟩⟩
        | (refine ⟨?_, hK, fun h => ?_⟩
           · rw[ir l (k:=i+1) (n:=x.items.length) (by omega) (by rw[iS,BX];simp)]
           · rw[ir l (k:=i+1) (n:=x.items.length) (by omega) (by rw[iS,BX];simp)] at h;cases h)
    · have ng:rK 2 (iS i l).2.1=true:=by simpa using eN
      have hle2:=kH ng
      refine aS (ae (af (aa ?_)))
      refine vm ?_
      refine vn ?_
      refine ab (ah cJ) ?_
      refine ab (ak fA aH) ?_
      refine vm ?_
      refine ab (pe nm rfl rfl rfl) ?_
      refine va ?_
      refine ag (ae (af (aa ?_)))
      refine vm ?_
      refine ab (bw) ?_
      refine ag (ae ?_)
      refine aL (fun e9=>?_) (fun e9=>?_)
      · have vw:¬nV (iS i l).2.1=0:=by omega
        refine af (aa ?_)
        refine vm ?_
        refine ar (aw r4 (Ky _ gr _ _ A25 c25 (nR (iS i l).2.1) aJ iQ)) ?_
        rintro v w202 ⟨rfl,⟨A40,c40,W2,rj⟩,xe⟩
        have SG:=xe.size
        replace aH:=aH.gr xe
        replace ga:=ga.gr xe
        replace s8:=VR.gr s8 xe (fun _ e=>by cases e;omega)
        replace hK:=Kp.tg hK xe (by first|(left;simp;done)|(right;omega))
        have aJ:=W2
        have ur:=iN (nR (iS i l).2.1)
        refine vm ?_
        iterate 2 refine vx ?_
        iterate 2 refine va ?_
        refine ag (ae (af (aa ?_)))
        refine vm ?_
        refine ar (aw r4 (Ky _ gr _ _ A40 c40 (nR (nR (iS i l).2.1)) aJ rj)) ?_
        rintro v w203 ⟨rfl,⟨A45,c45,WZ,UY⟩,ES⟩
        have SF:=ES.size
        replace aH:=aH.gr ES
        replace ga:=ga.gr ES
        replace s8:=VR.gr s8 ES (fun _ e=>by cases e;omega)
        replace hK:=Kp.tg hK ES (by first|(left;simp;done)|(right;omega))
        have aJ:=WZ
        have hl45:=iN (nR (nR (iS i l).2.1))
        refine vm ?_
        iterate 2 refine vx ?_
        iterate 2 refine va ?_
        refine ag (ae (af (aa ?_)))
        refine vm ?_
        refine ar (aw xL (Zc _ gr _ _ A45 c45 (nR (nR (nR (iS i l).2.1))) aJ UY (by omega) (by omega))) ?_
        rintro v w204 ⟨B50,d50,rfl,BQ,⟨A50,c50,WY,ui⟩,Ij⟩
        replace aH:=aH.gr Ij
        replace ga:=ga.gr Ij
        replace s8:=VR.gr s8 Ij (fun _ e=>by cases e;omega)
        replace hK:=Kp.tg hK Ij (by first|(left;simp;done)|(right;omega))
        have aJ:=WY
        have HS:=fun g e=>Own.lt BQ (g:=g) e
        refine vm ?_
        iterate 2 refine vx ?_
        iterate 2 refine va ?_
        refine ag (ae (af (af (aa ?_))))
        refine vm ?_
        refine ab (bS) ?_
        refine aG (d:=54) (fun Ct=>?_) (fun Ct=>?_)
        · have BX:iK (iS i l).2.1=false:=by rw[(m9 ng vw).1,DQ Ct];rfl
          refine vm ?_
          iterate 2 refine aA ?_
          refine ab (ay) ?_
          refine vm ?_
          iterate 2 refine aA ?_
          refine ab (ay) ?_
          refine ag (ae ?_)
          refine aR ?_
          refine af (aa ?_)
          refine va ?_
          refine ag (ae (aE (az (aQ (az (az (aQ (az ?_))))))))
          refine aY ?_
          first
            |exact⟨by rw[ep],hK,fun _=>⟨xs,GI,ga,s8,aH,Ai,ci,aJ,tf⟩⟩
            | (refine ⟨?_, hK, fun h => ?_⟩
               · rw[ir l (k:=i+1) (n:=x.items.length) (by omega) (by rw[iS,BX];simp)]
               · rw[ir l (k:=i+1) (n:=x.items.length) (by omega) (by rw[iS,BX];simp)] at h;cases h)
        · refine vm ?_
          refine aj (aF) ?_
          refine aj (bS) ?_
          refine aG (d:=57) (fun Yk=>?_) (fun Yk=>?_)
          · have BX:iK (iS i l).2.1=false:=by rw[(m9 ng vw).1,DQ Yk,Bool.and_false];rfl
            refine ab (ap) ?_
            refine vm ?_
            iterate 2 refine aA ?_
            refine ab (ay) ?_
            refine ag (ae ?_)
            refine aR ?_
            refine af (aa ?_)
            refine va ?_
            refine ag (ae (aE (az (aQ (az (az (aQ (az ?_))))))))
            refine aY ?_
            first
              |exact⟨by rw[ep],hK,fun _=>⟨xs,GI,ga,s8,aH,Ai,ci,aJ,tf⟩⟩
              | (refine ⟨?_, hK, fun h => ?_⟩
                 · rw[ir l (k:=i+1) (n:=x.items.length) (by omega) (by rw[iS,BX];simp)]
                 · rw[ir l (k:=i+1) (n:=x.items.length) (by omega) (by rw[iS,BX];simp)] at h;cases h)
          · refine ab (ap) ?_
            refine vm ?_
            refine aj (aF) ?_
            refine aj (bS) ?_
            refine ab (ap) ?_
            refine ag (ae ?_)
            refine aL (fun iD=>?_) (fun iD=>?_)
            · have BX:iK (iS i l).2.1=false:=by rw[(m9 ng vw).1,NB iD,Bool.and_false]
              refine af (aa ?_)
              refine va ?_
              refine ag (ae (aE (az (aQ (az (az (aQ (az ?_))))))))
              refine aY ?_
              first
                |exact⟨by rw[ep],hK,fun _=>⟨xs,GI,ga,s8,aH,Ai,ci,aJ,tf⟩⟩
                | (refine ⟨?_, hK, fun h => ?_⟩
                   · rw[ir l (k:=i+1) (n:=x.items.length) (by omega) (by rw[iS,BX];simp)]
                   · rw[ir l (k:=i+1) (n:=x.items.length) (by omega) (by rw[iS,BX];simp)] at h;cases h)
            · refine aS (ae (aa ?_))
              iterate 2 refine vm ?_
              refine ab (bv Tryz.underlying36 Tryz.underlying78 (hm:=kU)) ?_
              iterate 3 refine vm ?_
              refine ab (bi tD Kq) ?_
              refine vn ?_
              refine aB (wi (a:=xs.flatMap itc) (b:=itc zT) (c:=(List.replicate (x.items.length -(i+1)) zT).flatMap itc) (vs:=itc (⟨⟨(↑(nV (iS i l).2.1):Int),bV (nR (nR (nR (iS i l).2.1))),nV (nR (iS i l).2.1),nV (nR (nR (iS i l).2.1))⟩,B50,d50⟩:IT)) x7 rfl rfl (by simp[itc,Value.oneCell']) ga (by rw[←q9,←show x.items.length - i=(x.items.length -(i+1))+1 by omega]) (by rw[oF,Ac];omega) rfl) ?_
              rintro _ w205 ⟨cy,ba⟩
              replace aH:=aH.gr ba
              replace s8:=VR.gr s8 ba (fun _ e=>by cases e;omega)
              replace hK:=Kp.tg hK ba (by first|(left;simp;done)|(right;omega))
              replace aJ:=aJ.gr ba
              replace ui:=ui.gr ba
              replace BQ:=Own.gr BQ ba (by first|exact .inl rfl|(right;intro e;first|(have:=HS _ e;omega)|(have:=Own.lt BQ e;omega)|exact aT BQ ga (by decide) e))
              replace ga:=cy
              refine ag (bb (ae (aa ?_)))
              refine ab (bH) ?_
              refine vm ?_
              refine ag ?_
              have LR:=(m9 ng vw)
              have VW:iK (iS i l).2.1=true:=by rw[LR.1,Jo Ct,Jo Yk,Sl iD];rfl
              have UD:vals (xs++[(⟨⟨(↑(nV (iS i l).2.1):Int),bV (nR (nR (nR (iS i l).2.1))),nV (nR (iS i l).2.1),nV (nR (nR (iS i l).2.1))⟩,B50,d50⟩:IT)])=(iS (i+1) l).1:=by rw[qB,GI,iS,LR.2.1]
              have Wd:(xs++[(⟨⟨(↑(nV (iS i l).2.1):Int),bV (nR (nR (nR (iS i l).2.1))),nV (nR (iS i l).2.1),nV (nR (nR (iS i l).2.1))⟩,B50,d50⟩:IT)]).length=i+1:=by rw[List.length_append,Ac];rfl
              have Wc:(iS (i+1) l).2.2=true:=by rw[iS,ep,VW];rfl
              have QE:(iS (i+1) l).2.1=(bR (nR (nR (nR (iS i l).2.1)))):=LR.2.2
              have Wb:Blk w205 gr 178 [.bool true,.slice A50 (iS (i+1) l).2.1.length c50]:=by rw[QE];exact aJ
              have Wa:RdB w205 lo hi A50 c50 (iS (i+1) l).2.1:=by rw[QE];exact ui
              have V8:Blk w205 ge 80 (kc (xs++[(⟨⟨(↑(nV (iS i l).2.1):Int),bV (nR (nR (nR (iS i l).2.1))),nV (nR (iS i l).2.1),nV (nR (nR (iS i l).2.1))⟩,B50,d50⟩:IT)]) (x.items.length -(i+1))):=by rw[s7];exact ga
              have V7:VR w205 w.heap.size (xs++[(⟨⟨(↑(nV (iS i l).2.1):Int),bV (nR (nR (nR (iS i l).2.1))),nV (nR (iS i l).2.1),nV (nR (nR (iS i l).2.1))⟩,B50,d50⟩:IT)]):=VR.add s8 (x:=(⟨⟨(↑(nV (iS i l).2.1):Int),bV (nR (nR (nR (iS i l).2.1))),nV (nR (iS i l).2.1),nV (nR (nR (iS i l).2.1))⟩,B50,d50⟩:IT)) ((OwnB.rd BQ).mono (by omega) (Nat.le_refl _))
              refine cB ((i+1,xs++[(⟨⟨(↑(nV (iS i l).2.1):Int),bV (nR (nR (nR (iS i l).2.1))),nV (nR (iS i l).2.1),nV (nR (nR (iS i l).2.1))⟩,B50,d50⟩:IT)])) (by show x.items.length -(i+1)<x.items.length - i;omega) (⟨(by show i+1≤_;omega),Wd,UD,Wc,⟨A50,c50,Wb,Wa⟩,aH,V8,V7,hK⟩)
      · have vw:nV (iS i l).2.1=0:=by omega
        refine aS (bb (ae (aa ?_)))
        refine ab (bH) ?_
        refine vm ?_
        refine ag ?_
        have LR:=tZ ng vw
        have VW:iK (iS i l).2.1=true:=LR.1
        have UD:vals (xs++[zT])=(iS (i+1) l).1:=by rw[qB,GI,iS,LR.2.1];rfl
        have Wd:(xs++[zT]).length=i+1:=by rw[List.length_append,Ac];rfl
        have Wc:(iS (i+1) l).2.2=true:=by rw[iS,ep,VW];rfl
        have QE:(iS (i+1) l).2.1=(nR (iS i l).2.1):=LR.2.2
        have Wb:Blk w1 gr 178 [.bool true,.slice A25 (iS (i+1) l).2.1.length c25]:=by rw[QE];exact aJ
        have Wa:RdB w1 lo hi A25 c25 (iS (i+1) l).2.1:=by rw[QE];exact iQ
        have V8:Blk w1 ge 80 (kc (xs++[zT]) (x.items.length -(i+1))):=by rw[s7,←q9,←show x.items.length - i=(x.items.length -(i+1))+1 from by omega];exact ga
        have V7:VR w1 w.heap.size (xs++[zT]):=VR.add s8 (x:=zT) (RdB.nil _ _ _)
        refine cB ((i+1,xs++[zT])) (by show x.items.length -(i+1)<x.items.length - i;omega) (⟨(by show i+1≤_;omega),Wd,UD,Wc,⟨A25,c25,Wb,Wa⟩,aH,V8,V7,hK⟩)
  · have pr:i=x.items.length:=by omega
    subst pr
    rw[Nat.sub_self,show kc xs 0=xs.flatMap itc from List.append_nil _] at ga
    refine cW (bx (bx (ce (ae (af (aa ?_))))))
    refine va ?_
    refine ag (ae (aE ?_))
    refine aY ?_
    first
      |exact⟨by rw[ep],hK,fun _=>⟨xs,GI,ga,s8,aH,Ai,ci,aJ,tf⟩⟩
      | (refine ⟨?_, hK, fun h => ?_⟩
         · rw[ir l (k:=i+1) (n:=x.items.length) (by omega) (by rw[iS,BX];simp)]
         · rw[ir l (k:=i+1) (n:=x.items.length) (by omega) (by rw[iS,BX];simp)] at h;cases h)
theorem Yt (w:World) (gr lo hi:Nat) (A:Option Addr) (c:Nat) (l:List UInt8) (aJ:Blk w gr 178 [.bool true,.slice A l.length c]) (hr:RdB w lo hi A c l) (fT:gr<lo∨hi≤gr) (bI:l.length≤140737488355328) (gx:Nat) (x:Rsp) (X:Option Addr) (cx:Nat) (VE:x.nums=[]) (aH:Blk w gx 43 (b9 x X cx none 0)) (eB:gx≠gr) (gP:gx<lo∨hi≤gx) (fP:hi≤w.heap.size):
  Fn Tryz.prog 142 #[(.pointer (some ⟨gr,0,none⟩)),(.pointer (some ⟨gx,0,none⟩))] w (fun v w'=>v=.bool (uF l (nV l))∧Kp [gx,gr] w w'∧(uF l (nV l)=true→∃N cn,Blk w' gx 43 (b9 {x with nums:=(uS (nV l) (nR l)).1} X cx N cn)∧Own w' w.heap.size 36 1 N (nV l) cn ((uS (nV l) (nR l)).1.flatMap nuc)∧RdrAt8 w' gr lo hi (uS (nV l) (nR l)).2.1)):=by
 have hK:=Kp.refl [gx,gr] w
 have lj:=aH.lt
 have md:=aJ.lt
 replace aH:Blk w gx 43 (b9 {x with nums:=[]} X cx none 0):=by rw[show{x with nums:=[]}=x from by rw[←VE]];exact aH
 refine aO (args:=[(.pointer (some ⟨gr,0,none⟩)),(.pointer (some ⟨gx,0,none⟩))]) Tryz.func142 ?_
 refine af (aa ?_)
 refine va ?_
 refine ag (ae (af (aa ?_)))
 refine vm ?_
 refine ar (aw r5 (lA _ gr _ _ A c l aJ hr 64)) ?_
 rintro v w1 ⟨rfl,⟨A12,c12,W3,wS⟩,Il⟩
 replace aH:=aH.gr Il
 replace hK:=Kp.tg hK Il (by first|(left;simp;done)|(right;omega))
 have aJ:=W3
 have LO:=iN l
 have hv12:=oB l
 refine vm ?_
 iterate 2 refine vx ?_
 refine aN (d:=14) rfl (v':=(.bool (decide (uF l 0=true)))) (by show Value.bool (rK 64 l)=_;unfold uF;rw[show(uS 0 (nR l)).2.2=true from rfl,Bool.and_true,Bool.decide_eq_true]) ?_
 iterate 2 refine va ?_
 refine ag (ae (af (af (aa ?_))))
 refine va ?_
 refine ag (ae (a9 ?_))
 refine cU (σ:=Nat×Option Addr×Nat) (fun s=>nV l - s.1) (fun s=>[(0,.pointer (some ⟨gr,0,none⟩)),(1,.pointer (some ⟨gx,0,none⟩)),(5,.int .u64 (nV l:Int)),(6,.bool (decide (uF l s.1=true))),(7,.int .u64 (s.1:Int))]) (fun s w'=>s.1≤nV l∧RdrAt8 w' gr lo hi (uS s.1 (nR l)).2.1∧Blk w' gx 43 (b9 {x with nums:=(uS s.1 (nR l)).1} X cx s.2.1 s.2.2)∧Own w' w.heap.size 36 1 s.2.1 s.1 s.2.2 ((uS s.1 (nR l)).1.flatMap nuc)∧Kp [gx,gr] w w') ((0,none,0)) (⟨Nat.zero_le _,⟨A12,c12,aJ,wS⟩,aH,Own.nil_ _ _ _ _,hK⟩) ?_ (hL:=⟨rfl,rfl,rfl,rfl,rfl,trivial⟩)
 rintro⟨i,Ni,di⟩ wq ⟨nh,⟨Ai,ci,aJ,tf⟩,aH,qn,hK⟩
 show WC _ _ _ _ [(0,(.pointer (some ⟨gr,0,none⟩))),(1,(.pointer (some ⟨gx,0,none⟩))),(5,(.int .u64 (↑(nV l):Int))),(6,(.bool (decide (uF l i=true)))),(7,(.int .u64 (↑i:Int)))] _
 simp only at nh
 replace tf:RdB wq lo hi Ai ci (uS i (nR l)).2.1:=tf
 replace aJ:Blk wq gr 178 [.bool true,.slice Ai (uS i (nR l)).2.1.length ci]:=aJ
 have UK:=o8 (nR l) i
 replace aH:Blk wq gx 43 [.int .i64 x.op,.int .i64 x.err,.slice X x.items.length cx,.int .u64 (x.ver:Int),.int .i64 x.count,.slice Ni i di]:=by have h:Blk wq gx _ (b9 _ X cx Ni di):=aH;unfold b9 at h;rw[UK.1] at h;exact h
 replace qn:Own wq w.heap.size 36 1 Ni i di ((uS i (nR l)).1.flatMap nuc):=qn
 have KL:=hK.size
 have Qs:=UK.2
 have Lz:=fun g e=>Own.lt qn (g:=g) e
 refine af (af (aa ?_))
 iterate 2 refine vm ?_
 refine aG (d:=16) (fun pF=>?_) (fun pF=>?_)
 ·have IB:nV l≤64:=kH (by unfold uF at pF;rw[Bool.and_eq_true] at pF;exact pF.1)
  iterate 2 refine aj (aF) ?_
  refine aj (bz) ?_
  refine ab (ay) ?_
  refine ag (ae ?_)
  refine aL (fun dM=>?_) (fun dM=>?_)
  ·refine aS (ae (af (a9 (af (aa ?_)))))
   refine vm ?_
   refine ar (aw r4 (Ky _ gr _ _ Ai ci (uS i (nR l)).2.1 aJ tf)) ?_
   rintro v w2 ⟨rfl,⟨A25,c25,Mt,iQ⟩,sC⟩
   have Hx:=sC.size
   replace aH:=aH.gr sC
   replace qn:=Own.gr qn sC (by first|exact .inl rfl|(right;intro e;first|(have:=Lz _ e;omega)|(have:=Own.lt qn e;omega)|exact aT qn aH (by decide) e))
   replace hK:=Kp.tg hK sC (by first|(left;simp;done)|(right;omega))
   have aJ:=Mt
   refine vm ?_
   iterate 2 refine vx ?_
   iterate 2 refine va ?_
   refine ag (ae (aa ?_))
   iterate 2 refine vm ?_
   refine vn ?_
   refine ab (ah (off:=5) dI) ?_
   refine ab (ak iG aH) ?_
   refine vm ?_
   refine ar (j9 (os:=[.tmp 33]) sn rfl rfl rfl (by decide)) ?_
   rintro v w3 ⟨g34,rfl,Ml,mD,hl34,hu34,_⟩
   replace aH:=aH.ext mD
   replace qn:=Own.ext qn mD
   replace hK:=Kp.te hK mD
   replace aJ:=aJ.ext mD
   replace iQ:=iQ.ext mD
   refine ar (j1 sn rfl qn rfl (Blk.rd1 Ml) (by simp[Value.oneCell']) (by simp only[maxLen];omega)) ?_
   rintro v w4 ⟨A35,c35,rfl,gE,xf,Xf⟩
   have wT:=fun g e=>Own.lt qn (g:=g) e
   replace aH:=aH.gr xf (by first|(intro e;have:=wT _ e;omega)|exact aT qn aH (by decide))
   replace hK:=Kp.tr hK (Kp.of_gr xf) (by intro x hx;have:=wT x (Option.mem_toList.1 hx);right;omega)
   replace aJ:=aJ.gr xf (by first|(intro e;have:=wT _ e;omega)|exact aT qn aJ (by decide))
   replace iQ:=iQ.gr xf (fun g e=>by have:=wT g e;omega)
   have kK:=fun g e=>Own.lt gE (g:=g) e
   refine vm ?_
   refine ve ?_
   refine aN (d:=37) rfl (v':=(.bool (decide (uF l (i+1)=true)))) (by rw[GZ pF];unfold nK nE;rw[Value.bool.injEq,decide_eq_decide,decide_eq_true_eq];omega) ?_
   refine vn ?_
   refine ab (ah dI) ?_
   refine aB (aU G3 aH) ?_
   rintro _ w5 ⟨pE,fB⟩
   replace hK:=Kp.tg hK fB (by first|(left;simp;done)|(right;omega))
   replace aJ:=aJ.gr fB
   replace iQ:=iQ.gr fB
   replace gE:=Own.gr gE fB (by first|exact .inl rfl|(right;intro e;first|(have:=kK _ e;omega)|(have:=Own.lt gE e;omega)|exact aT gE aH (by decide) e))
   replace aH:=pE
   refine va ?_
   refine ag (bb (ae (aa ?_)))
   refine vm ?_
   refine ab (bH (hm:=sl)) ?_
   refine va ?_
   refine ag ?_
   refine cB ((i+1,A35,c35)) (by show nV l -(i+1)<nV l - i;omega) (⟨by show i+1≤_;omega,⟨A25,c25,aJ,iQ⟩,by show Blk _ gx _ (b9 _ X cx A35 c35);unfold b9;rw[(o8 (nR l) (i+1)).1];exact aH,by show Own _ _ _ _ _ _ _ ((uS (i+1) (nR l)).1.flatMap nuc);rw[show(uS (i+1) (nR l)).1=(uS i (nR l)).1++[nV (uS i (nR l)).2.1] from rfl,List.flatMap_append];exact gE,hK⟩) (hL:=⟨rfl,rfl,rfl,rfl,rfl,trivial⟩)
  ·have mz:i=nV l:=by omega
   subst mz
   refine cW (bx (bx (ce (ae (af (aa ?_))))))
   refine vm ?_
   refine va ?_
   refine ag (ae (aE ?_))
   refine aY ?_
   exact⟨by simp[pF],hK,fun _=>⟨Ni,di,by unfold b9;rw[UK.1];exact aH,qn,Ai,ci,aJ,tf⟩⟩
 ·have JJ:uF l (nV l)=false:=G0 nh (by simpa using pF)
  iterate 3 refine aA ?_
  refine ab (ap) ?_
  refine ag (ae ?_)
  refine aC ?_
  refine cW (bx (bx (ce (ae (af (aa ?_))))))
  refine vm ?_
  refine va ?_
  refine ag (ae (aE ?_))
  refine aY ?_
  exact⟨by rw[JJ];simp[pF],hK,fun h=>by rw[JJ] at h;cases h⟩
end Go.Proofs.YtiighkbehiddkaaGreat
namespace Go.Proofs.YtiighkbehiddkaaGreat
open Go.RowKit
set_option linter.unusedVariables false
set_option maxRecDepth 4000
theorem kT:jt Tryz.prog 162 2=true:=by kernel_rfl
theorem r6:aX Tryz.prog 111=true:=by kernel_rfl
theorem Gl:aX Tryz.prog 112=true:=by kernel_rfl
theorem AN:aX Tryz.prog 113=true:=by kernel_rfl
theorem Sh:aX Tryz.prog 114=true:=by kernel_rfl
theorem JY:aX Tryz.prog 115=true:=by kernel_rfl
theorem Sg:aX Tryz.prog 116=true:=by kernel_rfl
theorem Sf:aX Tryz.prog 117=true:=by kernel_rfl
theorem s5:fj Tryz.prog 162=some [(0,1),(1,1)]:=by kernel_rfl
theorem ot:SliceTy Tryz.prog 155 162 2 16 (.agg #[.nilFunc,.nilFunc]):=iI Tryz.underlying155 rfl
theorem pT:(Tryz.prog.info? 162).map (·.size)=some 2:=by kernel_rfl
theorem kC:fV Tryz.prog 162=some (.agg #[.nilFunc,.nilFunc]):=by kernel_rfl
/-- A part: its letter; the functions that write and read it. -/
def ym (p:UInt8):Nat:=if p=118 then 130 else if p=99 then 133 else if p=111 then 135 else if p=105 then 137 else if p=109 then 139 else 141
def y9 (p:UInt8):Nat:=if p=118 then 132 else if p=99 then 134 else if p=111 then 136 else if p=105 then 138 else if p=109 then 140 else 142
def Dt (p:UInt8):List Value:=[.func (.func (ym p)) #[] #[],.func (.func (y9 p)) #[] #[]]
def So (ps:List UInt8):List Value:=ps.flatMap Dt
theorem Hg {op:Int} (h:op=1∨op=2∨op=3:=by omega):pl op=[118,99]∧kt op=true:=⟨if_pos h,decide_eq_true (by omega)⟩
theorem OK {op:Int} (h:op=4):pl op=[111,105]∧kt op=true:=by subst h;exact⟨rfl,rfl⟩
theorem OJ {op:Int} (h:op=5):pl op=[109,105]∧kt op=true:=by subst h;exact⟨rfl,rfl⟩
theorem OI {op:Int} (h:op=15):pl op=[110]∧kt op=true:=by subst h;exact⟨rfl,rfl⟩
theorem Kl {op:Int} (h1:¬(op=1∨op=2∨op=3)) (h2:¬op=4) (h3:¬op=5) (h4:¬op=15):pl op=[99]:=by unfold pl;rw[if_neg h1,if_neg h2,if_neg h3,if_neg h4]
theorem ox (op:Int):pl op=[118,99]∨pl op=[111,105]∨pl op=[109,105]∨pl op=[110]∨pl op=[99]:=by
 unfold pl
 repeat' split
 all_goals simp
theorem KA (w:World):
  Fn Tryz.prog 112 #[] w (fun v w'=>v=.agg #[.func (.func 130) #[] #[],.func (.func 132) #[] #[]]∧Ext w w'):=by
 have hE:=aP w
 refine aO (args:=[]) Tryz.func112 ?_
 refine af (aa ?_)
 refine ar (bc (cs:=[.nilFunc,.nilFunc]) kC) ?_
 rintro v w1 ⟨g0,rfl,gw,o4,CX,Pm⟩
 replace hE:=hE.tr o4
 refine ag (ae (af (aa ?_)))
 refine ab (bi (cs:=[(.func (.func 130) #[] #[]),(.func (.func 132) #[] #[])]) kC s5) ?_
 refine aB (aD (vs:=[(.func (.func 130) #[] #[]),(.func (.func 132) #[] #[])]) pT gw) ?_
 rintro _ w2 ⟨gY,dt⟩
 replace hE:=hE.gr dt
 replace gw:=gY
 refine ag (ae (aE ?_))
 refine bm (rs:=[.cell 0 162]) (vs:=[.agg #[(.func (.func 130) #[] #[]),(.func (.func 132) #[] #[])]]) rfl ⟨⟨_,_,[(.func (.func 130) #[] #[]),(.func (.func 132) #[] #[])],rfl,kT,gw,rfl⟩,trivial⟩ ?_
 exact⟨rfl,hE⟩
theorem Hq (w:World):
  Fn Tryz.prog 113 #[] w (fun v w'=>v=.agg #[.func (.func 133) #[] #[],.func (.func 134) #[] #[]]∧Ext w w'):=by
 have hE:=aP w
 refine aO (args:=[]) Tryz.func113 ?_
 refine af (aa ?_)
 refine ar (bc (cs:=[.nilFunc,.nilFunc]) kC) ?_
 rintro v w1 ⟨g0,rfl,gw,o4,CX,Pm⟩
 replace hE:=hE.tr o4
 refine ag (ae (af (aa ?_)))
 refine ab (bi (cs:=[(.func (.func 133) #[] #[]),(.func (.func 134) #[] #[])]) kC s5) ?_
 refine aB (aD (vs:=[(.func (.func 133) #[] #[]),(.func (.func 134) #[] #[])]) pT gw) ?_
 rintro _ w2 ⟨gY,dt⟩
 replace hE:=hE.gr dt
 replace gw:=gY
 refine ag (ae (aE ?_))
 refine bm (rs:=[.cell 0 162]) (vs:=[.agg #[(.func (.func 133) #[] #[]),(.func (.func 134) #[] #[])]]) rfl ⟨⟨_,_,[(.func (.func 133) #[] #[]),(.func (.func 134) #[] #[])],rfl,kT,gw,rfl⟩,trivial⟩ ?_
 exact⟨rfl,hE⟩
theorem Ub (w:World):
  Fn Tryz.prog 114 #[] w (fun v w'=>v=.agg #[.func (.func 135) #[] #[],.func (.func 136) #[] #[]]∧Ext w w'):=by
 have hE:=aP w
 refine aO (args:=[]) Tryz.func114 ?_
 refine af (aa ?_)
 refine ar (bc (cs:=[.nilFunc,.nilFunc]) kC) ?_
 rintro v w1 ⟨g0,rfl,gw,o4,CX,Pm⟩
 replace hE:=hE.tr o4
 refine ag (ae (af (aa ?_)))
 refine ab (bi (cs:=[(.func (.func 135) #[] #[]),(.func (.func 136) #[] #[])]) kC s5) ?_
 refine aB (aD (vs:=[(.func (.func 135) #[] #[]),(.func (.func 136) #[] #[])]) pT gw) ?_
 rintro _ w2 ⟨gY,dt⟩
 replace hE:=hE.gr dt
 replace gw:=gY
 refine ag (ae (aE ?_))
 refine bm (rs:=[.cell 0 162]) (vs:=[.agg #[(.func (.func 135) #[] #[]),(.func (.func 136) #[] #[])]]) rfl ⟨⟨_,_,[(.func (.func 135) #[] #[]),(.func (.func 136) #[] #[])],rfl,kT,gw,rfl⟩,trivial⟩ ?_
 exact⟨rfl,hE⟩
theorem O0 (w:World):
  Fn Tryz.prog 115 #[] w (fun v w'=>v=.agg #[.func (.func 137) #[] #[],.func (.func 138) #[] #[]]∧Ext w w'):=by
 have hE:=aP w
 refine aO (args:=[]) Tryz.func115 ?_
 refine af (aa ?_)
 refine ar (bc (cs:=[.nilFunc,.nilFunc]) kC) ?_
 rintro v w1 ⟨g0,rfl,gw,o4,CX,Pm⟩
 replace hE:=hE.tr o4
 refine ag (ae (af (aa ?_)))
 refine ab (bi (cs:=[(.func (.func 137) #[] #[]),(.func (.func 138) #[] #[])]) kC s5) ?_
 refine aB (aD (vs:=[(.func (.func 137) #[] #[]),(.func (.func 138) #[] #[])]) pT gw) ?_
 rintro _ w2 ⟨gY,dt⟩
 replace hE:=hE.gr dt
 replace gw:=gY
 refine ag (ae (aE ?_))
 refine bm (rs:=[.cell 0 162]) (vs:=[.agg #[(.func (.func 137) #[] #[]),(.func (.func 138) #[] #[])]]) rfl ⟨⟨_,_,[(.func (.func 137) #[] #[]),(.func (.func 138) #[] #[])],rfl,kT,gw,rfl⟩,trivial⟩ ?_
 exact⟨rfl,hE⟩
theorem Ud (w:World):
  Fn Tryz.prog 116 #[] w (fun v w'=>v=.agg #[.func (.func 139) #[] #[],.func (.func 140) #[] #[]]∧Ext w w'):=by
 have hE:=aP w
 refine aO (args:=[]) Tryz.func116 ?_
 refine af (aa ?_)
 refine ar (bc (cs:=[.nilFunc,.nilFunc]) kC) ?_
 rintro v w1 ⟨g0,rfl,gw,o4,CX,Pm⟩
 replace hE:=hE.tr o4
 refine ag (ae (af (aa ?_)))
 refine ab (bi (cs:=[(.func (.func 139) #[] #[]),(.func (.func 140) #[] #[])]) kC s5) ?_
 refine aB (aD (vs:=[(.func (.func 139) #[] #[]),(.func (.func 140) #[] #[])]) pT gw) ?_
 rintro _ w2 ⟨gY,dt⟩
 replace hE:=hE.gr dt
 replace gw:=gY
 refine ag (ae (aE ?_))
 refine bm (rs:=[.cell 0 162]) (vs:=[.agg #[(.func (.func 139) #[] #[]),(.func (.func 140) #[] #[])]]) rfl ⟨⟨_,_,[(.func (.func 139) #[] #[]),(.func (.func 140) #[] #[])],rfl,kT,gw,rfl⟩,trivial⟩ ?_
 exact⟨rfl,hE⟩
theorem Uc (w:World):
  Fn Tryz.prog 117 #[] w (fun v w'=>v=.agg #[.func (.func 141) #[] #[],.func (.func 142) #[] #[]]∧Ext w w'):=by
 have hE:=aP w
 refine aO (args:=[]) Tryz.func117 ?_
 refine af (aa ?_)
 refine ar (bc (cs:=[.nilFunc,.nilFunc]) kC) ?_
 rintro v w1 ⟨g0,rfl,gw,o4,CX,Pm⟩
 replace hE:=hE.tr o4
 refine ag (ae (af (aa ?_)))
 refine ab (bi (cs:=[(.func (.func 141) #[] #[]),(.func (.func 142) #[] #[])]) kC s5) ?_
 refine aB (aD (vs:=[(.func (.func 141) #[] #[]),(.func (.func 142) #[] #[])]) pT gw) ?_
 rintro _ w2 ⟨gY,dt⟩
 replace hE:=hE.gr dt
 replace gw:=gY
 refine ag (ae (aE ?_))
 refine bm (rs:=[.cell 0 162]) (vs:=[.agg #[(.func (.func 141) #[] #[]),(.func (.func 142) #[] #[])]]) rfl ⟨⟨_,_,[(.func (.func 141) #[] #[]),(.func (.func 142) #[] #[])],rfl,kT,gw,rfl⟩,trivial⟩ ?_
 exact⟨rfl,hE⟩
theorem l1 (w:World) (g n c:Nat):
  Fn Tryz.prog 111 #[(.slice (some ⟨g,0,none⟩) n c)] w (fun v w'=>v=.slice (some ⟨g,0,none⟩) n c∧w'=w):=by
 refine aO Tryz.func111 ?_
 refine af (aa ?_)
 refine va ?_
 refine ag (ae (af (aa ?_)))
 refine vm ?_
 refine va ?_
 refine ag (ae (aE ?_))
 refine aY ?_
 exact⟨rfl,rfl⟩
theorem lC (w:World) (op:Int):
  Fn Tryz.prog 91 #[(.int .i64 op)] w (fun v w'=>∃g,v=.tuple #[.slice (some ⟨g,0,none⟩) (pl op).length (pl op).length,.bool (kt op)]∧Blk w' g 162 (So (pl op))∧Ext w w'∧w.heap.size≤g):=by
 have hE:=aP w
 refine aO (args:=[(.int .i64 op)]) Tryz.func91 ?_
 refine af (aa ?_)
 iterate 2 refine va ?_
 refine ag (ae (af (af (aa ?_))))
 refine vm ?_
 refine ag (ae (a9 (af (af (aa ?_)))))
 refine ve ?_
 refine va ?_
 refine ag (ae ?_)
 refine aL (fun dM=>?_) (fun dM=>?_)
 ·refine aS (ae ?_)
  refine d6 rfl (decide_eq_true dM) ?_
  refine af (aa ?_)
  refine ar (aw Gl (KA _)) ?_
  rintro v w1 ⟨rfl,ii⟩
  replace hE:=hE.tr ii
  have rc:=ii.size
  refine ar (aw AN (Hq _)) ?_
  rintro v w2 ⟨rfl,cY⟩
  replace hE:=hE.tr cY
  have uc:=cY.size
  refine ar (eW (cs:=[.func (.func 130) #[] #[],.func (.func 132) #[] #[],.func (.func 133) #[] #[],.func (.func 134) #[] #[]]) ot rfl) ?_
  rintro v w3 ⟨g11,rfl,eP,dV,BW,BJ⟩
  replace hE:=hE.tr dV
  refine ab (aw r6 (l1 _ _ _ _)) ?_
  iterate 2 refine va ?_
  refine ag (ae (aE (aQ (az ?_))))
  refine cX ?_
  obtain⟨e1,e2⟩:=Hg (op:=op)
  refine⟨g11,?_,?_,hE,by omega⟩
  ·rw[e1,e2];rfl
  ·rw[e1];exact eP
 ·refine af (aa ?_)
  refine ve ?_
  refine va ?_
  refine ag (ae ?_)
  refine aL (fun eN=>?_) (fun eN=>?_)
  ·refine aS (ae ?_)
   refine d6 rfl (decide_eq_true eN) ?_
   refine af (aa ?_)
   refine ar (aw Gl (KA _)) ?_
   rintro v w201 ⟨rfl,ii⟩
   replace hE:=hE.tr ii
   have rc:=ii.size
   refine ar (aw AN (Hq _)) ?_
   rintro v w202 ⟨rfl,cY⟩
   replace hE:=hE.tr cY
   have uc:=cY.size
   refine ar (eW (cs:=[.func (.func 130) #[] #[],.func (.func 132) #[] #[],.func (.func 133) #[] #[],.func (.func 134) #[] #[]]) ot rfl) ?_
   rintro v w203 ⟨g11,rfl,eP,dV,BW,BJ⟩
   replace hE:=hE.tr dV
   refine ab (aw r6 (l1 _ _ _ _)) ?_
   iterate 2 refine va ?_
   refine ag (ae (aE (aQ (az ?_))))
   refine cX ?_
   obtain⟨e1,e2⟩:=Hg (op:=op)
   refine⟨g11,?_,?_,hE,by omega⟩
   ·rw[e1,e2];rfl
   ·rw[e1];exact eP
  ·refine aa ?_
   refine ve ?_
   refine va ?_
   refine ag (ae ?_)
   refine aL (fun e9=>?_) (fun e9=>?_)
   ·refine af (aa ?_)
    refine ar (aw Gl (KA _)) ?_
    rintro v w201 ⟨rfl,ii⟩
    replace hE:=hE.tr ii
    have rc:=ii.size
    refine ar (aw AN (Hq _)) ?_
    rintro v w202 ⟨rfl,cY⟩
    replace hE:=hE.tr cY
    have uc:=cY.size
    refine ar (eW (cs:=[.func (.func 130) #[] #[],.func (.func 132) #[] #[],.func (.func 133) #[] #[],.func (.func 134) #[] #[]]) ot rfl) ?_
    rintro v w203 ⟨g11,rfl,eP,dV,BW,BJ⟩
    replace hE:=hE.tr dV
    refine ab (aw r6 (l1 _ _ _ _)) ?_
    iterate 2 refine va ?_
    refine ag (ae (aE (aQ (az ?_))))
    refine cX ?_
    obtain⟨e1,e2⟩:=Hg (op:=op)
    refine⟨g11,?_,?_,hE,by omega⟩
    ·rw[e1,e2];rfl
    ·rw[e1];exact eP
   ·refine af (aa ?_)
    refine ve ?_
    refine va ?_
    refine ag (ae ?_)
    refine aL (fun iD=>?_) (fun iD=>?_)
    ·refine af (aa ?_)
     refine ar (aw Sh (Ub _)) ?_
     rintro v w201 ⟨rfl,jm⟩
     replace hE:=hE.tr jm
     have qi:=jm.size
     refine ar (aw JY (O0 _)) ?_
     rintro v w202 ⟨rfl,kB⟩
     replace hE:=hE.tr kB
     have qh:=kB.size
     refine ar (eW (cs:=[.func (.func 135) #[] #[],.func (.func 136) #[] #[],.func (.func 137) #[] #[],.func (.func 138) #[] #[]]) ot rfl) ?_
     rintro v w203 ⟨g17,rfl,Mq,jD,hl17,hu17⟩
     replace hE:=hE.tr jD
     refine ab (aw r6 (l1 _ _ _ _)) ?_
     iterate 2 refine va ?_
     refine ag (ae (aE (aQ (az ?_))))
     refine cX ?_
     obtain⟨e1,e2⟩:=OK (op:=op) (by omega)
     refine⟨g17,?_,?_,hE,by omega⟩
     ·rw[e1,e2];rfl
     ·rw[e1];exact Mq
    ·refine af (aa ?_)
     refine ve ?_
     refine va ?_
     refine ag (ae ?_)
     refine aL (fun ld=>?_) (fun ld=>?_)
     ·refine af (aa ?_)
      refine ar (aw Sg (Ud _)) ?_
      rintro v w201 ⟨rfl,pA⟩
      replace hE:=hE.tr pA
      have z6:=pA.size
      refine ar (aw JY (O0 _)) ?_
      rintro v w202 ⟨rfl,ij⟩
      replace hE:=hE.tr ij
      have HE:=ij.size
      refine ar (eW (cs:=[.func (.func 139) #[] #[],.func (.func 140) #[] #[],.func (.func 137) #[] #[],.func (.func 138) #[] #[]]) ot rfl) ?_
      rintro v w203 ⟨g23,rfl,Mp,yW,hl23,hu23⟩
      replace hE:=hE.tr yW
      refine ab (aw r6 (l1 _ _ _ _)) ?_
      iterate 2 refine va ?_
      refine ag (ae (aE (aQ (az ?_))))
      refine cX ?_
      obtain⟨e1,e2⟩:=OJ (op:=op) (by omega)
      refine⟨g23,?_,?_,hE,by omega⟩
      ·rw[e1,e2];rfl
      ·rw[e1];exact Mp
     ·refine af (aa ?_)
      refine ve ?_
      refine va ?_
      refine ag (ae ?_)
      refine aL (fun pC=>?_) (fun pC=>?_)
      ·refine af (aa ?_)
       refine ar (aw Sf (Uc _)) ?_
       rintro v w201 ⟨rfl,Cb⟩
       replace hE:=hE.tr Cb
       have S6:=Cb.size
       refine ar (eW (cs:=[.func (.func 141) #[] #[],.func (.func 142) #[] #[]]) ot rfl) ?_
       rintro v w202 ⟨g28,rfl,Mn,lO,Qw,hu28⟩
       replace hE:=hE.tr lO
       refine ab (aw r6 (l1 _ _ _ _)) ?_
       iterate 2 refine va ?_
       refine ag (ae (aE (aQ (az ?_))))
       refine cX ?_
       obtain⟨e1,e2⟩:=OI (op:=op) (by omega)
       refine⟨g28,?_,?_,hE,by omega⟩
       ·rw[e1,e2];rfl
       ·rw[e1];exact Mn
      ·refine aS (bb (ae (af (aa ?_))))
       refine ar (aw AN (Hq _)) ?_
       rintro v w201 ⟨rfl,qc⟩
       replace hE:=hE.tr qc
       have S4:=qc.size
       refine ar (eW (cs:=[.func (.func 133) #[] #[],.func (.func 134) #[] #[]]) ot rfl) ?_
       rintro v w202 ⟨g31,rfl,Fk,uC,Qv,hu31⟩
       replace hE:=hE.tr uC
       refine ab (aw r6 (l1 _ _ _ _)) ?_
       refine vm ?_
       refine ab (bw) ?_
       refine aG (d:=34) (fun h34=>?_) (fun h34=>?_)
       ·refine vm ?_
        refine aj (aF) ?_
        refine aj (bz) ?_
        refine ab (ay) ?_
        iterate 2 refine va ?_
        refine ag (ae (aE ?_))
        refine cX ?_
        have e1:=Kl (op:=op) (by omega) (by omega) (by omega) (by omega)
        refine⟨g31,?_,?_,hE,by omega⟩
        ·rw[e1];unfold kt;first|(rw[decide_eq_false (show¬(1≤op∧op≤15) by omega)];rfl)|(rw[show decide (1≤op∧op≤15)=decide (op<15) from by rw[decide_eq_decide];omega];rfl)
        ·rw[e1];exact Fk
       ·refine vm ?_
        iterate 2 refine aA ?_
        refine ab (ap) ?_
        iterate 2 refine va ?_
        refine ag (ae (aE ?_))
        refine cX ?_
        have e1:=Kl (op:=op) (by omega) (by omega) (by omega) (by omega)
        refine⟨g31,?_,?_,hE,by omega⟩
        ·rw[e1];unfold kt;first|(rw[decide_eq_false (show¬(1≤op∧op≤15) by omega)];rfl)|(rw[show decide (1≤op∧op≤15)=decide (op<15) from by rw[decide_eq_decide];omega];rfl)
        ·rw[e1];exact Fk
/-- Items that can be written over: none, or a block of one's own. -/
def RowI (w:World) (b:Nat) (X:Option Addr) (cx:Nat) (xs:List IT):Prop:=(X=none∧cx=0∧xs=[])∨∃ge,X=some ⟨ge,0,none⟩∧cx=xs.length∧cx≤16∧b≤ge∧Blk w ge 80 (xs.flatMap itc)
theorem RowI.ext {w w':World} {b cx:Nat} {X:Option Addr} {xs:List IT} (h:RowI w b X cx xs) (he:Ext w w'):RowI w' b X cx xs:=by
 rcases h with h|⟨ge,h1,h2,h5,h3,h4⟩
 ·exact .inl h
 ·exact .inr ⟨ge,h1,h2,h5,h3,h4.ext he⟩
theorem RowI.kp {w w':World} {gs:List Nat} {b cx:Nat} {X:Option Addr} {xs:List IT} (h:RowI w b X cx xs) (k:Kp gs w w') (hg:∀g∈gs,g<b):RowI w' b X cx xs:=by
 rcases h with h|⟨ge,h1,h2,h5,h3,h4⟩
 ·exact .inl h
 ·exact .inr ⟨ge,h1,h2,h5,h3,k.bk h4 (fun hm=>by have:=hg _ hm;omega)⟩
theorem VR.kp {w w':World} {gs:List Nat} {lo:Nat} {xs:List IT} (h:VR w lo xs) (k:Kp gs w w') (hg:∀g∈gs,g<lo):VR w' lo xs:=
 fun x hx=>(k.rd (h x hx) fun g hm=>.inl (hg g hm)).mono (Nat.le_refl _) k.size
theorem VR.mono {w:World} {lo lo':Nat} {xs:List IT} (h:VR w lo xs) (hl:lo'≤lo):VR w lo' xs:=fun x hx=>(h x hx).mono hl (Nat.le_refl _)
/-- A response that is being read: its block; what is written into rows from b on; fr: nothing but empty items so far. -/
def RspAt (w:World) (gx b:Nat) (x:Rsp) (fr:Bool):Prop:=
 ∃X cx N cn xs,Blk w gx 43 (b9 x X cx N cn)∧vals xs=x.items∧RowI w b X cx xs∧VR w b xs∧RdN w b w.heap.size N cn x.nums∧(fr=true→N=none∧cn=0∧x.nums=[]∧xs=List.replicate xs.length zT)
theorem RspAt.ext {w w':World} {gx b:Nat} {x:Rsp} {fr:Bool} (h:RspAt w gx b x fr) (he:Ext w w'):RspAt w' gx b x fr:=by
 obtain⟨X,cx,N,cn,xs,h1,h2,h3,h4,h5,h6⟩:=h
 exact⟨X,cx,N,cn,xs,h1.ext he,h2,h3.ext he,h4.ext he,(Rd.ext h5 he).mono (Nat.le_refl _) he.size,h6⟩
theorem RdrAt8.ext {w w':World} {g lo hi:Nat} {l:List UInt8} (h:RdrAt8 w g lo hi l) (he:Ext w w'):RdrAt8 w' g lo hi l:=by
 obtain⟨A,c,h1,h2⟩:=h;exact⟨A,c,h1.ext he,h2.ext he⟩
def gX (p:UInt8) (x:Rsp) (l:List UInt8):Rsp:=
 if p=118 then{x with ver:=nV l} else if p=99 then{x with count:=(nV l:Int)} else if p=111 then{x with items:=[zI]} else if p=105 then{x with items:=(iS x.items.length l).1}
 else if p=109 then{x with items:=List.replicate (nV l) zI} else{x with nums:=(uS (nV l) (nR l)).1}
def gR (p:UInt8) (x:Rsp) (l:List UInt8):List UInt8:=if p=118 then nR l else if p=99 then nR l else if p=111 then l else if p=105 then(iS x.items.length l).2.1 else if p=109 then nR l else(uS (nV l) (nR l)).2.1
def gK (p:UInt8) (x:Rsp) (l:List UInt8):Bool:=if p=118 then rK 18446744073709551615 l else if p=99 then rK 1099511627776 l else if p=111 then true else if p=105 then(iS x.items.length l).2.2 else if p=109 then rK 16 l&&decide (0<nV l) else uF l (nV l)
def gF (p:UInt8) (fr:Bool):Bool:=if p=118 then fr else if p=99 then fr else if p=111 then fr else if p=105 then false else if p=109 then fr else false
def RG (p:UInt8) (x:Rsp) (fr:Bool):Prop:=(p=105→fr=true∧x.items≠[]∧x.items.length≤16)∧(p=110→fr=true)
def zw (f:Nat) (p:UInt8):Prop:=∀(w0 w:World) (gx gr lo hi:Nat) (x:Rsp) (fr:Bool) (l:List UInt8),l.length≤140737488355328→Kp [gx,gr] w0 w→gx≠gr→(gx<lo∨hi≤gx)→(gr<lo∨hi≤gr)→gx<w0.heap.size→gr<w0.heap.size→hi≤w0.heap.size→
 RspAt w gx w0.heap.size x fr→RdrAt8 w gr lo hi l→RG p x fr→Fn Tryz.prog f #[.pointer (some ⟨gr,0,none⟩),.pointer (some ⟨gx,0,none⟩)] w (fun v w'=>v=.bool (gK p x l)∧Kp [gx,gr] w0 w'∧(gK p x l=true→RspAt w' gx w0.heap.size (gX p x l) (gF p fr)∧RdrAt8 w' gr lo hi (gR p x l)))
def RspOk (r:Rsp):Prop:=r.ver<18446744073709551616∧(∀x∈r.items,x.ver<18446744073709551616∧x.dead<18446744073709551616)∧(∀n∈r.nums,n<18446744073709551616)∧r.count≤9223372036854775807
def zv (f:Nat) (p:UInt8):Prop:=∀(w:World) (gb gx:Nat) (A:Option Addr) (c:Nat) (out:List UInt8) (b0:Nat),b0≤w.heap.size→Blk w gb 32 [.slice A out.length c]→OwnB w b0 5 A c out→out.length≤35184372088832→∀(r:Rsp) (xs:List IT),vals xs=r.items→∀(X:Option Addr) (cx:Nat) (N:Option Addr) (cn:Nat),Blk w gx 43 (b9 r X cx N cn)→gx≠gb→
 ∀(lo hi:Nat),RdI w lo hi X cx xs→RdN w lo hi N cn r.nums→(gb<lo∨hi≤gb)→hi≤w.heap.size→RspOk r→out.length+rsz r≤17592186044416→Fn Tryz.prog f #[.pointer (some ⟨gb,0,none⟩),.pointer (some ⟨gx,0,none⟩)] w (fun v w'=>v=.bool (okP r p)∧(∃A' c' o',Blk w' gb 32 [.slice A' (List.length o') c']∧OwnB w' b0 5 A' c' o'∧(okP r p=true→o'=out++putC r p))∧Gr w w' (some gb))
theorem Yx:zw 132 118:=by
 intro w0 w gx gr lo hi x fr l bI hK h1 h2 h3 h4 h5 h6 ⟨X,cx,N,cn,xs,hb,hv,If,vq,hn,hf⟩ ⟨A,c,Fi,hr⟩ _
 have hz:=hK.size
 refine(Yr w gr lo hi A c l Fi hr h3 bI gx x X cx N cn hb h1 h2 (by omega)).mono ?_
 rintro v w' ⟨rfl,hk,ep⟩
 refine⟨rfl,hK.tr hk (by simp),fun h=>?_⟩
 obtain⟨vA,uH⟩:=ep h
 exact⟨⟨X,cx,N,cn,xs,vA,hv,If.kp hk (by simp;omega),vq.kp hk (by simp;omega),(hk.rd hn (by simp;omega)).mono (Nat.le_refl _) hk.size,hf⟩,uH⟩
theorem YC:zw 134 99:=by
 intro w0 w gx gr lo hi x fr l bI hK h1 h2 h3 h4 h5 h6 ⟨X,cx,N,cn,xs,hb,hv,If,vq,hn,hf⟩ ⟨A,c,Fi,hr⟩ _
 have hz:=hK.size
 refine(Yw w gr lo hi A c l Fi hr h3 bI gx x X cx N cn hb h1 h2 (by omega)).mono ?_
 rintro v w' ⟨rfl,hk,ep⟩
 refine⟨rfl,hK.tr hk (by simp),fun h=>?_⟩
 obtain⟨vA,uH⟩:=ep h
 exact⟨⟨X,cx,N,cn,xs,vA,hv,If.kp hk (by simp;omega),vq.kp hk (by simp;omega),(hk.rd hn (by simp;omega)).mono (Nat.le_refl _) hk.size,hf⟩,uH⟩
theorem BH (n:Nat):kc [] n=(List.replicate n zT).flatMap itc:=rfl
theorem C6 (n:Nat):vals (List.replicate n zT)=List.replicate n zI:=by unfold vals;rw[List.map_replicate];rfl
theorem C5 (w:World) (b n:Nat):VR w b (List.replicate n zT):=fun x hx=>by rw[List.eq_of_mem_replicate hx];exact RdB.nil _ _ _
theorem Yy:zw 136 111:=by
 intro w0 w gx gr lo hi x fr l bI hK h1 h2 h3 h4 h5 h6 ⟨X,cx,N,cn,xs,hb,hv,If,vq,hn,hf⟩ ⟨A,c,Fi,hr⟩ _
 have hz:=hK.size
 refine(Ys w gr lo hi A c l Fi hr h3 bI gx x X cx N cn hb h1 h2 (by omega)).mono ?_
 rintro v w' ⟨rfl,hk,ep⟩
 refine⟨rfl,hK.tr hk (by simp),fun h=>?_⟩
 obtain⟨ge,vA,Q0,vy,uH⟩:=ep rfl
 exact⟨⟨some ⟨ge,0,none⟩,1,N,cn,[zT],vA,rfl,.inr ⟨ge,rfl,rfl,by decide,by omega,Q0⟩,C5 w' _ 1,(hk.rd hn (by simp;omega)).mono (Nat.le_refl _) hk.size,fun e=>⟨(hf e).1,(hf e).2.1,(hf e).2.2.1,rfl⟩⟩,uH⟩
theorem YA:zw 140 109:=by
 intro w0 w gx gr lo hi x fr l bI hK h1 h2 h3 h4 h5 h6 ⟨X,cx,N,cn,xs,hb,hv,If,vq,hn,hf⟩ ⟨A,c,Fi,hr⟩ _
 have hz:=hK.size
 refine(Yu w gr lo hi A c l Fi hr h3 bI gx x X cx N cn hb h1 h2 (by omega)).mono ?_
 rintro v w' ⟨rfl,hk,ep⟩
 refine⟨rfl,hK.tr hk (by simp),fun h=>?_⟩
 have pF:nV l≤16:=kH (by have h':(rK 16 l&&decide (0<nV l))=true:=h;rw[Bool.and_eq_true] at h';exact h'.1)
 obtain⟨ge,vA,Q0,vy,uH⟩:=ep h
 exact⟨⟨some ⟨ge,0,none⟩,nV l,N,cn,List.replicate (nV l) zT,vA,C6 _,.inr ⟨ge,rfl,List.length_replicate.symm,pF,by omega,Q0⟩,C5 w' _ _,(hk.rd hn (by simp;omega)).mono (Nat.le_refl _) hk.size,fun e=>⟨(hf e).1,(hf e).2.1,(hf e).2.2.1,by rw[List.length_replicate]⟩⟩,uH⟩
theorem YB:zw 138 105:=by
 intro w0 w gx gr lo hi x fr l bI hK h1 h2 h3 h4 h5 h6 ⟨X,cx,N,cn,xs,hb,hv,If,vq,hn,hf⟩ ⟨A,c,Fi,hr⟩ hp
 have hz:=hK.size
 obtain⟨GK,eB,pF⟩:=hp.1 rfl
 have Ac:xs.length=x.items.length:=by rw[←hv];exact(List.length_map ..).symm
 rcases If with⟨_,_,e⟩|⟨ge,rfl,rfl,WQ,NT,Q0⟩
 ·subst e;exact absurd hv.symm eB
 have WV:Blk w ge 80 (kc [] x.items.length):=by rw[BH,←Ac,←(hf GK).2.2.2];exact Q0
 refine(Yv w gr lo hi A c l Fi hr h3 bI gx ge x _ N cn hb WV h1 h2 (by omega) (by omega) (.inr (by omega)) (by omega) pF).mono ?_
 rintro v w' ⟨rfl,hk,ep⟩
 refine⟨rfl,hK.tr hk (by simp;omega),fun h=>?_⟩
 obtain⟨ys,KM,WU,hyr,Cf,uH⟩:=ep h
 have NL:ys.length=xs.length:=by
  have e:(vals ys).length=ys.length:=List.length_map ..
  rw[←e,KM,(lF l _).1,Ac]
 refine⟨⟨_,_,N,cn,ys,by unfold b9;rw[show(gX 105 x l).items.length=x.items.length from(lF l _).1];exact Cf,KM,.inr ⟨ge,rfl,NL.symm,WQ,NT,WU⟩,hyr.mono (by omega),?_,fun e=>by cases e⟩,uH⟩
 have p3:=(hf GK).2.2.1
 show RdN w' _ _ N cn x.nums
 rw[(hf GK).1,(hf GK).2.1,p3]
 exact Rd.nil _ _ _ _ _ _ (Nat.zero_le _)
theorem Yz:zw 142 110:=by
 intro w0 w gx gr lo hi x fr l bI hK h1 h2 h3 h4 h5 h6 ⟨X,cx,N,cn,xs,hb,hv,If,vq,hn,hf⟩ ⟨A,c,Fi,hr⟩ hp
 have hz:=hK.size
 obtain⟨rfl,rfl,VE,_⟩:=hf (hp.2 rfl)
 refine(Yt w gr lo hi A c l Fi hr h3 bI gx x X cx VE hb h1 h2 (by omega)).mono ?_
 rintro v w' ⟨rfl,hk,ep⟩
 refine⟨rfl,hK.tr hk (by simp),fun h=>?_⟩
 obtain⟨N,cn,vA,ho,uH⟩:=ep h
 refine⟨⟨X,cx,N,cn,xs,vA,hv,If.kp hk (by simp;omega),vq.kp hk (by simp;omega),?_,fun e=>by cases e⟩,uH⟩
 show Rd w' _ _ 1 N (uS (nV l) (nR l)).1.length cn _
 rw[(o8 (nR l) (nV l)).1]
 exact(Own.rd ho).mono (by omega) (Nat.le_refl _)
theorem TQ:zv 130 118:=fun w gb gx A c out b0 kf hb ho un r xs mq X cx N cn Ff eB lo hi hx hn wM fP h gf=>TI w gb gx A c out kf hb ho un r xs mq X cx N cn Ff eB lo hi hx hn wM fP h.1 h.2.1 h.2.2.1 gf
theorem TV:zv 133 99:=fun w gb gx A c out b0 kf hb ho un r xs mq X cx N cn Ff eB lo hi hx hn wM fP h gf=>TN w gb gx A c out kf hb ho un r xs mq X cx N cn Ff eB lo hi hx hn wM fP h.1 h.2.1 h.2.2.1 gf h.2.2.2
theorem TR:zv 135 111:=fun w gb gx A c out b0 kf hb ho un r xs mq X cx N cn Ff eB lo hi hx hn wM fP h gf=>TJ w gb gx A c out kf hb ho un r xs mq X cx N cn Ff eB lo hi hx hn wM fP h.1 h.2.1 h.2.2.1 gf
theorem TT:zv 139 109:=fun w gb gx A c out b0 kf hb ho un r xs mq X cx N cn Ff eB lo hi hx hn wM fP h gf=>TL w gb gx A c out kf hb ho un r xs mq X cx N cn Ff eB lo hi hx hn wM fP h.1 h.2.1 h.2.2.1 gf
theorem TS:zv 141 110:=fun w gb gx A c out b0 kf hb ho un r xs mq X cx N cn Ff eB lo hi hx hn wM fP h gf=>TK w gb gx A c out kf hb ho un r xs mq X cx N cn Ff eB lo hi hx hn wM fP h.1 h.2.1 h.2.2.1 gf
theorem TU:zv 137 105:=fun w gb gx A c out b0 kf hb ho un r xs mq X cx N cn Ff eB lo hi hx hn wM fP h gf=>TM w gb gx A c out kf hb ho un r xs mq X cx N cn Ff eB lo hi hx hn wM fP h.1 h.2.1 h.2.2.1 gf
theorem qN {op:Int} {p:UInt8} (h:p∈pl op):p=118∨p=99∨p=111∨p=105∨p=109∨p=110:=by
 rcases ox op with e|e|e|e|e<;>rw[e] at h<;>simp only[List.mem_cons,List.not_mem_nil,or_false] at h
 ·rcases h with rfl|rfl<;>simp
 ·rcases h with rfl|rfl<;>simp
 ·rcases h with rfl|rfl<;>simp
 ·subst h;simp
 ·subst h;simp
theorem FW {op:Int} {p:UInt8} (h:p∈pl op):zw (y9 p) p∧aX Tryz.prog (y9 p)=true:=by
 rcases qN h with rfl|rfl|rfl|rfl|rfl|rfl
 ·exact⟨Yx,by kernel_rfl⟩
 ·exact⟨YC,by kernel_rfl⟩
 ·exact⟨Yy,by kernel_rfl⟩
 ·exact⟨YB,by kernel_rfl⟩
 ·exact⟨YA,by kernel_rfl⟩
 ·exact⟨Yz,by kernel_rfl⟩
theorem Ds {op:Int} {p:UInt8} (h:p∈pl op):zv (ym p) p∧aX Tryz.prog (ym p)=true:=by
 rcases qN h with rfl|rfl|rfl|rfl|rfl|rfl
 ·exact⟨TQ,by kernel_rfl⟩
 ·exact⟨TV,by kernel_rfl⟩
 ·exact⟨TR,by kernel_rfl⟩
 ·exact⟨TU,by kernel_rfl⟩
 ·exact⟨TT,by kernel_rfl⟩
 ·exact⟨TS,by kernel_rfl⟩
end Go.Proofs.YtiighkbehiddkaaGreat
