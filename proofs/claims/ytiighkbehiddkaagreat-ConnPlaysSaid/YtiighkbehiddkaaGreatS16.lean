/-
 A response that comes as an argument, opened, with the sizes that the form keeps. No condition.
 Calls that come as an argument, opened. No condition.
-/
import Derived.Test.YtiighkbehiddkaaGreatS15
import Derived.Test.YtiighkbehiddkaaGreatRows
namespace Go.Proofs.YtiighkbehiddkaaGreat
set_option linter.unusedVariables false
open Go.ChangeShapes Go.WideShapes Go.ChangeAt Go.RowKit Go.Deep
set_option maxRecDepth 4000
section
variable {H:Type} {br:TypeId×Value→H} {P:Program} {W:World}
theorem rX {α:Type} {t e:TypeId} {size:Nat} {cs:List Value} (f:α→List Value) (Q:α→Prop) (ht:P.underlying t=some (.slice e)) (hc:P.cellsOf e=size) (GL:∀cs:List Value,CRw br P W e cs→∃a,cs=f a∧Q a) (h:CRw br P W t cs) (hs:0<size:=by decide):
  ∃A c xs,cs=[.slice A (List.length xs) c]∧RdR W 0 W.heap.size size f A c xs∧∀x∈xs,Q x:=by
 obtain⟨fuel,x,h,hw⟩:=h
 rcases open_slice ht h with⟨tj,_⟩|⟨a,len,cap,m,n,D,Pl,tj,_,hl,hm,hmm,rfl,hx⟩
 ·exact⟨none,0,[],tj,Rd.nil _ _ _ _ _ _ (Nat.zero_le _),by simp⟩
 ·have vy:len≤m:=by rw[hmm];split<;>omega
  obtain⟨xs,Ac,mq⟩:=zW (p:=fun i (y:α)=>W.cells? 0 (a.add (i*P.cellsOf e)) (P.cellsOf e)=some (f y)∧Q y) len (fun i hi=>by
   obtain⟨cs',h1,h2⟩:=hx i (by omega)
   obtain⟨y,e1,hy⟩:=GL cs' ⟨n,_,h2,fun k hk=>hw k (by
    have h3:D i∈(List.range len).map D:=List.mem_map.2 ⟨i,List.mem_range.2 hi,rfl⟩
    have:=mh h3 hk
    simp only[DataW.weights,ht,List.mem_cons,List.mem_append]
    exact .inr (.inl this))⟩
   exact⟨y,e1▸h1,hy⟩)
  rw[hc] at mq
  have NU:∀x∈xs,(f x).length=size:=fun x hx=>by
   obtain⟨i,hi⟩:=List.getElem?_of_mem hx
   exact(World.cells?_some (mq i x hi).1).2.1
  refine⟨some a,cap,xs,by rw[Ac];exact tj,?_,fun x hx=>by
   obtain⟨i,hi⟩:=List.getElem?_of_mem hx
   exact(mq i x hi).2⟩
  have mG:∀i x,xs[i]?=some x→∀j u,(f x)[j]?=some u→W.cell? ((a.add (i*size)).add j)=some u:=fun i x hi j u hu=>by
   have hj:=(List.getElem?_eq_some_iff.1 hu).1
   rw[NU x (List.mem_of_getElem? hi)] at hj
   rw[(World.cells?_some (mq i x hi).1).2.2 j hj]
   exact hu
  refine⟨by rw[Ac];exact hl,hm,?_,fun eB=>⟨a,rfl,Nat.zero_le _,?_,fun j u hu=>rQ NU mG hu⟩⟩
  ·have:∀ys:List α,(∀x∈ys,(f x).length=size)→(ys.flatMap f).length=ys.length*size:=by
    intro ys
    induction ys with
    |nil=>simp
    |cons y r ih=>intro h;rw[List.flatMap_cons,List.length_append,ih (fun x hx=>h x (List.mem_cons_of_mem _ hx)),h y (List.mem_cons_self ..),List.length_cons,Nat.succ_mul,Nat.add_comm]
   exact this xs NU
  ·have h0:∃y,xs[0]?=some y:=by
    cases xs with
    |nil=>exact absurd rfl eB
    |cons y _=>exact⟨y,rfl⟩
   obtain⟨y,hy⟩:=h0
   have hly:=NU y (List.mem_of_getElem? hy)
   have:=World.block_lt_of_cell? W _ (mG 0 y hy 0 ((f y)[0]'(by omega)) (List.getElem?_eq_getElem (by omega)))
   rw[Nat.zero_mul,i7,i7] at this
   exact this
end
theorem Ox:Tryz.prog.cellsOf 43=6:=by kernel_rfl
theorem OB:Tryz.prog.cellsOf 80=4:=by kernel_rfl
theorem Oy:Tryz.prog.cellsOf 34=1:=by kernel_rfl
theorem OC:Tryz.prog.cellsOf 29=1:=by kernel_rfl
theorem OA:Tryz.prog.cellsOf 40=1:=by kernel_rfl
theorem Kg:Tryz.prog.cellsOf 36=1:=by kernel_rfl
theorem Jn:Tryz.prog.cellsOf 3=1:=by kernel_rfl
theorem Oz:Tryz.prog.cellsOf 41=1:=by kernel_rfl
theorem TH:Tryz.prog.cellsOf 78=1:=by kernel_rfl
theorem OD:Tryz.prog.cellsOf 32=1:=by kernel_rfl
theorem TG:Tryz.prog.cellsOf 37=1:=by kernel_rfl
theorem OF:Tryz.prog.cellsOf 5=1:=by kernel_rfl
theorem OG:Tryz.prog.bytesOf 5=1:=by kernel_rfl
/-- What is known of an item that comes. -/
def Sn (W:World) (x:IT):Prop:=RdB W 0 W.heap.size x.2.1 x.2.2 x.1.value∧x.1.value.length≤140737488355328∧x.1.ver<18446744073709551616∧x.1.dead<18446744073709551616
theorem F7 {H:Type} {br:TypeId×Value→H} {W:World} {cs:List Value} (h:CRw br Tryz.prog W 80 cs):∃x:IT,cs=itc x∧Sn W x:=by
 obtain⟨hl,hf⟩:=od Tryz.underlying80 h
 rw[OB] at hl
 match cs,hl with
 |[c0,c1,c2,c3],_=>
  have k0:CRw br Tryz.prog W 78 (([c0,c1,c2,c3].drop 0).take (Tryz.prog.cellsOf 78)):=hf 0 _ rfl
  have k1:CRw br Tryz.prog W 32 (([c0,c1,c2,c3].drop 1).take (Tryz.prog.cellsOf 32)):=hf 1 _ rfl
  have k2:CRw br Tryz.prog W 36 (([c0,c1,c2,c3].drop 2).take (Tryz.prog.cellsOf 36)):=hf 2 _ rfl
  have k3:CRw br Tryz.prog W 37 (([c0,c1,c2,c3].drop 3).take (Tryz.prog.cellsOf 37)):=hf 3 _ rfl
  rw[TH] at k0
  rw[OD] at k1
  rw[Kg] at k2
  rw[TG] at k3
  obtain⟨m,e0,_,_⟩:=lY Tryz.underlying78 k0.cr
  obtain⟨V,cv,value,e1,hV,h1⟩:=tw Tryz.underlying32 Tryz.underlying5 OF OG k1
  obtain⟨ver,e2,h2⟩:=u4 Tryz.underlying36 k2.cr
  obtain⟨dead,e3,h3⟩:=u4 Tryz.underlying37 k3.cr
  cases e0;cases e1;cases e2;cases e3
  exact⟨(⟨m,value,ver,dead⟩,V,cv),rfl,hV,Nat.le_trans h1 (by decide),h2,h3⟩
theorem IR {H:Type} {br:TypeId×Value→H} {W:World} {cs:List Value} (hc:CRw br Tryz.prog W 43 cs):
  ∃(r:Rsp) (xs:List IT) (X:Option Addr) (cx:Nat) (N:Option Addr) (cn:Nat),cs=b9 r X cx N cn∧vals xs=r.items∧RdI W 0 W.heap.size X cx xs∧RdN W 0 W.heap.size N cn r.nums∧LawOk r∧-9223372036854775808≤r.op∧r.op≤9223372036854775807∧-9223372036854775808≤r.count:=by
 obtain⟨hl,hf⟩:=od Tryz.underlying43 hc
 rw[Ox] at hl
 match cs,hl with
 |[c0,c1,c2,c3,c4,c5],_=>
  have k0:CRw br Tryz.prog W 34 (([c0,c1,c2,c3,c4,c5].drop 0).take (Tryz.prog.cellsOf 34)):=hf 0 _ rfl
  have k1:CRw br Tryz.prog W 29 (([c0,c1,c2,c3,c4,c5].drop 1).take (Tryz.prog.cellsOf 29)):=hf 1 _ rfl
  have k2:CRw br Tryz.prog W 40 (([c0,c1,c2,c3,c4,c5].drop 2).take (Tryz.prog.cellsOf 40)):=hf 2 _ rfl
  have k3:CRw br Tryz.prog W 36 (([c0,c1,c2,c3,c4,c5].drop 3).take (Tryz.prog.cellsOf 36)):=hf 3 _ rfl
  have k4:CRw br Tryz.prog W 3 (([c0,c1,c2,c3,c4,c5].drop 4).take (Tryz.prog.cellsOf 3)):=hf 4 _ rfl
  have k5:CRw br Tryz.prog W 41 (([c0,c1,c2,c3,c4,c5].drop 5).take (Tryz.prog.cellsOf 41)):=hf 5 _ rfl
  rw[Oy] at k0
  rw[OC] at k1
  rw[OA] at k2
  rw[Kg] at k3
  rw[Jn] at k4
  rw[Oz] at k5
  obtain⟨op,e0,Vl,Vk⟩:=lY Tryz.underlying34 k0.cr
  obtain⟨err,e1,_,_⟩:=lY Tryz.underlying29 k1.cr
  obtain⟨X,cx,xs,e2,hX,h2⟩:=rX itc (Sn W) Tryz.underlying40 OB (fun cs h=>F7 h) k2
  obtain⟨ver,e3,h3⟩:=u4 Tryz.underlying36 k3.cr
  obtain⟨count,e4,dM,eN⟩:=lY Tryz.underlying3 k4.cr
  obtain⟨N,cn,ns,e5,hN,h5⟩:=rX nuc (fun n=>n<18446744073709551616) Tryz.underlying41 Kg (fun cs h=>u4 Tryz.underlying36 h.cr) k5
  have mu:(vals xs).length=xs.length:=List.length_map ..
  cases e0;cases e1;cases e2;cases e3;cases e4;cases e5
  refine⟨⟨op,err,vals xs,ver,count,ns⟩,xs,X,cx,N,cn,?_,rfl,⟨hX,fun x hx=>(h2 x hx).1⟩,hN,⟨⟨h3,?_,h5,eN⟩,?_⟩,Vl,Vk,dM⟩
  ·unfold b9;rw[mu]
  ·intro x hx
   obtain⟨y,hy,rfl⟩:=List.mem_map.1 hx
   exact(h2 y hy).2.2
  ·intro x hx
   obtain⟨y,hy,rfl⟩:=List.mem_map.1 hx
   exact(h2 y hy).2.1
end Go.Proofs.YtiighkbehiddkaaGreat
namespace Go.Proofs.YtiighkbehiddkaaGreat
set_option linter.unusedVariables false
open Go.ChangeShapes Go.WideShapes Go.ChangeAt Go.RowKit Go.Deep
set_option maxRecDepth 4000
theorem OE:Tryz.prog.cellsOf 50=9:=by kernel_rfl
theorem IS {H:Type} {br:TypeId×Value→H} {W:World} {cs:List Value} (h:CRw br Tryz.prog W 50 cs):∃x:AT,cs=GQ x∧AtOk W x:=by
 obtain⟨hl,hf⟩:=od Tryz.underlying50 h
 rw[OE] at hl
 match cs,hl with
 |[c0,c1,c2,c3,c4,c5,c6,c7,c8],_=>
  have k0:CRw br Tryz.prog W 3 (([c0,c1,c2,c3,c4,c5,c6,c7,c8].drop 0).take (Tryz.prog.cellsOf 3)):=hf 0 _ rfl
  have k1:CRw br Tryz.prog W 3 (([c0,c1,c2,c3,c4,c5,c6,c7,c8].drop 1).take (Tryz.prog.cellsOf 3)):=hf 1 _ rfl
  have k2:CRw br Tryz.prog W 32 (([c0,c1,c2,c3,c4,c5,c6,c7,c8].drop 2).take (Tryz.prog.cellsOf 32)):=hf 2 _ rfl
  have k3:CRw br Tryz.prog W 43 (([c0,c1,c2,c3,c4,c5,c6,c7,c8].drop 3).take (Tryz.prog.cellsOf 43)):=hf 3 _ rfl
  rw[Jn] at k0 k1
  rw[OD] at k2
  rw[Ox] at k3
  obtain⟨wh,e0,_,_⟩:=lY Tryz.underlying3 k0.cr
  obtain⟨n,e1,BU,kA⟩:=lY Tryz.underlying3 k1.cr
  obtain⟨D,cd,b,e2,hD,_⟩:=tw Tryz.underlying32 Tryz.underlying5 OF OG k2
  obtain⟨r,xs,X,cx,N,cn,e3,hv,hx,hn,ep,_⟩:=IR k3
  cases e0;cases e1;cases e2
  refine⟨⟨wh,n,D,cd,b,r,X,cx,xs,N,cn⟩,?_,⟨BU,kA,hD,hv,hx,hn,ep⟩⟩
  show[_,_,_,c3,c4,c5,c6,c7,c8]=[_,_,_]++b9 r X cx N cn
  rw[←e3]
  rfl
theorem CK {H:Type} {br:TypeId×Value→H} {W:World} {v:Value} {d:DataW H} (h:vi br Tryz.prog W 24 v d):
  ∃C cx xs,v=.slice C (List.length xs) cx∧RdR W 0 W.heap.size 9 GQ C cx xs∧∀x∈xs,AtOk W x:=by
 have hc:=Gw h
 obtain⟨A0,n0,c0,rfl,_⟩:=zl Tryz.underlying24 h
 obtain⟨C,cx,xs,e,hr,hq⟩:=rX GQ (AtOk W) Tryz.underlying24 OE (fun cs h=>IS h) hc
 have e2:(Value.slice A0 n0 c0)=.slice C xs.length cx:=(List.cons.inj e).1
 rw[e2]
 exact⟨C,cx,xs,rfl,hr,hq⟩
end Go.Proofs.YtiighkbehiddkaaGreat
