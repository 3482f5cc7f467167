/-
 The examples of layer 28.
 Responses, plainly: what Read answers is what Write writes. No program in sight. No condition.
 Responses, plainly: which ones Write writes. No program in sight. No condition.
 What ConnAnswers plays, plainly.
 The walk of ConnNone.
 The reference: needs, parts alone, allowed parts.
-/
import Derived.Test.YtiighkbehiddkaaGreatS10
namespace Go.Proofs.YtiighkbehiddkaaGreat
open Go.RowKit
set_option linter.unusedVariables false
set_option maxRecDepth 4000
theorem I6:aX Tryz.prog 11=true:=by kernel_rfl
theorem I3:aX Tryz.prog 19=true:=by kernel_rfl
theorem I2:aX Tryz.prog 21=true:=by kernel_rfl
theorem Nv:aX Tryz.prog 24=true:=by kernel_rfl
theorem Gj:aX Tryz.prog 25=true:=by kernel_rfl
theorem Nu:aX Tryz.prog 28=true:=by kernel_rfl
theorem I1:aX Tryz.prog 29=true:=by kernel_rfl
theorem sP:aX Tryz.prog 30=true:=by kernel_rfl
theorem RZ:aX Tryz.prog 32=true:=by kernel_rfl
theorem OL:fj Tryz.prog 23=some [(0,1),(1,1),(2,1)]:=by kernel_rfl
theorem TE:(Tryz.prog.info? 23).map (·.size)=some 3:=by kernel_rfl
theorem J2:fV Tryz.prog 23=some (.agg #[(.int .i64 0),(.int .i64 0),(.int .i64 0)]):=by kernel_rfl
def pZ:Rsp:=rspO 14 0
def O4:Cmd:=⟨4,[97],[],[],[],0,0,[],[],[]⟩
def DV:Cmd:=cmd0 14
def GH:Cn:=r3 24 64 16
def Sx:Cn:=(cT GH [1,14,3]).1
def KD:Cn:=(b8 Sx).1
def NI:Cn:=(b8 KD).1
def Sw:Cn:=(dG NI pZ).1
def Sv:Cn:=(b8 Sw).1
def O3:Cn:=(b8 Sv).1
def Su:Cn:=(cT O3 [4,1,97]).1
def Ht:Cn:=(b8 Su).1
def O2:Cn:=(dG Ht pZ).1
def Ur:List UInt8:=List.replicate 25 0
def DU:Cn:=(cT O2 Ur).1
def St:Cn:=(cT GH [0,18,1]).1
def Ss:Cn:=(b8 St).1
def Sr:Cn:=(b8 Ss).1
def Sq:Cn:=(b8 Sr).1
def NH:Cn:=(b8 Sq).1
def Sp:Cn:=(cT NH [1]).1
def kd7:Cn:=(b8 Sp).1
theorem kn1:((cT GH [1,14,3]).2.1:Int)=3∧(cT GH [1,14,3]).2.2=0:=by decide+kernel
theorem kn2:((b8 Sx).2:Int)=1:=by decide+kernel
theorem kn3:((b8 KD).2:Int)=3:=by decide+kernel
theorem kn4:NI.ph=2:=by decide+kernel
theorem kn5:(dG NI pZ).2=0:=by decide+kernel
theorem kn6:((b8 Sw).2:Int)=4:=by decide+kernel
theorem kn7:((b8 Sv).2:Int)=0:=by decide+kernel
theorem kn8:((cT O3 [4,1,97]).2.1:Int)=3∧(cT O3 [4,1,97]).2.2=0:=by decide+kernel
theorem kn9:((b8 Su).2:Int)=1:=by decide+kernel
theorem Uq:fe Ht 3=8:=by decide+kernel
theorem Up:(dG Ht pZ).2=2:=by decide+kernel
theorem Uo:((cT O2 Ur).2.1:Int)=24∧(cT O2 Ur).2.2=0:=by decide+kernel
theorem O1:jo DU.cl DU.held=24∧DU.out.length=(kr pZ).length:=by decide+kernel
theorem Un:((cT GH [0,18,1]).2.1:Int)=3∧(cT GH [0,18,1]).2.2=0:=by decide+kernel
theorem Um:((b8 St).2:Int)=2:=by decide+kernel
theorem Ul:((b8 Ss).2:Int)=4:=by decide+kernel
theorem Uk:((b8 Sr).2:Int)=2:=by decide+kernel
theorem Uj:((b8 Sq).2:Int)=4:=by decide+kernel
theorem Ui:NH.ph=4:=by decide+kernel
theorem Uh:(cT NH [1]).2.2=14:=by decide+kernel
theorem Ug:((b8 Sp).2:Int)=0:=by decide+kernel
theorem Uf:bX KD=DV∧fe KD 2=0:=by
 refine⟨Cmd.ext_iff'.2 ⟨?_,?_,?_,?_,?_,?_,?_,?_,?_,?_⟩,?_⟩<;>decide+kernel
theorem Ue:bX Ht=O4∧fe Ht 2=0:=by
 refine⟨Cmd.ext_iff'.2 ⟨?_,?_,?_,?_,?_,?_,?_,?_,?_,?_⟩,?_⟩<;>decide+kernel
set_option maxRecDepth 20000 in
set_option maxHeartbeats 4000000 in
theorem ji (w:World):
  Fn Tryz.prog 10 #[] w (fun v w'=>v=.bool true∧Ext w w'):=by
 have hE:=aP w
 refine aO (args:=[]) Tryz.func10 ?_
 refine af (aa ?_)
 refine va ?_
 refine ag (ae (af (aa ?_)))
 refine ab (bi (cs:=[(.int .i64 24),(.int .i64 64),(.int .i64 16)]) J2 OL) ?_
 refine ar (bc (cs:=[(.int .i64 0),(.int .i64 0),(.int .i64 0)]) J2) ?_
 rintro v w1 ⟨g1,rfl,au,dL,kM,ls⟩
 replace hE:=hE.tr dL
 refine aB (aD (vs:=[(.int .i64 24),(.int .i64 64),(.int .i64 16)]) TE au) ?_
 rintro _ w2 ⟨gY,dt⟩
 have nO:=dt.size
 replace hE:=hE.gr dt
 replace au:=gY
 refine ag (ae (af (aa ?_)))
 refine ab (aK (cs:=[(.int .i64 24),(.int .i64 64),(.int .i64 16)]) lb au) ?_
 refine ar (aw I6 (u5 _ 24 64 16 (by decide))) ?_
 rintro v w3 ⟨gn15,S15,a15,rfl,jn,Qy,jm⟩
 replace hE:=hE.tr jm
 replace au:=au.ext jm
 have qi:=jm.size
 obtain⟨L15,Qr⟩:∃n,n=w2.heap.size:=⟨_,rfl⟩
 obtain⟨H15,QH⟩:∃n,n=w3.heap.size:=⟨_,rfl⟩
 replace jn:Cnn w3 gn15 S15 a15 a15 GH:=jn
 have XL:∀x∈S15,L15≤x∧x<H15:=fun x hx=>⟨by rw[Qr];exact Qy x hx,by rw[QH];exact(jn.bnd.1 x hx).1⟩
 have qt:(∀x∈S15,x<w3.heap.size)∧a15≤w3.heap.size:=⟨fun x hx=>(jn.bnd.1 x hx).1,jn.bnd.2⟩
 refine vm ?_
 iterate 2 refine vx ?_
 iterate 2 refine va ?_
 refine ag (ae (af (aa ?_)))
 refine ab (aK (cs:=[(.int .i64 24),(.int .i64 64),(.int .i64 16)]) lb au) ?_
 refine ar (aw I6 (u5 _ 24 64 16 (by decide))) ?_
 rintro v w4 ⟨gn20,S20,a20,rfl,ec,ED,lP⟩
 replace hE:=hE.tr lP
 replace jn:=jn.ext lP
 have S8:=lP.size
 obtain⟨L20,Qq⟩:∃n,n=w3.heap.size:=⟨_,rfl⟩
 obtain⟨H20,QG⟩:∃n,n=w4.heap.size:=⟨_,rfl⟩
 replace ec:Cnn w4 gn20 S20 a20 a20 GH:=ec
 have rJ:∀x∈S20,L20≤x∧x<H20:=fun x hx=>⟨by rw[Qq];exact ED x hx,by rw[QG];exact(ec.bnd.1 x hx).1⟩
 have qr:(∀x∈S20,x<w4.heap.size)∧a20≤w4.heap.size:=⟨fun x hx=>(ec.bnd.1 x hx).1,ec.bnd.2⟩
 refine vm ?_
 iterate 2 refine vx ?_
 iterate 2 refine va ?_
 refine ag (ae (af (af (aa ?_))))
 refine vm ?_
 refine ab (dO Tryz.underlying28) ?_
 refine vm ?_
 refine aj (aF) ?_
 refine aj (bS) ?_
 refine ab (ap) ?_
 refine vm ?_
 refine aj (aF) ?_
 refine aj (dO Tryz.underlying28) ?_
 refine ab (ap) ?_
 refine vm ?_
 refine aj (aF) ?_
 refine aj (bS) ?_
 refine ab (ap) ?_
 refine ag (ae ?_)
 refine aC ?_
 refine aS (ae (af (aa ?_)))
 refine ab (bi (cs:=[(.int .i64 4),(.string (av [97])),(.slice none 0 0),(.slice none 0 0),(.slice none 0 0),(.int .u64 0),(.int .u64 0),(.string (av [])),(.string (av [])),(.string (av []))]) fl lf) ?_
 refine ab (bi (cs:=[(.int .i64 14),(.string (av [])),(.slice none 0 0),(.slice none 0 0),(.slice none 0 0),(.int .u64 0),(.int .u64 0),(.string (av [])),(.string (av [])),(.string (av []))]) fl lf) ?_
 refine ar (bc (cs:=[(.int .i64 0),(.string (av [])),(.slice none 0 0),(.slice none 0 0),(.slice none 0 0),(.int .u64 0),(.int .u64 0),(.string (av [])),(.string (av [])),(.string (av []))]) fl) ?_
 rintro v w5 ⟨g6,rfl,bp,lm,Ti,Te⟩
 replace hE:=hE.tr lm
 replace jn:=jn.ext lm
 replace ec:=ec.ext lm
 refine ar (bc (cs:=[(.int .i64 0),(.string (av [])),(.slice none 0 0),(.slice none 0 0),(.slice none 0 0),(.int .u64 0),(.int .u64 0),(.string (av [])),(.string (av [])),(.string (av []))]) fl) ?_
 rintro v w6 ⟨g7,rfl,be,eS,Ia,HL⟩
 replace hE:=hE.tr eS
 replace jn:=jn.ext eS
 replace ec:=ec.ext eS
 replace bp:=bp.ext eS
 refine aB (aD (vs:=[(.int .i64 4),(.string (av [97])),(.slice none 0 0),(.slice none 0 0),(.slice none 0 0),(.int .u64 0),(.int .u64 0),(.string (av [])),(.string (av [])),(.string (av []))]) fy bp) ?_
 rintro _ w7 ⟨Co,jw⟩
 have pn:=jw.size
 replace hE:=hE.gr jw
 replace jn:=jn.grf jw qt (by omega)
 replace ec:=ec.grf jw qr (by omega)
 replace be:=be.gr jw
 replace bp:=Co
 refine aB (aD (vs:=[(.int .i64 14),(.string (av [])),(.slice none 0 0),(.slice none 0 0),(.slice none 0 0),(.int .u64 0),(.int .u64 0),(.string (av [])),(.string (av [])),(.string (av []))]) fy be) ?_
 rintro _ w8 ⟨Iv,mB⟩
 have D1:=mB.size
 replace hE:=hE.gr mB
 replace jn:=jn.grf mB qt (by omega)
 replace ec:=ec.grf mB qr (by omega)
 replace bp:=bp.gr mB
 replace be:=Iv
 refine ag (ae (af (aa ?_)))
 refine ab (bi (cs:=[(.int .i64 14),(.int .i64 0),(.slice none 0 0),(.int .u64 0),(.int .i64 0),(.slice none 0 0)]) fQ j6) ?_
 refine ar (bc (cs:=[(.int .i64 0),(.int .i64 0),(.slice none 0 0),(.int .u64 0),(.int .i64 0),(.slice none 0 0)]) fQ) ?_
 rintro v w9 ⟨g8,rfl,cA,mg,NR,UL⟩
 replace hE:=hE.tr mg
 replace jn:=jn.ext mg
 replace ec:=ec.ext mg
 replace bp:=bp.ext mg
 replace be:=be.ext mg
 refine aB (aD (vs:=[(.int .i64 14),(.int .i64 0),(.slice none 0 0),(.int .u64 0),(.int .i64 0),(.slice none 0 0)]) fm cA) ?_
 rintro _ w10 ⟨FI,pw⟩
 have SK:=pw.size
 replace hE:=hE.gr pw
 replace jn:=jn.grf pw qt (by omega)
 replace ec:=ec.grf pw qr (by omega)
 replace bp:=bp.gr pw
 replace be:=be.gr pw
 replace cA:=FI
 refine ag (ae (af (af (aa ?_))))
 refine vm ?_
 obtain⟨B0,hB0⟩:∃n,n=w10.heap.size:=⟨_,rfl⟩
 have xr:∀x∈S15,((L15≤x∧x<H15)∨B0≤x):=fun x hx=>.inl (XL x hx)
 refine ar (dn (l:=[1,14,3]) cE (os:=[.const (.int .u8 1),.const (.int .u8 14),.const (.int .u8 3)])) ?_
 rintro v w11 ⟨A41,c41,rfl,Vx,rD⟩
 replace hE:=hE.tr rD
 replace jn:=jn.ext rD
 replace ec:=ec.ext rD
 replace bp:=bp.ext rD
 replace be:=be.ext rD
 replace cA:=cA.ext rD
 have HC:=rD.size
 refine ar (aw I1 (oC _ _ S15 a15 a15 GH jn 3 _ _ A41 c41 [1,14,3] (OwnB.rd Vx) (fun x hx=>by have h1:=xr x hx;have h2:=qt.1 x hx;omega) kn1)) ?_
 rintro v w12 ⟨rfl,Pz⟩
 obtain⟨S42,a42,b42,Mg,BZ,Xz,hab42⟩:=Pz
 replace Mg:Cnn w12 gn15 S42 a42 b42 Sx:=Mg
 have hz42:=BZ.size
 replace hE:=BZ.e0 hE (fun x hx=>by have:=xr x hx;omega)
 replace ec:=ec.kp BZ (fun x hx=>⟨fun h8=>by have h1:=xr x hx;have h2:=rJ x h8;omega,by have:=xr x hx;omega⟩)
 replace bp:=BZ.bk bp (fun hx=>by have:=xr _ hx;omega)
 replace be:=BZ.bk be (fun hx=>by have:=xr _ hx;omega)
 replace cA:=BZ.bk cA (fun hx=>by have:=xr _ hx;omega)
 have y2:∀x∈S42,((L15≤x∧x<H15)∨B0≤x):=fun x hx=>(Xz x hx).elim (fun h=>xr x h) (fun h=>.inr (by omega))
 refine ab (b6 (b:=true)) ?_
 refine vm ?_
 refine aj (aF) ?_
 refine bP (aw sP (fu _ _ S42 a42 b42 Sx Mg 1 (by decide+kernel) kn2)) ?_
 rintro v w13 ⟨rfl,Px⟩
 obtain⟨S46,a46,b46,Ce,BY,Xy,hab46⟩:=Px
 replace Ce:Cnn w13 gn15 S46 a46 b46 KD:=Ce
 have hz46:=BY.size
 replace hE:=BY.e0 hE (fun x hx=>by have:=y2 x hx;omega)
 replace ec:=ec.kp BY (fun x hx=>⟨fun h8=>by have h1:=y2 x hx;have h2:=rJ x h8;omega,by have:=y2 x hx;omega⟩)
 replace bp:=BY.bk bp (fun hx=>by have:=y2 _ hx;omega)
 replace be:=BY.bk be (fun hx=>by have:=y2 _ hx;omega)
 replace cA:=BY.bk cA (fun hx=>by have:=y2 _ hx;omega)
 have Cm:∀x∈S46,((L15≤x∧x<H15)∨B0≤x):=fun x hx=>(Xy x hx).elim (fun h=>y2 x h) (fun h=>.inr (by omega))
 refine aj (b6 (b:=true)) ?_
 refine ab (ap) ?_
 refine vm ?_
 refine aj (aF) ?_
 refine aj (aK (cs:=[(.int .i64 14),(.string (av [])),(.slice none 0 0),(.slice none 0 0),(.slice none 0 0),(.int .u64 0),(.int .u64 0),(.string (av [])),(.string (av [])),(.string (av []))]) cc be) ?_
 refine bP (aw RZ (s6 _ _ S46 a46 b46 KD Ce DV 0 0 none 0 none 0 none 0 Uf)) ?_
 rintro v w14 ⟨rfl,Ca⟩
 replace hE:=hE.tr Ca
 replace ec:=ec.ext Ca
 replace bp:=bp.ext Ca
 replace cA:=cA.ext Ca
 replace Ce:=Ce.ext Ca
 have SY:=Ca.size
 refine aj (b6 (b:=true)) ?_
 refine ab (ap) ?_
 refine vm ?_
 refine aj (aF) ?_
 refine bP (aw sP (fu _ _ S46 a46 b46 KD Ce 3 (by decide+kernel) kn3)) ?_
 rintro v w15 ⟨rfl,Pv⟩
 obtain⟨S57,a57,b57,Cd,EL,Xw,hab57⟩:=Pv
 replace Cd:Cnn w15 gn15 S57 a57 b57 NI:=Cd
 have hz57:=EL.size
 replace hE:=EL.e0 hE (fun x hx=>by have:=Cm x hx;omega)
 replace ec:=ec.kp EL (fun x hx=>⟨fun h8=>by have h1:=Cm x hx;have h2:=rJ x h8;omega,by have:=Cm x hx;omega⟩)
 replace bp:=EL.bk bp (fun hx=>by have:=Cm _ hx;omega)
 replace cA:=EL.bk cA (fun hx=>by have:=Cm _ hx;omega)
 have Cl:∀x∈S57,((L15≤x∧x<H15)∨B0≤x):=fun x hx=>(Xw x hx).elim (fun h=>Cm x h) (fun h=>.inr (by omega))
 refine aj (b6 (b:=true)) ?_
 refine ab (ap) ?_
 refine vm ?_
 refine aj (aF) ?_
 refine bP (aw Gj (oE _ _ S57 a57 b57 NI Cd)) ?_
 rintro v w16 ⟨rfl,B9⟩
 replace hE:=hE.tr B9
 replace ec:=ec.ext B9
 replace bp:=bp.ext B9
 replace cA:=cA.ext B9
 replace Cd:=Cd.ext B9
 have SV:=B9.size
 refine aN (d:=62) rfl (v':=(.int .i64 2)) (by rw[kn4];rfl) ?_
 refine aj (bS) ?_
 refine ab (ap) ?_
 refine ag (ae ?_)
 refine aC ?_
 refine aS (ae (af (af (aa ?_))))
 refine vm ?_
 refine ab (aK (cs:=[(.int .i64 14),(.int .i64 0),(.slice none 0 0),(.int .u64 0),(.int .i64 0),(.slice none 0 0)]) bZ cA) ?_
 refine ar (aw Nv (DS _ _ S57 a57 b57 NI Cd pZ [] rfl 0 0 none 0 none 0 (RdI.nil _ 0 0) (kF _ _) (sY _ _))) ?_
 rintro v w17 ⟨rfl,Pu⟩
 obtain⟨S67,a67,b67,Mf,EK,Xv,hab67⟩:=Pu
 replace Mf:Cnn w17 gn15 S67 a67 b67 Sw:=Mf
 have hz67:=EK.size
 replace hE:=EK.e0 hE (fun x hx=>by have:=Cl x hx;omega)
 replace ec:=ec.kp EK (fun x hx=>⟨fun h8=>by have h1:=Cl x hx;have h2:=rJ x h8;omega,by have:=Cl x hx;omega⟩)
 replace bp:=EK.bk bp (fun hx=>by have:=Cl _ hx;omega)
 replace cA:=EK.bk cA (fun hx=>by have:=Cl _ hx;omega)
 have Ck:∀x∈S67,((L15≤x∧x<H15)∨B0≤x):=fun x hx=>(Xv x hx).elim (fun h=>Cl x h) (fun h=>.inr (by omega))
 refine aN (d:=67) rfl (v':=(.int .i64 0)) (by rw[kn5];rfl) ?_
 refine ab (bS) ?_
 refine vm ?_
 refine aj (aF) ?_
 refine bP (aw sP (fu _ _ S67 a67 b67 Sw Mf 4 (by decide+kernel) kn6)) ?_
 rintro v w18 ⟨rfl,Pt⟩
 obtain⟨S71,a71,b71,Me,EJ,Xu,hab71⟩:=Pt
 replace Me:Cnn w18 gn15 S71 a71 b71 Sv:=Me
 have hz71:=EJ.size
 replace hE:=EJ.e0 hE (fun x hx=>by have:=Ck x hx;omega)
 replace ec:=ec.kp EJ (fun x hx=>⟨fun h8=>by have h1:=Ck x hx;have h2:=rJ x h8;omega,by have:=Ck x hx;omega⟩)
 replace bp:=EJ.bk bp (fun hx=>by have:=Ck _ hx;omega)
 replace cA:=EJ.bk cA (fun hx=>by have:=Ck _ hx;omega)
 have Cj:∀x∈S71,((L15≤x∧x<H15)∨B0≤x):=fun x hx=>(Xu x hx).elim (fun h=>Ck x h) (fun h=>.inr (by omega))
 refine aj (b6 (b:=true)) ?_
 refine ab (ap) ?_
 refine vm ?_
 refine aj (aF) ?_
 refine bP (aw sP (fu _ _ S71 a71 b71 Sv Me 0 (by decide+kernel) kn7)) ?_
 rintro v w19 ⟨rfl,Pr⟩
 obtain⟨S76,a76,b76,yX,EH,Xs,hab76⟩:=Pr
 replace yX:Cnn w19 gn15 S76 a76 b76 O3:=yX
 have hz76:=EH.size
 replace hE:=EH.e0 hE (fun x hx=>by have:=Cj x hx;omega)
 replace ec:=ec.kp EH (fun x hx=>⟨fun h8=>by have h1:=Cj x hx;have h2:=rJ x h8;omega,by have:=Cj x hx;omega⟩)
 replace bp:=EH.bk bp (fun hx=>by have:=Cj _ hx;omega)
 replace cA:=EH.bk cA (fun hx=>by have:=Cj _ hx;omega)
 have y1:∀x∈S76,((L15≤x∧x<H15)∨B0≤x):=fun x hx=>(Xs x hx).elim (fun h=>Cj x h) (fun h=>.inr (by omega))
 have IA:(∀x∈S76,x<w19.heap.size)∧b76≤w19.heap.size:=⟨fun x hx=>(yX.bnd.1 x hx).1,yX.bnd.2⟩
 refine aj (b6 (b:=true)) ?_
 refine ab (ap) ?_
 refine vm ?_
 refine aj (aF) ?_
 refine bP (dn (l:=[4,1,97]) cE (os:=[.const (.int .u8 4),.const (.int .u8 1),.const (.int .u8 97)])) ?_
 rintro v w20 ⟨A81,c81,rfl,uo,B8⟩
 replace hE:=hE.tr B8
 replace ec:=ec.ext B8
 replace bp:=bp.ext B8
 replace cA:=cA.ext B8
 replace yX:=yX.ext B8
 have SR:=B8.size
 refine bP (aw I1 (oC _ _ S76 a76 b76 O3 yX 3 _ _ A81 c81 [4,1,97] (OwnB.rd uo) (fun x hx=>by have h1:=y1 x hx;have h2:=IA.1 x hx;omega) kn8)) ?_
 rintro v w21 ⟨rfl,Pp⟩
 obtain⟨S82,a82,b82,Md,EG,Xr,hab82⟩:=Pp
 replace Md:Cnn w21 gn15 S82 a82 b82 Su:=Md
 have hz82:=EG.size
 replace hE:=EG.e0 hE (fun x hx=>by have:=y1 x hx;omega)
 replace ec:=ec.kp EG (fun x hx=>⟨fun h8=>by have h1:=y1 x hx;have h2:=rJ x h8;omega,by have:=y1 x hx;omega⟩)
 replace bp:=EG.bk bp (fun hx=>by have:=y1 _ hx;omega)
 replace cA:=EG.bk cA (fun hx=>by have:=y1 _ hx;omega)
 have Ci:∀x∈S82,((L15≤x∧x<H15)∨B0≤x):=fun x hx=>(Xr x hx).elim (fun h=>y1 x h) (fun h=>.inr (by omega))
 refine aj (b6 (b:=true)) ?_
 refine ab (ap) ?_
 refine vm ?_
 refine aj (aF) ?_
 refine bP (aw sP (fu _ _ S82 a82 b82 Su Md 1 (by decide+kernel) kn9)) ?_
 rintro v w22 ⟨rfl,Po⟩
 obtain⟨S87,a87,b87,uI,EF,Xq,hab87⟩:=Po
 replace uI:Cnn w22 gn15 S87 a87 b87 Ht:=uI
 have hz87:=EF.size
 replace hE:=EF.e0 hE (fun x hx=>by have:=Ci x hx;omega)
 replace ec:=ec.kp EF (fun x hx=>⟨fun h8=>by have h1:=Ci x hx;have h2:=rJ x h8;omega,by have:=Ci x hx;omega⟩)
 replace bp:=EF.bk bp (fun hx=>by have:=Ci _ hx;omega)
 replace cA:=EF.bk cA (fun hx=>by have:=Ci _ hx;omega)
 have FB:∀x∈S87,((L15≤x∧x<H15)∨B0≤x):=fun x hx=>(Xq x hx).elim (fun h=>Ci x h) (fun h=>.inr (by omega))
 refine aj (b6 (b:=true)) ?_
 refine ab (ap) ?_
 refine vm ?_
 refine aj (aF) ?_
 refine aj (aK (cs:=[(.int .i64 4),(.string (av [97])),(.slice none 0 0),(.slice none 0 0),(.slice none 0 0),(.int .u64 0),(.int .u64 0),(.string (av [])),(.string (av [])),(.string (av []))]) cc bp) ?_
 refine bP (aw RZ (s6 _ _ S87 a87 b87 Ht uI O4 0 0 none 0 none 0 none 0 Ue)) ?_
 rintro v w23 ⟨rfl,EY⟩
 replace hE:=hE.tr EY
 replace ec:=ec.ext EY
 replace cA:=cA.ext EY
 replace uI:=uI.ext EY
 have SN:=EY.size
 refine aj (b6 (b:=true)) ?_
 refine ab (ap) ?_
 refine ag (ae ?_)
 refine aC ?_
 refine aS (ae (af (aa ?_)))
 refine vm ?_
 refine ar (aw I3 (zY _ _ S87 a87 b87 Ht uI)) ?_
 rintro v w24 ⟨X98,cx98,N98,cn98,xs98,rfl,hv98,hx98,hn98,EX⟩
 replace hE:=hE.tr EX
 replace ec:=ec.ext EX
 replace cA:=cA.ext EX
 replace uI:=uI.ext EX
 have SM:=EX.size
 refine vm ?_
 iterate 2 refine vx ?_
 refine va ?_
 refine ag (ae (af (af (aa ?_))))
 refine vm ?_
 refine ab (aK (cs:=[(.int .i64 14),(.int .i64 0),(.slice none 0 0),(.int .u64 0),(.int .i64 0),(.slice none 0 0)]) bZ cA) ?_
 refine ar (aw Nv (DS _ _ S87 a87 b87 Ht uI pZ [] rfl 0 0 none 0 none 0 (RdI.nil _ 0 0) (kF _ _) (sY _ _))) ?_
 rintro v w25 ⟨rfl,Lb⟩
 obtain⟨S103,a103,b103,rI,Aw,Rj,Xd⟩:=Lb
 replace rI:Cnn w25 gn15 S103 a103 b103 O2:=rI
 have Zp:=Aw.size
 replace hE:=Aw.e0 hE (fun x hx=>by have:=FB x hx;omega)
 replace ec:=ec.kp Aw (fun x hx=>⟨fun h8=>by have h1:=FB x hx;have h2:=rJ x h8;omega,by have:=FB x hx;omega⟩)
 replace cA:=Aw.bk cA (fun hx=>by have:=FB _ hx;omega)
 have xt:∀x∈S103,((L15≤x∧x<H15)∨B0≤x):=fun x hx=>(Rj x hx).elim (fun h=>FB x h) (fun h=>.inr (by omega))
 have FP:(∀x∈S103,x<w25.heap.size)∧b103≤w25.heap.size:=⟨fun x hx=>(rI.bnd.1 x hx).1,rI.bnd.2⟩
 refine aN (d:=103) rfl (v':=(.int .i64 2)) (by rw[Up];rfl) ?_
 refine ab (bS) ?_
 refine vm ?_
 refine aj (aF) ?_
 refine aj (bS) ?_
 refine aN (d:=107) rfl (bf (by rw[Uq];decide)) ?_
 refine ab (ap) ?_
 refine vm ?_
 refine aj (aF) ?_
 refine bP (tV (n:=25) cE rfl rfl (by omega) (by omega)) ?_
 rintro v w26 ⟨A111,c111,rfl,Qd,xm⟩
 replace hE:=hE.tr xm
 replace ec:=ec.ext xm
 replace cA:=cA.ext xm
 replace rI:=rI.ext xm
 have Pe:=xm.size
 refine bP (aw I1 (oC _ _ S103 a103 b103 O2 rI 24 _ _ A111 c111 (List.replicate 25 0) (OwnB.rd Qd) (fun x hx=>by have h1:=xt x hx;have h2:=FP.1 x hx;omega) Uo)) ?_
 rintro v w27 ⟨rfl,K8⟩
 obtain⟨S112,a112,b112,Fe,Av,hS112,Xc⟩:=K8
 replace Fe:Cnn w27 gn15 S112 a112 b112 DU:=Fe
 have Zo:=Av.size
 replace hE:=Av.e0 hE (fun x hx=>by have:=xt x hx;omega)
 replace ec:=ec.kp Av (fun x hx=>⟨fun h8=>by have h1:=xt x hx;have h2:=rJ x h8;omega,by have:=xt x hx;omega⟩)
 replace cA:=Av.bk cA (fun hx=>by have:=xt _ hx;omega)
 refine aj (b6 (b:=true)) ?_
 refine ab (ap) ?_
 refine ag (ae ?_)
 refine aC ?_
 refine aS (ae (af (af (aa ?_))))
 refine vm ?_
 refine ar (aw I2 (qg _ _ S112 a112 b112 DU Fe)) ?_
 rintro v w28 ⟨rfl,Ax⟩
 replace hE:=hE.tr Ax
 replace ec:=ec.ext Ax
 replace cA:=cA.ext Ax
 have Pd:=Ax.size
 refine vm ?_
 iterate 2 refine vx ?_
 iterate 2 refine va ?_
 refine ag (ae (af (aa ?_)))
 refine vm ?_
 refine ab (bS) ?_
 refine aN (d:=121) rfl (bf (by rw[O1.1];decide)) ?_
 refine vm ?_
 refine aj (aF) ?_
 refine aj (aK (cs:=[(.int .i64 14),(.int .i64 0),(.slice none 0 0),(.int .u64 0),(.int .i64 0),(.slice none 0 0)]) bZ cA) ?_
 refine bP (aw Nu (mT _ pZ [] rfl 0 0 none 0 none 0 (RdI.nil _ 0 0) (Rd.nil _ _ _ _ _ _ (Nat.zero_le _)) (kF _ _) (sY _ _) (by decide) (by decide) (by decide) (by decide) (by decide) (fun x hx=>by cases hx))) ?_
 rintro v w29 ⟨A125,c125,rfl,ho125,E3⟩
 replace hE:=hE.tr E3
 replace ec:=ec.ext E3
 have Pc:=E3.size
 refine aj (bj Tryz.underlying32) ?_
 refine aj (bS) ?_
 refine aN (d:=127) rfl (bf (by rw[O1.2];exact fun q=>q rfl)) ?_
 refine ab (ap) ?_
 refine ag (ae ?_)
 refine aC ?_
 refine aS (ae (af (af (aa ?_))))
 refine vm ?_
 have MP:∀x∈S20,((L20≤x∧x<H20)∨B0≤x):=fun x hx=>.inl (rJ x hx)
 refine ar (dn (l:=[0,18,1]) cE (os:=[.const (.int .u8 0),.const (.int .u8 18),.const (.int .u8 1)])) ?_
 rintro v w30 ⟨A130,c130,rfl,jQ,E2⟩
 replace hE:=hE.tr E2
 replace ec:=ec.ext E2
 have Pb:=E2.size
 refine ar (aw I1 (oC _ _ S20 a20 a20 GH ec 3 _ _ A130 c130 [0,18,1] (OwnB.rd jQ) (fun x hx=>by have h1:=MP x hx;have h2:=qr.1 x hx;omega) Un)) ?_
 rintro v w31 ⟨rfl,K0⟩
 obtain⟨S131,a131,b131,Fc,JE,Rf,Xb⟩:=K0
 replace Fc:Cnn w31 gn20 S131 a131 b131 St:=Fc
 have Zm:=JE.size
 replace hE:=JE.e0 hE (fun x hx=>by have:=MP x hx;omega)
 have JU:∀x∈S131,((L20≤x∧x<H20)∨B0≤x):=fun x hx=>(Rf x hx).elim (fun h=>MP x h) (fun h=>.inr (by omega))
 refine ab (b6 (b:=true)) ?_
 refine vm ?_
 refine aj (aF) ?_
 refine bP (aw sP (fu _ _ S131 a131 b131 St Fc 2 (by decide+kernel) Um)) ?_
 rintro v w32 ⟨rfl,KZ⟩
 obtain⟨S135,a135,b135,Fb,JD,Re,Xa⟩:=KZ
 replace Fb:Cnn w32 gn20 S135 a135 b135 Ss:=Fb
 have Zl:=JD.size
 replace hE:=JD.e0 hE (fun x hx=>by have:=JU x hx;omega)
 have JT:∀x∈S135,((L20≤x∧x<H20)∨B0≤x):=fun x hx=>(Re x hx).elim (fun h=>JU x h) (fun h=>.inr (by omega))
 refine aj (b6 (b:=true)) ?_
 refine ab (ap) ?_
 refine vm ?_
 refine aj (aF) ?_
 refine bP (aw sP (fu _ _ S135 a135 b135 Ss Fb 4 (by decide+kernel) Ul)) ?_
 rintro v w33 ⟨rfl,KY⟩
 obtain⟨S140,a140,b140,Fa,JC,Rc,W9⟩:=KY
 replace Fa:Cnn w33 gn20 S140 a140 b140 Sr:=Fa
 have Zk:=JC.size
 replace hE:=JC.e0 hE (fun x hx=>by have:=JT x hx;omega)
 have JS:∀x∈S140,((L20≤x∧x<H20)∨B0≤x):=fun x hx=>(Rc x hx).elim (fun h=>JT x h) (fun h=>.inr (by omega))
 refine aj (b6 (b:=true)) ?_
 refine ab (ap) ?_
 refine vm ?_
 refine aj (aF) ?_
 refine bP (aw sP (fu _ _ S140 a140 b140 Sr Fa 2 (by decide+kernel) Uk)) ?_
 rintro v w34 ⟨rfl,KX⟩
 obtain⟨S145,a145,b145,E9,JB,Rb,W8⟩:=KX
 replace E9:Cnn w34 gn20 S145 a145 b145 Sq:=E9
 have Zj:=JB.size
 replace hE:=JB.e0 hE (fun x hx=>by have:=JS x hx;omega)
 have JR:∀x∈S145,((L20≤x∧x<H20)∨B0≤x):=fun x hx=>(Rb x hx).elim (fun h=>JS x h) (fun h=>.inr (by omega))
 refine aj (b6 (b:=true)) ?_
 refine ab (ap) ?_
 refine vm ?_
 refine aj (aF) ?_
 refine bP (aw sP (fu _ _ S145 a145 b145 Sq E9 4 (by decide+kernel) Uj)) ?_
 rintro v w35 ⟨rfl,KW⟩
 obtain⟨S150,a150,b150,nC,JA,Ra,W7⟩:=KW
 replace nC:Cnn w35 gn20 S150 a150 b150 NH:=nC
 have Zi:=JA.size
 replace hE:=JA.e0 hE (fun x hx=>by have:=JR x hx;omega)
 have FD:∀x∈S150,((L20≤x∧x<H20)∨B0≤x):=fun x hx=>(Ra x hx).elim (fun h=>JR x h) (fun h=>.inr (by omega))
 have FO:(∀x∈S150,x<w35.heap.size)∧b150≤w35.heap.size:=⟨fun x hx=>(nC.bnd.1 x hx).1,nC.bnd.2⟩
 refine aj (b6 (b:=true)) ?_
 refine ab (ap) ?_
 refine vm ?_
 refine aj (aF) ?_
 refine bP (aw Gj (oE _ _ S150 a150 b150 NH nC)) ?_
 rintro v w36 ⟨rfl,E1⟩
 replace hE:=hE.tr E1
 replace nC:=nC.ext E1
 have O9:=E1.size
 refine aN (d:=155) rfl (v':=(.int .i64 4)) (by rw[Ui];rfl) ?_
 refine aj (bS) ?_
 refine ab (ap) ?_
 refine ag (ae ?_)
 refine aC ?_
 refine aS (ae (af (aa ?_)))
 refine vm ?_
 refine ar (dn (l:=[1]) cE (os:=[.const (.int .u8 1)])) ?_
 rintro v w37 ⟨A160,c160,rfl,EA,nA⟩
 replace hE:=hE.tr nA
 replace nC:=nC.ext nA
 have Eb:=nA.size
 refine ar (aw I5 (z0 _ _ S150 a150 b150 NH nC _ _ A160 c160 [1] (OwnB.rd EA) (fun x hx=>by have h1:=FD x hx;have h2:=FO.1 x hx;omega) (by decide))) ?_
 rintro v w38 ⟨rfl,yG⟩
 obtain⟨S161,a161,b161,xp,ru,AA,W6⟩:=yG
 replace xp:Cnn w38 gn20 S161 a161 b161 Sp:=xp
 replace hE:=ru.e0 hE (fun x hx=>by have:=FD x hx;omega)
 have FC:∀x∈S161,((L20≤x∧x<H20)∨B0≤x):=fun x hx=>(AA x hx).elim (fun h=>FD x h) (fun h=>.inr (by omega))
 refine vm ?_
 iterate 2 refine vx ?_
 refine va ?_
 refine ag (ae (af (aa ?_)))
 refine ab (bi (cs:=[(.int .i64 23),(.int .i64 64),(.int .i64 16)]) J2 OL) ?_
 refine ar (aw I6 (Gb _ 23 64 16 (by decide) (by decide) (by decide) (by decide) (by decide) (by decide) (by decide))) ?_
 rintro v w39 ⟨rfl,JL⟩
 replace hE:=hE.tr JL
 replace xp:=xp.ext JL
 refine vm ?_
 iterate 2 refine vx ?_
 iterate 2 refine va ?_
 refine ag (ae (af (aa ?_)))
 refine vm ?_
 refine ve ?_
 refine aN (d:=170) rfl (bt (by rw[Uh];rfl)) ?_
 refine vm ?_
 refine aj (aF) ?_
 refine bP (aw sP (fu _ _ S161 a161 b161 Sp xp 0 (by decide+kernel) Ug)) ?_
 rintro v w40 ⟨rfl,KT⟩
 obtain⟨S173,a173,b173,hc173,QB,hS173,W5⟩:=KT
 replace hE:=QB.e0 hE (fun x hx=>by have:=FC x hx;omega)
 refine ab (ay) ?_
 refine vm ?_
 refine aj (aF) ?_
 refine aj (dO Tryz.underlying28) ?_
 refine ab (ay) ?_
 refine vm ?_
 refine aj (aF) ?_
 refine aj (cI) ?_
 refine ab (ay) ?_
 refine va ?_
 refine ag (ae (aE ?_))
 refine aY ?_
 exact⟨rfl,hE⟩
end Go.Proofs.YtiighkbehiddkaaGreat
namespace Go.Proofs.YtiighkbehiddkaaGreat
open Go.RowKit
set_option linter.unusedVariables false
set_option maxRecDepth 4000
theorem iZ {l:List UInt8} (h:nK l=true):l=br (nV l)++nR l:=by
 have e:(bd l).2.2=0:=of_decide_eq_true h
 have h1:=qA e
 unfold nV nR
 rw[h1,List.take_append_drop]
theorem DH {l:List UInt8} (h:bK l=true):l=pb (bV l)++bR l∧(bV l).length≤65536:=by
 have e:(cM l 65536).2.2=0:=of_decide_eq_true h
 have h0:¬(65536:Int)<0:=by decide
 by_cases h1:(bd l).2.2≠0
 ·rw[ff (h:=h0) (h1:=h1)] at e;exact absurd e h1
 by_cases h2:(65536:Int)<((bd l).1:Int)
 ·rw[eE (h:=h0) (h1:=h1) (h2:=h2)] at e;cases e
 by_cases h3:l.length -(bd l).2.1<(bd l).1
 ·rw[ed (h:=h0) (h1:=h1) (h2:=h2) (h3:=h3)] at e;cases e
 have hp:=fJ (h:=h0) (h1:=h1) (h2:=h2) (h3:=h3)
 have hv:bV l=(l.drop (bd l).2.1).take (bd l).1:=by unfold bV;rw[hp]
 have hr:bR l=l.drop ((bd l).2.1+(bd l).1):=by unfold bR;rw[hp]
 have hn:=iZ (l:=l) (decide_eq_true (Decidable.not_not.1 h1))
 have hl:(bV l).length=(bd l).1:=by rw[hv,List.length_take,List.length_drop];omega
 refine⟨?_,by omega⟩
 unfold pb
 rw[hl,hv,hr,←List.drop_drop,List.append_assoc,List.take_append_drop]
 exact hn
theorem s4 {m:Nat} {l:List UInt8} (h:rK m l=true):nK l=true:=by unfold rK at h;rw[Bool.and_eq_true] at h;exact h.1
/-- An item that was read is what would be written. -/
theorem wF {l:List UInt8} (h:iK l=true):l=wI (iV l)++iR l∧ma (iV l)=true∧(iV l).ver<18446744073709551616∧(iV l).dead<18446744073709551616:=by
 have hk:rK 2 l=true:=by
  cases hr:rK 2 l with
  |true=>rfl
  |false=>rw[DZ hr] at h;cases h
 have hn:=iZ (s4 hk)
 have h2:=kH hk
 by_cases h0:nV l=0
 ·obtain⟨_,ev,er⟩:=tZ hk h0
  rw[ev,er]
  refine⟨?_,rfl,by decide,by decide⟩
  rw[show wI zI=br 0 from by rw[oo rfl];rfl,←h0]
  exact hn
 ·obtain⟨ek,ev,er⟩:=m9 hk h0
  rw[ek,Bool.and_eq_true,Bool.and_eq_true] at h
  obtain⟨⟨k1,k2⟩,k3⟩:=h
  have n1:=iZ k1
  have n2:=iZ k2
  obtain⟨n3,hb⟩:=DH k3
  rw[ev,er]
  refine⟨?_,decide_eq_true ⟨by show(0:Int)≤(nV l:Int);omega,by show(nV l:Int)≤2;omega,hb⟩,oB _,oB _⟩
  show l=(br ((nV l:Int)).toNat++if(nV l:Int)=0 then[] else br (nV (nR l))++(br (nV (nR (nR l)))++pb (bV (nR (nR (nR l))))))++bR (nR (nR (nR l)))
  rw[if_neg (by omega),Int.toNat_natCast,List.append_assoc,List.append_assoc,List.append_assoc,←n3,←n2,←n1]
  exact hn
theorem pk (l:List UInt8):∀k,(iS k l).2.2=true→l=(iS k l).1.flatMap wI++(iS k l).2.1∧(iS k l).1.all ma=true∧∀x∈(iS k l).1,x.ver<18446744073709551616∧x.dead<18446744073709551616
 |0,_=>⟨rfl,rfl,fun x h=>by cases h⟩
 |k+1,h=>by
  rw[iS,Bool.and_eq_true] at h
  obtain⟨h1,h2,h3⟩:=pk l k h.1
  obtain⟨e1,e2,e3⟩:=wF h.2
  refine⟨?_,?_,?_⟩
  ·rw[iS,List.flatMap_append,List.append_assoc]
   show l=(iS k l).1.flatMap wI++(([iV (iS k l).2.1].flatMap wI)++iR (iS k l).2.1)
   rw[List.flatMap_singleton,←e1]
   exact h1
  ·rw[iS,List.all_append,h2]
   show(true&&(ma (iV (iS k l).2.1)&&true))=true
   rw[e2];rfl
  ·intro x hx
   rw[iS] at hx
   rcases List.mem_append.1 hx with hx|hx
   ·exact h3 x hx
   ·rw[List.mem_singleton.1 hx];exact e3
theorem wt (l:List UInt8):∀k,(uS k l).2.2=true→l=(uS k l).1.flatMap br++(uS k l).2.1∧∀n∈(uS k l).1,n<18446744073709551616
 |0,_=>⟨rfl,fun x h=>by cases h⟩
 |k+1,h=>by
  rw[uS,Bool.and_eq_true] at h
  obtain⟨h1,h3⟩:=wt l k h.1
  have e1:=iZ h.2
  refine⟨?_,?_⟩
  ·rw[uS,List.flatMap_append,List.append_assoc]
   show l=(uS k l).1.flatMap br++(([nV (uS k l).2.1].flatMap br)++nR (uS k l).2.1)
   rw[List.flatMap_singleton,←e1]
   exact h1
  ·intro x hx
   rw[uS] at hx
   rcases List.mem_append.1 hx with hx|hx
   ·exact h3 x hx
   ·rw[List.mem_singleton.1 hx];exact oB _
theorem tF:∀(xs:List Itm),xs.all ma=true→(∀x∈xs,x.mark=0→x.value=[])→vsum xs≤(xs.flatMap wI).length
 |[],_,_=>by simp[vsum]
 |x::r,h,h0=>by
  rw[List.all_cons,Bool.and_eq_true] at h
  have h2:=tF r h.2 (fun y hy=>h0 y (List.mem_cons_of_mem _ hy))
  have h1:x.value.length≤(wI x).length:=by
   by_cases hm:x.mark=0
   ·rw[h0 x (List.mem_cons_self ..) hm];exact Nat.zero_le _
   ·unfold wI pb;rw[if_neg hm];simp only[List.length_append];omega
  unfold vsum at*
  rw[List.map_cons,List.sum_cons,List.flatMap_cons,List.length_append];omega
theorem Hw {l:List UInt8} (h:(iV l).mark=0):(iV l).value=[]:=by
 unfold iV at*
 split at h
 ·rename_i e;rw[if_pos e];rfl
 ·rename_i e
  have:(nV l:Int)=0:=h
  omega
theorem tY (l:List UInt8):∀k,∀x∈(iS k l).1,x.mark=0→x.value=[]
 |0,x,h,_=>by cases h
 |k+1,x,h,h0=>by
  rw[iS] at h
  rcases List.mem_append.1 h with h|h
  ·exact tY l k x h h0
  ·rw[List.mem_singleton.1 h] at h0 ⊢;exact Hw h0
/-- What the end of the reading says, by the list of the parts. -/
structure EndOk (op:Int) (l:List UInt8):Prop where
 bytes:l=(pl op).flatMap (putC (gend op l).x)++(gend op l).l
 all:(pl op).all (okP (gend op l).x)=true
 ok:RspOk (gend op l).x
 hop:(gend op l).x.op=op
 err:(gend op l).x.err=0
 i16:(gend op l).x.items.length≤16
 n64:(gend op l).x.nums.length≤64
 vs:vsum (gend op l).x.items≤l.length
theorem IJ {op:Int} {l:List UInt8} (h:(gend op l).ok=true):EndOk op l:=by
 have hz:∀x∈([]:List Itm),x.ver<18446744073709551616∧x.dead<18446744073709551616:=fun x hx=>by cases hx
 have hy:∀n∈([]:List Nat),n<18446744073709551616:=fun x hx=>by cases hx
 rcases ox op with e|e|e|e|e
 ·have hg:gend op l=dS (dS ⟨rspO op 0,true,l,true⟩ 118) 99:=by unfold gend iE;rw[e];rfl
  rw[hg] at h
  have hk:(true&&rK 18446744073709551615 l&&rK 1099511627776 (nR l))=true:=h
  rw[Bool.true_and,Bool.and_eq_true] at hk
  have h1:=iZ (s4 hk.1)
  have h2:=iZ (s4 hk.2)
  have h3:=kH hk.2
  refine⟨?_,?_,?_,?_,?_,?_,?_,?_⟩
  ·rw[hg,e]
   show l=br (nV l)++(br ((nV (nR l):Int)).toNat++[])++nR (nR l)
   rw[Int.toNat_natCast,List.append_nil,List.append_assoc,←h2];exact h1
  ·rw[hg,e]
   show(true&&(decide (0≤(nV (nR l):Int)∧(nV (nR l):Int)≤1099511627776)&&true))=true
   rw[decide_eq_true (by omega)];rfl
  ·rw[hg];exact⟨oB _,hz,hy,by show(nV (nR l):Int)≤_;omega⟩
  ·rw[hg];rfl
  ·rw[hg];rfl
  ·rw[hg];exact Nat.zero_le _
  ·rw[hg];exact Nat.zero_le _
  ·rw[hg];exact Nat.zero_le _
 ·have hg:gend op l=dS (dS ⟨rspO op 0,true,l,true⟩ 111) 105:=by unfold gend iE;rw[e];rfl
  rw[hg] at h
  have hk:(iS 1 l).2.2=true:=h
  obtain⟨h1,h2,h3⟩:=pk l 1 hk
  have hl:=(lF l 1).1
  refine⟨?_,?_,?_,?_,?_,?_,?_,?_⟩
  ·rw[hg,e]
   show l=[]++((iS 1 l).1.flatMap wI++[])++(iS 1 l).2.1
   rw[List.append_nil,List.nil_append];exact h1
  ·rw[hg,e]
   show(decide ((iS 1 l).1.length=1)&&((iS 1 l).1.all ma&&true))=true
   rw[h2,decide_eq_true hl];rfl
  ·rw[hg];exact⟨by show(0:Nat)<_;decide,h3,hy,by show(0:Int)≤_;decide⟩
  ·rw[hg];rfl
  ·rw[hg];rfl
  ·rw[hg];show(iS 1 l).1.length≤16;omega
  ·rw[hg];exact Nat.zero_le _
  ·rw[hg]
   have hv:=tF _ h2 (tY l 1)
   have hc:=congrArg List.length h1
   rw[List.length_append] at hc
   show vsum (iS 1 l).1≤_
   omega
 ·have hg:gend op l=dS (dS ⟨rspO op 0,true,l,true⟩ 109) 105:=by unfold gend iE;rw[e];rfl
  rw[hg] at h
  have Af:(List.replicate (nV l) zI).length=nV l:=List.length_replicate
  have CY:(true&&(rK 16 l&&decide (0<nV l))&&(iS (List.replicate (nV l) zI).length (nR l)).2.2)=true:=h
  rw[Af,Bool.true_and,Bool.and_eq_true,Bool.and_eq_true,decide_eq_true_eq] at CY
  obtain⟨⟨k1,k2⟩,k3⟩:=CY
  have h0:=iZ (s4 k1)
  have pF:=kH k1
  obtain⟨h1,h2,h3⟩:=pk (nR l) (nV l) k3
  have hl:=(lF (nR l) (nV l)).1
  have hx:(dS (dS ⟨rspO op 0,true,l,true⟩ 109) 105).x={rspO op 0 with items:=(iS (nV l) (nR l)).1}:=by
   show({rspO op 0 with items:=(iS (List.replicate (nV l) zI).length (nR l)).1}:Rsp)=_
   rw[Af]
  have hr:(dS (dS ⟨rspO op 0,true,l,true⟩ 109) 105).l=(iS (nV l) (nR l)).2.1:=by
   show(iS (List.replicate (nV l) zI).length (nR l)).2.1=_
   rw[Af]
  refine⟨?_,?_,?_,?_,?_,?_,?_,?_⟩
  ·rw[hg,hx,hr,e]
   show l=br (iS (nV l) (nR l)).1.length++((iS (nV l) (nR l)).1.flatMap wI++[])++(iS (nV l) (nR l)).2.1
   rw[hl,List.append_nil,List.append_assoc,←h1];exact h0
  ·rw[hg,hx,e]
   show(decide (1≤(iS (nV l) (nR l)).1.length∧(iS (nV l) (nR l)).1.length≤16)&&((iS (nV l) (nR l)).1.all ma&&true))=true
   rw[h2,decide_eq_true (by omega)];rfl
  ·rw[hg,hx];exact⟨by show(0:Nat)<_;decide,h3,hy,by show(0:Int)≤_;decide⟩
  ·rw[hg];rfl
  ·rw[hg];rfl
  ·rw[hg,hx];show(iS (nV l) (nR l)).1.length≤16;omega
  ·rw[hg,hx];exact Nat.zero_le _
  ·rw[hg,hx]
   have hv:=tF _ h2 (tY (nR l) (nV l))
   have hc:=congrArg List.length h1
   have hn:=iN l
   rw[List.length_append] at hc
   show vsum (iS (nV l) (nR l)).1≤_
   omega
 ·have hg:gend op l=dS ⟨rspO op 0,true,l,true⟩ 110:=by unfold gend iE;rw[e];rfl
  rw[hg] at h
  have hk:(true&&(rK 64 l&&(uS (nV l) (nR l)).2.2))=true:=h
  rw[Bool.true_and,Bool.and_eq_true] at hk
  have h0:=iZ (s4 hk.1)
  have IB:=kH hk.1
  obtain⟨h1,h3⟩:=wt (nR l) (nV l) hk.2
  have hl:=(o8 (nR l) (nV l)).1
  refine⟨?_,?_,?_,?_,?_,?_,?_,?_⟩
  ·rw[hg,e]
   show l=(br (uS (nV l) (nR l)).1.length++(uS (nV l) (nR l)).1.flatMap br)++[]++(uS (nV l) (nR l)).2.1
   rw[hl,List.append_nil,List.append_assoc,←h1];exact h0
  ·rw[hg,e]
   show(decide ((uS (nV l) (nR l)).1.length≤64)&&true)=true
   rw[decide_eq_true (by omega)];rfl
  ·rw[hg];exact⟨by show(0:Nat)<_;decide,hz,h3,by show(0:Int)≤_;decide⟩
  ·rw[hg];rfl
  ·rw[hg];rfl
  ·rw[hg];exact Nat.zero_le _
  ·rw[hg];show(uS (nV l) (nR l)).1.length≤64;omega
  ·rw[hg];exact Nat.zero_le _
 ·have hg:gend op l=dS ⟨rspO op 0,true,l,true⟩ 99:=by unfold gend iE;rw[e];rfl
  rw[hg] at h
  have hk:(true&&rK 1099511627776 l)=true:=h
  rw[Bool.true_and] at hk
  have h0:=iZ (s4 hk)
  have h3:=kH hk
  refine⟨?_,?_,?_,?_,?_,?_,?_,?_⟩
  ·rw[hg,e]
   show l=(br ((nV l:Int)).toNat++[])++nR l
   rw[Int.toNat_natCast,List.append_nil];exact h0
  ·rw[hg,e]
   show(decide (0≤(nV l:Int)∧(nV l:Int)≤1099511627776)&&true)=true
   rw[decide_eq_true (by omega)];rfl
  ·rw[hg];exact⟨by show(0:Nat)<_;decide,hz,hy,by show(nV l:Int)≤_;omega⟩
  ·rw[hg];rfl
  ·rw[hg];rfl
  ·rw[hg];exact Nat.zero_le _
  ·rw[hg];exact Nat.zero_le _
  ·rw[hg];exact Nat.zero_le _
end Go.Proofs.YtiighkbehiddkaaGreat
namespace Go.Proofs.YtiighkbehiddkaaGreat
open Go.RowKit
set_option linter.unusedVariables false
set_option maxRecDepth 4000
theorem KE {l:List UInt8} (h:iK l=true):okV (iV l)=true:=by
 have h1:=(wF h).2.1
 have h2:0≤(iV l).mark∧(iV l).mark≤2∧(iV l).value.length≤65536:=of_decide_eq_true h1
 refine decide_eq_true ⟨?_,h2⟩
 rintro⟨h3,h4⟩
 apply h4
 unfold iV at*
 split at h3
 ·rename_i e;exact if_pos e
 ·rename_i e
  have:(nV l:Int)=0:=h3
  omega
theorem yC (l:List UInt8):∀k,(iS k l).2.2=true→(iS k l).1.all okV=true
 |0,_=>rfl
 |k+1,h=>by
  rw[iS,Bool.and_eq_true] at h
  rw[iS,List.all_append,yC l k h.1]
  show(true&&(okV (iV (iS k l).2.1)&&true))=true
  rw[KE h.2];rfl
theorem zQ {x:Itm} (h:okV x=true):ma x=true∧(x.mark=0→x=zI):=by
 have h1:¬(x.mark=0∧¬x=zI)∧0≤x.mark∧x.mark≤2∧x.value.length≤65536:=of_decide_eq_true h
 exact⟨decide_eq_true h1.2,fun e=>Decidable.not_not.1 fun h2=>h1.1 ⟨e,h2⟩⟩
theorem AV {xs:List Itm} (h:xs.all okV=true):xs.all ma=true:=List.all_eq_true.2 fun x hx=>(zQ (List.all_eq_true.1 h x hx)).1
/-- The parts, by the number of the command. -/
theorem qT (op:Int):((op=1∨op=2∨op=3)∧pl op=[118,99]∧needsN op=119)∨(op=4∧pl op=[111,105]∧needsN op=105)∨(op=5∧pl op=[109,105]∧needsN op=109)∨(op=15∧pl op=[110]∧needsN op=110)∨(¬(op=1∨op=2∨op=3)∧¬op=4∧¬op=5∧¬op=15∧pl op=[99]∧needsN op=99):=by
 by_cases h1:op=1∨op=2∨op=3
 ·exact .inl ⟨h1,(Hg (h:=h1)).1,wB (h:=h1)⟩
 by_cases h2:op=4
 ·exact .inr (.inl ⟨h2,(OK h2).1,wA (h:=h2)⟩)
 by_cases h3:op=5
 ·exact .inr (.inr (.inl ⟨h3,(OJ h3).1,wy (h:=h3)⟩))
 by_cases h4:op=15
 ·exact .inr (.inr (.inr (.inl ⟨h4,(OI h4).1,wx (h:=h4)⟩)))
 ·exact .inr (.inr (.inr (.inr ⟨h1,h2,h3,h4,Kl h1 h2 h3 h4,ww (h1:=h1) (h2:=h2) (h3:=h3) (h4:=h4)⟩)))
theorem yr {r:Rsp} (he:r.err=0) (n:needsN r.op=119):onlyR r=⟨r.op,r.err,[],r.ver,r.count,[]⟩:=by unfold onlyR;rw[if_neg (fun q=>q he),if_pos n];rfl
theorem pf {r:Rsp} (he:r.err=0) (n:needsN r.op=105∨needsN r.op=109):onlyR r=⟨r.op,r.err,r.items,0,0,[]⟩:=by
 unfold onlyR;rw[if_neg (fun q=>q he),if_neg (by rcases n with n|n<;>rw[n]<;>decide),if_pos n];rfl
theorem yu {r:Rsp} (he:r.err=0) (n:needsN r.op=99):onlyR r=⟨r.op,r.err,[],0,r.count,[]⟩:=by
 unfold onlyR;rw[if_neg (fun q=>q he),if_neg (by rw[n];decide),if_neg (by rw[n];decide),if_pos n];rfl
theorem yt {r:Rsp} (he:r.err=0) (n:needsN r.op=110):onlyR r=⟨r.op,r.err,[],0,0,r.nums⟩:=by
 unfold onlyR;rw[if_neg (fun q=>q he),if_neg (by rw[n];decide),if_neg (by rw[n];decide),if_neg (by rw[n];decide),if_pos n];rfl
/-- What has been read whole is just what it needs. -/
structure EndV (op:Int) (x:Rsp):Prop where
 only:x=onlyR x
 items:x.items.all okV=true
 one:¬(needsN op=105∧¬x.items.length=1)
 many:¬(needsN op=109∧(x.items.length<1∨16<x.items.length))
 c1:0≤x.count
 c2:x.count≤1099511627776
theorem Cy {op:Int} {l:List UInt8} (h:(gend op l).ok=true):EndV op (gend op l).x:=by
 rcases qT op with⟨_,e,n⟩|⟨_,e,n⟩|⟨_,e,n⟩|⟨_,e,n⟩|⟨_,_,_,_,e,n⟩
 ·have hg:gend op l=dS (dS ⟨rspO op 0,true,l,true⟩ 118) 99:=by unfold gend iE;rw[e];rfl
  rw[hg] at h ⊢
  have hk:(true&&rK 18446744073709551615 l&&rK 1099511627776 (nR l))=true:=h
  rw[Bool.true_and,Bool.and_eq_true] at hk
  have h3:=kH hk.2
  refine⟨?_,rfl,by rw[n];omega,by rw[n];omega,by show(0:Int)≤(nV (nR l):Int);omega,by show(nV (nR l):Int)≤_;omega⟩
  exact(yr (r:=(dS (dS ⟨rspO op 0,true,l,true⟩ 118) 99).x) rfl n).symm
 ·have hg:gend op l=dS (dS ⟨rspO op 0,true,l,true⟩ 111) 105:=by unfold gend iE;rw[e];rfl
  rw[hg] at h ⊢
  have hk:(iS 1 l).2.2=true:=h
  have hl:=(lF l 1).1
  refine⟨?_,yC l 1 hk,fun q=>q.2 hl,by rw[n];omega,by show(0:Int)≤0;decide,by show(0:Int)≤_;decide⟩
  exact(pf (r:=(dS (dS ⟨rspO op 0,true,l,true⟩ 111) 105).x) rfl (.inl n)).symm
 ·have hg:gend op l=dS (dS ⟨rspO op 0,true,l,true⟩ 109) 105:=by unfold gend iE;rw[e];rfl
  rw[hg] at h ⊢
  have Af:(List.replicate (nV l) zI).length=nV l:=List.length_replicate
  have CY:(true&&(rK 16 l&&decide (0<nV l))&&(iS (List.replicate (nV l) zI).length (nR l)).2.2)=true:=h
  rw[Af,Bool.true_and,Bool.and_eq_true,Bool.and_eq_true,decide_eq_true_eq] at CY
  obtain⟨⟨k1,k2⟩,k3⟩:=CY
  have pF:=kH k1
  have hl:=(lF (nR l) (nV l)).1
  have hx:(dS (dS ⟨rspO op 0,true,l,true⟩ 109) 105).x={rspO op 0 with items:=(iS (nV l) (nR l)).1}:=by
   show({rspO op 0 with items:=(iS (List.replicate (nV l) zI).length (nR l)).1}:Rsp)=_
   rw[Af]
  rw[hx]
  refine⟨?_,yC (nR l) (nV l) k3,by rw[n];omega,fun q=>?_,by show(0:Int)≤0;decide,by show(0:Int)≤_;decide⟩
  ·exact(pf (r:={rspO op 0 with items:=(iS (nV l) (nR l)).1}) rfl (.inr n)).symm
  ·have q2:(iS (nV l) (nR l)).1.length<1∨16<(iS (nV l) (nR l)).1.length:=q.2
   omega
 ·have hg:gend op l=dS ⟨rspO op 0,true,l,true⟩ 110:=by unfold gend iE;rw[e];rfl
  rw[hg] at h ⊢
  refine⟨?_,rfl,by rw[n];omega,by rw[n];omega,by show(0:Int)≤0;decide,by show(0:Int)≤_;decide⟩
  exact(yt (r:=(dS ⟨rspO op 0,true,l,true⟩ 110).x) rfl n).symm
 ·have hg:gend op l=dS ⟨rspO op 0,true,l,true⟩ 99:=by unfold gend iE;rw[e];rfl
  rw[hg] at h ⊢
  have hk:(true&&rK 1099511627776 l)=true:=h
  rw[Bool.true_and] at hk
  have h3:=kH hk
  refine⟨?_,rfl,by rw[n];omega,by rw[n];omega,by show(0:Int)≤(nV l:Int);omega,by show(nV l:Int)≤_;omega⟩
  exact(yu (r:=(dS ⟨rspO op 0,true,l,true⟩ 99).x) rfl n).symm
theorem DN {op e:Int} (h:¬e=0):onlyR (rspO op e)=rspO op e:=if_pos h
/-- What Read answers is valid. -/
theorem Dl {op:Int} {l:List UInt8} (h:(rdR op l).2=0):RV (rdR op l).1:=by
 have hq:RdOkR op l:=by
  by_cases hq:RdOkR op l
  ·exact hq
  ·rw[gZ hq] at h;cases h
 have Zw:=hq
 obtain⟨q1,q2,q3,q4,q5,q6⟩:=hq
 have vy:=kH q3
 by_cases h0:nV l=0
 ·have hr:=Dm Zw h0
  obtain⟨k1,k2⟩:=q5 h0
  have E:=IJ k1
  have V:=Cy k1
  have hx:(rdR op l).1=(gend op (nR l)).x:=congrArg Prod.fst hr
  have he:=E.err
  have ho:=E.hop
  rw[hx]
  refine⟨by omega,by omega,by omega,by omega,?_,V.only,V.items,fun q=>V.one ⟨by rw[←ho];exact q.2.1,q.2.2⟩,fun q=>V.many ⟨by rw[←ho];exact q.2.1,q.2.2⟩,V.c1,V.c2,E.n64⟩
  rintro⟨h1,_⟩
  rcases q4 with q|q
  ·have:=of_decide_eq_true q;omega
  ·exact q h0
 ·have hr:=zL Zw h0
  have hx:(rdR op l).1=rspO op (nV l):=congrArg Prod.fst hr
  have eB:¬((nV l:Nat):Int)=0:=by omega
  rw[hx]
  exact⟨q1,q2,by show(0:Int)≤(nV l:Int);omega,by show(nV l:Int)≤_;omega,fun q=>eB q.2,(DN eB).symm,rfl,fun q=>eB q.1,fun q=>eB q.1,by show(0:Int)≤0;decide,by show(0:Int)≤_;decide,Nat.zero_le _⟩
/-! The other way: a valid response is read back. -/
theorem fM {n:Nat} (r:List UInt8) (h:n<18446744073709551616):nV (br n++r)=n∧nR (br n++r)=r∧nK (br n++r)=true:=by
 have e:=vI h r
 refine⟨by unfold nV;rw[e],by unfold nR;rw[e];exact List.drop_left,by unfold nK;rw[e];rfl⟩
theorem lB {n m:Nat} (r:List UInt8) (h:n<18446744073709551616:=by omega) (hm:n≤m:=by omega):rK m (br n++r)=true:=by
 obtain⟨a,b,c⟩:=fM r h
 unfold rK;rw[c,a,decide_eq_true hm];rfl
theorem Bw {v:List UInt8} (r:List UInt8) (h:v.length≤65536):bV (pb v++r)=v∧bR (pb v++r)=r∧bK (pb v++r)=true:=by
 have e:=AX (b:=v) (most:=65536) (by omega) (by omega) r
 have e2:pb v++r=br v.length++(v++r):=by unfold pb;rw[List.append_assoc]
 refine⟨by unfold bV;rw[e2,e],by unfold bR;rw[e2,e];exact CA v r,by unfold bK;rw[e2,e];rfl⟩
theorem DW {x:Itm} (q:List UInt8) (h:okV x=true) (h1:x.ver<18446744073709551616) (h2:x.dead<18446744073709551616):iV (wI x++q)=x∧iR (wI x++q)=q∧iK (wI x++q)=true:=by
 obtain⟨ho,hz⟩:=zQ h
 have hm:0≤x.mark∧x.mark≤2∧x.value.length≤65536:=of_decide_eq_true ho
 by_cases h0:x.mark=0
 ·have hx:=hz h0
  subst hx
  rw[oo rfl]
  obtain⟨a,b,c⟩:=fM (n:=0) q (by decide)
  have a':nV (br (zI.mark).toNat++q)=0:=a
  have k:rK 2 (br (zI.mark).toNat++q)=true:=lB (n:=0) q (h:=by decide) (hm:=by decide)
  obtain⟨e1,e2,e3⟩:=tZ k a'
  exact⟨e2,e3.trans b,e1⟩
 ·have e:wI x++q=br x.mark.toNat++(br x.ver++(br x.dead++(pb x.value++q))):=by
   unfold wI;rw[if_neg h0];simp only[List.append_assoc]
  rw[e]
  obtain⟨a,b,c⟩:=fM (n:=x.mark.toNat) (br x.ver++(br x.dead++(pb x.value++q))) (by omega)
  obtain⟨a2,b2,c2⟩:=fM (br x.dead++(pb x.value++q)) h1
  obtain⟨a3,b3,c3⟩:=fM (pb x.value++q) h2
  obtain⟨a4,b4,c4⟩:=Bw q hm.2.2
  have k:rK 2 (br x.mark.toNat++(br x.ver++(br x.dead++(pb x.value++q))))=true:=lB _
  obtain⟨e1,e2,e3⟩:=m9 k (by rw[a];omega)
  rw[a,b,a2,b2,a3,b3,a4] at e2
  rw[b,b2,b3,b4] at e3
  rw[b,c2,b2,c3,b3,c4] at e1
  refine⟨?_,e3,e1⟩
  rw[e2,Int.toNat_of_nonneg hm.1]
theorem pm (xs:List Itm) (q:List UInt8) (h:xs.all okV=true) (hb:∀x∈xs,x.ver<18446744073709551616∧x.dead<18446744073709551616):∀k,k≤xs.length→iS k (xs.flatMap wI++q)=(xs.take k,(xs.drop k).flatMap wI++q,true)
 |0,_=>by rw[iS,List.take_zero,List.drop_zero]
 |k+1,hk=>by
  have ih:=pm xs q h hb k (by omega)
  have hx:xs[k]?=some xs[k]:=List.getElem?_eq_getElem (by omega)
  have hm:xs[k]∈xs:=List.getElem_mem _
  have hd:xs.drop k=xs[k]::xs.drop (k+1):=List.drop_eq_getElem_cons (by omega)
  have e:(xs.drop k).flatMap wI++q=wI xs[k]++((xs.drop (k+1)).flatMap wI++q):=by rw[hd,List.flatMap_cons,List.append_assoc]
  obtain⟨a,b,c⟩:=DW ((xs.drop (k+1)).flatMap wI++q) (List.all_eq_true.1 h _ hm) (hb _ hm).1 (hb _ hm).2
  rw[iS,ih]
  show(xs.take k++[iV ((xs.drop k).flatMap wI++q)],iR ((xs.drop k).flatMap wI++q),true&&iK ((xs.drop k).flatMap wI++q))=_
  rw[e,a,b,c,List.take_add_one,hx];rfl
theorem wu (xs:List Nat) (q:List UInt8) (hb:∀n∈xs,n<18446744073709551616):∀k,k≤xs.length→uS k (xs.flatMap br++q)=(xs.take k,(xs.drop k).flatMap br++q,true)
 |0,_=>by rw[uS,List.take_zero,List.drop_zero]
 |k+1,hk=>by
  have ih:=wu xs q hb k (by omega)
  have hx:xs[k]?=some xs[k]:=List.getElem?_eq_getElem (by omega)
  have hm:xs[k]∈xs:=List.getElem_mem _
  have hd:xs.drop k=xs[k]::xs.drop (k+1):=List.drop_eq_getElem_cons (by omega)
  have e:(xs.drop k).flatMap br++q=br xs[k]++((xs.drop (k+1)).flatMap br++q):=by rw[hd,List.flatMap_cons,List.append_assoc]
  obtain⟨a,b,c⟩:=fM ((xs.drop (k+1)).flatMap br++q) (hb _ hm)
  rw[uS,ih]
  show(xs.take k++[nV ((xs.drop k).flatMap br++q)],nR ((xs.drop k).flatMap br++q),true&&nK ((xs.drop k).flatMap br++q))=_
  rw[e,a,b,c,List.take_add_one,hx];rfl
/-- A valid response without an error, read back from its parts. -/
theorem IK {r:Rsp} (h:RV r) (hb:RspOk r) (he:r.err=0):(gend r.op ((pl r.op).flatMap (putC r))).ok=true∧(gend r.op ((pl r.op).flatMap (putC r))).x=r∧(gend r.op ((pl r.op).flatMap (putC r))).l=[]∧(pl r.op).all (okP r)=true:=by
 rcases qT r.op with⟨_,e,n⟩|⟨_,e,n⟩|⟨_,e,n⟩|⟨_,e,n⟩|⟨_,_,_,_,e,n⟩
 ·have ho:=h.only.trans (yr he n)
  rw[he] at ho
  have hl:(pl r.op).flatMap (putC r)=br r.ver++(br r.count.toNat++[]):=by rw[e];rfl
  have hg:∀l,gend r.op l=dS (dS ⟨rspO r.op 0,true,l,true⟩ 118) 99:=fun l=>by unfold gend iE;rw[e];rfl
  have c1:=h.c1
  have c2:=h.c2
  obtain⟨a,b,c⟩:=fM (br r.count.toNat++[]) hb.1
  obtain⟨a2,b2,k2⟩:=fM (n:=r.count.toNat) [] (by omega)
  have k:=lB (n:=r.ver) (m:=18446744073709551615) (br r.count.toNat++[]) (h:=hb.1) (hm:=by have:=hb.1;omega)
  have k':=lB (n:=r.count.toNat) (m:=1099511627776) []
  rw[hg,hl]
  refine⟨?_,?_,?_,?_⟩
  ·show(true&&rK 18446744073709551615 (br r.ver++(br r.count.toNat++[]))&&rK 1099511627776 (nR (br r.ver++(br r.count.toNat++[]))))=true
   rw[k,b,k'];rfl
  ·show({rspO r.op 0 with ver:=nV (br r.ver++(br r.count.toNat++[])),count:=(nV (nR (br r.ver++(br r.count.toNat++[]))):Int)}:Rsp)=r
   rw[a,b,a2,Int.toNat_of_nonneg c1];exact ho.symm
  ·show nR (nR (br r.ver++(br r.count.toNat++[])))=[]
   rw[b,b2]
  ·rw[e]
   show(true&&(decide (0≤r.count∧r.count≤1099511627776)&&true))=true
   rw[decide_eq_true ⟨c1,c2⟩];rfl
 ·have ho:=h.only.trans (pf he (.inl n))
  rw[he] at ho
  have h1:r.items.length=1:=Decidable.not_not.1 fun q=>h.one ⟨he,n,q⟩
  have hl:(pl r.op).flatMap (putC r)=r.items.flatMap wI++[]:=by rw[e];rfl
  have hg:∀l,gend r.op l=dS (dS ⟨rspO r.op 0,true,l,true⟩ 111) 105:=fun l=>by unfold gend iE;rw[e];rfl
  have hi:=pm r.items [] h.items hb.2.1 1 (by omega)
  rw[hg,hl]
  refine⟨?_,?_,?_,?_⟩
  ·show(iS 1 (r.items.flatMap wI++[])).2.2=true
   rw[hi]
  ·show({rspO r.op 0 with items:=(iS 1 (r.items.flatMap wI++[])).1}:Rsp)=r
   rw[hi]
   show({rspO r.op 0 with items:=r.items.take 1}:Rsp)=r
   rw[List.take_of_length_le (by omega)];exact ho.symm
  ·show(iS 1 (r.items.flatMap wI++[])).2.1=[]
   rw[hi]
   show(r.items.drop 1).flatMap wI++[]=[]
   rw[List.drop_of_length_le (by omega)];rfl
  ·rw[e]
   show(decide (r.items.length=1)&&(r.items.all ma&&true))=true
   rw[decide_eq_true h1,AV h.items];rfl
 ·have ho:=h.only.trans (pf he (.inr n))
  rw[he] at ho
  have hmn:¬(r.items.length<1∨16<r.items.length):=fun q=>h.many ⟨he,n,q⟩
  have hl:(pl r.op).flatMap (putC r)=br r.items.length++(r.items.flatMap wI++[]):=by rw[e];rfl
  have hg:∀l,gend r.op l=dS (dS ⟨rspO r.op 0,true,l,true⟩ 109) 105:=fun l=>by unfold gend iE;rw[e];rfl
  obtain⟨a,b,c⟩:=fM (n:=r.items.length) (r.items.flatMap wI++[]) (by omega)
  have k:=lB (n:=r.items.length) (m:=16) (r.items.flatMap wI++[])
  have hi:=pm r.items [] h.items hb.2.1 r.items.length (Nat.le_refl _)
  have Af:(List.replicate (nV (br r.items.length++(r.items.flatMap wI++[]))) zI).length=r.items.length:=by rw[List.length_replicate,a]
  rw[hg,hl]
  refine⟨?_,?_,?_,?_⟩
  ·show(true&&(rK 16 (br r.items.length++(r.items.flatMap wI++[]))&&decide (0<nV (br r.items.length++(r.items.flatMap wI++[]))))&&(iS (List.replicate (nV (br r.items.length++(r.items.flatMap wI++[]))) zI).length (nR (br r.items.length++(r.items.flatMap wI++[])))).2.2)=true
   rw[Af,b,hi,k,a,decide_eq_true (show 0<r.items.length by omega)];rfl
  ·show({rspO r.op 0 with items:=(iS (List.replicate (nV (br r.items.length++(r.items.flatMap wI++[]))) zI).length (nR (br r.items.length++(r.items.flatMap wI++[])))).1}:Rsp)=r
   rw[Af,b,hi]
   show({rspO r.op 0 with items:=r.items.take r.items.length}:Rsp)=r
   rw[List.take_length];exact ho.symm
  ·show(iS (List.replicate (nV (br r.items.length++(r.items.flatMap wI++[]))) zI).length (nR (br r.items.length++(r.items.flatMap wI++[])))).2.1=[]
   rw[Af,b,hi]
   show(r.items.drop r.items.length).flatMap wI++[]=[]
   rw[List.drop_length];rfl
  ·rw[e]
   show(decide (1≤r.items.length∧r.items.length≤16)&&(r.items.all ma&&true))=true
   rw[decide_eq_true (by omega),AV h.items];rfl
 ·have ho:=h.only.trans (yt he n)
  rw[he] at ho
  have hn:=h.nums
  have hl:(pl r.op).flatMap (putC r)=br r.nums.length++(r.nums.flatMap br++[]):=by
   rw[e]
   show(br r.nums.length++r.nums.flatMap br)++[]=_
   rw[List.append_assoc]
  have hg:∀l,gend r.op l=dS ⟨rspO r.op 0,true,l,true⟩ 110:=fun l=>by unfold gend iE;rw[e];rfl
  obtain⟨a,b,c⟩:=fM (n:=r.nums.length) (r.nums.flatMap br++[]) (by omega)
  have k:=lB (n:=r.nums.length) (m:=64) (r.nums.flatMap br++[])
  have hi:=wu r.nums [] hb.2.2.1 r.nums.length (Nat.le_refl _)
  rw[hg,hl]
  refine⟨?_,?_,?_,?_⟩
  ·show(true&&(rK 64 (br r.nums.length++(r.nums.flatMap br++[]))&&(uS (nV (br r.nums.length++(r.nums.flatMap br++[]))) (nR (br r.nums.length++(r.nums.flatMap br++[])))).2.2))=true
   rw[a,b,hi,k];rfl
  ·show({rspO r.op 0 with nums:=(uS (nV (br r.nums.length++(r.nums.flatMap br++[]))) (nR (br r.nums.length++(r.nums.flatMap br++[])))).1}:Rsp)=r
   rw[a,b,hi]
   show({rspO r.op 0 with nums:=r.nums.take r.nums.length}:Rsp)=r
   rw[List.take_length];exact ho.symm
  ·show(uS (nV (br r.nums.length++(r.nums.flatMap br++[]))) (nR (br r.nums.length++(r.nums.flatMap br++[])))).2.1=[]
   rw[a,b,hi]
   show(r.nums.drop r.nums.length).flatMap br++[]=[]
   rw[List.drop_length];rfl
  ·rw[e]
   show(decide (r.nums.length≤64)&&true)=true
   rw[decide_eq_true hn];rfl
 ·have ho:=h.only.trans (yu he n)
  rw[he] at ho
  have c1:=h.c1
  have c2:=h.c2
  have hl:(pl r.op).flatMap (putC r)=br r.count.toNat++[]:=by rw[e];rfl
  have hg:∀l,gend r.op l=dS ⟨rspO r.op 0,true,l,true⟩ 99:=fun l=>by unfold gend iE;rw[e];rfl
  obtain⟨a2,b2,k2⟩:=fM (n:=r.count.toNat) [] (by omega)
  have k':=lB (n:=r.count.toNat) (m:=1099511627776) []
  rw[hg,hl]
  refine⟨?_,?_,?_,?_⟩
  ·show(true&&rK 1099511627776 (br r.count.toNat++[]))=true
   rw[k'];rfl
  ·show({rspO r.op 0 with count:=(nV (br r.count.toNat++[]):Int)}:Rsp)=r
   rw[a2,Int.toNat_of_nonneg c1];exact ho.symm
  ·show nR (br r.count.toNat++[])=[]
   rw[b2]
  ·rw[e]
   show(decide (0≤r.count∧r.count≤1099511627776)&&true)=true
   rw[decide_eq_true ⟨c1,c2⟩];rfl
theorem pS {r:Rsp} (h:RV r) (hb:RspOk r):WrOk r:=by
 have e1:=h.e1
 have e2:=h.e2
 have LC:kt r.op=true∨¬r.err=0:=by
  by_cases h0:r.err=0
  ·refine .inl (decide_eq_true ?_)
   have a:=h.o1
   have b:=h.o2
   have c:¬r.op=0:=fun q=>h.ne ⟨q,h0⟩
   omega
  ·exact .inr h0
 by_cases h0:r.err=0
 ·obtain⟨g1,g2,g3,g4⟩:=IK h hb h0
  have hw:bA r=br 0++(pl r.op).flatMap (putC r):=by unfold bA;rw[if_pos h0,h0];rfl
  obtain⟨a,b,c⟩:=fM (n:=0) ((pl r.op).flatMap (putC r)) (by decide)
  have k:=lB (n:=0) (m:=100000) ((pl r.op).flatMap (putC r)) (h:=by decide) (hm:=by decide)
  have hq:RdOkR r.op (bA r):=by
   rw[hw]
   refine⟨h.o1,h.o2,k,?_,fun _=>by rw[b];exact⟨g1,by rw[g3];rfl⟩,fun q=>absurd a q⟩
   rcases LC with q|q
   ·exact .inl q
   ·exact absurd h0 q
  have hr:=Dm hq (by rw[hw];exact a)
  refine⟨h.o1,h.o2,e1,e2,LC,fun _=>g4,by rw[hr],?_⟩
  rw[hr]
  show(gend r.op (nR (bA r))).x=r
  rw[hw,b];exact g2
 ·have hw:bA r=br r.err.toNat++[]:=by rw[oj h0,List.append_nil]
  obtain⟨a,b,c⟩:=fM (n:=r.err.toNat) [] (by omega)
  have k:=lB (n:=r.err.toNat) (m:=100000) []
  have VD:¬nV (bA r)=0:=by rw[hw,a];omega
  have hq:RdOkR r.op (bA r):=by
   refine⟨h.o1,h.o2,by rw[hw];exact k,.inr VD,fun q=>absurd q VD,fun _=>by rw[hw,b];rfl⟩
  have hr:=zL hq VD
  refine⟨h.o1,h.o2,e1,e2,LC,fun q=>absurd q h0,by rw[hr],?_⟩
  rw[hr]
  show rspO r.op (nV (bA r))=r
  rw[hw,a,Int.toNat_of_nonneg e1]
  exact(h.only.trans (if_pos h0)).symm
theorem x0 {r:Rsp} (hb:RspOk r):(mf r).2=0↔RV r:=by
 constructor
 ·intro h
  have hq:WrOk r:=by
   by_cases hq:WrOk r
   ·exact hq
   ·rw[fC hq] at h;cases h
  obtain⟨_,_,_,_,_,_,h1,h2⟩:=hq
  have:=Dl h1
  rw[h2] at this;exact this
 ·intro h;rw[o6 (pS h hb)]
theorem J4 {r:Rsp} (hb:RspOk r) (h:RV r):mf r=((dF r,bA r),0):=o6 (pS h hb)
end Go.Proofs.YtiighkbehiddkaaGreat
namespace Go.Proofs.YtiighkbehiddkaaGreat
open Go.RowKit
set_option linter.unusedVariables false
set_option maxRecDepth 4000
/-- For a valid response the reference writes what Write writes. -/
theorem Ha {r:Rsp} (h:RV r):nn r=bA r:=by
 unfold nn bA
 by_cases he:r.err=0
 ·rw[if_pos he,if_pos he]
  congr 1
  rcases qT r.op with⟨_,e,n⟩|⟨_,e,n⟩|⟨_,e,n⟩|⟨_,e,n⟩|⟨_,_,_,_,e,n⟩
  ·have ho:=h.only.trans (yr he n)
   have hi:r.items=[]:=by rw[ho]
   have hn:r.nums=[]:=by rw[ho]
   rw[e,hi,hn]
   unfold fZ
   rw[if_pos n]
   show(br r.ver++br r.count.toNat)++([]++[])=br r.ver++(br r.count.toNat++[])
   rw[List.append_nil,List.append_nil,List.append_nil]
  ·have ho:=h.only.trans (pf he (.inl n))
   have hn:r.nums=[]:=by rw[ho]
   rw[e,hn]
   unfold fZ
   rw[if_neg (by omega),if_neg (by omega),if_neg (by omega),if_neg (by omega)]
   rfl
  ·have ho:=h.only.trans (pf he (.inr n))
   have hn:r.nums=[]:=by rw[ho]
   rw[e,hn]
   unfold fZ
   rw[if_neg (by omega),if_pos n]
   rfl
  ·have ho:=h.only.trans (yt he n)
   have hi:r.items=[]:=by rw[ho]
   rw[e,hi]
   unfold fZ
   rw[if_neg (by omega),if_neg (by omega),if_neg (by omega),if_pos n]
   show br r.nums.length++([]++r.nums.flatMap br)=(br r.nums.length++r.nums.flatMap br)++[]
   rw[List.append_nil,List.nil_append]
  ·have ho:=h.only.trans (yu he n)
   have hi:r.items=[]:=by rw[ho]
   have hn:r.nums=[]:=by rw[ho]
   rw[e,hi,hn]
   unfold fZ
   rw[if_neg (by omega),if_neg (by omega),if_pos n]
   rfl
 ·rw[if_neg he,if_neg he]
theorem zK {r:Rsp} (h:RV r) (hb:RspOk r):kr r=cnFr r:=by
 unfold kr cnFr
 rw[J4 hb h,Ha h]
/-- Between two rounds. -/
structure A1 (o i:Nat) (s:Cn):Prop where
 ci:s.ci=24
 co:s.co=o
 cp:s.cp=16
 held:s.held=[]
 cl:s.cl=false
 ph:s.ph=1
 tk:s.tk+s.out.length=s.pt
 pt:s.pt≤i*2097200
/-- A response waits. -/
structure A3 (o i:Nat) (b:List UInt8) (s:Cn):Prop where
 ci:s.ci=24
 co:s.co=o
 cp:s.cp=16
 held:s.held=[]
 cl:s.cl=false
 ph:s.ph=3
 bs:s.bs=b
 tk:s.tk+s.out.length=s.pt
 pt:s.pt≤i*2097200
section
variable {o i:Nat} {b:List UInt8} {s:Cn} {r:Rsp}
end
end Go.Proofs.YtiighkbehiddkaaGreat
namespace Go.Proofs.YtiighkbehiddkaaGreat
open Go.RowKit
set_option linter.unusedVariables false
set_option linter.unusedSimpArgs false
set_option maxRecDepth 4000
theorem Gq:aX Tryz.prog 10=true:=by kernel_rfl
theorem Y8:aX Tryz.prog 15=true:=by kernel_rfl
theorem R1:aX Tryz.prog 20=true:=by kernel_rfl
theorem u7:aX Tryz.prog 23=true:=by kernel_rfl
theorem Y7:aX Tryz.prog 26=true:=by kernel_rfl
def gU (xs:List Itm):Nat:=(xs.map fun x=>x.value.length).sum
/-- Whether a response is heavy. -/
def iv (r:Rsp):Bool:=decide (100<r.items.length)||(decide (100<r.nums.length)||decide (3000<gU (r.items.take 101)))
theorem nF {xs:List Itm} {k:Nat} {x:Itm} (h:xs[k]?=some x):gU (xs.take (k+1))=gU (xs.take k)+x.value.length:=by
 unfold gU;rw[List.take_add_one,h,List.map_append,List.sum_append_nat];simp
theorem vG {xs:List Itm} {M:Nat} (h:∀x∈xs,x.value.length≤M):∀k,gU (xs.take k)≤k*M
 |0=>by simp[gU]
 |k+1=>by
  have ih:=vG h k
  cases hk:xs[k]? with
  |none=>
   have h1:=List.getElem?_eq_none_iff.1 hk
   rw[List.take_of_length_le (by omega)]
   rw[List.take_of_length_le h1] at ih
   rw[Nat.succ_mul];omega
  |some x=>rw[nF hk,Nat.succ_mul];have:=h x (List.mem_of_getElem? hk);omega
theorem AY (xs:List Itm):(xs.map o3).sum=gU xs+40*xs.length:=by
 induction xs with
 |nil=>rfl
 |cons a r ih=>unfold gU at*;rw[List.map_cons,List.sum_cons,ih,List.map_cons,List.sum_cons,List.length_cons];unfold o3;omega
/-- What is not heavy is small. -/
theorem DR {r:Rsp} (h:iv r=false):rsz r≤8100∧r.items.length≤100∧r.nums.length≤100:=by
 unfold iv at h
 simp only[Bool.or_eq_false_iff,decide_eq_false_iff_not] at h
 have e:r.items.take 101=r.items:=List.take_of_length_le (by omega)
 rw[e] at h
 have h2:rsz r=(r.items.map o3).sum+10*r.nums.length+100:=rfl
 have h3:=AY r.items
 omega
theorem xk (w:World) (r:Rsp) (xs:List IT) (hv:vals xs=r.items) (lo hi:Nat) (X:Option Addr) (cx:Nat) (N:Option Addr) (cn:Nat) (hx:RdI w lo hi X cx xs) (hn:RdN w lo hi N cn r.nums) (bI:∀x∈r.items,x.value.length≤140737488355328):
  Fn Tryz.prog 15 #[(.agg #[(.int .i64 r.op),(.int .i64 r.err),(.slice X r.items.length cx),(.int .u64 (↑r.ver:Int)),(.int .i64 r.count),(.slice N r.nums.length cn)])] w (fun v w'=>v=.bool (iv r)∧Ext w w'):=by
 replace hx:=hx.top
 have hE:=aP w
 have mu:=cP xs
 rw[hv] at mu
 have hxc:=hx.1.2.1
 simp only[maxLen] at hxc
 refine aO Tryz.func15 ?_
 refine af (aa ?_)
 refine ar (bU) ?_
 rintro v w1 ⟨g1,rfl,au,dL,kM,ls⟩
 replace hx:=RdI.ext hx dL
 replace hE:=hE.tr dL
 refine va ?_
 refine ag (ae (af (aa ?_)))
 refine va ?_
 refine ag (ae (af (af (aa ?_))))
 refine va ?_
 refine ag (ae (a9 ?_))
 refine cU (fun i=>r.items.length - i) (fun i=>[(1,.pointer (some ⟨g1,0,none⟩)),(3,.int .i64 (gU (r.items.take i):Int)),(4,.int .i64 (i:Int))]) (fun i w'=>i≤r.items.length∧i≤101∧Blk w' g1 43 (b9 r X cx N cn)∧RdI w' lo w.heap.size X cx xs∧Ext w w') (0) (⟨Nat.zero_le _,Nat.zero_le _,au,hx,hE⟩) ?_ (hL:=⟨rfl,rfl,rfl,trivial⟩)
 rintro i wq ⟨nh,B4,au,hx,hE⟩
 refine af (af (aa ?_))
 refine vm ?_
 refine ab (ah cJ) ?_
 refine ab (ak fA au) ?_
 refine ab (bj Tryz.underlying40) ?_
 refine ab (bz) ?_
 refine aG (d:=9) (fun h9=>?_) (fun h9=>?_)
 ·refine vm ?_
  refine aj (aF) ?_
  refine aj (bz) ?_
  refine ab (ay) ?_
  refine ag (ae ?_)
  refine aL (fun dM=>?_) (fun dM=>?_)
  ·obtain⟨x,hk⟩:∃s,xs[i]?=some s:=⟨_,List.getElem?_eq_getElem (by omega)⟩
   have l6:=m2 hv hk
   have hvq:=nF l6
   have hvs2:=vG bI (i+1)
   refine aS (ae (af (a9 (aa ?_))))
   refine vm ?_
   refine ab (ah (off:=2) cJ) ?_
   refine ab (ak fA au) ?_
   refine aN (d:=18) rfl (v':=(.slice X xs.length cx)) (by rw[←hv,cP]) ?_
   refine vm ?_
   refine ar (cS nm hx.1 hk) ?_
   rintro v _ ⟨rfl,p20,rfl,LF,PY,P8⟩
   refine ar (nN iB rfl LF) ?_
   rintro v _ ⟨rfl,p21,rfl,Vg,ZV⟩
   refine ab (dv dc rfl (fg Vg)) ?_
   refine ab (bj Tryz.underlying32) ?_
   refine ab (bH) ?_
   refine va ?_
   refine ag (bb (ae (aa ?_)))
   refine vm ?_
   refine ab (bH) ?_
   refine va ?_
   refine ag ?_
   refine cB (i+1) (by show r.items.length -(i+1)<r.items.length - i;omega) (⟨by omega,by omega,au,hx,hE⟩) (hL:=⟨rfl,by rw[nF l6];rfl,rfl,trivial⟩)
  ·refine cW (bx (bx (ce (ae (af (aa ?_))))))
   refine ab (ah cJ) ?_
   refine ab (ak fA au) ?_
   refine ab (bj Tryz.underlying40) ?_
   refine ab (bw) ?_
   refine aG (d:=28) (fun Yp=>?_) (fun Yp=>?_)
   ·refine vm ?_
    iterate 4 refine aA ?_
    refine ab (ay) ?_
    refine vm ?_
    iterate 2 refine aA ?_
    refine ab (ay) ?_
    refine va ?_
    refine ag (ae (aE ?_))
    refine aY ?_
    have li:gU (r.items.take i)=gU (r.items.take 101):=by
     by_cases q:i=101
     ·rw[q]
     ·rw[show r.items.take i=r.items from List.take_of_length_le (by omega),show r.items.take 101=r.items from List.take_of_length_le (by omega)]
    refine⟨congrArg Value.bool (Bool.eq_iff_iff.2 ?_),hE⟩
    unfold iv
    rw[←li]
    simp only[Bool.or_eq_true,decide_eq_true_eq,Bool.false_eq_true,eq_self_iff_true,true_iff,false_iff]
    omega
   ·refine vm ?_
    refine aj (ah dI) ?_
    refine aj (ak iG au) ?_
    refine aj (bj Tryz.underlying41) ?_
    refine aj (bw) ?_
    refine aG (d:=33) (fun Ym=>?_) (fun Ym=>?_)
    ·refine ab (ap) ?_
     refine vm ?_
     iterate 2 refine aA ?_
     refine ab (ay) ?_
     refine va ?_
     refine ag (ae (aE ?_))
     refine aY ?_
     have li:gU (r.items.take i)=gU (r.items.take 101):=by
      by_cases q:i=101
      ·rw[q]
      ·rw[show r.items.take i=r.items from List.take_of_length_le (by omega),show r.items.take 101=r.items from List.take_of_length_le (by omega)]
     refine⟨congrArg Value.bool (Bool.eq_iff_iff.2 ?_),hE⟩
     unfold iv
     rw[←li]
     simp only[Bool.or_eq_true,decide_eq_true_eq,Bool.false_eq_true,eq_self_iff_true,true_iff,false_iff]
     omega
    ·refine ab (ap) ?_
     refine vm ?_
     refine aj (aF) ?_
     refine aj (bw) ?_
     refine ab (ap) ?_
     refine va ?_
     refine ag (ae (aE ?_))
     refine aY ?_
     have li:gU (r.items.take i)=gU (r.items.take 101):=by
      by_cases q:i=101
      ·rw[q]
      ·rw[show r.items.take i=r.items from List.take_of_length_le (by omega),show r.items.take 101=r.items from List.take_of_length_le (by omega)]
     refine⟨congrArg Value.bool (Bool.eq_iff_iff.2 ?_),hE⟩
     unfold iv
     rw[←li]
     simp only[Bool.or_eq_true,decide_eq_true_eq,Bool.false_eq_true,eq_self_iff_true,true_iff,false_iff]
     omega
 ·refine vm ?_
  iterate 2 refine aA ?_
  refine ab (ap) ?_
  refine ag (ae ?_)
  refine aC ?_
  refine cW (bx (bx (ce (ae (af (aa ?_))))))
  refine ab (ah cJ) ?_
  refine ab (ak fA au) ?_
  refine ab (bj Tryz.underlying40) ?_
  refine ab (bw) ?_
  refine aG (d:=28) (fun Yp=>?_) (fun Yp=>?_)
  ·refine vm ?_
   iterate 4 refine aA ?_
   refine ab (ay) ?_
   refine vm ?_
   iterate 2 refine aA ?_
   refine ab (ay) ?_
   refine va ?_
   refine ag (ae (aE ?_))
   refine aY ?_
   have li:gU (r.items.take i)=gU (r.items.take 101):=by
    by_cases q:i=101
    ·rw[q]
    ·rw[show r.items.take i=r.items from List.take_of_length_le (by omega),show r.items.take 101=r.items from List.take_of_length_le (by omega)]
   refine⟨congrArg Value.bool (Bool.eq_iff_iff.2 ?_),hE⟩
   unfold iv
   rw[←li]
   simp only[Bool.or_eq_true,decide_eq_true_eq,Bool.false_eq_true,eq_self_iff_true,true_iff,false_iff]
   omega
  ·refine vm ?_
   refine aj (ah dI) ?_
   refine aj (ak iG au) ?_
   refine aj (bj Tryz.underlying41) ?_
   refine aj (bw) ?_
   refine aG (d:=33) (fun Ym=>?_) (fun Ym=>?_)
   ·refine ab (ap) ?_
    refine vm ?_
    iterate 2 refine aA ?_
    refine ab (ay) ?_
    refine va ?_
    refine ag (ae (aE ?_))
    refine aY ?_
    have li:gU (r.items.take i)=gU (r.items.take 101):=by
     by_cases q:i=101
     ·rw[q]
     ·rw[show r.items.take i=r.items from List.take_of_length_le (by omega),show r.items.take 101=r.items from List.take_of_length_le (by omega)]
    refine⟨congrArg Value.bool (Bool.eq_iff_iff.2 ?_),hE⟩
    unfold iv
    rw[←li]
    simp only[Bool.or_eq_true,decide_eq_true_eq,Bool.false_eq_true,eq_self_iff_true,true_iff,false_iff]
    omega
   ·refine ab (ap) ?_
    refine vm ?_
    refine aj (aF) ?_
    refine aj (bw) ?_
    refine ab (ap) ?_
    refine va ?_
    refine ag (ae (aE ?_))
    refine aY ?_
    have li:gU (r.items.take i)=gU (r.items.take 101):=by
     by_cases q:i=101
     ·rw[q]
     ·rw[show r.items.take i=r.items from List.take_of_length_le (by omega),show r.items.take 101=r.items from List.take_of_length_le (by omega)]
    refine⟨congrArg Value.bool (Bool.eq_iff_iff.2 ?_),hE⟩
    unfold iv
    rw[←li]
    simp only[Bool.or_eq_true,decide_eq_true_eq,Bool.false_eq_true,eq_self_iff_true,true_iff,false_iff]
    omega
end Go.Proofs.YtiighkbehiddkaaGreat
namespace Go.Proofs.YtiighkbehiddkaaGreat
open Go.RowKit
set_option linter.unusedVariables false
set_option maxRecDepth 4000
theorem Gk:aX Tryz.prog 123=true:=by kernel_rfl
theorem JX:aX Tryz.prog 124=true:=by kernel_rfl
theorem R9:aX Tryz.prog 125=true:=by kernel_rfl
theorem No:aX Tryz.prog 81=true:=by kernel_rfl
theorem pi (op:Int):(aZ op).length≤5:=by
 unfold aZ
 repeat' split
 all_goals decide
/-- What the reference does with parts: copies one, allows one, writes one. -/
def eI (c s:Cmd) (p:UInt8):Cmd:=
 if p=107 then{s with key:=c.key} else if p=118 then{s with value:=c.value} else if p=116 then{s with tags:=c.tags} else if p=108 then{s with life:=c.life} else if p=110 then{s with ver:=c.ver}
 else if p=109 then{s with keys:=c.keys} else if p=103 then{s with tag:=c.tag} else if p=112 then{s with pre:=c.pre} else if p=99 then{s with child:=c.child} else s
def eJ (c:Cmd):Cmd:=(aZ c.op).foldl (eI c) (cmd0 c.op)
def og (c:Cmd) (p:UInt8):Bool:=
 if p=107 then kv c.key else if p=118 then vv c.value else if p=116 then c.tags.all tv&&decide (c.tags.length≤16) else if p=108 then decide (c.life≠0)
 else if p=109 then c.keys.all kv&&decide (1≤c.keys.length∧c.keys.length≤16) else if p=103 then tv c.tag else if p=112 then pv c.pre else if p=99 then kv c.child else true
def fd (c:Cmd):Bool:=decide (1≤c.op∧c.op≤15)&&decide (c=eJ c)&&(aZ c.op).all (og c)
def bC (c:Cmd) (p:UInt8):List UInt8:=
 if p=107 then pb c.key else if p=118 then pb c.value else if p=116 then wl c.tags else if p=108 then br c.life else if p=110 then br c.ver
 else if p=109 then wl c.keys else if p=103 then pb c.tag else if p=112 then pb c.pre else pb c.child
theorem eC {ps:List UInt8} {i:Nat} (h:i<ps.length:=by omega):ps.drop i=ps.getD i 0::ps.drop (i+1):=by
 rw[List.drop_eq_getElem_cons h,List.getD_eq_getElem?_getD,List.getElem?_eq_getElem h];rfl
theorem tJ (w:World) (s:List UInt8):
  Fn Tryz.prog 123 #[(.string (av s))] w (fun v w'=>v=.bool (kv s)∧w'=w):=by
 refine aO Tryz.func123 ?_
 refine af (aa ?_)
 refine va ?_
 refine ag (ae (af (aa ?_)))
 refine vm ?_
 refine ab (fW Tryz.underlying9) ?_
 refine ab (fX) ?_
 refine aG (d:=5) (fun h5=>?_) (fun h5=>?_)
 ·refine vm ?_
  refine aj (aF) ?_
  refine aj (fW Tryz.underlying9) ?_
  refine aj (dl) ?_
  refine ab (ay) ?_
  refine va ?_
  refine ag (ae (aE ?_))
  refine aY ?_
  refine⟨?_,rfl⟩
  unfold kv
  first|(rw[decide_eq_false];intro h;omega)|(congr 1;rw[decide_eq_decide];omega)
 ·refine vm ?_
  iterate 3 refine aA ?_
  refine ab (ap) ?_
  refine va ?_
  refine ag (ae (aE ?_))
  refine aY ?_
  refine⟨?_,rfl⟩
  unfold kv
  first|(rw[decide_eq_false];intro h;omega)|(congr 1;rw[decide_eq_decide];omega)
theorem zD (w:World) (s:List UInt8):
  Fn Tryz.prog 124 #[(.string (av s))] w (fun v w'=>v=.bool (tv s)∧w'=w):=by
 refine aO Tryz.func124 ?_
 refine af (aa ?_)
 refine va ?_
 refine ag (ae (af (aa ?_)))
 refine vm ?_
 refine ab (fW Tryz.underlying9) ?_
 refine ab (fX) ?_
 refine aG (d:=5) (fun h5=>?_) (fun h5=>?_)
 ·refine vm ?_
  refine aj (aF) ?_
  refine aj (fW Tryz.underlying9) ?_
  refine aj (dl) ?_
  refine ab (ay) ?_
  refine va ?_
  refine ag (ae (aE ?_))
  refine aY ?_
  refine⟨?_,rfl⟩
  unfold tv
  first|(rw[decide_eq_false];intro h;omega)|(congr 1;rw[decide_eq_decide];omega)
 ·refine vm ?_
  iterate 3 refine aA ?_
  refine ab (ap) ?_
  refine va ?_
  refine ag (ae (aE ?_))
  refine aY ?_
  refine⟨?_,rfl⟩
  unfold tv
  first|(rw[decide_eq_false];intro h;omega)|(congr 1;rw[decide_eq_decide];omega)
theorem G7 (w:World) (s:List UInt8):
  Fn Tryz.prog 125 #[(.string (av s))] w (fun v w'=>v=.bool (pv s)∧w'=w):=by
 refine aO Tryz.func125 ?_
 refine af (aa ?_)
 refine va ?_
 refine ag (ae (af (aa ?_)))
 refine vm ?_
 refine ab (fW Tryz.underlying9) ?_
 refine ab (dl) ?_
 refine va ?_
 refine ag (ae (aE ?_))
 refine aY ?_
 refine⟨?_,rfl⟩
 unfold pv
 congr 1;rw[decide_eq_decide];omega
theorem nI (w:World) (op:Int):
  Fn Tryz.prog 81 #[(.int .i64 op)] w (fun v w'=>v=.string (av (aZ op))∧w'=w):=by
 refine aO Tryz.func81 ?_
 refine af (aa ?_)
 refine va ?_
 refine ag (ae (af (af (aa ?_))))
 refine vm ?_
 refine ag (ae (a9 (af (af (aa ?_)))))
 refine ve ?_
 refine va ?_
 refine ag (ae ?_)
 refine aL (fun dM=>?_) (fun dM=>?_)
 ·refine aS (ae ?_)
  refine d6 rfl (decide_eq_true dM) ?_
  refine af (aa ?_)
  refine va ?_
  refine ag (ae (aE (aQ (az ?_))))
  refine aY ?_
  first
   |(exfalso;omega)
   |(refine⟨?_,rfl⟩;rw[show aZ op=[107,118,116,108] from by unfold aZ;repeat(first|rw[if_pos (by omega)]|rw[if_neg (by omega)])])
 ·refine aa ?_
  refine ve ?_
  refine va ?_
  refine ag (ae ?_)
  refine aL (fun eN=>?_) (fun eN=>?_)
  ·refine af (aa ?_)
   refine va ?_
   refine ag (ae (aE (aQ (az ?_))))
   refine aY ?_
   first
    |(exfalso;omega)
    |(refine⟨?_,rfl⟩;rw[show aZ op=[107,118,116,108] from by unfold aZ;repeat(first|rw[if_pos (by omega)]|rw[if_neg (by omega)])])
  ·refine af (aa ?_)
   refine ve ?_
   refine va ?_
   refine ag (ae ?_)
   refine aL (fun e9=>?_) (fun e9=>?_)
   ·refine af (aa ?_)
    refine va ?_
    refine ag (ae (aE (aQ (az ?_))))
    refine aY ?_
    first
     |(exfalso;omega)
     |(refine⟨?_,rfl⟩;rw[show aZ op=[107,118,116,108,110] from by unfold aZ;repeat(first|rw[if_pos (by omega)]|rw[if_neg (by omega)])])
   ·refine af (af (aa ?_))
    refine ve ?_
    refine va ?_
    refine ag (ae ?_)
    refine aL (fun iD=>?_) (fun iD=>?_)
    ·refine aS (ae ?_)
     refine d6 rfl (decide_eq_true iD) ?_
     refine af (aa ?_)
     refine va ?_
     refine ag (ae (aE (aQ (az ?_))))
     refine aY ?_
     first
      |(exfalso;omega)
      |(refine⟨?_,rfl⟩;rw[show aZ op=[107] from by unfold aZ;repeat(first|rw[if_pos (by omega)]|rw[if_neg (by omega)])])
    ·refine af (aa ?_)
     refine ve ?_
     refine va ?_
     refine ag (ae ?_)
     refine aL (fun ld=>?_) (fun ld=>?_)
     ·refine aS (ae ?_)
      refine d6 rfl (decide_eq_true ld) ?_
      refine af (aa ?_)
      refine va ?_
      refine ag (ae (aE (aQ (az ?_))))
      refine aY ?_
      first
       |(exfalso;omega)
       |(refine⟨?_,rfl⟩;rw[show aZ op=[107] from by unfold aZ;repeat(first|rw[if_pos (by omega)]|rw[if_neg (by omega)])])
     ·refine aa ?_
      refine ve ?_
      refine va ?_
      refine ag (ae ?_)
      refine aL (fun pC=>?_) (fun pC=>?_)
      ·refine af (aa ?_)
       refine va ?_
       refine ag (ae (aE (aQ (az ?_))))
       refine aY ?_
       first
        |(exfalso;omega)
        |(refine⟨?_,rfl⟩;rw[show aZ op=[107] from by unfold aZ;repeat(first|rw[if_pos (by omega)]|rw[if_neg (by omega)])])
      ·refine af (aa ?_)
       refine ve ?_
       refine va ?_
       refine ag (ae ?_)
       refine aL (fun E7=>?_) (fun E7=>?_)
       ·refine af (aa ?_)
        refine va ?_
        refine ag (ae (aE (aQ (az ?_))))
        refine aY ?_
        first
         |(exfalso;omega)
         |(refine⟨?_,rfl⟩;rw[show aZ op=[109] from by unfold aZ;repeat(first|rw[if_pos (by omega)]|rw[if_neg (by omega)])])
       ·refine af (aa ?_)
        refine ve ?_
        refine va ?_
        refine ag (ae ?_)
        refine aL (fun Ir=>?_) (fun Ir=>?_)
        ·refine af (aa ?_)
         refine va ?_
         refine ag (ae (aE (aQ (az ?_))))
         refine aY ?_
         first
          |(exfalso;omega)
          |(refine⟨?_,rfl⟩;rw[show aZ op=[107,108] from by unfold aZ;repeat(first|rw[if_pos (by omega)]|rw[if_neg (by omega)])])
        ·refine af (af (aa ?_))
         refine ve ?_
         refine va ?_
         refine ag (ae ?_)
         refine aL (fun GN=>?_) (fun GN=>?_)
         ·refine aS (ae ?_)
          refine d6 rfl (decide_eq_true GN) ?_
          refine af (aa ?_)
          refine va ?_
          refine ag (ae (aE (aQ (az ?_))))
          refine aY ?_
          first
           |(exfalso;omega)
           |(refine⟨?_,rfl⟩;rw[show aZ op=[103] from by unfold aZ;repeat(first|rw[if_pos (by omega)]|rw[if_neg (by omega)])])
         ·refine aa ?_
          refine ve ?_
          refine va ?_
          refine ag (ae ?_)
          refine aL (fun uK=>?_) (fun uK=>?_)
          ·refine af (aa ?_)
           refine va ?_
           refine ag (ae (aE (aQ (az ?_))))
           refine aY ?_
           first
            |(exfalso;omega)
            |(refine⟨?_,rfl⟩;rw[show aZ op=[103] from by unfold aZ;repeat(first|rw[if_pos (by omega)]|rw[if_neg (by omega)])])
          ·refine af (aa ?_)
           refine ve ?_
           refine va ?_
           refine ag (ae ?_)
           refine aL (fun uJ=>?_) (fun uJ=>?_)
           ·refine af (aa ?_)
            refine va ?_
            refine ag (ae (aE (aQ (az ?_))))
            refine aY ?_
            first
             |(exfalso;omega)
             |(refine⟨?_,rfl⟩;rw[show aZ op=[112] from by unfold aZ;repeat(first|rw[if_pos (by omega)]|rw[if_neg (by omega)])])
           ·refine af (af (aa ?_))
            refine ve ?_
            refine va ?_
            refine ag (ae ?_)
            refine aL (fun sI=>?_) (fun sI=>?_)
            ·refine aS (ae ?_)
             refine d6 rfl (decide_eq_true sI) ?_
             refine af (aa ?_)
             refine va ?_
             refine ag (ae (aE (aQ (az ?_))))
             refine aY ?_
             first
              |(exfalso;omega)
              |(refine⟨?_,rfl⟩;rw[show aZ op=[107,99] from by unfold aZ;repeat(first|rw[if_pos (by omega)]|rw[if_neg (by omega)])])
            ·refine aa ?_
             refine ve ?_
             refine va ?_
             refine ag (ae ?_)
             refine aL (fun Fd=>?_) (fun Fd=>?_)
             ·refine af (aa ?_)
              refine va ?_
              refine ag (ae (aE (aQ (az ?_))))
              refine aY ?_
              first
               |(exfalso;omega)
               |(refine⟨?_,rfl⟩;rw[show aZ op=[107,99] from by unfold aZ;repeat(first|rw[if_pos (by omega)]|rw[if_neg (by omega)])])
             ·refine aS (bb (ae (af (aa ?_))))
              refine va ?_
              refine ag (ae (aE ?_))
              refine aY ?_
              first
               |(exfalso;omega)
               |(refine⟨?_,rfl⟩;rw[show aZ op=[] from by unfold aZ;repeat(first|rw[if_pos (by omega)]|rw[if_neg (by omega)])])
theorem wm (w:World) (c:Cmd) (lo hi:Nat) (K:Option Addr) (ck:Nat) (V:Option Addr) (cv:Nat) (T:Option Addr) (ct:Nat) (hK:RdS w lo hi K ck c.keys) (hV:RdB w lo hi V cv c.value) (hT:RdS w lo hi T ct c.tags):
  Fn Tryz.prog 99 #[(.agg #[(.int .i64 c.op),(.string (av c.key)),(.slice K c.keys.length ck),(.slice V c.value.length cv),(.slice T c.tags.length ct),(.int .u64 (↑c.life:Int)),(.int .u64 (↑c.ver:Int)),(.string (av c.tag)),(.string (av c.pre)),(.string (av c.child))])] w (fun v w'=>∃K1 k1 V1 v1 T1 t1,v=.agg (cL (eJ c) K1 k1 V1 v1 T1 t1).toArray∧RdS w' lo w.heap.size K1 k1 (eJ c).keys∧RdB w' lo w.heap.size V1 v1 (eJ c).value∧RdS w' lo w.heap.size T1 t1 (eJ c).tags∧Ext w w'):=by
 replace hK:=hK.top
 replace hV:=hV.top
 replace hT:=hT.top
 have hE:=aP w
 refine aO Tryz.func99 ?_
 refine af (aa ?_)
 refine ar (bU) ?_
 rintro v w1 ⟨g1,rfl,au,dL,kM,ls⟩
 replace hK:=hK.ext dL
 replace hV:=hV.ext dL
 replace hT:=hT.ext dL
 replace hE:=hE.tr dL
 refine ar (bc fl) ?_
 rintro v w2 ⟨g2,rfl,aq,dk,my,nd⟩
 replace hK:=hK.ext dk
 replace hV:=hV.ext dk
 replace hT:=hT.ext dk
 replace hE:=hE.tr dk
 replace au:=au.ext dk
 refine ag (ae (af (aa ?_)))
 refine ab (ah dA) ?_
 refine ab (ak cO au) ?_
 refine ab (bi fl lf) ?_
 refine ar (bc (cs:=[(.int .i64 0),(.string (av [])),(.slice none 0 0),(.slice none 0 0),(.slice none 0 0),(.int .u64 0),(.int .u64 0),(.string (av [])),(.string (av [])),(.string (av []))]) fl) ?_
 rintro v w3 ⟨g3,rfl,aM,d7,sy,su⟩
 replace hK:=hK.ext d7
 replace hV:=hV.ext d7
 replace hT:=hT.ext d7
 replace hE:=hE.tr d7
 replace au:=au.ext d7
 replace aq:=aq.ext d7
 refine aB (aD (vs:=[(.int .i64 c.op),(.string (av [])),(.slice none 0 0),(.slice none 0 0),(.slice none 0 0),(.int .u64 0),(.int .u64 0),(.string (av [])),(.string (av [])),(.string (av []))]) fy aM) ?_
 rintro _ w4 ⟨gT,cQ⟩
 replace hK:=hK.gr cQ
 replace hV:=hV.gr cQ
 replace hT:=hT.gr cQ
 replace hE:=hE.gr cQ
 replace au:=au.gr cQ
 replace aq:=aq.gr cQ
 replace aM:=gT
 refine ag (ae (af (aa ?_)))
 refine ab (ah dA) ?_
 refine ab (ak cO au) ?_
 refine ab (aw No (nI _ c.op)) ?_
 refine va ?_
 refine ag (ae (af (af (aa ?_))))
 refine va ?_
 refine ag (ae (a9 ?_))
 refine cU (σ:=Nat×Cmd) (fun s=>(aZ c.op).length - s.1) (fun s=>[(1,.pointer (some ⟨g1,0,none⟩)),(2,.pointer (some ⟨g2,0,none⟩)),(3,.pointer (some ⟨g3,0,none⟩)),(4,.string (av (aZ c.op))),(5,.int .i64 (s.1:Int))]) (fun s w'=>s.1≤(aZ c.op).length∧eJ c=((aZ c.op).drop s.1).foldl (eI c) s.2∧Blk w' g1 39 (cL c K ck V cv T ct)∧Blk w' g2 39 [(.int .i64 0),(.string (av ([]:List UInt8))),(.slice none 0 0),(.slice none 0 0),(.slice none 0 0),(.int .u64 0),(.int .u64 0),(.string (av ([]:List UInt8))),(.string (av ([]:List UInt8))),(.string (av ([]:List UInt8)))]∧(∃K1 k1 V1 v1 T1 t1,Blk w' g3 39 (cL s.2 K1 k1 V1 v1 T1 t1)∧RdS w' lo w.heap.size K1 k1 s.2.keys∧RdB w' lo w.heap.size V1 v1 s.2.value∧RdS w' lo w.heap.size T1 t1 s.2.tags)∧RdS w' lo w.heap.size K ck c.keys∧RdB w' lo w.heap.size V cv c.value∧RdS w' lo w.heap.size T ct c.tags∧Ext w w') ((0,cmd0 c.op)) (⟨Nat.zero_le _,rfl,au,aq,⟨none,0,none,0,none,0,aM,Rd.nil _ _ _ _ _ _ (Nat.zero_le _),Rd.nil _ _ _ _ _ _ (Nat.zero_le _),Rd.nil _ _ _ _ _ _ (Nat.zero_le _)⟩,hK,hV,hT,hE⟩) ?_ (hL:=⟨rfl,rfl,rfl,rfl,rfl,trivial⟩)
 rintro⟨i,s⟩ wq ⟨nh,sF,au,aq,⟨K1,k1,V1,v1,T1,t1,aM,lx,lv,lw⟩,hK,hV,hT,hE⟩
 simp only at nh sF
 have Am:=pi c.op
 have hzb3:=aM.lt
 replace au:Blk wq g1 39 [(.int .i64 c.op),(.string (av c.key)),(.slice K c.keys.length ck),(.slice V c.value.length cv),(.slice T c.tags.length ct),(.int .u64 (↑c.life:Int)),(.int .u64 (↑c.ver:Int)),(.string (av c.tag)),(.string (av c.pre)),(.string (av c.child))]:=au
 replace aM:Blk wq g3 39 [(.int .i64 s.op),(.string (av s.key)),(.slice K1 s.keys.length k1),(.slice V1 s.value.length v1),(.slice T1 s.tags.length t1),(.int .u64 (↑s.life:Int)),(.int .u64 (↑s.ver:Int)),(.string (av s.tag)),(.string (av s.pre)),(.string (av s.child))]:=aM
 refine af (af (aa ?_))
 iterate 2 refine vm ?_
 refine ab (fW Tryz.underlying9) ?_
 refine ab (bz) ?_
 refine ag (ae ?_)
 refine aL (fun dM=>?_) (fun dM=>?_)
 ·refine aS (ae (af (a9 (af (aa ?_)))))
  iterate 2 refine vm ?_
  refine ab (pd Tryz.underlying9 rfl rfl) ?_
  refine ag (ae (a9 (af (aa ?_))))
  refine ve ?_
  refine va ?_
  refine ag (ae ?_)
  refine aL (fun eN=>?_) (fun eN=>?_)
  ·have eb:((aZ c.op).getD i 0)=107:=toNat_inj eN
   have it:eI c s ((aZ c.op).getD i 0)={s with key:=c.key}:=by rw[eb];rfl
   refine aa ?_
   refine ab (ah hU) ?_
   refine ab (ak qU au) ?_
   refine ab (ah hU) ?_
   refine aB (aU CU aM) ?_
   rintro _ w5 ⟨pE,fB⟩
   replace hK:=hK.gr fB
   replace hV:=hV.gr fB
   replace hT:=hT.gr fB
   replace au:=au.gr fB
   replace aq:=aq.gr fB
   replace lx:=lx.gr fB
   replace lv:=lv.gr fB
   replace lw:=lw.gr fB
   replace hE:=hE.gr fB
   replace aM:=pE
   refine ag (bb (bb (ae (aa ?_))))
   refine vm ?_
   refine ab (bH) ?_
   refine va ?_
   refine ag ?_
   refine cB ((i+1,{s with key:=c.key})) (by show(aZ c.op).length -(i+1)<(aZ c.op).length - i;omega) (⟨by show i+1≤_;omega,by show eJ c=((aZ c.op).drop (i+1)).foldl (eI c) {s with key:=c.key};rw[sF,eC,List.foldl_cons,it],au,aq,⟨K1,k1,V1,v1,T1,t1,aM,lx,lv,lw⟩,hK,hV,hT,hE⟩) (hL:=⟨rfl,rfl,rfl,rfl,rfl,trivial⟩)
  ·have nb107:¬((aZ c.op).getD i 0)=107:=fun e=>eN (show(↑((aZ c.op).getD i 0).toNat:Int)=107 by rw[e];rfl)
   refine af (aa ?_)
   refine ve ?_
   refine va ?_
   refine ag (ae ?_)
   refine aL (fun e9=>?_) (fun e9=>?_)
   ·have eb:((aZ c.op).getD i 0)=118:=toNat_inj e9
    have it:eI c s ((aZ c.op).getD i 0)={s with value:=c.value}:=by rw[eb];rfl
    refine aa ?_
    refine ab (ah k9) ?_
    refine ab (ak dc au) ?_
    refine ab (ah k9) ?_
    refine aB (aU gV aM) ?_
    rintro _ w205 ⟨cy,ba⟩
    replace hK:=hK.gr ba
    replace hV:=hV.gr ba
    replace hT:=hT.gr ba
    replace au:=au.gr ba
    replace aq:=aq.gr ba
    replace lx:=lx.gr ba
    replace lw:=lw.gr ba
    replace hE:=hE.gr ba
    replace aM:=cy
    refine ag (bb (bb (ae (aa ?_))))
    refine vm ?_
    refine ab (bH) ?_
    refine va ?_
    refine ag ?_
    refine cB ((i+1,{s with value:=c.value})) (by show(aZ c.op).length -(i+1)<(aZ c.op).length - i;omega) (⟨by show i+1≤_;omega,by show eJ c=((aZ c.op).drop (i+1)).foldl (eI c) {s with value:=c.value};rw[sF,eC,List.foldl_cons,it],au,aq,⟨K1,k1,V,cv,T1,t1,aM,lx,hV,lw⟩,hK,hV,hT,hE⟩) (hL:=⟨rfl,rfl,rfl,rfl,rfl,trivial⟩)
   ·have nb118:¬((aZ c.op).getD i 0)=118:=fun e=>e9 (show(↑((aZ c.op).getD i 0).toNat:Int)=118 by rw[e];rfl)
    refine af (aa ?_)
    refine ve ?_
    refine va ?_
    refine ag (ae ?_)
    refine aL (fun iD=>?_) (fun iD=>?_)
    ·have eb:((aZ c.op).getD i 0)=116:=toNat_inj iD
     have it:eI c s ((aZ c.op).getD i 0)={s with tags:=c.tags}:=by rw[eb];rfl
     refine aa ?_
     refine ab (ah iX) ?_
     refine ab (ak jy au) ?_
     refine ab (ah iX) ?_
     refine aB (aU vN aM) ?_
     rintro _ w205 ⟨cy,ba⟩
     replace hK:=hK.gr ba
     replace hV:=hV.gr ba
     replace hT:=hT.gr ba
     replace au:=au.gr ba
     replace aq:=aq.gr ba
     replace lx:=lx.gr ba
     replace lv:=lv.gr ba
     replace hE:=hE.gr ba
     replace aM:=cy
     refine ag (bb (bb (ae (aa ?_))))
     refine vm ?_
     refine ab (bH) ?_
     refine va ?_
     refine ag ?_
     refine cB ((i+1,{s with tags:=c.tags})) (by show(aZ c.op).length -(i+1)<(aZ c.op).length - i;omega) (⟨by show i+1≤_;omega,by show eJ c=((aZ c.op).drop (i+1)).foldl (eI c) {s with tags:=c.tags};rw[sF,eC,List.foldl_cons,it],au,aq,⟨K1,k1,V1,v1,T,ct,aM,lx,lv,hT⟩,hK,hV,hT,hE⟩) (hL:=⟨rfl,rfl,rfl,rfl,rfl,trivial⟩)
    ·have nb116:¬((aZ c.op).getD i 0)=116:=fun e=>iD (show(↑((aZ c.op).getD i 0).toNat:Int)=116 by rw[e];rfl)
     refine af (aa ?_)
     refine ve ?_
     refine va ?_
     refine ag (ae ?_)
     refine aL (fun ld=>?_) (fun ld=>?_)
     ·have eb:((aZ c.op).getD i 0)=108:=toNat_inj ld
      have it:eI c s ((aZ c.op).getD i 0)={s with life:=c.life}:=by rw[eb];rfl
      refine aa ?_
      refine ab (ah k8) ?_
      refine ab (ak pg au) ?_
      refine ab (ah k8) ?_
      refine aB (aU G4 aM) ?_
      rintro _ w205 ⟨cy,ba⟩
      replace hK:=hK.gr ba
      replace hV:=hV.gr ba
      replace hT:=hT.gr ba
      replace au:=au.gr ba
      replace aq:=aq.gr ba
      replace lx:=lx.gr ba
      replace lv:=lv.gr ba
      replace lw:=lw.gr ba
      replace hE:=hE.gr ba
      replace aM:=cy
      refine ag (bb (bb (ae (aa ?_))))
      refine vm ?_
      refine ab (bH) ?_
      refine va ?_
      refine ag ?_
      refine cB ((i+1,{s with life:=c.life})) (by show(aZ c.op).length -(i+1)<(aZ c.op).length - i;omega) (⟨by show i+1≤_;omega,by show eJ c=((aZ c.op).drop (i+1)).foldl (eI c) {s with life:=c.life};rw[sF,eC,List.foldl_cons,it],au,aq,⟨K1,k1,V1,v1,T1,t1,aM,lx,lv,lw⟩,hK,hV,hT,hE⟩) (hL:=⟨rfl,rfl,rfl,rfl,rfl,trivial⟩)
     ·have nb108:¬((aZ c.op).getD i 0)=108:=fun e=>ld (show(↑((aZ c.op).getD i 0).toNat:Int)=108 by rw[e];rfl)
      refine af (aa ?_)
      refine ve ?_
      refine va ?_
      refine ag (ae ?_)
      refine aL (fun pC=>?_) (fun pC=>?_)
      ·have eb:((aZ c.op).getD i 0)=110:=toNat_inj pC
       have it:eI c s ((aZ c.op).getD i 0)={s with ver:=c.ver}:=by rw[eb];rfl
       refine aa ?_
       refine ab (ah pL) ?_
       refine ab (ak ft au) ?_
       refine ab (ah pL) ?_
       refine aB (aU mi aM) ?_
       rintro _ w205 ⟨cy,ba⟩
       replace hK:=hK.gr ba
       replace hV:=hV.gr ba
       replace hT:=hT.gr ba
       replace au:=au.gr ba
       replace aq:=aq.gr ba
       replace lx:=lx.gr ba
       replace lv:=lv.gr ba
       replace lw:=lw.gr ba
       replace hE:=hE.gr ba
       replace aM:=cy
       refine ag (bb (bb (ae (aa ?_))))
       refine vm ?_
       refine ab (bH) ?_
       refine va ?_
       refine ag ?_
       refine cB ((i+1,{s with ver:=c.ver})) (by show(aZ c.op).length -(i+1)<(aZ c.op).length - i;omega) (⟨by show i+1≤_;omega,by show eJ c=((aZ c.op).drop (i+1)).foldl (eI c) {s with ver:=c.ver};rw[sF,eC,List.foldl_cons,it],au,aq,⟨K1,k1,V1,v1,T1,t1,aM,lx,lv,lw⟩,hK,hV,hT,hE⟩) (hL:=⟨rfl,rfl,rfl,rfl,rfl,trivial⟩)
      ·have nb110:¬((aZ c.op).getD i 0)=110:=fun e=>pC (show(↑((aZ c.op).getD i 0).toNat:Int)=110 by rw[e];rfl)
       refine af (aa ?_)
       refine ve ?_
       refine va ?_
       refine ag (ae ?_)
       refine aL (fun E7=>?_) (fun E7=>?_)
       ·have eb:((aZ c.op).getD i 0)=109:=toNat_inj E7
        have it:eI c s ((aZ c.op).getD i 0)={s with keys:=c.keys}:=by rw[eb];rfl
        refine aa ?_
        refine ab (ah jH) ?_
        refine ab (ak jy au) ?_
        refine ab (ah jH) ?_
        refine aB (aU vN aM) ?_
        rintro _ w205 ⟨cy,ba⟩
        replace hK:=hK.gr ba
        replace hV:=hV.gr ba
        replace hT:=hT.gr ba
        replace au:=au.gr ba
        replace aq:=aq.gr ba
        replace lv:=lv.gr ba
        replace lw:=lw.gr ba
        replace hE:=hE.gr ba
        replace aM:=cy
        refine ag (bb (bb (ae (aa ?_))))
        refine vm ?_
        refine ab (bH) ?_
        refine va ?_
        refine ag ?_
        refine cB ((i+1,{s with keys:=c.keys})) (by show(aZ c.op).length -(i+1)<(aZ c.op).length - i;omega) (⟨by show i+1≤_;omega,by show eJ c=((aZ c.op).drop (i+1)).foldl (eI c) {s with keys:=c.keys};rw[sF,eC,List.foldl_cons,it],au,aq,⟨K,ck,V1,v1,T1,t1,aM,hK,lv,lw⟩,hK,hV,hT,hE⟩) (hL:=⟨rfl,rfl,rfl,rfl,rfl,trivial⟩)
       ·have nb109:¬((aZ c.op).getD i 0)=109:=fun e=>E7 (show(↑((aZ c.op).getD i 0).toNat:Int)=109 by rw[e];rfl)
        refine af (aa ?_)
        refine ve ?_
        refine va ?_
        refine ag (ae ?_)
        refine aL (fun Ir=>?_) (fun Ir=>?_)
        ·have eb:((aZ c.op).getD i 0)=103:=toNat_inj Ir
         have it:eI c s ((aZ c.op).getD i 0)={s with tag:=c.tag}:=by rw[eb];rfl
         refine aa ?_
         refine ab (ah mQ) ?_
         refine ab (ak qU au) ?_
         refine ab (ah mQ) ?_
         refine aB (aU CU aM) ?_
         rintro _ w205 ⟨cy,ba⟩
         replace hK:=hK.gr ba
         replace hV:=hV.gr ba
         replace hT:=hT.gr ba
         replace au:=au.gr ba
         replace aq:=aq.gr ba
         replace lx:=lx.gr ba
         replace lv:=lv.gr ba
         replace lw:=lw.gr ba
         replace hE:=hE.gr ba
         replace aM:=cy
         refine ag (bb (bb (ae (aa ?_))))
         refine vm ?_
         refine ab (bH) ?_
         refine va ?_
         refine ag ?_
         refine cB ((i+1,{s with tag:=c.tag})) (by show(aZ c.op).length -(i+1)<(aZ c.op).length - i;omega) (⟨by show i+1≤_;omega,by show eJ c=((aZ c.op).drop (i+1)).foldl (eI c) {s with tag:=c.tag};rw[sF,eC,List.foldl_cons,it],au,aq,⟨K1,k1,V1,v1,T1,t1,aM,lx,lv,lw⟩,hK,hV,hT,hE⟩) (hL:=⟨rfl,rfl,rfl,rfl,rfl,trivial⟩)
        ·have nb103:¬((aZ c.op).getD i 0)=103:=fun e=>Ir (show(↑((aZ c.op).getD i 0).toNat:Int)=103 by rw[e];rfl)
         refine af (aa ?_)
         refine ve ?_
         refine va ?_
         refine ag (ae ?_)
         refine aL (fun GN=>?_) (fun GN=>?_)
         ·have eb:((aZ c.op).getD i 0)=112:=toNat_inj GN
          have it:eI c s ((aZ c.op).getD i 0)={s with pre:=c.pre}:=by rw[eb];rfl
          refine aa ?_
          refine ab (ah ob) ?_
          refine ab (ak qU au) ?_
          refine ab (ah ob) ?_
          refine aB (aU CU aM) ?_
          rintro _ w205 ⟨cy,ba⟩
          replace hK:=hK.gr ba
          replace hV:=hV.gr ba
          replace hT:=hT.gr ba
          replace au:=au.gr ba
          replace aq:=aq.gr ba
          replace lx:=lx.gr ba
          replace lv:=lv.gr ba
          replace lw:=lw.gr ba
          replace hE:=hE.gr ba
          replace aM:=cy
          refine ag (bb (bb (ae (aa ?_))))
          refine vm ?_
          refine ab (bH) ?_
          refine va ?_
          refine ag ?_
          refine cB ((i+1,{s with pre:=c.pre})) (by show(aZ c.op).length -(i+1)<(aZ c.op).length - i;omega) (⟨by show i+1≤_;omega,by show eJ c=((aZ c.op).drop (i+1)).foldl (eI c) {s with pre:=c.pre};rw[sF,eC,List.foldl_cons,it],au,aq,⟨K1,k1,V1,v1,T1,t1,aM,lx,lv,lw⟩,hK,hV,hT,hE⟩) (hL:=⟨rfl,rfl,rfl,rfl,rfl,trivial⟩)
         ·have nb112:¬((aZ c.op).getD i 0)=112:=fun e=>GN (show(↑((aZ c.op).getD i 0).toNat:Int)=112 by rw[e];rfl)
          refine af (aa ?_)
          refine ve ?_
          refine va ?_
          refine ag (ae ?_)
          refine aL (fun uK=>?_) (fun uK=>?_)
          ·have eb:((aZ c.op).getD i 0)=99:=toNat_inj uK
           have it:eI c s ((aZ c.op).getD i 0)={s with child:=c.child}:=by rw[eb];rfl
           refine aa ?_
           refine ab (ah mP) ?_
           refine ab (ak qU au) ?_
           refine ab (ah mP) ?_
           refine aB (aU CU aM) ?_
           rintro _ w205 ⟨cy,ba⟩
           replace hK:=hK.gr ba
           replace hV:=hV.gr ba
           replace hT:=hT.gr ba
           replace au:=au.gr ba
           replace aq:=aq.gr ba
           replace lx:=lx.gr ba
           replace lv:=lv.gr ba
           replace lw:=lw.gr ba
           replace hE:=hE.gr ba
           replace aM:=cy
           refine ag (bb (bb (ae (aa ?_))))
           refine vm ?_
           refine ab (bH) ?_
           refine va ?_
           refine ag ?_
           refine cB ((i+1,{s with child:=c.child})) (by show(aZ c.op).length -(i+1)<(aZ c.op).length - i;omega) (⟨by show i+1≤_;omega,by show eJ c=((aZ c.op).drop (i+1)).foldl (eI c) {s with child:=c.child};rw[sF,eC,List.foldl_cons,it],au,aq,⟨K1,k1,V1,v1,T1,t1,aM,lx,lv,lw⟩,hK,hV,hT,hE⟩) (hL:=⟨rfl,rfl,rfl,rfl,rfl,trivial⟩)
          ·have nb99:¬((aZ c.op).getD i 0)=99:=fun e=>uK (show(↑((aZ c.op).getD i 0).toNat:Int)=99 by rw[e];rfl)
           have it:eI c s ((aZ c.op).getD i 0)=s:=by unfold eI;rw[if_neg nb107,if_neg nb118,if_neg nb116,if_neg nb108,if_neg nb110,if_neg nb109,if_neg nb103,if_neg nb112,if_neg nb99]
           refine aS (bb (bb (ae (aa ?_))))
           refine vm ?_
           refine ab (bH) ?_
           refine va ?_
           refine ag ?_
           refine cB ((i+1,s)) (by show(aZ c.op).length -(i+1)<(aZ c.op).length - i;omega) (⟨by show i+1≤_;omega,by show eJ c=((aZ c.op).drop (i+1)).foldl (eI c) s;rw[sF,eC,List.foldl_cons,it],au,aq,⟨K1,k1,V1,v1,T1,t1,aM,lx,lv,lw⟩,hK,hV,hT,hE⟩) (hL:=⟨rfl,rfl,rfl,rfl,rfl,trivial⟩)
 ·have Tg:eJ c=s:=by rw[sF,List.drop_of_length_le (by omega)];rfl
  refine cW (bx (bx (ce (ae (af (aa ?_))))))
  refine ab (aK (cs:=[(.int .i64 s.op),(.string (av s.key)),(.slice K1 s.keys.length k1),(.slice V1 s.value.length v1),(.slice T1 s.tags.length t1),(.int .u64 (↑s.life:Int)),(.int .u64 (↑s.ver:Int)),(.string (av s.tag)),(.string (av s.pre)),(.string (av s.child))]) cc aM) ?_
  refine aB (aD (vs:=[(.int .i64 s.op),(.string (av s.key)),(.slice K1 s.keys.length k1),(.slice V1 s.value.length v1),(.slice T1 s.tags.length t1),(.int .u64 (↑s.life:Int)),(.int .u64 (↑s.ver:Int)),(.string (av s.tag)),(.string (av s.pre)),(.string (av s.child))]) fy aq) ?_
  rintro _ w205 ⟨cy,ba⟩
  replace lx:=lx.gr ba
  replace lv:=lv.gr ba
  replace lw:=lw.gr ba
  replace hE:=hE.gr ba
  replace aq:=cy
  refine ag (ae (aE ?_))
  refine bm (vs:=[.agg #[(.int .i64 s.op),(.string (av s.key)),(.slice K1 s.keys.length k1),(.slice V1 s.value.length v1),(.slice T1 s.tags.length t1),(.int .u64 (↑s.life:Int)),(.int .u64 (↑s.ver:Int)),(.string (av s.tag)),(.string (av s.pre)),(.string (av s.child))]]) rfl ⟨⟨_,_,[(.int .i64 s.op),(.string (av s.key)),(.slice K1 s.keys.length k1),(.slice V1 s.value.length v1),(.slice T1 s.tags.length t1),(.int .u64 (↑s.life:Int)),(.int .u64 (↑s.ver:Int)),(.string (av s.tag)),(.string (av s.pre)),(.string (av s.child))],rfl,cc,aq,rfl⟩,trivial⟩ ?_
  refine⟨K1,k1,V1,v1,T1,t1,?_,?_,?_,?_,hE⟩
  ·rw[Tg];rfl
  ·rw[Tg];exact lx
  ·rw[Tg];exact lv
  ·rw[Tg];exact lw
theorem xQ (w:World) (c:Cmd) (lo hi:Nat) (K:Option Addr) (ck:Nat) (V:Option Addr) (cv:Nat) (T:Option Addr) (ct:Nat) (hK:RdS w lo hi K ck c.keys) (hV:RdB w lo hi V cv c.value) (hT:RdS w lo hi T ct c.tags) (p:UInt8):
  Fn Tryz.prog 100 #[(.agg #[(.int .i64 c.op),(.string (av c.key)),(.slice K c.keys.length ck),(.slice V c.value.length cv),(.slice T c.tags.length ct),(.int .u64 (↑c.life:Int)),(.int .u64 (↑c.ver:Int)),(.string (av c.tag)),(.string (av c.pre)),(.string (av c.child))]),(.int .u8 (↑p.toNat:Int))] w (fun v w'=>v=.bool (og c p)∧Ext w w'):=by
 replace hK:=hK.top
 replace hV:=hV.top
 replace hT:=hT.top
 have hE:=aP w
 refine aO Tryz.func100 ?_
 refine af (aa ?_)
 refine ar (bU) ?_
 rintro v w1 ⟨g2,rfl,aq,dk,my,nd⟩
 replace hK:=hK.ext dk
 replace hV:=hV.ext dk
 replace hT:=hT.ext dk
 replace hE:=hE.tr dk
 refine va ?_
 refine ag (ae (af (af (aa ?_))))
 refine vm ?_
 refine ag (ae (a9 (af (aa ?_))))
 refine ve ?_
 refine va ?_
 refine ag (ae ?_)
 refine aL (fun dM=>?_) (fun dM=>?_)
 ·have ea:og c p=(kv c.key):=by rw[show p=107 from toNat_inj dM];rfl
  refine af (aa ?_)
  refine ab (ah hU) ?_
  refine ab (ak qU aq) ?_
  refine ab (aw Gk (tJ _ c.key)) ?_
  refine va ?_
  refine ag (ae (aE (aQ (az ?_))))
  refine aY ?_
  refine⟨?_,hE⟩
  rw[ea]
  all_goals first
   |rfl
   |(rw[BT];rfl)
   |(rw[oG,Bool.true_and];congr 1;rw[decide_eq_decide];omega)
   |(rw[oG,Bool.true_and,decide_eq_false (by omega)])
   |(unfold vv;congr 1;rw[decide_eq_decide];omega)
   |(congr 1;rw[decide_eq_decide];omega)
 ·have nb107:¬p=107:=fun e=>dM (by rw[e];rfl)
  refine af (aa ?_)
  refine ve ?_
  refine va ?_
  refine ag (ae ?_)
  refine aL (fun eN=>?_) (fun eN=>?_)
  ·have ea:og c p=(vv c.value):=by rw[show p=118 from toNat_inj eN];rfl
   refine af (aa ?_)
   refine ab (ah k9) ?_
   refine ab (ak dc aq) ?_
   refine ab (bj Tryz.underlying32) ?_
   refine ab (dl) ?_
   refine va ?_
   refine ag (ae (aE (aQ (az ?_))))
   refine aY ?_
   refine⟨?_,hE⟩
   rw[ea]
   all_goals first
    |rfl
    |(rw[BT];rfl)
    |(rw[oG,Bool.true_and];congr 1;rw[decide_eq_decide];omega)
    |(rw[oG,Bool.true_and,decide_eq_false (by omega)])
    |(unfold vv;congr 1;rw[decide_eq_decide];omega)
    |(congr 1;rw[decide_eq_decide];omega)
  ·have nb118:¬p=118:=fun e=>eN (by rw[e];rfl)
   refine af (aa ?_)
   refine ve ?_
   refine va ?_
   refine ag (ae ?_)
   refine aL (fun e9=>?_) (fun e9=>?_)
   ·have ea:og c p=(c.tags.all tv&&decide (c.tags.length≤16)):=by rw[show p=116 from toNat_inj e9];rfl
    refine af (af (aa ?_))
    refine va ?_
    refine ag (ae (a9 ?_))
    refine cU (fun i=>c.tags.length - i) (fun i=>[(2,.pointer (some ⟨g2,0,none⟩)),(5,.int .i64 (i:Int))]) (fun i w'=>i≤c.tags.length∧(c.tags.take i).all tv=true∧Blk w' g2 39 (cL c K ck V cv T ct)∧RdS w' lo w.heap.size K ck c.keys∧RdB w' lo w.heap.size V cv c.value∧RdS w' lo w.heap.size T ct c.tags∧Ext w w') (0) (⟨Nat.zero_le _,rfl,aq,hK,hV,hT,hE⟩) ?_ (hL:=⟨rfl,rfl,trivial⟩)
    rintro i wq ⟨nh,oG,aq,hK,hV,hT,hE⟩
    replace aq:Blk wq g2 39 [(.int .i64 c.op),(.string (av c.key)),(.slice K c.keys.length ck),(.slice V c.value.length cv),(.slice T c.tags.length ct),(.int .u64 (↑c.life:Int)),(.int .u64 (↑c.ver:Int)),(.string (av c.tag)),(.string (av c.pre)),(.string (av c.child))]:=aq
    have nB:=hT.1
    have fR:=hT.2.1
    simp only[maxLen] at fR
    refine af (af (aa ?_))
    refine vm ?_
    refine ab (ah iX) ?_
    refine ab (ak jy aq) ?_
    refine ab (bj Tryz.underlying35) ?_
    refine ab (bz) ?_
    refine ag (ae ?_)
    refine aL (fun iD=>?_) (fun iD=>?_)
    ·obtain⟨s,hk⟩:∃s,c.tags[i]?=some s:=⟨_,List.getElem?_eq_getElem (by omega)⟩
     refine aS (ae (af (a9 (af (aa ?_)))))
     refine ab (ah iX) ?_
     refine ab (ak jy aq) ?_
     refine vm ?_
     refine ar (cS p5 hT hk) ?_
     rintro v _ ⟨rfl,p31,rfl,Ve,ZD,ZO⟩
     refine ab (dv qU rfl (fg Ve)) ?_
     refine ab (aw JX (zD _ s)) ?_
     refine ab (b6) ?_
     refine ag (ae ?_)
     refine dJ (fun ld=>?_) (fun ld=>?_)
     ·have BT:c.tags.all tv=false:=by rw[List.all_eq_false];exact⟨s,List.mem_of_getElem? hk,by simpa using ld⟩
      refine af (aa ?_)
      refine va ?_
      refine ag (ae (aE (aQ (az (az (aQ (az (aQ (az ?_)))))))))
      refine aY ?_
      refine⟨?_,hE⟩
      rw[ea]
      all_goals first
       |rfl
       |(rw[BT];rfl)
       |(rw[oG,Bool.true_and];congr 1;rw[decide_eq_decide];omega)
       |(rw[oG,Bool.true_and,decide_eq_false (by omega)])
       |(unfold vv;congr 1;rw[decide_eq_decide];omega)
       |(congr 1;rw[decide_eq_decide];omega)
     ·refine aS (bb (ae (aa ?_)))
      refine vm ?_
      refine ab (bH) ?_
      refine va ?_
      refine ag ?_
      refine cB (i+1) (by show c.tags.length -(i+1)<c.tags.length - i;omega) (⟨by omega,by rw[sW tv hk,oG,Bool.true_and];simpa using ld,aq,hK,hV,hT,hE⟩) (hL:=⟨rfl,rfl,trivial⟩)
    ·rw[List.take_of_length_le (by omega)] at oG
     refine cW (bx (bx (ce (ae (af (aa ?_))))))
     refine ab (ah iX) ?_
     refine ab (ak jy aq) ?_
     refine ab (bj Tryz.underlying35) ?_
     refine ab (dl) ?_
     refine va ?_
     refine ag (ae (aE (aQ (az ?_))))
     refine aY ?_
     refine⟨?_,hE⟩
     rw[ea]
     all_goals first
      |rfl
      |(rw[BT];rfl)
      |(rw[oG,Bool.true_and];congr 1;rw[decide_eq_decide];omega)
      |(rw[oG,Bool.true_and,decide_eq_false (by omega)])
      |(unfold vv;congr 1;rw[decide_eq_decide];omega)
      |(congr 1;rw[decide_eq_decide];omega)
   ·have nb116:¬p=116:=fun e=>e9 (by rw[e];rfl)
    refine af (aa ?_)
    refine ve ?_
    refine va ?_
    refine ag (ae ?_)
    refine aL (fun pC=>?_) (fun pC=>?_)
    ·have ea:og c p=(decide (c.life≠0)):=by rw[show p=108 from toNat_inj pC];rfl
     refine af (aa ?_)
     refine ab (ah k8) ?_
     refine ab (ak pg aq) ?_
     refine ab (bS) ?_
     refine va ?_
     refine ag (ae (aE (aQ (az ?_))))
     refine aY ?_
     refine⟨?_,hE⟩
     rw[ea]
     all_goals first
      |rfl
      |(rw[BT];rfl)
      |(rw[oG,Bool.true_and];congr 1;rw[decide_eq_decide];omega)
      |(rw[oG,Bool.true_and,decide_eq_false (by omega)])
      |(unfold vv;congr 1;rw[decide_eq_decide];omega)
      |(congr 1;rw[decide_eq_decide];omega)
    ·have nb108:¬p=108:=fun e=>pC (by rw[e];rfl)
     refine af (aa ?_)
     refine ve ?_
     refine va ?_
     refine ag (ae ?_)
     refine aL (fun E7=>?_) (fun E7=>?_)
     ·have ea:og c p=(c.keys.all kv&&decide (1≤c.keys.length∧c.keys.length≤16)):=by rw[show p=109 from toNat_inj E7];rfl
      refine af (af (aa ?_))
      refine va ?_
      refine ag (ae (a9 ?_))
      refine cU (fun i=>c.keys.length - i) (fun i=>[(2,.pointer (some ⟨g2,0,none⟩)),(6,.int .i64 (i:Int))]) (fun i w'=>i≤c.keys.length∧(c.keys.take i).all kv=true∧Blk w' g2 39 (cL c K ck V cv T ct)∧RdS w' lo w.heap.size K ck c.keys∧RdB w' lo w.heap.size V cv c.value∧RdS w' lo w.heap.size T ct c.tags∧Ext w w') (0) (⟨Nat.zero_le _,rfl,aq,hK,hV,hT,hE⟩) ?_ (hL:=⟨rfl,rfl,trivial⟩)
      rintro i wq ⟨nh,oG,aq,hK,hV,hT,hE⟩
      replace aq:Blk wq g2 39 [(.int .i64 c.op),(.string (av c.key)),(.slice K c.keys.length ck),(.slice V c.value.length cv),(.slice T c.tags.length ct),(.int .u64 (↑c.life:Int)),(.int .u64 (↑c.ver:Int)),(.string (av c.tag)),(.string (av c.pre)),(.string (av c.child))]:=aq
      have nB:=hK.1
      have fR:=hK.2.1
      simp only[maxLen] at fR
      refine af (af (aa ?_))
      refine vm ?_
      refine ab (ah jH) ?_
      refine ab (ak jy aq) ?_
      refine ab (bj Tryz.underlying35) ?_
      refine ab (bz) ?_
      refine ag (ae ?_)
      refine aL (fun Ir=>?_) (fun Ir=>?_)
      ·obtain⟨s,hk⟩:∃s,c.keys[i]?=some s:=⟨_,List.getElem?_eq_getElem (by omega)⟩
       refine aS (ae (af (a9 (af (aa ?_)))))
       refine ab (ah jH) ?_
       refine ab (ak jy aq) ?_
       refine vm ?_
       refine ar (cS p5 hK hk) ?_
       rintro v _ ⟨rfl,p56,rfl,Vd,ZB,ZM⟩
       refine ab (dv qU rfl (fg Vd)) ?_
       refine ab (aw Gk (tJ _ s)) ?_
       refine ab (b6) ?_
       refine ag (ae ?_)
       refine dJ (fun GN=>?_) (fun GN=>?_)
       ·have BT:c.keys.all kv=false:=by rw[List.all_eq_false];exact⟨s,List.mem_of_getElem? hk,by simpa using GN⟩
        refine af (aa ?_)
        refine va ?_
        refine ag (ae (aE (aQ (az (az (aQ (az (aQ (az ?_)))))))))
        refine aY ?_
        refine⟨?_,hE⟩
        rw[ea]
        all_goals first
         |rfl
         |(rw[BT];rfl)
         |(rw[oG,Bool.true_and];congr 1;rw[decide_eq_decide];omega)
         |(rw[oG,Bool.true_and,decide_eq_false (by omega)])
         |(unfold vv;congr 1;rw[decide_eq_decide];omega)
         |(congr 1;rw[decide_eq_decide];omega)
       ·refine aS (bb (ae (aa ?_)))
        refine vm ?_
        refine ab (bH) ?_
        refine va ?_
        refine ag ?_
        refine cB (i+1) (by show c.keys.length -(i+1)<c.keys.length - i;omega) (⟨by omega,by rw[sW kv hk,oG,Bool.true_and];simpa using GN,aq,hK,hV,hT,hE⟩) (hL:=⟨rfl,rfl,trivial⟩)
      ·rw[List.take_of_length_le (by omega)] at oG
       refine cW (bx (bx (ce (ae (af (aa ?_))))))
       refine ab (ah jH) ?_
       refine ab (ak jy aq) ?_
       refine ab (bj Tryz.underlying35) ?_
       refine ab (fX) ?_
       refine aG (d:=63) (fun GP=>?_) (fun GP=>?_)
       ·refine vm ?_
        refine aj (ah jH) ?_
        refine aj (ak jy aq) ?_
        refine aj (bj Tryz.underlying35) ?_
        refine aj (dl) ?_
        refine ab (ay) ?_
        refine va ?_
        refine ag (ae (aE (aQ (az ?_))))
        refine aY ?_
        refine⟨?_,hE⟩
        rw[ea]
        all_goals first
         |rfl
         |(rw[BT];rfl)
         |(rw[oG,Bool.true_and];congr 1;rw[decide_eq_decide];omega)
         |(rw[oG,Bool.true_and,decide_eq_false (by omega)])
         |(unfold vv;congr 1;rw[decide_eq_decide];omega)
         |(congr 1;rw[decide_eq_decide];omega)
       ·refine vm ?_
        iterate 4 refine aA ?_
        refine ab (ap) ?_
        refine va ?_
        refine ag (ae (aE (aQ (az ?_))))
        refine aY ?_
        refine⟨?_,hE⟩
        rw[ea]
        all_goals first
         |rfl
         |(rw[BT];rfl)
         |(rw[oG,Bool.true_and];congr 1;rw[decide_eq_decide];omega)
         |(rw[oG,Bool.true_and,decide_eq_false (by omega)])
         |(unfold vv;congr 1;rw[decide_eq_decide];omega)
         |(congr 1;rw[decide_eq_decide];omega)
     ·have nb109:¬p=109:=fun e=>E7 (by rw[e];rfl)
      refine af (aa ?_)
      refine ve ?_
      refine va ?_
      refine ag (ae ?_)
      refine aL (fun uK=>?_) (fun uK=>?_)
      ·have ea:og c p=(tv c.tag):=by rw[show p=103 from toNat_inj uK];rfl
       refine af (aa ?_)
       refine ab (ah mQ) ?_
       refine ab (ak qU aq) ?_
       refine ab (aw JX (zD _ c.tag)) ?_
       refine va ?_
       refine ag (ae (aE (aQ (az ?_))))
       refine aY ?_
       refine⟨?_,hE⟩
       rw[ea]
       all_goals first
        |rfl
        |(rw[BT];rfl)
        |(rw[oG,Bool.true_and];congr 1;rw[decide_eq_decide];omega)
        |(rw[oG,Bool.true_and,decide_eq_false (by omega)])
        |(unfold vv;congr 1;rw[decide_eq_decide];omega)
        |(congr 1;rw[decide_eq_decide];omega)
      ·have nb103:¬p=103:=fun e=>uK (by rw[e];rfl)
       refine af (aa ?_)
       refine ve ?_
       refine va ?_
       refine ag (ae ?_)
       refine aL (fun uJ=>?_) (fun uJ=>?_)
       ·have ea:og c p=(pv c.pre):=by rw[show p=112 from toNat_inj uJ];rfl
        refine af (aa ?_)
        refine ab (ah ob) ?_
        refine ab (ak qU aq) ?_
        refine ab (aw R9 (G7 _ c.pre)) ?_
        refine va ?_
        refine ag (ae (aE (aQ (az ?_))))
        refine aY ?_
        refine⟨?_,hE⟩
        rw[ea]
        all_goals first
         |rfl
         |(rw[BT];rfl)
         |(rw[oG,Bool.true_and];congr 1;rw[decide_eq_decide];omega)
         |(rw[oG,Bool.true_and,decide_eq_false (by omega)])
         |(unfold vv;congr 1;rw[decide_eq_decide];omega)
         |(congr 1;rw[decide_eq_decide];omega)
       ·have nb112:¬p=112:=fun e=>uJ (by rw[e];rfl)
        refine af (aa ?_)
        refine ve ?_
        refine va ?_
        refine ag (ae ?_)
        refine aL (fun sI=>?_) (fun sI=>?_)
        ·have ea:og c p=(kv c.child):=by rw[show p=99 from toNat_inj sI];rfl
         refine af (aa ?_)
         refine ab (ah mP) ?_
         refine ab (ak qU aq) ?_
         refine ab (aw Gk (tJ _ c.child)) ?_
         refine va ?_
         refine ag (ae (aE (aQ (az ?_))))
         refine aY ?_
         refine⟨?_,hE⟩
         rw[ea]
         all_goals first
          |rfl
          |(rw[BT];rfl)
          |(rw[oG,Bool.true_and];congr 1;rw[decide_eq_decide];omega)
          |(rw[oG,Bool.true_and,decide_eq_false (by omega)])
          |(unfold vv;congr 1;rw[decide_eq_decide];omega)
          |(congr 1;rw[decide_eq_decide];omega)
        ·have nb99:¬p=99:=fun e=>sI (by rw[e];rfl)
         have ea:og c p=true:=by unfold og;rw[if_neg nb107,if_neg nb118,if_neg nb116,if_neg nb108,if_neg nb109,if_neg nb103,if_neg nb112,if_neg nb99]
         refine aS (bb (ae (af (aa ?_))))
         refine va ?_
         refine ag (ae (aE ?_))
         refine aY ?_
         refine⟨?_,hE⟩
         rw[ea]
         all_goals first
          |rfl
          |(rw[BT];rfl)
          |(rw[oG,Bool.true_and];congr 1;rw[decide_eq_decide];omega)
          |(rw[oG,Bool.true_and,decide_eq_false (by omega)])
          |(unfold vv;congr 1;rw[decide_eq_decide];omega)
          |(congr 1;rw[decide_eq_decide];omega)
end Go.Proofs.YtiighkbehiddkaaGreat
