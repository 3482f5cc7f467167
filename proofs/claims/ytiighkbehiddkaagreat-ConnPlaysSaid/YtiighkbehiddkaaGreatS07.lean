/-
 The reading of all parts.
 Equal commands; the command of a frame.
-/
import Derived.Test.YtiighkbehiddkaaGreatS06
namespace Go.Proofs.YtiighkbehiddkaaGreat
open Go.RowKit
set_option linter.unusedVariables false
set_option linter.unusedSimpArgs false
set_option maxRecDepth 4000
theorem Gn:aX Tryz.prog 105=true:=by kernel_rfl
theorem AP:aX Tryz.prog 106=true:=by kernel_rfl
theorem AO:aX Tryz.prog 108=true:=by kernel_rfl
theorem Si:aX Tryz.prog 110=true:=by kernel_rfl
theorem dA:bB Tryz.prog 39 0=some 0:=by kernel_rfl
theorem hU:bB Tryz.prog 39 1=some 1:=by kernel_rfl
theorem jH:bB Tryz.prog 39 2=some 2:=by kernel_rfl
theorem iX:bB Tryz.prog 39 4=some 4:=by kernel_rfl
theorem pL:bB Tryz.prog 39 6=some 6:=by kernel_rfl
theorem mQ:bB Tryz.prog 39 7=some 7:=by kernel_rfl
theorem ob:bB Tryz.prog 39 8=some 8:=by kernel_rfl
theorem mP:bB Tryz.prog 39 9=some 9:=by kernel_rfl
/-- Reading a part. -/
def fS (s:Cmd×List UInt8×Bool) (p:UInt8):Cmd×List UInt8×Bool:=
 if p=107 then({s.1 with key:=bq s.2.1},bh s.2.1,s.2.2||cF kv s.2.1) else if p=118 then({s.1 with value:=bq s.2.1},bh s.2.1,s.2.2||cF vv s.2.1)
 else if p=116 then({s.1 with tags:=p7 0 16 s.2.1},l3 0 16 s.2.1,s.2.2||vl 0 16 tv s.2.1)
 else if p=108 then({s.1 with life:=bO s.2.1},cz s.2.1,s.2.2||gq s.2.1||decide (bO s.2.1=0)) else if p=110 then({s.1 with ver:=bO s.2.1},cz s.2.1,s.2.2||gq s.2.1)
 else if p=109 then({s.1 with keys:=p7 1 16 s.2.1},l3 1 16 s.2.1,s.2.2||vl 1 16 kv s.2.1)
 else if p=103 then({s.1 with tag:=bq s.2.1},bh s.2.1,s.2.2||cF tv s.2.1) else if p=112 then({s.1 with pre:=bq s.2.1},bh s.2.1,s.2.2||cF pv s.2.1)
 else({s.1 with child:=bq s.2.1},bh s.2.1,s.2.2||cF kv s.2.1)
def bg (op:Int) (l:List UInt8):Cmd×List UInt8×Bool:=(aZ op).foldl fS (cmd0 op,l,false)
section
variable (c:Cmd) (l:List UInt8) (b:Bool)
theorem jL:fS (c,l,b) 107=({c with key:=bq l},bh l,b||cF kv l):=rfl
theorem jJ:fS (c,l,b) 118=({c with value:=bq l},bh l,b||cF vv l):=rfl
theorem i8:fS (c,l,b) 116=({c with tags:=p7 0 16 l},l3 0 16 l,b||vl 0 16 tv l):=rfl
theorem jb:fS (c,l,b) 108=({c with life:=bO l},cz l,b||gq l||decide (bO l=0)):=rfl
theorem i9:fS (c,l,b) 110=({c with ver:=bO l},cz l,b||gq l):=rfl
theorem ja:fS (c,l,b) 109=({c with keys:=p7 1 16 l},l3 1 16 l,b||vl 1 16 kv l):=rfl
theorem jM:fS (c,l,b) 103=({c with tag:=bq l},bh l,b||cF tv l):=rfl
theorem jK:fS (c,l,b) 112=({c with pre:=bq l},bh l,b||cF pv l):=rfl
theorem jN:fS (c,l,b) 99=({c with child:=bq l},bh l,b||cF kv l):=rfl
end
theorem Ua:aZ 1=[107,118,116,108]:=by decide
theorem T8:aZ 2=[107,118,116,108]:=by decide
theorem T7:aZ 3=[107,118,116,108,110]:=by decide
theorem T3:aZ 4=[107]:=by decide
theorem T0:aZ 5=[109]:=by decide
theorem TZ:aZ 6=[107,108]:=by decide
theorem TY:aZ 7=[107]:=by decide
theorem TX:aZ 8=[103]:=by decide
theorem TW:aZ 9=[103]:=by decide
theorem OZ:aZ 10=[112]:=by decide
theorem OY:aZ 11=[107,99]:=by decide
theorem OX:aZ 12=[107,99]:=by decide
theorem OW:aZ 13=[107]:=by decide
theorem OV:aZ 14=[]:=by decide
theorem OU:aZ 15=[]:=by decide
theorem DG (w:World) (gx gc gr lo hi:Nat) (A:Option Addr) (c:Nat) (l:List UInt8) (aH:Blk w gx 153 [.pointer (some ⟨gc,0,none⟩),.pointer (some ⟨gr,0,none⟩),.slice none 0 0,.bool false]) (aJ:Blk w gr 178 [.bool true,.slice A l.length c]) (hr:RdB w lo hi A c l) (ig:gx≠gr) (gP:gx<lo∨hi≤gx) (fT:gr<lo∨hi≤gr) (bI:l.length≤140737488355328) (op:Int) (aW:Blk w gc 39 (cL (cmd0 op) none 0 none 0 none 0)) (fR:gc≠gx) (jW:gc≠gr) (iU:gc<lo∨hi≤gc) (fP:hi≤w.heap.size) (hop:op=1):
  Fn Tryz.prog 87 #[(.pointer (some ⟨gx,0,none⟩))] w (fun v w'=>v=.tuple #[]∧Blk w' gx 153 [.pointer (some ⟨gc,0,none⟩),.pointer (some ⟨gr,0,none⟩),.slice none 0 0,.bool (bg op l).2.2]∧ee w' gr lo hi (bg op l).2.1∧(∃K ck V cv T ct,Blk w' gc 39 (cL (bg op l).1 K ck V cv T ct)∧RdS w' w.heap.size w'.heap.size K ck (bg op l).1.keys∧RdB w' w.heap.size w'.heap.size V cv (bg op l).1.value∧RdS w' w.heap.size w'.heap.size T ct (bg op l).1.tags)∧Kp [gx,gr,gc] w w'):=by
 have hK:=Kp.refl [gx,gr,gc] w
 have lj:=aH.lt
 have md:=aJ.lt
 have sB:=aW.lt
 replace aW:Blk w gc 39 [(.int .i64 op),(.string (av ([]:List UInt8))),(.slice none 0 0),(.slice none 0 0),(.slice none 0 0),(.int .u64 0),(.int .u64 0),(.string (av ([]:List UInt8))),(.string (av ([]:List UInt8))),(.string (av ([]:List UInt8)))]:=aW
 refine aO Tryz.func87 ?_
 refine af (aa ?_)
 refine vm ?_
 refine vn ?_
 refine ab (ah eg) ?_
 refine ab (ak gM aH) ?_
 refine va ?_
 refine ag (ae (af (aa ?_)))
 refine vm ?_
 refine vn ?_
 refine ab (ah dA) ?_
 refine ab (ak cO aW) ?_
 refine aN (d:=10) rfl (v':=(.int .i64 1)) (by rw[hop]) ?_
 refine ag (ae (a9 (af (af (aa ?_)))))
 refine ve ?_
 refine va ?_
 refine ag (ae ?_)
 refine aR ?_
 refine aS (ae ?_)
 refine aR ?_
 refine af (aa ?_)
 iterate 2 refine vm ?_
 refine vn ?_
 refine ab (ah hU) ?_
 refine ar (aw jp (jf _ gx gc gr _ _ A c l false aH aJ hr gc 1 _ _ aW kv 104 l7 jA)) ?_
 rintro v w1 ⟨rfl,uR,⟨A22,c22,FA,Ei⟩,Fu,xy⟩
 have Ab:=xy.size
 replace hK:=Kp.tr hK xy (by intro x hx;simp only[List.mem_cons,List.not_mem_nil,or_false] at hx ⊢;omega)
 replace aH:=uR
 replace aJ:=FA
 replace aW:Blk _ gc _ [(.int .i64 op),(.string (av (bq l))),(.slice none 0 0),(.slice none 0 0),(.slice none 0 0),(.int .u64 0),(.int .u64 0),(.string (av ([]:List UInt8))),(.string (av ([]:List UInt8))),(.string (av ([]:List UInt8)))]:=Fu
 have Jx:=eT l
 refine ag (ae (af (aa ?_)))
 refine vm ?_
 refine ar (aw Gn (x1 _ gx gc gr _ _ A22 c22 (bh l) (false||cF kv l) aH aJ Ei _ _ _ _ _ _ _ _ _ aW)) ?_
 rintro v w2 ⟨rfl,FH,⟨A24,c24,Fz,p8⟩,⟨V24,cV24,Ft,lQ⟩,xx⟩
 have Aa:=xx.size
 replace hK:=Kp.tr hK xx (by intro x hx;simp only[List.mem_cons,List.not_mem_nil,or_false] at hx ⊢;omega)
 replace aH:=FH
 replace aJ:=Fz
 replace aW:Blk _ gc _ [(.int .i64 op),(.string (av (bq l))),(.slice none 0 0),(.slice V24 (bq (bh l)).length cV24),(.slice none 0 0),(.int .u64 0),(.int .u64 0),(.string (av ([]:List UInt8))),(.string (av ([]:List UInt8))),(.string (av ([]:List UInt8)))]:=Ft
 have Jw:=eT (bh l)
 refine ag (ae (af (aa ?_)))
 iterate 2 refine vm ?_
 refine vn ?_
 refine ab (ah iX) ?_
 refine ar (aw AP (yy _ gx gc gr _ _ A24 c24 (bh (bh l)) ((false||cF kv l)||cF vv (bh l)) aH aJ p8 _ _ _ _ _ _ _ _ _ aW)) ?_
 rintro v w3 ⟨rfl,FG,⟨A29,c29,Fy,Eh⟩,⟨V29,cV29,Fs,pD⟩,rO⟩
 have z8:=rO.size
 replace hK:=Kp.tr hK rO (by intro x hx;simp only[List.mem_cons,List.not_mem_nil,or_false] at hx ⊢;omega)
 replace lQ:=rO.rd lQ (by intro g hg;simp at hg;omega)
 replace aH:=FG
 replace aJ:=Fy
 replace aW:Blk _ gc _ [(.int .i64 op),(.string (av (bq l))),(.slice none 0 0),(.slice V24 (bq (bh l)).length cV24),(.slice V29 (p7 0 16 (bh (bh l))).length cV29),(.int .u64 0),(.int .u64 0),(.string (av ([]:List UInt8))),(.string (av ([]:List UInt8))),(.string (av ([]:List UInt8)))]:=Fs
 have Jv:=lz 0 16 (bh (bh l))
 refine ag (ae (af (aa ?_)))
 refine vm ?_
 refine ar (aw AO (zX _ gx gc gr _ _ A29 c29 (l3 0 16 (bh (bh l))) (((false||cF kv l)||cF vv (bh l))||vl 0 16 tv (bh (bh l))) aH aJ Eh _ _ _ _ _ _ _ _ _ aW)) ?_
 rintro v w4 ⟨rfl,FF,⟨A31,c31,Fw,nS⟩,Fr,rN⟩
 replace hK:=Kp.tr hK rN (by intro x hx;simp only[List.mem_cons,List.not_mem_nil,or_false] at hx ⊢;omega)
 replace lQ:=rN.rd lQ (by intro g hg;simp at hg;omega)
 replace pD:=rN.rd pD (by intro g hg;simp at hg;omega)
 replace aH:=FF
 replace aJ:=Fw
 replace aW:Blk _ gc _ [(.int .i64 op),(.string (av (bq l))),(.slice none 0 0),(.slice V24 (bq (bh l)).length cV24),(.slice V29 (p7 0 16 (bh (bh l))).length cV29),(.int .u64 (↑(bO (l3 0 16 (bh (bh l)))):Int)),(.int .u64 0),(.string (av ([]:List UInt8))),(.string (av ([]:List UInt8))),(.string (av ([]:List UInt8)))]:=Fr
 refine ag (ae (af (aa ?_)))
 refine vm ?_
 refine vn ?_
 refine ab (ah dA) ?_
 refine ab (ak cO aW) ?_
 refine aN (d:=35) rfl (v':=(.int .i64 1)) (by rw[hop]) ?_
 refine ve ?_
 refine ag (ae ?_)
 refine aC ?_
 refine aS (bb ?_)
 refine d5 ?_
 have e:bg op l=(⟨op,(bq l),[],(bq (bh l)),(p7 0 16 (bh (bh l))),((bO (l3 0 16 (bh (bh l))))),0,([]:List UInt8),([]:List UInt8),([]:List UInt8)⟩,(cz (l3 0 16 (bh (bh l)))),((((false||cF kv l)||cF vv (bh l))||vl 0 16 tv (bh (bh l)))||gq (l3 0 16 (bh (bh l)))||decide (bO (l3 0 16 (bh (bh l)))=0))):=by rw[hop];simp only[bg,Ua,List.foldl_cons,List.foldl_nil,jL,jJ,i8,jb,i9,ja,jM,jK,jN,cmd0]
 rw[e]
 dsimp only[cL]
 exact⟨rfl,aH,⟨_,_,aJ,nS⟩,⟨none,0,V24,cV24,V29,cV29,aW,Rd.nil _ _ _ _ _ _ (Nat.zero_le _),(Rd.top lQ).mono (by omega) (Nat.le_refl _),(Rd.top pD).mono (by omega) (Nat.le_refl _)⟩,hK⟩
theorem DF (w:World) (gx gc gr lo hi:Nat) (A:Option Addr) (c:Nat) (l:List UInt8) (aH:Blk w gx 153 [.pointer (some ⟨gc,0,none⟩),.pointer (some ⟨gr,0,none⟩),.slice none 0 0,.bool false]) (aJ:Blk w gr 178 [.bool true,.slice A l.length c]) (hr:RdB w lo hi A c l) (ig:gx≠gr) (gP:gx<lo∨hi≤gx) (fT:gr<lo∨hi≤gr) (bI:l.length≤140737488355328) (op:Int) (aW:Blk w gc 39 (cL (cmd0 op) none 0 none 0 none 0)) (fR:gc≠gx) (jW:gc≠gr) (iU:gc<lo∨hi≤gc) (fP:hi≤w.heap.size) (hop:op=2):
  Fn Tryz.prog 87 #[(.pointer (some ⟨gx,0,none⟩))] w (fun v w'=>v=.tuple #[]∧Blk w' gx 153 [.pointer (some ⟨gc,0,none⟩),.pointer (some ⟨gr,0,none⟩),.slice none 0 0,.bool (bg op l).2.2]∧ee w' gr lo hi (bg op l).2.1∧(∃K ck V cv T ct,Blk w' gc 39 (cL (bg op l).1 K ck V cv T ct)∧RdS w' w.heap.size w'.heap.size K ck (bg op l).1.keys∧RdB w' w.heap.size w'.heap.size V cv (bg op l).1.value∧RdS w' w.heap.size w'.heap.size T ct (bg op l).1.tags)∧Kp [gx,gr,gc] w w'):=by
 have hK:=Kp.refl [gx,gr,gc] w
 have lj:=aH.lt
 have md:=aJ.lt
 have sB:=aW.lt
 replace aW:Blk w gc 39 [(.int .i64 op),(.string (av ([]:List UInt8))),(.slice none 0 0),(.slice none 0 0),(.slice none 0 0),(.int .u64 0),(.int .u64 0),(.string (av ([]:List UInt8))),(.string (av ([]:List UInt8))),(.string (av ([]:List UInt8)))]:=aW
 refine aO Tryz.func87 ?_
 refine af (aa ?_)
 refine vm ?_
 refine vn ?_
 refine ab (ah eg) ?_
 refine ab (ak gM aH) ?_
 refine va ?_
 refine ag (ae (af (aa ?_)))
 refine vm ?_
 refine vn ?_
 refine ab (ah dA) ?_
 refine ab (ak cO aW) ?_
 refine aN (d:=10) rfl (v':=(.int .i64 2)) (by rw[hop]) ?_
 refine ag (ae (a9 (af (af (aa ?_)))))
 refine ve ?_
 refine va ?_
 refine ag (ae ?_)
 refine aC ?_
 refine af (aa ?_)
 refine ve ?_
 refine va ?_
 refine ag (ae ?_)
 refine aR ?_
 refine aS (ae ?_)
 refine aR ?_
 refine af (aa ?_)
 iterate 2 refine vm ?_
 refine vn ?_
 refine ab (ah hU) ?_
 refine ar (aw jp (jf _ gx gc gr _ _ A c l false aH aJ hr gc 1 _ _ aW kv 104 l7 jA)) ?_
 rintro v w1 ⟨rfl,uR,⟨A22,c22,FA,Ei⟩,Fu,xy⟩
 have Ab:=xy.size
 replace hK:=Kp.tr hK xy (by intro x hx;simp only[List.mem_cons,List.not_mem_nil,or_false] at hx ⊢;omega)
 replace aH:=uR
 replace aJ:=FA
 replace aW:Blk _ gc _ [(.int .i64 op),(.string (av (bq l))),(.slice none 0 0),(.slice none 0 0),(.slice none 0 0),(.int .u64 0),(.int .u64 0),(.string (av ([]:List UInt8))),(.string (av ([]:List UInt8))),(.string (av ([]:List UInt8)))]:=Fu
 have Jx:=eT l
 refine ag (ae (af (aa ?_)))
 refine vm ?_
 refine ar (aw Gn (x1 _ gx gc gr _ _ A22 c22 (bh l) (false||cF kv l) aH aJ Ei _ _ _ _ _ _ _ _ _ aW)) ?_
 rintro v w2 ⟨rfl,FH,⟨A24,c24,Fz,p8⟩,⟨V24,cV24,Ft,lQ⟩,xx⟩
 have Aa:=xx.size
 replace hK:=Kp.tr hK xx (by intro x hx;simp only[List.mem_cons,List.not_mem_nil,or_false] at hx ⊢;omega)
 replace aH:=FH
 replace aJ:=Fz
 replace aW:Blk _ gc _ [(.int .i64 op),(.string (av (bq l))),(.slice none 0 0),(.slice V24 (bq (bh l)).length cV24),(.slice none 0 0),(.int .u64 0),(.int .u64 0),(.string (av ([]:List UInt8))),(.string (av ([]:List UInt8))),(.string (av ([]:List UInt8)))]:=Ft
 have Jw:=eT (bh l)
 refine ag (ae (af (aa ?_)))
 iterate 2 refine vm ?_
 refine vn ?_
 refine ab (ah iX) ?_
 refine ar (aw AP (yy _ gx gc gr _ _ A24 c24 (bh (bh l)) ((false||cF kv l)||cF vv (bh l)) aH aJ p8 _ _ _ _ _ _ _ _ _ aW)) ?_
 rintro v w3 ⟨rfl,FG,⟨A29,c29,Fy,Eh⟩,⟨V29,cV29,Fs,pD⟩,rO⟩
 have z8:=rO.size
 replace hK:=Kp.tr hK rO (by intro x hx;simp only[List.mem_cons,List.not_mem_nil,or_false] at hx ⊢;omega)
 replace lQ:=rO.rd lQ (by intro g hg;simp at hg;omega)
 replace aH:=FG
 replace aJ:=Fy
 replace aW:Blk _ gc _ [(.int .i64 op),(.string (av (bq l))),(.slice none 0 0),(.slice V24 (bq (bh l)).length cV24),(.slice V29 (p7 0 16 (bh (bh l))).length cV29),(.int .u64 0),(.int .u64 0),(.string (av ([]:List UInt8))),(.string (av ([]:List UInt8))),(.string (av ([]:List UInt8)))]:=Fs
 have Jv:=lz 0 16 (bh (bh l))
 refine ag (ae (af (aa ?_)))
 refine vm ?_
 refine ar (aw AO (zX _ gx gc gr _ _ A29 c29 (l3 0 16 (bh (bh l))) (((false||cF kv l)||cF vv (bh l))||vl 0 16 tv (bh (bh l))) aH aJ Eh _ _ _ _ _ _ _ _ _ aW)) ?_
 rintro v w4 ⟨rfl,FF,⟨A31,c31,Fw,nS⟩,Fr,rN⟩
 replace hK:=Kp.tr hK rN (by intro x hx;simp only[List.mem_cons,List.not_mem_nil,or_false] at hx ⊢;omega)
 replace lQ:=rN.rd lQ (by intro g hg;simp at hg;omega)
 replace pD:=rN.rd pD (by intro g hg;simp at hg;omega)
 replace aH:=FF
 replace aJ:=Fw
 replace aW:Blk _ gc _ [(.int .i64 op),(.string (av (bq l))),(.slice none 0 0),(.slice V24 (bq (bh l)).length cV24),(.slice V29 (p7 0 16 (bh (bh l))).length cV29),(.int .u64 (↑(bO (l3 0 16 (bh (bh l)))):Int)),(.int .u64 0),(.string (av ([]:List UInt8))),(.string (av ([]:List UInt8))),(.string (av ([]:List UInt8)))]:=Fr
 refine ag (ae (af (aa ?_)))
 refine vm ?_
 refine vn ?_
 refine ab (ah dA) ?_
 refine ab (ak cO aW) ?_
 refine aN (d:=35) rfl (v':=(.int .i64 2)) (by rw[hop]) ?_
 refine ve ?_
 refine ag (ae ?_)
 refine aC ?_
 refine aS (bb ?_)
 refine d5 ?_
 have e:bg op l=(⟨op,(bq l),[],(bq (bh l)),(p7 0 16 (bh (bh l))),((bO (l3 0 16 (bh (bh l))))),0,([]:List UInt8),([]:List UInt8),([]:List UInt8)⟩,(cz (l3 0 16 (bh (bh l)))),((((false||cF kv l)||cF vv (bh l))||vl 0 16 tv (bh (bh l)))||gq (l3 0 16 (bh (bh l)))||decide (bO (l3 0 16 (bh (bh l)))=0))):=by rw[hop];simp only[bg,T8,List.foldl_cons,List.foldl_nil,jL,jJ,i8,jb,i9,ja,jM,jK,jN,cmd0]
 rw[e]
 dsimp only[cL]
 exact⟨rfl,aH,⟨_,_,aJ,nS⟩,⟨none,0,V24,cV24,V29,cV29,aW,Rd.nil _ _ _ _ _ _ (Nat.zero_le _),(Rd.top lQ).mono (by omega) (Nat.le_refl _),(Rd.top pD).mono (by omega) (Nat.le_refl _)⟩,hK⟩
theorem DE (w:World) (gx gc gr lo hi:Nat) (A:Option Addr) (c:Nat) (l:List UInt8) (aH:Blk w gx 153 [.pointer (some ⟨gc,0,none⟩),.pointer (some ⟨gr,0,none⟩),.slice none 0 0,.bool false]) (aJ:Blk w gr 178 [.bool true,.slice A l.length c]) (hr:RdB w lo hi A c l) (ig:gx≠gr) (gP:gx<lo∨hi≤gx) (fT:gr<lo∨hi≤gr) (bI:l.length≤140737488355328) (op:Int) (aW:Blk w gc 39 (cL (cmd0 op) none 0 none 0 none 0)) (fR:gc≠gx) (jW:gc≠gr) (iU:gc<lo∨hi≤gc) (fP:hi≤w.heap.size) (hop:op=3):
  Fn Tryz.prog 87 #[(.pointer (some ⟨gx,0,none⟩))] w (fun v w'=>v=.tuple #[]∧Blk w' gx 153 [.pointer (some ⟨gc,0,none⟩),.pointer (some ⟨gr,0,none⟩),.slice none 0 0,.bool (bg op l).2.2]∧ee w' gr lo hi (bg op l).2.1∧(∃K ck V cv T ct,Blk w' gc 39 (cL (bg op l).1 K ck V cv T ct)∧RdS w' w.heap.size w'.heap.size K ck (bg op l).1.keys∧RdB w' w.heap.size w'.heap.size V cv (bg op l).1.value∧RdS w' w.heap.size w'.heap.size T ct (bg op l).1.tags)∧Kp [gx,gr,gc] w w'):=by
 have hK:=Kp.refl [gx,gr,gc] w
 have lj:=aH.lt
 have md:=aJ.lt
 have sB:=aW.lt
 replace aW:Blk w gc 39 [(.int .i64 op),(.string (av ([]:List UInt8))),(.slice none 0 0),(.slice none 0 0),(.slice none 0 0),(.int .u64 0),(.int .u64 0),(.string (av ([]:List UInt8))),(.string (av ([]:List UInt8))),(.string (av ([]:List UInt8)))]:=aW
 refine aO Tryz.func87 ?_
 refine af (aa ?_)
 refine vm ?_
 refine vn ?_
 refine ab (ah eg) ?_
 refine ab (ak gM aH) ?_
 refine va ?_
 refine ag (ae (af (aa ?_)))
 refine vm ?_
 refine vn ?_
 refine ab (ah dA) ?_
 refine ab (ak cO aW) ?_
 refine aN (d:=10) rfl (v':=(.int .i64 3)) (by rw[hop]) ?_
 refine ag (ae (a9 (af (af (aa ?_)))))
 refine ve ?_
 refine va ?_
 refine ag (ae ?_)
 refine aC ?_
 refine af (aa ?_)
 refine ve ?_
 refine va ?_
 refine ag (ae ?_)
 refine aC ?_
 refine aa ?_
 refine ve ?_
 refine va ?_
 refine ag (ae ?_)
 refine aR ?_
 refine af (aa ?_)
 iterate 2 refine vm ?_
 refine vn ?_
 refine ab (ah hU) ?_
 refine ar (aw jp (jf _ gx gc gr _ _ A c l false aH aJ hr gc 1 _ _ aW kv 104 l7 jA)) ?_
 rintro v w1 ⟨rfl,uR,⟨A22,c22,FA,Ei⟩,Fu,xy⟩
 have Ab:=xy.size
 replace hK:=Kp.tr hK xy (by intro x hx;simp only[List.mem_cons,List.not_mem_nil,or_false] at hx ⊢;omega)
 replace aH:=uR
 replace aJ:=FA
 replace aW:Blk _ gc _ [(.int .i64 op),(.string (av (bq l))),(.slice none 0 0),(.slice none 0 0),(.slice none 0 0),(.int .u64 0),(.int .u64 0),(.string (av ([]:List UInt8))),(.string (av ([]:List UInt8))),(.string (av ([]:List UInt8)))]:=Fu
 have Jx:=eT l
 refine ag (ae (af (aa ?_)))
 refine vm ?_
 refine ar (aw Gn (x1 _ gx gc gr _ _ A22 c22 (bh l) (false||cF kv l) aH aJ Ei _ _ _ _ _ _ _ _ _ aW)) ?_
 rintro v w2 ⟨rfl,FH,⟨A24,c24,Fz,p8⟩,⟨V24,cV24,Ft,lQ⟩,xx⟩
 have Aa:=xx.size
 replace hK:=Kp.tr hK xx (by intro x hx;simp only[List.mem_cons,List.not_mem_nil,or_false] at hx ⊢;omega)
 replace aH:=FH
 replace aJ:=Fz
 replace aW:Blk _ gc _ [(.int .i64 op),(.string (av (bq l))),(.slice none 0 0),(.slice V24 (bq (bh l)).length cV24),(.slice none 0 0),(.int .u64 0),(.int .u64 0),(.string (av ([]:List UInt8))),(.string (av ([]:List UInt8))),(.string (av ([]:List UInt8)))]:=Ft
 have Jw:=eT (bh l)
 refine ag (ae (af (aa ?_)))
 iterate 2 refine vm ?_
 refine vn ?_
 refine ab (ah iX) ?_
 refine ar (aw AP (yy _ gx gc gr _ _ A24 c24 (bh (bh l)) ((false||cF kv l)||cF vv (bh l)) aH aJ p8 _ _ _ _ _ _ _ _ _ aW)) ?_
 rintro v w3 ⟨rfl,FG,⟨A29,c29,Fy,Eh⟩,⟨V29,cV29,Fs,pD⟩,rO⟩
 have z8:=rO.size
 replace hK:=Kp.tr hK rO (by intro x hx;simp only[List.mem_cons,List.not_mem_nil,or_false] at hx ⊢;omega)
 replace lQ:=rO.rd lQ (by intro g hg;simp at hg;omega)
 replace aH:=FG
 replace aJ:=Fy
 replace aW:Blk _ gc _ [(.int .i64 op),(.string (av (bq l))),(.slice none 0 0),(.slice V24 (bq (bh l)).length cV24),(.slice V29 (p7 0 16 (bh (bh l))).length cV29),(.int .u64 0),(.int .u64 0),(.string (av ([]:List UInt8))),(.string (av ([]:List UInt8))),(.string (av ([]:List UInt8)))]:=Fs
 have Jv:=lz 0 16 (bh (bh l))
 refine ag (ae (af (aa ?_)))
 refine vm ?_
 refine ar (aw AO (zX _ gx gc gr _ _ A29 c29 (l3 0 16 (bh (bh l))) (((false||cF kv l)||cF vv (bh l))||vl 0 16 tv (bh (bh l))) aH aJ Eh _ _ _ _ _ _ _ _ _ aW)) ?_
 rintro v w4 ⟨rfl,FF,⟨A31,c31,Fw,nS⟩,Fr,rN⟩
 replace hK:=Kp.tr hK rN (by intro x hx;simp only[List.mem_cons,List.not_mem_nil,or_false] at hx ⊢;omega)
 replace lQ:=rN.rd lQ (by intro g hg;simp at hg;omega)
 replace pD:=rN.rd pD (by intro g hg;simp at hg;omega)
 replace aH:=FF
 replace aJ:=Fw
 replace aW:Blk _ gc _ [(.int .i64 op),(.string (av (bq l))),(.slice none 0 0),(.slice V24 (bq (bh l)).length cV24),(.slice V29 (p7 0 16 (bh (bh l))).length cV29),(.int .u64 (↑(bO (l3 0 16 (bh (bh l)))):Int)),(.int .u64 0),(.string (av ([]:List UInt8))),(.string (av ([]:List UInt8))),(.string (av ([]:List UInt8)))]:=Fr
 have hlr31:=iq (l3 0 16 (bh (bh l)))
 refine ag (ae (af (aa ?_)))
 refine vm ?_
 refine vn ?_
 refine ab (ah dA) ?_
 refine ab (ak cO aW) ?_
 refine aN (d:=35) rfl (v':=(.int .i64 3)) (by rw[hop]) ?_
 refine ve ?_
 refine ag (ae ?_)
 refine aR ?_
 refine aa ?_
 iterate 2 refine vm ?_
 refine vn ?_
 refine ab (ah pL) ?_
 refine ar (aw p4 (wv _ gx gc gr _ _ A31 c31 (cz (l3 0 16 (bh (bh l)))) ((((false||cF kv l)||cF vv (bh l))||vl 0 16 tv (bh (bh l)))||gq (l3 0 16 (bh (bh l)))||decide (bO (l3 0 16 (bh (bh l)))=0)) aH aJ nS gc 6 _ _ aW)) ?_
 rintro v w5 ⟨rfl,XX,⟨A41,c41,XK,UZ⟩,Xn,M1⟩
 replace hK:=Kp.tr hK M1 (by intro x hx;simp only[List.mem_cons,List.not_mem_nil,or_false] at hx ⊢;omega)
 replace lQ:=M1.rd lQ (by intro g hg;simp at hg;omega)
 replace pD:=M1.rd pD (by intro g hg;simp at hg;omega)
 replace aH:=XX
 replace aJ:=XK
 replace aW:Blk _ gc _ [(.int .i64 op),(.string (av (bq l))),(.slice none 0 0),(.slice V24 (bq (bh l)).length cV24),(.slice V29 (p7 0 16 (bh (bh l))).length cV29),(.int .u64 (↑(bO (l3 0 16 (bh (bh l)))):Int)),(.int .u64 (↑(bO (cz (l3 0 16 (bh (bh l))))):Int)),(.string (av ([]:List UInt8))),(.string (av ([]:List UInt8))),(.string (av ([]:List UInt8)))]:=Xn
 refine ag (bb ?_)
 refine d5 ?_
 have e:bg op l=(⟨op,(bq l),[],(bq (bh l)),(p7 0 16 (bh (bh l))),((bO (l3 0 16 (bh (bh l))))),((bO (cz (l3 0 16 (bh (bh l)))))),([]:List UInt8),([]:List UInt8),([]:List UInt8)⟩,(cz (cz (l3 0 16 (bh (bh l))))),(((((false||cF kv l)||cF vv (bh l))||vl 0 16 tv (bh (bh l)))||gq (l3 0 16 (bh (bh l)))||decide (bO (l3 0 16 (bh (bh l)))=0))||gq (cz (l3 0 16 (bh (bh l)))))):=by rw[hop];simp only[bg,T7,List.foldl_cons,List.foldl_nil,jL,jJ,i8,jb,i9,ja,jM,jK,jN,cmd0]
 rw[e]
 dsimp only[cL]
 exact⟨rfl,aH,⟨_,_,aJ,UZ⟩,⟨none,0,V24,cV24,V29,cV29,aW,Rd.nil _ _ _ _ _ _ (Nat.zero_le _),(Rd.top lQ).mono (by omega) (Nat.le_refl _),(Rd.top pD).mono (by omega) (Nat.le_refl _)⟩,hK⟩
theorem DD (w:World) (gx gc gr lo hi:Nat) (A:Option Addr) (c:Nat) (l:List UInt8) (aH:Blk w gx 153 [.pointer (some ⟨gc,0,none⟩),.pointer (some ⟨gr,0,none⟩),.slice none 0 0,.bool false]) (aJ:Blk w gr 178 [.bool true,.slice A l.length c]) (hr:RdB w lo hi A c l) (ig:gx≠gr) (gP:gx<lo∨hi≤gx) (fT:gr<lo∨hi≤gr) (bI:l.length≤140737488355328) (op:Int) (aW:Blk w gc 39 (cL (cmd0 op) none 0 none 0 none 0)) (fR:gc≠gx) (jW:gc≠gr) (iU:gc<lo∨hi≤gc) (fP:hi≤w.heap.size) (hop:op=4):
  Fn Tryz.prog 87 #[(.pointer (some ⟨gx,0,none⟩))] w (fun v w'=>v=.tuple #[]∧Blk w' gx 153 [.pointer (some ⟨gc,0,none⟩),.pointer (some ⟨gr,0,none⟩),.slice none 0 0,.bool (bg op l).2.2]∧ee w' gr lo hi (bg op l).2.1∧(∃K ck V cv T ct,Blk w' gc 39 (cL (bg op l).1 K ck V cv T ct)∧RdS w' w.heap.size w'.heap.size K ck (bg op l).1.keys∧RdB w' w.heap.size w'.heap.size V cv (bg op l).1.value∧RdS w' w.heap.size w'.heap.size T ct (bg op l).1.tags)∧Kp [gx,gr,gc] w w'):=by
 have hK:=Kp.refl [gx,gr,gc] w
 replace aW:Blk w gc 39 [(.int .i64 op),(.string (av ([]:List UInt8))),(.slice none 0 0),(.slice none 0 0),(.slice none 0 0),(.int .u64 0),(.int .u64 0),(.string (av ([]:List UInt8))),(.string (av ([]:List UInt8))),(.string (av ([]:List UInt8)))]:=aW
 refine aO Tryz.func87 ?_
 refine af (aa ?_)
 refine vm ?_
 refine vn ?_
 refine ab (ah eg) ?_
 refine ab (ak gM aH) ?_
 refine va ?_
 refine ag (ae (af (aa ?_)))
 refine vm ?_
 refine vn ?_
 refine ab (ah dA) ?_
 refine ab (ak cO aW) ?_
 refine aN (d:=10) rfl (v':=(.int .i64 4)) (by rw[hop]) ?_
 refine ag (ae (a9 (af (af (aa ?_)))))
 refine ve ?_
 refine va ?_
 refine ag (ae ?_)
 refine aC ?_
 refine af (aa ?_)
 refine ve ?_
 refine va ?_
 refine ag (ae ?_)
 refine aC ?_
 refine aa ?_
 refine ve ?_
 refine va ?_
 refine ag (ae ?_)
 refine aC ?_
 refine af (af (aa ?_))
 refine ve ?_
 refine va ?_
 refine ag (ae ?_)
 refine aR ?_
 refine aS (ae ?_)
 refine aR ?_
 refine aa ?_
 iterate 2 refine vm ?_
 refine vn ?_
 refine ab (ah hU) ?_
 refine ar (aw jp (jf _ gx gc gr _ _ A c l false aH aJ hr gc 1 _ _ aW kv 104 l7 jA)) ?_
 rintro v w1 ⟨rfl,FE,⟨A50,c50,Fv,ui⟩,Fq,FL⟩
 replace hK:=Kp.tr hK FL (by intro x hx;simp only[List.mem_cons,List.not_mem_nil,or_false] at hx ⊢;omega)
 replace aH:=FE
 replace aJ:=Fv
 replace aW:Blk _ gc _ [(.int .i64 op),(.string (av (bq l))),(.slice none 0 0),(.slice none 0 0),(.slice none 0 0),(.int .u64 0),(.int .u64 0),(.string (av ([]:List UInt8))),(.string (av ([]:List UInt8))),(.string (av ([]:List UInt8)))]:=Fq
 refine ag (bb ?_)
 refine d5 ?_
 have e:bg op l=(⟨op,(bq l),[],[],[],0,0,([]:List UInt8),([]:List UInt8),([]:List UInt8)⟩,(bh l),(false||cF kv l)):=by rw[hop];simp only[bg,T3,List.foldl_cons,List.foldl_nil,jL,jJ,i8,jb,i9,ja,jM,jK,jN,cmd0]
 rw[e]
 dsimp only[cL]
 exact⟨rfl,aH,⟨_,_,aJ,ui⟩,⟨none,0,none,0,none,0,aW,Rd.nil _ _ _ _ _ _ (Nat.zero_le _),Rd.nil _ _ _ _ _ _ (Nat.zero_le _),Rd.nil _ _ _ _ _ _ (Nat.zero_le _)⟩,hK⟩
theorem DC (w:World) (gx gc gr lo hi:Nat) (A:Option Addr) (c:Nat) (l:List UInt8) (aH:Blk w gx 153 [.pointer (some ⟨gc,0,none⟩),.pointer (some ⟨gr,0,none⟩),.slice none 0 0,.bool false]) (aJ:Blk w gr 178 [.bool true,.slice A l.length c]) (hr:RdB w lo hi A c l) (ig:gx≠gr) (gP:gx<lo∨hi≤gx) (fT:gr<lo∨hi≤gr) (bI:l.length≤140737488355328) (op:Int) (aW:Blk w gc 39 (cL (cmd0 op) none 0 none 0 none 0)) (fR:gc≠gx) (jW:gc≠gr) (iU:gc<lo∨hi≤gc) (fP:hi≤w.heap.size) (hop:op=5):
  Fn Tryz.prog 87 #[(.pointer (some ⟨gx,0,none⟩))] w (fun v w'=>v=.tuple #[]∧Blk w' gx 153 [.pointer (some ⟨gc,0,none⟩),.pointer (some ⟨gr,0,none⟩),.slice none 0 0,.bool (bg op l).2.2]∧ee w' gr lo hi (bg op l).2.1∧(∃K ck V cv T ct,Blk w' gc 39 (cL (bg op l).1 K ck V cv T ct)∧RdS w' w.heap.size w'.heap.size K ck (bg op l).1.keys∧RdB w' w.heap.size w'.heap.size V cv (bg op l).1.value∧RdS w' w.heap.size w'.heap.size T ct (bg op l).1.tags)∧Kp [gx,gr,gc] w w'):=by
 have hK:=Kp.refl [gx,gr,gc] w
 replace aW:Blk w gc 39 [(.int .i64 op),(.string (av ([]:List UInt8))),(.slice none 0 0),(.slice none 0 0),(.slice none 0 0),(.int .u64 0),(.int .u64 0),(.string (av ([]:List UInt8))),(.string (av ([]:List UInt8))),(.string (av ([]:List UInt8)))]:=aW
 refine aO Tryz.func87 ?_
 refine af (aa ?_)
 refine vm ?_
 refine vn ?_
 refine ab (ah eg) ?_
 refine ab (ak gM aH) ?_
 refine va ?_
 refine ag (ae (af (aa ?_)))
 refine vm ?_
 refine vn ?_
 refine ab (ah dA) ?_
 refine ab (ak cO aW) ?_
 refine aN (d:=10) rfl (v':=(.int .i64 5)) (by rw[hop]) ?_
 refine ag (ae (a9 (af (af (aa ?_)))))
 refine ve ?_
 refine va ?_
 refine ag (ae ?_)
 refine aC ?_
 refine af (aa ?_)
 refine ve ?_
 refine va ?_
 refine ag (ae ?_)
 refine aC ?_
 refine aa ?_
 refine ve ?_
 refine va ?_
 refine ag (ae ?_)
 refine aC ?_
 refine af (af (aa ?_))
 refine ve ?_
 refine va ?_
 refine ag (ae ?_)
 refine aC ?_
 refine af (aa ?_)
 refine ve ?_
 refine va ?_
 refine ag (ae ?_)
 refine aC ?_
 refine aa ?_
 refine ve ?_
 refine va ?_
 refine ag (ae ?_)
 refine aC ?_
 refine af (aa ?_)
 refine ve ?_
 refine va ?_
 refine ag (ae ?_)
 refine aR ?_
 refine aa ?_
 iterate 2 refine vm ?_
 refine vn ?_
 refine ab (ah jH) ?_
 refine ar (aw AP (KB _ gx gc gr _ _ A c l false aH aJ hr (by omega) (by omega) (by omega) (by omega) _ _ _ _ _ _ _ _ _ aW (by omega) (by omega) (by omega) (by omega))) ?_
 rintro v w1 ⟨rfl,XW,⟨A57,c57,XJ,UX⟩,⟨V57,cV57,Xm,Xh⟩,X7⟩
 replace hK:=Kp.tr hK X7 (by intro x hx;simp only[List.mem_cons,List.not_mem_nil,or_false] at hx ⊢;omega)
 replace aH:=XW
 replace aJ:=XJ
 replace aW:Blk _ gc _ [(.int .i64 op),(.string (av ([]:List UInt8))),(.slice V57 (p7 1 16 l).length cV57),(.slice none 0 0),(.slice none 0 0),(.int .u64 0),(.int .u64 0),(.string (av ([]:List UInt8))),(.string (av ([]:List UInt8))),(.string (av ([]:List UInt8)))]:=Xm
 refine ag (bb ?_)
 refine d5 ?_
 have e:bg op l=(⟨op,([]:List UInt8),(p7 1 16 l),[],[],0,0,([]:List UInt8),([]:List UInt8),([]:List UInt8)⟩,(l3 1 16 l),(false||vl 1 16 kv l)):=by rw[hop];simp only[bg,T0,List.foldl_cons,List.foldl_nil,jL,jJ,i8,jb,i9,ja,jM,jK,jN,cmd0]
 rw[e]
 dsimp only[cL]
 exact⟨rfl,aH,⟨_,_,aJ,UX⟩,⟨V57,cV57,none,0,none,0,aW,(Rd.top Xh).mono (by omega) (Nat.le_refl _),Rd.nil _ _ _ _ _ _ (Nat.zero_le _),Rd.nil _ _ _ _ _ _ (Nat.zero_le _)⟩,hK⟩
theorem DB (w:World) (gx gc gr lo hi:Nat) (A:Option Addr) (c:Nat) (l:List UInt8) (aH:Blk w gx 153 [.pointer (some ⟨gc,0,none⟩),.pointer (some ⟨gr,0,none⟩),.slice none 0 0,.bool false]) (aJ:Blk w gr 178 [.bool true,.slice A l.length c]) (hr:RdB w lo hi A c l) (ig:gx≠gr) (gP:gx<lo∨hi≤gx) (fT:gr<lo∨hi≤gr) (bI:l.length≤140737488355328) (op:Int) (aW:Blk w gc 39 (cL (cmd0 op) none 0 none 0 none 0)) (fR:gc≠gx) (jW:gc≠gr) (iU:gc<lo∨hi≤gc) (fP:hi≤w.heap.size) (hop:op=6):
  Fn Tryz.prog 87 #[(.pointer (some ⟨gx,0,none⟩))] w (fun v w'=>v=.tuple #[]∧Blk w' gx 153 [.pointer (some ⟨gc,0,none⟩),.pointer (some ⟨gr,0,none⟩),.slice none 0 0,.bool (bg op l).2.2]∧ee w' gr lo hi (bg op l).2.1∧(∃K ck V cv T ct,Blk w' gc 39 (cL (bg op l).1 K ck V cv T ct)∧RdS w' w.heap.size w'.heap.size K ck (bg op l).1.keys∧RdB w' w.heap.size w'.heap.size V cv (bg op l).1.value∧RdS w' w.heap.size w'.heap.size T ct (bg op l).1.tags)∧Kp [gx,gr,gc] w w'):=by
 have hK:=Kp.refl [gx,gr,gc] w
 replace aW:Blk w gc 39 [(.int .i64 op),(.string (av ([]:List UInt8))),(.slice none 0 0),(.slice none 0 0),(.slice none 0 0),(.int .u64 0),(.int .u64 0),(.string (av ([]:List UInt8))),(.string (av ([]:List UInt8))),(.string (av ([]:List UInt8)))]:=aW
 refine aO Tryz.func87 ?_
 refine af (aa ?_)
 refine vm ?_
 refine vn ?_
 refine ab (ah eg) ?_
 refine ab (ak gM aH) ?_
 refine va ?_
 refine ag (ae (af (aa ?_)))
 refine vm ?_
 refine vn ?_
 refine ab (ah dA) ?_
 refine ab (ak cO aW) ?_
 refine aN (d:=10) rfl (v':=(.int .i64 6)) (by rw[hop]) ?_
 refine ag (ae (a9 (af (af (aa ?_)))))
 refine ve ?_
 refine va ?_
 refine ag (ae ?_)
 refine aC ?_
 refine af (aa ?_)
 refine ve ?_
 refine va ?_
 refine ag (ae ?_)
 refine aC ?_
 refine aa ?_
 refine ve ?_
 refine va ?_
 refine ag (ae ?_)
 refine aC ?_
 refine af (af (aa ?_))
 refine ve ?_
 refine va ?_
 refine ag (ae ?_)
 refine aC ?_
 refine af (aa ?_)
 refine ve ?_
 refine va ?_
 refine ag (ae ?_)
 refine aC ?_
 refine aa ?_
 refine ve ?_
 refine va ?_
 refine ag (ae ?_)
 refine aC ?_
 refine af (aa ?_)
 refine ve ?_
 refine va ?_
 refine ag (ae ?_)
 refine aC ?_
 refine af (aa ?_)
 refine ve ?_
 refine va ?_
 refine ag (ae ?_)
 refine aR ?_
 refine af (aa ?_)
 iterate 2 refine vm ?_
 refine vn ?_
 refine ab (ah hU) ?_
 refine ar (aw jp (jf _ gx gc gr _ _ A c l false aH aJ hr gc 1 _ _ aW kv 104 l7 jA)) ?_
 rintro v w1 ⟨rfl,XU,⟨A64,c64,XI,BK⟩,Xl,Ru⟩
 have Ta:=Ru.size
 replace hK:=Kp.tr hK Ru (by intro x hx;simp only[List.mem_cons,List.not_mem_nil,or_false] at hx ⊢;omega)
 replace aH:=XU
 replace aJ:=XI
 replace aW:Blk _ gc _ [(.int .i64 op),(.string (av (bq l))),(.slice none 0 0),(.slice none 0 0),(.slice none 0 0),(.int .u64 0),(.int .u64 0),(.string (av ([]:List UInt8))),(.string (av ([]:List UInt8))),(.string (av ([]:List UInt8)))]:=Xl
 have hlr64:=eT l
 refine ag (ae (aa ?_))
 refine vm ?_
 refine ar (aw AO (zX _ gx gc gr _ _ A64 c64 (bh l) (false||cF kv l) aH aJ BK _ _ _ _ _ _ _ _ _ aW)) ?_
 rintro v w2 ⟨rfl,XT,⟨A66,c66,XH,UW⟩,Xk,X6⟩
 replace hK:=Kp.tr hK X6 (by intro x hx;simp only[List.mem_cons,List.not_mem_nil,or_false] at hx ⊢;omega)
 replace aH:=XT
 replace aJ:=XH
 replace aW:Blk _ gc _ [(.int .i64 op),(.string (av (bq l))),(.slice none 0 0),(.slice none 0 0),(.slice none 0 0),(.int .u64 (↑(bO (bh l)):Int)),(.int .u64 0),(.string (av ([]:List UInt8))),(.string (av ([]:List UInt8))),(.string (av ([]:List UInt8)))]:=Xk
 refine ag (bb ?_)
 refine d5 ?_
 have e:bg op l=(⟨op,(bq l),[],[],[],((bO (bh l))),0,([]:List UInt8),([]:List UInt8),([]:List UInt8)⟩,(cz (bh l)),((false||cF kv l)||gq (bh l)||decide (bO (bh l)=0))):=by rw[hop];simp only[bg,TZ,List.foldl_cons,List.foldl_nil,jL,jJ,i8,jb,i9,ja,jM,jK,jN,cmd0]
 rw[e]
 dsimp only[cL]
 exact⟨rfl,aH,⟨_,_,aJ,UW⟩,⟨none,0,none,0,none,0,aW,Rd.nil _ _ _ _ _ _ (Nat.zero_le _),Rd.nil _ _ _ _ _ _ (Nat.zero_le _),Rd.nil _ _ _ _ _ _ (Nat.zero_le _)⟩,hK⟩
theorem DA (w:World) (gx gc gr lo hi:Nat) (A:Option Addr) (c:Nat) (l:List UInt8) (aH:Blk w gx 153 [.pointer (some ⟨gc,0,none⟩),.pointer (some ⟨gr,0,none⟩),.slice none 0 0,.bool false]) (aJ:Blk w gr 178 [.bool true,.slice A l.length c]) (hr:RdB w lo hi A c l) (ig:gx≠gr) (gP:gx<lo∨hi≤gx) (fT:gr<lo∨hi≤gr) (bI:l.length≤140737488355328) (op:Int) (aW:Blk w gc 39 (cL (cmd0 op) none 0 none 0 none 0)) (fR:gc≠gx) (jW:gc≠gr) (iU:gc<lo∨hi≤gc) (fP:hi≤w.heap.size) (hop:op=7):
  Fn Tryz.prog 87 #[(.pointer (some ⟨gx,0,none⟩))] w (fun v w'=>v=.tuple #[]∧Blk w' gx 153 [.pointer (some ⟨gc,0,none⟩),.pointer (some ⟨gr,0,none⟩),.slice none 0 0,.bool (bg op l).2.2]∧ee w' gr lo hi (bg op l).2.1∧(∃K ck V cv T ct,Blk w' gc 39 (cL (bg op l).1 K ck V cv T ct)∧RdS w' w.heap.size w'.heap.size K ck (bg op l).1.keys∧RdB w' w.heap.size w'.heap.size V cv (bg op l).1.value∧RdS w' w.heap.size w'.heap.size T ct (bg op l).1.tags)∧Kp [gx,gr,gc] w w'):=by
 have hK:=Kp.refl [gx,gr,gc] w
 replace aW:Blk w gc 39 [(.int .i64 op),(.string (av ([]:List UInt8))),(.slice none 0 0),(.slice none 0 0),(.slice none 0 0),(.int .u64 0),(.int .u64 0),(.string (av ([]:List UInt8))),(.string (av ([]:List UInt8))),(.string (av ([]:List UInt8)))]:=aW
 refine aO Tryz.func87 ?_
 refine af (aa ?_)
 refine vm ?_
 refine vn ?_
 refine ab (ah eg) ?_
 refine ab (ak gM aH) ?_
 refine va ?_
 refine ag (ae (af (aa ?_)))
 refine vm ?_
 refine vn ?_
 refine ab (ah dA) ?_
 refine ab (ak cO aW) ?_
 refine aN (d:=10) rfl (v':=(.int .i64 7)) (by rw[hop]) ?_
 refine ag (ae (a9 (af (af (aa ?_)))))
 refine ve ?_
 refine va ?_
 refine ag (ae ?_)
 refine aC ?_
 refine af (aa ?_)
 refine ve ?_
 refine va ?_
 refine ag (ae ?_)
 refine aC ?_
 refine aa ?_
 refine ve ?_
 refine va ?_
 refine ag (ae ?_)
 refine aC ?_
 refine af (af (aa ?_))
 refine ve ?_
 refine va ?_
 refine ag (ae ?_)
 refine aC ?_
 refine af (aa ?_)
 refine ve ?_
 refine va ?_
 refine ag (ae ?_)
 refine aR ?_
 refine aS (ae ?_)
 refine aR ?_
 refine aa ?_
 iterate 2 refine vm ?_
 refine vn ?_
 refine ab (ah hU) ?_
 refine ar (aw jp (jf _ gx gc gr _ _ A c l false aH aJ hr gc 1 _ _ aW kv 104 l7 jA)) ?_
 rintro v w1 ⟨rfl,FE,⟨A50,c50,Fv,ui⟩,Fq,FL⟩
 replace hK:=Kp.tr hK FL (by intro x hx;simp only[List.mem_cons,List.not_mem_nil,or_false] at hx ⊢;omega)
 replace aH:=FE
 replace aJ:=Fv
 replace aW:Blk _ gc _ [(.int .i64 op),(.string (av (bq l))),(.slice none 0 0),(.slice none 0 0),(.slice none 0 0),(.int .u64 0),(.int .u64 0),(.string (av ([]:List UInt8))),(.string (av ([]:List UInt8))),(.string (av ([]:List UInt8)))]:=Fq
 refine ag (bb ?_)
 refine d5 ?_
 have e:bg op l=(⟨op,(bq l),[],[],[],0,0,([]:List UInt8),([]:List UInt8),([]:List UInt8)⟩,(bh l),(false||cF kv l)):=by rw[hop];simp only[bg,TY,List.foldl_cons,List.foldl_nil,jL,jJ,i8,jb,i9,ja,jM,jK,jN,cmd0]
 rw[e]
 dsimp only[cL]
 exact⟨rfl,aH,⟨_,_,aJ,ui⟩,⟨none,0,none,0,none,0,aW,Rd.nil _ _ _ _ _ _ (Nat.zero_le _),Rd.nil _ _ _ _ _ _ (Nat.zero_le _),Rd.nil _ _ _ _ _ _ (Nat.zero_le _)⟩,hK⟩
theorem Dz (w:World) (gx gc gr lo hi:Nat) (A:Option Addr) (c:Nat) (l:List UInt8) (aH:Blk w gx 153 [.pointer (some ⟨gc,0,none⟩),.pointer (some ⟨gr,0,none⟩),.slice none 0 0,.bool false]) (aJ:Blk w gr 178 [.bool true,.slice A l.length c]) (hr:RdB w lo hi A c l) (ig:gx≠gr) (gP:gx<lo∨hi≤gx) (fT:gr<lo∨hi≤gr) (bI:l.length≤140737488355328) (op:Int) (aW:Blk w gc 39 (cL (cmd0 op) none 0 none 0 none 0)) (fR:gc≠gx) (jW:gc≠gr) (iU:gc<lo∨hi≤gc) (fP:hi≤w.heap.size) (hop:op=8):
  Fn Tryz.prog 87 #[(.pointer (some ⟨gx,0,none⟩))] w (fun v w'=>v=.tuple #[]∧Blk w' gx 153 [.pointer (some ⟨gc,0,none⟩),.pointer (some ⟨gr,0,none⟩),.slice none 0 0,.bool (bg op l).2.2]∧ee w' gr lo hi (bg op l).2.1∧(∃K ck V cv T ct,Blk w' gc 39 (cL (bg op l).1 K ck V cv T ct)∧RdS w' w.heap.size w'.heap.size K ck (bg op l).1.keys∧RdB w' w.heap.size w'.heap.size V cv (bg op l).1.value∧RdS w' w.heap.size w'.heap.size T ct (bg op l).1.tags)∧Kp [gx,gr,gc] w w'):=by
 have hK:=Kp.refl [gx,gr,gc] w
 replace aW:Blk w gc 39 [(.int .i64 op),(.string (av ([]:List UInt8))),(.slice none 0 0),(.slice none 0 0),(.slice none 0 0),(.int .u64 0),(.int .u64 0),(.string (av ([]:List UInt8))),(.string (av ([]:List UInt8))),(.string (av ([]:List UInt8)))]:=aW
 refine aO Tryz.func87 ?_
 refine af (aa ?_)
 refine vm ?_
 refine vn ?_
 refine ab (ah eg) ?_
 refine ab (ak gM aH) ?_
 refine va ?_
 refine ag (ae (af (aa ?_)))
 refine vm ?_
 refine vn ?_
 refine ab (ah dA) ?_
 refine ab (ak cO aW) ?_
 refine aN (d:=10) rfl (v':=(.int .i64 8)) (by rw[hop]) ?_
 refine ag (ae (a9 (af (af (aa ?_)))))
 refine ve ?_
 refine va ?_
 refine ag (ae ?_)
 refine aC ?_
 refine af (aa ?_)
 refine ve ?_
 refine va ?_
 refine ag (ae ?_)
 refine aC ?_
 refine aa ?_
 refine ve ?_
 refine va ?_
 refine ag (ae ?_)
 refine aC ?_
 refine af (af (aa ?_))
 refine ve ?_
 refine va ?_
 refine ag (ae ?_)
 refine aC ?_
 refine af (aa ?_)
 refine ve ?_
 refine va ?_
 refine ag (ae ?_)
 refine aC ?_
 refine aa ?_
 refine ve ?_
 refine va ?_
 refine ag (ae ?_)
 refine aC ?_
 refine af (aa ?_)
 refine ve ?_
 refine va ?_
 refine ag (ae ?_)
 refine aC ?_
 refine af (aa ?_)
 refine ve ?_
 refine va ?_
 refine ag (ae ?_)
 refine aC ?_
 refine af (af (aa ?_))
 refine ve ?_
 refine va ?_
 refine ag (ae ?_)
 refine aR ?_
 refine aS (ae ?_)
 refine aR ?_
 refine aa ?_
 iterate 2 refine vm ?_
 refine vn ?_
 refine ab (ah mQ) ?_
 refine ar (aw jp (jf _ gx gc gr _ _ A c l false aH aJ hr gc 7 _ _ aW tv 107 Gm x2)) ?_
 rintro v w1 ⟨rfl,MS,⟨A74,c74,MK,Lv⟩,ME,M0⟩
 replace hK:=Kp.tr hK M0 (by intro x hx;simp only[List.mem_cons,List.not_mem_nil,or_false] at hx ⊢;omega)
 replace aH:=MS
 replace aJ:=MK
 replace aW:Blk _ gc _ [(.int .i64 op),(.string (av ([]:List UInt8))),(.slice none 0 0),(.slice none 0 0),(.slice none 0 0),(.int .u64 0),(.int .u64 0),(.string (av (bq l))),(.string (av ([]:List UInt8))),(.string (av ([]:List UInt8)))]:=ME
 refine ag (bb ?_)
 refine d5 ?_
 have e:bg op l=(⟨op,([]:List UInt8),[],[],[],0,0,(bq l),([]:List UInt8),([]:List UInt8)⟩,(bh l),(false||cF tv l)):=by rw[hop];simp only[bg,TX,List.foldl_cons,List.foldl_nil,jL,jJ,i8,jb,i9,ja,jM,jK,jN,cmd0]
 rw[e]
 dsimp only[cL]
 exact⟨rfl,aH,⟨_,_,aJ,Lv⟩,⟨none,0,none,0,none,0,aW,Rd.nil _ _ _ _ _ _ (Nat.zero_le _),Rd.nil _ _ _ _ _ _ (Nat.zero_le _),Rd.nil _ _ _ _ _ _ (Nat.zero_le _)⟩,hK⟩
theorem Dy (w:World) (gx gc gr lo hi:Nat) (A:Option Addr) (c:Nat) (l:List UInt8) (aH:Blk w gx 153 [.pointer (some ⟨gc,0,none⟩),.pointer (some ⟨gr,0,none⟩),.slice none 0 0,.bool false]) (aJ:Blk w gr 178 [.bool true,.slice A l.length c]) (hr:RdB w lo hi A c l) (ig:gx≠gr) (gP:gx<lo∨hi≤gx) (fT:gr<lo∨hi≤gr) (bI:l.length≤140737488355328) (op:Int) (aW:Blk w gc 39 (cL (cmd0 op) none 0 none 0 none 0)) (fR:gc≠gx) (jW:gc≠gr) (iU:gc<lo∨hi≤gc) (fP:hi≤w.heap.size) (hop:op=9):
  Fn Tryz.prog 87 #[(.pointer (some ⟨gx,0,none⟩))] w (fun v w'=>v=.tuple #[]∧Blk w' gx 153 [.pointer (some ⟨gc,0,none⟩),.pointer (some ⟨gr,0,none⟩),.slice none 0 0,.bool (bg op l).2.2]∧ee w' gr lo hi (bg op l).2.1∧(∃K ck V cv T ct,Blk w' gc 39 (cL (bg op l).1 K ck V cv T ct)∧RdS w' w.heap.size w'.heap.size K ck (bg op l).1.keys∧RdB w' w.heap.size w'.heap.size V cv (bg op l).1.value∧RdS w' w.heap.size w'.heap.size T ct (bg op l).1.tags)∧Kp [gx,gr,gc] w w'):=by
 have hK:=Kp.refl [gx,gr,gc] w
 replace aW:Blk w gc 39 [(.int .i64 op),(.string (av ([]:List UInt8))),(.slice none 0 0),(.slice none 0 0),(.slice none 0 0),(.int .u64 0),(.int .u64 0),(.string (av ([]:List UInt8))),(.string (av ([]:List UInt8))),(.string (av ([]:List UInt8)))]:=aW
 refine aO Tryz.func87 ?_
 refine af (aa ?_)
 refine vm ?_
 refine vn ?_
 refine ab (ah eg) ?_
 refine ab (ak gM aH) ?_
 refine va ?_
 refine ag (ae (af (aa ?_)))
 refine vm ?_
 refine vn ?_
 refine ab (ah dA) ?_
 refine ab (ak cO aW) ?_
 refine aN (d:=10) rfl (v':=(.int .i64 9)) (by rw[hop]) ?_
 refine ag (ae (a9 (af (af (aa ?_)))))
 refine ve ?_
 refine va ?_
 refine ag (ae ?_)
 refine aC ?_
 refine af (aa ?_)
 refine ve ?_
 refine va ?_
 refine ag (ae ?_)
 refine aC ?_
 refine aa ?_
 refine ve ?_
 refine va ?_
 refine ag (ae ?_)
 refine aC ?_
 refine af (af (aa ?_))
 refine ve ?_
 refine va ?_
 refine ag (ae ?_)
 refine aC ?_
 refine af (aa ?_)
 refine ve ?_
 refine va ?_
 refine ag (ae ?_)
 refine aC ?_
 refine aa ?_
 refine ve ?_
 refine va ?_
 refine ag (ae ?_)
 refine aC ?_
 refine af (aa ?_)
 refine ve ?_
 refine va ?_
 refine ag (ae ?_)
 refine aC ?_
 refine af (aa ?_)
 refine ve ?_
 refine va ?_
 refine ag (ae ?_)
 refine aC ?_
 refine af (af (aa ?_))
 refine ve ?_
 refine va ?_
 refine ag (ae ?_)
 refine aC ?_
 refine aa ?_
 refine ve ?_
 refine va ?_
 refine ag (ae ?_)
 refine aR ?_
 refine aa ?_
 iterate 2 refine vm ?_
 refine vn ?_
 refine ab (ah mQ) ?_
 refine ar (aw jp (jf _ gx gc gr _ _ A c l false aH aJ hr gc 7 _ _ aW tv 107 Gm x2)) ?_
 rintro v w1 ⟨rfl,MS,⟨A74,c74,MK,Lv⟩,ME,M0⟩
 replace hK:=Kp.tr hK M0 (by intro x hx;simp only[List.mem_cons,List.not_mem_nil,or_false] at hx ⊢;omega)
 replace aH:=MS
 replace aJ:=MK
 replace aW:Blk _ gc _ [(.int .i64 op),(.string (av ([]:List UInt8))),(.slice none 0 0),(.slice none 0 0),(.slice none 0 0),(.int .u64 0),(.int .u64 0),(.string (av (bq l))),(.string (av ([]:List UInt8))),(.string (av ([]:List UInt8)))]:=ME
 refine ag (bb ?_)
 refine d5 ?_
 have e:bg op l=(⟨op,([]:List UInt8),[],[],[],0,0,(bq l),([]:List UInt8),([]:List UInt8)⟩,(bh l),(false||cF tv l)):=by rw[hop];simp only[bg,TW,List.foldl_cons,List.foldl_nil,jL,jJ,i8,jb,i9,ja,jM,jK,jN,cmd0]
 rw[e]
 dsimp only[cL]
 exact⟨rfl,aH,⟨_,_,aJ,Lv⟩,⟨none,0,none,0,none,0,aW,Rd.nil _ _ _ _ _ _ (Nat.zero_le _),Rd.nil _ _ _ _ _ _ (Nat.zero_le _),Rd.nil _ _ _ _ _ _ (Nat.zero_le _)⟩,hK⟩
theorem Bv (w:World) (gx gc gr lo hi:Nat) (A:Option Addr) (c:Nat) (l:List UInt8) (aH:Blk w gx 153 [.pointer (some ⟨gc,0,none⟩),.pointer (some ⟨gr,0,none⟩),.slice none 0 0,.bool false]) (aJ:Blk w gr 178 [.bool true,.slice A l.length c]) (hr:RdB w lo hi A c l) (ig:gx≠gr) (gP:gx<lo∨hi≤gx) (fT:gr<lo∨hi≤gr) (bI:l.length≤140737488355328) (op:Int) (aW:Blk w gc 39 (cL (cmd0 op) none 0 none 0 none 0)) (fR:gc≠gx) (jW:gc≠gr) (iU:gc<lo∨hi≤gc) (fP:hi≤w.heap.size) (hop:op=10):
  Fn Tryz.prog 87 #[(.pointer (some ⟨gx,0,none⟩))] w (fun v w'=>v=.tuple #[]∧Blk w' gx 153 [.pointer (some ⟨gc,0,none⟩),.pointer (some ⟨gr,0,none⟩),.slice none 0 0,.bool (bg op l).2.2]∧ee w' gr lo hi (bg op l).2.1∧(∃K ck V cv T ct,Blk w' gc 39 (cL (bg op l).1 K ck V cv T ct)∧RdS w' w.heap.size w'.heap.size K ck (bg op l).1.keys∧RdB w' w.heap.size w'.heap.size V cv (bg op l).1.value∧RdS w' w.heap.size w'.heap.size T ct (bg op l).1.tags)∧Kp [gx,gr,gc] w w'):=by
 have hK:=Kp.refl [gx,gr,gc] w
 replace aW:Blk w gc 39 [(.int .i64 op),(.string (av ([]:List UInt8))),(.slice none 0 0),(.slice none 0 0),(.slice none 0 0),(.int .u64 0),(.int .u64 0),(.string (av ([]:List UInt8))),(.string (av ([]:List UInt8))),(.string (av ([]:List UInt8)))]:=aW
 refine aO Tryz.func87 ?_
 refine af (aa ?_)
 refine vm ?_
 refine vn ?_
 refine ab (ah eg) ?_
 refine ab (ak gM aH) ?_
 refine va ?_
 refine ag (ae (af (aa ?_)))
 refine vm ?_
 refine vn ?_
 refine ab (ah dA) ?_
 refine ab (ak cO aW) ?_
 refine aN (d:=10) rfl (v':=(.int .i64 10)) (by rw[hop]) ?_
 refine ag (ae (a9 (af (af (aa ?_)))))
 refine ve ?_
 refine va ?_
 refine ag (ae ?_)
 refine aC ?_
 refine af (aa ?_)
 refine ve ?_
 refine va ?_
 refine ag (ae ?_)
 refine aC ?_
 refine aa ?_
 refine ve ?_
 refine va ?_
 refine ag (ae ?_)
 refine aC ?_
 refine af (af (aa ?_))
 refine ve ?_
 refine va ?_
 refine ag (ae ?_)
 refine aC ?_
 refine af (aa ?_)
 refine ve ?_
 refine va ?_
 refine ag (ae ?_)
 refine aC ?_
 refine aa ?_
 refine ve ?_
 refine va ?_
 refine ag (ae ?_)
 refine aC ?_
 refine af (aa ?_)
 refine ve ?_
 refine va ?_
 refine ag (ae ?_)
 refine aC ?_
 refine af (aa ?_)
 refine ve ?_
 refine va ?_
 refine ag (ae ?_)
 refine aC ?_
 refine af (af (aa ?_))
 refine ve ?_
 refine va ?_
 refine ag (ae ?_)
 refine aC ?_
 refine aa ?_
 refine ve ?_
 refine va ?_
 refine ag (ae ?_)
 refine aC ?_
 refine af (aa ?_)
 refine ve ?_
 refine va ?_
 refine ag (ae ?_)
 refine aR ?_
 refine aa ?_
 iterate 2 refine vm ?_
 refine vn ?_
 refine ab (ah ob) ?_
 refine ar (aw jp (jf _ gx gc gr _ _ A c l false aH aJ hr gc 8 _ _ aW pv 110 Si Kh)) ?_
 rintro v w1 ⟨rfl,XS,⟨A81,c81,XG,UU⟩,Xj,X5⟩
 replace hK:=Kp.tr hK X5 (by intro x hx;simp only[List.mem_cons,List.not_mem_nil,or_false] at hx ⊢;omega)
 replace aH:=XS
 replace aJ:=XG
 replace aW:Blk _ gc _ [(.int .i64 op),(.string (av ([]:List UInt8))),(.slice none 0 0),(.slice none 0 0),(.slice none 0 0),(.int .u64 0),(.int .u64 0),(.string (av ([]:List UInt8))),(.string (av (bq l))),(.string (av ([]:List UInt8)))]:=Xj
 refine ag (bb ?_)
 refine d5 ?_
 have e:bg op l=(⟨op,([]:List UInt8),[],[],[],0,0,([]:List UInt8),(bq l),([]:List UInt8)⟩,(bh l),(false||cF pv l)):=by rw[hop];simp only[bg,OZ,List.foldl_cons,List.foldl_nil,jL,jJ,i8,jb,i9,ja,jM,jK,jN,cmd0]
 rw[e]
 dsimp only[cL]
 exact⟨rfl,aH,⟨_,_,aJ,UU⟩,⟨none,0,none,0,none,0,aW,Rd.nil _ _ _ _ _ _ (Nat.zero_le _),Rd.nil _ _ _ _ _ _ (Nat.zero_le _),Rd.nil _ _ _ _ _ _ (Nat.zero_le _)⟩,hK⟩
theorem Bu (w:World) (gx gc gr lo hi:Nat) (A:Option Addr) (c:Nat) (l:List UInt8) (aH:Blk w gx 153 [.pointer (some ⟨gc,0,none⟩),.pointer (some ⟨gr,0,none⟩),.slice none 0 0,.bool false]) (aJ:Blk w gr 178 [.bool true,.slice A l.length c]) (hr:RdB w lo hi A c l) (ig:gx≠gr) (gP:gx<lo∨hi≤gx) (fT:gr<lo∨hi≤gr) (bI:l.length≤140737488355328) (op:Int) (aW:Blk w gc 39 (cL (cmd0 op) none 0 none 0 none 0)) (fR:gc≠gx) (jW:gc≠gr) (iU:gc<lo∨hi≤gc) (fP:hi≤w.heap.size) (hop:op=11):
  Fn Tryz.prog 87 #[(.pointer (some ⟨gx,0,none⟩))] w (fun v w'=>v=.tuple #[]∧Blk w' gx 153 [.pointer (some ⟨gc,0,none⟩),.pointer (some ⟨gr,0,none⟩),.slice none 0 0,.bool (bg op l).2.2]∧ee w' gr lo hi (bg op l).2.1∧(∃K ck V cv T ct,Blk w' gc 39 (cL (bg op l).1 K ck V cv T ct)∧RdS w' w.heap.size w'.heap.size K ck (bg op l).1.keys∧RdB w' w.heap.size w'.heap.size V cv (bg op l).1.value∧RdS w' w.heap.size w'.heap.size T ct (bg op l).1.tags)∧Kp [gx,gr,gc] w w'):=by
 have hK:=Kp.refl [gx,gr,gc] w
 replace aW:Blk w gc 39 [(.int .i64 op),(.string (av ([]:List UInt8))),(.slice none 0 0),(.slice none 0 0),(.slice none 0 0),(.int .u64 0),(.int .u64 0),(.string (av ([]:List UInt8))),(.string (av ([]:List UInt8))),(.string (av ([]:List UInt8)))]:=aW
 refine aO Tryz.func87 ?_
 refine af (aa ?_)
 refine vm ?_
 refine vn ?_
 refine ab (ah eg) ?_
 refine ab (ak gM aH) ?_
 refine va ?_
 refine ag (ae (af (aa ?_)))
 refine vm ?_
 refine vn ?_
 refine ab (ah dA) ?_
 refine ab (ak cO aW) ?_
 refine aN (d:=10) rfl (v':=(.int .i64 11)) (by rw[hop]) ?_
 refine ag (ae (a9 (af (af (aa ?_)))))
 refine ve ?_
 refine va ?_
 refine ag (ae ?_)
 refine aC ?_
 refine af (aa ?_)
 refine ve ?_
 refine va ?_
 refine ag (ae ?_)
 refine aC ?_
 refine aa ?_
 refine ve ?_
 refine va ?_
 refine ag (ae ?_)
 refine aC ?_
 refine af (af (aa ?_))
 refine ve ?_
 refine va ?_
 refine ag (ae ?_)
 refine aC ?_
 refine af (aa ?_)
 refine ve ?_
 refine va ?_
 refine ag (ae ?_)
 refine aC ?_
 refine aa ?_
 refine ve ?_
 refine va ?_
 refine ag (ae ?_)
 refine aC ?_
 refine af (aa ?_)
 refine ve ?_
 refine va ?_
 refine ag (ae ?_)
 refine aC ?_
 refine af (aa ?_)
 refine ve ?_
 refine va ?_
 refine ag (ae ?_)
 refine aC ?_
 refine af (af (aa ?_))
 refine ve ?_
 refine va ?_
 refine ag (ae ?_)
 refine aC ?_
 refine aa ?_
 refine ve ?_
 refine va ?_
 refine ag (ae ?_)
 refine aC ?_
 refine af (aa ?_)
 refine ve ?_
 refine va ?_
 refine ag (ae ?_)
 refine aC ?_
 refine af (af (aa ?_))
 refine ve ?_
 refine va ?_
 refine ag (ae ?_)
 refine aR ?_
 refine aS (ae ?_)
 refine aR ?_
 refine af (aa ?_)
 iterate 2 refine vm ?_
 refine vn ?_
 refine ab (ah hU) ?_
 refine ar (aw jp (jf _ gx gc gr _ _ A c l false aH aJ hr gc 1 _ _ aW kv 104 l7 jA)) ?_
 rintro v w1 ⟨rfl,MR,⟨A89,c89,MJ,Lu⟩,MD,MZ⟩
 replace hK:=Kp.tr hK MZ (by intro x hx;simp only[List.mem_cons,List.not_mem_nil,or_false] at hx ⊢;omega)
 replace aH:=MR
 replace aJ:=MJ
 replace aW:Blk _ gc _ [(.int .i64 op),(.string (av (bq l))),(.slice none 0 0),(.slice none 0 0),(.slice none 0 0),(.int .u64 0),(.int .u64 0),(.string (av ([]:List UInt8))),(.string (av ([]:List UInt8))),(.string (av ([]:List UInt8)))]:=MD
 have Qm:=eT l
 refine ag (ae (aa ?_))
 iterate 2 refine vm ?_
 refine vn ?_
 refine ab (ah mP) ?_
 refine ar (aw jp (jf _ gx gc gr _ _ A89 c89 (bh l) (false||cF kv l) aH aJ Lu gc 9 _ _ aW kv 104 l7 jA)) ?_
 rintro v w2 ⟨rfl,MQ,⟨A94,c94,MI,Lt⟩,MC,MY⟩
 replace hK:=Kp.tr hK MY (by intro x hx;simp only[List.mem_cons,List.not_mem_nil,or_false] at hx ⊢;omega)
 replace aH:=MQ
 replace aJ:=MI
 replace aW:Blk _ gc _ [(.int .i64 op),(.string (av (bq l))),(.slice none 0 0),(.slice none 0 0),(.slice none 0 0),(.int .u64 0),(.int .u64 0),(.string (av ([]:List UInt8))),(.string (av ([]:List UInt8))),(.string (av (bq (bh l))))]:=MC
 refine ag (bb ?_)
 refine d5 ?_
 have e:bg op l=(⟨op,(bq l),[],[],[],0,0,([]:List UInt8),([]:List UInt8),(bq (bh l))⟩,(bh (bh l)),((false||cF kv l)||cF kv (bh l))):=by rw[hop];simp only[bg,OY,List.foldl_cons,List.foldl_nil,jL,jJ,i8,jb,i9,ja,jM,jK,jN,cmd0]
 rw[e]
 dsimp only[cL]
 exact⟨rfl,aH,⟨_,_,aJ,Lt⟩,⟨none,0,none,0,none,0,aW,Rd.nil _ _ _ _ _ _ (Nat.zero_le _),Rd.nil _ _ _ _ _ _ (Nat.zero_le _),Rd.nil _ _ _ _ _ _ (Nat.zero_le _)⟩,hK⟩
theorem Bt (w:World) (gx gc gr lo hi:Nat) (A:Option Addr) (c:Nat) (l:List UInt8) (aH:Blk w gx 153 [.pointer (some ⟨gc,0,none⟩),.pointer (some ⟨gr,0,none⟩),.slice none 0 0,.bool false]) (aJ:Blk w gr 178 [.bool true,.slice A l.length c]) (hr:RdB w lo hi A c l) (ig:gx≠gr) (gP:gx<lo∨hi≤gx) (fT:gr<lo∨hi≤gr) (bI:l.length≤140737488355328) (op:Int) (aW:Blk w gc 39 (cL (cmd0 op) none 0 none 0 none 0)) (fR:gc≠gx) (jW:gc≠gr) (iU:gc<lo∨hi≤gc) (fP:hi≤w.heap.size) (hop:op=12):
  Fn Tryz.prog 87 #[(.pointer (some ⟨gx,0,none⟩))] w (fun v w'=>v=.tuple #[]∧Blk w' gx 153 [.pointer (some ⟨gc,0,none⟩),.pointer (some ⟨gr,0,none⟩),.slice none 0 0,.bool (bg op l).2.2]∧ee w' gr lo hi (bg op l).2.1∧(∃K ck V cv T ct,Blk w' gc 39 (cL (bg op l).1 K ck V cv T ct)∧RdS w' w.heap.size w'.heap.size K ck (bg op l).1.keys∧RdB w' w.heap.size w'.heap.size V cv (bg op l).1.value∧RdS w' w.heap.size w'.heap.size T ct (bg op l).1.tags)∧Kp [gx,gr,gc] w w'):=by
 have hK:=Kp.refl [gx,gr,gc] w
 replace aW:Blk w gc 39 [(.int .i64 op),(.string (av ([]:List UInt8))),(.slice none 0 0),(.slice none 0 0),(.slice none 0 0),(.int .u64 0),(.int .u64 0),(.string (av ([]:List UInt8))),(.string (av ([]:List UInt8))),(.string (av ([]:List UInt8)))]:=aW
 refine aO Tryz.func87 ?_
 refine af (aa ?_)
 refine vm ?_
 refine vn ?_
 refine ab (ah eg) ?_
 refine ab (ak gM aH) ?_
 refine va ?_
 refine ag (ae (af (aa ?_)))
 refine vm ?_
 refine vn ?_
 refine ab (ah dA) ?_
 refine ab (ak cO aW) ?_
 refine aN (d:=10) rfl (v':=(.int .i64 12)) (by rw[hop]) ?_
 refine ag (ae (a9 (af (af (aa ?_)))))
 refine ve ?_
 refine va ?_
 refine ag (ae ?_)
 refine aC ?_
 refine af (aa ?_)
 refine ve ?_
 refine va ?_
 refine ag (ae ?_)
 refine aC ?_
 refine aa ?_
 refine ve ?_
 refine va ?_
 refine ag (ae ?_)
 refine aC ?_
 refine af (af (aa ?_))
 refine ve ?_
 refine va ?_
 refine ag (ae ?_)
 refine aC ?_
 refine af (aa ?_)
 refine ve ?_
 refine va ?_
 refine ag (ae ?_)
 refine aC ?_
 refine aa ?_
 refine ve ?_
 refine va ?_
 refine ag (ae ?_)
 refine aC ?_
 refine af (aa ?_)
 refine ve ?_
 refine va ?_
 refine ag (ae ?_)
 refine aC ?_
 refine af (aa ?_)
 refine ve ?_
 refine va ?_
 refine ag (ae ?_)
 refine aC ?_
 refine af (af (aa ?_))
 refine ve ?_
 refine va ?_
 refine ag (ae ?_)
 refine aC ?_
 refine aa ?_
 refine ve ?_
 refine va ?_
 refine ag (ae ?_)
 refine aC ?_
 refine af (aa ?_)
 refine ve ?_
 refine va ?_
 refine ag (ae ?_)
 refine aC ?_
 refine af (af (aa ?_))
 refine ve ?_
 refine va ?_
 refine ag (ae ?_)
 refine aC ?_
 refine aa ?_
 refine ve ?_
 refine va ?_
 refine ag (ae ?_)
 refine aR ?_
 refine af (aa ?_)
 iterate 2 refine vm ?_
 refine vn ?_
 refine ab (ah hU) ?_
 refine ar (aw jp (jf _ gx gc gr _ _ A c l false aH aJ hr gc 1 _ _ aW kv 104 l7 jA)) ?_
 rintro v w1 ⟨rfl,MR,⟨A89,c89,MJ,Lu⟩,MD,MZ⟩
 replace hK:=Kp.tr hK MZ (by intro x hx;simp only[List.mem_cons,List.not_mem_nil,or_false] at hx ⊢;omega)
 replace aH:=MR
 replace aJ:=MJ
 replace aW:Blk _ gc _ [(.int .i64 op),(.string (av (bq l))),(.slice none 0 0),(.slice none 0 0),(.slice none 0 0),(.int .u64 0),(.int .u64 0),(.string (av ([]:List UInt8))),(.string (av ([]:List UInt8))),(.string (av ([]:List UInt8)))]:=MD
 have Qm:=eT l
 refine ag (ae (aa ?_))
 iterate 2 refine vm ?_
 refine vn ?_
 refine ab (ah mP) ?_
 refine ar (aw jp (jf _ gx gc gr _ _ A89 c89 (bh l) (false||cF kv l) aH aJ Lu gc 9 _ _ aW kv 104 l7 jA)) ?_
 rintro v w2 ⟨rfl,MQ,⟨A94,c94,MI,Lt⟩,MC,MY⟩
 replace hK:=Kp.tr hK MY (by intro x hx;simp only[List.mem_cons,List.not_mem_nil,or_false] at hx ⊢;omega)
 replace aH:=MQ
 replace aJ:=MI
 replace aW:Blk _ gc _ [(.int .i64 op),(.string (av (bq l))),(.slice none 0 0),(.slice none 0 0),(.slice none 0 0),(.int .u64 0),(.int .u64 0),(.string (av ([]:List UInt8))),(.string (av ([]:List UInt8))),(.string (av (bq (bh l))))]:=MC
 refine ag (bb ?_)
 refine d5 ?_
 have e:bg op l=(⟨op,(bq l),[],[],[],0,0,([]:List UInt8),([]:List UInt8),(bq (bh l))⟩,(bh (bh l)),((false||cF kv l)||cF kv (bh l))):=by rw[hop];simp only[bg,OX,List.foldl_cons,List.foldl_nil,jL,jJ,i8,jb,i9,ja,jM,jK,jN,cmd0]
 rw[e]
 dsimp only[cL]
 exact⟨rfl,aH,⟨_,_,aJ,Lt⟩,⟨none,0,none,0,none,0,aW,Rd.nil _ _ _ _ _ _ (Nat.zero_le _),Rd.nil _ _ _ _ _ _ (Nat.zero_le _),Rd.nil _ _ _ _ _ _ (Nat.zero_le _)⟩,hK⟩
theorem Bs (w:World) (gx gc gr lo hi:Nat) (A:Option Addr) (c:Nat) (l:List UInt8) (aH:Blk w gx 153 [.pointer (some ⟨gc,0,none⟩),.pointer (some ⟨gr,0,none⟩),.slice none 0 0,.bool false]) (aJ:Blk w gr 178 [.bool true,.slice A l.length c]) (hr:RdB w lo hi A c l) (ig:gx≠gr) (gP:gx<lo∨hi≤gx) (fT:gr<lo∨hi≤gr) (bI:l.length≤140737488355328) (op:Int) (aW:Blk w gc 39 (cL (cmd0 op) none 0 none 0 none 0)) (fR:gc≠gx) (jW:gc≠gr) (iU:gc<lo∨hi≤gc) (fP:hi≤w.heap.size) (hop:op=13):
  Fn Tryz.prog 87 #[(.pointer (some ⟨gx,0,none⟩))] w (fun v w'=>v=.tuple #[]∧Blk w' gx 153 [.pointer (some ⟨gc,0,none⟩),.pointer (some ⟨gr,0,none⟩),.slice none 0 0,.bool (bg op l).2.2]∧ee w' gr lo hi (bg op l).2.1∧(∃K ck V cv T ct,Blk w' gc 39 (cL (bg op l).1 K ck V cv T ct)∧RdS w' w.heap.size w'.heap.size K ck (bg op l).1.keys∧RdB w' w.heap.size w'.heap.size V cv (bg op l).1.value∧RdS w' w.heap.size w'.heap.size T ct (bg op l).1.tags)∧Kp [gx,gr,gc] w w'):=by
 have hK:=Kp.refl [gx,gr,gc] w
 replace aW:Blk w gc 39 [(.int .i64 op),(.string (av ([]:List UInt8))),(.slice none 0 0),(.slice none 0 0),(.slice none 0 0),(.int .u64 0),(.int .u64 0),(.string (av ([]:List UInt8))),(.string (av ([]:List UInt8))),(.string (av ([]:List UInt8)))]:=aW
 refine aO Tryz.func87 ?_
 refine af (aa ?_)
 refine vm ?_
 refine vn ?_
 refine ab (ah eg) ?_
 refine ab (ak gM aH) ?_
 refine va ?_
 refine ag (ae (af (aa ?_)))
 refine vm ?_
 refine vn ?_
 refine ab (ah dA) ?_
 refine ab (ak cO aW) ?_
 refine aN (d:=10) rfl (v':=(.int .i64 13)) (by rw[hop]) ?_
 refine ag (ae (a9 (af (af (aa ?_)))))
 refine ve ?_
 refine va ?_
 refine ag (ae ?_)
 refine aC ?_
 refine af (aa ?_)
 refine ve ?_
 refine va ?_
 refine ag (ae ?_)
 refine aC ?_
 refine aa ?_
 refine ve ?_
 refine va ?_
 refine ag (ae ?_)
 refine aC ?_
 refine af (af (aa ?_))
 refine ve ?_
 refine va ?_
 refine ag (ae ?_)
 refine aC ?_
 refine af (aa ?_)
 refine ve ?_
 refine va ?_
 refine ag (ae ?_)
 refine aC ?_
 refine aa ?_
 refine ve ?_
 refine va ?_
 refine ag (ae ?_)
 refine aR ?_
 refine aa ?_
 iterate 2 refine vm ?_
 refine vn ?_
 refine ab (ah hU) ?_
 refine ar (aw jp (jf _ gx gc gr _ _ A c l false aH aJ hr gc 1 _ _ aW kv 104 l7 jA)) ?_
 rintro v w1 ⟨rfl,FE,⟨A50,c50,Fv,ui⟩,Fq,FL⟩
 replace hK:=Kp.tr hK FL (by intro x hx;simp only[List.mem_cons,List.not_mem_nil,or_false] at hx ⊢;omega)
 replace aH:=FE
 replace aJ:=Fv
 replace aW:Blk _ gc _ [(.int .i64 op),(.string (av (bq l))),(.slice none 0 0),(.slice none 0 0),(.slice none 0 0),(.int .u64 0),(.int .u64 0),(.string (av ([]:List UInt8))),(.string (av ([]:List UInt8))),(.string (av ([]:List UInt8)))]:=Fq
 refine ag (bb ?_)
 refine d5 ?_
 have e:bg op l=(⟨op,(bq l),[],[],[],0,0,([]:List UInt8),([]:List UInt8),([]:List UInt8)⟩,(bh l),(false||cF kv l)):=by rw[hop];simp only[bg,OW,List.foldl_cons,List.foldl_nil,jL,jJ,i8,jb,i9,ja,jM,jK,jN,cmd0]
 rw[e]
 dsimp only[cL]
 exact⟨rfl,aH,⟨_,_,aJ,ui⟩,⟨none,0,none,0,none,0,aW,Rd.nil _ _ _ _ _ _ (Nat.zero_le _),Rd.nil _ _ _ _ _ _ (Nat.zero_le _),Rd.nil _ _ _ _ _ _ (Nat.zero_le _)⟩,hK⟩
theorem Br (w:World) (gx gc gr lo hi:Nat) (A:Option Addr) (c:Nat) (l:List UInt8) (aH:Blk w gx 153 [.pointer (some ⟨gc,0,none⟩),.pointer (some ⟨gr,0,none⟩),.slice none 0 0,.bool false]) (aJ:Blk w gr 178 [.bool true,.slice A l.length c]) (hr:RdB w lo hi A c l) (ig:gx≠gr) (gP:gx<lo∨hi≤gx) (fT:gr<lo∨hi≤gr) (bI:l.length≤140737488355328) (op:Int) (aW:Blk w gc 39 (cL (cmd0 op) none 0 none 0 none 0)) (fR:gc≠gx) (jW:gc≠gr) (iU:gc<lo∨hi≤gc) (fP:hi≤w.heap.size) (hop:op=14):
  Fn Tryz.prog 87 #[(.pointer (some ⟨gx,0,none⟩))] w (fun v w'=>v=.tuple #[]∧Blk w' gx 153 [.pointer (some ⟨gc,0,none⟩),.pointer (some ⟨gr,0,none⟩),.slice none 0 0,.bool (bg op l).2.2]∧ee w' gr lo hi (bg op l).2.1∧(∃K ck V cv T ct,Blk w' gc 39 (cL (bg op l).1 K ck V cv T ct)∧RdS w' w.heap.size w'.heap.size K ck (bg op l).1.keys∧RdB w' w.heap.size w'.heap.size V cv (bg op l).1.value∧RdS w' w.heap.size w'.heap.size T ct (bg op l).1.tags)∧Kp [gx,gr,gc] w w'):=by
 have hK:=Kp.refl [gx,gr,gc] w
 replace aW:Blk w gc 39 [(.int .i64 op),(.string (av ([]:List UInt8))),(.slice none 0 0),(.slice none 0 0),(.slice none 0 0),(.int .u64 0),(.int .u64 0),(.string (av ([]:List UInt8))),(.string (av ([]:List UInt8))),(.string (av ([]:List UInt8)))]:=aW
 refine aO Tryz.func87 ?_
 refine af (aa ?_)
 refine vm ?_
 refine vn ?_
 refine ab (ah eg) ?_
 refine ab (ak gM aH) ?_
 refine va ?_
 refine ag (ae (af (aa ?_)))
 refine vm ?_
 refine vn ?_
 refine ab (ah dA) ?_
 refine ab (ak cO aW) ?_
 refine aN (d:=10) rfl (v':=(.int .i64 14)) (by rw[hop]) ?_
 refine ag (ae (a9 (af (af (aa ?_)))))
 refine ve ?_
 refine va ?_
 refine ag (ae ?_)
 refine aC ?_
 refine af (aa ?_)
 refine ve ?_
 refine va ?_
 refine ag (ae ?_)
 refine aC ?_
 refine aa ?_
 refine ve ?_
 refine va ?_
 refine ag (ae ?_)
 refine aC ?_
 refine af (af (aa ?_))
 refine ve ?_
 refine va ?_
 refine ag (ae ?_)
 refine aC ?_
 refine af (aa ?_)
 refine ve ?_
 refine va ?_
 refine ag (ae ?_)
 refine aC ?_
 refine aa ?_
 refine ve ?_
 refine va ?_
 refine ag (ae ?_)
 refine aC ?_
 refine af (aa ?_)
 refine ve ?_
 refine va ?_
 refine ag (ae ?_)
 refine aC ?_
 refine af (aa ?_)
 refine ve ?_
 refine va ?_
 refine ag (ae ?_)
 refine aC ?_
 refine af (af (aa ?_))
 refine ve ?_
 refine va ?_
 refine ag (ae ?_)
 refine aC ?_
 refine aa ?_
 refine ve ?_
 refine va ?_
 refine ag (ae ?_)
 refine aC ?_
 refine af (aa ?_)
 refine ve ?_
 refine va ?_
 refine ag (ae ?_)
 refine aC ?_
 refine af (af (aa ?_))
 refine ve ?_
 refine va ?_
 refine ag (ae ?_)
 refine aC ?_
 refine aa ?_
 refine ve ?_
 refine va ?_
 refine ag (ae ?_)
 refine aC ?_
 refine af (af (aa ?_))
 refine ve ?_
 refine va ?_
 refine ag (ae ?_)
 refine aR ?_
 refine aS (ae ?_)
 refine aR ?_
 refine aS (bb ?_)
 refine d5 ?_
 have e:bg op l=(⟨op,([]:List UInt8),[],[],[],0,0,([]:List UInt8),([]:List UInt8),([]:List UInt8)⟩,l,false):=by rw[hop];simp only[bg,OV,List.foldl_cons,List.foldl_nil,jL,jJ,i8,jb,i9,ja,jM,jK,jN,cmd0]
 rw[e]
 dsimp only[cL]
 exact⟨rfl,aH,⟨_,_,aJ,hr⟩,⟨none,0,none,0,none,0,aW,Rd.nil _ _ _ _ _ _ (Nat.zero_le _),Rd.nil _ _ _ _ _ _ (Nat.zero_le _),Rd.nil _ _ _ _ _ _ (Nat.zero_le _)⟩,hK⟩
theorem Bq (w:World) (gx gc gr lo hi:Nat) (A:Option Addr) (c:Nat) (l:List UInt8) (aH:Blk w gx 153 [.pointer (some ⟨gc,0,none⟩),.pointer (some ⟨gr,0,none⟩),.slice none 0 0,.bool false]) (aJ:Blk w gr 178 [.bool true,.slice A l.length c]) (hr:RdB w lo hi A c l) (ig:gx≠gr) (gP:gx<lo∨hi≤gx) (fT:gr<lo∨hi≤gr) (bI:l.length≤140737488355328) (op:Int) (aW:Blk w gc 39 (cL (cmd0 op) none 0 none 0 none 0)) (fR:gc≠gx) (jW:gc≠gr) (iU:gc<lo∨hi≤gc) (fP:hi≤w.heap.size) (hop:op=15):
  Fn Tryz.prog 87 #[(.pointer (some ⟨gx,0,none⟩))] w (fun v w'=>v=.tuple #[]∧Blk w' gx 153 [.pointer (some ⟨gc,0,none⟩),.pointer (some ⟨gr,0,none⟩),.slice none 0 0,.bool (bg op l).2.2]∧ee w' gr lo hi (bg op l).2.1∧(∃K ck V cv T ct,Blk w' gc 39 (cL (bg op l).1 K ck V cv T ct)∧RdS w' w.heap.size w'.heap.size K ck (bg op l).1.keys∧RdB w' w.heap.size w'.heap.size V cv (bg op l).1.value∧RdS w' w.heap.size w'.heap.size T ct (bg op l).1.tags)∧Kp [gx,gr,gc] w w'):=by
 have hK:=Kp.refl [gx,gr,gc] w
 replace aW:Blk w gc 39 [(.int .i64 op),(.string (av ([]:List UInt8))),(.slice none 0 0),(.slice none 0 0),(.slice none 0 0),(.int .u64 0),(.int .u64 0),(.string (av ([]:List UInt8))),(.string (av ([]:List UInt8))),(.string (av ([]:List UInt8)))]:=aW
 refine aO Tryz.func87 ?_
 refine af (aa ?_)
 refine vm ?_
 refine vn ?_
 refine ab (ah eg) ?_
 refine ab (ak gM aH) ?_
 refine va ?_
 refine ag (ae (af (aa ?_)))
 refine vm ?_
 refine vn ?_
 refine ab (ah (off:=0) dA) ?_
 refine ab (ak cO aW) ?_
 refine aN (d:=10) rfl (v':=(.int .i64 15)) (by rw[hop]) ?_
 refine ag (ae (a9 (af (af (aa ?_)))))
 refine ve ?_
 refine va ?_
 refine ag (ae ?_)
 refine aC ?_
 refine af (aa ?_)
 refine ve ?_
 refine va ?_
 refine ag (ae ?_)
 refine aC ?_
 refine aa ?_
 refine ve ?_
 refine va ?_
 refine ag (ae ?_)
 refine aC ?_
 refine af (af (aa ?_))
 refine ve ?_
 refine va ?_
 refine ag (ae ?_)
 refine aC ?_
 refine af (aa ?_)
 refine ve ?_
 refine va ?_
 refine ag (ae ?_)
 refine aC ?_
 refine aa ?_
 refine ve ?_
 refine va ?_
 refine ag (ae ?_)
 refine aC ?_
 refine af (aa ?_)
 refine ve ?_
 refine va ?_
 refine ag (ae ?_)
 refine aC ?_
 refine af (aa ?_)
 refine ve ?_
 refine va ?_
 refine ag (ae ?_)
 refine aC ?_
 refine af (af (aa ?_))
 refine ve ?_
 refine va ?_
 refine ag (ae ?_)
 refine aC ?_
 refine aa ?_
 refine ve ?_
 refine va ?_
 refine ag (ae ?_)
 refine aC ?_
 refine af (aa ?_)
 refine ve ?_
 refine va ?_
 refine ag (ae ?_)
 refine aC ?_
 refine af (af (aa ?_))
 refine ve ?_
 refine va ?_
 refine ag (ae ?_)
 refine aC ?_
 refine aa ?_
 refine ve ?_
 refine va ?_
 refine ag (ae ?_)
 refine aC ?_
 refine af (af (aa ?_))
 refine ve ?_
 refine va ?_
 refine ag (ae ?_)
 refine aC ?_
 refine aa ?_
 refine ve ?_
 refine va ?_
 refine ag (ae ?_)
 refine aR ?_
 refine aS (bb ?_)
 refine d5 ?_
 have e:bg op l=(⟨op,([]:List UInt8),[],[],[],0,0,([]:List UInt8),([]:List UInt8),([]:List UInt8)⟩,l,false):=by rw[hop];simp only[bg,OU,List.foldl_cons,List.foldl_nil,jL,jJ,i8,jb,i9,ja,jM,jK,jN,cmd0]
 rw[e]
 dsimp only[cL]
 exact⟨rfl,aH,⟨_,_,aJ,hr⟩,⟨none,0,none,0,none,0,aW,Rd.nil _ _ _ _ _ _ (Nat.zero_le _),Rd.nil _ _ _ _ _ _ (Nat.zero_le _),Rd.nil _ _ _ _ _ _ (Nat.zero_le _)⟩,hK⟩
theorem Dx (w:World) (gx gc gr lo hi:Nat) (A:Option Addr) (c:Nat) (l:List UInt8) (aH:Blk w gx 153 [.pointer (some ⟨gc,0,none⟩),.pointer (some ⟨gr,0,none⟩),.slice none 0 0,.bool false]) (aJ:Blk w gr 178 [.bool true,.slice A l.length c]) (hr:RdB w lo hi A c l) (ig:gx≠gr) (gP:gx<lo∨hi≤gx) (fT:gr<lo∨hi≤gr) (bI:l.length≤140737488355328) (op:Int) (aW:Blk w gc 39 (cL (cmd0 op) none 0 none 0 none 0)) (fR:gc≠gx) (jW:gc≠gr) (iU:gc<lo∨hi≤gc) (fP:hi≤w.heap.size) (hop:op<1∨15<op):
  Fn Tryz.prog 87 #[(.pointer (some ⟨gx,0,none⟩))] w (fun v w'=>v=.tuple #[]∧Blk w' gx 153 [.pointer (some ⟨gc,0,none⟩),.pointer (some ⟨gr,0,none⟩),.slice none 0 0,.bool true]∧ee w' gr lo hi l∧Kp [gx,gr,gc] w w'):=by
 have hK:=Kp.refl [gx,gr,gc] w
 have md:=aJ.lt
 replace aW:Blk w gc 39 [(.int .i64 op),(.string (av ([]:List UInt8))),(.slice none 0 0),(.slice none 0 0),(.slice none 0 0),(.int .u64 0),(.int .u64 0),(.string (av ([]:List UInt8))),(.string (av ([]:List UInt8))),(.string (av ([]:List UInt8)))]:=aW
 refine aO Tryz.func87 ?_
 refine af (aa ?_)
 refine vm ?_
 refine vn ?_
 refine ab (ah eg) ?_
 refine ab (ak gM aH) ?_
 refine va ?_
 refine ag (ae (af (aa ?_)))
 refine vm ?_
 refine vn ?_
 refine ab (ah dA) ?_
 refine ab (ak cO aW) ?_
 refine ag (ae (a9 (af (af (aa ?_)))))
 refine ve ?_
 refine aN (d:=15) rfl (bf (by omega)) ?_
 refine va ?_
 refine ag (ae ?_)
 refine aC ?_
 refine af (aa ?_)
 refine ve ?_
 refine aN (d:=16) rfl (bf (by omega)) ?_
 refine va ?_
 refine ag (ae ?_)
 refine aC ?_
 refine aa ?_
 refine ve ?_
 refine aN (d:=17) rfl (bf (by omega)) ?_
 refine va ?_
 refine ag (ae ?_)
 refine aC ?_
 refine af (af (aa ?_))
 refine ve ?_
 refine aN (d:=43) rfl (bf (by omega)) ?_
 refine va ?_
 refine ag (ae ?_)
 refine aC ?_
 refine af (aa ?_)
 refine ve ?_
 refine aN (d:=44) rfl (bf (by omega)) ?_
 refine va ?_
 refine ag (ae ?_)
 refine aC ?_
 refine aa ?_
 refine ve ?_
 refine aN (d:=45) rfl (bf (by omega)) ?_
 refine va ?_
 refine ag (ae ?_)
 refine aC ?_
 refine af (aa ?_)
 refine ve ?_
 refine aN (d:=52) rfl (bf (by omega)) ?_
 refine va ?_
 refine ag (ae ?_)
 refine aC ?_
 refine af (aa ?_)
 refine ve ?_
 refine aN (d:=59) rfl (bf (by omega)) ?_
 refine va ?_
 refine ag (ae ?_)
 refine aC ?_
 refine af (af (aa ?_))
 refine ve ?_
 refine aN (d:=68) rfl (bf (by omega)) ?_
 refine va ?_
 refine ag (ae ?_)
 refine aC ?_
 refine aa ?_
 refine ve ?_
 refine aN (d:=69) rfl (bf (by omega)) ?_
 refine va ?_
 refine ag (ae ?_)
 refine aC ?_
 refine af (aa ?_)
 refine ve ?_
 refine aN (d:=76) rfl (bf (by omega)) ?_
 refine va ?_
 refine ag (ae ?_)
 refine aC ?_
 refine af (af (aa ?_))
 refine ve ?_
 refine aN (d:=83) rfl (bf (by omega)) ?_
 refine va ?_
 refine ag (ae ?_)
 refine aC ?_
 refine aa ?_
 refine ve ?_
 refine aN (d:=84) rfl (bf (by omega)) ?_
 refine va ?_
 refine ag (ae ?_)
 refine aC ?_
 refine af (af (aa ?_))
 refine ve ?_
 refine aN (d:=96) rfl (bf (by omega)) ?_
 refine va ?_
 refine ag (ae ?_)
 refine aC ?_
 refine aa ?_
 refine ve ?_
 refine aN (d:=97) rfl (bf (by omega)) ?_
 refine va ?_
 refine ag (ae ?_)
 refine aC ?_
 refine aa ?_
 refine vm ?_
 refine vn ?_
 refine ab (ah dx) ?_
 refine aB (aU vM aH) ?_
 rintro _ w1 ⟨hN1,EV⟩
 replace aJ:=aJ.gr EV
 replace hr:=hr.gr EV
 replace hK:=Kp.tg hK EV (by first|(left;simp;done)|(right;omega))
 replace aH:=hN1
 refine ag (bb ?_)
 refine d5 ?_
 exact⟨rfl,aH,⟨_,_,aJ,hr⟩,hK⟩
theorem yp (w:World) (gx gc gr lo hi:Nat) (A:Option Addr) (c:Nat) (l:List UInt8) (aH:Blk w gx 153 [.pointer (some ⟨gc,0,none⟩),.pointer (some ⟨gr,0,none⟩),.slice none 0 0,.bool false]) (aJ:Blk w gr 178 [.bool true,.slice A l.length c]) (hr:RdB w lo hi A c l) (op:Int) (aW:Blk w gc 39 (cL (cmd0 op) none 0 none 0 none 0)) (ig:gx≠gr:=by omega) (gP:gx<lo∨hi≤gx:=by omega) (fT:gr<lo∨hi≤gr:=by omega) (bI:l.length≤140737488355328:=by omega) (fR:gc≠gx:=by omega) (jW:gc≠gr:=by omega) (iU:gc<lo∨hi≤gc:=by omega) (fP:hi≤w.heap.size:=by omega) (h1:1≤op:=by omega) (h2:op≤15:=by omega):
  Fn Tryz.prog 87 #[.pointer (some ⟨gx,0,none⟩)] w (fun v w'=>v=.tuple #[]∧Blk w' gx 153 [.pointer (some ⟨gc,0,none⟩),.pointer (some ⟨gr,0,none⟩),.slice none 0 0,.bool (bg op l).2.2]∧ee w' gr lo hi (bg op l).2.1∧(∃K ck V cv T ct,Blk w' gc 39 (cL (bg op l).1 K ck V cv T ct)∧RdS w' w.heap.size w'.heap.size K ck (bg op l).1.keys∧RdB w' w.heap.size w'.heap.size V cv (bg op l).1.value∧RdS w' w.heap.size w'.heap.size T ct (bg op l).1.tags)∧Kp [gx,gr,gc] w w'):=by
 rcases(show op=1∨op=2∨op=3∨op=4∨op=5∨op=6∨op=7∨op=8∨op=9∨op=10∨op=11∨op=12∨op=13∨op=14∨op=15 by omega) with h|h|h|h|h|h|h|h|h|h|h|h|h|h|h
 ·exact DG w gx gc gr lo hi A c l aH aJ hr ig gP fT bI op aW fR jW iU fP h
 ·exact DF w gx gc gr lo hi A c l aH aJ hr ig gP fT bI op aW fR jW iU fP h
 ·exact DE w gx gc gr lo hi A c l aH aJ hr ig gP fT bI op aW fR jW iU fP h
 ·exact DD w gx gc gr lo hi A c l aH aJ hr ig gP fT bI op aW fR jW iU fP h
 ·exact DC w gx gc gr lo hi A c l aH aJ hr ig gP fT bI op aW fR jW iU fP h
 ·exact DB w gx gc gr lo hi A c l aH aJ hr ig gP fT bI op aW fR jW iU fP h
 ·exact DA w gx gc gr lo hi A c l aH aJ hr ig gP fT bI op aW fR jW iU fP h
 ·exact Dz w gx gc gr lo hi A c l aH aJ hr ig gP fT bI op aW fR jW iU fP h
 ·exact Dy w gx gc gr lo hi A c l aH aJ hr ig gP fT bI op aW fR jW iU fP h
 ·exact Bv w gx gc gr lo hi A c l aH aJ hr ig gP fT bI op aW fR jW iU fP h
 ·exact Bu w gx gc gr lo hi A c l aH aJ hr ig gP fT bI op aW fR jW iU fP h
 ·exact Bt w gx gc gr lo hi A c l aH aJ hr ig gP fT bI op aW fR jW iU fP h
 ·exact Bs w gx gc gr lo hi A c l aH aJ hr ig gP fT bI op aW fR jW iU fP h
 ·exact Br w gx gc gr lo hi A c l aH aJ hr ig gP fT bI op aW fR jW iU fP h
 ·exact Bq w gx gc gr lo hi A c l aH aJ hr ig gP fT bI op aW fR jW iU fP h
end Go.Proofs.YtiighkbehiddkaaGreat
namespace Go.Proofs.YtiighkbehiddkaaGreat
open Go.RowKit
set_option linter.unusedVariables false
set_option maxRecDepth 4000
theorem cc:jt Tryz.prog 39 10=true:=by kernel_rfl
theorem RR:aX Tryz.prog 51=true:=by kernel_rfl
theorem IX:aX Tryz.prog 87=true:=by kernel_rfl
theorem zO:fj Tryz.prog 153=some [(0,1),(1,1),(2,1),(3,1)]:=by kernel_rfl
theorem lf:fj Tryz.prog 39=some [(0,1),(1,1),(2,1),(3,1),(4,1),(5,1),(6,1),(7,1),(8,1),(9,1)]:=by kernel_rfl
theorem zC:(Tryz.prog.info? 153).map (·.size)=some 4:=by kernel_rfl
theorem fy:(Tryz.prog.info? 39).map (·.size)=some 10:=by kernel_rfl
theorem pR:fV Tryz.prog 153=some (.agg #[(.pointer none),(.pointer none),(.slice none 0 0),(.bool false)]):=by kernel_rfl
theorem fl:fV Tryz.prog 39=some (.agg #[(.int .i64 0),(.string (av [])),(.slice none 0 0),(.slice none 0 0),(.slice none 0 0),(.int .u64 0),(.int .u64 0),(.string (av [])),(.string (av [])),(.string (av []))]):=by kernel_rfl
theorem C7 {xs ys:List (List UInt8)} {i:Nat} {s:List UInt8} (h:xs.take i=ys.take i) (hx:xs[i]?=some s) (hy:ys[i]?=some s):xs.take (i+1)=ys.take (i+1):=by
 rw[List.take_add_one,List.take_add_one,h,hx,hy]
theorem vQ (w:World) (lo hi lo2 eO:Nat) (K:Option Addr) (ck:Nat) (xs:List (List UInt8)) (K2:Option Addr) (ck2:Nat) (ys:List (List UInt8)) (hK:RdS w lo hi K ck xs) (gN:RdS w lo2 eO K2 ck2 ys):
  Fn Tryz.prog 51 #[(.slice K xs.length ck),(.slice K2 ys.length ck2)] w (fun v w'=>v=.bool (decide (xs=ys))∧Ext w w'):=by
 have hE:=aP w
 have fR:=hK.2.1
 have QV:=gN.2.1
 have E4:=hK.1
 have WD:=gN.1
 simp only[maxLen] at fR QV
 refine aO Tryz.func51 ?_
 refine af (aa ?_)
 refine va ?_
 refine ag (ae (af (af (aa ?_))))
 refine vm ?_
 refine ab (bj Tryz.underlying35) ?_
 refine vm ?_
 refine ab (bj Tryz.underlying35) ?_
 refine ab (bS) ?_
 refine ag (ae ?_)
 refine aL (fun dM=>?_) (fun dM=>?_)
 ·have eB:¬xs=ys:=fun e=>by subst e;omega
  refine af (aa ?_)
  refine va ?_
  refine ag (ae (aE (az ?_)))
  refine aY ?_
  first|exact⟨by rw[decide_eq_false eB],hE⟩|exact⟨by rw[decide_eq_true heq],hE⟩
 ·refine aS (ae (af (af (aa ?_))))
  refine va ?_
  refine ag (ae (a9 ?_))
  refine cU (fun i=>xs.length - i) (fun i=>[(0,.slice K xs.length ck),(1,.slice K2 ys.length ck2),(5,.int .i64 (i:Int))]) (fun i w'=>i≤xs.length∧xs.take i=ys.take i∧RdS w' lo hi K ck xs∧RdS w' lo2 eO K2 ck2 ys∧Ext w w') (0) (⟨Nat.zero_le _,rfl,hK,gN,hE⟩) ?_ (hL:=⟨rfl,rfl,rfl,trivial⟩)
  rintro i wq ⟨nh,no,hK,gN,hE⟩
  refine af (af (aa ?_))
  iterate 2 refine vm ?_
  refine ab (bj Tryz.underlying35) ?_
  refine ab (bz) ?_
  refine ag (ae ?_)
  refine aL (fun eN=>?_) (fun eN=>?_)
  ·obtain⟨s1,sj⟩:∃s,xs[i]?=some s:=⟨_,List.getElem?_eq_getElem (by omega)⟩
   obtain⟨s2,ng⟩:∃s,ys[i]?=some s:=⟨_,List.getElem?_eq_getElem (by omega)⟩
   refine aS (ae (af (a9 (af ?_))))
   refine cC ej 8 [(17,a0 (.slice K xs.length ck)),(18,a0 (.int .i64 (↑i:Int))),(19,i0 [(.string (av s1))]),(20,a0 (.string (av s1))),(21,a0 (.slice K2 ys.length ck2)),(22,a0 (.int .i64 (↑i:Int))),(23,i0 [(.string (av s2))]),(24,a0 (.string (av s2)))] [[],[],[0,1],[2],[],[],[4,5],[6]] _ [] [] (fun _ _ h=>h) trivial (by kernel_rfl) rfl ?_ ?_
   ·repeat' apply And.intro
    all_goals first|exact trivial|(intro wd bW;replace hK:=hK.ext bW;replace gN:=gN.ext bW;(repeat rintro _ rfl))
    iterate 2 exact am (ax (aF))
    ·refine am (OpRun.mono (cS p5 hK sj) ?_)
     rintro v _ ⟨rfl,p19,rfl,wV,PZ,P9⟩
     exact⟨⟨p19,rfl,wV⟩,aP _⟩
    ·rintro _ ⟨p19,rfl,wV⟩
     show eV _ _ _ _ _ _
     exact am (ax (dv qU rfl (fg wV)))
    iterate 2 exact am (ax (aF))
    ·refine am (OpRun.mono (cS p5 gN ng) ?_)
     rintro v _ ⟨rfl,p23,rfl,BN,PX,P7⟩
     exact⟨⟨p23,rfl,BN⟩,aP _⟩
    ·rintro _ ⟨p23,rfl,BN⟩
     show eV _ _ _ _ _ _
     exact am (ax (dv qU rfl (fg BN)))
   ·intro wf6 nz
    replace hK:=hK.ext nz
    replace gN:=gN.ext nz
    replace hE:=hE.tr nz
    iterate 2 rintro _ rfl
    rintro _ ⟨p19,rfl,wV⟩
    iterate 3 rintro _ rfl
    rintro _ ⟨p23,rfl,BN⟩
    rintro _ rfl
    refine ab (Kr rfl rfl) ?_
    refine ag (ae ?_)
    refine aL (fun e9=>?_) (fun e9=>?_)
    ·have eB:¬xs=ys:=fun e=>by subst e;rw[sj] at ng;exact e9 (Option.some.inj ng)
     refine af (aa ?_)
     refine va ?_
     refine ag (ae (aE (aQ (az (az (aQ (az ?_)))))))
     refine aY ?_
     first|exact⟨by rw[decide_eq_false eB],hE⟩|exact⟨by rw[decide_eq_true heq],hE⟩
    ·have heq:s1=s2:=Decidable.not_not.1 e9
     refine aS (bb (ae (aa ?_)))
     refine vm ?_
     refine ab (bH) ?_
     refine va ?_
     refine ag ?_
     refine cB (i+1) (by show xs.length -(i+1)<xs.length - i;omega) (⟨by omega,C7 no sj (ng.trans (congrArg some heq.symm)),hK,gN,hE⟩) (hL:=⟨rfl,rfl,rfl,trivial⟩)
  ·have heq:xs=ys:=by rw[List.take_of_length_le (by omega),List.take_of_length_le (by omega)] at no;exact no
   refine cW (bx (bx (ce (ae (af (aa ?_))))))
   refine va ?_
   refine ag (ae (aE ?_))
   refine aY ?_
   first|exact⟨by rw[decide_eq_false eB],hE⟩|exact⟨by rw[decide_eq_true heq],hE⟩
theorem iJ (w:World) (a:Cmd) (lo hi:Nat) (K:Option Addr) (ck:Nat) (V:Option Addr) (cv:Nat) (T:Option Addr) (ct:Nat) (hK:RdS w lo hi K ck a.keys) (hV:RdB w lo hi V cv a.value) (hT:RdS w lo hi T ct a.tags) (b:Cmd) (lo2 eO:Nat) (K2:Option Addr) (ck2:Nat) (V2:Option Addr) (cv2:Nat) (T2:Option Addr) (ct2:Nat) (gN:RdS w lo2 eO K2 ck2 b.keys) (kP:RdB w lo2 eO V2 cv2 b.value) (kQ:RdS w lo2 eO T2 ct2 b.tags):
  Fn Tryz.prog 22 #[(.agg #[(.int .i64 a.op),(.string (av a.key)),(.slice K a.keys.length ck),(.slice V a.value.length cv),(.slice T a.tags.length ct),(.int .u64 (↑a.life:Int)),(.int .u64 (↑a.ver:Int)),(.string (av a.tag)),(.string (av a.pre)),(.string (av a.child))]),(.agg #[(.int .i64 b.op),(.string (av b.key)),(.slice K2 b.keys.length ck2),(.slice V2 b.value.length cv2),(.slice T2 b.tags.length ct2),(.int .u64 (↑b.life:Int)),(.int .u64 (↑b.ver:Int)),(.string (av b.tag)),(.string (av b.pre)),(.string (av b.child))])] w (fun v w'=>v=.bool (decide (a=b))∧Ext w w'):=by
 have hE:=aP w
 refine aO Tryz.func22 ?_
 refine af (aa ?_)
 refine ar (bU) ?_
 rintro v w1 ⟨g2,rfl,aq,dk,my,nd⟩
 replace hK:=hK.ext dk
 replace hV:=hV.ext dk
 replace hT:=hT.ext dk
 replace gN:=gN.ext dk
 replace kP:=kP.ext dk
 replace kQ:=kQ.ext dk
 replace hE:=hE.tr dk
 refine ar (bU) ?_
 rintro v w2 ⟨g3,rfl,aM,d7,sy,su⟩
 replace hK:=hK.ext d7
 replace hV:=hV.ext d7
 replace hT:=hT.ext d7
 replace gN:=gN.ext d7
 replace kP:=kP.ext d7
 replace kQ:=kQ.ext d7
 replace hE:=hE.tr d7
 replace aq:=aq.ext d7
 refine va ?_
 refine ag (ae (af (aa ?_)))
 refine ab (ah dA) ?_
 refine ab (ak cO aq) ?_
 refine ab (ah dA) ?_
 refine ab (ak cO aM) ?_
 refine ve ?_
 refine aG (d:=9) (fun h9=>?_) (fun h9=>?_)
 ·refine vm ?_
  refine aj (ah hU) ?_
  refine aj (ak qU aq) ?_
  refine aj (ah hU) ?_
  refine aj (ak qU aM) ?_
  refine aj (mm) ?_
  refine aG (d:=15) (fun Cv=>?_) (fun Cv=>?_)
  ·refine ab (ay) ?_
   refine vm ?_
   refine aj (ah jH) ?_
   refine aj (ak jy aq) ?_
   refine aj (ah jH) ?_
   refine aj (ak jy aM) ?_
   refine bP (aw RR (vQ _ _ _ _ _ K ck a.keys K2 ck2 b.keys hK gN)) ?_
   rintro v w3 ⟨rfl,ij⟩
   replace hV:=hV.ext ij
   replace hT:=hT.ext ij
   replace kP:=kP.ext ij
   replace kQ:=kQ.ext ij
   replace hE:=hE.tr ij
   replace aq:=aq.ext ij
   replace aM:=aM.ext ij
   refine aG (d:=22) (fun sk=>?_) (fun sk=>?_)
   ·refine ab (ay) ?_
    refine vm ?_
    refine aj (ah k9) ?_
    refine aj (ak dc aq) ?_
    refine aj (gB cE Tryz.underlying9 hV) ?_
    refine aj (ah k9) ?_
    refine aj (ak dc aM) ?_
    refine aj (gB cE Tryz.underlying9 kP) ?_
    refine aj (mm) ?_
    refine aG (d:=31) (fun FT=>?_) (fun FT=>?_)
    ·refine ab (ay) ?_
     refine vm ?_
     refine aj (ah iX) ?_
     refine aj (ak jy aq) ?_
     refine aj (ah iX) ?_
     refine aj (ak jy aM) ?_
     refine bP (aw RR (vQ _ _ _ _ _ T ct a.tags T2 ct2 b.tags hT kQ)) ?_
     rintro v w4 ⟨rfl,L6⟩
     replace hE:=hE.tr L6
     replace aq:=aq.ext L6
     replace aM:=aM.ext L6
     refine aG (d:=38) (fun Yl=>?_) (fun Yl=>?_)
     ·refine ab (ay) ?_
      refine vm ?_
      refine aj (ah k8) ?_
      refine aj (ak pg aq) ?_
      refine aj (ah k8) ?_
      refine aj (ak pg aM) ?_
      refine aj (cI) ?_
      refine aG (d:=45) (fun h45=>?_) (fun h45=>?_)
      ·refine ab (ay) ?_
       refine vm ?_
       refine aj (ah pL) ?_
       refine aj (ak ft aq) ?_
       refine aj (ah pL) ?_
       refine aj (ak ft aM) ?_
       refine aj (cI) ?_
       refine aG (d:=52) (fun h52=>?_) (fun h52=>?_)
       ·refine ab (ay) ?_
        refine vm ?_
        refine aj (ah mQ) ?_
        refine aj (ak qU aq) ?_
        refine aj (ah mQ) ?_
        refine aj (ak qU aM) ?_
        refine aj (mm) ?_
        refine aG (d:=59) (fun Qqz=>?_) (fun Qqz=>?_)
        ·refine ab (ay) ?_
         refine vm ?_
         refine aj (ah ob) ?_
         refine aj (ak qU aq) ?_
         refine aj (ah ob) ?_
         refine aj (ak qU aM) ?_
         refine aj (mm) ?_
         refine aG (d:=66) (fun Yj=>?_) (fun Yj=>?_)
         ·refine ab (ay) ?_
          refine vm ?_
          refine aj (ah mP) ?_
          refine aj (ak qU aq) ?_
          refine aj (ah mP) ?_
          refine aj (ak qU aM) ?_
          refine aj (mm) ?_
          refine aG (d:=73) (fun Yi=>?_) (fun Yi=>?_)
          ·refine ab (ay) ?_
           refine va ?_
           refine ag (ae (aE ?_))
           refine aY ?_
           exact⟨by rw[decide_eq_true (Cmd.ext_iff'.2 ⟨h9,Cv,sk,FT,Yl,by omega,by omega,Qqz,Yj,Yi⟩)],hE⟩
          ·refine ab (ay) ?_
           refine va ?_
           refine ag (ae (aE ?_))
           refine aY ?_
           exact⟨by rw[decide_eq_false (fun e=>Yi (by rw[e]))],hE⟩
         ·refine ab (ay) ?_
          refine vm ?_
          iterate 5 refine aA ?_
          refine ab (ap) ?_
          refine va ?_
          refine ag (ae (aE ?_))
          refine aY ?_
          exact⟨by rw[decide_eq_false (fun e=>Yj (by rw[e]))],hE⟩
        ·refine ab (ay) ?_
         refine vm ?_
         iterate 5 refine aA ?_
         refine ab (ap) ?_
         refine vm ?_
         iterate 5 refine aA ?_
         refine ab (ap) ?_
         refine va ?_
         refine ag (ae (aE ?_))
         refine aY ?_
         exact⟨by rw[decide_eq_false (fun e=>Qqz (by rw[e]))],hE⟩
       ·refine ab (ay) ?_
        refine vm ?_
        iterate 5 refine aA ?_
        refine ab (ap) ?_
        refine vm ?_
        iterate 5 refine aA ?_
        refine ab (ap) ?_
        refine vm ?_
        iterate 5 refine aA ?_
        refine ab (ap) ?_
        refine va ?_
        refine ag (ae (aE ?_))
        refine aY ?_
        exact⟨by rw[decide_eq_false (fun e=>h52 (by rw[e]))],hE⟩
      ·refine ab (ay) ?_
       refine vm ?_
       iterate 5 refine aA ?_
       refine ab (ap) ?_
       refine vm ?_
       iterate 5 refine aA ?_
       refine ab (ap) ?_
       refine vm ?_
       iterate 5 refine aA ?_
       refine ab (ap) ?_
       refine vm ?_
       iterate 5 refine aA ?_
       refine ab (ap) ?_
       refine va ?_
       refine ag (ae (aE ?_))
       refine aY ?_
       exact⟨by rw[decide_eq_false (fun e=>h45 (by rw[e]))],hE⟩
     ·refine ab (ay) ?_
      refine vm ?_
      iterate 5 refine aA ?_
      refine ab (ap) ?_
      refine vm ?_
      iterate 5 refine aA ?_
      refine ab (ap) ?_
      refine vm ?_
      iterate 5 refine aA ?_
      refine ab (ap) ?_
      refine vm ?_
      iterate 5 refine aA ?_
      refine ab (ap) ?_
      refine vm ?_
      iterate 5 refine aA ?_
      refine ab (ap) ?_
      refine va ?_
      refine ag (ae (aE ?_))
      refine aY ?_
      exact⟨by rw[decide_eq_false (fun e=>Yl (by rw[e]))],hE⟩
    ·refine ab (ay) ?_
     refine vm ?_
     iterate 5 refine aA ?_
     refine ab (ap) ?_
     refine vm ?_
     iterate 5 refine aA ?_
     refine ab (ap) ?_
     refine vm ?_
     iterate 5 refine aA ?_
     refine ab (ap) ?_
     refine vm ?_
     iterate 5 refine aA ?_
     refine ab (ap) ?_
     refine vm ?_
     iterate 5 refine aA ?_
     refine ab (ap) ?_
     refine vm ?_
     iterate 5 refine aA ?_
     refine ab (ap) ?_
     refine va ?_
     refine ag (ae (aE ?_))
     refine aY ?_
     exact⟨by rw[decide_eq_false (fun e=>FT (by rw[e]))],hE⟩
   ·refine ab (ay) ?_
    refine vm ?_
    iterate 7 refine aA ?_
    refine ab (ap) ?_
    refine vm ?_
    iterate 5 refine aA ?_
    refine ab (ap) ?_
    refine vm ?_
    iterate 5 refine aA ?_
    refine ab (ap) ?_
    refine vm ?_
    iterate 5 refine aA ?_
    refine ab (ap) ?_
    refine vm ?_
    iterate 5 refine aA ?_
    refine ab (ap) ?_
    refine vm ?_
    iterate 5 refine aA ?_
    refine ab (ap) ?_
    refine vm ?_
    iterate 5 refine aA ?_
    refine ab (ap) ?_
    refine va ?_
    refine ag (ae (aE ?_))
    refine aY ?_
    exact⟨by rw[decide_eq_false (fun e=>sk (by rw[e]))],hE⟩
  ·refine ab (ay) ?_
   refine vm ?_
   iterate 5 refine aA ?_
   refine ab (ap) ?_
   refine vm ?_
   iterate 7 refine aA ?_
   refine ab (ap) ?_
   refine vm ?_
   iterate 5 refine aA ?_
   refine ab (ap) ?_
   refine vm ?_
   iterate 5 refine aA ?_
   refine ab (ap) ?_
   refine vm ?_
   iterate 5 refine aA ?_
   refine ab (ap) ?_
   refine vm ?_
   iterate 5 refine aA ?_
   refine ab (ap) ?_
   refine vm ?_
   iterate 5 refine aA ?_
   refine ab (ap) ?_
   refine vm ?_
   iterate 5 refine aA ?_
   refine ab (ap) ?_
   refine va ?_
   refine ag (ae (aE ?_))
   refine aY ?_
   exact⟨by rw[decide_eq_false (fun e=>Cv (by rw[e]))],hE⟩
 ·refine vm ?_
  iterate 5 refine aA ?_
  refine ab (ap) ?_
  refine vm ?_
  iterate 5 refine aA ?_
  refine ab (ap) ?_
  refine vm ?_
  iterate 7 refine aA ?_
  refine ab (ap) ?_
  refine vm ?_
  iterate 5 refine aA ?_
  refine ab (ap) ?_
  refine vm ?_
  iterate 5 refine aA ?_
  refine ab (ap) ?_
  refine vm ?_
  iterate 5 refine aA ?_
  refine ab (ap) ?_
  refine vm ?_
  iterate 5 refine aA ?_
  refine ab (ap) ?_
  refine vm ?_
  iterate 5 refine aA ?_
  refine ab (ap) ?_
  refine vm ?_
  iterate 5 refine aA ?_
  refine ab (ap) ?_
  refine va ?_
  refine ag (ae (aE ?_))
  refine aY ?_
  exact⟨by rw[decide_eq_false (fun e=>h9 (by rw[e]))],hE⟩
/-- The command of a frame, and the error. -/
def jO (code:UInt8) (l:List UInt8):Cmd×Nat:=if 1≤code.toNat∧code.toNat≤15∧(bg (code.toNat:Int) l).2.2=false∧(bg (code.toNat:Int) l).2.1=[] then((bg (code.toNat:Int) l).1,0) else(cmd0 0,6)
theorem tM {code:UInt8} {l:List UInt8} (h1:1≤code.toNat) (h2:code.toNat≤15) (h3:(bg (code.toNat:Int) l).2.2=false) (h4:(bg (code.toNat:Int) l).2.1=[]):jO code l=((bg (code.toNat:Int) l).1,0):=if_pos ⟨h1,h2,h3,h4⟩
theorem kG {code:UInt8} {l:List UInt8} (h:¬(1≤code.toNat∧code.toNat≤15∧(bg (code.toNat:Int) l).2.2=false∧(bg (code.toNat:Int) l).2.1=[])):jO code l=(cmd0 0,6):=if_neg h
theorem De (w:World) (code:UInt8) (lo hi:Nat) (A:Option Addr) (c:Nat) (l:List UInt8) (hr:RdB w lo hi A c l) (bI:l.length≤140737488355328) (h1:1≤code.toNat) (h2:code.toNat≤15) (h3:(bg (↑code.toNat:Int) l).2.2=false) (h4:(bg (↑code.toNat:Int) l).2.1=[]):
  Fn Tryz.prog 66 #[(.agg #[(.int .u8 (↑code.toNat:Int)),(.slice A l.length c)])] w (fun v w'=>∃K ck V cv T ct,v=.tuple #[.agg (cL (bg (↑code.toNat:Int) l).1 K ck V cv T ct).toArray,.int .i64 0]∧RdS w' w.heap.size w'.heap.size K ck (bg (↑code.toNat:Int) l).1.keys∧RdB w' w.heap.size w'.heap.size V cv (bg (↑code.toNat:Int) l).1.value∧RdS w' w.heap.size w'.heap.size T ct (bg (↑code.toNat:Int) l).1.tags∧Ext w w'):=by
 replace hr:=hr.top
 have hE:=aP w
 refine aO (args:=[(.agg #[(.int .u8 (↑code.toNat:Int)),(.slice A l.length c)])]) Tryz.func66 ?_
 refine af (aa ?_)
 refine ar (bU (cs:=[(.int .u8 (↑code.toNat:Int)),(.slice A l.length c)])) ?_
 rintro v w1 ⟨g1,rfl,au,dL,kM,ls⟩
 replace hr:=hr.ext dL
 replace hE:=hE.tr dL
 refine ar (bc (cs:=[(.int .i64 0),(.string (av [])),(.slice none 0 0),(.slice none 0 0),(.slice none 0 0),(.int .u64 0),(.int .u64 0),(.string (av [])),(.string (av [])),(.string (av []))]) fl) ?_
 rintro v w2 ⟨g2,rfl,aq,dk,my,nd⟩
 replace hr:=hr.ext dk
 replace hE:=hE.tr dk
 replace au:=au.ext dk
 refine va ?_
 refine ag (ae (af (aa ?_)))
 refine ab (ah (off:=0) jY) ?_
 refine ab (ak qf au) ?_
 refine ab (bv Tryz.underlying5 Tryz.underlying34 (hm:=kU)) ?_
 refine ab (bi (cs:=[(.int .i64 (↑code.toNat:Int)),(.string (av [])),(.slice none 0 0),(.slice none 0 0),(.slice none 0 0),(.int .u64 0),(.int .u64 0),(.string (av [])),(.string (av [])),(.string (av []))]) fl lf) ?_
 refine ar (bc (cs:=[(.int .i64 0),(.string (av [])),(.slice none 0 0),(.slice none 0 0),(.slice none 0 0),(.int .u64 0),(.int .u64 0),(.string (av [])),(.string (av [])),(.string (av []))]) fl) ?_
 rintro v w3 ⟨g4,rfl,aI,eM,th,ta⟩
 replace hr:=hr.ext eM
 replace hE:=hE.tr eM
 replace au:=au.ext eM
 replace aq:=aq.ext eM
 refine aB (aD (vs:=[(.int .i64 (↑code.toNat:Int)),(.string (av [])),(.slice none 0 0),(.slice none 0 0),(.slice none 0 0),(.int .u64 0),(.int .u64 0),(.string (av [])),(.string (av [])),(.string (av []))]) fy aI) ?_
 rintro _ w4 ⟨gT,cQ⟩
 replace hr:=hr.gr cQ
 replace hE:=hE.gr cQ
 replace au:=au.gr cQ
 replace aq:=aq.gr cQ
 replace aI:=gT
 refine ag (ae (af (aa ?_)))
 refine ab (ah (off:=1) gH) ?_
 refine ab (ak dc au) ?_
 have Pg:=aI.lt
 refine ar (aw zh (le _ _ _ _ _ l hr bI)) ?_
 rintro v w5 ⟨gr,A1,c1,h2,rfl,aJ,np,vy,eK,EV,dt⟩
 replace hE:=hE.tr eK
 replace aq:=aq.ext eK
 replace aI:=aI.ext eK
 have na:=eK.size
 refine ab (bi (cs:=[(.pointer (some ⟨g4,0,none⟩)),(.pointer (some ⟨gr,0,none⟩)),(.slice none 0 0),(.bool false)]) pR zO) ?_
 refine ar (bc (cs:=[(.pointer none),(.pointer none),(.slice none 0 0),(.bool false)]) pR) ?_
 rintro v w6 ⟨g5,rfl,bu,f0,Am,GJ⟩
 replace hE:=hE.tr f0
 replace aq:=aq.ext f0
 replace aI:=aI.ext f0
 replace aJ:=aJ.ext f0
 replace np:=np.ext f0
 refine aB (aD (vs:=[(.pointer (some ⟨g4,0,none⟩)),(.pointer (some ⟨gr,0,none⟩)),(.slice none 0 0),(.bool false)]) zC bu) ?_
 rintro _ w7 ⟨Co,jw⟩
 have pn:=jw.size
 replace hE:=hE.gr jw
 replace aq:=aq.gr jw
 replace aI:=aI.gr jw
 replace aJ:=aJ.gr jw
 replace np:=np.gr jw
 replace bu:=Co
 refine ag (ae (af (aa ?_)))
 refine ar (aw IX (yp _ g5 g4 gr _ _ A1 c1 l bu aJ np (↑code.toNat:Int) aI)) ?_
 rintro v w8 ⟨rfl,hN,⟨A14,c14,hQ,uj⟩,⟨K,ck,V,cv,T,ct,It,Rs,Q4,Q6⟩,FJ⟩
 replace hE:=FJ.e0 hE (by intro g hg;simp at hg;omega)
 replace aq:=FJ.bk aq (by intro hg;simp at hg;omega)
 replace bu:=hN
 replace aJ:=hQ
 replace aI:=It
 refine ag (ae (af (af (aa ?_))))
 refine ab (ah (off:=3) dx) ?_
 refine ab (ak ss bu) ?_
 refine aN (d:=16) rfl (v':=(.bool false)) (by rw[h3]) ?_
 refine vm ?_
 refine aj (ah (off:=1) fI) ?_
 refine aj (ak jP bu) ?_
 have Cu:(bg (↑code.toNat:Int) l).2.1.length=0:=by rw[h4];rfl
 refine aj (aw CH (oD _ gr _ _ A14 c14 (bg (↑code.toNat:Int) l).2.1 aJ uj)) ?_
 refine aj (bw) ?_
 refine aN (d:=21) rfl (bf (by omega)) ?_
 refine ab (ap) ?_
 refine ag (ae ?_)
 refine aC ?_
 refine aS (ae (af (aa ?_)))
 refine ab (aK (cs:=[(.int .i64 (bg (↑code.toNat:Int) l).1.op),(.string (av (bg (↑code.toNat:Int) l).1.key)),(.slice K (bg (↑code.toNat:Int) l).1.keys.length ck),(.slice V (bg (↑code.toNat:Int) l).1.value.length cv),(.slice T (bg (↑code.toNat:Int) l).1.tags.length ct),(.int .u64 (↑(bg (↑code.toNat:Int) l).1.life:Int)),(.int .u64 (↑(bg (↑code.toNat:Int) l).1.ver:Int)),(.string (av (bg (↑code.toNat:Int) l).1.tag)),(.string (av (bg (↑code.toNat:Int) l).1.pre)),(.string (av (bg (↑code.toNat:Int) l).1.child))]) cc aI) ?_
 refine aB (aD (vs:=[(.int .i64 (bg (↑code.toNat:Int) l).1.op),(.string (av (bg (↑code.toNat:Int) l).1.key)),(.slice K (bg (↑code.toNat:Int) l).1.keys.length ck),(.slice V (bg (↑code.toNat:Int) l).1.value.length cv),(.slice T (bg (↑code.toNat:Int) l).1.tags.length ct),(.int .u64 (↑(bg (↑code.toNat:Int) l).1.life:Int)),(.int .u64 (↑(bg (↑code.toNat:Int) l).1.ver:Int)),(.string (av (bg (↑code.toNat:Int) l).1.tag)),(.string (av (bg (↑code.toNat:Int) l).1.pre)),(.string (av (bg (↑code.toNat:Int) l).1.child))]) fy aq) ?_
 rintro _ w9 ⟨uQ,lk⟩
 have KH:=lk.size
 replace hE:=hE.gr lk
 replace Rs:=Rs.gr lk
 replace Q4:=Q4.gr lk
 replace Q6:=Q6.gr lk
 replace aq:=uQ
 refine va ?_
 refine ag (ae (aE ?_))
 refine bm (rs:=[.cell 2 39,.tmp 3]) (vs:=[.agg #[(.int .i64 (bg (↑code.toNat:Int) l).1.op),(.string (av (bg (↑code.toNat:Int) l).1.key)),(.slice K (bg (↑code.toNat:Int) l).1.keys.length ck),(.slice V (bg (↑code.toNat:Int) l).1.value.length cv),(.slice T (bg (↑code.toNat:Int) l).1.tags.length ct),(.int .u64 (↑(bg (↑code.toNat:Int) l).1.life:Int)),(.int .u64 (↑(bg (↑code.toNat:Int) l).1.ver:Int)),(.string (av (bg (↑code.toNat:Int) l).1.tag)),(.string (av (bg (↑code.toNat:Int) l).1.pre)),(.string (av (bg (↑code.toNat:Int) l).1.child))],(.int .i64 0)]) rfl ⟨⟨_,_,[(.int .i64 (bg (↑code.toNat:Int) l).1.op),(.string (av (bg (↑code.toNat:Int) l).1.key)),(.slice K (bg (↑code.toNat:Int) l).1.keys.length ck),(.slice V (bg (↑code.toNat:Int) l).1.value.length cv),(.slice T (bg (↑code.toNat:Int) l).1.tags.length ct),(.int .u64 (↑(bg (↑code.toNat:Int) l).1.life:Int)),(.int .u64 (↑(bg (↑code.toNat:Int) l).1.ver:Int)),(.string (av (bg (↑code.toNat:Int) l).1.tag)),(.string (av (bg (↑code.toNat:Int) l).1.pre)),(.string (av (bg (↑code.toNat:Int) l).1.child))],rfl,cc,aq,rfl⟩,rfl,trivial⟩ ?_
 exact⟨K,ck,V,cv,T,ct,rfl,Rs.mono (by omega) (by omega),Q4.mono (by omega) (by omega),Q6.mono (by omega) (by omega),hE⟩
theorem Bh (w:World) (code:UInt8) (lo hi:Nat) (A:Option Addr) (c:Nat) (l:List UInt8) (hr:RdB w lo hi A c l) (bI:l.length≤140737488355328) (h1:1≤code.toNat) (h2:code.toNat≤15) (h3:(bg (↑code.toNat:Int) l).2.2=true):
  Fn Tryz.prog 66 #[(.agg #[(.int .u8 (↑code.toNat:Int)),(.slice A l.length c)])] w (fun v w'=>∃K ck V cv T ct,v=.tuple #[.agg (cL (cmd0 0) K ck V cv T ct).toArray,.int .i64 6]∧RdS w' w.heap.size w'.heap.size K ck (cmd0 0).keys∧RdB w' w.heap.size w'.heap.size V cv (cmd0 0).value∧RdS w' w.heap.size w'.heap.size T ct (cmd0 0).tags∧Ext w w'):=by
 replace hr:=hr.top
 have hE:=aP w
 refine aO (args:=[(.agg #[(.int .u8 (↑code.toNat:Int)),(.slice A l.length c)])]) Tryz.func66 ?_
 refine af (aa ?_)
 refine ar (bU (cs:=[(.int .u8 (↑code.toNat:Int)),(.slice A l.length c)])) ?_
 rintro v w1 ⟨g1,rfl,au,dL,kM,ls⟩
 replace hr:=hr.ext dL
 replace hE:=hE.tr dL
 refine ar (bc (cs:=[(.int .i64 0),(.string (av [])),(.slice none 0 0),(.slice none 0 0),(.slice none 0 0),(.int .u64 0),(.int .u64 0),(.string (av [])),(.string (av [])),(.string (av []))]) fl) ?_
 rintro v w2 ⟨g2,rfl,aq,dk,my,nd⟩
 replace hr:=hr.ext dk
 replace hE:=hE.tr dk
 replace au:=au.ext dk
 refine va ?_
 refine ag (ae (af (aa ?_)))
 refine ab (ah (off:=0) jY) ?_
 refine ab (ak qf au) ?_
 refine ab (bv Tryz.underlying5 Tryz.underlying34 (hm:=kU)) ?_
 refine ab (bi (cs:=[(.int .i64 (↑code.toNat:Int)),(.string (av [])),(.slice none 0 0),(.slice none 0 0),(.slice none 0 0),(.int .u64 0),(.int .u64 0),(.string (av [])),(.string (av [])),(.string (av []))]) fl lf) ?_
 refine ar (bc (cs:=[(.int .i64 0),(.string (av [])),(.slice none 0 0),(.slice none 0 0),(.slice none 0 0),(.int .u64 0),(.int .u64 0),(.string (av [])),(.string (av [])),(.string (av []))]) fl) ?_
 rintro v w3 ⟨g4,rfl,aI,eM,th,ta⟩
 replace hr:=hr.ext eM
 replace hE:=hE.tr eM
 replace au:=au.ext eM
 replace aq:=aq.ext eM
 refine aB (aD (vs:=[(.int .i64 (↑code.toNat:Int)),(.string (av [])),(.slice none 0 0),(.slice none 0 0),(.slice none 0 0),(.int .u64 0),(.int .u64 0),(.string (av [])),(.string (av [])),(.string (av []))]) fy aI) ?_
 rintro _ w4 ⟨gT,cQ⟩
 replace hr:=hr.gr cQ
 replace hE:=hE.gr cQ
 replace au:=au.gr cQ
 replace aq:=aq.gr cQ
 replace aI:=gT
 refine ag (ae (af (aa ?_)))
 refine ab (ah (off:=1) gH) ?_
 refine ab (ak dc au) ?_
 have Pg:=aI.lt
 refine ar (aw zh (le _ _ _ _ _ l hr bI)) ?_
 rintro v w5 ⟨gr,A1,c1,h2,rfl,aJ,np,vy,eK,EV,dt⟩
 replace hE:=hE.tr eK
 replace aq:=aq.ext eK
 replace aI:=aI.ext eK
 have na:=eK.size
 refine ab (bi (cs:=[(.pointer (some ⟨g4,0,none⟩)),(.pointer (some ⟨gr,0,none⟩)),(.slice none 0 0),(.bool false)]) pR zO) ?_
 refine ar (bc (cs:=[(.pointer none),(.pointer none),(.slice none 0 0),(.bool false)]) pR) ?_
 rintro v w6 ⟨g5,rfl,bu,f0,Am,GJ⟩
 replace hE:=hE.tr f0
 replace aq:=aq.ext f0
 replace aI:=aI.ext f0
 replace aJ:=aJ.ext f0
 replace np:=np.ext f0
 refine aB (aD (vs:=[(.pointer (some ⟨g4,0,none⟩)),(.pointer (some ⟨gr,0,none⟩)),(.slice none 0 0),(.bool false)]) zC bu) ?_
 rintro _ w7 ⟨Co,jw⟩
 have pn:=jw.size
 replace hE:=hE.gr jw
 replace aq:=aq.gr jw
 replace aI:=aI.gr jw
 replace aJ:=aJ.gr jw
 replace np:=np.gr jw
 replace bu:=Co
 refine ag (ae (af (aa ?_)))
 refine ar (aw IX (yp _ g5 g4 gr _ _ A1 c1 l bu aJ np (↑code.toNat:Int) aI)) ?_
 rintro v w8 ⟨rfl,hN,⟨A14,c14,hQ,uj⟩,⟨K,ck,V,cv,T,ct,It,Rs,Q4,Q6⟩,FJ⟩
 replace hE:=FJ.e0 hE (by intro g hg;simp at hg;omega)
 replace aq:=FJ.bk aq (by intro hg;simp at hg;omega)
 replace bu:=hN
 refine ag (ae (af (af (aa ?_))))
 refine ab (ah (off:=3) dx) ?_
 refine ab (ak ss bu) ?_
 refine aN (d:=16) rfl (v':=(.bool true)) (by rw[h3]) ?_
 refine vm ?_
 iterate 4 refine aA ?_
 refine ab (ay) ?_
 refine ag (ae ?_)
 refine aR ?_
 refine af (aa ?_)
 refine ab (bi (cs:=[(.int .i64 0),(.string (av [])),(.slice none 0 0),(.slice none 0 0),(.slice none 0 0),(.int .u64 0),(.int .u64 0),(.string (av [])),(.string (av [])),(.string (av []))]) fl lf) ?_
 refine aB (aD (vs:=[(.int .i64 0),(.string (av [])),(.slice none 0 0),(.slice none 0 0),(.slice none 0 0),(.int .u64 0),(.int .u64 0),(.string (av [])),(.string (av [])),(.string (av []))]) fy aq) ?_
 rintro _ w9 ⟨uQ,lk⟩
 replace hE:=hE.gr lk
 replace aq:=uQ
 refine va ?_
 refine ag (ae (aE (az ?_)))
 refine bm (rs:=[.cell 2 39,.tmp 3]) (vs:=[.agg #[(.int .i64 0),(.string (av [])),(.slice none 0 0),(.slice none 0 0),(.slice none 0 0),(.int .u64 0),(.int .u64 0),(.string (av [])),(.string (av [])),(.string (av []))],(.int .i64 6)]) rfl ⟨⟨_,_,[(.int .i64 0),(.string (av [])),(.slice none 0 0),(.slice none 0 0),(.slice none 0 0),(.int .u64 0),(.int .u64 0),(.string (av [])),(.string (av [])),(.string (av []))],rfl,cc,aq,rfl⟩,rfl,trivial⟩ ?_
 exact⟨none,0,none,0,none,0,rfl,Rd.nil _ _ _ _ _ _ (Nat.zero_le _),Rd.nil _ _ _ _ _ _ (Nat.zero_le _),Rd.nil _ _ _ _ _ _ (Nat.zero_le _),hE⟩
theorem yg (w:World) (code:UInt8) (lo hi:Nat) (A:Option Addr) (c:Nat) (l:List UInt8) (hr:RdB w lo hi A c l) (bI:l.length≤140737488355328) (h1:1≤code.toNat) (h2:code.toNat≤15) (h3:(bg (↑code.toNat:Int) l).2.2=false) (h4:¬(bg (↑code.toNat:Int) l).2.1.length=0) (h5:(bg (↑code.toNat:Int) l).2.1.length≤l.length):
  Fn Tryz.prog 66 #[(.agg #[(.int .u8 (↑code.toNat:Int)),(.slice A l.length c)])] w (fun v w'=>∃K ck V cv T ct,v=.tuple #[.agg (cL (cmd0 0) K ck V cv T ct).toArray,.int .i64 6]∧RdS w' w.heap.size w'.heap.size K ck (cmd0 0).keys∧RdB w' w.heap.size w'.heap.size V cv (cmd0 0).value∧RdS w' w.heap.size w'.heap.size T ct (cmd0 0).tags∧Ext w w'):=by
 replace hr:=hr.top
 have hE:=aP w
 refine aO (args:=[(.agg #[(.int .u8 (↑code.toNat:Int)),(.slice A l.length c)])]) Tryz.func66 ?_
 refine af (aa ?_)
 refine ar (bU (cs:=[(.int .u8 (↑code.toNat:Int)),(.slice A l.length c)])) ?_
 rintro v w1 ⟨g1,rfl,au,dL,kM,ls⟩
 replace hr:=hr.ext dL
 replace hE:=hE.tr dL
 refine ar (bc (cs:=[(.int .i64 0),(.string (av [])),(.slice none 0 0),(.slice none 0 0),(.slice none 0 0),(.int .u64 0),(.int .u64 0),(.string (av [])),(.string (av [])),(.string (av []))]) fl) ?_
 rintro v w2 ⟨g2,rfl,aq,dk,my,nd⟩
 replace hr:=hr.ext dk
 replace hE:=hE.tr dk
 replace au:=au.ext dk
 refine va ?_
 refine ag (ae (af (aa ?_)))
 refine ab (ah (off:=0) jY) ?_
 refine ab (ak qf au) ?_
 refine ab (bv Tryz.underlying5 Tryz.underlying34 (hm:=kU)) ?_
 refine ab (bi (cs:=[(.int .i64 (↑code.toNat:Int)),(.string (av [])),(.slice none 0 0),(.slice none 0 0),(.slice none 0 0),(.int .u64 0),(.int .u64 0),(.string (av [])),(.string (av [])),(.string (av []))]) fl lf) ?_
 refine ar (bc (cs:=[(.int .i64 0),(.string (av [])),(.slice none 0 0),(.slice none 0 0),(.slice none 0 0),(.int .u64 0),(.int .u64 0),(.string (av [])),(.string (av [])),(.string (av []))]) fl) ?_
 rintro v w3 ⟨g4,rfl,aI,eM,th,ta⟩
 replace hr:=hr.ext eM
 replace hE:=hE.tr eM
 replace au:=au.ext eM
 replace aq:=aq.ext eM
 refine aB (aD (vs:=[(.int .i64 (↑code.toNat:Int)),(.string (av [])),(.slice none 0 0),(.slice none 0 0),(.slice none 0 0),(.int .u64 0),(.int .u64 0),(.string (av [])),(.string (av [])),(.string (av []))]) fy aI) ?_
 rintro _ w4 ⟨gT,cQ⟩
 replace hr:=hr.gr cQ
 replace hE:=hE.gr cQ
 replace au:=au.gr cQ
 replace aq:=aq.gr cQ
 replace aI:=gT
 refine ag (ae (af (aa ?_)))
 refine ab (ah (off:=1) gH) ?_
 refine ab (ak dc au) ?_
 have Pg:=aI.lt
 refine ar (aw zh (le _ _ _ _ _ l hr bI)) ?_
 rintro v w5 ⟨gr,A1,c1,h2,rfl,aJ,np,vy,eK,EV,dt⟩
 replace hE:=hE.tr eK
 replace aq:=aq.ext eK
 replace aI:=aI.ext eK
 have na:=eK.size
 refine ab (bi (cs:=[(.pointer (some ⟨g4,0,none⟩)),(.pointer (some ⟨gr,0,none⟩)),(.slice none 0 0),(.bool false)]) pR zO) ?_
 refine ar (bc (cs:=[(.pointer none),(.pointer none),(.slice none 0 0),(.bool false)]) pR) ?_
 rintro v w6 ⟨g5,rfl,bu,f0,Am,GJ⟩
 replace hE:=hE.tr f0
 replace aq:=aq.ext f0
 replace aI:=aI.ext f0
 replace aJ:=aJ.ext f0
 replace np:=np.ext f0
 refine aB (aD (vs:=[(.pointer (some ⟨g4,0,none⟩)),(.pointer (some ⟨gr,0,none⟩)),(.slice none 0 0),(.bool false)]) zC bu) ?_
 rintro _ w7 ⟨Co,jw⟩
 have pn:=jw.size
 replace hE:=hE.gr jw
 replace aq:=aq.gr jw
 replace aI:=aI.gr jw
 replace aJ:=aJ.gr jw
 replace np:=np.gr jw
 replace bu:=Co
 refine ag (ae (af (aa ?_)))
 refine ar (aw IX (yp _ g5 g4 gr _ _ A1 c1 l bu aJ np (↑code.toNat:Int) aI)) ?_
 rintro v w8 ⟨rfl,hN,⟨A14,c14,hQ,uj⟩,⟨K,ck,V,cv,T,ct,It,Rs,Q4,Q6⟩,FJ⟩
 replace hE:=FJ.e0 hE (by intro g hg;simp at hg;omega)
 replace aq:=FJ.bk aq (by intro hg;simp at hg;omega)
 replace bu:=hN
 replace aJ:=hQ
 refine ag (ae (af (af (aa ?_))))
 refine ab (ah (off:=3) dx) ?_
 refine ab (ak ss bu) ?_
 refine aN (d:=16) rfl (v':=(.bool false)) (by rw[h3]) ?_
 refine vm ?_
 refine aj (ah (off:=1) fI) ?_
 refine aj (ak jP bu) ?_
 refine aj (aw CH (oD _ gr _ _ A14 c14 (bg (↑code.toNat:Int) l).2.1 aJ uj)) ?_
 refine aj (bw) ?_
 refine aN (d:=21) rfl (bt (by omega)) ?_
 refine ab (ap) ?_
 refine ag (ae ?_)
 refine aR ?_
 refine af (aa ?_)
 refine ab (bi (cs:=[(.int .i64 0),(.string (av [])),(.slice none 0 0),(.slice none 0 0),(.slice none 0 0),(.int .u64 0),(.int .u64 0),(.string (av [])),(.string (av [])),(.string (av []))]) fl lf) ?_
 refine aB (aD (vs:=[(.int .i64 0),(.string (av [])),(.slice none 0 0),(.slice none 0 0),(.slice none 0 0),(.int .u64 0),(.int .u64 0),(.string (av [])),(.string (av [])),(.string (av []))]) fy aq) ?_
 rintro _ w9 ⟨uQ,lk⟩
 replace hE:=hE.gr lk
 replace aq:=uQ
 refine va ?_
 refine ag (ae (aE (az ?_)))
 refine bm (rs:=[.cell 2 39,.tmp 3]) (vs:=[.agg #[(.int .i64 0),(.string (av [])),(.slice none 0 0),(.slice none 0 0),(.slice none 0 0),(.int .u64 0),(.int .u64 0),(.string (av [])),(.string (av [])),(.string (av []))],(.int .i64 6)]) rfl ⟨⟨_,_,[(.int .i64 0),(.string (av [])),(.slice none 0 0),(.slice none 0 0),(.slice none 0 0),(.int .u64 0),(.int .u64 0),(.string (av [])),(.string (av [])),(.string (av []))],rfl,cc,aq,rfl⟩,rfl,trivial⟩ ?_
 exact⟨none,0,none,0,none,0,rfl,Rd.nil _ _ _ _ _ _ (Nat.zero_le _),Rd.nil _ _ _ _ _ _ (Nat.zero_le _),Rd.nil _ _ _ _ _ _ (Nat.zero_le _),hE⟩
theorem yf (w:World) (code:UInt8) (lo hi:Nat) (A:Option Addr) (c:Nat) (l:List UInt8) (hr:RdB w lo hi A c l) (bI:l.length≤140737488355328) (h1:code.toNat<1∨15<code.toNat):
  Fn Tryz.prog 66 #[(.agg #[(.int .u8 (↑code.toNat:Int)),(.slice A l.length c)])] w (fun v w'=>∃K ck V cv T ct,v=.tuple #[.agg (cL (cmd0 0) K ck V cv T ct).toArray,.int .i64 6]∧RdS w' w.heap.size w'.heap.size K ck (cmd0 0).keys∧RdB w' w.heap.size w'.heap.size V cv (cmd0 0).value∧RdS w' w.heap.size w'.heap.size T ct (cmd0 0).tags∧Ext w w'):=by
 replace hr:=hr.top
 have hE:=aP w
 have Tm:=code.toNat_lt
 refine aO (args:=[(.agg #[(.int .u8 (↑code.toNat:Int)),(.slice A l.length c)])]) Tryz.func66 ?_
 refine af (aa ?_)
 refine ar (bU (cs:=[(.int .u8 (↑code.toNat:Int)),(.slice A l.length c)])) ?_
 rintro v w1 ⟨g1,rfl,au,dL,kM,ls⟩
 replace hr:=hr.ext dL
 replace hE:=hE.tr dL
 refine ar (bc (cs:=[(.int .i64 0),(.string (av [])),(.slice none 0 0),(.slice none 0 0),(.slice none 0 0),(.int .u64 0),(.int .u64 0),(.string (av [])),(.string (av [])),(.string (av []))]) fl) ?_
 rintro v w2 ⟨g2,rfl,aq,dk,my,nd⟩
 replace hr:=hr.ext dk
 replace hE:=hE.tr dk
 replace au:=au.ext dk
 refine va ?_
 refine ag (ae (af (aa ?_)))
 refine ab (ah (off:=0) jY) ?_
 refine ab (ak qf au) ?_
 refine ab (bv Tryz.underlying5 Tryz.underlying34 (hm:=kU)) ?_
 refine ab (bi (cs:=[(.int .i64 (↑code.toNat:Int)),(.string (av [])),(.slice none 0 0),(.slice none 0 0),(.slice none 0 0),(.int .u64 0),(.int .u64 0),(.string (av [])),(.string (av [])),(.string (av []))]) fl lf) ?_
 refine ar (bc (cs:=[(.int .i64 0),(.string (av [])),(.slice none 0 0),(.slice none 0 0),(.slice none 0 0),(.int .u64 0),(.int .u64 0),(.string (av [])),(.string (av [])),(.string (av []))]) fl) ?_
 rintro v w3 ⟨g4,rfl,aI,eM,th,ta⟩
 replace hr:=hr.ext eM
 replace hE:=hE.tr eM
 replace au:=au.ext eM
 replace aq:=aq.ext eM
 refine aB (aD (vs:=[(.int .i64 (↑code.toNat:Int)),(.string (av [])),(.slice none 0 0),(.slice none 0 0),(.slice none 0 0),(.int .u64 0),(.int .u64 0),(.string (av [])),(.string (av [])),(.string (av []))]) fy aI) ?_
 rintro _ w4 ⟨gT,cQ⟩
 replace hr:=hr.gr cQ
 replace hE:=hE.gr cQ
 replace au:=au.gr cQ
 replace aq:=aq.gr cQ
 replace aI:=gT
 refine ag (ae (af (aa ?_)))
 refine ab (ah (off:=1) gH) ?_
 refine ab (ak dc au) ?_
 have Pg:=aI.lt
 refine ar (aw zh (le _ _ _ _ _ l hr bI)) ?_
 rintro v w5 ⟨gr,A1,c1,h2,rfl,aJ,np,vy,eK,EV,dt⟩
 replace hE:=hE.tr eK
 replace aq:=aq.ext eK
 replace aI:=aI.ext eK
 have na:=eK.size
 refine ab (bi (cs:=[(.pointer (some ⟨g4,0,none⟩)),(.pointer (some ⟨gr,0,none⟩)),(.slice none 0 0),(.bool false)]) pR zO) ?_
 refine ar (bc (cs:=[(.pointer none),(.pointer none),(.slice none 0 0),(.bool false)]) pR) ?_
 rintro v w6 ⟨g5,rfl,bu,f0,Am,GJ⟩
 replace hE:=hE.tr f0
 replace aq:=aq.ext f0
 replace aI:=aI.ext f0
 replace aJ:=aJ.ext f0
 replace np:=np.ext f0
 refine aB (aD (vs:=[(.pointer (some ⟨g4,0,none⟩)),(.pointer (some ⟨gr,0,none⟩)),(.slice none 0 0),(.bool false)]) zC bu) ?_
 rintro _ w7 ⟨Co,jw⟩
 have pn:=jw.size
 replace hE:=hE.gr jw
 replace aq:=aq.gr jw
 replace aI:=aI.gr jw
 replace aJ:=aJ.gr jw
 replace np:=np.gr jw
 replace bu:=Co
 refine ag (ae (af (aa ?_)))
 refine ar (aw IX (Dx _ g5 g4 gr _ _ A1 c1 l bu aJ np (by omega) (by omega) (by omega) (by omega) (↑code.toNat:Int) aI (by omega) (by omega) (by omega) (by omega) (by omega))) ?_
 rintro v w8 ⟨rfl,hN,_,FJ⟩
 replace hE:=FJ.e0 hE (by intro g hg;simp at hg;omega)
 replace aq:=FJ.bk aq (by intro hg;simp at hg;omega)
 replace bu:=hN
 refine ag (ae (af (af (aa ?_))))
 refine ab (ah (off:=3) dx) ?_
 refine ab (ak ss bu) ?_
 refine vm ?_
 iterate 4 refine aA ?_
 refine ab (ay) ?_
 refine ag (ae ?_)
 refine aR ?_
 refine af (aa ?_)
 refine ab (bi (cs:=[(.int .i64 0),(.string (av [])),(.slice none 0 0),(.slice none 0 0),(.slice none 0 0),(.int .u64 0),(.int .u64 0),(.string (av [])),(.string (av [])),(.string (av []))]) fl lf) ?_
 refine aB (aD (vs:=[(.int .i64 0),(.string (av [])),(.slice none 0 0),(.slice none 0 0),(.slice none 0 0),(.int .u64 0),(.int .u64 0),(.string (av [])),(.string (av [])),(.string (av []))]) fy aq) ?_
 rintro _ w9 ⟨uQ,lk⟩
 replace hE:=hE.gr lk
 replace aq:=uQ
 refine va ?_
 refine ag (ae (aE (az ?_)))
 refine bm (rs:=[.cell 2 39,.tmp 3]) (vs:=[.agg #[(.int .i64 0),(.string (av [])),(.slice none 0 0),(.slice none 0 0),(.slice none 0 0),(.int .u64 0),(.int .u64 0),(.string (av [])),(.string (av [])),(.string (av []))],(.int .i64 6)]) rfl ⟨⟨_,_,[(.int .i64 0),(.string (av [])),(.slice none 0 0),(.slice none 0 0),(.slice none 0 0),(.int .u64 0),(.int .u64 0),(.string (av [])),(.string (av [])),(.string (av []))],rfl,cc,aq,rfl⟩,rfl,trivial⟩ ?_
 exact⟨none,0,none,0,none,0,rfl,Rd.nil _ _ _ _ _ _ (Nat.zero_le _),Rd.nil _ _ _ _ _ _ (Nat.zero_le _),Rd.nil _ _ _ _ _ _ (Nat.zero_le _),hE⟩
theorem Be (s:Cmd×List UInt8×Bool) (p:UInt8):(fS s p).2.1.length≤s.2.1.length:=by
 have h1:=eT s.2.1
 have h2:=iq s.2.1
 have h3:=lz 0 16 s.2.1
 have h4:=lz 1 16 s.2.1
 unfold fS
 repeat' split
 all_goals assumption
theorem yk (ps:List UInt8) (s:Cmd×List UInt8×Bool):(ps.foldl fS s).2.1.length≤s.2.1.length:=by
 induction ps generalizing s with
 |nil=>exact Nat.le_refl _
 |cons p r ih=>have h1:=ih (fS s p);have h2:=Be s p;rw[List.foldl_cons];omega
theorem Bl (op:Int) (l:List UInt8):(bg op l).2.1.length≤l.length:=yk _ _
theorem Bj (w:World) (code:UInt8) (lo hi:Nat) (A:Option Addr) (c:Nat) (l:List UInt8) (hr:RdB w lo hi A c l) (bI:l.length≤140737488355328):
  Fn Tryz.prog 66 #[.agg #[.int .u8 (code.toNat:Int),.slice A l.length c]] w (fun v w'=>∃K ck V cv T ct,v=.tuple #[.agg (cL (jO code l).1 K ck V cv T ct).toArray,.int .i64 ((jO code l).2:Int)]∧RdS w' w.heap.size w'.heap.size K ck (jO code l).1.keys∧RdB w' w.heap.size w'.heap.size V cv (jO code l).1.value∧RdS w' w.heap.size w'.heap.size T ct (jO code l).1.tags∧Ext w w'):=by
 by_cases h0:1≤code.toNat∧code.toNat≤15
 ·obtain⟨h1,h2⟩:=h0
  by_cases h3:(bg (code.toNat:Int) l).2.2=true
  ·rw[kG (by rintro⟨_,_,h,_⟩;rw[h3] at h;cases h)];exact Bh w code lo hi A c l hr bI h1 h2 h3
  ·have Yo:(bg (code.toNat:Int) l).2.2=false:=by simpa using h3
   by_cases h4:(bg (code.toNat:Int) l).2.1=[]
   ·rw[tM h1 h2 Yo h4];exact De w code lo hi A c l hr bI h1 h2 Yo h4
   ·rw[kG (by rintro⟨_,_,_,h⟩;exact h4 h)];exact yg w code lo hi A c l hr bI h1 h2 Yo (fun e=>h4 (List.eq_nil_of_length_eq_zero e)) (Bl _ _)
 ·rw[kG (by rintro⟨a,b,_⟩;exact h0 ⟨a,b⟩)];exact yf w code lo hi A c l hr bI (by omega)
end Go.Proofs.YtiighkbehiddkaaGreat
