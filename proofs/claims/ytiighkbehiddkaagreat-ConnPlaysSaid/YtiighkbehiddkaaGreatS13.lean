/-
 The reference's reading of commands and the real one agree; what it reads was written so. No condition.
 What the reference keeps of a connection, in memory; its steps, plainly. No condition.
 How a connection looks; the configurations.
-/
import Derived.Test.YtiighkbehiddkaaGreatS12
namespace Go.Proofs.YtiighkbehiddkaaGreat
set_option linter.unusedVariables false
set_option linter.unusedSimpArgs false
theorem Bf {s:Cmd×List UInt8×Bool} {p:UInt8} (h:s.2.2=true):(fS s p).2.2=true:=by
 unfold fS
 repeat' split
 all_goals simp[h]
theorem sZ:∀(ps:List UInt8) (s:Cmd×List UInt8×Bool),s.2.2=true→(ps.foldl fS s).2.2=true
 |[],s,h=>h
 |p::r,s,h=>sZ r _ (Bf h)
/-- All parts are allowed. -/
def yv:List UInt8→Cmd→List UInt8→Bool
 |[],_,_=>true
 |p::ps,c,l=>og (fF c p l) p&&yv ps (fF c p l) (dh p l)
theorem zF:∀(ps:List UInt8) (c:Cmd) (l:List UInt8) (b:Bool),(∀p∈ps,L9 p)→(rr ps c l=none→(ps.foldl fS (c,l,b)).2.2=true)∧(∀c' q,rr ps c l=some (c',q)→ps.foldl fS (c,l,b)=(c',q,b|| !yv ps c l))
 | [], c, l, b, _ => ⟨fun h => by simp [rr] at h, fun c' q h => by
   simp only[rr,Option.some.injEq,Prod.mk.injEq] at h
   obtain⟨h1,h2⟩:=h;subst h1 h2;simp[yv]⟩
 |p::ps,c,l,b,hL=>by
  obtain⟨r1,r2⟩:=Dc (c:=c) (l:=l) (b:=b) (hL p (List.mem_cons_self ..))
  by_cases ho:lr p l=true
  ·have ih:=zF ps (fF c p l) (dh p l) (b|| !og (fF c p l) p) (fun x hx=>hL x (List.mem_cons_of_mem _ hx))
   rw[rr,if_pos ho,List.foldl_cons,r2 ho]
   refine⟨ih.1,fun c' q h=>?_⟩
   rw[ih.2 c' q h,yv]
   cases b<;>cases og (fF c p l) p<;>simp
  ·rw[rr,if_neg ho,List.foldl_cons]
   exact⟨fun _=>sZ ps _ (r1 (by simpa using ho)),fun c' q h=>by cases h⟩
theorem j0 {l:List UInt8} (h:nH l=true):pb (bq l)++bh l=l:=by
 have h0:(cM l 65536).2.2=0:=of_decide_eq_true h
 by_cases h1:(bd l).2.2≠0
 ·rw[ff (h1:=h1)] at h0;exact absurd h0 h1
 ·by_cases h2:(65536:Int)<((bd l).1:Int)
  ·rw[eE (h1:=h1) (h2:=h2)] at h0;cases h0
  ·by_cases h3:l.length -(bd l).2.1<(bd l).1
   ·rw[ed (h1:=h1) (h2:=h2) (h3:=h3)] at h0;cases h0
   ·have e:=fJ (l:=l) (most:=65536) (h1:=h1) (h2:=h2) (h3:=h3)
    have hi:=qA (l:=l) (by omega)
    unfold bq bh
    rw[e]
    show pb ((l.drop (bd l).2.1).take (bd l).1)++l.drop ((bd l).2.1+(bd l).1)=l
    have hl:((l.drop (bd l).2.1).take (bd l).1).length=(bd l).1:=by rw[List.length_take,List.length_drop];omega
    unfold pb
    rw[hl,hi,List.append_assoc,←List.drop_drop,List.take_append_drop,List.take_append_drop]
theorem qV {l:List UInt8} (h:o0 l=true):br (bO l)++cz l=l:=by
 have h0:(bd l).2.2=0:=of_decide_eq_true h
 unfold bO cz
 rw[qA h0,List.take_append_drop]
theorem Dp (l:List UInt8):∀n,oc n l=false→(rS kv n l).1.flatMap pb++(rS kv n l).2.1=l
 |0,_=>by simp[rS]
 |n+1,h=>by
  rw[oc,Bool.or_eq_false_iff] at h
  have ih:=Dp l n h.1
  have hp:=j0 (l:=(rS kv n l).2.1) (by simpa using h.2)
  show((rS kv n l).1++[bq (rS kv n l).2.1]).flatMap pb++bh (rS kv n l).2.1=l
  rw[List.flatMap_append,List.append_assoc]
  show(rS kv n l).1.flatMap pb++((pb (bq (rS kv n l).2.1)++[])++bh (rS kv n l).2.1)=l
  rw[List.append_nil,hp,ih]
theorem sV {l:List UInt8} (h:oZ l=true):wl (kE l)++qD l=l:=by
 obtain⟨t1,t2⟩:=zA h
 unfold oZ at h
 simp only[Bool.and_eq_true,Bool.not_eq_true'] at h
 obtain⟨⟨hn,_⟩,he⟩:=h
 rw[t1,t2]
 unfold wl
 rw[(ip kv _ _).1,List.append_assoc,Dp _ _ he,qV hn]
theorem gk {c:Cmd} {p:UInt8} {l:List UInt8} (hp:L9 p) (ho:lr p l=true):bC (fF c p l) p++dh p l=l:=by
 have tR (h:nH l=true):l8 l=bh l:=by unfold l8;rw[h];rfl
 have nR (h:o0 l=true):qW l=cz l:=by unfold qW;rw[h];rfl
 rcases hp with h|h|h|h|h|h|h|h|h<;>subst h
 ·show pb (bq l)++l8 l=l;rw[tR ho,j0 ho]
 ·show pb (bq l)++l8 l=l;rw[tR ho,j0 ho]
 ·exact sV ho
 ·show br (bO l)++qW l=l;rw[nR ho,qV ho]
 ·show br (bO l)++qW l=l;rw[nR ho,qV ho]
 ·exact sV ho
 ·show pb (bq l)++l8 l=l;rw[tR ho,j0 ho]
 ·show pb (bq l)++l8 l=l;rw[tR ho,j0 ho]
 ·show pb (bq l)++l8 l=l;rw[tR ho,j0 ho]
section
variable (c s:Cmd) (l:List UInt8)
theorem ez:fF c 107 l={c with key:=bq l}:=rfl
theorem eD:og c 107=(kv c.key):=rfl
theorem gJ:bC c 107=pb c.key:=rfl
theorem gD:eI c s 107={s with key:=c.key}:=rfl
theorem jd:fF c 118 l={c with value:=bq l}:=rfl
theorem jq:og c 118=(vv c.value):=rfl
theorem mX:bC c 118=pb c.value:=rfl
theorem mn:eI c s 118={s with value:=c.value}:=rfl
theorem je:fF c 116 l={c with tags:=kE l}:=rfl
theorem jr:og c 116=(c.tags.all tv&&decide (c.tags.length≤16)):=rfl
theorem mY:bC c 116=wl c.tags:=rfl
theorem mo:eI c s 116={s with tags:=c.tags}:=rfl
theorem gn:fF c 108 l={c with life:=bO l}:=rfl
theorem gz:og c 108=(decide (c.life≠0)):=rfl
theorem kl:bC c 108=br c.life:=rfl
theorem j8:eI c s 108={s with life:=c.life}:=rfl
theorem ow:fF c 110 l={c with ver:=bO l}:=rfl
theorem oY:og c 110=(true):=rfl
theorem vf:bC c 110=br c.ver:=rfl
theorem tS:eI c s 110={s with ver:=c.ver}:=rfl
theorem vX:fF c 109 l={c with keys:=kE l}:=rfl
theorem xS:og c 109=(c.keys.all kv&&decide (1≤c.keys.length∧c.keys.length≤16)):=rfl
theorem GE:bC c 109=wl c.keys:=rfl
theorem DL:eI c s 109={s with keys:=c.keys}:=rfl
theorem vY:fF c 103 l={c with tag:=bq l}:=rfl
theorem xT:og c 103=(tv c.tag):=rfl
theorem GF:bC c 103=pb c.tag:=rfl
theorem DM:eI c s 103={s with tag:=c.tag}:=rfl
theorem vW:fF c 112 l={c with pre:=bq l}:=rfl
theorem xR:og c 112=(pv c.pre):=rfl
theorem GD:bC c 112=pb c.pre:=rfl
theorem DK:eI c s 112={s with pre:=c.pre}:=rfl
theorem s3:fF c 99 l={c with child:=bq l}:=rfl
theorem tA:og c 99=(kv c.child):=rfl
theorem CM:bC c 99=pb c.child:=rfl
theorem Bz:eI c s 99={s with child:=c.child}:=rfl
end
theorem zE {op:Int} {l:List UInt8} {c':Cmd} {q:List UInt8} (h:rr (aZ op) (cmd0 op) l=some (c',q)):
  yv (aZ op) (cmd0 op) l=(aZ op).all (og c')∧(aZ op).foldl (eI c') (cmd0 op)=c'∧c'.op=op∧(aZ op).flatMap (bC c')++q=l:=by
 rcases pX op with e|e|e|e|e|e|e|e|e
 ·rw[e] at h ⊢
  by_cases k1:lr 107 l=true
  ·rw[rr,if_pos k1] at h
   have i1:=gk (c:=(cmd0 op)) (p:=107) (l:=l) (by unfold L9;decide) k1
   by_cases k2:lr 118 (dh 107 l)=true
   ·rw[rr,if_pos k2] at h
    have i2:=gk (c:=(fF (cmd0 op) 107 l)) (p:=118) (l:=(dh 107 l)) (by unfold L9;decide) k2
    by_cases k3:lr 116 (dh 118 (dh 107 l))=true
    ·rw[rr,if_pos k3] at h
     have i3:=gk (c:=(fF (fF (cmd0 op) 107 l) 118 (dh 107 l))) (p:=116) (l:=(dh 118 (dh 107 l))) (by unfold L9;decide) k3
     by_cases k4:lr 108 (dh 116 (dh 118 (dh 107 l)))=true
     ·rw[rr,if_pos k4] at h
      have i4:=gk (c:=(fF (fF (fF (cmd0 op) 107 l) 118 (dh 107 l)) 116 (dh 118 (dh 107 l)))) (p:=108) (l:=(dh 116 (dh 118 (dh 107 l)))) (by unfold L9;decide) k4
      rw[rr] at h
      simp only[Option.some.injEq,Prod.mk.injEq] at h
      obtain⟨h1,h2⟩:=h
      subst h1 h2
      simp only[ez,eD,gJ,gD,jd,jq,mX,mn,je,jr,mY,mo,gn,gz,kl,j8] at i1
      simp only[ez,eD,gJ,gD,jd,jq,mX,mn,je,jr,mY,mo,gn,gz,kl,j8] at i2
      simp only[ez,eD,gJ,gD,jd,jq,mX,mn,je,jr,mY,mo,gn,gz,kl,j8] at i3
      simp only[ez,eD,gJ,gD,jd,jq,mX,mn,je,jr,mY,mo,gn,gz,kl,j8] at i4
      refine⟨by simp only[yv,List.all_cons,List.all_nil,ez,eD,gJ,gD,jd,jq,mX,mn,je,jr,mY,mo,gn,gz,kl,j8,cmd0],by simp only[List.foldl_cons,List.foldl_nil,ez,eD,gJ,gD,jd,jq,mX,mn,je,jr,mY,mo,gn,gz,kl,j8,cmd0],by simp only[ez,eD,gJ,gD,jd,jq,mX,mn,je,jr,mY,mo,gn,gz,kl,j8,cmd0],?_⟩
      simp only[List.flatMap_cons,List.flatMap_nil,List.append_assoc,List.nil_append,ez,eD,gJ,gD,jd,jq,mX,mn,je,jr,mY,mo,gn,gz,kl,j8]
      rw[i4,i3,i2,i1]
     ·rw[rr,if_neg k4] at h;cases h
    ·rw[rr,if_neg k3] at h;cases h
   ·rw[rr,if_neg k2] at h;cases h
  ·rw[rr,if_neg k1] at h;cases h
 ·rw[e] at h ⊢
  by_cases k1:lr 107 l=true
  ·rw[rr,if_pos k1] at h
   have i1:=gk (c:=(cmd0 op)) (p:=107) (l:=l) (by unfold L9;decide) k1
   by_cases k2:lr 118 (dh 107 l)=true
   ·rw[rr,if_pos k2] at h
    have i2:=gk (c:=(fF (cmd0 op) 107 l)) (p:=118) (l:=(dh 107 l)) (by unfold L9;decide) k2
    by_cases k3:lr 116 (dh 118 (dh 107 l))=true
    ·rw[rr,if_pos k3] at h
     have i3:=gk (c:=(fF (fF (cmd0 op) 107 l) 118 (dh 107 l))) (p:=116) (l:=(dh 118 (dh 107 l))) (by unfold L9;decide) k3
     by_cases k4:lr 108 (dh 116 (dh 118 (dh 107 l)))=true
     ·rw[rr,if_pos k4] at h
      have i4:=gk (c:=(fF (fF (fF (cmd0 op) 107 l) 118 (dh 107 l)) 116 (dh 118 (dh 107 l)))) (p:=108) (l:=(dh 116 (dh 118 (dh 107 l)))) (by unfold L9;decide) k4
      by_cases k5:lr 110 (dh 108 (dh 116 (dh 118 (dh 107 l))))=true
      ·rw[rr,if_pos k5] at h
       have i5:=gk (c:=(fF (fF (fF (fF (cmd0 op) 107 l) 118 (dh 107 l)) 116 (dh 118 (dh 107 l))) 108 (dh 116 (dh 118 (dh 107 l))))) (p:=110) (l:=(dh 108 (dh 116 (dh 118 (dh 107 l))))) (by unfold L9;decide) k5
       rw[rr] at h
       simp only[Option.some.injEq,Prod.mk.injEq] at h
       obtain⟨h1,h2⟩:=h
       subst h1 h2
       simp only[ez,eD,gJ,gD,jd,jq,mX,mn,je,jr,mY,mo,gn,gz,kl,j8,ow,oY,vf,tS] at i1
       simp only[ez,eD,gJ,gD,jd,jq,mX,mn,je,jr,mY,mo,gn,gz,kl,j8,ow,oY,vf,tS] at i2
       simp only[ez,eD,gJ,gD,jd,jq,mX,mn,je,jr,mY,mo,gn,gz,kl,j8,ow,oY,vf,tS] at i3
       simp only[ez,eD,gJ,gD,jd,jq,mX,mn,je,jr,mY,mo,gn,gz,kl,j8,ow,oY,vf,tS] at i4
       simp only[ez,eD,gJ,gD,jd,jq,mX,mn,je,jr,mY,mo,gn,gz,kl,j8,ow,oY,vf,tS] at i5
       refine⟨by simp only[yv,List.all_cons,List.all_nil,ez,eD,gJ,gD,jd,jq,mX,mn,je,jr,mY,mo,gn,gz,kl,j8,ow,oY,vf,tS,cmd0],by simp only[List.foldl_cons,List.foldl_nil,ez,eD,gJ,gD,jd,jq,mX,mn,je,jr,mY,mo,gn,gz,kl,j8,ow,oY,vf,tS,cmd0],by simp only[ez,eD,gJ,gD,jd,jq,mX,mn,je,jr,mY,mo,gn,gz,kl,j8,ow,oY,vf,tS,cmd0],?_⟩
       simp only[List.flatMap_cons,List.flatMap_nil,List.append_assoc,List.nil_append,ez,eD,gJ,gD,jd,jq,mX,mn,je,jr,mY,mo,gn,gz,kl,j8,ow,oY,vf,tS]
       rw[i5,i4,i3,i2,i1]
      ·rw[rr,if_neg k5] at h;cases h
     ·rw[rr,if_neg k4] at h;cases h
    ·rw[rr,if_neg k3] at h;cases h
   ·rw[rr,if_neg k2] at h;cases h
  ·rw[rr,if_neg k1] at h;cases h
 ·rw[e] at h ⊢
  by_cases k1:lr 107 l=true
  ·rw[rr,if_pos k1] at h
   have i1:=gk (c:=(cmd0 op)) (p:=107) (l:=l) (by unfold L9;decide) k1
   rw[rr] at h
   simp only[Option.some.injEq,Prod.mk.injEq] at h
   obtain⟨h1,h2⟩:=h
   subst h1 h2
   simp only[ez,eD,gJ,gD] at i1
   refine⟨by simp only[yv,List.all_cons,List.all_nil,ez,eD,gJ,gD,cmd0],by simp only[List.foldl_cons,List.foldl_nil,ez,eD,gJ,gD,cmd0],by simp only[ez,eD,gJ,gD,cmd0],?_⟩
   simp only[List.flatMap_cons,List.flatMap_nil,List.append_assoc,List.nil_append,ez,eD,gJ,gD]
   rw[i1]
  ·rw[rr,if_neg k1] at h;cases h
 ·rw[e] at h ⊢
  by_cases k1:lr 109 l=true
  ·rw[rr,if_pos k1] at h
   have i1:=gk (c:=(cmd0 op)) (p:=109) (l:=l) (by unfold L9;decide) k1
   rw[rr] at h
   simp only[Option.some.injEq,Prod.mk.injEq] at h
   obtain⟨h1,h2⟩:=h
   subst h1 h2
   simp only[vX,xS,GE,DL] at i1
   refine⟨by simp only[yv,List.all_cons,List.all_nil,vX,xS,GE,DL,cmd0],by simp only[List.foldl_cons,List.foldl_nil,vX,xS,GE,DL,cmd0],by simp only[vX,xS,GE,DL,cmd0],?_⟩
   simp only[List.flatMap_cons,List.flatMap_nil,List.append_assoc,List.nil_append,vX,xS,GE,DL]
   rw[i1]
  ·rw[rr,if_neg k1] at h;cases h
 ·rw[e] at h ⊢
  by_cases k1:lr 107 l=true
  ·rw[rr,if_pos k1] at h
   have i1:=gk (c:=(cmd0 op)) (p:=107) (l:=l) (by unfold L9;decide) k1
   by_cases k2:lr 108 (dh 107 l)=true
   ·rw[rr,if_pos k2] at h
    have i2:=gk (c:=(fF (cmd0 op) 107 l)) (p:=108) (l:=(dh 107 l)) (by unfold L9;decide) k2
    rw[rr] at h
    simp only[Option.some.injEq,Prod.mk.injEq] at h
    obtain⟨h1,h2⟩:=h
    subst h1 h2
    simp only[ez,eD,gJ,gD,gn,gz,kl,j8] at i1
    simp only[ez,eD,gJ,gD,gn,gz,kl,j8] at i2
    refine⟨by simp only[yv,List.all_cons,List.all_nil,ez,eD,gJ,gD,gn,gz,kl,j8,cmd0],by simp only[List.foldl_cons,List.foldl_nil,ez,eD,gJ,gD,gn,gz,kl,j8,cmd0],by simp only[ez,eD,gJ,gD,gn,gz,kl,j8,cmd0],?_⟩
    simp only[List.flatMap_cons,List.flatMap_nil,List.append_assoc,List.nil_append,ez,eD,gJ,gD,gn,gz,kl,j8]
    rw[i2,i1]
   ·rw[rr,if_neg k2] at h;cases h
  ·rw[rr,if_neg k1] at h;cases h
 ·rw[e] at h ⊢
  by_cases k1:lr 103 l=true
  ·rw[rr,if_pos k1] at h
   have i1:=gk (c:=(cmd0 op)) (p:=103) (l:=l) (by unfold L9;decide) k1
   rw[rr] at h
   simp only[Option.some.injEq,Prod.mk.injEq] at h
   obtain⟨h1,h2⟩:=h
   subst h1 h2
   simp only[vY,xT,GF,DM] at i1
   refine⟨by simp only[yv,List.all_cons,List.all_nil,vY,xT,GF,DM,cmd0],by simp only[List.foldl_cons,List.foldl_nil,vY,xT,GF,DM,cmd0],by simp only[vY,xT,GF,DM,cmd0],?_⟩
   simp only[List.flatMap_cons,List.flatMap_nil,List.append_assoc,List.nil_append,vY,xT,GF,DM]
   rw[i1]
  ·rw[rr,if_neg k1] at h;cases h
 ·rw[e] at h ⊢
  by_cases k1:lr 112 l=true
  ·rw[rr,if_pos k1] at h
   have i1:=gk (c:=(cmd0 op)) (p:=112) (l:=l) (by unfold L9;decide) k1
   rw[rr] at h
   simp only[Option.some.injEq,Prod.mk.injEq] at h
   obtain⟨h1,h2⟩:=h
   subst h1 h2
   simp only[vW,xR,GD,DK] at i1
   refine⟨by simp only[yv,List.all_cons,List.all_nil,vW,xR,GD,DK,cmd0],by simp only[List.foldl_cons,List.foldl_nil,vW,xR,GD,DK,cmd0],by simp only[vW,xR,GD,DK,cmd0],?_⟩
   simp only[List.flatMap_cons,List.flatMap_nil,List.append_assoc,List.nil_append,vW,xR,GD,DK]
   rw[i1]
  ·rw[rr,if_neg k1] at h;cases h
 ·rw[e] at h ⊢
  by_cases k1:lr 107 l=true
  ·rw[rr,if_pos k1] at h
   have i1:=gk (c:=(cmd0 op)) (p:=107) (l:=l) (by unfold L9;decide) k1
   by_cases k2:lr 99 (dh 107 l)=true
   ·rw[rr,if_pos k2] at h
    have i2:=gk (c:=(fF (cmd0 op) 107 l)) (p:=99) (l:=(dh 107 l)) (by unfold L9;decide) k2
    rw[rr] at h
    simp only[Option.some.injEq,Prod.mk.injEq] at h
    obtain⟨h1,h2⟩:=h
    subst h1 h2
    simp only[ez,eD,gJ,gD,s3,tA,CM,Bz] at i1
    simp only[ez,eD,gJ,gD,s3,tA,CM,Bz] at i2
    refine⟨by simp only[yv,List.all_cons,List.all_nil,ez,eD,gJ,gD,s3,tA,CM,Bz,cmd0],by simp only[List.foldl_cons,List.foldl_nil,ez,eD,gJ,gD,s3,tA,CM,Bz,cmd0],by simp only[ez,eD,gJ,gD,s3,tA,CM,Bz,cmd0],?_⟩
    simp only[List.flatMap_cons,List.flatMap_nil,List.append_assoc,List.nil_append,ez,eD,gJ,gD,s3,tA,CM,Bz]
    rw[i2,i1]
   ·rw[rr,if_neg k2] at h;cases h
  ·rw[rr,if_neg k1] at h;cases h
 ·rw[e] at h ⊢
  rw[rr] at h
  simp only[Option.some.injEq,Prod.mk.injEq] at h
  obtain⟨h1,h2⟩:=h
  subst h1 h2
  exact⟨rfl,rfl,rfl,rfl⟩
/-- The real reading, by the reference. -/
theorem Hc (code:UInt8) (l:List UInt8):jO code l=match cZ code l with|some c=>(c,0)|none=>(cmd0 0,6):=by
 have hf:=zF (aZ (code.toNat:Int)) (cmd0 (code.toNat:Int)) l false (DP _)
 have Tm:=code.toNat_lt
 by_cases h1:1≤code.toNat∧code.toNat≤15
 ·cases hr:rr (aZ (code.toNat:Int)) (cmd0 (code.toNat:Int)) l with
  |none=>
   have hn:cZ code l=none:=by unfold cZ;rw[hr]
   have hb:(bg (code.toNat:Int) l).2.2=true:=hf.1 hr
   rw[hn,kG (by rintro⟨_,_,h,_⟩;rw[hb] at h;cases h)]
  |some x=>
   obtain⟨c',q⟩:=x
   obtain⟨n1,n2,n3,n4⟩:=zE hr
   have he:bg (code.toNat:Int) l=(c',q,false|| !yv (aZ (code.toNat:Int)) (cmd0 (code.toNat:Int)) l):=hf.2 c' q hr
   rw[Bool.false_or] at he
   have hv:fd c'=yv (aZ (code.toNat:Int)) (cmd0 (code.toNat:Int)) l:=by
    have ho:c'=eJ c':=by unfold eJ;rw[n3];exact n2.symm
    unfold fd
    rw[decide_eq_true (show 1≤c'.op∧c'.op≤15 by rw[n3];omega),decide_eq_true ho,n3,n1];rfl
   by_cases hq:q.length=0∧fd c'=true
   ·have hn:cZ code l=some c':=by unfold cZ;rw[hr];exact if_pos hq
    have ho:=hq.2
    rw[hv] at ho
    have hq0:q=[]:=List.eq_nil_of_length_eq_zero hq.1
    rw[hn,tM h1.1 h1.2 (by rw[he,ho];rfl) (by rw[he];exact hq0),he]
   ·have hn:cZ code l=none:=by unfold cZ;rw[hr];exact if_neg hq
    rw[hn]
    refine kG ?_
    rintro⟨_,_,h3,h4⟩
    rw[he] at h3 h4
    have ho:fd c'=true:=by rw[hv];simpa using h3
    exact hq ⟨by rw[show q=[] from h4];rfl,ho⟩
 ·have hb:jO code l=(cmd0 0,6):=kG (by rintro⟨a,b,_⟩;exact h1 ⟨a,b⟩)
  rw[hb]
  cases hr:cZ code l with
  |none=>rfl
  |some c=>
   exfalso
   unfold cZ at hr
   split at hr
   ·cases hr
   ·rename_i c' q vu
    split at hr
    ·rename_i hq
     obtain⟨_,_,n3,_⟩:=zE vu
     have:=(ya.1 hq.2).1
     omega
    ·cases hr
end Go.Proofs.YtiighkbehiddkaaGreat
namespace Go.Proofs.YtiighkbehiddkaaGreat
open Go.RowKit
set_option linter.unusedVariables false
set_option maxRecDepth 4000
/-- Where the rows of the reference's connection lie. -/
structure RfP where
 I:Option Addr
 ci:Nat
 O:Option Addr
 co:Nat
 K:Option Addr
 ck:Nat
 V:Option Addr
 cv:Nat
 T:Option Addr
 ct:Nat
 X:Option Addr
 cx:Nat
 xs:List IT
 N:Option Addr
 cn:Nat
def gj (s:Cn) (I O:Value) (ph:Int) (e:Bool) (C R:List Value):List Value:=[.int .i64 (s.ci:Int),.int .i64 (s.co:Int),.int .i64 (s.cp:Int),I,O,.int .i64 ph,.bool e]++(C++R)
def qC (s:Cn) (q:RfP):List Value:=cL s.cmd q.K q.ck q.V q.cv q.T q.ct
def qR (s:Cn) (q:RfP):List Value:=b9 s.ans q.X q.cx q.N q.cn
def ei (s:Cn) (q:RfP):List Value:=gj s (.slice q.I s.held.length q.ci) (.slice q.O s.out.length q.co) (s.ph:Int) s.cl (qC s q) (qR s q)
def Ke:List Value:=[.int .i64 0,.int .i64 0,.int .i64 0,.slice none 0 0,.slice none 0 0,.int .i64 0,.bool false,.int .i64 0,.string (av []),.slice none 0 0,.slice none 0 0,.slice none 0 0,.int .u64 0,.int .u64 0,.string (av []),.string (av []),.string (av []),.int .i64 0,.int .i64 0,.slice none 0 0,.int .u64 0,.int .i64 0,.slice none 0 0]
theorem zP {s:Cn} {I O:Value} {ph:Int} {e:Bool} {C R:List Value} (h:(I.oneCell'&&O.oneCell'&&C.all (·.oneCell')&&R.all (·.oneCell'))=true):∀u∈gj s I O ph e C R,u.oneCell'=true:=by
 simp only[Bool.and_eq_true,List.all_eq_true] at h
 intro u hu
 unfold gj at hu
 rcases List.mem_append.1 hu with hu|hu
 ·simp only[List.mem_cons,List.not_mem_nil,or_false] at hu
  rcases hu with rfl|rfl|rfl|rfl|rfl|rfl|rfl
  ·rfl
  ·rfl
  ·rfl
  ·exact h.1.1.1
  ·exact h.1.1.2
  ·rfl
  ·rfl
 ·exact(List.mem_append.1 hu).elim (h.1.2 u) (h.2 u)
/-- Held apart from some blocks. -/
def Frz (w:World) (S:List Nat) (P:World→Nat→Nat→Prop):Prop:=∃lo hi,hi≤w.heap.size∧(∀y∈S,y<lo∨hi≤y)∧P w lo hi
def PB (A:Option Addr) (c:Nat) (l:List UInt8) (w:World) (lo hi:Nat):Prop:=RdB w lo hi A c l
def PC (c:Cmd) (q:RfP) (w:World) (lo hi:Nat):Prop:=RdS w lo hi q.K q.ck c.keys∧RdB w lo hi q.V q.cv c.value∧RdS w lo hi q.T q.ct c.tags
def PR (r:Rsp) (q:RfP) (w:World) (lo hi:Nat):Prop:=vals q.xs=r.items∧RdI w lo hi q.X q.cx q.xs∧RdN w lo hi q.N q.cn r.nums
class Stf (P:World→Nat→Nat→Prop):Prop where
 st:∀{w w':World} {lo hi:Nat} {gs:List Nat},P w lo hi→Kp gs w w'→(∀g∈gs,g<lo∨hi≤g)→P w' lo hi
instance (A:Option Addr) (c:Nat) (l:List UInt8):Stf (PB A c l):=⟨fun h k hg=>k.rd h hg⟩
instance (c:Cmd) (q:RfP):Stf (PC c q):=⟨fun h k hg=>⟨k.rd h.1 hg,k.rd h.2.1 hg,k.rd h.2.2 hg⟩⟩
instance (r:Rsp) (q:RfP):Stf (PR r q):=⟨fun h k hg=>⟨h.1,RdI.kp h.2.1 k hg,k.rd h.2.2 hg⟩⟩
section
variable {w w':World} {S S':List Nat} {P:World→Nat→Nat→Prop} {s:Cn} {q:RfP}
theorem Frz.kp [Stf P] (h:Frz w S P) (k:Kp S w w') (hS:∀x∈S',x∈S∨w.heap.size≤x):Frz w' S' P:=by
 obtain⟨lo,hi,h1,h2,h3⟩:=h
 exact⟨lo,hi,Nat.le_trans h1 k.size,fun y hy=>(hS y hy).elim (h2 y) (fun e=>.inr (by omega)),Stf.st h3 k h2⟩
theorem Frz.ext [Stf P] (h:Frz w S P) (e:Ext w w'):Frz w' S P:=h.kp (Kp.of_ext e) fun x hx=>.inl hx
theorem Frz.new {lo:Nat} (hS:∀x∈S,x<lo) (h:P w lo w.heap.size):Frz w S P:=⟨lo,w.heap.size,Nat.le_refl _,fun y hy=>.inl (hS y hy),h⟩
structure RfR (w:World) (S:List Nat) (s:Cn) (q:RfP):Prop where
 i:Frz w S (PB q.I q.ci s.held)
 o:Frz w S (PB q.O q.co s.out)
 c:Frz w S (PC s.cmd q)
 r:Frz w S (PR s.ans q)
theorem RfR.kp (h:RfR w S s q) (k:Kp S w w') (hS:∀x∈S',x∈S∨w.heap.size≤x):RfR w' S' s q:=⟨h.i.kp k hS,h.o.kp k hS,h.c.kp k hS,h.r.kp k hS⟩
theorem RfR.ext (h:RfR w S s q) (e:Ext w w'):RfR w' S s q:=⟨h.i.ext e,h.o.ext e,h.c.ext e,h.r.ext e⟩
/-- What comes out of a step of the reference. -/
def zu (w:World) (S:List Nat) (s:Cn) (mk:Value→Value) (v:Value) (w':World):Prop:=∃q,v=mk (.agg (ei s q).toArray)∧RfR w' S s q∧Ext w w'
theorem Hp (w:World) (S:List Nat):Frz w S (PB none 0 []):=⟨0,0,Nat.zero_le _,fun y _=>.inr (Nat.zero_le _),RdB.nil _ _ _⟩
theorem OT (w:World) (S:List Nat) (op:Int) (I:Option Addr) (ci:Nat) (O:Option Addr) (co:Nat) (X:Option Addr) (cx:Nat) (xs:List IT) (N:Option Addr) (cn:Nat):Frz w S (PC (cmd0 op) ⟨I,ci,O,co,none,0,none,0,none,0,X,cx,xs,N,cn⟩):=
 ⟨0,0,Nat.zero_le _,fun y _=>.inr (Nat.zero_le _),Rd.nil _ _ _ _ _ _ (Nat.zero_le _),RdB.nil _ _ _,Rd.nil _ _ _ _ _ _ (Nat.zero_le _)⟩
theorem Ho (w:World) (S:List Nat) (op er:Int) (I:Option Addr) (ci:Nat) (O:Option Addr) (co:Nat) (K:Option Addr) (ck:Nat) (V:Option Addr) (cv:Nat) (T:Option Addr) (ct:Nat):Frz w S (PR (rspO op er) ⟨I,ci,O,co,K,ck,V,cv,T,ct,none,0,[],none,0⟩):=
 ⟨0,0,Nat.zero_le _,fun y _=>.inr (Nat.zero_le _),rfl,RdI.nil _ _ _,Rd.nil _ _ _ _ _ _ (Nat.zero_le _)⟩
end
theorem tN {w w':World} {S:List Nat} {s:Cn} {q:RfP} (h:RfR w S s q) (hE:Ext w w') (hc:s.cmd=cmd0 0) (hd:List UInt8) (cl:Bool) {A:Option Addr} {c:Nat} (hI:Frz w' S (PB A c hd)) (er:Int) (mk:Value→Value):
  zu w S (sK {s with held:=hd,cl:=cl} (rspO 0 er)) mk (mk (.agg (gj s (.slice A hd.length c) (.slice q.O s.out.length q.co) 3 cl (qC s q) (b9 (rspO 0 er) none 0 none 0)).toArray)) w':=by
 refine⟨⟨A,c,q.O,q.co,q.K,q.ck,q.V,q.cv,q.T,q.ct,none,0,[],none,0⟩,?_,⟨hI,h.o.ext hE,?_,Ho ..⟩,hE⟩
 ·unfold qC;rw[hc];rfl
 ·have h2:=h.c.ext hE
  rw[hc] at h2
  exact h2
theorem zG {w w':World} {S:List Nat} {s:Cn} {q:RfP} (h:RfR w S s q) (hE:Ext w w') {b:List UInt8} (hb:b=s.bs) {ph:Int} (hp:ph=((if s.cl=true then 4 else 1:Nat):Int)) {A:Option Addr} {c:Nat} (hO:Frz w' S (PB A c (s.out++b))) (mk:Value→Value):
  zu w S (kS s) mk (mk (.agg (gj s (.slice q.I s.held.length q.ci) (.slice A (s.out++b).length c) ph s.cl (qC s q) (b9 (rspO 0 0) none 0 none 0)).toArray)) w':=by
 subst hb hp
 exact⟨⟨q.I,q.ci,A,c,q.K,q.ck,q.V,q.cv,q.T,q.ct,none,0,[],none,0⟩,rfl,⟨h.i.ext hE,hO,h.c.ext hE,Ho ..⟩,hE⟩
theorem zM {w w':World} {S:List Nat} {s:Cn} {q:RfP} (h:RfR w S s q) (hE:Ext w w') (r:Rsp) (X:Option Addr) (cx:Nat) (xs:List IT) (N:Option Addr) (cn:Nat) (hr:Frz w' S (PR r ⟨none,0,none,0,none,0,none,0,none,0,X,cx,xs,N,cn⟩)) (mk:Value→Value):
  zu w S (sK s r) mk (mk (.agg (gj s (.slice q.I s.held.length q.ci) (.slice q.O s.out.length q.co) 3 s.cl (cL (cmd0 0) none 0 none 0 none 0) (b9 r X cx N cn)).toArray)) w':=
 ⟨⟨q.I,q.ci,q.O,q.co,none,0,none,0,none,0,X,cx,xs,N,cn⟩,rfl,⟨h.i.ext hE,h.o.ext hE,OT ..,hr⟩,hE⟩
theorem cH {l:List Value} (h:l.all (·.oneCell')=true:=by exact rfl):∀u∈l,u.oneCell'=true:=List.all_eq_true.1 h
theorem rU (l:List UInt8) (n:Nat):(l.drop n).take (l.length - n)=l.drop n:=by rw[List.take_of_length_le (by rw[List.length_drop];exact Nat.le_refl _)]
/-- What a connection and the reference's keep to. -/
structure RfOk (s:Cn):Prop where
 e:s.cl=true→s.held=[]∧(s.ph=3∨s.ph=4)
 c:s.ph=2∨s.cmd=cmd0 0
 a:s.ph=3→RV s.ans∧RspOk s.ans∧s.bs=cnFr s.ans
theorem Oj {op e:Int} (h1:0≤op) (h2:op≤15) (h3:0<e) (h4:e≤100000):RV (rspO op e):=
 ⟨h1,h2,Int.le_of_lt h3,h4,(fun q=>by have:=q.2;change e=0 at this;omega),(DN (by omega)).symm,rfl,(fun q=>by have:=q.1;change e=0 at this;omega),(fun q=>by have:=q.1;change e=0 at this;omega),by show(0:Int)≤0;decide,by show(0:Int)≤_;decide,Nat.zero_le _⟩
theorem RV.ms {r:Rsp} (h:RV r):∀x∈r.items,0≤x.mark∧x.mark≤9223372036854775807:=fun x hx=>by
 have:=List.all_eq_true.1 h.items x hx
 unfold okV at this
 have:=of_decide_eq_true this
 omega
section
variable {s:Cn}
theorem Kk (i o p:Nat):RfOk (r3 i o p):=⟨(fun h=>by cases h),.inr rfl,(fun h=>by cases h)⟩
theorem Ki (s:Cn) {r:Rsp} (hs:s.cl=true→s.held=[]) (h:RV r) (hr:RspOk r):RfOk (sK s r):=⟨fun e=>⟨hs e,.inl rfl⟩,.inr rfl,fun _=>⟨h,hr,rfl⟩⟩
theorem yo (s:Cn) {n:Int} (hs:s.cl=true→s.held=[]) (h1:0<n:=by decide) (h2:n≤100000:=by decide):RfOk (sK s (rspO 0 n)):=Ki s hs (Oj (by decide) (by decide) h1 h2) (kF _ _)
theorem Km (h:RfOk s) (b:List UInt8):RfOk (cT s b).1:=by
 unfold cT
 split
 ·exact h
 ·rename_i hc
  exact⟨fun e=>absurd e hc,h.c,h.a⟩
theorem OH (h:RfOk s) (n:Int):RfOk (lZ s n).1:=⟨h.e,h.c,h.a⟩
theorem Kj (h:RfOk s) (h3:s.ph=3):RfOk (kS s):=by
 refine⟨fun e=>⟨(h.e e).1,?_⟩,?_,fun e=>?_⟩
 ·exact .inr (if_pos e)
 ·exact .inr (h.c.resolve_left (by omega))
 ·exfalso;have e:(if s.cl=true then 4 else 1)=3:=e;split at e<;>cases e
theorem yn (h:RfOk s) (h1:s.ph=1∨s.ph=2):s.cl=false:=by
 cases e:s.cl with
 |false=>rfl
 |true=>have:=(h.e e).2;omega
theorem zN (h:RfOk s) (h1:s.ph=1):cD s=jS s.cp false s.held:=by unfold cD;rw[yn h (.inl h1)]
theorem Of (h:RfOk s) (h1:s.ph=1) (he:(bJ s.held (s.cp:Int)).2.2=4) (hz:(bJ s.held (s.cp:Int)).2.1=0):b8 s=(s,0):=by
 have hn:=zN h h1
 rw[u2,hz] at hn
 refine(if_pos h1).trans ((Gf (by rw[hn];exact he)).trans ?_)
 unfold xY
 rw[hn,←yn h (.inl h1)]
 rfl
theorem Od (h:RfOk s) (h1:s.ph=1) (he:(bJ s.held (s.cp:Int)).2.2=6):b8 s=(sK {s with held:=s.held.drop 1} (rspO 0 6),2):=by
 have hn:=zN h h1
 rw[AJ he,he] at hn
 refine(if_pos h1).trans ((zg (by rw[hn];exact(by decide:¬6=4)) (by rw[hn];exact(by decide:¬6=0))).trans ?_)
 unfold xY
 rw[hn,←yn h (.inl h1)]
 rfl
theorem Oe (h:RfOk s) (h1:s.ph=1) (he:(bJ s.held (s.cp:Int)).2.2=5):b8 s=(sK {s with cl:=true,held:=[]} (rspO 0 5),2):=by
 have hn:=zN h h1
 rw[AK he,he,List.drop_length] at hn
 refine(if_pos h1).trans ((zg (by rw[hn];exact(by decide:¬5=4)) (by rw[hn];exact(by decide:¬5=0))).trans ?_)
 unfold xY
 rw[hn]
 rfl
theorem Kb (h:RfOk s) (h1:s.ph=1) (he:(bJ s.held (s.cp:Int)).2.2=0):b8 s=(match cZ (bJ s.held (s.cp:Int)).1.1 (bJ s.held (s.cp:Int)).1.2 with
  |some c=>({s with held:=s.held.drop (bJ s.held (s.cp:Int)).2.1,cmd:=c,ph:=2},1)|none=>(sK {s with held:=s.held.drop (bJ s.held (s.cp:Int)).2.1} (rspO 0 6),2)):=by
 have hn:=zN h h1
 rw[u2,he] at hn
 have hc:sM s=jO (bJ s.held (s.cp:Int)).1.1 (bJ s.held (s.cp:Int)).1.2:=by unfold sM;rw[hn]
 rw[Hc] at hc
 refine(if_pos h1).trans ?_
 cases hr:cZ (bJ s.held (s.cp:Int)).1.1 (bJ s.held (s.cp:Int)).1.2 with
 |none=>
  rw[hr] at hc
  refine(Ge (by rw[hn];exact(by decide:¬0=4)) (by rw[hn]) (by rw[hc];decide)).trans ?_
  unfold xY
  rw[hn,hc,←yn h (.inl h1)]
  rfl
 |some c=>
  rw[hr] at hc
  refine(Gd (by rw[hn];exact(by decide:¬0=4)) (by rw[hn]) (by rw[hc])).trans ?_
  unfold xY
  rw[hn,hc,←yn h (.inl h1)]
theorem Og (h:s.ph=2):b8 s=(s,3):=(if_neg (by omega)).trans (if_pos h)
theorem Oc (h:s.ph=4):b8 s=(s,0):=(if_neg (by omega)).trans ((if_neg (by omega)).trans (if_pos h))
theorem Jm (h:s.ph=3) (hl:s.co - s.out.length<s.bs.length):b8 s=(s,5):=(if_neg (by omega)).trans ((if_neg (by omega)).trans ((if_neg (by omega)).trans (if_pos hl)))
theorem C9 (h:s.ph=3) (hl:¬s.co - s.out.length<s.bs.length):b8 s=(kS s,4):=(if_neg (by omega)).trans ((if_neg (by omega)).trans ((if_neg (by omega)).trans (if_neg hl)))
theorem tP (h:RfOk s) (hk:CnOk s):RfOk (b8 s).1:=by
 have h1:=hk.h1
 have h4:=hk.h4
 by_cases e1:s.ph=1
 ·have hf:=yn h (.inl e1)
  rcases mO s.held hk.p2 with⟨he,_⟩|⟨he,_,hz,_⟩|⟨he,_⟩|⟨he,_⟩
  ·rw[Kb h e1 he]
   split
   ·exact⟨fun e=>absurd (hf.symm.trans e) (by decide),.inl rfl,fun e=>absurd e (by show¬2=3;decide)⟩
   ·exact yo _ (fun e=>absurd (hf.symm.trans e) (by decide))
  ·rw[Of h e1 he hz];exact h
  ·rw[Oe h e1 he];exact yo _ (fun _=>rfl)
  ·rw[Od h e1 he];exact yo _ (fun e=>absurd (hf.symm.trans e) (by decide))
 by_cases e2:s.ph=2
 ·rw[Og e2];exact h
 by_cases e4:s.ph=4
 ·rw[Oc e4];exact h
 have e3:s.ph=3:=by omega
 by_cases hl:s.co - s.out.length<s.bs.length
 ·rw[Jm e3 hl];exact h
 ·rw[C9 e3 hl];exact Kj h e3
theorem Kn (h:RfOk s) {r:Rsp} (hr:RspOk r):RfOk (dG s r).1:=by
 unfold dG
 split
 ·exact h
 ·rename_i h2
  have hf:=yn h (.inr (Classical.not_not.1 h2))
  split
  ·exact h
  ·rename_i hn
   have hv:RV r:=(x0 hr).1 (Classical.not_not.1 fun e=>hn (.inl e))
   split
   ·exact Ki _ (fun e=>absurd (hf.symm.trans e) (by decide)) (Oj hv.o1 hv.o2 (by decide) (by decide)) (kF _ _)
   ·exact Ki _ (fun e=>absurd (hf.symm.trans e) (by decide)) hv hr
end
/-- A connection and the reference's, apart from each other and from some blocks. -/
structure PlS (w:World) (Z:List Nat) (g:Nat) (S:List Nat) (a b:Nat) (s t:Cn) (q:RfP):Prop where
 con:Cnn w g S a b s
 rf:RfR w (Z++S) t q
 zs:∀z∈Z,z<w.heap.size∧z∉S∧(z<a∨b≤z)
section
variable {w w1:World} {Z Z' S:List Nat} {g a b:Nat} {s s1 t t1:Cn} {q:RfP}
theorem PlS.hS (h:PlS w Z g S a b s t q):∀x∈Z++S,x<w.heap.size:=fun x hx=>(List.mem_append.1 hx).elim (fun h1=>(h.zs x h1).1) (fun h1=>(h.con.bnd.1 x h1).1)
theorem PlS.kz (h:PlS w Z g S a b s t q) (k:Kp Z w w1):PlS w1 Z g S a b s t q:=
 ⟨h.con.kp k fun x hx=>(h.zs x hx).2,h.rf.kp (k.sub fun x hx=>.inl (List.mem_append_left _ hx)) fun x hx=>.inl hx,fun z hz=>⟨Nat.lt_of_lt_of_le (h.zs z hz).1 k.size,(h.zs z hz).2⟩⟩
theorem PlS.zone (h:PlS w Z g S a b s t q) (e:Ext w w1) (hZ:∀z∈Z',w.heap.size≤z∧z<w1.heap.size):PlS w1 (Z'++Z) g S a b s t q:=by
 refine⟨h.con.ext e,h.rf.kp (Kp.of_ext e) fun x hx=>?_,fun z hz=>?_⟩
 ·rw[List.append_assoc] at hx
  exact(List.mem_append.1 hx).elim (fun h1=>.inr (hZ x h1).1) .inl
 ·rcases List.mem_append.1 hz with h1|h1
  ·have h2:=hZ z h1
   exact⟨h2.2,fun h3=>by have:=(h.con.bnd.1 z h3).1;omega,.inr (by have:=h.con.bnd.2;omega)⟩
  ·exact⟨Nat.lt_of_lt_of_le (h.zs z h1).1 e.size,(h.zs z h1).2⟩
theorem PlS.less (h:PlS w (Z'++Z) g S a b s t q):PlS w Z g S a b s t q:=
 ⟨h.con,h.rf.kp (Kp.refl _ _) fun x hx=>.inl (by rw[List.append_assoc];exact List.mem_append_right _ hx),fun z hz=>h.zs z (List.mem_append_right _ hz)⟩
theorem PlS.step (h:PlS w Z g S a b s t q) (ht:CnTo w w1 g S a b s1):∃S1 a1 b1,PlS w1 Z g S1 a1 b1 s1 t q∧Kp S w w1∧∀x∈S1,x∈S∨w.heap.size≤x:=by
 obtain⟨S1,a1,b1,hc,hk,hS,Xe⟩:=ht
 refine⟨S1,a1,b1,⟨hc,h.rf.kp (hk.sub fun x hx=>.inl (List.mem_append_right _ hx)) fun x hx=>?_,fun z hz=>?_⟩,hk,hS⟩
 ·exact(List.mem_append.1 hx).elim (fun h1=>.inl (List.mem_append_left _ h1)) (fun h1=>(hS x h1).imp (List.mem_append_right _) id)
 ·obtain⟨h1,h2,h3⟩:=h.zs z hz
  refine⟨Nat.lt_of_lt_of_le h1 hk.size,fun h4=>(hS z h4).elim h2 (by omega),?_⟩
  rcases Xe with⟨rfl,rfl⟩|h5
  ·exact h3
  ·exact .inl (by omega)
theorem PlS.ref {mk:Value→Value} {v:Value} (h:PlS w Z g S a b s t q) (ht:zu w (Z++S) t1 mk v w1):∃q1,v=mk (.agg (ei t1 q1).toArray)∧PlS w1 Z g S a b s t1 q1∧Ext w w1:=by
 obtain⟨q1,e,hr,hE⟩:=ht
 exact⟨q1,e,⟨h.con.ext hE,hr,fun z hz=>⟨Nat.lt_of_lt_of_le (h.zs z hz).1 hE.size,(h.zs z hz).2⟩⟩,hE⟩
theorem PlS.ref2 {q1:RfP} (h:PlS w Z g S a b s t q) (hr:RfR w1 (Z++S) t1 q1) (hE:Ext w w1):PlS w1 Z g S a b s t1 q1:=
 ⟨h.con.ext hE,hr,fun z hz=>⟨Nat.lt_of_lt_of_le (h.zs z hz).1 hE.size,(h.zs z hz).2⟩⟩
theorem PlS.copy {g1:Nat} {S1:List Nat} (h:PlS w Z g S a b s t q) (hc:Cnn w1 g1 S1 a b s) (hS:∀x∈S1,w.heap.size≤x) (hE:Ext w w1):PlS w1 (S++Z) g1 S1 a b s t q:=by
 refine⟨hc,h.rf.kp (Kp.of_ext hE) fun x hx=>?_,fun z hz=>?_⟩
 ·rcases List.mem_append.1 hx with h1|h1
  ·exact .inl (List.mem_append.2 ((List.mem_append.1 h1).symm))
  ·exact .inr (hS x h1)
 ·have h2:=hE.size
  rcases List.mem_append.1 hz with h1|h1
  ·have h3:=h.con.bnd.1 z h1
   exact⟨by omega,fun h4=>by have:=hS z h4;omega,h3.2⟩
  ·have h3:=h.zs z h1
   exact⟨by omega,fun h4=>by have:=hS z h4;omega,h3.2.2⟩
/-- The cells of a call. -/
def da (wh n:Int) (D:Option Addr) (cd:Nat) (d:List UInt8) (R:List Value):List Value:=[.int .i64 wh,.int .i64 n,.slice D d.length cd]++R
/-- What comes out of a call for both. -/
def Sm (w:World) (Z S:List Nat) (s:Cn) (N:Nat) (v:Value) (w1:World):Prop:=∃g1 S1 a1 b1 s1 q1,v=.tuple #[.pointer (some ⟨g1,0,none⟩),.agg (ei s1 q1).toArray,.bool true]∧PlS w1 Z g1 S1 a1 b1 s1 s1 q1∧RfOk s1∧Kp S w w1∧(∀x∈S1,x∈S∨w.heap.size≤x)∧s1.pt≤s.pt+N∧s1.tk≤s.tk+N
theorem FR {S1:List Nat} {lM:Nat} (h9:∀y∈Z++S,lM≤y) (hw:lM≤w.heap.size) (hZ:∀z∈Z',w.heap.size≤z) (hT:∀x∈S1,x∈S∨w.heap.size≤x):∀y∈(Z'++Z)++S1,lM≤y:=fun y hy=>by
 rcases List.mem_append.1 hy with h1|h1
 ·exact(List.mem_append.1 h1).elim (fun h2=>Nat.le_trans hw (hZ y h2)) (fun h2=>h9 y (List.mem_append_left _ h2))
 ·exact(hT y h1).elim (fun h2=>h9 y (List.mem_append_right _ h2)) (Nat.le_trans hw)
theorem Rz {S1:List Nat} {lo9 lM:Nat} (h9:∀y∈Z++S,lM≤y) (hw:lM≤w.heap.size) (hZ:∀z∈Z',w.heap.size≤z) (hT:∀x∈S1,x∈S∨w.heap.size≤x):∀y∈(Z'++Z)++S1,y<lo9∨lM≤y:=fun y hy=>.inr (FR h9 hw hZ hT y hy)
theorem Kp.rdu {gs:List Nat} {w0:World} {lo hi size n c:Nat} {A:Option Addr} {xs:List Value} (k:Kp gs w0 w1) (h:Rd w0 lo hi size A n c xs) (hg:∀y∈Z++gs,hi≤y):Rd w1 lo hi size A n c xs:=k.rd h fun y hy=>.inr (hg y (List.mem_append_right _ hy))
theorem Kp.rdi {gs:List Nat} {w0:World} {lo hi c:Nat} {A:Option Addr} {xs:List IT} (k:Kp gs w0 w1) (h:RdI w0 lo hi A c xs) (hg:∀y∈Z++gs,hi≤y):RdI w1 lo hi A c xs:=h.kp k fun y hy=>.inr (hg y (List.mem_append_right _ hy))
theorem j2 (s:Cn) (hk:CnOk s):(b8 s).1.pt≤s.pt+2097200∧(b8 s).1.tk=s.tk:=by
 have:=hk.bl
 unfold b8 sL kS
 repeat' split
 all_goals exact⟨by first|exact Nat.le_add_right _ _|(show s.pt+s.bs.length≤_;omega),rfl⟩
theorem CF (s:Cn):(b8 s).1.tk=s.tk:=by
 unfold b8 sL kS
 repeat' split
 all_goals rfl
theorem xK (s:Cn) (r:Rsp):(dG s r).1.pt=s.pt∧(dG s r).1.tk=s.tk:=by
 unfold dG
 repeat' split
 all_goals exact⟨rfl,rfl⟩
theorem oT (s:Cn) (b:List UInt8):(cT s b).1.pt=s.pt∧(cT s b).1.tk=s.tk:=by unfold cT;split<;>exact⟨rfl,rfl⟩
theorem IV (s:Cn) (n:Int):(lZ s n).1.pt=s.pt∧(lZ s n).1.tk≤s.tk+s.out.length:=⟨rfl,Nat.add_le_add_left (AS _ _) _⟩
end
/-- A call that comes. -/
structure AT where
 wh:Int
 n:Int
 D:Option Addr
 cd:Nat
 d:List UInt8
 r:Rsp
 X:Option Addr
 cx:Nat
 xs:List IT
 N:Option Addr
 cn:Nat
def GQ (x:AT):List Value:=da x.wh x.n x.D x.cd x.d (b9 x.r x.X x.cx x.N x.cn)
structure AtOk (W:World) (x:AT):Prop where
 n1:-9223372036854775808≤x.n
 n2:x.n≤9223372036854775807
 hd:RdB W 0 W.heap.size x.D x.cd x.d
 hv:vals x.xs=x.r.items
 hx:RdI W 0 W.heap.size x.X x.cx x.xs
 hn:RdN W 0 W.heap.size x.N x.cn x.r.nums
 ok:LawOk x.r
def few28P (xs:List AT):Prop:=xs.length≤80∧∀x∈xs,x.d.length≤300∧iv x.r=false
instance (xs:List AT):Decidable (few28P xs):=by unfold few28P;infer_instance
theorem x6 {xs:List AT} {k:Nat} {x:AT} (h:xs[k]?=some x) (h1:x.d.length≤300) (h2:iv x.r=false) (ha:∀y∈xs.take k,y.d.length≤300∧iv y.r=false):∀y∈xs.take (k+1),y.d.length≤300∧iv y.r=false:=fun y hy=>by
 rw[List.take_add_one,h] at hy
 rcases List.mem_append.1 hy with e|e
 ·exact ha y e
 ·rw[List.mem_singleton.1 e];exact⟨h1,h2⟩
theorem Dw {s:Cn} (h:RfOk s):jo s.cl s.held=s.held.length:=by
 unfold jo
 split
 ·rename_i e;rw[(h.e e).1];rfl
 ·rfl
/-- Both connections, between two calls. -/
structure PSt where
 g:Nat
 S:List Nat
 a:Nat
 b:Nat
 s:Cn
 q:RfP
end Go.Proofs.YtiighkbehiddkaaGreat
namespace Go.Proofs.YtiighkbehiddkaaGreat
open Go.RowKit
set_option linter.unusedVariables false
set_option maxRecDepth 4000
theorem bQ:jt Tryz.prog 45 23=true:=by kernel_rfl
theorem jG:bB Tryz.prog 45 1=some 3:=by kernel_rfl
theorem k7:bB Tryz.prog 45 2=some 4:=by kernel_rfl
theorem fx:bB Tryz.prog 45 3=some 5:=by kernel_rfl
theorem pK:bB Tryz.prog 45 5=some 7:=by kernel_rfl
theorem pJ:bB Tryz.prog 45 6=some 17:=by kernel_rfl
theorem TP:fj Tryz.prog 45=some [(0,3),(3,1),(4,1),(5,1),(6,1),(7,10),(17,6)]:=by kernel_rfl
theorem gi:(Tryz.prog.info? 45).map (·.size)=some 23:=by kernel_rfl
theorem oi:fV Tryz.prog 45=some (.agg #[(.int .i64 0),(.int .i64 0),(.int .i64 0),(.slice none 0 0),(.slice none 0 0),(.int .i64 0),(.bool false),(.int .i64 0),(.string (av [])),(.slice none 0 0),(.slice none 0 0),(.slice none 0 0),(.int .u64 0),(.int .u64 0),(.string (av [])),(.string (av [])),(.string (av [])),(.int .i64 0),(.int .i64 0),(.slice none 0 0),(.int .u64 0),(.int .i64 0),(.slice none 0 0)]):=by kernel_rfl
theorem BC (w:World) (g:Nat) (S:List Nat) (a b:Nat) (s:Cn) (hc:Cnn w g S a b s) (ki ko kp:Int) (rin:List UInt8) (Ai:Option Addr) (ai:Nat) (rout:List UInt8) (Ao:Option Addr) (ao:Nat) (ph:Nat) (en:Bool) (rcm:Cmd) (lo2 eO:Nat) (K2:Option Addr) (ck2:Nat) (V2:Option Addr) (cv2:Nat) (T2:Option Addr) (ct2:Nat) (gN:RdS w lo2 eO K2 ck2 rcm.keys) (kP:RdB w lo2 eO V2 cv2 rcm.value) (kQ:RdS w lo2 eO T2 ct2 rcm.tags) (rr:Rsp) (xs3:List IT) (KS:vals xs3=rr.items) (lo3 ti:Nat) (X3:Option Addr) (cx3:Nat) (N3:Option Addr) (cn3:Nat) (nc:RdI w lo3 ti X3 cx3 xs3) (li:RdN w lo3 ti N3 cn3 rr.nums) (e1:jo s.cl s.held=rin.length) (e2:s.out.length=rout.length) (e3:s.ph=ph) (e4:s.ph=2→s.cmd=rcm) (e5:s.ph=3→s.ans=rr) (h:ph=2):
  Fn Tryz.prog 14 #[(.pointer (some ⟨g,0,none⟩)),(.agg #[(.int .i64 ki),(.int .i64 ko),(.int .i64 kp),(.slice Ai rin.length ai),(.slice Ao rout.length ao),(.int .i64 (↑ph:Int)),(.bool en),(.int .i64 rcm.op),(.string (av rcm.key)),(.slice K2 rcm.keys.length ck2),(.slice V2 rcm.value.length cv2),(.slice T2 rcm.tags.length ct2),(.int .u64 (↑rcm.life:Int)),(.int .u64 (↑rcm.ver:Int)),(.string (av rcm.tag)),(.string (av rcm.pre)),(.string (av rcm.child)),(.int .i64 rr.op),(.int .i64 rr.err),(.slice X3 rr.items.length cx3),(.int .u64 (↑rr.ver:Int)),(.int .i64 rr.count),(.slice N3 rr.nums.length cn3)])] w (fun v w'=>v=.bool true∧Ext w w'):=by
 have hE:=aP w
 replace gN:=gN.top
 replace kP:=kP.top
 replace kQ:=kQ.top
 have xA:(∀x∈S,x<w.heap.size)∧b≤w.heap.size:=⟨fun x hx=>(hc.bnd.1 x hx).1,hc.bnd.2⟩
 have eO:fe s 2=0:=if_pos (by omega)
 have jE:bX s=rcm:=(if_pos (by omega)).trans (e4 (by omega))
 have ti:fe s 3=8:=if_neg (by omega)
 have Lx:dp s=rspO 0 0:=if_neg (by omega)
 refine aO Tryz.func14 ?_
 refine af (aa ?_)
 refine ar (bU) ?_
 rintro v w1 ⟨g3,rfl,aM,d7,sy,su⟩
 replace hc:=hc.ext d7
 replace gN:=gN.ext d7
 replace kP:=kP.ext d7
 replace kQ:=kQ.ext d7
 replace hE:=hE.tr d7
 refine va ?_
 refine ag (ae (af (aa ?_)))
 refine vm ?_
 refine ar (aw I2 (qg _ _ S a b s hc)) ?_
 rintro v w2 ⟨rfl,ik⟩
 replace hc:=hc.ext ik
 replace gN:=gN.ext ik
 replace kP:=kP.ext ik
 replace kQ:=kQ.ext ik
 replace hE:=hE.tr ik
 replace aM:=aM.ext ik
 have ub:=ik.size
 refine vm ?_
 iterate 2 refine vx ?_
 iterate 2 refine va ?_
 refine ag (ae (af (af ?_)))
 refine cC ej 17 [(16,a0 (.int .i64 (↑(jo s.cl s.held):Int))),(17,a0 (.pointer (some ⟨g3,3,none⟩))),(18,a0 (.slice Ai rin.length ai)),(19,a0 (.int .i64 (↑rin.length:Int))),(20,a0 (.bool false)),(21,a0 (.bool false)),(22,a0 (.int .i64 (↑s.out.length:Int))),(23,a0 (.pointer (some ⟨g3,4,none⟩))),(24,a0 (.slice Ao rout.length ao)),(25,a0 (.int .i64 (↑rout.length:Int))),(26,a0 (.bool false)),(27,a0 (.bool false)),(28,a0 (.bool false)),(29,a0 (.pointer (some ⟨g,0,none⟩))),(30,a0 (.int .i64 (↑s.ph:Int))),(31,a0 (.pointer (some ⟨g3,5,none⟩))),(32,a0 (.int .i64 (↑ph:Int)))] [[],[],[1],[2],[0,3],[4],[5],[5],[5,7],[5,8],[5,6,9],[5,10],[11],[12],[12,13],[12],[12,15]] _ [] [] (fun _ _ h=>h) trivial (by kernel_rfl) rfl ?_ ?_
 ·repeat' apply And.intro
  all_goals first|exact trivial|(intro wd bW;replace aM:=aM.ext bW;replace hc:=hc.ext bW;(repeat rintro _ rfl))
  exact am (ax (aF))
  exact am (ax (ah jG))
  exact am (ax (ak dc aM))
  exact am (ax (bj Tryz.underlying32))
  exact am (fL (bS))
  exact am (ax (aF))
  exact bn (ax (aF))
  exact bn (ax (ah k7))
  exact bn (ax (ak dc aM))
  exact bn (ax (bj Tryz.underlying32))
  exact bn (fL (bS))
  exact am (ax (ap))
  exact am (ax (aF))
  exact bn (ax (aF))
  ·refine bn (OpRun.mono (aw Gj (oE _ _ S a b s hc)) ?_)
   rintro v w3 ⟨rfl,qc⟩
   exact⟨rfl,qc⟩
  exact bn (ax (ah fx))
  exact bn (ax (ak mb aM))
 ·intro wf2 mC
  replace hc:=hc.ext mC
  replace gN:=gN.ext mC
  replace kP:=kP.ext mC
  replace kQ:=kQ.ext mC
  replace hE:=hE.tr mC
  replace aM:=aM.ext mC
  have D8:=mC.size
  iterate 17 rintro _ rfl
  refine aj (bS) ?_
  refine aN (d:=33) rfl (bf (by omega)) ?_
  refine ab (ap) ?_
  refine ag (ae ?_)
  refine aC ?_
  refine aS (ae (af (aa ?_)))
  refine vm ?_
  refine ar (aw I4 (z1 _ _ S a b s hc)) ?_
  rintro v w3 ⟨K37,ck37,V37,cv37,T37,ct37,rfl,mM,mJ,mK,fv⟩
  replace hc:=hc.ext fv
  replace gN:=gN.ext fv
  replace kP:=kP.ext fv
  replace kQ:=kQ.ext fv
  replace hE:=hE.tr fv
  replace aM:=aM.ext fv
  have t9:=fv.size
  refine vm ?_
  iterate 2 refine vx ?_
  refine ar (bc (cs:=[(.int .i64 0),(.string (av [])),(.slice none 0 0),(.slice none 0 0),(.slice none 0 0),(.int .u64 0),(.int .u64 0),(.string (av [])),(.string (av [])),(.string (av []))]) fl) ?_
  rintro v w4 ⟨g7,rfl,be,eS,Ia,HL⟩
  replace hc:=hc.ext eS
  replace gN:=gN.ext eS
  replace kP:=kP.ext eS
  replace kQ:=kQ.ext eS
  replace hE:=hE.tr eS
  replace aM:=aM.ext eS
  replace mM:=mM.ext eS
  replace mJ:=mJ.ext eS
  replace mK:=mK.ext eS
  refine aB (aD (vs:=[(.int .i64 (bX s).op),(.string (av (bX s).key)),(.slice K37 (bX s).keys.length ck37),(.slice V37 (bX s).value.length cv37),(.slice T37 (bX s).tags.length ct37),(.int .u64 (↑(bX s).life:Int)),(.int .u64 (↑(bX s).ver:Int)),(.string (av (bX s).tag)),(.string (av (bX s).pre)),(.string (av (bX s).child))]) fy be) ?_
  rintro _ w5 ⟨pE,fB⟩
  have D3:=fB.size
  replace hc:=hc.grf fB xA (by omega)
  replace gN:=gN.gr fB
  replace kP:=kP.gr fB
  replace kQ:=kQ.gr fB
  replace hE:=hE.gr fB
  replace aM:=aM.gr fB
  replace mM:=mM.gr fB
  replace mJ:=mJ.gr fB
  replace mK:=mK.gr fB
  replace be:=pE
  refine va ?_
  refine ag (ae (af (af (aa ?_))))
  refine ab (ah (off:=5) fx) ?_
  refine ab (ak mb aM) ?_
  refine ve ?_
  refine aN (d:=42) rfl (bt (by omega)) ?_
  refine vm ?_
  refine aj (aF) ?_
  refine aj (bS) ?_
  refine aN (d:=45) rfl (bf (by rw[eO];exact fun q=>q rfl)) ?_
  refine aj (aF) ?_
  refine aj (aK (cs:=[(.int .i64 (bX s).op),(.string (av (bX s).key)),(.slice K37 (bX s).keys.length ck37),(.slice V37 (bX s).value.length cv37),(.slice T37 (bX s).tags.length ct37),(.int .u64 (↑(bX s).life:Int)),(.int .u64 (↑(bX s).ver:Int)),(.string (av (bX s).tag)),(.string (av (bX s).pre)),(.string (av (bX s).child))]) cc be) ?_
  refine aj (ah pK) ?_
  refine aj (gp (vs:=[(.int .i64 rcm.op),(.string (av rcm.key)),(.slice K2 rcm.keys.length ck2),(.slice V2 rcm.value.length cv2),(.slice T2 rcm.tags.length ct2),(.int .u64 (↑rcm.life:Int)),(.int .u64 (↑rcm.ver:Int)),(.string (av rcm.tag)),(.string (av rcm.pre)),(.string (av rcm.child))]) cc rfl aM rfl) ?_
  refine bP (aw zk (iJ _ (bX s) _ _ K37 ck37 V37 cv37 T37 ct37 mM mJ mK rcm _ _ K2 ck2 V2 cv2 T2 ct2 gN kP kQ)) ?_
  rintro v w6 ⟨rfl,Iq⟩
  replace hc:=hc.ext Iq
  replace hE:=hE.tr Iq
  replace aM:=aM.ext Iq
  have SZ:=Iq.size
  refine aN (d:=50) rfl (bt (jE)) ?_
  refine aj (b6) ?_
  refine aj (ap) ?_
  refine ab (ay) ?_
  refine vm ?_
  refine aj (ah fx) ?_
  refine aj (ak mb aM) ?_
  refine aj (bS) ?_
  refine aN (d:=57) rfl (bf (by omega)) ?_
  refine aj (aF) ?_
  iterate 3 refine aA ?_
  iterate 4 refine cN ?_
  refine aA ?_
  refine aj (ap) ?_
  refine ab (ap) ?_
  refine ag (ae ?_)
  refine aC ?_
  refine aS (ae (af (aa ?_)))
  refine vm ?_
  refine ar (aw I3 (zY _ _ S a b s hc)) ?_
  rintro v w7 ⟨X71,cx71,N71,cn71,xs71,rfl,Ee,mt,mx,py⟩
  replace hE:=hE.tr py
  replace aM:=aM.ext py
  have z3:=py.size
  refine vm ?_
  iterate 2 refine vx ?_
  refine ar (bc (cs:=[(.int .i64 0),(.int .i64 0),(.slice none 0 0),(.int .u64 0),(.int .i64 0),(.slice none 0 0)]) fQ) ?_
  rintro v w8 ⟨g9,rfl,ia,ii,NQ,Td⟩
  replace hE:=hE.tr ii
  replace aM:=aM.ext ii
  replace mt:=RdI.ext mt ii
  replace mx:=mx.ext ii
  refine aB (aD (vs:=[(.int .i64 (dp s).op),(.int .i64 (dp s).err),(.slice X71 (dp s).items.length cx71),(.int .u64 (↑(dp s).ver:Int)),(.int .i64 (dp s).count),(.slice N71 (dp s).nums.length cn71)]) fm ia) ?_
  rintro _ w9 ⟨uQ,lk⟩
  replace hE:=hE.gr lk
  replace aM:=aM.gr lk
  replace mt:=RdI.gr mt lk (fun _ e=>by cases e;omega)
  replace mx:=mx.gr lk
  replace ia:=uQ
  refine va ?_
  refine ag (ae (af (af (aa ?_))))
  refine ab (ah fx) ?_
  refine ab (ak mb aM) ?_
  refine ve ?_
  refine aN (d:=76) rfl (bf (by omega)) ?_
  refine ag (ae ?_)
  refine aC ?_
  refine aS (ae (af (aa ?_)))
  refine vm ?_
  refine ve ?_
  refine aN (d:=86) rfl (bt (by rw[ti];rfl)) ?_
  refine vm ?_
  refine aj (aK (cs:=[(.int .i64 (dp s).op),(.int .i64 (dp s).err),(.slice X71 (dp s).items.length cx71),(.int .u64 (↑(dp s).ver:Int)),(.int .i64 (dp s).count),(.slice N71 (dp s).nums.length cn71)]) bZ ia) ?_
  refine aj (bi fQ j6) ?_
  refine bP (aw u7 (j5 _ (dp s) xs71 Ee _ _ X71 cx71 N71 cn71 mt mx (rspO 0 0) [] rfl 0 0 none 0 none 0 (RdI.nil _ 0 0) (Rd.nil _ _ _ _ _ _ (Nat.zero_le _)))) ?_
  rintro v w10 ⟨rfl,rA⟩
  replace hE:=hE.tr rA
  refine aN (d:=90) rfl (bt (Lx)) ?_
  refine ab (ay) ?_
  refine va ?_
  refine ag (ae (aE ?_))
  refine aY ?_
  exact⟨rfl,hE⟩
theorem BB (w:World) (g:Nat) (S:List Nat) (a b:Nat) (s:Cn) (hc:Cnn w g S a b s) (ki ko kp:Int) (rin:List UInt8) (Ai:Option Addr) (ai:Nat) (rout:List UInt8) (Ao:Option Addr) (ao:Nat) (ph:Nat) (en:Bool) (rcm:Cmd) (lo2 eO:Nat) (K2:Option Addr) (ck2:Nat) (V2:Option Addr) (cv2:Nat) (T2:Option Addr) (ct2:Nat) (gN:RdS w lo2 eO K2 ck2 rcm.keys) (kP:RdB w lo2 eO V2 cv2 rcm.value) (kQ:RdS w lo2 eO T2 ct2 rcm.tags) (rr:Rsp) (xs3:List IT) (KS:vals xs3=rr.items) (lo3 ti:Nat) (X3:Option Addr) (cx3:Nat) (N3:Option Addr) (cn3:Nat) (nc:RdI w lo3 ti X3 cx3 xs3) (li:RdN w lo3 ti N3 cn3 rr.nums) (e1:jo s.cl s.held=rin.length) (e2:s.out.length=rout.length) (e3:s.ph=ph) (e4:s.ph=2→s.cmd=rcm) (e5:s.ph=3→s.ans=rr) (h:ph=3):
  Fn Tryz.prog 14 #[(.pointer (some ⟨g,0,none⟩)),(.agg #[(.int .i64 ki),(.int .i64 ko),(.int .i64 kp),(.slice Ai rin.length ai),(.slice Ao rout.length ao),(.int .i64 (↑ph:Int)),(.bool en),(.int .i64 rcm.op),(.string (av rcm.key)),(.slice K2 rcm.keys.length ck2),(.slice V2 rcm.value.length cv2),(.slice T2 rcm.tags.length ct2),(.int .u64 (↑rcm.life:Int)),(.int .u64 (↑rcm.ver:Int)),(.string (av rcm.tag)),(.string (av rcm.pre)),(.string (av rcm.child)),(.int .i64 rr.op),(.int .i64 rr.err),(.slice X3 rr.items.length cx3),(.int .u64 (↑rr.ver:Int)),(.int .i64 rr.count),(.slice N3 rr.nums.length cn3)])] w (fun v w'=>v=.bool true∧Ext w w'):=by
 have hE:=aP w
 replace nc:=nc.top
 replace li:=Rd.top li
 have xA:(∀x∈S,x<w.heap.size)∧b≤w.heap.size:=⟨fun x hx=>(hc.bnd.1 x hx).1,hc.bnd.2⟩
 have eO:fe s 2=8:=if_neg (by omega)
 have jE:bX s=cmd0 0:=if_neg (by omega)
 have ti:fe s 3=0:=if_pos (by omega)
 have Lx:dp s=rr:=(if_pos (by omega)).trans (e5 (by omega))
 refine aO Tryz.func14 ?_
 refine af (aa ?_)
 refine ar (bU) ?_
 rintro v w1 ⟨g3,rfl,aM,d7,sy,su⟩
 replace hc:=hc.ext d7
 replace nc:=RdI.ext nc d7
 replace li:=li.ext d7
 replace hE:=hE.tr d7
 refine va ?_
 refine ag (ae (af (aa ?_)))
 refine vm ?_
 refine ar (aw I2 (qg _ _ S a b s hc)) ?_
 rintro v w2 ⟨rfl,ik⟩
 replace hc:=hc.ext ik
 replace nc:=RdI.ext nc ik
 replace li:=li.ext ik
 replace hE:=hE.tr ik
 replace aM:=aM.ext ik
 have ub:=ik.size
 refine vm ?_
 iterate 2 refine vx ?_
 iterate 2 refine va ?_
 refine ag (ae (af (af ?_)))
 refine cC ej 17 [(16,a0 (.int .i64 (↑(jo s.cl s.held):Int))),(17,a0 (.pointer (some ⟨g3,3,none⟩))),(18,a0 (.slice Ai rin.length ai)),(19,a0 (.int .i64 (↑rin.length:Int))),(20,a0 (.bool false)),(21,a0 (.bool false)),(22,a0 (.int .i64 (↑s.out.length:Int))),(23,a0 (.pointer (some ⟨g3,4,none⟩))),(24,a0 (.slice Ao rout.length ao)),(25,a0 (.int .i64 (↑rout.length:Int))),(26,a0 (.bool false)),(27,a0 (.bool false)),(28,a0 (.bool false)),(29,a0 (.pointer (some ⟨g,0,none⟩))),(30,a0 (.int .i64 (↑s.ph:Int))),(31,a0 (.pointer (some ⟨g3,5,none⟩))),(32,a0 (.int .i64 (↑ph:Int)))] [[],[],[1],[2],[0,3],[4],[5],[5],[5,7],[5,8],[5,6,9],[5,10],[11],[12],[12,13],[12],[12,15]] _ [] [] (fun _ _ h=>h) trivial (by kernel_rfl) rfl ?_ ?_
 ·repeat' apply And.intro
  all_goals first|exact trivial|(intro wd bW;replace aM:=aM.ext bW;replace hc:=hc.ext bW;(repeat rintro _ rfl))
  exact am (ax (aF))
  exact am (ax (ah jG))
  exact am (ax (ak dc aM))
  exact am (ax (bj Tryz.underlying32))
  exact am (fL (bS))
  exact am (ax (aF))
  exact bn (ax (aF))
  exact bn (ax (ah k7))
  exact bn (ax (ak dc aM))
  exact bn (ax (bj Tryz.underlying32))
  exact bn (fL (bS))
  exact am (ax (ap))
  exact am (ax (aF))
  exact bn (ax (aF))
  ·refine bn (OpRun.mono (aw Gj (oE _ _ S a b s hc)) ?_)
   rintro v w3 ⟨rfl,qc⟩
   exact⟨rfl,qc⟩
  exact bn (ax (ah fx))
  exact bn (ax (ak mb aM))
 ·intro wf2 mC
  replace hc:=hc.ext mC
  replace nc:=RdI.ext nc mC
  replace li:=li.ext mC
  replace hE:=hE.tr mC
  replace aM:=aM.ext mC
  have D8:=mC.size
  iterate 17 rintro _ rfl
  refine aj (bS) ?_
  refine aN (d:=33) rfl (bf (by omega)) ?_
  refine ab (ap) ?_
  refine ag (ae ?_)
  refine aC ?_
  refine aS (ae (af (aa ?_)))
  refine vm ?_
  refine ar (aw I4 (z1 _ _ S a b s hc)) ?_
  rintro v w3 ⟨K37,ck37,V37,cv37,T37,ct37,rfl,mM,mJ,mK,fv⟩
  replace hc:=hc.ext fv
  replace nc:=RdI.ext nc fv
  replace li:=li.ext fv
  replace hE:=hE.tr fv
  replace aM:=aM.ext fv
  have t9:=fv.size
  refine vm ?_
  iterate 2 refine vx ?_
  refine ar (bc (cs:=[(.int .i64 0),(.string (av [])),(.slice none 0 0),(.slice none 0 0),(.slice none 0 0),(.int .u64 0),(.int .u64 0),(.string (av [])),(.string (av [])),(.string (av []))]) fl) ?_
  rintro v w4 ⟨g7,rfl,be,eS,Ia,HL⟩
  replace hc:=hc.ext eS
  replace nc:=RdI.ext nc eS
  replace li:=li.ext eS
  replace hE:=hE.tr eS
  replace aM:=aM.ext eS
  replace mM:=mM.ext eS
  replace mJ:=mJ.ext eS
  replace mK:=mK.ext eS
  refine aB (aD (vs:=[(.int .i64 (bX s).op),(.string (av (bX s).key)),(.slice K37 (bX s).keys.length ck37),(.slice V37 (bX s).value.length cv37),(.slice T37 (bX s).tags.length ct37),(.int .u64 (↑(bX s).life:Int)),(.int .u64 (↑(bX s).ver:Int)),(.string (av (bX s).tag)),(.string (av (bX s).pre)),(.string (av (bX s).child))]) fy be) ?_
  rintro _ w5 ⟨pE,fB⟩
  have D3:=fB.size
  replace hc:=hc.grf fB xA (by omega)
  replace nc:=RdI.gr nc fB (fun _ e=>by cases e;omega)
  replace li:=li.gr fB
  replace hE:=hE.gr fB
  replace aM:=aM.gr fB
  replace mM:=mM.gr fB
  replace mJ:=mJ.gr fB
  replace mK:=mK.gr fB
  replace be:=pE
  refine va ?_
  refine ag (ae (af (af (aa ?_))))
  refine ab (ah fx) ?_
  refine ab (ak mb aM) ?_
  refine ve ?_
  refine aN (d:=42) rfl (bf (by omega)) ?_
  refine vm ?_
  iterate 3 refine aA ?_
  iterate 5 refine cN ?_
  refine aA ?_
  refine ab (ap) ?_
  refine vm ?_
  refine aj (ah fx) ?_
  refine aj (ak mb aM) ?_
  refine aj (bS) ?_
  refine aN (d:=57) rfl (bt (by omega)) ?_
  iterate 2 refine aj (aF) ?_
  refine aj (bS) ?_
  refine aN (d:=60) rfl (bf (by rw[eO];exact fun q=>q rfl)) ?_
  refine aj (aF) ?_
  refine aj (aK (cs:=[(.int .i64 (bX s).op),(.string (av (bX s).key)),(.slice K37 (bX s).keys.length ck37),(.slice V37 (bX s).value.length cv37),(.slice T37 (bX s).tags.length ct37),(.int .u64 (↑(bX s).life:Int)),(.int .u64 (↑(bX s).ver:Int)),(.string (av (bX s).tag)),(.string (av (bX s).pre)),(.string (av (bX s).child))]) cc be) ?_
  refine aj (bi fl lf) ?_
  refine bP (aw zk (iJ _ (bX s) _ _ K37 ck37 V37 cv37 T37 ct37 mM mJ mK (⟨0,[],[],[],[],0,0,[],[],[]⟩:Cmd) 0 0 none 0 none 0 none 0 (Rd.nil _ 0 _ _ _ _ (Nat.zero_le _)) (Rd.nil _ 0 _ _ _ _ (Nat.zero_le _)) (Rd.nil _ 0 _ _ _ _ (Nat.zero_le _)))) ?_
  rintro v w6 ⟨rfl,n7⟩
  replace hc:=hc.ext n7
  replace nc:=RdI.ext nc n7
  replace li:=li.ext n7
  replace hE:=hE.tr n7
  replace aM:=aM.ext n7
  have Hz:=n7.size
  refine aN (d:=64) rfl (bt (jE)) ?_
  refine aj (b6) ?_
  refine aj (ap) ?_
  refine aj (ay) ?_
  refine ab (ap) ?_
  refine ag (ae ?_)
  refine aC ?_
  refine aS (ae (af (aa ?_)))
  refine vm ?_
  refine ar (aw I3 (zY _ _ S a b s hc)) ?_
  rintro v w7 ⟨X71,cx71,N71,cn71,xs71,rfl,Ee,mt,mx,py⟩
  replace nc:=RdI.ext nc py
  replace li:=li.ext py
  replace hE:=hE.tr py
  replace aM:=aM.ext py
  have z3:=py.size
  refine vm ?_
  iterate 2 refine vx ?_
  refine ar (bc (cs:=[(.int .i64 0),(.int .i64 0),(.slice none 0 0),(.int .u64 0),(.int .i64 0),(.slice none 0 0)]) fQ) ?_
  rintro v w8 ⟨g9,rfl,ia,ii,NQ,Td⟩
  replace nc:=RdI.ext nc ii
  replace li:=li.ext ii
  replace hE:=hE.tr ii
  replace aM:=aM.ext ii
  replace mt:=RdI.ext mt ii
  replace mx:=mx.ext ii
  refine aB (aD (vs:=[(.int .i64 (dp s).op),(.int .i64 (dp s).err),(.slice X71 (dp s).items.length cx71),(.int .u64 (↑(dp s).ver:Int)),(.int .i64 (dp s).count),(.slice N71 (dp s).nums.length cn71)]) fm ia) ?_
  rintro _ w9 ⟨uQ,lk⟩
  replace nc:=RdI.gr nc lk (fun _ e=>by cases e;omega)
  replace li:=li.gr lk
  replace hE:=hE.gr lk
  replace aM:=aM.gr lk
  replace mt:=RdI.gr mt lk (fun _ e=>by cases e;omega)
  replace mx:=mx.gr lk
  replace ia:=uQ
  refine va ?_
  refine ag (ae (af (af (aa ?_))))
  refine ab (ah fx) ?_
  refine ab (ak mb aM) ?_
  refine ve ?_
  refine aN (d:=76) rfl (bt (by omega)) ?_
  refine ag (ae ?_)
  refine aR ?_
  refine af (aa ?_)
  refine vm ?_
  refine ve ?_
  refine aN (d:=78) rfl (bt (by rw[ti];rfl)) ?_
  refine vm ?_
  refine aj (aK (cs:=[(.int .i64 (dp s).op),(.int .i64 (dp s).err),(.slice X71 (dp s).items.length cx71),(.int .u64 (↑(dp s).ver:Int)),(.int .i64 (dp s).count),(.slice N71 (dp s).nums.length cn71)]) bZ ia) ?_
  refine aj (ah pJ) ?_
  refine aj (gp (vs:=[(.int .i64 rr.op),(.int .i64 rr.err),(.slice X3 rr.items.length cx3),(.int .u64 (↑rr.ver:Int)),(.int .i64 rr.count),(.slice N3 rr.nums.length cn3)]) bZ rfl aM rfl) ?_
  refine bP (aw u7 (j5 _ (dp s) xs71 Ee _ _ X71 cx71 N71 cn71 mt mx rr xs3 KS _ _ X3 cx3 N3 cn3 nc li)) ?_
  rintro v w10 ⟨rfl,lN⟩
  replace hE:=hE.tr lN
  refine aN (d:=83) rfl (bt (Lx)) ?_
  refine ab (ay) ?_
  refine va ?_
  refine ag (ae (aE (az ?_)))
  refine aY ?_
  exact⟨rfl,hE⟩
theorem BD (w:World) (g:Nat) (S:List Nat) (a b:Nat) (s:Cn) (hc:Cnn w g S a b s) (ki ko kp:Int) (rin:List UInt8) (Ai:Option Addr) (ai:Nat) (rout:List UInt8) (Ao:Option Addr) (ao:Nat) (ph:Nat) (en:Bool) (rcm:Cmd) (lo2 eO:Nat) (K2:Option Addr) (ck2:Nat) (V2:Option Addr) (cv2:Nat) (T2:Option Addr) (ct2:Nat) (gN:RdS w lo2 eO K2 ck2 rcm.keys) (kP:RdB w lo2 eO V2 cv2 rcm.value) (kQ:RdS w lo2 eO T2 ct2 rcm.tags) (rr:Rsp) (xs3:List IT) (KS:vals xs3=rr.items) (lo3 ti:Nat) (X3:Option Addr) (cx3:Nat) (N3:Option Addr) (cn3:Nat) (nc:RdI w lo3 ti X3 cx3 xs3) (li:RdN w lo3 ti N3 cn3 rr.nums) (e1:jo s.cl s.held=rin.length) (e2:s.out.length=rout.length) (e3:s.ph=ph) (e4:s.ph=2→s.cmd=rcm) (e5:s.ph=3→s.ans=rr) (h:¬ph=2) (h3:¬ph=3):
  Fn Tryz.prog 14 #[(.pointer (some ⟨g,0,none⟩)),(.agg #[(.int .i64 ki),(.int .i64 ko),(.int .i64 kp),(.slice Ai rin.length ai),(.slice Ao rout.length ao),(.int .i64 (↑ph:Int)),(.bool en),(.int .i64 rcm.op),(.string (av rcm.key)),(.slice K2 rcm.keys.length ck2),(.slice V2 rcm.value.length cv2),(.slice T2 rcm.tags.length ct2),(.int .u64 (↑rcm.life:Int)),(.int .u64 (↑rcm.ver:Int)),(.string (av rcm.tag)),(.string (av rcm.pre)),(.string (av rcm.child)),(.int .i64 rr.op),(.int .i64 rr.err),(.slice X3 rr.items.length cx3),(.int .u64 (↑rr.ver:Int)),(.int .i64 rr.count),(.slice N3 rr.nums.length cn3)])] w (fun v w'=>v=.bool true∧Ext w w'):=by
 have hE:=aP w
 have xA:(∀x∈S,x<w.heap.size)∧b≤w.heap.size:=⟨fun x hx=>(hc.bnd.1 x hx).1,hc.bnd.2⟩
 have eO:fe s 2=8:=if_neg (by omega)
 have jE:bX s=cmd0 0:=if_neg (by omega)
 have ti:fe s 3=8:=if_neg (by omega)
 have Lx:dp s=rspO 0 0:=if_neg (by omega)
 refine aO Tryz.func14 ?_
 refine af (aa ?_)
 refine ar (bU) ?_
 rintro v w1 ⟨g3,rfl,aM,d7,sy,su⟩
 replace hc:=hc.ext d7
 replace hE:=hE.tr d7
 refine va ?_
 refine ag (ae (af (aa ?_)))
 refine vm ?_
 refine ar (aw I2 (qg _ _ S a b s hc)) ?_
 rintro v w2 ⟨rfl,ik⟩
 replace hc:=hc.ext ik
 replace hE:=hE.tr ik
 replace aM:=aM.ext ik
 have ub:=ik.size
 refine vm ?_
 iterate 2 refine vx ?_
 iterate 2 refine va ?_
 refine ag (ae (af (af ?_)))
 refine cC ej 17 [(16,a0 (.int .i64 (↑(jo s.cl s.held):Int))),(17,a0 (.pointer (some ⟨g3,3,none⟩))),(18,a0 (.slice Ai rin.length ai)),(19,a0 (.int .i64 (↑rin.length:Int))),(20,a0 (.bool false)),(21,a0 (.bool false)),(22,a0 (.int .i64 (↑s.out.length:Int))),(23,a0 (.pointer (some ⟨g3,4,none⟩))),(24,a0 (.slice Ao rout.length ao)),(25,a0 (.int .i64 (↑rout.length:Int))),(26,a0 (.bool false)),(27,a0 (.bool false)),(28,a0 (.bool false)),(29,a0 (.pointer (some ⟨g,0,none⟩))),(30,a0 (.int .i64 (↑s.ph:Int))),(31,a0 (.pointer (some ⟨g3,5,none⟩))),(32,a0 (.int .i64 (↑ph:Int)))] [[],[],[1],[2],[0,3],[4],[5],[5],[5,7],[5,8],[5,6,9],[5,10],[11],[12],[12,13],[12],[12,15]] _ [] [] (fun _ _ h=>h) trivial (by kernel_rfl) rfl ?_ ?_
 ·repeat' apply And.intro
  all_goals first|exact trivial|(intro wd bW;replace aM:=aM.ext bW;replace hc:=hc.ext bW;(repeat rintro _ rfl))
  exact am (ax (aF))
  exact am (ax (ah jG))
  exact am (ax (ak dc aM))
  exact am (ax (bj Tryz.underlying32))
  exact am (fL (bS))
  exact am (ax (aF))
  exact bn (ax (aF))
  exact bn (ax (ah k7))
  exact bn (ax (ak dc aM))
  exact bn (ax (bj Tryz.underlying32))
  exact bn (fL (bS))
  exact am (ax (ap))
  exact am (ax (aF))
  exact bn (ax (aF))
  ·refine bn (OpRun.mono (aw Gj (oE _ _ S a b s hc)) ?_)
   rintro v w3 ⟨rfl,qc⟩
   exact⟨rfl,qc⟩
  exact bn (ax (ah fx))
  exact bn (ax (ak mb aM))
 ·intro wf2 mC
  replace hc:=hc.ext mC
  replace hE:=hE.tr mC
  replace aM:=aM.ext mC
  have D8:=mC.size
  iterate 17 rintro _ rfl
  refine aj (bS) ?_
  refine aN (d:=33) rfl (bf (by omega)) ?_
  refine ab (ap) ?_
  refine ag (ae ?_)
  refine aC ?_
  refine aS (ae (af (aa ?_)))
  refine vm ?_
  refine ar (aw I4 (z1 _ _ S a b s hc)) ?_
  rintro v w3 ⟨K37,ck37,V37,cv37,T37,ct37,rfl,mM,mJ,mK,fv⟩
  replace hc:=hc.ext fv
  replace hE:=hE.tr fv
  replace aM:=aM.ext fv
  have t9:=fv.size
  refine vm ?_
  iterate 2 refine vx ?_
  refine ar (bc (cs:=[(.int .i64 0),(.string (av [])),(.slice none 0 0),(.slice none 0 0),(.slice none 0 0),(.int .u64 0),(.int .u64 0),(.string (av [])),(.string (av [])),(.string (av []))]) fl) ?_
  rintro v w4 ⟨g7,rfl,be,eS,Ia,HL⟩
  replace hc:=hc.ext eS
  replace hE:=hE.tr eS
  replace aM:=aM.ext eS
  replace mM:=mM.ext eS
  replace mJ:=mJ.ext eS
  replace mK:=mK.ext eS
  refine aB (aD (vs:=[(.int .i64 (bX s).op),(.string (av (bX s).key)),(.slice K37 (bX s).keys.length ck37),(.slice V37 (bX s).value.length cv37),(.slice T37 (bX s).tags.length ct37),(.int .u64 (↑(bX s).life:Int)),(.int .u64 (↑(bX s).ver:Int)),(.string (av (bX s).tag)),(.string (av (bX s).pre)),(.string (av (bX s).child))]) fy be) ?_
  rintro _ w5 ⟨pE,fB⟩
  have D3:=fB.size
  replace hc:=hc.grf fB xA (by omega)
  replace hE:=hE.gr fB
  replace aM:=aM.gr fB
  replace mM:=mM.gr fB
  replace mJ:=mJ.gr fB
  replace mK:=mK.gr fB
  replace be:=pE
  refine va ?_
  refine ag (ae (af (af (aa ?_))))
  refine ab (ah fx) ?_
  refine ab (ak mb aM) ?_
  refine ve ?_
  refine aN (d:=42) rfl (bf (by omega)) ?_
  refine vm ?_
  iterate 3 refine aA ?_
  iterate 5 refine cN ?_
  refine aA ?_
  refine ab (ap) ?_
  refine vm ?_
  refine aj (ah (off:=5) fx) ?_
  refine aj (ak mb aM) ?_
  refine aj (bS) ?_
  refine aN (d:=57) rfl (bt (by omega)) ?_
  iterate 2 refine aj (aF) ?_
  refine aj (bS) ?_
  refine aN (d:=60) rfl (bf (by rw[eO];exact fun q=>q rfl)) ?_
  refine aj (aF) ?_
  refine aj (aK (cs:=[(.int .i64 (bX s).op),(.string (av (bX s).key)),(.slice K37 (bX s).keys.length ck37),(.slice V37 (bX s).value.length cv37),(.slice T37 (bX s).tags.length ct37),(.int .u64 (↑(bX s).life:Int)),(.int .u64 (↑(bX s).ver:Int)),(.string (av (bX s).tag)),(.string (av (bX s).pre)),(.string (av (bX s).child))]) cc be) ?_
  refine aj (bi fl lf) ?_
  refine bP (aw zk (iJ _ (bX s) _ _ K37 ck37 V37 cv37 T37 ct37 mM mJ mK (⟨0,[],[],[],[],0,0,[],[],[]⟩:Cmd) 0 0 none 0 none 0 none 0 (Rd.nil _ 0 _ _ _ _ (Nat.zero_le _)) (Rd.nil _ 0 _ _ _ _ (Nat.zero_le _)) (Rd.nil _ 0 _ _ _ _ (Nat.zero_le _)))) ?_
  rintro v w6 ⟨rfl,n7⟩
  replace hc:=hc.ext n7
  replace hE:=hE.tr n7
  replace aM:=aM.ext n7
  have Hz:=n7.size
  refine aN (d:=64) rfl (bt (jE)) ?_
  refine aj (b6) ?_
  refine aj (ap) ?_
  refine aj (ay) ?_
  refine ab (ap) ?_
  refine ag (ae ?_)
  refine aC ?_
  refine aS (ae (af (aa ?_)))
  refine vm ?_
  refine ar (aw I3 (zY _ _ S a b s hc)) ?_
  rintro v w7 ⟨X71,cx71,N71,cn71,xs71,rfl,Ee,mt,mx,py⟩
  replace hE:=hE.tr py
  replace aM:=aM.ext py
  have z3:=py.size
  refine vm ?_
  iterate 2 refine vx ?_
  refine ar (bc (cs:=[(.int .i64 0),(.int .i64 0),(.slice none 0 0),(.int .u64 0),(.int .i64 0),(.slice none 0 0)]) fQ) ?_
  rintro v w8 ⟨g9,rfl,ia,ii,NQ,Td⟩
  replace hE:=hE.tr ii
  replace aM:=aM.ext ii
  replace mt:=RdI.ext mt ii
  replace mx:=mx.ext ii
  refine aB (aD (vs:=[(.int .i64 (dp s).op),(.int .i64 (dp s).err),(.slice X71 (dp s).items.length cx71),(.int .u64 (↑(dp s).ver:Int)),(.int .i64 (dp s).count),(.slice N71 (dp s).nums.length cn71)]) fm ia) ?_
  rintro _ w9 ⟨uQ,lk⟩
  replace hE:=hE.gr lk
  replace aM:=aM.gr lk
  replace mt:=RdI.gr mt lk (fun _ e=>by cases e;omega)
  replace mx:=mx.gr lk
  replace ia:=uQ
  refine va ?_
  refine ag (ae (af (af (aa ?_))))
  refine ab (ah fx) ?_
  refine ab (ak mb aM) ?_
  refine ve ?_
  refine aN (d:=76) rfl (bf (by omega)) ?_
  refine ag (ae ?_)
  refine aC ?_
  refine aS (ae (af (aa ?_)))
  refine vm ?_
  refine ve ?_
  refine aN (d:=86) rfl (bt (by rw[ti];rfl)) ?_
  refine vm ?_
  refine aj (aK (cs:=[(.int .i64 (dp s).op),(.int .i64 (dp s).err),(.slice X71 (dp s).items.length cx71),(.int .u64 (↑(dp s).ver:Int)),(.int .i64 (dp s).count),(.slice N71 (dp s).nums.length cn71)]) bZ ia) ?_
  refine aj (bi fQ j6) ?_
  refine bP (aw u7 (j5 _ (dp s) xs71 Ee _ _ X71 cx71 N71 cn71 mt mx (rspO 0 0) [] rfl 0 0 none 0 none 0 (RdI.nil _ 0 0) (Rd.nil _ _ _ _ _ _ (Nat.zero_le _)))) ?_
  rintro v w10 ⟨rfl,rA⟩
  replace hE:=hE.tr rA
  refine aN (d:=90) rfl (bt (Lx)) ?_
  refine ab (ay) ?_
  refine va ?_
  refine ag (ae (aE ?_))
  refine aY ?_
  exact⟨rfl,hE⟩
theorem wD (w:World) (g:Nat) (S:List Nat) (a b:Nat) (s:Cn) (hc:Cnn w g S a b s) (ki ko kp:Int) (rin:List UInt8) (Ai:Option Addr) (ai:Nat) (rout:List UInt8) (Ao:Option Addr) (ao:Nat) (ph:Nat) (en:Bool) (rcm:Cmd) (lo2 eO:Nat) (K2:Option Addr) (ck2:Nat) (V2:Option Addr) (cv2:Nat) (T2:Option Addr) (ct2:Nat) (gN:RdS w lo2 eO K2 ck2 rcm.keys) (kP:RdB w lo2 eO V2 cv2 rcm.value) (kQ:RdS w lo2 eO T2 ct2 rcm.tags) (rr:Rsp) (xs3:List IT) (KS:vals xs3=rr.items) (lo3 ti:Nat) (X3:Option Addr) (cx3:Nat) (N3:Option Addr) (cn3:Nat) (nc:RdI w lo3 ti X3 cx3 xs3) (li:RdN w lo3 ti N3 cn3 rr.nums) (e1:jo s.cl s.held=rin.length) (e2:s.out.length=rout.length) (e3:s.ph=ph) (e4:s.ph=2→s.cmd=rcm) (e5:s.ph=3→s.ans=rr):
  Fn Tryz.prog 14 #[.pointer (some ⟨g,0,none⟩),(.agg #[(.int .i64 ki),(.int .i64 ko),(.int .i64 kp),(.slice Ai rin.length ai),(.slice Ao rout.length ao),(.int .i64 (↑ph:Int)),(.bool en),(.int .i64 rcm.op),(.string (av rcm.key)),(.slice K2 rcm.keys.length ck2),(.slice V2 rcm.value.length cv2),(.slice T2 rcm.tags.length ct2),(.int .u64 (↑rcm.life:Int)),(.int .u64 (↑rcm.ver:Int)),(.string (av rcm.tag)),(.string (av rcm.pre)),(.string (av rcm.child)),(.int .i64 rr.op),(.int .i64 rr.err),(.slice X3 rr.items.length cx3),(.int .u64 (↑rr.ver:Int)),(.int .i64 rr.count),(.slice N3 rr.nums.length cn3)])] w (fun v w'=>v=.bool true∧Ext w w'):=by
 by_cases h:ph=2
 ·exact BC w g S a b s hc ki ko kp rin Ai ai rout Ao ao ph en rcm lo2 eO K2 ck2 V2 cv2 T2 ct2 gN kP kQ rr xs3 KS lo3 ti X3 cx3 N3 cn3 nc li e1 e2 e3 e4 e5 h
 ·by_cases h3:ph=3
  ·exact BB w g S a b s hc ki ko kp rin Ai ai rout Ao ao ph en rcm lo2 eO K2 ck2 V2 cv2 T2 ct2 gN kP kQ rr xs3 KS lo3 ti X3 cx3 N3 cn3 nc li e1 e2 e3 e4 e5 h3
  ·exact BD w g S a b s hc ki ko kp rin Ai ai rout Ao ao ph en rcm lo2 eO K2 ck2 V2 cv2 T2 ct2 gN kP kQ rr xs3 KS lo3 ti X3 cx3 N3 cn3 nc li e1 e2 e3 e4 e5 h h3
theorem ou (w:World) (i o p:Int) (B4:-9223372036854775808≤i) (eO:i≤9223372036854775807) (EB:-9223372036854775808≤o) (CW:o≤9223372036854775807) (NO:-9223372036854775808≤p) (NN:p≤9223372036854775807):
  Fn Tryz.prog 8 #[(.agg #[(.int .i64 i),(.int .i64 o),(.int .i64 p)])] w (fun v w'=>v=.bool (decide (cfOk i o p))∧Ext w w'):=by
 have hE:=aP w
 refine aO Tryz.func8 ?_
 refine af (aa ?_)
 refine ar (bU) ?_
 rintro v w1 ⟨g1,rfl,au,dL,kM,ls⟩
 replace hE:=hE.tr dL
 refine va ?_
 refine ag (ae (af (aa ?_)))
 refine ab (ah mR) ?_
 refine ab (ak gg au) ?_
 refine ab (fX) ?_
 refine aG (d:=5) (fun h5=>?_) (fun h5=>?_)
 ·refine vm ?_
  refine aj (ah mR) ?_
  refine aj (ak gg au) ?_
  refine aj (dl) ?_
  refine aG (d:=9) (fun h9=>?_) (fun h9=>?_)
  ·refine ab (ay) ?_
   refine vm ?_
   refine aj (ah mS) ?_
   refine aj (ak gg au) ?_
   refine aj (ah mR) ?_
   refine aj (ak gg au) ?_
   refine aj (bH) ?_
   refine aj (fX) ?_
   refine aG (d:=17) (fun JV=>?_) (fun JV=>?_)
   ·refine ab (ay) ?_
    refine vm ?_
    refine aj (ah mS) ?_
    refine aj (ak gg au) ?_
    refine aj (dl) ?_
    refine aG (d:=22) (fun sk=>?_) (fun sk=>?_)
    ·refine ab (ay) ?_
     refine vm ?_
     refine aj (ah la) ?_
     refine aj (ak gg au) ?_
     refine aj (fX) ?_
     refine aG (d:=27) (fun h27=>?_) (fun h27=>?_)
     ·refine ab (ay) ?_
      refine vm ?_
      refine aj (ah la) ?_
      refine aj (ak gg au) ?_
      refine aj (dl) ?_
      refine aG (d:=32) (fun h32=>?_) (fun h32=>?_)
      ·refine ab (ay) ?_
       refine va ?_
       refine ag (ae (aE ?_))
       refine aY ?_
       first
        |(rw[decide_eq_true (show cfOk i o p from⟨by omega,by omega,by omega,by omega,by omega,by omega⟩)];exact⟨rfl,hE⟩)
        |(rw[decide_eq_false (show¬cfOk i o p from fun q=>by obtain⟨q1,q2,q3,q4,q5,q6⟩:=q;omega)];exact⟨rfl,hE⟩)
      ·refine ab (ay) ?_
       refine va ?_
       refine ag (ae (aE ?_))
       refine aY ?_
       first
        |(rw[decide_eq_true (show cfOk i o p from⟨by omega,by omega,by omega,by omega,by omega,by omega⟩)];exact⟨rfl,hE⟩)
        |(rw[decide_eq_false (show¬cfOk i o p from fun q=>by obtain⟨q1,q2,q3,q4,q5,q6⟩:=q;omega)];exact⟨rfl,hE⟩)
     ·refine ab (ay) ?_
      refine vm ?_
      iterate 3 refine aA ?_
      refine ab (ap) ?_
      refine va ?_
      refine ag (ae (aE ?_))
      refine aY ?_
      first
       |(rw[decide_eq_true (show cfOk i o p from⟨by omega,by omega,by omega,by omega,by omega,by omega⟩)];exact⟨rfl,hE⟩)
       |(rw[decide_eq_false (show¬cfOk i o p from fun q=>by obtain⟨q1,q2,q3,q4,q5,q6⟩:=q;omega)];exact⟨rfl,hE⟩)
    ·refine ab (ay) ?_
     refine vm ?_
     iterate 3 refine aA ?_
     refine ab (ap) ?_
     refine vm ?_
     iterate 3 refine aA ?_
     refine ab (ap) ?_
     refine va ?_
     refine ag (ae (aE ?_))
     refine aY ?_
     first
      |(rw[decide_eq_true (show cfOk i o p from⟨by omega,by omega,by omega,by omega,by omega,by omega⟩)];exact⟨rfl,hE⟩)
      |(rw[decide_eq_false (show¬cfOk i o p from fun q=>by obtain⟨q1,q2,q3,q4,q5,q6⟩:=q;omega)];exact⟨rfl,hE⟩)
   ·refine ab (ay) ?_
    refine vm ?_
    iterate 3 refine aA ?_
    refine ab (ap) ?_
    refine vm ?_
    iterate 3 refine aA ?_
    refine ab (ap) ?_
    refine vm ?_
    iterate 3 refine aA ?_
    refine ab (ap) ?_
    refine va ?_
    refine ag (ae (aE ?_))
    refine aY ?_
    first
     |(rw[decide_eq_true (show cfOk i o p from⟨by omega,by omega,by omega,by omega,by omega,by omega⟩)];exact⟨rfl,hE⟩)
     |(rw[decide_eq_false (show¬cfOk i o p from fun q=>by obtain⟨q1,q2,q3,q4,q5,q6⟩:=q;omega)];exact⟨rfl,hE⟩)
  ·refine ab (ay) ?_
   refine vm ?_
   iterate 6 refine aA ?_
   refine ab (ap) ?_
   refine vm ?_
   iterate 3 refine aA ?_
   refine ab (ap) ?_
   refine vm ?_
   iterate 3 refine aA ?_
   refine ab (ap) ?_
   refine vm ?_
   iterate 3 refine aA ?_
   refine ab (ap) ?_
   refine va ?_
   refine ag (ae (aE ?_))
   refine aY ?_
   first
    |(rw[decide_eq_true (show cfOk i o p from⟨by omega,by omega,by omega,by omega,by omega,by omega⟩)];exact⟨rfl,hE⟩)
    |(rw[decide_eq_false (show¬cfOk i o p from fun q=>by obtain⟨q1,q2,q3,q4,q5,q6⟩:=q;omega)];exact⟨rfl,hE⟩)
 ·refine vm ?_
  iterate 3 refine aA ?_
  refine ab (ap) ?_
  refine vm ?_
  iterate 6 refine aA ?_
  refine ab (ap) ?_
  refine vm ?_
  iterate 3 refine aA ?_
  refine ab (ap) ?_
  refine vm ?_
  iterate 3 refine aA ?_
  refine ab (ap) ?_
  refine vm ?_
  iterate 3 refine aA ?_
  refine ab (ap) ?_
  refine va ?_
  refine ag (ae (aE ?_))
  refine aY ?_
  first
   |(rw[decide_eq_true (show cfOk i o p from⟨by omega,by omega,by omega,by omega,by omega,by omega⟩)];exact⟨rfl,hE⟩)
   |(rw[decide_eq_false (show¬cfOk i o p from fun q=>by obtain⟨q1,q2,q3,q4,q5,q6⟩:=q;omega)];exact⟨rfl,hE⟩)
theorem yh (w:World) (i o p:Int):
  Fn Tryz.prog 12 #[(.agg #[(.int .i64 i),(.int .i64 o),(.int .i64 p)])] w (fun v w'=>v=(.agg #[(.int .i64 i),(.int .i64 o),(.int .i64 p),(.slice none 0 0),(.slice none 0 0),(.int .i64 1),(.bool false),(.int .i64 0),(.string (av ([]:List UInt8))),(.slice none 0 0),(.slice none 0 0),(.slice none 0 0),(.int .u64 0),(.int .u64 0),(.string (av ([]:List UInt8))),(.string (av ([]:List UInt8))),(.string (av ([]:List UInt8))),(.int .i64 0),(.int .i64 0),(.slice none 0 0),(.int .u64 0),(.int .i64 0),(.slice none 0 0)])∧Ext w w'):=by
 have hE:=aP w
 refine aO (args:=[(.agg #[(.int .i64 i),(.int .i64 o),(.int .i64 p)])]) Tryz.func12 ?_
 refine af (aa ?_)
 refine ar (bU (cs:=[(.int .i64 i),(.int .i64 o),(.int .i64 p)])) ?_
 rintro v w1 ⟨g1,rfl,au,dL,kM,ls⟩
 replace hE:=hE.tr dL
 refine ar (bc (cs:=[(.int .i64 0),(.int .i64 0),(.int .i64 0),(.slice none 0 0),(.slice none 0 0),(.int .i64 0),(.bool false),(.int .i64 0),(.string (av [])),(.slice none 0 0),(.slice none 0 0),(.slice none 0 0),(.int .u64 0),(.int .u64 0),(.string (av [])),(.string (av [])),(.string (av [])),(.int .i64 0),(.int .i64 0),(.slice none 0 0),(.int .u64 0),(.int .i64 0),(.slice none 0 0)]) oi) ?_
 rintro v w2 ⟨g2,rfl,aq,dk,my,nd⟩
 replace hE:=hE.tr dk
 replace au:=au.ext dk
 refine ag (ae (af (aa ?_)))
 refine ab (aK (cs:=[(.int .i64 i),(.int .i64 o),(.int .i64 p)]) lb au) ?_
 refine ab (bi (cs:=[(.int .i64 i),(.int .i64 o),(.int .i64 p),(.slice none 0 0),(.slice none 0 0),(.int .i64 1),(.bool false),(.int .i64 0),(.string (av [])),(.slice none 0 0),(.slice none 0 0),(.slice none 0 0),(.int .u64 0),(.int .u64 0),(.string (av [])),(.string (av [])),(.string (av [])),(.int .i64 0),(.int .i64 0),(.slice none 0 0),(.int .u64 0),(.int .i64 0),(.slice none 0 0)]) oi TP (hf:=by kernel_rfl)) ?_
 refine aB (aD (vs:=[(.int .i64 i),(.int .i64 o),(.int .i64 p),(.slice none 0 0),(.slice none 0 0),(.int .i64 1),(.bool false),(.int .i64 0),(.string (av [])),(.slice none 0 0),(.slice none 0 0),(.slice none 0 0),(.int .u64 0),(.int .u64 0),(.string (av [])),(.string (av [])),(.string (av [])),(.int .i64 0),(.int .i64 0),(.slice none 0 0),(.int .u64 0),(.int .i64 0),(.slice none 0 0)]) gi aq) ?_
 rintro _ w3 ⟨rL,lu⟩
 replace hE:=hE.gr lu
 replace aq:=rL
 refine ag (ae (aE ?_))
 refine bm (rs:=[.cell 2 45]) (vs:=[.agg #[(.int .i64 i),(.int .i64 o),(.int .i64 p),(.slice none 0 0),(.slice none 0 0),(.int .i64 1),(.bool false),(.int .i64 0),(.string (av [])),(.slice none 0 0),(.slice none 0 0),(.slice none 0 0),(.int .u64 0),(.int .u64 0),(.string (av [])),(.string (av [])),(.string (av [])),(.int .i64 0),(.int .i64 0),(.slice none 0 0),(.int .u64 0),(.int .i64 0),(.slice none 0 0)]]) rfl ⟨⟨_,_,[(.int .i64 i),(.int .i64 o),(.int .i64 p),(.slice none 0 0),(.slice none 0 0),(.int .i64 1),(.bool false),(.int .i64 0),(.string (av [])),(.slice none 0 0),(.slice none 0 0),(.slice none 0 0),(.int .u64 0),(.int .u64 0),(.string (av [])),(.string (av [])),(.string (av [])),(.int .i64 0),(.int .i64 0),(.slice none 0 0),(.int .u64 0),(.int .i64 0),(.slice none 0 0)],rfl,bQ,aq,rfl⟩,trivial⟩ ?_
 exact⟨rfl,hE⟩
end Go.Proofs.YtiighkbehiddkaaGreat
