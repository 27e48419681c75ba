import Derived.Test.YthmbhfgflijapaaGreatDoorPk12
import Derived.Test.YthmbhfgflijapaaGreatDoorPk23
set_option linter.all false
namespace Go.Proofs.YthmbhfgflijapaaGreatDoor
open Go Go.TL
attribute [local irreducible] TR TO Then zag RetK Sound zab Kf GG zaK
theorem zr4(A:Str)(c:UInt8):numV (A++[c])=10*numV A+((c.toNat:Int)-48):=by
 unfold numV;rw[qbA];rfl
theorem znr(u:Nat):numV (Go.Lib.decDigits u)=u:=by
 induction u using Nat.strongRecOn with
 | _ u ih=>
   by_cases h:u<10
   ·rw[Go.Lib.decDigits,dif_pos h]
    show 10*0+(((UInt8.ofNat (48+u)).toNat:Int)-48)=u
    rw[UInt8.toNat_ofNat']
    omega
   ·rw[Go.Lib.decDigits,dif_neg h,zr4,ih (u / 10) (by omega),UInt8.toNat_ofNat']
    omega
def zgF(e:Ex):Bool:=decide (e.kind.1=2\/e.kind.1=11\/e.kind.1=10\/e.kind.1=1/\(e.t.1≠2\/0≤e.v.1))
def tkO(f:Ex->List Tk)(e:Ex):List Tk:=if zgF e=true then f e else tL::(f e++[tR])
def opTk(o:Int):Tk:=
 if o=3 then(3,[97,110,100]) else if o=4 then(3,[111,114]) else if o=5 then(3,[120,111,114]) else if o=6 then(4,[43]) else if o=7 then(4,[45]) else if o=8 then(4,[42]) else if o=9 then(4,[47])
 else if o=10 then(3,[109,111,100]) else if o=11 then(4,[61]) else if o=12 then(4,[60,62]) else if o=13 then(4,[60]) else if o=14 then(4,[60,61]) else if o=15 then(4,[62]) else(4,[62,61])
def zi2(f:Ex->List Tk)(o:Int):List Ex->List Tk
 | [a]=>if o=1 then tNot::tkO f a else if a.kind.1=1/\a.t.1=2 then zer::tL::(f a++[tR]) else zer::tkO f a
 | [a,b]=>tkO f a++opTk o::tkO f b
 | _=>[]
def tgTk(es:List En)(t v:Int):Tk:=if t=1 then(if v=1 then zgc else zdH) else(1,((za5 es t).1.tags[v.toNat]?).getD [])
def vlTk(es:List En)(t v:Int):List Tk:=if t=2 then(if v<0 then[zer,(2,Go.Lib.decDigits v.natAbs)] else[(2,Go.Lib.decDigits v.toNat)]) else[tgTk es t v]
def brL(es:List En)(f:Ex->List Tk)(t:Int)(args:List Ex):List Brn:=
 if t=1 then(match args with
  | [b,a]=>[(a,zgc,f a),(b,zdH,f b)]
  | _=>[])
 else args.zipIdx.map fun x=>(x.1,tgTk es t x.2,f x.1)
def znH(f:Ex->List Tk)(v:Int)(nm:Str)(args:List Ex):List Tk:=
 if v=1 then(1,nm)::tL::(zgA ((args.take (args.length-1)).map fun x=>(x,f x))++tR::zlj::((args[args.length-1]?).map (tkO f)).getD [])
 else(1,nm)::tL::(zgA (args.map fun x=>(x,f x))++[tR])
def tkE(es:List En)(f:Ex->List Tk)(e:Ex):List Tk:=
 if e.kind.1=1 then vlTk es e.t.1 e.v.1
 else if e.kind.1=3 then zi2 f e.op.1 e.args
 else if e.kind.1=4 then(match e.args with|[a,b,c]=>tIf::(f a++zoM::(f b++zoL::f c))|_=>[])
 else if e.kind.1=5 then(match e.args with|[a]=>tPre::tkO f a|_=>[])
 else if e.kind.1=6 then(match e.args with|[a,b]=>tkO f a++tArr::tkO f b|_=>[])
 else if e.kind.1=7 then(match e.args with|[a,b]=>tkO f a++tFby::tkO f b|_=>[])
 else if e.kind.1=8 then(match e.args with|[a]=>tkO f a++[zlk,tgTk es e.t.1 e.v.1,tL,(1,e.name),tR]|_=>[])
 else if e.kind.1=9 then zfJ::(1,e.name)::zdr (brL es f e.t.1 e.args)
 else if e.kind.1=10 then znH f e.v.1 e.name e.args
 else if e.kind.1=11 then[(5,e.name)]
 else[(1,e.name)]
def tkF(es:List En):Nat->Ex->List Tk
 | 0,_=>[]
 | m+1,e=>tkE es (tkF es m) e
structure NdW (R:Rd) (e:Ex):Prop where
 kind:1≤e.kind.1/\e.kind.1≤11
 op:e.kind.1≠3->e.op.1=0
 o3:e.kind.1=3->1≤e.op.1/\e.op.1≤16/\(e.args.length:Int)=opdI e.op.1
 t0:e.kind.1≠1->e.kind.1≠8->e.kind.1≠9->e.t.1=0
 v0:e.kind.1≠1->e.kind.1≠8->e.kind.1≠10->e.v.1=0
 nm:e.kind.1=1\/e.kind.1=3\/e.kind.1=4\/e.kind.1=5\/e.kind.1=6\/e.kind.1=7->e.name=[]
 a0:e.kind.1=1\/e.kind.1=2\/e.kind.1=11->e.args=[]
 k4:e.kind.1=4->e.args.length=3
 k5:e.kind.1=5\/e.kind.1=8->e.args.length=1
 k6:e.kind.1=6\/e.kind.1=7->e.args.length=2
 c1:e.kind.1=1->(e.t.1=2/\-32768≤e.v.1/\e.v.1≤32767)\/e.t.1≠2/\∃t' v':Nat,e.t.1=t'/\e.v.1=v'/\TagW R t' v' (tgTk R.es e.t.1 e.v.1)
 var:e.kind.1=2->R.tag e.name=none
 c8:e.kind.1=8->∃t' v':Nat,e.t.1=t'/\e.v.1=v'/\TagW R t' v' (tgTk R.es e.t.1 e.v.1)
 c9:e.kind.1=9->(e.t.1=1/\e.args.length=2)\/∃t':Nat,e.t.1=t'/\t'≠1/\R.size t'=e.args.length/\1≤e.args.length/\∀j,j<e.args.length->TagW R t' j (tgTk R.es t' j)
 c10:e.kind.1=10->(e.v.1=0\/e.v.1=1)/\e.v.1≤e.args.length
theorem opW1{p:Nat}{w:Tk}{o:Int}(hp:p=0\/p=1\/p=3\/p=4\/p=5)(hk:w.1=3\/w.1=4)(h3:zhF p w.2=some o)(h4:∀q,q<6->p<q->zhF q w.2=none\/q=2)(h5:w.2 ∉ ([[101,118,101,114,121],[40],[119,104,101,110]]:List Str)):OpW w p o:=by
 obtain⟨a,b⟩:=w
 simp only[qa2,qbN,or_false,not_or]at h5
 obtain⟨g1,g2,g3⟩:=h5
 have hk':∀L,(kiL ((a,b)::L) 3 || kiL ((a,b)::L) 4)=true:=fun L=>by
  simp only[kiL];rcases hk with rfl|rfl <;> rfl
 refine⟨hp,fun L=>?_,fun q L hq6 hq=>?_,fun L=>⟨⟨?_,?_⟩,?_⟩⟩
 ·unfold opLv;rw[if_pos (hk' L)];exact h3
 ·rcases h4 q hq6 hq with h|h
  ·left;unfold opLv;rw[if_pos (hk' L)];exact h
  ·exact .inr h
 ·simp[isL];intro _;exact g1
 ·simp[isL];intro _;exact g2
 ·simp[isL];intro _;exact g3
theorem opW{o:Int}(h1:3≤o)(h2:o≤16):∃p,OpW (opTk o) p o:=by
 have:o=3\/o=4\/o=5\/o=6\/o=7\/o=8\/o=9\/o=10\/o=11\/o=12\/o=13\/o=14\/o=15\/o=16:=by omega
 rcases this with rfl|rfl|rfl|rfl|rfl|rfl|rfl|rfl|rfl|rfl|rfl|rfl|rfl|rfl
 ·exact⟨1,opW1 (by decide) (by decide) (by decide) (by decide) (by decide)⟩
 iterate 2 exact⟨0,opW1 (by decide) (by decide) (by decide) (by decide) (by decide)⟩
 iterate 2 exact⟨4,opW1 (by decide) (by decide) (by decide) (by decide) (by decide)⟩
 iterate 3 exact⟨5,opW1 (by decide) (by decide) (by decide) (by decide) (by decide)⟩
 iterate 6 exact⟨3,opW1 (by decide) (by decide) (by decide) (by decide) (by decide)⟩
structure zrh (R:Rd) (e:Ex) (T O:List Tk):Prop where
 pe:PE R e T
 po:PO R e O
 ne:T≠ []
 cl:isL T [41]=false
 nu:e.kind.1=1/\e.t.1=2\/kiL O 2=false
theorem zfF{R:Rd}{e:Ex}{f:Ex->List Tk}(h:PO R e (f e))(hc:isL (f e) [41]=false)(hn:e.kind.1=1/\e.t.1=2\/kiL (f e) 2=false):zrh R e (f e) (tkO f e):=by
 unfold tkO
 split
 ·exact⟨h.pe,h,h.1.ne,hc,hn⟩
 ·exact⟨h.pe,rBr h.pe,h.1.ne,hc,.inr rfl⟩
theorem zce{R:Rd}{e:Ex}{f:Ex->List Tk}(h:PE R e (f e))(hp:zgF e=false)(hn:f e≠ [])(hc:isL (f e) [41]=false):zrh R e (f e) (tkO f e):=by
 unfold tkO
 rw[if_neg (by rw[hp];simp)]
 exact⟨h,rBr h,hn,hc,.inr rfl⟩
end Go.Proofs.YthmbhfgflijapaaGreatDoor
namespace Go.Proofs.YthmbhfgflijapaaGreatDoor
open Go Go.TL
attribute [local irreducible] TR TO Then zag RetK Sound zab Kf GG zaK
variable {es:List En}{f:Ex->List Tk}{e:Ex}
theorem tkE1(h:e.kind.1=1):tkE es f e=vlTk es e.t.1 e.v.1:=by
 rw[tkE,if_pos h]
theorem tkE2(h:e.kind.1=2):tkE es f e=[(1,e.name)]:=by
 rw[tkE,if_neg (by rw[h];decide),if_neg (by rw[h];decide),if_neg (by rw[h];decide),if_neg (by rw[h];decide),if_neg (by rw[h];decide),if_neg (by rw[h];decide),if_neg (by rw[h];decide),if_neg (by rw[h];decide),if_neg (by rw[h];decide),if_neg (by rw[h];decide)]
theorem tkE3(h:e.kind.1=3):tkE es f e=zi2 f e.op.1 e.args:=by
 rw[tkE,if_neg (by rw[h];decide),if_pos h]
theorem tkE4(h:e.kind.1=4):tkE es f e=(match e.args with|[a,b,c]=>tIf::(f a++zoM::(f b++zoL::f c))|_=>[]):=by
 rw[tkE,if_neg (by rw[h];decide),if_neg (by rw[h];decide),if_pos h]
 all_goals rfl
theorem tkE5(h:e.kind.1=5):tkE es f e=(match e.args with|[a]=>tPre::tkO f a|_=>[]):=by
 rw[tkE,if_neg (by rw[h];decide),if_neg (by rw[h];decide),if_neg (by rw[h];decide),if_pos h]
 all_goals rfl
theorem tkE6(h:e.kind.1=6):tkE es f e=(match e.args with|[a,b]=>tkO f a++tArr::tkO f b|_=>[]):=by
 rw[tkE,if_neg (by rw[h];decide),if_neg (by rw[h];decide),if_neg (by rw[h];decide),if_neg (by rw[h];decide),if_pos h]
 all_goals rfl
theorem tkE7(h:e.kind.1=7):tkE es f e=(match e.args with|[a,b]=>tkO f a++tFby::tkO f b|_=>[]):=by
 rw[tkE,if_neg (by rw[h];decide),if_neg (by rw[h];decide),if_neg (by rw[h];decide),if_neg (by rw[h];decide),if_neg (by rw[h];decide),if_pos h]
 all_goals rfl
theorem tkE8(h:e.kind.1=8):tkE es f e=(match e.args with|[a]=>tkO f a++[zlk,tgTk es e.t.1 e.v.1,tL,(1,e.name),tR]|_=>[]):=by
 rw[tkE,if_neg (by rw[h];decide),if_neg (by rw[h];decide),if_neg (by rw[h];decide),if_neg (by rw[h];decide),if_neg (by rw[h];decide),if_neg (by rw[h];decide),if_pos h]
 all_goals rfl
theorem tkE9(h:e.kind.1=9):tkE es f e=zfJ::(1,e.name)::zdr (brL es f e.t.1 e.args):=by
 rw[tkE,if_neg (by rw[h];decide),if_neg (by rw[h];decide),if_neg (by rw[h];decide),if_neg (by rw[h];decide),if_neg (by rw[h];decide),if_neg (by rw[h];decide),if_neg (by rw[h];decide),if_pos h]
theorem zvW(h:e.kind.1=10):tkE es f e=znH f e.v.1 e.name e.args:=by
 rw[tkE,if_neg (by rw[h];decide),if_neg (by rw[h];decide),if_neg (by rw[h];decide),if_neg (by rw[h];decide),if_neg (by rw[h];decide),if_neg (by rw[h];decide),if_neg (by rw[h];decide),if_neg (by rw[h];decide),if_pos h]
theorem zvX(h:e.kind.1=11):tkE es f e=[(5,e.name)]:=by
 rw[tkE,if_neg (by rw[h];decide),if_neg (by rw[h];decide),if_neg (by rw[h];decide),if_neg (by rw[h];decide),if_neg (by rw[h];decide),if_neg (by rw[h];decide),if_neg (by rw[h];decide),if_neg (by rw[h];decide),if_neg (by rw[h];decide),if_pos h]
theorem zto{es:List En}{t v:Int}(h:t=2)(hv:v<0):vlTk es t v=[zer,(2,Go.Lib.decDigits v.natAbs)]:=by unfold vlTk;rw[if_pos h,if_pos hv]
theorem ztp{es:List En}{t v:Int}(h:t=2)(hv:¬v<0):vlTk es t v=[(2,Go.Lib.decDigits v.toNat)]:=by unfold vlTk;rw[if_pos h,if_neg hv]
theorem ztq{es:List En}{t v:Int}(h:t≠2):vlTk es t v=[tgTk es t v]:=by unfold vlTk;rw[if_neg h]
theorem znv{f:Ex->List Tk}{o:Int}{a:Ex}(h:o=1):zi2 f o [a]=tNot::tkO f a:=if_pos h
theorem zkY{f:Ex->List Tk}{o:Int}{a:Ex}(h:o≠1)(h2:a.kind.1=1/\a.t.1=2):zi2 f o [a]=zer::tL::(f a++[tR]):=(if_neg h).trans (if_pos h2)
theorem zkZ{f:Ex->List Tk}{o:Int}{a:Ex}(h:o≠1)(h2:¬(a.kind.1=1/\a.t.1=2)):zi2 f o [a]=zer::tkO f a:=(if_neg h).trans (if_neg h2)
theorem ze9{e:Ex}{n:Int}(h:e.kind.1=n)(hn:n≠1)(h2:n≠2)(h3:n≠11)(h4:n≠10):zgF e=false:=by
 unfold zgF
 rw[h]
 simp[hn,h2,h3,h4]
theorem zsV{T:List Tk}(hs:St T)(hc:isL T [41]=false)(L:List Tk):isL (T++L) [41]=false:=by rw[zcX hs.ne,hc]
theorem ztl{f:Ex->List Tk}{e:Ex}(h:isL (f e) [41]=false):isL (tkO f e) [41]=false:=by
 unfold tkO;split
 ·exact h
 ·rfl
set_option maxHeartbeats 1000000 in
theorem znw {R:Rd}:∀(m:Nat) (e:Ex),wEx e≤m->(∀x∈flat e,NdW R x)->zrh R e (tkF R.es m e) (tkO (tkF R.es m) e)
 | 0,e,h,_=>absurd (zb7 e) (by omega)
 | m+1,e,h,hN=>by
   have ih:∀x∈e.args,zrh R x (tkF R.es m x) (tkO (tkF R.es m) x):=fun x hx=>znw m x (by
    rw[zfN]at h
    have:=zh2 wEx hx
    omega) (fun y hy=>hN y (by
     rw[zbJ]
     refine qan _ ?_
     unfold flats
     exact qbx.2 ⟨flat x,qaP.2 ⟨x,hx,rfl⟩,hy⟩))
   have hn:NdW R e:=hN e (by rw[zbJ];exact qak)
   clear hN h
   have hF:tkF R.es (m+1) e=tkE R.es (tkF R.es m) e:=rfl
   generalize tkF R.es (m+1)=g at*
   generalize tkF R.es m=f at*
   obtain⟨k,o,t,v,s,args⟩:=e
   obtain⟨nk,nop,no3,nt0,nv0,nnm,na0,nk4,nk5,nk6,nc1,nvar,nc8,nc9,nc10⟩:=hn
   dsimp only[Ex.kind,Ex.op,Ex.t,Ex.v,Ex.name,Ex.args]at*
   have hk:k.1=1\/k.1=2\/k.1=3\/k.1=4\/k.1=5\/k.1=6\/k.1=7\/k.1=8\/k.1=9\/k.1=10\/k.1=11:=by omega
   rcases hk with hk|hk|hk|hk|hk|hk|hk|hk|hk|hk|hk
   ·rw[tkE1 (e:=.mk k o t v s args) hk]at hF
    have hs:=nnm (by omega)
    have hA:=na0 (by omega)
    subst hs hA
    have ho:=nop (by omega)
    rcases nc1 hk with ⟨ht,hv1,hv2⟩|⟨ht,t',v',h1,h2,hw⟩
    ·by_cases hv:v.1<0
     ·replace hF:=hF.trans (zto (es:=R.es) (t:=t.1) (v:=v.1) ht hv)
      refine zce (f:=g) ?_ ?_ (by rw[hF];simp) (by rw[hF];rfl)
      ·rw[hF]
       exact zvI hk ho ht (by rw[znr];omega)
      ·refine decide_eq_false ?_
       show ¬(k.1=2\/k.1=11\/k.1=10\/k.1=1/\(t.1≠2\/0≤v.1))
       omega
     ·replace hF:=hF.trans (ztp (es:=R.es) (t:=t.1) (v:=v.1) ht hv)
      refine zfF (f:=g) ?_ (by rw[hF];rfl) (.inl ⟨hk,ht⟩)
      rw[hF]
      exact rInt hk ho ht (by rw[znr];omega) hv2
    ·replace hF:=hF.trans (ztq (es:=R.es) (t:=t.1) (v:=v.1) ht)
     generalize tgTk R.es t.1 v.1=w at*
     refine zfF (f:=g) ?_ ?_ ?_ <;> rw[hF]
     ·cases hw with
      | tt=>exact zwN hk ho h1 h2
      | ff=>exact zvG hk ho h1 h2
      | id s h3 h4=>exact rTag hk ho h1 h2 h4
     ·cases hw <;> rfl
     ·right;cases hw <;> rfl
   ·rw[tkE2 (e:=.mk k o t v s args) hk]at hF
    have hA:=na0 (by omega)
    subst hA
    refine zfF (f:=g) ?_ ?_ ?_ <;> rw[hF]
    ·exact rVar hk (nop (by omega)) (nt0 (by omega) (by omega) (by omega)) (nv0 (by omega) (by omega) (by omega)) (nvar hk)
    ·rfl
    ·exact .inr rfl
   ·rw[tkE3 (e:=.mk k o t v s args) hk]at hF
    have hs:=nnm (by omega)
    subst hs
    have ht:=nt0 (by omega) (by omega) (by omega)
    have hv:=nv0 (by omega) (by omega) (by omega)
    obtain⟨o1,o2,o3⟩:=no3 hk
    have hp:zgF (.mk k o t v [] args)=false:=ze9 hk (by decide) (by decide) (by decide) (by decide)
    unfold opdI at o3
    dsimp only[Ex.op,Ex.args]at hF
    match args,ih,o3,hF,hp with
    | [],_,o3,_,_=>exfalso;split at o3 <;> simp at o3
    | [a],ih,o3,hF,hp=>
      have ia:=ih a (by simp)
      by_cases h1:o.1=1
      ·replace hF:=hF.trans (znv h1)
       refine zce (f:=g) ?_ hp ?_ ?_ <;> rw[hF]
       ·exact rNot ia.po hk h1 ht hv
       ·simp
       ·rfl
      ·have h2:o.1=2:=by
        split at o3
        ·omega
        ·simp at o3
       by_cases h3:a.kind.1=1/\a.t.1=2
       ·replace hF:=hF.trans (zkY h1 h3)
        refine zce (f:=g) ?_ hp ?_ ?_ <;> rw[hF]
        ·exact rNeg (rBr ia.pe) rfl hk h2 ht hv
        ·simp
        ·rfl
       ·replace hF:=hF.trans (zkZ h1 h3)
        refine zce (f:=g) ?_ hp ?_ ?_ <;> rw[hF]
        ·exact rNeg ia.po (ia.nu.resolve_left h3) hk h2 ht hv
        ·simp
        ·rfl
    | [a,b],ih,o3,hF,hp=>
      have ia:=ih a (by simp)
      have ib:=ih b (by simp)
      have h3:3≤o.1:=by
       split at o3
       ·simp at o3
       ·omega
      obtain⟨p,hw⟩:=opW h3 o2
      unfold zi2 at hF
      refine zce (f:=g) ?_ hp ?_ ?_ <;> rw[hF]
      ·exact rBin ia.po ib.po hw hk ht hv
      ·simp
      ·exact zsV ia.po.1 (ztl ia.cl) _
    | _::_::_::_,_,o3,_,_=>exfalso;simp at o3;split at o3 <;> omega
   ·rw[tkE4 (e:=.mk k o t v s args) hk]at hF
    have hs:=nnm (by omega)
    subst hs
    have ht:=nt0 (by omega) (by omega) (by omega)
    have hv:=nv0 (by omega) (by omega) (by omega)
    have hl:=nk4 hk
    have hp:zgF (.mk k o t v [] args)=false:=ze9 hk (by decide) (by decide) (by decide) (by decide)
    dsimp only[Ex.args]at hF
    match args,ih,hl,hF,hp with
    | [c,a,b],ih,_,hF,hp=>
      dsimp only at hF
      refine zce (f:=g) ?_ hp ?_ ?_ <;> rw[hF]
      ·exact(rIf (ih c (by simp)).pe (ih a (by simp)).pe (ih b (by simp)).pe hk (nop (by omega)) ht hv).pe
      ·simp
      ·rfl
   ·rw[tkE5 (e:=.mk k o t v s args) hk]at hF
    have hs:=nnm (by omega)
    subst hs
    have ht:=nt0 (by omega) (by omega) (by omega)
    have hv:=nv0 (by omega) (by omega) (by omega)
    have hl:=nk5 (.inl hk)
    have hp:zgF (.mk k o t v [] args)=false:=ze9 hk (by decide) (by decide) (by decide) (by decide)
    dsimp only[Ex.args]at hF
    match args,ih,hl,hF,hp with
    | [a],ih,_,hF,hp=>
      dsimp only at hF
      refine zce (f:=g) ?_ hp ?_ ?_ <;> rw[hF]
      ·exact rPre (ih a (by simp)).po hk (nop (by omega)) ht hv
      ·simp
      ·rfl
   ·rw[tkE6 (e:=.mk k o t v s args) hk]at hF
    have hs:=nnm (by omega)
    subst hs
    have ht:=nt0 (by omega) (by omega) (by omega)
    have hv:=nv0 (by omega) (by omega) (by omega)
    have hl:=nk6 (.inl hk)
    have hp:zgF (.mk k o t v [] args)=false:=ze9 hk (by decide) (by decide) (by decide) (by decide)
    dsimp only[Ex.args]at hF
    match args,ih,hl,hF,hp with
    | [a,b],ih,_,hF,hp=>
      dsimp only at hF
      refine zce (f:=g) ?_ hp ?_ ?_ <;> rw[hF]
      ·exact rSeq (ih a (by simp)).po (ih b (by simp)).po (.inl ⟨rfl,hk⟩) (nop (by omega)) ht hv
      ·simp
      ·exact zwfj
   ·rw[tkE7 (e:=.mk k o t v s args) hk]at hF
    have hs:=nnm (by omega)
    subst hs
    have ht:=nt0 (by omega) (by omega) (by omega)
    have hv:=nv0 (by omega) (by omega) (by omega)
    have hl:=nk6 (.inr hk)
    have hp:zgF (.mk k o t v [] args)=false:=ze9 hk (by decide) (by decide) (by decide) (by decide)
    dsimp only[Ex.args]at hF
    match args,ih,hl,hF,hp with
    | [a,b],ih,_,hF,hp=>
      dsimp only at hF
      refine zce (f:=g) ?_ hp ?_ ?_ <;> rw[hF]
      ·exact rSeq (ih a (by simp)).po (ih b (by simp)).po (.inr ⟨rfl,hk⟩) (nop (by omega)) ht hv
      ·simp
      ·exact zwfj
   ·rw[tkE8 (e:=.mk k o t v s args) hk]at hF
    have hl:=nk5 (.inr hk)
    have hp:zgF (.mk k o t v s args)=false:=ze9 hk (by decide) (by decide) (by decide) (by decide)
    obtain⟨t',v',h1,h2,hw⟩:=nc8 hk
    dsimp only[Ex.args,Ex.t,Ex.v,Ex.name]at hF
    match args,ih,hl,hF,hp with
    | [a],ih,_,hF,hp=>
      dsimp only at hF
      refine zce (f:=g) ?_ hp ?_ ?_ <;> rw[hF]
      ·exact zwO (ih a (by simp)).po hw hk (nop (by omega)) h1 h2
      ·simp
      ·exact zwfj
   ·rw[tkE9 (e:=.mk k o t v s args) hk]at hF
    have hv:=nv0 (by omega) (by omega) (by omega)
    have ho:=nop (by omega)
    have hp:zgF (.mk k o t v s args)=false:=ze9 hk (by decide) (by decide) (by decide) (by decide)
    dsimp only[Ex.args,Ex.t,Ex.name]at hF
    refine zce (f:=g) ?_ hp ?_ ?_ <;> rw[hF]
    ·rcases nc9 hk with ⟨ht,hl⟩|⟨t',ht,ht1,hsz,hl,hw⟩
     ·unfold brL
      rw[if_pos ht]
      match args,ih,hl with
      | [b,a],ih,_=>
        have:=(zuo (s:=s) (ih a (by simp)).pe (ih b (by simp)).pe hk ho ht hv).pe
        simpa [zdr]using this
     ·unfold brL
      rw[if_neg (by omega)]
      match args,ih,hl,hsz,hw with
      | x::l,ih,_,hsz,hw=>
        have hm:((x::l).zipIdx.map fun y=>((y.1,tgTk R.es t.1 y.2,f y.1):Brn)).map Prod.fst=x::l:=by
         rw[qa8]
         show(x::l).zipIdx.map Prod.fst=x::l
         simp
        have hall:∀y∈((x::l).zipIdx.map fun y=>((y.1,tgTk R.es t.1 y.2,f y.1):Brn)),PE R y.1 y.2.2:=by
         intro y hy
         obtain⟨z,hz,rfl⟩:=qaP.1 hy
         exact(ih z.1 (List.fst_mem_of_mem_zipIdx hz)).pe
        have hwl:∀j (h:j<((x::l).zipIdx.map fun y=>((y.1,tgTk R.es t.1 y.2,f y.1):Brn)).length),TagW R t' j ((x::l).zipIdx.map fun y=>((y.1,tgTk R.es t.1 y.2,f y.1):Brn))[j].2.1:=by
         intro j h
         have h':j<(x::l).length:=by simpa using h
         have e9:((x::l).zipIdx.map fun y=>((y.1,tgTk R.es t.1 y.2,f y.1):Brn))[j].2.1=tgTk R.es t.1 (j:Int):=by simp only[qcB,List.getElem_zipIdx,qaU]
         rw[e9,ht]
         exact hw j h'
        have hlen:((x::l).zipIdx.map fun y=>((y.1,tgTk R.es t.1 y.2,f y.1):Brn)).length=(x::l).length:=by simp
        generalize hq:((x::l).zipIdx.map fun y=>((y.1,tgTk R.es t.1 y.2,f y.1):Brn))=q at*
        match q,hm,hall,hwl,hlen with
        | (e1,w1,A1)::q,hm,hall,hwl,hlen=>
          have:=(zvH (s:=s) ht1 (hsz.trans hlen.symm) hall hwl hk ho ht hv).pe
          rw[hm]at this
          exact this
    ·simp
    ·rfl
   ·rw[zvW (e:=.mk k o t v s args) hk]at hF
    have ht:=nt0 (by omega) (by omega) (by omega)
    have ho:=nop (by omega)
    obtain⟨hv,hvl⟩:=nc10 hk
    dsimp only[Ex.args,Ex.v,Ex.name]at hF
    unfold znH at hF
    refine zfF (f:=g) ?_ ?_ ?_ <;> rw[hF]
    ·rcases hv with hv|hv
     ·rw[if_neg (by omega)]
      have:=zwM (R:=R) (s:=s) (l:=args.map fun x=>(x,f x)) (fun y hy=>by
       obtain⟨z,hz,rfl⟩:=qaP.1 hy
       exact⟨(ih z hz).pe,(ih z hz).ne,(ih z hz).cl⟩) hk ho ht hv
      have hm:(args.map fun x=>(x,f x)).map Prod.fst=args:=by rw[qa8];exact qcy _
      rw[hm]at this
      exact this
     ·rw[if_pos hv]
      have hpos:args.length-1<args.length:=by omega
      rw[qac hpos]
      show PO R _ ((1,s)::tL::(zgA _++tR::zlj::tkO f args[args.length-1]))
      have:=zvF (R:=R) (s:=s) (l:=(args.take (args.length-1)).map fun x=>(x,f x)) (fun y hy=>by
       obtain⟨z,hz,rfl⟩:=qaP.1 hy
       have hz:=qaN hz
       exact⟨(ih z hz).pe,(ih z hz).ne,(ih z hz).cl⟩) (ih _ (qaf hpos)).po hk ho ht hv
      have hm:((args.take (args.length-1)).map fun x=>(x,f x)).map Prod.fst=args.take (args.length-1):=by rw[qa8];exact qcy _
      have hm2:args.take (args.length-1)++[args[args.length-1]]=args:=by
       rw[List.take_append_getElem hpos,qaI (by omega)]
      rw[hm,hm2]at this
      exact this
    ·split <;> rfl
    ·right;split <;> rfl
   ·rw[zvX (e:=.mk k o t v s args) hk]at hF
    have hA:=na0 (by omega)
    subst hA
    refine zfF (f:=g) ?_ ?_ ?_ <;> rw[hF]
    ·exact zwP hk (nop (by omega)) (nt0 (by omega) (by omega) (by omega)) (nv0 (by omega) (by omega) (by omega))
    ·rfl
    ·exact .inr rfl
end Go.Proofs.YthmbhfgflijapaaGreatDoor
namespace Go.Proofs.YthmbhfgflijapaaGreatDoor
open Go Go.TL
attribute [local irreducible] TR TO Then zag RetK Sound zab Kf GG zaK
def InR(n lo:Nat){α:Type}:PR α->Prop
 | .ok _ j=>lo≤j/\j≤n
 | .er k c=>k≤n/\c≠0
theorem InR.bind{n lo lo':Nat}{α β:Type}{r:PR α}{f:α->Nat->PR β}(h:InR n lo r)(hf:∀v j,lo≤j->j≤n->InR n lo' (f v j)):InR n lo' (r.bind f):=by
 cases r with
 | ok v j=>exact hf v j h.1 h.2
 | er k c=>exact h
theorem InR.le{n lo lo':Nat}{α:Type}{r:PR α}(h:InR n lo r)(hl:lo'≤lo):InR n lo' r:=by
 cases r with
 | ok v j=>exact⟨qaq hl h.1,h.2⟩
 | er k c=>exact h
theorem InR.ite{n lo:Nat}{α:Type}{c:Prop}[Decidable c]{a b:PR α}(ha:c->InR n lo a)(hb:¬c->InR n lo b):InR n lo (if c then a else b):=by
 split
 ·rename_i h;exact ha h
 ·rename_i h;exact hb h
section
variable {R:Rd}
theorem zaE{i:Nat}{s:Str}(h:R.isAt i s=true):i<R.K.length:=by
 unfold Rd.isAt at h
 exact zweu
theorem ze3{i:Nat}{k:Int}(h:R.kind i k=true):i<R.K.length:=by
 unfold Rd.kind at h
 exact zweu
theorem zbN:∀(ss:List Str) {i:Nat},i≤R.K.length->InR R.K.length (i+ss.length) (R.must ss i)
 | [],i,h=>⟨qae _,h⟩
 | s::ss,i,h=>by
   unfold Rd.must
   refine InR.ite (fun hs=>(zbN ss (zaE hs)).le (by simp only[qal];omega)) fun _=>⟨h,by decide⟩
theorem zkB{i:Nat}(h:i≤R.K.length):InR R.K.length (i+1) (R.id i):=by
 unfold Rd.id
 exact InR.ite (fun hs=>⟨qae _,ze3 hs⟩) fun _=>⟨h,by decide⟩
theorem zi9{i:Nat}(h:i≤R.K.length):InR R.K.length (i+1) (R.aTag i):=by
 unfold Rd.aTag
 refine InR.ite (fun hs=>⟨qae _,zaE hs⟩) fun _=>InR.ite (fun hs=>⟨qae _,zaE hs⟩) fun _=>(zkB h).bind fun v j h1 h2=>?_
 split
 ·exact⟨h1,h2⟩
 ·exact⟨by omega,by decide⟩
theorem zhP{i:Nat}(h:i≤R.K.length):InR R.K.length (i+1) (R.sampling i):=by
 unfold Rd.sampling
 refine(zi9 h).bind fun _ j h1 h2=>(zbN _ h2).bind fun _ j h3 h4=>(zkB h4).bind fun _ j h5 h6=>(zbN _ h6).bind fun _ j h7 h8=>⟨?_,h8⟩
 simp only[qal,qaz]at *;omega
theorem zql{n i:Nat}{o:Int}(h:R.oper n i=some o):i<R.K.length:=by
 unfold Rd.oper at h
 split at h
 ·rename_i hk
  rcases Bool.or_eq_true_iff.1 hk with hk|hk <;> exact ze3 hk
 ·cases h
theorem zs6{f:Nat->PR Ex}(hf:∀i,i≤R.K.length->InR R.K.length (i+1) (f i))(n:Nat):∀(m:Nat) (a:Ex) {i:Nat},i≤R.K.length->InR R.K.length i (R.ops f n m a i)
 | 0,a,i,h=>⟨qae _,h⟩
 | m+1,a,i,h=>by
   unfold Rd.ops
   split
   ·exact⟨qae _,h⟩
   ·rename_i op ho
    refine(hf _ (zql ho)).bind fun b j h1 h2=>InR.ite (fun _=>⟨by omega,h2⟩) fun _=>(zs6 hf n m _ h2).le (by omega)
theorem znR:∀(m:Nat) (e:Ex) {i:Nat},i≤R.K.length->InR R.K.length i (R.whens m e i)
 | 0,e,i,h=>⟨qae _,h⟩
 | m+1,e,i,h=>by
   unfold Rd.whens
   exact InR.ite (fun hs=>(zhP (zaE hs)).bind fun o j h1 h2=>(znR m _ h2).le (by omega)) fun _=>⟨qae _,h⟩
theorem zo1{f:Nat->PR Ex}(hf:∀i,i≤R.K.length->InR R.K.length (i+1) (f i)):∀(m:Nat) (l:List Ex) {i:Nat},i≤R.K.length->InR R.K.length i (R.args f m l i)
 | 0,l,i,h=>⟨qae _,h⟩
 | m+1,l,i,h=>by
   unfold Rd.args
   exact InR.ite (fun hs=>(hf _ (zaE hs)).bind fun o j h1 h2=>(zo1 hf m _ h2).le (by omega)) fun _=>⟨qae _,h⟩
theorem zpi{f g:Nat->PR Ex}(hf:∀i,i≤R.K.length->InR R.K.length (i+1) (f i))(hg:∀i,i≤R.K.length->InR R.K.length (i+1) (g i))(s:Str){i:Nat}(h:i≤R.K.length):InR R.K.length (i+1) (R.call f g s i):=by
 unfold Rd.call
 refine InR.bind (lo:=i+1) ?_ fun l j h1 h2=>InR.ite (fun hs=>(hg _ (zaE hs)).bind fun a j h3 h4=>⟨by omega,h4⟩) fun _=>⟨h1,h2⟩
 refine InR.ite (fun hs=>⟨qae _,zaE hs⟩) fun _=>(hf i h).bind fun a j h1 h2=>(zo1 hf _ _ h2).bind fun l j h3 h4=>(zbN _ h4).bind fun _ j h5 h6=>⟨?_,h6⟩
 omega
theorem zly{t v:Nat}{known:Bool}{i:Nat}(h:i≤R.K.length):InR R.K.length i (R.wanted t v known i):=by
 unfold Rd.wanted
 repeat' split
 all_goals first
  | exact⟨h,by decide⟩
  | exact⟨qae _,h⟩
theorem zkb{f:Nat->PR Ex}(hf:∀i,i≤R.K.length->InR R.K.length (i+1) (f i)){t v:Nat}{known:Bool}{i:Nat}(h:i≤R.K.length):InR R.K.length (i+1) (R.branch f t v known i):=by
 unfold Rd.branch
 refine(zbN _ h).bind fun _ j h1 h2=>(zly h2).bind fun _ _ _ _=>(zi9 h2).bind fun tv k h3 h4=>InR.ite (fun _=>⟨h2,by decide⟩) fun _=>(zbN _ h4).bind fun _ k h5 h6=>(hf _ h6).bind fun e k h7 h8=>(zbN _ h8).bind fun _ k h9 h10=>⟨?_,h10⟩
 simp only[qal,qaz]at *;omega
theorem zhe{f:Nat->PR Ex}(hf:∀i,i≤R.K.length->InR R.K.length (i+1) (f i)){t size:Nat}:∀(m k:Nat) (l:List Ex) {i:Nat},i≤R.K.length->InR R.K.length i (R.branches f t size m k l i)
 | 0,k,l,i,h=>⟨qae _,h⟩
 | m+1,k,l,i,h=>by
   unfold Rd.branches
   exact InR.ite (fun _=>⟨qae _,h⟩) fun _=>(zkb hf h).bind fun te j h1 h2=>(zhe hf m _ _ h2).le (by omega)
theorem znk{f:Nat->PR Ex}(hf:∀i,i≤R.K.length->InR R.K.length (i+1) (f i)){i:Nat}(h:i≤R.K.length):InR R.K.length (i+1) (R.merge f i):=by
 unfold Rd.merge
 exact(zkB h).bind fun _ j h1 h2=>(zkb hf h2).bind fun te j h3 h4=>(zhe hf _ _ _ h4).bind fun l j h5 h6=>⟨by omega,h6⟩
theorem zrQ{f g:Nat->PR Ex}(hf:∀i,i≤R.K.length->InR R.K.length (i+1) (f i))(hg:∀i,i≤R.K.length->InR R.K.length (i+1) (g i)){i:Nat}(h:i≤R.K.length):InR R.K.length (i+1) (R.ident f g i):=by
 unfold Rd.ident
 refine(zkB h).bind fun s j h1 h2=>InR.ite (fun hs=>(zpi hf hg s (zaE hs)).le (by omega)) fun _=>?_
 split <;> exact⟨h1,h2⟩
theorem zvw{i:Nat}(h:R.neg i=true):i+1<R.K.length:=by
 unfold Rd.neg at h
 exact ze3 (Bool.and_eq_true_iff.1 h).2
theorem zul{f g:Nat->PR Ex}(hf:∀i,i≤R.K.length->InR R.K.length (i+1) (f i))(hg:∀i,i≤R.K.length->InR R.K.length (i+1) (g i)){i:Nat}(h:i≤R.K.length):InR R.K.length (i+1) (R.prim f g i):=by
 unfold Rd.prim
 refine InR.ite (fun hs=>⟨by omega,zvw hs⟩) fun _=>InR.ite (fun hs=>⟨zaE hs,by decide⟩) fun _=>InR.ite (fun hs=>InR.ite (fun _=>⟨h,by decide⟩) fun _=>⟨qae _,ze3 hs⟩) fun _=>
  InR.ite (fun hs=>⟨qae _,ze3 hs⟩) fun _=>InR.ite (fun hs=>⟨qae _,zaE hs⟩) fun _=>InR.ite (fun hs=>⟨qae _,zaE hs⟩) fun _=>
  InR.ite (fun hs=>(hf _ (zaE hs)).bind fun e j h1 h2=>(zbN _ h2).bind fun _ j h3 h4=>⟨by omega,h4⟩) fun _=>
  InR.ite (fun hs=>(hf _ (zaE hs)).bind fun e j h1 h2=>(zbN _ h2).bind fun _ j h3 h4=>(hf _ h4).bind fun e j h5 h6=>(zbN _ h6).bind fun _ j h7 h8=>(hf _ h8).bind fun e j h9 h10=>⟨by omega,h10⟩) fun _=>
  InR.ite (fun hs=>(znk hf (zaE hs)).le (by omega)) fun _=>zrQ hf hg h
theorem zd9:∀(m:Nat) (g:G) {i:Nat},i≤R.K.length->InR R.K.length (i+1) (pF R m g i)
 | 0,g,i,h=>⟨h,by decide⟩
 | m+1,.expr,i,h=>by
   unfold pF
   refine(zd9 m _ h).bind fun a j h1 h2=>InR.ite (fun hs=>(zd9 m _ (zaE hs)).bind fun b k h3 h4=>⟨by omega,h4⟩) fun _=>InR.ite (fun hs=>(zd9 m _ (zaE hs)).bind fun b k h3 h4=>⟨by omega,h4⟩) fun _=>⟨h1,h2⟩
 | m+1,.level n,i,h=>by
   unfold pF
   refine InR.ite (fun _=>InR.ite (fun hs=>(zd9 m _ (zaE hs)).bind fun b k h3 h4=>⟨by omega,h4⟩) fun _=>zd9 m _ h) fun _=>InR.ite (fun _=>zd9 m _ h) fun _=>(zd9 m _ h).bind fun a j h1 h2=>(zs6 (fun i hi=>zd9 m _ hi) n _ a h2).le h1
 | m+1,.unary,i,h=>by
   unfold pF
   refine InR.ite (fun hs=>(zd9 m _ (zaE hs.2)).bind fun b k h3 h4=>⟨by omega,h4⟩) fun _=>InR.ite (fun hs=>(zd9 m _ (zaE hs.2)).bind fun b k h3 h4=>⟨by omega,h4⟩) fun _=>(zd9 m _ h).bind fun e j h1 h2=>(znR _ e h2).le h1
 | m+1,.prim,i,h=>by
   unfold pF
   exact zul (fun i hi=>zd9 m _ hi) (fun i hi=>zd9 m _ hi) h
end
end Go.Proofs.YthmbhfgflijapaaGreatDoor
namespace Go.TL
open Go
section rules
variable {P:Program}{all:Array Oper}
def allH(Q:Heap->Prop):List Heap->Prop
 | []=>True
 | H::l=>Q H/\allH Q l
theorem zmO{Q:Heap->Prop}:∀ {l:List Heap},allH Q l->∀H∈l,Q H
 | [],_,H,h=>by cases h
 | x::l,h,H,hm=>by
   rcases qa2.1 hm with rfl|hm
   ·exact h.1
   ·exact zmO h.2 H hm
def atG(c:Nat)(g:Prop)(i:Nat):Prop:=bif Nat.beq i c then g else True
def zi8(P:Program)(n:Nat)(K:TK)(c:Nat)(g:Prop)(all:Array Oper)(full:Env)(G:List Heap):Nat->List Oper->List (SV×Nat×Nat)->List Heap->Prop
 | _,[],[],_=>True
 | i,o::l,(v,lo,hi)::t,hs=>bif Nat.blt hi lo then(match hs with
    | H1::H2::hs=>(∀env,TO false P n all [o] (zaM full (slotsOf all o)++env) H1 (NKP K (atG c g i) (putE o.dst v (zaM full (slotsOf all o)++env)) H2))/\zi8 P n K c g all full G (i+1) l t (H2::hs)
    | _=>False)
   else allH (fun H=>∀env,TO false P n all [o] (zaM full (slotsOf all o)++env) H (NKP K (atG c g i) (putE o.dst v (zaM full (slotsOf all o)++env)) H)) ((G.drop lo).take (hi+1-lo))/\zi8 P n K c g all full G (i+1) l t hs
 | _,_,_,_=>False
abbrev efX (x:SV×Nat×Nat):Bool:=Nat.blt x.2.2 x.2.1
def effX(t:List (SV×Nat×Nat))(i:Nat):Nat:=((t.take i).filter efX).length
theorem zi8.get{n:Nat}{K:TK}{c:Nat}{g:Prop}{full:Env}{G:List Heap}:∀ {l:List Oper} {t:List (SV×Nat×Nat)} {hs:List Heap} {k:Nat},zi8 P n K c g all full G k l t hs->l.length=t.length/\∀(i:Nat) o x,l[i]?=some o->t[i]?=some x->
   (efX x=false->allH (fun H=>∀env,TO false P n all [o] (zaM full (slotsOf all o)++env) H (NKP K (atG c g (k+i)) (putE o.dst x.1 (zaM full (slotsOf all o)++env)) H)) ((G.drop x.2.1).take (x.2.2+1-x.2.1)))/\
   (efX x=true->∃H1 H2,hs[effX t i]?=some H1/\hs[effX t i+1]?=some H2/\∀env,TO false P n all [o] (zaM full (slotsOf all o)++env) H1 (NKP K (atG c g (k+i)) (putE o.dst x.1 (zaM full (slotsOf all o)++env)) H2))
 | [],[],hs,k,_=>by simp
 | o::l,(v,lo,hi)::t,hs,k,h=>by
   simp only[zi8]at h
   cases hb:Nat.blt hi lo with
   | false=>
     rw[hb]at h
     obtain⟨h1,h2⟩:=h
     obtain⟨g1,g2⟩:=zi8.get h2
     refine⟨by simp[g1],fun i o' x' ho hv=>?_⟩
     cases i with
     | zero=>simp at ho hv;subst hv;subst ho;exact⟨fun _=>h1,fun e=>by rw[show efX (v,lo,hi)=Nat.blt hi lo from rfl,hb]at e;cases e⟩
     | succ i=>
       have:=g2 i o' x' (by simpa using ho) (by simpa using hv)
       have e:effX ((v,lo,hi)::t) (i+1)=effX t i:=by simp[effX,efX,hb]
       rw[e,show k+(i+1)=k+1+i by omega]
       exact this
   | true=>
     rw[hb]at h
     match hs,h with
     | H1::H2::hs,h=>
       obtain⟨h1,h2⟩:=h
       obtain⟨g1,g2⟩:=zi8.get h2
       refine⟨by simp[g1],fun i o' x' ho hv=>?_⟩
       cases i with
       | zero=>simp at ho hv;subst hv;subst ho;exact⟨fun e=>by(rw[show efX (v,lo,hi)=Nat.blt hi lo from rfl,hb]at e;cases e),fun _=>⟨H1,H2,rfl,rfl,h1⟩⟩
       | succ i=>
         have:=g2 i o' x' (by simpa using ho) (by simpa using hv)
         have e:effX ((v,lo,hi)::t) (i+1)=effX t i+1:=by simp[effX,efX,hb]
         rw[e,show k+(i+1)=k+1+i by omega]
         simpa using this
     | [],h=>exact h.elim
     | [_],h=>exact h.elim
 | [],_::_,_,_,h=>by exact h.elim
 | _::_,[],_,_,h=>by exact h.elim
def zs8(ops:Array Oper)(t:List (Nat×Nat))(m:Nat):Bool:=
 (List.range t.length).all fun i=>match t[i]? with
   | some x=>Nat.blt x.2 x.1 || (List.range m).all fun c=>!okC ops (t.map fun x=>Nat.blt x.2 x.1) i c || (Nat.ble x.1 c && Nat.ble c x.2)
   | none=>true
theorem TR.zur(c:Nat){g:Prop}{n:Nat}{env0 envF:Env}{H0 HF:Heap}{K:TK}{id':Nat}{l:List Oper}(t:List (SV×Nat×Nat))(hs:List Heap)(hm:P.follows .mixedOrders=true)
  (hB:(mixB l.toArray ((t.map (·.2)).map fun x=>Nat.blt x.2 x.1) && zs8 l.toArray (t.map (·.2)) hs.length)=true)(h0:hs[0]?=some H0)
  (hp:zi8 P n K c g l.toArray (zbT l.toArray (t.map (·.1)) env0) hs 0 l t hs)(hc:Nat.blt c l.length=true)(hF:hs[(t.filter efX).length]?=some HF)(hE:zbK (zbT l.toArray (t.map (·.1)) env0)=some envF)(hK:g->K .normal envF HF):
  TR P n (.region id' l.toArray true) env0 H0 K:=by
 obtain⟨g1,g2⟩:=hp.get
 rw[qau]at hB
 obtain⟨hB,hR⟩:=hB
 have hfl:(t.map (·.2)).map (fun x=>Nat.blt x.2 x.1)=t.map efX:=by rw[qa8];rfl
 rw[hfl]at hB
 intro φ m a h1 h2 h3 h4
 have hef:∀i,((t.map efX).take i |>.filter id).length=effX t i:=by
  intro i
  unfold effX
  rw[<-qbH,qcE,qab]
  rfl
 have hall:((t.map efX).filter id).length=(t.filter efX).length:=by
  rw[qcE,qab];rfl
 have s0:Step m ⟨m.A,m.β,m.H,{ m.w with drawn:=m.w.drawn+1 }⟩/\HRel ⟨m.A,m.β,m.H,{ m.w with drawn:=m.w.drawn+1 }⟩:=zcJ h2 ⟨rfl,rfl,rfl,qae _,fun _ _=>rfl⟩
 refine zbs (wpIn_region_any hm ?_)
 refine zfe [] (G:=fun i=>atG c g (0+i)) (vs:=t.map (·.1)) (fl:=t.map efX) (hs:=hs) (m0:=m) (fun t ht=>by cases ht) hB (by simp[g1]) (by simp[g1]) ?_ ?_ (by rw[hall];exact hF) (fun hG=>by
   rw[zba hE]at hK
   have:=hG c (by have:=qag hc;simp;omega)
   unfold atG at this
   rw[qaU,show Nat.beq c c=true from qcH c]at this
   exact hK this) l.toArray.size (Array.replicate l.toArray.size false)
  ⟨m.A,m.β,m.H,{ m.w with drawn:=m.w.drawn+1 }⟩ a (by simp) ?_ ?_ ?_ s0.1 s0.2 ?_ (h4.step h2 s0.1)
 ·intro i o v ho hv hb k H hk hok env
  obtain⟨x,hx,rfl⟩:∃x,t[i]?=some x/\x.1=v:=by simpa using hv
  have hb':efX x=false:=by
   exact zwfa
  have h5:=(g2 i o x (by simpa using ho) hx).1 hb'
  have hil:=(qaa.1 hx).1
  have hr:=qaw.1 hR i (by simpa using hil)
  rw[qar,hx]at hr
  simp only[qaW]at hr
  rw[show Nat.blt x.2.2 x.2.1=false from hb',qb5]at hr
  have hkl:=(qaa.1 hk).1
  have hr:=qaw.1 hr k (by simpa using hkl)
  rw[hfl,hok,qci,qb5,qau]at hr
  have r1:=qag hr.1
  have r2:=qag hr.2
  refine zmO h5 H ?_ env
  refine qas (i:=k-x.2.1) ?_
  rw[qaS,if_pos (by omega),qa6,show x.2.1+(k-x.2.1)=k by omega]
  exact hk
 ·intro i o v ho hv hb
  obtain⟨x,hx,rfl⟩:∃x,t[i]?=some x/\x.1=v:=by simpa using hv
  have hb':efX x=true:=by
   exact zwfa
  have:=(g2 i o x (by simpa using ho) hx).2 hb'
  rw[hef]
  exact this
 ·exact zwfd
 ·exact zwcn
 ·exact zwca
 ·exact zwi
end rules
end Go.TL
