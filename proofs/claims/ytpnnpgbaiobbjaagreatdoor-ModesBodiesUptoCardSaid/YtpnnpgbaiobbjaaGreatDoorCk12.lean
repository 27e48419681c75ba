import Derived.Test.YtpnnpgbaiobbjaaGreatDoorCk11
set_option linter.all false
namespace Go.Proofs.YtpnnpgbaiobbjaaGreatDoor
open Go Go.TL
attribute [local irreducible] TR TO Then zao RetK Sound zab Kf GG za1
def zn1(k:Int):Bool:=decide (k=2) || decide (k=8) || decide (k=9) || decide (k=10)
def zoD(k o t v n:Int):Bool:=
 if k=1\/k=2\/k=11 then decide (n=0)
 else if k=3 then(if o=1\/o=2 then decide (n=1) else decide (n=2))
 else if k=4 then decide (n=3)
 else if k=5\/k=8 then decide (n=1)
 else if k=6\/k=7 then decide (n=2)
 else if k=9 then(if t=1 then decide (n=2) else decide (1≤n) && decide (n≤16))
 else decide (1≤n) || decide (v=0)
def zkX(k o t v:Int)(nm:Str)(n:Int):Bool:=
 if k<1\/11<k\/zoD k o t v n=false then false
 else if(decide (k=3) != decide (o≠0))=true\/(o≠0/\(o<1\/16<o)) then false
 else if zn1 k=false/\k≠11/\nm≠ [] then false
 else if k=1 then(if t=2 then decide (-32768≤v) && decide (v≤32767) else tagI t v)
 else if k=8 then tagI t v
 else if k=9 then(decide (t=1) || decide (2<t)) && decide (v=0)
 else if k=10 then decide (t=0) && (decide (v=0) || decide (v=1))
 else if k=11 then decide (t=0) && decide (v=0) && decide ((zgT nm).2=0)
 else decide (t=0) && decide (v=0)
def oneX(x:Ex):Int:=oneI x.kind.1 x.op.1 x.t.1 x.v.1 x.name x.args.length
def zaf{α:Type}(g:α->Int):List α->Int
 | []=>0
 | x::l=>if g x=0 then zaf g l else g x
theorem zcM{α:Type}(g:α->Int):∀(a b:List α),zaf g (a++b)=if zaf g a=0 then zaf g b else zaf g a
 | [],b=>by simp[zaf]
 | x::a,b=>by
   simp only[qbv,zaf]
   by_cases h:g x=0
   ·simp only[h,if_true];exact zcM g a b
   ·simp[h]
def zho(e:Ex):Int:=if 400<wEx e\/32<zaY e then 3 else zaf oneX (flat e)
theorem zo8(x:Ex):Pure Tryz.prog 260 [.t (.ag (exC x))] (.i (oneX x)):=by
 have:=zrf x.kind.1 x.op.1 x.t.1 x.v.1 x.name (x.args.map exT)
 rw[qaa]at this
 exact this
def errF(g:Ex->Int)(_:List Ex)(x:Ex):Out:=if g x=0 then .go else .jump .ret [.cells [.i (g x)]]
theorem zj1(g:Ex->Int):∀(l pre:List Ex),za8 (errF g) pre l=if zaf g l=0 then .go else .jump .ret [.cells [.i (zaf g l)]]
 | [],pre=>by simp[za8,zaf]
 | x::l,pre=>by
   simp only[za8,errF,zaf]
   by_cases h:g x=0
   ·simp only[h,if_true];exact zj1 g l _
   ·simp[h]
theorem zkA(e:Ex)(h:wEx e≤1000000000):Pure Tryz.prog 205 [.t (exT e)] (.i (zho e)):=by
 have hsz:=zm2 e h
 have hdp:=zmh e h
 have hs:=zcj e
 rw[zax]at*
 have hc0:exC e=[T.n e.kind,T.n e.op,T.n e.t,T.n e.v,.s e.name,.sl 6 (e.args.map exT)]:=rfl
 rw[hc0]at hs hsz hdp⊢
 unfold zho
 refine so Tryz.func205 ?_
 by_cases h1:400<wEx e\/32<zaY e
 ·rw[if_pos h1]
  repeat' (first|refine wkb ?_|refine wk ?_|exact wkc|intro hc|refine wk2 ?_ ?_|refine wv hsz ?_|refine wv hdp ?_|fail)
  all_goals exact wkr
 ·rw[if_neg h1]
  repeat' (first|refine wkb ?_|refine wk ?_|exact wkc|intro hc|refine wk2 ?_ ?_|refine wv hsz ?_|refine wv hdp ?_|refine wv hs ?_|fail)
  refine TR.zcY e (fun _=>[.cells [.i 0]]) (errF oneX) rfl h rfl rfl rfl (fun _=>⟨rfl,rfl⟩) (fun pre x=>?_) (fun fn pre x post hw=>?_) (fun fn=>?_)
  ·exact zweb
  ·have ho:=zo8 x
   exact zwm
  ·rw[zj1]
   by_cases h2:zaf oneX (flat e)=0
   ·exact zwdq
   ·exact zwdh
theorem zuE(k o t v:Int)(nm:Str)(n:Int)(hn:0≤n):oneI k o t v nm n=if 64<n then 3 else if zkX k o t v nm n=false then 5 else if zn1 k=true/\ident nm=false then 6 else 0:=by
 unfold oneI
 by_cases h64:64<n
 ·rw[if_pos h64,if_pos h64]
 rw[if_neg h64,if_neg h64]
 have hk:k=1\/k=2\/k=3\/k=4\/k=5\/k=6\/k=7\/k=8\/k=9\/k=10\/k=11\/(k<1\/11<k):=by omega
 generalize ident nm=id
 generalize hw:(zgT nm).2=w
 have hv:v=0\/v=1\/(v≠0/\v≠1):=by omega
 rcases hk with rfl|rfl|rfl|rfl|rfl|rfl|rfl|rfl|rfl|rfl|rfl|hk
 case inr.inr.inr.inr.inr.inr.inr.inr.inr.inl=>rcases hv with rfl|rfl|hv <;> grind [ofF,zkX,zoD,zn1,opdI,tagI,zpC]
 case inr.inr.inr.inr.inr.inr.inr.inr.inr.inr.inr=>
  have e1:ofF k o t v n=⟨false,false,false,false,false⟩:=by unfold ofF;repeat' (first|rw[if_neg (by omega)]|fail)
  have e2:zkX k o t v nm n=false:=by unfold zkX;rw[if_pos (by omega)]
  rw[e1,e2]
  simp
 all_goals(clear hv;grind [ofF,zkX,zoD,zn1,opdI,tagI,zpC])
def insI(es:List En)(k t v n:Int):Int:=
 if k=1\/k=8\/k=9 then(if zcZ es t=0 then 10 else if k≠9/\hasT es t v=false then 14 else if k=9/\n≠zcZ es t then 9 else 0) else 0
def insX(es:List En)(x:Ex):Int:=insI es x.kind.1 x.t.1 x.v.1 x.args.length
def zca(es:List En)(e:Ex):Int:=if zho e=0 then zaf (insX es) (flat e) else zho e
theorem zm3(es:List En)(t:Int):0≤zcZ es t:=by
 unfold zcZ;repeat' split
 all_goals omega
theorem zo0(es:List En)(x:Ex):Pure Tryz.prog 206 [.t (ensT es),.t (.ag (exC x))] (.i (insX es x)):=by
 have hs:=zgf es x.t
 have hh:=zk2 es x.t x.v
 have hnn:=zm3 es x.t.1
 have hcx:exC x=[T.n x.kind,T.n x.op,T.n x.t,T.n x.v,.s x.name,.sl 6 (x.args.map exT)]:=rfl
 have hmx:(x.args.map exT).length=x.args.length:=qaa _
 rw[hcx]
 unfold insX insI
 generalize zcZ es x.t.1=sz at*
 generalize hasT es x.t.1 x.v.1=hb at*
 refine so Tryz.func206 ?_
 repeat' (first|refine wu ?_|exact wkc|intro hc|refine wk2 ?_ ?_|refine wv hs ?_|refine wb hh ?_ ?_|fail)
 all_goals
  clear hs hh hcx
  refine RetK.pure rfl (Le.of_eq ?_) rfl
  refine congrArg (fun z=>SV.t (T.v (Value.int IntKind.i64 z))) ?_
  grind
theorem zdO(es:List En)(e:Ex)(h:wEx e≤1000000000):Pure Tryz.prog 127 [.t (ensT es),.t (exT e)] (.i (zca es e)):=by
 have hck:=zkA e h
 have hs:=zcj e
 rw[zax]at*
 have hc0:exC e=[T.n e.kind,T.n e.op,T.n e.t,T.n e.v,.s e.name,.sl 6 (e.args.map exT)]:=rfl
 rw[hc0]at hs hck⊢
 unfold zca
 refine so Tryz.func127 ?_
 by_cases h1:zho e=0
 ·rw[if_pos h1]
  repeat' (first|refine wkb ?_|refine wk ?_|exact wkc|intro hc|refine wk2 ?_ ?_|refine wv hck ?_|refine wv hs ?_|fail)
  refine TR.zcY e (fun _=>[.cells [.i 0]]) (errF (insX es)) rfl h rfl rfl rfl (fun _=>⟨rfl,rfl⟩) (fun pre x=>?_) (fun fn pre x post hw=>?_) (fun fn=>?_)
  ·exact zweb
  ·have ho:=zo0 es x
   exact zwm
  ·rw[zj1]
   by_cases h2:zaf (insX es) (flat e)=0
   ·exact zwdq
   ·exact zwdh
 ·rw[if_neg h1]
  repeat' (first|refine wkb ?_|refine wk ?_|exact wkc|intro hc|refine wk2 ?_ ?_|refine wv hck ?_|refine wv hs ?_|fail)
  exact wkr
def idxI{α:Type}(p:α->Bool):List α->Int
 | []=>-1
 | x::l=>if p x then 0 else if idxI p l<0 then -1 else idxI p l+1
theorem zeq{α:Type}(p:α->Bool):∀(l:List α) (k:Nat) (h:k<l.length),(l.take k).all (fun x=>!p x)=true->p l[k]=true->idxI p l=k
 | x::l,0,_,_,hp=>by simp at hp;simp[idxI,hp]
 | x::l,k+1,h,ha,hp=>by
   simp only[qaM,qbH,qaA,qbV]at ha
   have:=zeq p l k (by simpa using h) ha.2 (by simpa using hp)
   rw[idxI,if_neg (by simp[ha.1]),this,if_neg (by omega)]
   omega
theorem zer{α:Type}(p:α->Bool):∀(l:List α),l.all (fun x=>!p x)=true->idxI p l= -1
 | [],_=>rfl
 | x::l,ha=>by
   simp only[qbH,qaA,qbV]at ha
   rw[idxI,if_neg (by simp[ha.1]),zer p l ha.2]
   rfl
theorem zdB{α:Type}(p:α->Bool):∀(l:List α),idxI p l= -1\/∃k:Nat,∃h:k<l.length,idxI p l=k/\p l[k]=true
 | []=>.inl rfl
 | x::l=>by
   unfold idxI
   by_cases hx:p x=true
   ·rw[if_pos hx];exact .inr ⟨0,by simp,rfl,by simpa using hx⟩
   ·rw[if_neg hx]
    rcases zdB p l with h|⟨k,hk,h,hp⟩
    ·rw[h];exact .inl rfl
    ·rw[h,if_neg (by omega)]
     exact .inr ⟨k+1,by simpa using hk,by omega,by simpa using hp⟩
abbrev zad (l:List Decl):T:=.sl 3 (l.map zaa)
abbrev zaB (l:List Nod):T:=.sl 8 (l.map nodT)
theorem zdU(fid:FuncId)(caps:List SV)(hcaps:unders 0 caps=true)(p:Decl->Bool)(l:List Decl)(hl:l.length≤1000000000)(hp:∀d,Pure Tryz.prog fid (.t (zaa d)::caps) (.b (p d))):
  Pure Tryz.prog 116 [.t (zad l),.fn fid caps] (.i (idxI p l)):=by
 have hml:(l.map zaa).length=l.length:=qaa _
 refine so Tryz.func116 ?_
 repeat' (first|refine wk ?_|exact wkc|intro hc|refine wk2 ?_ ?_|fail)
 refine TR.zal l.length (fun k=>(l.take k).all (fun x=>!p x)=true) (fun k=>[(0,.t (zad l)),(1,.fn fid caps),(7,.i l.length),(8,.i k)]) (fun _=>[]) rfl (fun k hlt ha=>?_) (fun ha=>?_) ⟨rfl,rfl,by rw[<-hml];rfl,rfl,trivial⟩
 ·have hx:=zas zaa hlt
  have htk:=zbO hlt
  have hat:=zeq p l k hlt ha
  have hd:=hp l[k]
  generalize l[k]=d at hx htk hat hd
  have hu:unders 0 (.t (zaa d)::caps)=true:=by simp[unders,SV.under,hcaps]
  repeat' (first|refine wk ?_|exact wkc|intro hc|refine wk2 ?_ ?_|(apply TO.ze0 hd;(iterate 3 exact rfl);exact Les.refl _;exact hu;exact rfl)|fail)
  ·rw[hat hc];exact wkr
  ·exact zwfv
 ·exact zwcs
theorem zjL(fid:FuncId)(caps:List SV)(hcaps:unders 0 caps=true)(p:Nod->Bool)(l:List Nod)(hl:l.length≤1000000000)(hp:∀d,Pure Tryz.prog fid (.t (nodT d)::caps) (.b (p d))):
  Pure Tryz.prog 97 [.t (zaB l),.fn fid caps] (.i (idxI p l)):=by
 have hml:(l.map nodT).length=l.length:=qaa _
 refine so Tryz.func97 ?_
 repeat' (first|refine wk ?_|exact wkc|intro hc|refine wk2 ?_ ?_|fail)
 refine TR.zal l.length (fun k=>(l.take k).all (fun x=>!p x)=true) (fun k=>[(0,.t (zaB l)),(1,.fn fid caps),(7,.i l.length),(8,.i k)]) (fun _=>[]) rfl (fun k hlt ha=>?_) (fun ha=>?_) ⟨rfl,rfl,by rw[<-hml];rfl,rfl,trivial⟩
 ·have hx:=zas nodT hlt
  have htk:=zbO hlt
  have hat:=zeq p l k hlt ha
  have hd:=hp l[k]
  generalize l[k]=d at hx htk hat hd
  have hu:unders 0 (.t (nodT d)::caps)=true:=by simp[unders,SV.under,hcaps]
  repeat' (first|refine wk ?_|exact wkc|intro hc|refine wk2 ?_ ?_|(apply TO.ze0 hd;(iterate 3 exact rfl);exact Les.refl _;exact hu;exact rfl)|fail)
  ·rw[hat hc];exact wkr
  ·exact zwfv
 ·exact zwcs
theorem zhv(d:Decl)(nm:Str):Pure Tryz.prog 170 [.t (zaa d),.cp [.s nm] 0] (.b (d.name == nm)):=by
 have hd:zaa d= .ag [.s d.name,T.n d.ty,.sl 3 (d.clock.map onT)]:=rfl
 rw[hd]
 refine so Tryz.func170 ?_
 repeat' (first|refine wu ?_|exact wkc|intro hc|refine wk2 ?_ ?_|fail)
 all_goals try(refine RetK.pure rfl ?_ rfl;exact Le.of_eq (by simp_all [pack,zaa] <;> omega))
theorem zix(d:Nod)(nm:Str):Pure Tryz.prog 296 [.t (nodT d),.cp [.s nm] 0] (.b (d.name == nm)):=by
 have hd:nodT d= .ag [.s d.name,zad d.ins,zad d.outs,zad d.locals,.sl 7 (d.eqs.map equT),.sl 1 (d.autos.map zae),.sl 6 (d.assume.map exT),.sl 6 (d.ensure.map exT)]:=rfl
 rw[hd]
 refine so Tryz.func296 ?_
 repeat' (first|refine wu ?_|exact wkc|intro hc|refine wk2 ?_ ?_|fail)
 all_goals try(refine RetK.pure rfl ?_ rfl;exact Le.of_eq (by simp_all [pack,nodT] <;> omega))
def zc2:List Decl->Str->Int×Bool
 | [],_=>(0,false)
 | d::l,nm=>if d.name=nm then(d.ty.1,true) else zc2 l nm
theorem zle(nm:Str):∀(l:List Decl),(idxI (fun d=>d.name == nm) l= -1/\zc2 l nm=(0,false))\/∃k:Nat,∃h:k<l.length,idxI (fun d=>d.name == nm) l=k/\zc2 l nm=(l[k].ty.1,true)
 | []=>.inl ⟨rfl,rfl⟩
 | d::l=>by
   unfold idxI zc2
   by_cases hd:d.name=nm
   ·rw[if_pos hd,if_pos (by simpa using hd)]
    exact .inr ⟨0,by simp,rfl,rfl⟩
   ·rw[if_neg hd,if_neg (by simpa using hd)]
    rcases zle nm l with ⟨h1,h2⟩|⟨k,hk,h1,h2⟩
    ·rw[h1,h2];exact .inl ⟨rfl,rfl⟩
    ·rw[h1,h2,if_neg (by omega)]
     exact .inr ⟨k+1,by simpa using hk,by omega,rfl⟩
structure Plc where
 p:Prog
 node:I64
 env:List Decl
def plcC(w:Plc):List T:=[.sl 2 (w.p.enums.map enT),zaB w.p.nodes,T.n w.node,zad w.env]
abbrev plcT (w:Plc):T:=.ag (plcC w)
theorem zez(w:Plc)(nm:Str)(hl:w.env.length≤1000000000):Pure Tryz.prog 111 [.t (plcT w),.s nm] (.tup [.i (zc2 w.env nm).1,.b (zc2 w.env nm).2]):=by
 have hs:=zdU 170 [.cp [.s nm] 0] rfl (fun d=>d.name == nm) w.env hl (fun d=>zhv d nm)
 unfold plcT plcC
 rcases zle nm w.env with ⟨h1,h2⟩|⟨k,hk,h1,h2⟩
 ·rw[h1]at hs
  rw[h2]
  exact zwcv
 ·rw[h1]at hs
  rw[h2]
  have hx:=zas zaa hk
  generalize w.env[k]=d at hx
  have hd:zaa d= .ag [.s d.name,T.n d.ty,.sl 3 (d.clock.map onT)]:=rfl
  rw[hd]at hx
  exact zwcv
def zhp(env:List Decl)(nm:Str)(t:Int):Int:=if(zc2 env nm).2=false then 6 else if(zc2 env nm).1≠t then 10 else 0
theorem zkB(w:Plc)(nm:Str)(t:Int)(hl:w.env.length≤1000000000):Pure Tryz.prog 168 [.t (plcT w),.s nm,.i t] (.i (zhp w.env nm t)):=by
 have hs:=zez w nm hl
 unfold zhp
 generalize zc2 w.env nm=u at*
 obtain⟨u1,u2⟩:=u
 unfold plcT plcC at*
 cases u2
 all_goals
  refine so Tryz.func168 ?_
  repeat' (first|refine wu ?_|exact wkc|intro hc|refine wk2 ?_ ?_|refine wv hs ?_|fail)
  all_goals
   refine RetK.pure rfl (Le.of_eq ?_) rfl
   simp_all [pack]
def zkR(l:List Int):Bool:=l.all fun t=>decide (t=l.headD 0)
theorem zhA(l:List Int)(hl:l.length≤1000000000):Pure Tryz.prog 167 [.t (zeS l)] (.b (zkR l)):=by
 have hml:(l.map T.i).length=l.length:=qaa _
 unfold zkR
 refine so Tryz.func167 ?_
 repeat' (first|refine wk ?_|exact wkc|intro hc|refine wk2 ?_ ?_|fail)
 refine TR.zal l.length (fun k=>(l.take k).all (fun t=>decide (t=l.headD 0))=true) (fun k=>[(0,.t (zeS l)),(5,.t (zeS l)),(6,.i l.length),(7,.i k)]) (fun _=>[]) rfl (fun k hlt ha=>?_) (fun ha=>?_) ⟨rfl,rfl,by rw[<-hml];rfl,rfl,trivial⟩
 ·have hx:=zjt hlt
  have htk:=zbO hlt
  have hm:=qad hlt
  have hx0:(l.map T.i)[(0:Int).toNat]?=some (T.i (l.headD 0)):=by cases l with|nil=>simp at hlt|cons a l=>rfl
  generalize l[k]=t at hx htk hm
  generalize hh:l.headD 0=t0 at*
  repeat' (first|refine wk ?_|exact wkc|intro hc|refine wk2 ?_ ?_|fail)
  ·have:l.all (fun t=>decide (t=t0))=false:=qbX.2 ⟨t,hm,by simpa using hc⟩
   rw[this];exact wkr
  ·exact zwfk
 ·rw[qag]at ha
  exact zwef
def zfx(p:Prog)(nm:Str):Int×Bool:=(max (idxI (fun n=>n.name == nm) p.nodes) 0,decide (0≤idxI (fun n=>n.name == nm) p.nodes))
def zav(p:Prog):List T:=[.sl 2 (p.enums.map enT),zaB p.nodes]
theorem zoV(p:Prog)(nm:Str)(hl:p.nodes.length≤1000000000):Pure Tryz.prog 245 [.t (.ag (zav p)),.s nm] (.tup [.i (zfx p nm).1,.b (zfx p nm).2]):=by
 have hs:=zjL 296 [.cp [.s nm] 0] rfl (fun n=>n.name == nm) p.nodes hl (fun d=>zix d nm)
 unfold zfx zav
 refine so Tryz.func245 ?_
 repeat' (first|refine wu ?_|exact wkc|intro hc|refine wk2 ?_ ?_|refine wv hs ?_|fail)
 all_goals
  refine RetK.pure rfl (Le.of_eq ?_) rfl
  simp_all [pack]
theorem zmt(p:Prog)(nm:Str)(hl:p.nodes.length≤1000000000):Pure Tryz.prog 19 [.t (.ag (zav p)),.s nm] (.tup [.i (zfx p nm).1,.b (zfx p nm).2]):=by
 unfold zfx zav
 have hml:(p.nodes.map nodT).length=p.nodes.length:=qaa _
 refine so Tryz.func19 ?_
 repeat' (first|refine wu ?_|exact wkc|intro hc|refine wk2 ?_ ?_|fail)
 refine TR.zal p.nodes.length (fun k=>(p.nodes.take k).all (fun x=>!(x.name == nm))=true) (fun k=>[(1,.s nm),(2,.cp [.sl 2 (p.enums.map enT),zaB p.nodes] 0),(6,.i k)]) (fun _=>[]) rfl (fun k hlt ha=>?_) (fun ha=>?_)
 ·have hx:=zas nodT hlt
  have htk:=zbO hlt
  have hat:=zeq (fun n:Nod=>n.name == nm) p.nodes k hlt ha
  generalize p.nodes[k]=d at hx htk hat
  have hd:nodT d= .ag [.s d.name,zad d.ins,zad d.outs,zad d.locals,.sl 7 (d.eqs.map equT),.sl 1 (d.autos.map zae),.sl 6 (d.assume.map exT),.sl 6 (d.ensure.map exT)]:=rfl
  rw[hd]at hx
  repeat' (first|refine wu ?_|exact wkc|intro hc|refine wk2 ?_ ?_|fail)
  ·rw[hat (by simpa using hc)]
   rw[show max (k:Int) 0=k from by omega,show decide (0≤(k:Int))=true from by simp]
   exact wkr
  ·exact zwfk
 ·rw[qag]at ha
  rw[zer _ _ ha]
  repeat' (first|refine wu ?_|exact wkc|intro hc|refine wk2 ?_ ?_|fail)
  exact wkr
structure znh (n:Nod):Prop where
 ins:n.ins.length≤100000000
 outs:n.outs.length≤100000000
 locals:n.locals.length≤100000000
structure zcI (w:Plc):Prop where
 nodes:w.p.nodes.length≤100000000
 each:∀n∈w.p.nodes,znh n
 env:w.env.length≤1000000000
def zoZ:List Decl->List Int->Bool
 | d::ds,t::ts=>decide (t=d.ty.1) && zoZ ds ts
 | _,_=>true
def zgL(w:Plc)(e:Ex)(l:List Int)(inner:Bool):List Int×Int:=
 if(zfx w.p e.name).2=false\/w.node.1≤(zfx w.p e.name).1 then([],6) else
 match w.p.nodes[(zfx w.p e.name).1.toNat]? with
 | none=>([],6)
 | some n=>
   if(l.length:Int)≠n.ins.length+e.v.1\/(inner=true/\n.outs.length≠1) then([],9)
   else if zoZ n.ins l=false then([],10)
   else if e.v.1=1/\l.getD n.ins.length 0≠1 then([],10)
   else(n.outs.map (·.ty.1),0)
abbrev nC(d:Nod):List T:=[.s d.name,zad d.ins,zad d.outs,zad d.locals,.sl 7 (d.eqs.map equT),.sl 1 (d.autos.map zae),.sl 6 (d.assume.map exT),.sl 6 (d.ensure.map exT)]
def nodC(d:Nod):List T:=[.s d.name,zad d.ins,zad d.outs,zad d.locals,.sl 7 (d.eqs.map equT),.sl 1 (d.autos.map zae),.sl 6 (d.assume.map exT),.sl 6 (d.ensure.map exT)]
def zeR(d:Decl):List T:=[.s d.name,T.n d.ty,.sl 3 (d.clock.map onT)]
theorem zfe{l:List Nod}{k:Nat}(h:k<l.length):(l.map nodT)[k]?=some (.ag (nodC l[k])):=zas nodT h
theorem zcQ{l:List Decl}{k:Nat}(h:k<l.length):(l.map zaa)[k]?=some (.ag (zeR l[k])):=zas zaa h
theorem zoU{p:Prog}{nm:Str}(h:(zfx p nm).2=true):∃k:Nat,∃hk:k<p.nodes.length,zfx p nm=((k:Int),true):=by
 unfold zfx at h⊢
 rcases zdB (fun n:Nod=>n.name == nm) p.nodes with h1|⟨k,hk,h1,_⟩
 ·rw[h1]at h;simp at h
 ·rw[h1]
  exact⟨k,hk,by simp⟩
theorem zoI(w:Plc)(hw:zcI w)(e:Ex)(l:List Int)(inner:Bool)(hv:e.v.1=0\/e.v.1=1):Pure Tryz.prog 169 [.t (plcT w),.t (.ag (exC e)),.t (zeS l),.b inner] (.tup [.t (zeS (zgL w e l inner).1),.i (zgL w e l inner).2]):=by
 have hs:=zoV w.p e.name (by have:=hw.nodes;omega)
 unfold zgL
 unfold zav at hs
 cases hf:(zfx w.p e.name).2 with
 | false=>
   rw[hf]at hs
   rw[if_pos (.inl rfl)]
   unfold plcT plcC exC
   refine so Tryz.func169 ?_
   repeat' (first|refine wu ?_|exact wkc|intro hc|refine wk2 ?_ ?_|refine wv hs ?_|fail)
   exact wkr
 | true=>
   obtain⟨k,hk,hf'⟩:=zoU hf
   rw[hf']at hs⊢
   simp only[qbG,false_or,qcu,qac hk]at hs⊢
   have hn:=hw.each w.p.nodes[k] (qad hk)
   have hx:=zfe hk
   generalize w.p.nodes[k]=n at hn hx⊢
   have hmi:(n.ins.map zaa).length=n.ins.length:=qaa _
   have hmo:(n.outs.map zaa).length=n.outs.length:=qaa _
   have hml:(l.map T.i).length=l.length:=qaa _
   have hi:=hn.ins
   have ho:=hn.outs
   unfold plcT plcC exC
   unfold nodC at hx
   by_cases hnode:w.node.1≤(k:Int)
   ·rw[if_pos hnode]
    refine so Tryz.func169 ?_
    repeat' (first|refine wu ?_|exact wkc|intro hc|refine wk2 ?_ ?_|refine wv hs ?_|fail)
    exact wkr
   ·rw[if_neg hnode]
    by_cases h9:(l.length:Int)≠n.ins.length+e.v.1\/(inner=true/\n.outs.length≠1)
    ·rw[if_pos h9]
     cases inner
     all_goals
      refine so Tryz.func169 ?_
      repeat' (first|refine wu ?_|exact wkc|intro hc|refine wk2 ?_ ?_|refine wv hs ?_|fail)
      all_goals first
       | exact wkr
       | (exfalso;simp at h9;omega)
    ·rw[if_neg h9]
     have h91:(l.length:Int)=n.ins.length+e.v.1:=by
      refine qaw fun h=>h9 (.inl h)
     have h92:inner=true->n.outs.length=1:=fun h=>qaw fun h'=>h9 (.inr ⟨h,h'⟩)
     clear h9
     have hlb:l.length≤100000001:=by omega
     cases inner
     all_goals
      try replace h92:=h92 rfl
      refine so Tryz.func169 ?_
      repeat' (first|refine wu ?_|exact wkc|intro hc|refine wk2 ?_ ?_|refine wv hs ?_|fail)
      refine TR.zal n.ins.length (fun j=>zoZ n.ins l=zoZ (n.ins.drop j) (l.drop j)) (fun j=>[(2,.t (zeS l)),(5,.cp [T.n e.kind,T.n e.op,T.n e.t,T.n e.v,.s e.name,.sl 6 (e.args.map exT)] 0),(12,.cp (nodC n) 0),(59,.t (zad n.ins)),(60,.i n.ins.length),(61,.i j)]) (fun _=>[]) rfl (fun j hlt ha=>?_) (fun ha=>?_) ⟨rfl,rfl,rfl,rfl,by rw[<-hmi];rfl,rfl,trivial⟩
      ·have hj:j<l.length:=by omega
       have hx1:=zcQ hlt
       have hx2:=zjt hj
       rw[qbn hlt,qbn hj,zoZ]at ha
       generalize n.ins[j]=d at hx1 ha
       generalize l[j]=t at hx2 ha
       unfold zeR at hx1
       rw[ha]
       repeat' (first|refine wu ?_|exact wkc|intro hc|refine wk2 ?_ ?_|fail)
       ·rw[if_pos (by simp[hc])]
        exact wkr
       ·refine zab.zlg 0 hlt ?_ rfl rfl rfl rfl rfl
        simp[show t=d.ty.1 from by simpa using hc]
      ·rw[qa7 (qaf _)]at ha
       rw[show zoZ n.ins l=true from by rw[ha];rfl]
       simp only[qbG,if_false]
       unfold nodC
       have hgo:e.v.1=1->(l.map T.i)[((n.ins.map zaa).length:Int).toNat]?=some (T.i (l.getD n.ins.length 0)):=by
        intro h1
        have:n.ins.length<l.length:=by omega
        rw[hmi]
        simp[this]
       by_cases hb:e.v.1=1/\l.getD n.ins.length 0≠1
       ·rw[if_pos hb]
        have hxx:=hgo hb.1
        repeat' (first|refine wu ?_|exact wkc|intro hc|refine wk2 ?_ ?_|fail)
        all_goals first
         | exact wkr
         | (exfalso;exact hb.2 (by simpa using hc))
         | (exfalso;exact hc hb.1)
       ·rw[if_neg hb]
        have hl1:e.v.1=1->l.getD n.ins.length 0=1:=fun h1=>qaw fun h=>hb ⟨h1,h⟩
        by_cases hv1:e.v.1=1
        all_goals
         try(have hxx:=hgo hv1;rw[hl1 hv1]at hxx)
         clear hgo hb hl1
         repeat' (first|refine wu ?_|exact wkc|intro hc|refine wk2 ?_ ?_|fail)
         refine TR.tail 1 15 rfl ?_
         refine TR.zal n.outs.length (fun _=>True) (fun j=>[(15,.sl 1 (((n.outs.take j).map (·.ty.1)).map T.i) 0),(87,.t (zad n.outs)),(88,.i n.outs.length),(89,.i j)]) (fun j=>[.tail (((n.outs.take j).map (·.ty.1)).map T.i).length]) trivial (fun j hlt _=>?_) (fun _=>?_) ⟨rfl,rfl,by rw[<-hmo];rfl,rfl,trivial⟩
         ·have hx1:=zcQ hlt
          have htk:((n.outs.take (j+1)).map (·.ty.1)).map T.i=((n.outs.take j).map (·.ty.1)).map T.i++[T.i n.outs[j].ty.1]:=by rw[zbO hlt];simp only[qak,qaj,qay]
          have hmk:(((n.outs.take j).map (·.ty.1)).map T.i).length≤100000000:=by simp;omega
          generalize n.outs[j]=d at hx1 htk
          unfold zeR at hx1
          repeat' (first|refine wu ?_|exact wkc|intro hc|refine wk2 ?_ ?_|fail)
          exact zab.zaw hlt trivial (by rw[htk];exact⟨rfl,rfl,rfl,rfl,trivial⟩) (by rw[htk,qae];rfl)
         ·exact zwdk
theorem zhq(l:List T)(hl:l.length≤1000000000):Pure Tryz.prog 109 [.t (.sl 3 l)] (.t (.sl 3 l)):=by
 refine so Tryz.func109 ?_
 repeat' (first|refine wk ?_|fail)
 apply TO.zdA zag (sz:=3)
 ·exact rfl
 ·exact rfl
 ·exact rfl
 ·exact rfl
 ·exact rfl
 ·exact zwdm
 ·exact zwb
theorem zfk(ls:List (List Decl))(hl:ls.length≤1000000)(h0:ls.flatten=[]):
  Pure Tryz.prog 108 [.t (.sl 1 (ls.map dls))] (.t (.v (.slice none 0 0))):=by
 have hml:(ls.map dls).length=ls.length:=qaa _
 have hall:∀k (h:k<ls.length),ls[k]=[]:=fun k h=>List.flatten_eq_nil_iff.1 h0 _ (qad h)
 refine so Tryz.func108 ?_
 repeat' (first|refine wk ?_|exact wkc|intro hc|refine wk2 ?_ ?_|fail)
 refine TR.zal ls.length (fun _=>True) (fun k=>[(0,.t (.sl 1 (ls.map dls))),(3,.i 0),(9,.t (.sl 1 (ls.map dls))),(10,.i ls.length),(11,.i k)]) (fun _=>[]) trivial (fun k hlt _=>?_) (fun _=>?_) ⟨rfl,rfl,rfl,by rw[<-hml];rfl,rfl,trivial⟩
 ·have hx:=zns hlt
  rw[hall k hlt]at hx
  change _=some (T.sl 3 [])at hx
  repeat' (first|refine wk ?_|exact wkc|intro hc|refine wk2 ?_ ?_|fail)
  exact zab.zaw hlt trivial ⟨rfl,rfl,rfl,rfl,rfl,trivial⟩
 ·repeat' (first|refine wk ?_|exact wkc|intro hc|refine wk2 ?_ ?_|refine wv zmy ?_|fail)
  refine TR.zal ls.length (fun _=>True) (fun k=>[(6,.t (.v (.slice none 0 0))),(25,.t (.sl 1 (ls.map dls))),(26,.i ls.length),(27,.i k)]) (fun _=>[]) trivial (fun k hlt _=>?_) (fun _=>?_) ⟨rfl,rfl,by rw[<-hml];rfl,rfl,trivial⟩
  ·have hx:=zns hlt
   rw[hall k hlt]at hx
   change _=some (T.sl 3 [])at hx
   repeat' (first|refine wk ?_|exact wkc|intro hc|refine wk2 ?_ ?_|(apply TO.zlR zag;(iterate 11 exact rfl))|fail)
   exact zab.zaw hlt trivial ⟨rfl,rfl,rfl,rfl,trivial⟩
  ·repeat' (first|refine wk ?_|exact wkc|intro hc|refine wk2 ?_ ?_|fail)
   exact wkr
end Go.Proofs.YtpnnpgbaiobbjaaGreatDoor
