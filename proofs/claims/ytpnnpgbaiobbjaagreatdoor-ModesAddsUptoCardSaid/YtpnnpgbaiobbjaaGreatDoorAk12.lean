import Derived.Test.YtpnnpgbaiobbjaaGreatDoorAk11
set_option linter.all false
namespace Go.Proofs.YtpnnpgbaiobbjaaGreatDoor
open Go Go.TL
attribute [local irreducible] TR TO Then zao RetK Sound zab Kf GG zaZ
def zlp(k:Int):Bool:=decide (k=2) || decide (k=8) || decide (k=9) || decide (k=10)
def zoH(k o t v n:Int):Bool:=
 if k=1\/k=2\/k=11 then decide (n=0)
 else if k=3 then(if o=1\/o=2 then decide (n=1) else decide (n=2))
 else if k=4 then decide (n=3)
 else if k=5\/k=8 then decide (n=1)
 else if k=6\/k=7 then decide (n=2)
 else if k=9 then(if t=1 then decide (n=2) else decide (1≤n) && decide (n≤16))
 else decide (1≤n) || decide (v=0)
def zhI(k o t v:Int)(nm:Str)(n:Int):Bool:=
 if k<1\/11<k\/zoH k o t v n=false then false
 else if(decide (k=3) != decide (o≠0))=true\/(o≠0/\(o<1\/16<o)) then false
 else if zlp k=false/\k≠11/\nm≠ [] then false
 else if k=1 then(if t=2 then decide (-32768≤v) && decide (v≤32767) else tagI t v)
 else if k=8 then tagI t v
 else if k=9 then(decide (t=1) || decide (2<t)) && decide (v=0)
 else if k=10 then decide (t=0) && (decide (v=0) || decide (v=1))
 else if k=11 then decide (t=0) && decide (v=0) && decide ((zgZ nm).2=0)
 else decide (t=0) && decide (v=0)
def oneX(x:Ex):Int:=oneI x.kind.1 x.op.1 x.t.1 x.v.1 x.name x.args.length
def zaf{α:Type}(g:α->Int):List α->Int
 | []=>0
 | x::l=>if g x=0 then zaf g l else g x
theorem zcL{α:Type}(g:α->Int):∀(a b:List α),zaf g (a++b)=if zaf g a=0 then zaf g b else zaf g a
 | [],b=>by simp[zaf]
 | x::a,b=>by
   simp only[qbt,zaf]
   by_cases h:g x=0
   ·simp only[h,if_true];exact zcL g a b
   ·simp[h]
def zgx(e:Ex):Int:=if 400<wEx e\/32<za0 e then 3 else zaf oneX (flat e)
theorem zpf(x:Ex):Pure Tryz.prog 260 [.t (.ag (exC x))] (.i (oneX x)):=by
 have:=zrq x.kind.1 x.op.1 x.t.1 x.v.1 x.name (x.args.map exT)
 rw[qaa]at this
 exact this
def errF(g:Ex->Int)(_:List Ex)(x:Ex):Out:=if g x=0 then .go else .jump .ret [.cells [.i (g x)]]
theorem zke(g:Ex->Int):∀(l pre:List Ex),zbc (errF g) pre l=if zaf g l=0 then .go else .jump .ret [.cells [.i (zaf g l)]]
 | [],pre=>by simp[zbc,zaf]
 | x::l,pre=>by
   simp only[zbc,errF,zaf]
   by_cases h:g x=0
   ·simp only[h,if_true];exact zke g l _
   ·simp[h]
theorem zkJ(e:Ex)(h:wEx e≤1000000000):Pure Tryz.prog 205 [.t (exT e)] (.i (zgx e)):=by
 have hsz:=znb e h
 have hdp:=zmo e h
 have hs:=zcN e
 rw[zay]at*
 have hc0:exC e=[T.n e.kind,T.n e.op,T.n e.t,T.n e.v,.s e.name,.sl 6 (e.args.map exT)]:=rfl
 rw[hc0]at hs hsz hdp⊢
 unfold zgx
 refine so Tryz.func205 ?_
 by_cases h1:400<wEx e\/32<za0 e
 ·rw[if_pos h1]
  repeat' (first|refine wkb ?_|refine wk ?_|exact wkc|intro hc|refine wk2 ?_ ?_|refine wv hsz ?_|refine wv hdp ?_|fail)
  all_goals exact wkr
 ·rw[if_neg h1]
  repeat' (first|refine wkb ?_|refine wk ?_|exact wkc|intro hc|refine wk2 ?_ ?_|refine wv hsz ?_|refine wv hdp ?_|refine wv hs ?_|fail)
  refine TR.zdF e (fun _=>[.cells [.i 0]]) (errF oneX) rfl h rfl rfl rfl (fun _=>⟨rfl,rfl⟩) (fun pre x=>?_) (fun fn pre x post hw=>?_) (fun fn=>?_)
  ·exact zweb
  ·have ho:=zpf x
   exact zwm
  ·rw[zke]
   by_cases h2:zaf oneX (flat e)=0
   ·exact zwdq
   ·exact zwdh
theorem zrp(k o t v:Int)(nm:Str)(n:Int)(hn:0≤n):oneI k o t v nm n=if 64<n then 3 else if zhI k o t v nm n=false then 5 else if zlp k=true/\ident nm=false then 6 else 0:=by
 unfold oneI
 by_cases h64:64<n
 ·rw[if_pos h64,if_pos h64]
 rw[if_neg h64,if_neg h64]
 have hk:k=1\/k=2\/k=3\/k=4\/k=5\/k=6\/k=7\/k=8\/k=9\/k=10\/k=11\/(k<1\/11<k):=by omega
 generalize ident nm=id
 generalize hw:(zgZ nm).2=w
 have hv:v=0\/v=1\/(v≠0/\v≠1):=by omega
 rcases hk with rfl|rfl|rfl|rfl|rfl|rfl|rfl|rfl|rfl|rfl|rfl|hk
 case inr.inr.inr.inr.inr.inr.inr.inr.inr.inl=>rcases hv with rfl|rfl|hv <;> grind [ofF,zhI,zoH,zlp,opdI,tagI,zpI]
 case inr.inr.inr.inr.inr.inr.inr.inr.inr.inr.inr=>
  have e1:ofF k o t v n=⟨false,false,false,false,false⟩:=by unfold ofF;repeat' (first|rw[if_neg (by omega)]|fail)
  have e2:zhI k o t v nm n=false:=by unfold zhI;rw[if_pos (by omega)]
  rw[e1,e2]
  simp
 all_goals(clear hv;grind [ofF,zhI,zoH,zlp,opdI,tagI,zpI])
def insI(es:List En)(k t v n:Int):Int:=
 if k=1\/k=8\/k=9 then(if zcY es t=0 then 10 else if k≠9/\hasT es t v=false then 14 else if k=9/\n≠zcY es t then 9 else 0) else 0
def insX(es:List En)(x:Ex):Int:=insI es x.kind.1 x.t.1 x.v.1 x.args.length
def zbY(es:List En)(e:Ex):Int:=if zgx e=0 then zaf (insX es) (flat e) else zgx e
theorem znc(es:List En)(t:Int):0≤zcY es t:=by
 unfold zcY;repeat' split
 all_goals omega
theorem zo5(es:List En)(x:Ex):Pure Tryz.prog 206 [.t (ensT es),.t (.ag (exC x))] (.i (insX es x)):=by
 have hs:=zgh es x.t
 have hh:=zk9 es x.t x.v
 have hnn:=znc es x.t.1
 have hcx:exC x=[T.n x.kind,T.n x.op,T.n x.t,T.n x.v,.s x.name,.sl 6 (x.args.map exT)]:=rfl
 have hmx:(x.args.map exT).length=x.args.length:=qaa _
 rw[hcx]
 unfold insX insI
 generalize zcY es x.t.1=sz at*
 generalize hasT es x.t.1 x.v.1=hb at*
 refine so Tryz.func206 ?_
 repeat' (first|refine wu ?_|exact wkc|intro hc|refine wk2 ?_ ?_|refine wv hs ?_|refine wb hh ?_ ?_|fail)
 all_goals
  clear hs hh hcx
  refine RetK.pure rfl (Le.of_eq ?_) rfl
  refine congrArg (fun z=>SV.t (T.v (Value.int IntKind.i64 z))) ?_
  grind
theorem zdQ(es:List En)(e:Ex)(h:wEx e≤1000000000):Pure Tryz.prog 127 [.t (ensT es),.t (exT e)] (.i (zbY es e)):=by
 have hck:=zkJ e h
 have hs:=zcN e
 rw[zay]at*
 have hc0:exC e=[T.n e.kind,T.n e.op,T.n e.t,T.n e.v,.s e.name,.sl 6 (e.args.map exT)]:=rfl
 rw[hc0]at hs hck⊢
 unfold zbY
 refine so Tryz.func127 ?_
 by_cases h1:zgx e=0
 ·rw[if_pos h1]
  repeat' (first|refine wkb ?_|refine wk ?_|exact wkc|intro hc|refine wk2 ?_ ?_|refine wv hck ?_|refine wv hs ?_|fail)
  refine TR.zdF e (fun _=>[.cells [.i 0]]) (errF (insX es)) rfl h rfl rfl rfl (fun _=>⟨rfl,rfl⟩) (fun pre x=>?_) (fun fn pre x post hw=>?_) (fun fn=>?_)
  ·exact zweb
  ·have ho:=zo5 es x
   exact zwm
  ·rw[zke]
   by_cases h2:zaf (insX es) (flat e)=0
   ·exact zwdq
   ·exact zwdh
 ·rw[if_neg h1]
  repeat' (first|refine wkb ?_|refine wk ?_|exact wkc|intro hc|refine wk2 ?_ ?_|refine wv hck ?_|refine wv hs ?_|fail)
  exact wkr
def idxI{α:Type}(p:α->Bool):List α->Int
 | []=>-1
 | x::l=>if p x then 0 else if idxI p l<0 then -1 else idxI p l+1
theorem ze6{α:Type}(p:α->Bool):∀(l:List α) (k:Nat) (h:k<l.length),(l.take k).all (fun x=>!p x)=true->p l[k]=true->idxI p l=k
 | x::l,0,_,_,hp=>by simp at hp;simp[idxI,hp]
 | x::l,k+1,h,ha,hp=>by
   simp only[qaM,qbG,qaz,qbX]at ha
   have:=ze6 p l k (by simpa using h) ha.2 (by simpa using hp)
   rw[idxI,if_neg (by simp[ha.1]),this,if_neg (by omega)]
   omega
theorem zfE{α:Type}(p:α->Bool):∀(l:List α),l.all (fun x=>!p x)=true->idxI p l= -1
 | [],_=>rfl
 | x::l,ha=>by
   simp only[qbG,qaz,qbX]at ha
   rw[idxI,if_neg (by simp[ha.1]),zfE p l ha.2]
   rfl
theorem zdA{α:Type}(p:α->Bool):∀(l:List α),idxI p l= -1\/∃k:Nat,∃h:k<l.length,idxI p l=k/\p l[k]=true
 | []=>.inl rfl
 | x::l=>by
   unfold idxI
   by_cases hx:p x=true
   ·rw[if_pos hx];exact .inr ⟨0,by simp,rfl,by simpa using hx⟩
   ·rw[if_neg hx]
    rcases zdA p l with h|⟨k,hk,h,hp⟩
    ·rw[h];exact .inl rfl
    ·rw[h,if_neg (by omega)]
     exact .inr ⟨k+1,by simpa using hk,by omega,by simpa using hp⟩
abbrev zac (l:List Decl):T:=.sl 3 (l.map zaa)
abbrev zaC (l:List Nod):T:=.sl 8 (l.map nodT)
theorem zdX(fid:FuncId)(caps:List SV)(hcaps:unders 0 caps=true)(p:Decl->Bool)(l:List Decl)(hl:l.length≤1000000000)(hp:∀d,Pure Tryz.prog fid (.t (zaa d)::caps) (.b (p d))):
  Pure Tryz.prog 116 [.t (zac l),.fn fid caps] (.i (idxI p l)):=by
 have hml:(l.map zaa).length=l.length:=qaa _
 refine so Tryz.func116 ?_
 repeat' (first|refine wk ?_|exact wkc|intro hc|refine wk2 ?_ ?_|fail)
 refine TR.zal l.length (fun k=>(l.take k).all (fun x=>!p x)=true) (fun k=>[(0,.t (zac l)),(1,.fn fid caps),(7,.i l.length),(8,.i k)]) (fun _=>[]) rfl (fun k hlt ha=>?_) (fun ha=>?_) ⟨rfl,rfl,by rw[<-hml];rfl,rfl,trivial⟩
 ·have hx:=zar zaa hlt
  have htk:=zb0 hlt
  have hat:=ze6 p l k hlt ha
  have hd:=hp l[k]
  generalize l[k]=d at hx htk hat hd
  have hu:unders 0 (.t (zaa d)::caps)=true:=by simp[unders,SV.under,hcaps]
  repeat' (first|refine wk ?_|exact wkc|intro hc|refine wk2 ?_ ?_|(apply TO.zeQ hd;(iterate 3 exact rfl);exact Les.refl _;exact hu;exact rfl)|fail)
  ·rw[hat hc];exact wkr
  ·exact zwfv
 ·exact zwcs
theorem zjV(fid:FuncId)(caps:List SV)(hcaps:unders 0 caps=true)(p:Nod->Bool)(l:List Nod)(hl:l.length≤1000000000)(hp:∀d,Pure Tryz.prog fid (.t (nodT d)::caps) (.b (p d))):
  Pure Tryz.prog 97 [.t (zaC l),.fn fid caps] (.i (idxI p l)):=by
 have hml:(l.map nodT).length=l.length:=qaa _
 refine so Tryz.func97 ?_
 repeat' (first|refine wk ?_|exact wkc|intro hc|refine wk2 ?_ ?_|fail)
 refine TR.zal l.length (fun k=>(l.take k).all (fun x=>!p x)=true) (fun k=>[(0,.t (zaC l)),(1,.fn fid caps),(7,.i l.length),(8,.i k)]) (fun _=>[]) rfl (fun k hlt ha=>?_) (fun ha=>?_) ⟨rfl,rfl,by rw[<-hml];rfl,rfl,trivial⟩
 ·have hx:=zar nodT hlt
  have htk:=zb0 hlt
  have hat:=ze6 p l k hlt ha
  have hd:=hp l[k]
  generalize l[k]=d at hx htk hat hd
  have hu:unders 0 (.t (nodT d)::caps)=true:=by simp[unders,SV.under,hcaps]
  repeat' (first|refine wk ?_|exact wkc|intro hc|refine wk2 ?_ ?_|(apply TO.zeQ hd;(iterate 3 exact rfl);exact Les.refl _;exact hu;exact rfl)|fail)
  ·rw[hat hc];exact wkr
  ·exact zwfv
 ·exact zwcs
theorem zhy(d:Decl)(nm:Str):Pure Tryz.prog 170 [.t (zaa d),.cp [.s nm] 0] (.b (d.name == nm)):=by
 have hd:zaa d= .ag [.s d.name,T.n d.ty,.sl 3 (d.clock.map onT)]:=rfl
 rw[hd]
 refine so Tryz.func170 ?_
 repeat' (first|refine wu ?_|exact wkc|intro hc|refine wk2 ?_ ?_|fail)
 all_goals try(refine RetK.pure rfl ?_ rfl;exact Le.of_eq (by simp_all [pack,zaa] <;> omega))
theorem ziK(d:Nod)(nm:Str):Pure Tryz.prog 296 [.t (nodT d),.cp [.s nm] 0] (.b (d.name == nm)):=by
 have hd:nodT d= .ag [.s d.name,zac d.ins,zac d.outs,zac d.locals,.sl 7 (d.eqs.map equT),.sl 1 (d.autos.map zae),.sl 6 (d.assume.map exT),.sl 6 (d.ensure.map exT)]:=rfl
 rw[hd]
 refine so Tryz.func296 ?_
 repeat' (first|refine wu ?_|exact wkc|intro hc|refine wk2 ?_ ?_|fail)
 all_goals try(refine RetK.pure rfl ?_ rfl;exact Le.of_eq (by simp_all [pack,nodT] <;> omega))
def zc1:List Decl->Str->Int×Bool
 | [],_=>(0,false)
 | d::l,nm=>if d.name=nm then(d.ty.1,true) else zc1 l nm
theorem zln(nm:Str):∀(l:List Decl),(idxI (fun d=>d.name == nm) l= -1/\zc1 l nm=(0,false))\/∃k:Nat,∃h:k<l.length,idxI (fun d=>d.name == nm) l=k/\zc1 l nm=(l[k].ty.1,true)
 | []=>.inl ⟨rfl,rfl⟩
 | d::l=>by
   unfold idxI zc1
   by_cases hd:d.name=nm
   ·rw[if_pos hd,if_pos (by simpa using hd)]
    exact .inr ⟨0,by simp,rfl,rfl⟩
   ·rw[if_neg hd,if_neg (by simpa using hd)]
    rcases zln nm l with ⟨h1,h2⟩|⟨k,hk,h1,h2⟩
    ·rw[h1,h2];exact .inl ⟨rfl,rfl⟩
    ·rw[h1,h2,if_neg (by omega)]
     exact .inr ⟨k+1,by simpa using hk,by omega,rfl⟩
structure Plc where
 p:Prog
 node:I64
 env:List Decl
def plcC(w:Plc):List T:=[.sl 2 (w.p.enums.map enT),zaC w.p.nodes,T.n w.node,zac w.env]
abbrev plcT (w:Plc):T:=.ag (plcC w)
theorem zez(w:Plc)(nm:Str)(hl:w.env.length≤1000000000):Pure Tryz.prog 111 [.t (plcT w),.s nm] (.tup [.i (zc1 w.env nm).1,.b (zc1 w.env nm).2]):=by
 have hs:=zdX 170 [.cp [.s nm] 0] rfl (fun d=>d.name == nm) w.env hl (fun d=>zhy d nm)
 unfold plcT plcC
 rcases zln nm w.env with ⟨h1,h2⟩|⟨k,hk,h1,h2⟩
 ·rw[h1]at hs
  rw[h2]
  exact zwcv
 ·rw[h1]at hs
  rw[h2]
  have hx:=zar zaa hk
  generalize w.env[k]=d at hx
  have hd:zaa d= .ag [.s d.name,T.n d.ty,.sl 3 (d.clock.map onT)]:=rfl
  rw[hd]at hx
  exact zwcv
def zhu(env:List Decl)(nm:Str)(t:Int):Int:=if(zc1 env nm).2=false then 6 else if(zc1 env nm).1≠t then 10 else 0
theorem zkK(w:Plc)(nm:Str)(t:Int)(hl:w.env.length≤1000000000):Pure Tryz.prog 168 [.t (plcT w),.s nm,.i t] (.i (zhu w.env nm t)):=by
 have hs:=zez w nm hl
 unfold zhu
 generalize zc1 w.env nm=u at*
 obtain⟨u1,u2⟩:=u
 unfold plcT plcC at*
 cases u2
 all_goals
  refine so Tryz.func168 ?_
  repeat' (first|refine wu ?_|exact wkc|intro hc|refine wk2 ?_ ?_|refine wv hs ?_|fail)
  all_goals
   refine RetK.pure rfl (Le.of_eq ?_) rfl
   simp_all [pack]
def zkZ(l:List Int):Bool:=l.all fun t=>decide (t=l.headD 0)
theorem zhC(l:List Int)(hl:l.length≤1000000000):Pure Tryz.prog 167 [.t (zeS l)] (.b (zkZ l)):=by
 have hml:(l.map T.i).length=l.length:=qaa _
 unfold zkZ
 refine so Tryz.func167 ?_
 repeat' (first|refine wk ?_|exact wkc|intro hc|refine wk2 ?_ ?_|fail)
 refine TR.zal l.length (fun k=>(l.take k).all (fun t=>decide (t=l.headD 0))=true) (fun k=>[(0,.t (zeS l)),(5,.t (zeS l)),(6,.i l.length),(7,.i k)]) (fun _=>[]) rfl (fun k hlt ha=>?_) (fun ha=>?_) ⟨rfl,rfl,by rw[<-hml];rfl,rfl,trivial⟩
 ·have hx:=zjE hlt
  have htk:=zb0 hlt
  have hm:=qad hlt
  have hx0:(l.map T.i)[(0:Int).toNat]?=some (T.i (l.headD 0)):=by cases l with|nil=>simp at hlt|cons a l=>rfl
  generalize l[k]=t at hx htk hm
  generalize hh:l.headD 0=t0 at*
  repeat' (first|refine wk ?_|exact wkc|intro hc|refine wk2 ?_ ?_|fail)
  ·have:l.all (fun t=>decide (t=t0))=false:=qbZ.2 ⟨t,hm,by simpa using hc⟩
   rw[this];exact wkr
  ·exact zwfi
 ·rw[qah]at ha
  exact zwef
def ziF(p:Prog)(nm:Str):Int×Bool:=(max (idxI (fun n=>n.name == nm) p.nodes) 0,decide (0≤idxI (fun n=>n.name == nm) p.nodes))
def zax(p:Prog):List T:=[.sl 2 (p.enums.map enT),zaC p.nodes]
theorem zo0(p:Prog)(nm:Str)(hl:p.nodes.length≤1000000000):Pure Tryz.prog 245 [.t (.ag (zax p)),.s nm] (.tup [.i (ziF p nm).1,.b (ziF p nm).2]):=by
 have hs:=zjV 296 [.cp [.s nm] 0] rfl (fun n=>n.name == nm) p.nodes hl (fun d=>ziK d nm)
 unfold ziF zax
 refine so Tryz.func245 ?_
 repeat' (first|refine wu ?_|exact wkc|intro hc|refine wk2 ?_ ?_|refine wv hs ?_|fail)
 all_goals
  refine RetK.pure rfl (Le.of_eq ?_) rfl
  simp_all [pack]
structure znq (n:Nod):Prop where
 ins:n.ins.length≤100000000
 outs:n.outs.length≤100000000
 locals:n.locals.length≤100000000
structure zcG (w:Plc):Prop where
 nodes:w.p.nodes.length≤100000000
 each:∀n∈w.p.nodes,znq n
 env:w.env.length≤1000000000
def zo4:List Decl->List Int->Bool
 | d::ds,t::ts=>decide (t=d.ty.1) && zo4 ds ts
 | _,_=>true
def zgR(w:Plc)(e:Ex)(l:List Int)(inner:Bool):List Int×Int:=
 if(ziF w.p e.name).2=false\/w.node.1≤(ziF w.p e.name).1 then([],6) else
 match w.p.nodes[(ziF w.p e.name).1.toNat]? with
 | none=>([],6)
 | some n=>
   if(l.length:Int)≠n.ins.length+e.v.1\/(inner=true/\n.outs.length≠1) then([],9)
   else if zo4 n.ins l=false then([],10)
   else if e.v.1=1/\l.getD n.ins.length 0≠1 then([],10)
   else(n.outs.map (·.ty.1),0)
abbrev nC(d:Nod):List T:=[.s d.name,zac d.ins,zac d.outs,zac d.locals,.sl 7 (d.eqs.map equT),.sl 1 (d.autos.map zae),.sl 6 (d.assume.map exT),.sl 6 (d.ensure.map exT)]
def nodC(d:Nod):List T:=[.s d.name,zac d.ins,zac d.outs,zac d.locals,.sl 7 (d.eqs.map equT),.sl 1 (d.autos.map zae),.sl 6 (d.assume.map exT),.sl 6 (d.ensure.map exT)]
def zeR(d:Decl):List T:=[.s d.name,T.n d.ty,.sl 3 (d.clock.map onT)]
theorem zeV{l:List Nod}{k:Nat}(h:k<l.length):(l.map nodT)[k]?=some (.ag (nodC l[k])):=zar nodT h
theorem zcQ{l:List Decl}{k:Nat}(h:k<l.length):(l.map zaa)[k]?=some (.ag (zeR l[k])):=zar zaa h
theorem zoZ{p:Prog}{nm:Str}(h:(ziF p nm).2=true):∃k:Nat,∃hk:k<p.nodes.length,ziF p nm=((k:Int),true):=by
 unfold ziF at h⊢
 rcases zdA (fun n:Nod=>n.name == nm) p.nodes with h1|⟨k,hk,h1,_⟩
 ·rw[h1]at h;simp at h
 ·rw[h1]
  exact⟨k,hk,by simp⟩
theorem zoM(w:Plc)(hw:zcG w)(e:Ex)(l:List Int)(inner:Bool)(hv:e.v.1=0\/e.v.1=1):Pure Tryz.prog 169 [.t (plcT w),.t (.ag (exC e)),.t (zeS l),.b inner] (.tup [.t (zeS (zgR w e l inner).1),.i (zgR w e l inner).2]):=by
 have hs:=zo0 w.p e.name (by have:=hw.nodes;omega)
 unfold zgR
 unfold zax at hs
 cases hf:(ziF w.p e.name).2 with
 | false=>
   rw[hf]at hs
   rw[if_pos (.inl rfl)]
   unfold plcT plcC exC
   refine so Tryz.func169 ?_
   repeat' (first|refine wu ?_|exact wkc|intro hc|refine wk2 ?_ ?_|refine wv hs ?_|fail)
   exact wkr
 | true=>
   obtain⟨k,hk,hf'⟩:=zoZ hf
   rw[hf']at hs⊢
   simp only[qbF,false_or,qcv,qac hk]at hs⊢
   have hn:=hw.each w.p.nodes[k] (qad hk)
   have hx:=zeV hk
   generalize w.p.nodes[k]=n at hn hx⊢
   have hmi:(n.ins.map zaa).length=n.ins.length:=qaa _
   have hmo:(n.outs.map zaa).length=n.outs.length:=qaa _
   have hml:(l.map T.i).length=l.length:=qaa _
   have hi:=hn.ins
   have ho:=hn.outs
   unfold plcT plcC exC
   unfold nodC at hx
   by_cases hnode:w.node.1≤(k:Int)
   ·rw[if_pos hnode]
    refine so Tryz.func169 ?_
    repeat' (first|refine wu ?_|exact wkc|intro hc|refine wk2 ?_ ?_|refine wv hs ?_|fail)
    exact wkr
   ·rw[if_neg hnode]
    by_cases h9:(l.length:Int)≠n.ins.length+e.v.1\/(inner=true/\n.outs.length≠1)
    ·rw[if_pos h9]
     cases inner
     all_goals
      refine so Tryz.func169 ?_
      repeat' (first|refine wu ?_|exact wkc|intro hc|refine wk2 ?_ ?_|refine wv hs ?_|fail)
      all_goals first
       | exact wkr
       | (exfalso;simp at h9;omega)
    ·rw[if_neg h9]
     have h91:(l.length:Int)=n.ins.length+e.v.1:=by
      refine qav fun h=>h9 (.inl h)
     have h92:inner=true->n.outs.length=1:=fun h=>qav fun h'=>h9 (.inr ⟨h,h'⟩)
     clear h9
     have hlb:l.length≤100000001:=by omega
     cases inner
     all_goals
      try replace h92:=h92 rfl
      refine so Tryz.func169 ?_
      repeat' (first|refine wu ?_|exact wkc|intro hc|refine wk2 ?_ ?_|refine wv hs ?_|fail)
      refine TR.zal n.ins.length (fun j=>zo4 n.ins l=zo4 (n.ins.drop j) (l.drop j)) (fun j=>[(2,.t (zeS l)),(5,.cp [T.n e.kind,T.n e.op,T.n e.t,T.n e.v,.s e.name,.sl 6 (e.args.map exT)] 0),(12,.cp (nodC n) 0),(59,.t (zac n.ins)),(60,.i n.ins.length),(61,.i j)]) (fun _=>[]) rfl (fun j hlt ha=>?_) (fun ha=>?_) ⟨rfl,rfl,rfl,rfl,by rw[<-hmi];rfl,rfl,trivial⟩
      ·have hj:j<l.length:=by omega
       have hx1:=zcQ hlt
       have hx2:=zjE hj
       rw[qbl hlt,qbl hj,zo4]at ha
       generalize n.ins[j]=d at hx1 ha
       generalize l[j]=t at hx2 ha
       unfold zeR at hx1
       rw[ha]
       repeat' (first|refine wu ?_|exact wkc|intro hc|refine wk2 ?_ ?_|fail)
       ·rw[if_pos (by simp[hc])]
        exact wkr
       ·refine zab.ziJ 0 hlt ?_ rfl rfl rfl rfl rfl
        simp[show t=d.ty.1 from by simpa using hc]
      ·rw[qa7 (qag _)]at ha
       rw[show zo4 n.ins l=true from by rw[ha];rfl]
       simp only[qbF,if_false]
       unfold nodC
       have hgo:e.v.1=1->(l.map T.i)[((n.ins.map zaa).length:Int).toNat]?=some (T.i (l.getD n.ins.length 0)):=by
        intro h1
        have:n.ins.length<l.length:=by omega
        rw[hmi]
        simp[this]
       by_cases hb:e.v.1=1/\l.getD n.ins.length 0≠1
       ·rw[if_pos hb]
        have hxx:=hgo hb.1
        repeat' (first|refine wu ?_|exact wkc|intro hc|refine wk2 ?_ ?_|fail)
        all_goals first
         | exact wkr
         | (exfalso;exact hb.2 (by simpa using hc))
         | (exfalso;exact hc hb.1)
       ·rw[if_neg hb]
        have hl1:e.v.1=1->l.getD n.ins.length 0=1:=fun h1=>qav fun h=>hb ⟨h1,h⟩
        by_cases hv1:e.v.1=1
        all_goals
         try(have hxx:=hgo hv1;rw[hl1 hv1]at hxx)
         clear hgo hb hl1
         repeat' (first|refine wu ?_|exact wkc|intro hc|refine wk2 ?_ ?_|fail)
         refine TR.tail 1 15 rfl ?_
         refine TR.zal n.outs.length (fun _=>True) (fun j=>[(15,.sl 1 (((n.outs.take j).map (·.ty.1)).map T.i) 0),(87,.t (zac n.outs)),(88,.i n.outs.length),(89,.i j)]) (fun j=>[.tail (((n.outs.take j).map (·.ty.1)).map T.i).length]) trivial (fun j hlt _=>?_) (fun _=>?_) ⟨rfl,rfl,by rw[<-hmo];rfl,rfl,trivial⟩
         ·have hx1:=zcQ hlt
          have htk:((n.outs.take (j+1)).map (·.ty.1)).map T.i=((n.outs.take j).map (·.ty.1)).map T.i++[T.i n.outs[j].ty.1]:=by rw[zb0 hlt];simp only[qal,qaj,qay]
          have hmk:(((n.outs.take j).map (·.ty.1)).map T.i).length≤100000000:=by simp;omega
          generalize n.outs[j]=d at hx1 htk
          unfold zeR at hx1
          repeat' (first|refine wu ?_|exact wkc|intro hc|refine wk2 ?_ ?_|fail)
          exact zab.zat hlt trivial (by rw[htk];exact⟨rfl,rfl,rfl,rfl,trivial⟩) (by rw[htk,qae];rfl)
         ·exact zwdk
theorem zhv(l:List T)(hl:l.length≤1000000000):Pure Tryz.prog 109 [.t (.sl 3 l)] (.t (.sl 3 l)):=by
 refine so Tryz.func109 ?_
 repeat' (first|refine wk ?_|fail)
 apply TO.zdy zag (sz:=3)
 ·exact rfl
 ·exact rfl
 ·exact rfl
 ·exact rfl
 ·exact rfl
 ·exact zwdm
 ·exact zwb
theorem zfl(ls:List (List Decl))(hl:ls.length≤1000000)(h0:ls.flatten=[]):
  Pure Tryz.prog 108 [.t (.sl 1 (ls.map dls))] (.t (.v (.slice none 0 0))):=by
 have hml:(ls.map dls).length=ls.length:=qaa _
 have hall:∀k (h:k<ls.length),ls[k]=[]:=fun k h=>List.flatten_eq_nil_iff.1 h0 _ (qad h)
 refine so Tryz.func108 ?_
 repeat' (first|refine wk ?_|exact wkc|intro hc|refine wk2 ?_ ?_|fail)
 refine TR.zal ls.length (fun _=>True) (fun k=>[(0,.t (.sl 1 (ls.map dls))),(3,.i 0),(9,.t (.sl 1 (ls.map dls))),(10,.i ls.length),(11,.i k)]) (fun _=>[]) trivial (fun k hlt _=>?_) (fun _=>?_) ⟨rfl,rfl,rfl,by rw[<-hml];rfl,rfl,trivial⟩
 ·have hx:=znC hlt
  rw[hall k hlt]at hx
  change _=some (T.sl 3 [])at hx
  repeat' (first|refine wk ?_|exact wkc|intro hc|refine wk2 ?_ ?_|fail)
  exact zab.zat hlt trivial ⟨rfl,rfl,rfl,rfl,rfl,trivial⟩
 ·repeat' (first|refine wk ?_|exact wkc|intro hc|refine wk2 ?_ ?_|refine wv zmE ?_|fail)
  refine TR.zal ls.length (fun _=>True) (fun k=>[(6,.t (.v (.slice none 0 0))),(25,.t (.sl 1 (ls.map dls))),(26,.i ls.length),(27,.i k)]) (fun _=>[]) trivial (fun k hlt _=>?_) (fun _=>?_) ⟨rfl,rfl,by rw[<-hml];rfl,rfl,trivial⟩
  ·have hx:=znC hlt
   rw[hall k hlt]at hx
   change _=some (T.sl 3 [])at hx
   repeat' (first|refine wk ?_|exact wkc|intro hc|refine wk2 ?_ ?_|(apply TO.zl1 zag;(iterate 11 exact rfl))|fail)
   exact zab.zat hlt trivial ⟨rfl,rfl,rfl,rfl,trivial⟩
  ·repeat' (first|refine wk ?_|exact wkc|intro hc|refine wk2 ?_ ?_|fail)
   exact wkr
theorem zq3{P:Program}{n:Nat}{env:Env}{H:Heap}{K:TK}{all:Array Oper}{rest:List Oper}{tab:Tab}{d:Nat}{ty:TypeId}{pos:String}{aft:Array Edge}{q:Bool}(hT:zaA P tab){t:TypeId}{i:TyI}{x:Operand}{cs es:List SV}{id off sz:Nat}(hd:Nat.ble (d+1) n=true)(ht:tab.get t=some i)(hk:i.k.agg=true)
  (hx:env.val x=some (.ref id off))(hH:H[id]?=some (.cells cs))(hs:i.size=sz)(hel:(cs.drop off).take sz=es)(hc:off+sz≤cs.length)(k:TO q P n all rest ((d,.ag es)::env) H K):TO q P n all (⟨some d,.load t x,ty,pos,aft,none⟩::rest) env H K:=by
 subst hs
 subst hel
 exact TO.zdb hT hd ht hk hx hH hc k
def zaB(n:Nod):List Decl:=n.ins++(n.outs++(n.locals++[]))
theorem zcP(n:Nod)(hn:znq n)(hck:∀d∈zaB n,d.clock.length≤100000000):Pure Tryz.prog 56 [.t (.ag (nodC n))] (.t (zac (zaB n))):=by
 have hi:=hn.ins
 have ho:=hn.outs
 have hl:=hn.locals
 have hlen:(zaB n).length=n.ins.length+n.outs.length+n.locals.length:=by simp[zaB];omega
 by_cases h0:zaB n=[]
 ·have hc:=zfl [n.ins,n.outs,n.locals] (by simp) h0
  rw[h0]
  unfold nodC
  refine so Tryz.func56 ?_
  repeat' (first|refine wu ?_|exact wkc|intro hc|refine wk2 ?_ ?_|refine wv hc ?_|fail)
  refine TR.zal 0 (fun _=>True) (fun k=>[(3,.t (.v (.slice none 0 0))),(14,.t (.v (.slice none 0 0))),(15,.i 0),(16,.i k)]) (fun _=>[]) trivial (fun k hlt _=>?_) (fun _=>?_) ⟨rfl,rfl,rfl,rfl,trivial⟩
  ·omega
  ·repeat' (first|refine wu ?_|exact wkc|intro hc|refine wk2 ?_ ?_|fail)
   exact wkr
 ·have h1:1≤(zaB n).length:=by
   cases hv:zaB n with
   | nil=>exact absurd hv h0
   | cons a l=>simp
  have hc:=zgB [n.ins,n.outs,n.locals] (by simp) (show(zaB n).length≤_ by omega) h1
  have hb:(zaB n).length≤300000000:=by omega
  clear hi ho hl hlen h0
  change Sound Tryz.prog _ _ _ (fun r H'=>r= .ret (.ms 3 0 0 (zaB n).length)/\H'=[.cells ((zaL (zaB n)).map .t)])at hc
  generalize zaB n=L at hc h1 hb hck⊢
  unfold nodC
  refine so Tryz.func56 ?_
  repeat' (first|refine wu ?_|exact wkc|intro hc|refine wk2 ?_ ?_|(apply TO.zpP (tl:=zaL L) hc;(iterate 3 exact rfl);exact Les.refl _;exact rfl)|fail)
  have hcl:((zaL L).map SV.t).length=L.length*3:=by rw[qaa,zbd]
  refine TR.zal L.length (fun _=>True) (fun k=>[(3,.ms 3 0 0 L.length),(14,.ms 3 0 0 L.length),(15,.i L.length),(16,.i k)]) (fun _=>[.cells ((zaL L).map .t)]) trivial (fun k hlt _=>?_) (fun _=>?_) ⟨rfl,rfl,rfl,rfl,trivial⟩
  ·have hft:=zqH (sz:=3) (L.map zaa) (fun e he=>by obtain⟨d,_,rfl⟩:=qa4.1 he;rfl) k (by simpa using hlt)
   have hld:(((zaL L).map SV.t).drop (0+k*3)).take 3=[.t (.s L[k].name),.t (T.n L[k].ty),.t (.sl 3 (L[k].clock.map onT))]:=by
    rw[<-List.map_drop,<-qb0,qaO]
    unfold zaL
    rw[hft]
    simp[zaa,T.cells]
   have hll:0+k*3+3≤((zaL L).map SV.t).length:=by rw[hcl];omega
   have hll2:0+k*3+2<((zaL L).map SV.t).length:=by rw[hcl];omega
   have hcl2:=zhv (L[k].clock.map onT) (by have:=hck _ (qad hlt);rw[qaa];omega)
   generalize L[k]=d at hld hcl2
   have hg2:((zaL L).map SV.t)[0+k*3+2]?=some (.t (.sl 3 (d.clock.map onT))):=by
    have:=congrArg (fun l:List SV=>l[2]?) hld
    simp only[qaW,qbb]at this
    simpa using this
   have hset:[Blk.cells ((zaL L).map SV.t),Blk.cells [.t (.s d.name),.t (T.n d.ty),.t (.sl 3 (d.clock.map onT))]].set 0 (.cells (((zaL L).map SV.t).set (0+k*3+2) (.t (.sl 3 (d.clock.map onT)))))=[Blk.cells ((zaL L).map SV.t),Blk.cells [.t (.s d.name),.t (T.n d.ty),.t (.sl 3 (d.clock.map onT))]]:=by
    obtain⟨g1,g2⟩:=qab.1 hg2
    have:=@qb8 _ ((zaL L).map SV.t) _ g1
    rw[g2]at this
    rw[this]
    rfl
   repeat' (first|refine wk ?_|exact wkc|intro hc|refine wk2 ?_ ?_|refine wv hcl2 ?_|(apply TO.zes zag;(iterate 7 exact rfl);omega;omega)|(apply zq3 zag;(iterate 6 exact rfl);exact hld;exact hll)|(apply TO.ztX zag;(iterate 7 exact rfl);exact hll2;exact hset)|fail)
   exact zab.ziJ 1 hlt trivial rfl rfl rfl (zkr 1 _) rfl
  ·refine TR.freeze 3 3 0 _ (es:=L.map zaa) rfl rfl rfl (by simp) (fun e he=>by obtain⟨d,_,rfl⟩:=qa4.1 he;rfl) rfl rfl ?_
   repeat' (first|refine wu ?_|exact wkc|intro hc|refine wk2 ?_ ?_|fail)
   exact wkr
end Go.Proofs.YtpnnpgbaiobbjaaGreatDoor
