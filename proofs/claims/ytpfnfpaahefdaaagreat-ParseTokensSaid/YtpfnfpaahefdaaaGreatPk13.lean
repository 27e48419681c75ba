import Derived.Test.YtpfnfpaahefdaaaGreatPk12
set_option linter.all false
namespace Go.Proofs.YtpfnfpaahefdaaaGreat
open Go Go.TL
attribute [local irreducible] TR TO Then zab RetK Sound zac Kf GG za2
def oneI(k o t v:Int)(nm:Str)(n:Int):Int:=
 if 64<n then 3
 else if(ofF k o t v n).args=false\/(ofF k o t v n).typed=false\/((ofF k o t v n).op≠decide (o≠0))\/((ofF k o t v n).op=true/\(o<1\/16<o)) then 5
 else if(ofF k o t v n).name=true then(if ident nm then 0 else 6)
 else if(ofF k o t v n).word=true/\(zgX nm).2=0 then 0
 else if nm≠ []\/(ofF k o t v n).word=true then 5 else 0
set_option maxHeartbeats 1000000 in
theorem zm3 (k o t v:Int) (nm:Str) (l:List T):Pure Tryz.prog 84 [.t (.ag [.i k,.i o,.i t,.i v,.s nm,.sl 6 l])] (.i (oneI k o t v nm l.length)):=by
 have hf:=zof k o t v nm l
 have hid:=zgd nm
 have hw:=ziP nm
 unfold oneI
 generalize ofF k o t v l.length=f at*
 generalize ident nm=id at*
 generalize zgX nm=w at*
 obtain⟨fa,fo,ft,fn,fw⟩:=f
 simp only[zpw]at hf
 obtain⟨w1,w2⟩:=w
 by_cases h64:64<(l.length:Int)
 ·rw[if_pos h64]
  refine so Tryz.func84 ?_
  repeat' (first|refine wu ?_|exact wkc|intro hc|refine wk2 ?_ ?_|fail)
  exact wkr
 ·rw[if_neg h64]
  cases fa with
  | false=>
    rw[if_pos (.inl rfl)]
    refine so Tryz.func84 ?_
    repeat' (first|refine wu ?_|exact wkc|intro hc|refine wk2 ?_ ?_|refine wv hf ?_|fail)
    exact wkr
  | true=>
    cases ft with
    | false=>
      rw[if_pos (.inr (.inl rfl))]
      refine so Tryz.func84 ?_
      repeat' (first|refine wu ?_|exact wkc|intro hc|refine wk2 ?_ ?_|refine wv hf ?_|fail)
      exact wkr
    | true=>
      simp only[Bool.true_eq_false,false_or]
      cases fo <;> cases fn <;> cases fw
      all_goals
       refine so Tryz.func84 ?_
       repeat' (first|refine wu ?_|exact wkc|intro hc|refine wk2 ?_ ?_|refine wv hf ?_|refine wb hid ?_ ?_|refine wv hw ?_|fail)
       all_goals
        refine RetK.pure rfl (Le.of_eq ?_) rfl
        refine congrArg (fun z=>SV.t (T.v (Value.int IntKind.i64 z))) ?_
        clear hf hid hw
        first|(simp_all;done)|(simp_all;omega)
def oneX(x:Ex):Int:=oneI x.kind.1 x.op.1 x.t.1 x.v.1 x.name x.args.length
def zap{α:Type}(g:α->Int):List α->Int
 | []=>0
 | x::l=>if g x=0 then zap g l else g x
theorem zcD{α:Type}(g:α->Int):∀(a b:List α),zap g (a++b)=if zap g a=0 then zap g b else zap g a
 | [],b=>by simp[zap]
 | x::a,b=>by
   simp only[qbc,zap]
   by_cases h:g x=0
   ·simp only[h,if_true];exact zcD g a b
   ·simp[h]
def zg4(e:Ex):Int:=if 400<wEx e\/32<za4 e then 3 else zap oneX (flat e)
theorem zlM(x:Ex):Pure Tryz.prog 84 [.t (.ag (exC x))] (.i (oneX x)):=by
 have:=zm3 x.kind.1 x.op.1 x.t.1 x.v.1 x.name (x.args.map exT)
 rw[qad]at this
 exact this
def errF(g:Ex->Int)(_:List Ex)(x:Ex):Out:=if g x=0 then .go else .jump .ret [.cells [.i (g x)]]
theorem zhP(g:Ex->Int):∀(l pre:List Ex),zbx (errF g) pre l=if zap g l=0 then .go else .jump .ret [.cells [.i (zap g l)]]
 | [],pre=>by simp[zbx,zap]
 | x::l,pre=>by
   simp only[zbx,errF,zap]
   by_cases h:g x=0
   ·simp only[h,if_true];exact zhP g l _
   ·simp[h]
theorem zim(e:Ex)(h:wEx e≤1000000000):Pure Tryz.prog 63 [.t (exT e)] (.i (zg4 e)):=by
 have hsz:=zjT e h
 have hdp:=zjq e h
 have hs:=zd0 e
 rw[zao]at*
 have hc0:exC e=[T.n e.kind,T.n e.op,T.n e.t,T.n e.v,.s e.name,.sl 6 (e.args.map exT)]:=rfl
 rw[hc0]at hs hsz hdp⊢
 unfold zg4
 refine so Tryz.func63 ?_
 by_cases h1:400<wEx e\/32<za4 e
 ·rw[if_pos h1]
  repeat' (first|refine wkb ?_|refine wk ?_|exact wkc|intro hc|refine wk2 ?_ ?_|refine wv hsz ?_|refine wv hdp ?_|fail)
  all_goals exact wkr
 ·rw[if_neg h1]
  repeat' (first|refine wkb ?_|refine wk ?_|exact wkc|intro hc|refine wk2 ?_ ?_|refine wv hsz ?_|refine wv hdp ?_|refine wv hs ?_|fail)
  refine TR.zeO e (fun _=>[.cells [.i 0]]) (errF oneX) rfl h rfl rfl rfl (fun _=>⟨rfl,rfl⟩) (fun pre x=>?_) (fun fn pre x post hw=>?_) (fun fn=>?_)
  ·exact zwen
  ·have ho:=zlM x
   exact zwn
  ·rw[zhP]
   by_cases h2:zap oneX (flat e)=0
   ·exact zwdx
   ·exact zwdj
def insI(es:List En)(k t v n:Int):Int:=
 if k=1\/k=8\/k=9 then(if zcg es t=0 then 10 else if k≠9/\hasT es t v=false then 14 else if k=9/\n≠zcg es t then 9 else 0) else 0
def insX(es:List En)(x:Ex):Int:=insI es x.kind.1 x.t.1 x.v.1 x.args.length
def zcp(es:List En)(e:Ex):Int:=if zg4 e=0 then zap (insX es) (flat e) else zg4 e
theorem zjU(es:List En)(t:Int):0≤zcg es t:=by
 unfold zcg;repeat' split
 all_goals omega
theorem zlz(es:List En)(x:Ex):Pure Tryz.prog 65 [.t (ensT es),.t (.ag (exC x))] (.i (insX es x)):=by
 have hs:=zdn es x.t
 have hh:=ziv es x.t x.v
 have hnn:=zjU es x.t.1
 have hcx:exC x=[T.n x.kind,T.n x.op,T.n x.t,T.n x.v,.s x.name,.sl 6 (x.args.map exT)]:=rfl
 have hmx:(x.args.map exT).length=x.args.length:=qad _
 rw[hcx]
 unfold insX insI
 generalize zcg es x.t.1=sz at*
 generalize hasT es x.t.1 x.v.1=hb at*
 refine so Tryz.func65 ?_
 repeat' (first|refine wu ?_|exact wkc|intro hc|refine wk2 ?_ ?_|refine wv hs ?_|refine wb hh ?_ ?_|fail)
 all_goals
  clear hs hh hcx
  refine RetK.pure rfl (Le.of_eq ?_) rfl
  refine congrArg (fun z=>SV.t (T.v (Value.int IntKind.i64 z))) ?_
  grind
theorem zcL(es:List En)(e:Ex)(h:wEx e≤1000000000):Pure Tryz.prog 35 [.t (ensT es),.t (exT e)] (.i (zcp es e)):=by
 have hck:=zim e h
 have hs:=zd0 e
 rw[zao]at*
 have hc0:exC e=[T.n e.kind,T.n e.op,T.n e.t,T.n e.v,.s e.name,.sl 6 (e.args.map exT)]:=rfl
 rw[hc0]at hs hck⊢
 unfold zcp
 refine so Tryz.func35 ?_
 by_cases h1:zg4 e=0
 ·rw[if_pos h1]
  repeat' (first|refine wkb ?_|refine wk ?_|exact wkc|intro hc|refine wk2 ?_ ?_|refine wv hck ?_|refine wv hs ?_|fail)
  refine TR.zeO e (fun _=>[.cells [.i 0]]) (errF (insX es)) rfl h rfl rfl rfl (fun _=>⟨rfl,rfl⟩) (fun pre x=>?_) (fun fn pre x post hw=>?_) (fun fn=>?_)
  ·exact zwen
  ·have ho:=zlz es x
   exact zwn
  ·rw[zhP]
   by_cases h2:zap (insX es) (flat e)=0
   ·exact zwdx
   ·exact zwdj
 ·rw[if_neg h1]
  repeat' (first|refine wkb ?_|refine wk ?_|exact wkc|intro hc|refine wk2 ?_ ?_|refine wv hck ?_|refine wv hs ?_|fail)
  exact wkr
def idxI{α:Type}(p:α->Bool):List α->Int
 | []=>-1
 | x::l=>if p x then 0 else if idxI p l<0 then -1 else idxI p l+1
theorem zjC{α:Type}(p:α->Bool):∀(l:List α) (k:Nat) (h:k<l.length),(l.take k).all (fun x=>!p x)=true->p l[k]=true->idxI p l=k
 | x::l,0,_,_,hp=>by simp at hp;simp[idxI,hp]
 | x::l,k+1,h,ha,hp=>by
   simp only[qbA,qbr,qat,qbM]at ha
   have:=zjC p l k (by simpa using h) ha.2 (by simpa using hp)
   rw[idxI,if_neg (by simp[ha.1]),this,if_neg (by omega)]
   omega
theorem ziw{α:Type}(p:α->Bool):∀(l:List α),l.all (fun x=>!p x)=true->idxI p l= -1
 | [],_=>rfl
 | x::l,ha=>by
   simp only[qbr,qat,qbM]at ha
   rw[idxI,if_neg (by simp[ha.1]),ziw p l ha.2]
   rfl
abbrev zcn (l:List Decl):T:=.sl 3 (l.map zag)
abbrev zmY (l:List Nod):T:=.sl 8 (l.map nodT)
def zq0(p:Prog):List T:=[.sl 2 (p.enums.map enT),zmY p.nodes]
abbrev nC(d:Nod):List T:=[.s d.name,zcn d.ins,zcn d.outs,zcn d.locals,.sl 7 (d.eqs.map equT),.sl 1 (d.autos.map zaG),.sl 6 (d.assume.map exT),.sl 6 (d.ensure.map exT)]
def nodC(d:Nod):List T:=[.s d.name,zcn d.ins,zcn d.outs,zcn d.locals,.sl 7 (d.eqs.map equT),.sl 1 (d.autos.map zaG),.sl 6 (d.assume.map exT),.sl 6 (d.ensure.map exT)]
def znX(d:Decl):List T:=[.s d.name,T.n d.ty,.sl 3 (d.clock.map onT)]
theorem zqs{l:List Nod}{k:Nat}(h:k<l.length):(l.map nodT)[k]?=some (.ag (nodC l[k])):=zbW nodT h
theorem zpk{l:List Decl}{k:Nat}(h:k<l.length):(l.map zag)[k]?=some (.ag (znX l[k])):=zbW zag h
def orE(a b:Int):Int:=if a=0 then b else a
def zcw(s:Str):Int:=if ident s=true then 0 else 6
def onE(es:List En)(o:OnC):Int:=orE (zcw o.name) (if o.t.1≠2/\hasT es o.t.1 o.tag.1=true then 0 else 5)
def zfv(es:List En)(port:Bool)(d:Decl):Int:=
 orE (zcw d.name) (orE (if 0<zcg es d.ty.1 then 0 else 10) (orE (if port=true/\d.clock.length≠0 then 11 else 0) (orE (if d.clock.length≤4 then 0 else 3) (zap (onE es) d.clock))))
def equE(es:List En)(q:Equ):Int:=
 orE (if q.left.length=0 then 8 else 0) (orE (if q.left.length≤64 then 0 else 3) (orE (zap zcw q.left) (orE (zcp es q.right) (if q.left.length=1\/q.right.kind.1=10 then 0 else 5))))
def zi0(k:Int):Bool:=decide (k≠5/\k≠6/\k≠7/\k≠10/\k≠11)
def sless(e:Ex):Bool:=(flat e).all fun x=>zi0 x.kind.1
def zgV(es:List En)(states:Int)(strong:Bool)(t:Tran):Int:=
 orE (if 0≤t.to.1/\t.to.1<states then 0 else 14) (orE (zcp es t.cond) (if strong=false\/sless t.cond=true then 0 else 5))
def stE(es:List En)(auto:Auto->Int)(n:Int)(s:Sta):Int:=
 orE (zcw s.name) (orE (if s.locals.length≤256/\s.eqs.length≤256/\s.autos.length≤8/\s.unl.length≤4/\s.unt.length≤4 then 0 else 3)
  (orE (zap (zfv es false) s.locals) (orE (zap (equE es) s.eqs) (orE (zap auto s.autos) (orE (zap (zgV es n true) s.unl) (zap (zgV es n false) s.unt))))))
def zeg(es:List En):Nat->Auto->Int
 | 0,_=>3
 | k+1,a=>orE (if a.states.length=0 then 8 else 0) (orE (if a.states.length≤8 then 0 else 3) (zap (stE es (zeg es k) a.states.length) a.states))
def zf2(u:En):Int:=orE (zcw u.name) (orE (if u.tags.length=0 then 8 else 0) (orE (if u.tags.length≤16 then 0 else 3) (zap zcw u.tags)))
def zpy(es:List En)(n:Nod):Int:=
 orE (zcw n.name) (orE (if n.ins.length≤64/\n.outs.length≤64/\n.locals.length≤256/\n.eqs.length≤256/\n.autos.length≤8/\n.assume.length≤8/\n.ensure.length≤8 then 0 else 3)
  (orE (if n.outs.length=0 then 8 else 0) (orE (zap (zfv es true) n.ins) (orE (zap (zfv es true) n.outs) (zap (zfv es false) n.locals)))))
def zq5(es:List En)(n:Nod):Int:=orE (zap (zeg es 3) n.autos) (orE (zap (zcp es) n.assume) (zap (zcp es) n.ensure))
def zcZ{α:Type}(g:α->Int):List α->Int×Int
 | []=>(0,0)
 | x::l=>if g x=0 then(if(zcZ g l).2=0 then(0,0) else((zcZ g l).1+1,(zcZ g l).2)) else(0,g x)
theorem zd4{α:Type}(g:α->Int):∀(l:List α),(zcZ g l).2=zap g l
 | []=>rfl
 | x::l=>by
   simp only[zcZ,zap]
   rw[<-zd4 g l]
   split
   ·split <;> simp_all
   ·rfl
theorem zeD{α:Type}(g:α->Int):∀(a b:List α),zcZ g (a++b)=if zap g a=0 then(if zap g b=0 then(0,0) else((zcZ g b).1+a.length,zap g b)) else zcZ g a
 | [],b=>by
   have:=zd4 g b
   simp only[qbk,zap,if_true,qaf]
   split
   ·rename_i h
    cases b with
    | nil=>rfl
    | cons x l=>
      simp only[zcZ,zap]at*
      grind
   ·rw[<-this];simp
 | x::a,b=>by
   have h1:=zd4 g (a++b)
   have h2:=zd4 g a
   have h3:=zcD g a b
   simp only[qbc,zcZ,zap,zeD g a b,qac]at*
   grind
def zcU(es:List En)(n:Nod):Int×Int:=
 if zpy es n≠0 then(-1,zpy es n) else if zap (equE es) n.eqs≠0 then zcZ (equE es) n.eqs else(-1,zq5 es n)
def limE(p:Prog):Int:=if p.enums.length≤24/\p.nodes.length≤96 then 0 else 3
def zdK(p:Prog):(Int×Int)×Int:=
 if limE p≠0 then((-1,-1),limE p) else if zap zf2 p.enums≠0 then((-1,-1),zap zf2 p.enums) else
 if zap (fun n=>(zcU p.enums n).2) p.nodes=0 then((0,0),0) else
  let i:=(zcZ (fun n=>(zcU p.enums n).2) p.nodes).1
  ((i,((p.nodes[i.toNat]?).map fun n=>(zcU p.enums n).1).getD 0),zap (fun n=>(zcU p.enums n).2) p.nodes)
def strW:Value->Nat
 | .string s=>s.size
 | _=>0
def _root_.Go.TL.T.w:T->Nat
 | .v x=>1+strW x
 | .sl _ es=>1+(es.attach.map fun x=>x.1.w).sum
 | .ag cs=>1+(cs.attach.map fun x=>x.1.w).sum
decreasing_by
 all_goals
  have:=qbe x.2
  simp;omega
theorem w_sl(sz:Nat)(es:List T):(T.sl sz es).w=1+(es.map T.w).sum:=by rw[T.w];simp
theorem w_ag(cs:List T):(T.ag cs).w=1+(cs.map T.w).sum:=by rw[T.w];simp
theorem w_s(s:Str):(T.s s).w=1+s.length:=by rw[T.w];rfl
theorem zre(t:T):1≤t.w:=by
 cases t with
 | v=>rw[T.w];omega
 | sl=>rw[w_sl];omega
 | ag=>rw[w_ag];omega
theorem zru(sz:Nat)(es:List T):es.length<(T.sl sz es).w:=by
 have:=zjZ T.w zre es
 rw[w_sl];omega
theorem w_in{sz:Nat}{es:List T}{t:T}(h:t∈es):t.w<(T.sl sz es).w:=by
 have:=zj0 T.w h
 rw[w_sl];omega
theorem zdZ{α:Type}(f:α->T)(sz:Nat)(l:List α):l.length<(T.sl sz (l.map f)).w:=by
 have:=zru sz (l.map f);simpa using this
theorem zh7{α:Type}{f:α->T}{sz:Nat}{l:List α}{x:α}(h:x∈l):(f x).w<(T.sl sz (l.map f)).w:=w_in (List.mem_map_of_mem h)
theorem zrb:∀(m:Nat) (e:Ex),wEx e≤m->wEx e≤(exT e).w
 | 0,e,h=>by have:=ze9 e;omega
 | m+1,e,h=>by
   have ih:∀x∈e.args,wEx x≤(exT x).w:=fun x hx=>zrb m x (by have:=zdX hx;omega)
   have hs:(e.args.map wEx).sum≤((e.args.map exT).map T.w).sum:=by
    generalize e.args=l at ih
    clear h
    induction l with
    | nil=>simp
    | cons a l ih2=>
      have h1:=ih a (by simp)
      have h2:=ih2 (fun x hx=>ih x (by simp[hx]))
      simp only[qah,qax];omega
   rw[zdY,zao,w_ag]
   simp only[exC,qah,qax,w_sl]
   omega
theorem zhs(e:Ex):wEx e≤(exT e).w:=zrb _ e (qae _)
end Go.Proofs.YtpfnfpaahefdaaaGreat
namespace Go.TL
open Go
theorem zem{α:Type}:∀(l:List α),zbF l=some l
 | []=>rfl
 | x::l=>by simp[zbF,zem l]
theorem zmv{m:M}(hm:HRel m):Step m ⟨m.A,m.β,m.H.map (fun _=>.dead),m.w⟩/\HRel ⟨m.A,m.β,m.H.map (fun _=>.dead),m.w⟩:=by
 have pick:∀(i:Nat) c,(m.H.map (fun _=>Blk.dead))[i]?=some c->c= .dead:=by
  intro i c h
  rw[qar]at h
  cases hq:m.H[i]? with
  | none=>rw[hq]at h;cases h
  | some x=>rw[hq]at h;cases h;rfl
 have own:∀b o,¬Own ⟨m.A,m.β,m.H.map (fun _=>.dead),m.w⟩ b o:=by
  rintro b o ⟨i,q,c,h1,h2,h3,h4⟩
  have:=pick i c h2
  subst this
  cases h3
 refine⟨⟨rfl,rfl,rfl,qae _,fun _ _ h=>h,fun _ _ h=>.inl h,fun b o h=>absurd h (own b o),fun _ _ _ _=>rfl,fun _ _ _ _ _=>rfl,fun _ _ _=>rfl,fun _ _ h=>h,fun _ L h=>⟨L,h⟩,fun _ _ _ h=>h,fun i q hq=>⟨q,hq,?_⟩⟩,?_⟩
 ·have hd:∀n,tlOf (m.H.map (fun _=>Blk.dead))[i]? ≠some n:=by
   intro n h
   cases hq:(m.H.map (fun _=>Blk.dead))[i]? with
   | none=>rw[hq]at h;cases h
   | some x=>have:=pick i x hq;subst this;rw[hq]at h;cases h
  show zaY m.H[i]? (m.H.map (fun _=>Blk.dead))[i]? q q
  unfold zaY
  split
  ·exact fun n' h=>absurd h (hd n')
  ·exact⟨rfl,hd⟩
 ·refine⟨by simpa using hm.len,fun i q c h1 h2=>?_,fun i j q r c l hij h1 h2 h3 h4 hc hl=>?_,fun b o h hn=>own b o hn,hm.inA,fun i q c h1 h2 hc hq=>?_,hm.glob⟩
  ·have:=pick i c h2;subst this;trivial
  ·have:=pick i c h2;subst this;cases hc
  ·have:=pick i c h2;subst this;cases hc
theorem zcj(k:Nat):∀n,zad k (List.replicate n .dead)=true
 | 0=>rfl
 | n+1=>by
   rw[qbH,zad,zcj k n]
   rfl
theorem Sound.zqG{P:Program}{f:FuncId}{args:List SV}{H:Heap}{R R':Res->Heap->Prop}(h:Sound P f args H R)(hr:∀v H',R (.ret v) H'->R' (.ret v) H')
  (hp:∀v H',R (.panic v) H'->v.under H.length=true/\H.length≤H'.length/\R' (.panic v) (List.replicate H.length .dead)):Sound P f args H R':=by
 refine⟨h.1,fun m vs h1 h2 h3=>Calls.mono (h.2 m vs h1 h2 h3) ?_⟩
 rintro e w' ⟨m',r,rfl,s,hm',hres,hR⟩
 cases r with
 | ret v=>exact⟨m',.ret v,rfl,s,hm',hres,hr v _ hR⟩
 | panic v=>
   obtain⟨g1,g2,g3⟩:=hp v _ hR
   obtain⟨s1,hm1⟩:=zmv hm'
   have hl:(m'.H.map (fun _=>Blk.dead)).take H.length=List.replicate H.length .dead:=by
    rw[List.map_const',List.take_replicate,Nat.min_eq_left g2]
   obtain⟨c1,c2,c3⟩:=zfh (k:=H.length) hm1 (s.trans s1) (by simpa using g2) (by rw[h2.len,h1];exact qae _) (by show zad _ (List.take _ (m'.H.map _))=true;rw[hl];exact zcj _ _)
   refine⟨M.cut ⟨m'.A,m'.β,m'.H.map fun _=>.dead,m'.w⟩ H.length,.panic v,rfl,c1,c2,?_,?_⟩
   ·cases e with
    | panicked ch=>
      obtain⟨x,x1,x2⟩:=hres
      exact⟨x,x1,c3 v x g1 (s1.srel hm' x2)⟩
    | _=>simp[zbZ]at hres
   ·show R' (.panic v) (List.take _ (m'.H.map _))
    rw[hl];exact g3
def Err(c:Int)(v pv:SV)(H1:Heap):Res->Heap->Prop:=fun r H'=>if c=0 then r= .ret v/\H'=H1 else r= .panic pv/\H'=List.replicate H1.length .dead
def Err0(c:Int)(v pv:SV)(H1:Heap)(N:Nat):Res->Heap->Prop:=fun r H'=>if c=0 then r= .ret v/\H'=H1 else r= .panic pv/\N≤H'.length
theorem Sound.err{P:Program}{f:FuncId}{args:List SV}{H H1:Heap}{c:Int}{v pv:SV}(hl:H1.length=H.length)(hu:∀k,pv.under k=true)(h:Sound P f args H (Err0 c v pv H1 H.length)):Sound P f args H (Err c v pv H1):=by
 refine h.zqG (fun u H' g=>?_) (fun u H' g=>?_)
 ·unfold Err0 at g;unfold Err
  split at g
  ·rename_i hc;rw[if_pos hc];exact g
  ·cases g.1
 ·unfold Err0 at g;unfold Err
  split at g
  ·cases g.1
  ·rename_i hc
   obtain⟨g1,g2⟩:=g
   cases g1
   exact⟨hu _,g2,by rw[if_neg hc,hl];exact⟨rfl,rfl⟩⟩
section rules
variable {P:Program}{n:Nat}{env:Env}{H:Heap}{K:TK}{all:Array Oper}{rest:List Oper}{tab:Tab}
variable {d:Nat}{ty:TypeId}{pos:String}{aft:Array Edge}
theorem TO.zqx(l:List Nat){Hc H1 H2 H3:Heap}{c:Int}{cargs:List SV}{v v' pv:SV}{f:Operand}{fid:FuncId}{caps:List SV}{args:Array Operand}{ts:Array TypeId}{vs:List SV}
  (hs:Sound P fid cargs Hc (Err c v pv H1))(hd:Nat.ble (d+1) n=true)(hf:env.val f=some (.fn fid caps))(ha:env.vals args.toList=some vs)(hl:Les (vs++caps) (rens (names l H.length) cargs))(hu:unders Hc.length cargs=true)(hh:Hands H l Hc)
  (hv:v.ren (names l H.length)=v')(hpv:pv.ren (names l H.length)=pv)(hH:patch H l (H1.map (Blk.ren (names l H.length)))=H2)(hD:patch H l ((List.replicate H1.length .dead).map (Blk.ren (names l H.length)))=H3)
  (k:c=0->TO false P n all rest ((d,v')::env) H2 K)(kp:c≠0->K (.panic pv) env H3):
  TO false P n all (⟨some d,.call { callee:=.value f,args:=args,argTypes:=ts },ty,pos,aft,none⟩::rest) env H K:=by
 refine TO.call l hs hd hf ha hl hu hh (fun u Hc' h=>?_) (fun u Hc' h=>?_)
 ·unfold Err at h
  split at h
  ·rename_i hc
   obtain⟨h1,rfl⟩:=h
   cases h1
   rw[hv,hH];exact k hc
  ·cases h.1
 ·unfold Err at h
  split at h
  ·cases h.1
  ·rename_i hc
   obtain⟨h1,rfl⟩:=h
   cases h1
   rw[hpv,hD];exact kp hc
theorem TO.zmo(N:Nat){Hc H1 H2:Heap}{c:Int}{cargs:List SV}{v pv:SV}{f:Operand}{fid:FuncId}{caps:List SV}{args:Array Operand}{ts:Array TypeId}{vs:List SV}
  (hs:Sound P fid cargs Hc (Err c v pv H1))(hd:Nat.ble (d+1) n=true)(hf:env.val f=some (.fn fid caps))(ha:env.vals args.toList=some vs)(hl:Les (vs++caps) cargs)
  (hN:Nat.ble N H.length=true)(hc:H.take N=Hc)(hu:unders N cargs=true)(hb:zad N Hc=true)(hv:v.under N=true)(hpv:pv.under N=true)(h1:H1.length=N)(h2:zad N H1=true)
  (hH:zbF (H1++H.drop N)=some H2)(k:c=0->TO false P n all rest ((d,v)::env) H2 K)(kp:c≠0->K (.panic pv) env (List.replicate N .dead++H.drop N)):
  TO false P n all (⟨some d,.call { callee:=.value f,args:=args,argTypes:=ts },ty,pos,aft,none⟩::rest) env H K:=by
 refine TO.zpo N hs ⟨fun u G hr=>?_,fun u G hr=>?_⟩ hd hf ha hl hu (qag hN) hc hb (fun u G hr=>?_) (fun u G hr=>?_)
 ·unfold Err at hr
  split at hr
  ·obtain⟨h,rfl⟩:=hr;cases h;exact⟨hv,h1,h2⟩
  ·cases hr.1
 ·unfold Err at hr
  split at hr
  ·cases hr.1
  ·obtain⟨h,rfl⟩:=hr;cases h;exact⟨hpv,by simp[h1],zcj _ _⟩
 ·unfold Err at hr
  split at hr
  ·rename_i hc0
   obtain⟨h,rfl⟩:=hr;cases h;rw[<-zbf hH];exact k hc0
  ·cases hr.1
 ·unfold Err at hr
  split at hr
  ·cases hr.1
  ·rename_i hc0
   obtain⟨h,rfl⟩:=hr;cases h;rw[h1];exact kp hc0
theorem RetK.errP{rs:List ResultVar}{N:Nat}{c:Int}{v pv:SV}{H1:Heap}(hc:c≠0)(hN:Nat.ble N H.length=true)(hu:pv.under H.length=true)(hb:zad H.length H=true):RetK tab rs N (Err0 c v pv H1 N) (.panic pv) env H:=by
 have hn:=qag hN
 have ht:H.take H.length=H:=qaH (qae _)
 exact⟨pv,H.length,Le.refl _,hn,qae _,hu,by rw[ht];exact hb,by rw[ht];unfold Err0;rw[if_neg hc];exact⟨rfl,hn⟩⟩
theorem RetK.errV{rs:List ResultVar}{N:Nat}{c:Int}{v pv:SV}{H1:Heap}{vs:List SV}(hc:c=0)(hr:zb1 tab env H rs=some vs)(hl:Le (pack vs) v)(hN:Nat.ble N H1.length=true)(hk:Nat.ble H1.length H.length=true)(hu:v.under H1.length=true)
  (ht:H.take H1.length=H1)(hb:zad H1.length H1=true):RetK tab rs N (Err0 c v pv H1 N) .ret env H:=
 ⟨vs,v,H1.length,hr,hl,qag hN,qag hk,hu,by rw[ht];exact hb,by rw[ht];unfold Err0;rw[if_pos hc];exact⟨rfl,rfl⟩⟩
theorem RetK.errN{rs:List ResultVar}{N:Nat}{c:Int}{v pv:SV}{H1:Heap}{vs:List SV}(hc:c=0)(hr:zb1 tab env H rs=some vs)(hl:Le (pack vs) v)(hN:Nat.ble N H1.length=true)(hk:Nat.ble H1.length H.length=true)(hu:v.under H1.length=true)
  (ht:H.take H1.length=H1)(hb:zad H1.length H1=true):RetK tab rs N (Err0 c v pv H1 N) .normal env H:=
 ⟨vs,v,H1.length,hr,hl,qag hN,qag hk,hu,by rw[ht];exact hb,by rw[ht];unfold Err0;rw[if_pos hc];exact⟨rfl,rfl⟩⟩
variable {q:Bool}
theorem TO.zpi(hT:zaF P tab){t:TypeId}{i:TyI}{x y:Operand}{j2:Nat}{v vx:SV}{ts:List T}{ty' ty2:TypeId}{pos' pos2:String}{aft' aft2:Array Edge}(hd:Nat.ble (d+1) n=true)(ht:tab.get t=some i)(hj:Nat.ble (j2+1) n=true)(hne2:Nat.beq j2 d=false)(hx:Env.val ((d,.any)::env) x=some vx)(hy:Env.val ((j2,vx)::(d,.any)::env) y=some v)(hv:v.solid=true)(hc:allT v.cells=some ts)
  (hsz:i.size=ts.length)(hpos:0<ts.length)
  (k:TO false P n all rest ((d,.cp ts 0)::(j2,vx)::(d,.any)::env) H K):TO false P n all (⟨some d,.alloc t,ty,pos,aft,none⟩::⟨some j2,.assign x,ty2,pos2,aft2,none⟩::⟨none,.store t (.tmp d) y,ty',pos',aft',none⟩::rest) env H K:=by
 intro φ m a h1 h2 h3 h4
 obtain⟨z,hz1,hz2,_,_⟩:=(hT t i ht).zero
 obtain⟨zl,z0,_⟩:=zb3 (A:=m.A) (w:=m.w) _ _ hz2
 have hzl:z.cells.size=i.size:=by have:=(hT t i ht).len;simp at zl;omega
 let pv:Value:=.pointer (some ⟨m.w.heap.size,0,none⟩)
 let a0:Act:=a.put (some d) pv
 have hE0:ERel m n ((d,.any)::env) a0.tmps:=h3.put d (qag hd) (.any _)
 let a1:Act:=a0.put (some j2) (a0.eval x)
 have hE1:ERel m n ((j2,vx)::(d,.any)::env) a1.tmps:=hE0.put j2 (qag hj) (hE0.val hx)
 have hnj:j2≠d:=fun e=>by rw[e]at hne2;simp at hne2
 obtain⟨g1,g0,g2⟩:=(hE1.val hy).cells hv
 obtain⟨l1,l2⟩:=zd2 (m:=m) hc
 let w1:=m.w.alloc (.cells z.cells t)
 have hrun1:(execOp a.eval ⟨some d,.alloc t,ty,pos,aft,none⟩).run P m.w= .ok (.value pv) w1:=by
  simp[execOp,Instr.alloc,hz1,newVar,newRow,pv,w1]
 have hrunm:(execOp a0.eval ⟨some j2,.assign x,ty2,pos2,aft2,none⟩).run P w1= .ok (.value (a0.eval x)) w1:=by
  simp[execOp]
 have hc1:∀o,w1.cell? ⟨m.w.heap.size,o,none⟩=z.cells[o]? :=fun o=>World.cell?_alloc_new ..
 have hlen:(a1.eval y).cells.toList.length=z.cells.size:=by simp;omega
 have hsome:∀q,q<(a1.eval y).cells.toList.length->(w1.cell? ⟨m.w.heap.size,0+q,none⟩).isSome=true:=fun q hq=>by rw[qaM,hc1,qak (by omega)];rfl
 let w2:=w1.setCells m.w.heap.size 0 (a1.eval y).cells.toList
 have hrun2:(execOp a1.eval ⟨none,.store t (.tmp d) y,ty',pos',aft',none⟩).run P w1= .ok .skip w2:=by
  have hev:a1.eval (.tmp d)=pv:=by
   have hlt:d<a.tmps.size:=by rw[h3.1];exact qag hd
   simp[a1,a0,Act.put,Act.eval,qaE,hlt,hnj]
  exact zwo
 obtain⟨e1,e2,e3,e4,e5,e6⟩:=zbt m.w.heap.size (a1.eval y).cells.toList 0 w1
 have kw:Keeps m.w w2:=⟨e1,e2,e3,by show _≤w2.heap.size;rw[e4];simp[w1],fun b hb=>by rw[e5 b (by omega)];exact RowKit.Below.heap_alloc _ _ _ hb⟩
 obtain⟨m',f1,f2,f3,f4,f5⟩:=zgb h2 kw (b:=m.w.heap.size) ⟨qae _,by rw[e4];simp[w1]⟩ ts (fun j=>((a1.eval y).cells[j]?).getD undef) (fun j hj=>by
  have hj':j<(a1.eval y).cells.toList.length:=by simp;omega
  have:=World.cell?_setCells_in m.w.heap.size (a1.eval y).cells.toList 0 w1 hsome j hj'
  rw[qaM]at this
  rw[show w2.cell? _=_ from this,qak (by simpa using hj')]
  simp) (fun j hj=>by
  rw[qak (by omega)]
  exact g0 j _ (qak (by omega))) (fun j u hu=>by
  have hj:=(qaa.1 hu).1
  obtain⟨c,hcc,hr⟩:=l2 j u hu
  rw[qak (by omega)]
  exact hr _ (g2 j c _ hcc (qak (by omega))))
 refine wpListIn_plain rfl fun K' hK=>?_
 unfold Oper.wpIn
 refine⟨fun _ _=>trivial,?_⟩
 rw[zbo hrun1 (by intro d e;cases e)]
 simp only[Oper.uponIn]
 refine hK _ _ ?_
 refine wpListIn_plain rfl fun K2 hK2=>?_
 unfold Oper.wpIn
 refine⟨fun _ _=>trivial,?_⟩
 rw[show a.put (some d) pv=a0 from rfl,zbo hrunm (by intro d e;cases e)]
 simp only[Oper.uponIn]
 refine hK2 _ _ ?_
 refine wpListIn_plain rfl fun K3 hK3=>?_
 unfold Oper.wpIn
 refine⟨fun _ _=>trivial,?_⟩
 rw[show a0.put (some j2) (a0.eval x)=a1 from rfl,zbo hrun2 (by intro d e;cases e)]
 simp only[Oper.uponIn]
 refine hK3 _ _ ?_
 have hE:ERel m' n ((d,.cp ts 0)::(j2,vx)::(d,.any)::env) a1.tmps:=by
  refine⟨hE1.1,fun i v hv=>?_⟩
  by_cases hi:d=i
  ·subst hi
   rw[Env.zaN]at hv
   cases hv
   refine⟨pv,?_,f5⟩
   have hlt:d<a.tmps.size:=by rw[h3.1];exact qag hd
   simp[a1,a0,Act.put,qaE,hlt,hnj]
  ·rw[Env.zaz _ _ hi]at hv
   exact(hE1.step h2 f2).2 i v hv
 have:=k φ m' a1 (by rw[f4,h1]) f3 hE (by simpa [a1,a0,Act.put]using h4.step h2 f2)
 rw[<-f1]
 exact TO.ze6 f2 this
end rules
end Go.TL
namespace Go.Proofs.YtpfnfpaahefdaaaGreat
open Go Go.TL
attribute [local irreducible] TR TO Then zab RetK Sound zac Kf GG za2
abbrev zcd (es:List En)(n q:Int):Blk:=.cells [.t (ensT es),.i n,.i q]
abbrev zgR (n q c:Int):SV:=.ifc 61 (.t (.ag [T.i n,T.i q,T.i c]))
abbrev LS (f:FuncId)(args:List SV)(es:List En)(n q c:Int):Prop:=Sound Tryz.prog f (.ref 0 0::args) [zcd es n q] (Err c (.tup []) (zgR n q c) [zcd es n q])
theorem retF{rs:List ResultVar}{env:Env}{H:Heap}{es:List En}{n q c c':Int}(h0:c'≠0)(hc:c'=c)(hN:Nat.ble 1 H.length=true)(hb:zad H.length H=true):
  RetK tab rs 1 (Err0 c (.tup []) (zgR n q c) [zcd es n q] 1) (.panic (zgR n q c')) env H:=by
 subst hc;exact RetK.errP h0 hN rfl hb
theorem retN{env:Env}{H:Heap}{es:List En}{n q c:Int}(hc:c=0)(hk:Nat.ble 1 H.length=true)(ht:H.take 1=[zcd es n q]):
  RetK tab [] 1 (Err0 c (.tup []) (zgR n q c) [zcd es n q] 1) .normal env H:=RetK.errN (vs:=[]) hc rfl (Le.refl _) rfl hk rfl ht rfl
theorem we{G Q1 Q2:Prop}{f:FuncId}{cargs:List SV}{v pv:SV}{c:Int}{Hc H1:Heap}(hs:Sound Tryz.prog f cargs Hc (Err c v pv H1))(k1:Q1)(k2:Q2)(h:Sound Tryz.prog f cargs Hc (Err c v pv H1)->Hold Q1->Hold Q2->G:=by
  intro hs k1 k2
  first
  | (apply TO.zmo 1 hs;(iterate 3 exact rfl);exact zqa;(iterate 9 exact rfl);exact k1.p;exact k2.p)
  | (apply TO.zmo 2 hs;(iterate 3 exact rfl);exact zqa;(iterate 9 exact rfl);exact k1.p;exact k2.p)):G:=h hs ⟨k1⟩ ⟨k2⟩
theorem zmU(es:List En)(n q e:Int):Sound Tryz.prog 20 [.ref 0 0,.b true,.i e] [zcd es n q] (fun r H'=>r= .ret (.tup [])/\H'=[zcd es n q]):=by
 refine so Tryz.func20 ?_
 repeat' (first|refine wu ?_|exact wkc|intro hc|refine wk2 ?_ ?_|fail)
 exact RetK.zqN 1 (vs:=[]) rfl (Le.refl _) rfl rfl rfl rfl rfl ⟨rfl,rfl⟩
theorem zmT(es:List En)(n q e:Int)(he:e≠0):LS 20 [.b false,.i e] es n q e:=by
 refine Sound.err rfl (fun _=>rfl) ?_
 refine so Tryz.func20 ?_
 repeat' (first|refine wu ?_|exact wkc|intro hc|refine wk2 ?_ ?_|(apply TO.makeInterface;exact rfl;kernel_rfl;exact rfl)|(apply TO.panic;exact rfl)|fail)
 exact retF he rfl rfl rfl
section
variable {n:Nat}{env:Env}{K:TK}{all:Array Oper}{rest:List Oper}{d:Nat}{ty:TypeId}{pos:String}{aft:Array Edge}{es:List En}{a q e:Int}{H Hr:Heap}{args:Array Operand}{ts:Array TypeId}
theorem TO.zrq(hd:Nat.ble (d+1) n=true)(ha:env.vals args.toList=some [.ref 0 0,.b true,.i e])(h1:H=zcd es a q::Hr)(k:TO false Tryz.prog n all rest ((d,.tup [])::env) H K):
  TO false Tryz.prog n all (⟨some d,.call { callee:=.value (.func 20),args:=args,argTypes:=ts },ty,pos,aft,none⟩::rest) env H K:=by
 subst h1
 exact TO.znR 1 (zmU es a q e) hd rfl ha ⟨Le.refl _,Le.refl _,Le.refl _,trivial⟩ (by simp) rfl rfl rfl rfl rfl rfl (by simp[zem]) k
theorem TO.zqR(hd:Nat.ble (d+1) n=true)(ha:env.vals args.toList=some [.ref 0 0,.b false,.i e])(h1:H=zcd es a q::Hr)(he:e≠0)(k:K (.panic (zgR a q e)) env (.dead::Hr)):
  TO false Tryz.prog n all (⟨some d,.call { callee:=.value (.func 20),args:=args,argTypes:=ts },ty,pos,aft,none⟩::rest) env H K:=by
 subst h1
 exact TO.zmo 1 (zmT es a q e he) hd rfl ha ⟨Le.refl _,Le.refl _,Le.refl _,trivial⟩ (by simp) rfl rfl rfl rfl rfl rfl rfl (by simp[zem];rfl) (fun h=>absurd h he) (fun _=>k)
end
theorem wm{G Q:Prop}(k:Q)(h:Hold Q->G:=by
  intro k
  first
  | (apply Go.Proofs.YtpfnfpaahefdaaaGreat.TO.zrq;(iterate 3 exact rfl);exact k.p)
  | (apply Go.Proofs.YtpfnfpaahefdaaaGreat.TO.zqR;(iterate 3 exact rfl);decide;exact k.p)
  | (apply Go.Proofs.YtpfnfpaahefdaaaGreat.TO.zqR;(iterate 3 exact rfl);assumption;exact k.p)):G:=h ⟨k⟩
theorem zbH(es:List En)(n q:Int)(s:Str):LS 44 [.s s] es n q (zcw s):=by
 refine Sound.err rfl (fun _=>rfl) ?_
 have hi:=zgd s
 unfold zcw
 refine so Tryz.func44 ?_
 repeat' (first|refine wu ?_|exact wkc|intro hc|refine wk2 ?_ ?_|refine wb hi ?_ ?_|refine wm ?_|fail)
 ·exact retN (if_pos hc) rfl rfl
 ·apply retF
  ·decide
  ·rw[if_neg (by simp[hc])]
  ·exact rfl
  ·exact rfl
theorem zeq(es:List En)(n q e:Int):LS 48 [.i e] es n q e:=by
 refine Sound.err rfl (fun _=>rfl) ?_
 refine so Tryz.func48 ?_
 repeat' (first|refine wu ?_|exact wkc|intro hc|refine wk2 ?_ ?_|refine wm ?_|fail)
 ·exact retN hc rfl rfl
 ·exact retF hc rfl rfl rfl
end Go.Proofs.YtpfnfpaahefdaaaGreat
