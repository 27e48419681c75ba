import Derived.Test.YthmbhfgflijapaaGreatDoorPk11
set_option linter.all false
namespace Go.Proofs.YthmbhfgflijapaaGreatDoor
open Go Go.TL
attribute [local irreducible] TR TO Then zag RetK Sound zab Kf GG zaK
def oneI(k o t v:Int)(nm:Str)(n:Int):Int:=
 if 64<n then 3
 else if(ofF k o t v n).args=false\/(ofF k o t v n).typed=false\/((ofF k o t v n).op≠decide (o≠0))\/((ofF k o t v n).op=true/\(o<1\/16<o)) then 5
 else if(ofF k o t v n).name=true then(if ident nm then 0 else 6)
 else if(ofF k o t v n).word=true/\(zea nm).2=0 then 0
 else if nm≠ []\/(ofF k o t v n).word=true then 5 else 0
set_option maxHeartbeats 1000000 in
theorem zp8 (k o t v:Int) (nm:Str) (l:List T):Pure Tryz.prog 75 [.t (.ag [.i k,.i o,.i t,.i v,.s nm,.sl 6 l])] (.i (oneI k o t v nm l.length)):=by
 have hf:=zr5 k o t v nm l
 have hid:=zhw nm
 have hw:=zk1 nm
 unfold oneI
 generalize ofF k o t v l.length=f at*
 generalize ident nm=id at*
 generalize zea nm=w at*
 obtain⟨fa,fo,ft,fn,fw⟩:=f
 simp only[zt0]at hf
 obtain⟨w1,w2⟩:=w
 by_cases h64:64<(l.length:Int)
 ·rw[if_pos h64]
  refine so Tryz.func75 ?_
  repeat' (first|refine wu ?_|exact wkc|intro hc|refine wk2 ?_ ?_|fail)
  exact wkr
 ·rw[if_neg h64]
  cases fa with
  | false=>
    rw[if_pos (.inl rfl)]
    refine so Tryz.func75 ?_
    repeat' (first|refine wu ?_|exact wkc|intro hc|refine wk2 ?_ ?_|refine wv hf ?_|fail)
    exact wkr
  | true=>
    cases ft with
    | false=>
      rw[if_pos (.inr (.inl rfl))]
      refine so Tryz.func75 ?_
      repeat' (first|refine wu ?_|exact wkc|intro hc|refine wk2 ?_ ?_|refine wv hf ?_|fail)
      exact wkr
    | true=>
      simp only[Bool.true_eq_false,false_or]
      cases fo <;> cases fn <;> cases fw
      all_goals
       refine so Tryz.func75 ?_
       repeat' (first|refine wu ?_|exact wkc|intro hc|refine wk2 ?_ ?_|refine wv hf ?_|refine wb hid ?_ ?_|refine wv hw ?_|fail)
       all_goals
        refine RetK.pure rfl (Le.of_eq ?_) rfl
        refine congrArg (fun z=>SV.t (T.v (Value.int IntKind.i64 z))) ?_
        clear hf hid hw
        first|(simp_all;done)|(simp_all;omega)
def zno(k:Int):Bool:=decide (k=2) || decide (k=8) || decide (k=9) || decide (k=10)
def zj3(k o t v n:Int):Bool:=
 if k=1\/k=2\/k=11 then decide (n=0)
 else if k=3 then(if o=1\/o=2 then decide (n=1) else decide (n=2))
 else if k=4 then decide (n=3)
 else if k=5\/k=8 then decide (n=1)
 else if k=6\/k=7 then decide (n=2)
 else if k=9 then(if t=1 then decide (n=2) else decide (1≤n) && decide (n≤16))
 else decide (1≤n) || decide (v=0)
def zii(k o t v:Int)(nm:Str)(n:Int):Bool:=
 if k<1\/11<k\/zj3 k o t v n=false then false
 else if(decide (k=3) != decide (o≠0))=true\/(o≠0/\(o<1\/16<o)) then false
 else if zno k=false/\k≠11/\nm≠ [] then false
 else if k=1 then(if t=2 then decide (-32768≤v) && decide (v≤32767) else tagI t v)
 else if k=8 then tagI t v
 else if k=9 then(decide (t=1) || decide (2<t)) && decide (v=0)
 else if k=10 then decide (t=0) && (decide (v=0) || decide (v=1))
 else if k=11 then decide (t=0) && decide (v=0) && decide ((zea nm).2=0)
 else decide (t=0) && decide (v=0)
def oneX(x:Ex):Int:=oneI x.kind.1 x.op.1 x.t.1 x.v.1 x.name x.args.length
def zac{α:Type}(g:α->Int):List α->Int
 | []=>0
 | x::l=>if g x=0 then zac g l else g x
theorem zcR{α:Type}(g:α->Int):∀(a b:List α),zac g (a++b)=if zac g a=0 then zac g b else zac g a
 | [],b=>by simp[zac]
 | x::a,b=>by
   simp only[qbk,zac]
   by_cases h:g x=0
   ·simp only[h,if_true];exact zcR g a b
   ·simp[h]
def zd5(e:Ex):Int:=if 400<wEx e\/32<za1 e then 3 else zac oneX (flat e)
theorem zos(x:Ex):Pure Tryz.prog 75 [.t (.ag (exC x))] (.i (oneX x)):=by
 have:=zp8 x.kind.1 x.op.1 x.t.1 x.v.1 x.name (x.args.map exT)
 rw[qab]at this
 exact this
def errF(g:Ex->Int)(_:List Ex)(x:Ex):Out:=if g x=0 then .go else .jump .ret [.cells [.i (g x)]]
theorem zjF(g:Ex->Int):∀(l pre:List Ex),zbh (errF g) pre l=if zac g l=0 then .go else .jump .ret [.cells [.i (zac g l)]]
 | [],pre=>by simp[zbh,zac]
 | x::l,pre=>by
   simp only[zbh,errF,zac]
   by_cases h:g x=0
   ·simp only[h,if_true];exact zjF g l _
   ·simp[h]
theorem zkj(e:Ex)(h:wEx e≤1000000000):Pure Tryz.prog 38 [.t (exT e)] (.i (zd5 e)):=by
 have hsz:=zmy e h
 have hdp:=zlU e h
 have hs:=zdx e
 rw[zae]at*
 have hc0:exC e=[T.n e.kind,T.n e.op,T.n e.t,T.n e.v,.s e.name,.sl 6 (e.args.map exT)]:=rfl
 rw[hc0]at hs hsz hdp⊢
 unfold zd5
 refine so Tryz.func38 ?_
 by_cases h1:400<wEx e\/32<za1 e
 ·rw[if_pos h1]
  repeat' (first|refine wkb ?_|refine wk ?_|exact wkc|intro hc|refine wk2 ?_ ?_|refine wv hsz ?_|refine wv hdp ?_|fail)
  all_goals exact wkr
 ·rw[if_neg h1]
  repeat' (first|refine wkb ?_|refine wk ?_|exact wkc|intro hc|refine wk2 ?_ ?_|refine wv hsz ?_|refine wv hdp ?_|refine wv hs ?_|fail)
  refine TR.zep e (fun _=>[.cells [.i 0]]) (errF oneX) rfl h rfl rfl rfl (fun _=>⟨rfl,rfl⟩) (fun pre x=>?_) (fun fn pre x post hw=>?_) (fun fn=>?_)
  ·exact zwea
  ·have ho:=zos x
   exact zwn
  ·rw[zjF]
   by_cases h2:zac oneX (flat e)=0
   ·exact zwdr
   ·exact zwdi
theorem zp6(k o t v:Int)(nm:Str)(n:Int)(hn:0≤n):oneI k o t v nm n=if 64<n then 3 else if zii k o t v nm n=false then 5 else if zno k=true/\ident nm=false then 6 else 0:=by
 unfold oneI
 by_cases h64:64<n
 ·rw[if_pos h64,if_pos h64]
 rw[if_neg h64,if_neg h64]
 have hk:k=1\/k=2\/k=3\/k=4\/k=5\/k=6\/k=7\/k=8\/k=9\/k=10\/k=11\/(k<1\/11<k):=by omega
 generalize ident nm=id
 generalize hw:(zea nm).2=w
 have hv:v=0\/v=1\/(v≠0/\v≠1):=by omega
 rcases hk with rfl|rfl|rfl|rfl|rfl|rfl|rfl|rfl|rfl|rfl|rfl|hk
 case inr.inr.inr.inr.inr.inr.inr.inr.inr.inl=>rcases hv with rfl|rfl|hv <;> grind [ofF,zii,zj3,zno,opdI,tagI,zjb]
 case inr.inr.inr.inr.inr.inr.inr.inr.inr.inr.inr=>
  have e1:ofF k o t v n=⟨false,false,false,false,false⟩:=by unfold ofF;repeat' (first|rw[if_neg (by omega)]|fail)
  have e2:zii k o t v nm n=false:=by unfold zii;rw[if_pos (by omega)]
  rw[e1,e2]
  simp
 all_goals(clear hv;grind [ofF,zii,zj3,zno,opdI,tagI,zjb])
def insI(es:List En)(k t v n:Int):Int:=
 if k=1\/k=8\/k=9 then(if zbz es t=0 then 10 else if k≠9/\hasT es t v=false then 14 else if k=9/\n≠zbz es t then 9 else 0) else 0
def insX(es:List En)(x:Ex):Int:=insI es x.kind.1 x.t.1 x.v.1 x.args.length
def za4(es:List En)(e:Ex):Int:=if zd5 e=0 then zac (insX es) (flat e) else zd5 e
theorem zmz(es:List En)(t:Int):0≤zbz es t:=by
 unfold zbz;repeat' split
 all_goals omega
theorem zoe(es:List En)(x:Ex):Pure Tryz.prog 40 [.t (ensT es),.t (.ag (exC x))] (.i (insX es x)):=by
 have hs:=zdF es x.t
 have hh:=zft es x.t x.v
 have hnn:=zmz es x.t.1
 have hcx:exC x=[T.n x.kind,T.n x.op,T.n x.t,T.n x.v,.s x.name,.sl 6 (x.args.map exT)]:=rfl
 have hmx:(x.args.map exT).length=x.args.length:=qab _
 rw[hcx]
 unfold insX insI
 generalize zbz es x.t.1=sz at*
 generalize hasT es x.t.1 x.v.1=hb at*
 refine so Tryz.func40 ?_
 repeat' (first|refine wu ?_|exact wkc|intro hc|refine wk2 ?_ ?_|refine wv hs ?_|refine wb hh ?_ ?_|fail)
 all_goals
  clear hs hh hcx
  refine RetK.pure rfl (Le.of_eq ?_) rfl
  refine congrArg (fun z=>SV.t (T.v (Value.int IntKind.i64 z))) ?_
  grind
theorem zco(es:List En)(e:Ex)(h:wEx e≤1000000000):Pure Tryz.prog 16 [.t (ensT es),.t (exT e)] (.i (za4 es e)):=by
 have hck:=zkj e h
 have hs:=zdx e
 rw[zae]at*
 have hc0:exC e=[T.n e.kind,T.n e.op,T.n e.t,T.n e.v,.s e.name,.sl 6 (e.args.map exT)]:=rfl
 rw[hc0]at hs hck⊢
 unfold za4
 refine so Tryz.func16 ?_
 by_cases h1:zd5 e=0
 ·rw[if_pos h1]
  repeat' (first|refine wkb ?_|refine wk ?_|exact wkc|intro hc|refine wk2 ?_ ?_|refine wv hck ?_|refine wv hs ?_|fail)
  refine TR.zep e (fun _=>[.cells [.i 0]]) (errF (insX es)) rfl h rfl rfl rfl (fun _=>⟨rfl,rfl⟩) (fun pre x=>?_) (fun fn pre x post hw=>?_) (fun fn=>?_)
  ·exact zwea
  ·have ho:=zoe es x
   exact zwn
  ·rw[zjF]
   by_cases h2:zac (insX es) (flat e)=0
   ·exact zwdr
   ·exact zwdi
 ·rw[if_neg h1]
  repeat' (first|refine wkb ?_|refine wk ?_|exact wkc|intro hc|refine wk2 ?_ ?_|refine wv hck ?_|refine wv hs ?_|fail)
  exact wkr
def idxI{α:Type}(p:α->Bool):List α->Int
 | []=>-1
 | x::l=>if p x then 0 else if idxI p l<0 then -1 else idxI p l+1
theorem zhx{α:Type}(p:α->Bool):∀(l:List α) (k:Nat) (h:k<l.length),(l.take k).all (fun x=>!p x)=true->p l[k]=true->idxI p l=k
 | x::l,0,_,_,hp=>by simp at hp;simp[idxI,hp]
 | x::l,k+1,h,ha,hp=>by
   simp only[qaL,qbF,qau,qbs]at ha
   have:=zhx p l k (by simpa using h) ha.2 (by simpa using hp)
   rw[idxI,if_neg (by simp[ha.1]),this,if_neg (by omega)]
   omega
theorem zfv{α:Type}(p:α->Bool):∀(l:List α),l.all (fun x=>!p x)=true->idxI p l= -1
 | [],_=>rfl
 | x::l,ha=>by
   simp only[qbF,qau,qbs]at ha
   rw[idxI,if_neg (by simp[ha.1]),zfv p l ha.2]
   rfl
theorem zfZ{α:Type}(p:α->Bool):∀(l:List α),idxI p l= -1\/∃k:Nat,∃h:k<l.length,idxI p l=k/\p l[k]=true
 | []=>.inl rfl
 | x::l=>by
   unfold idxI
   by_cases hx:p x=true
   ·rw[if_pos hx];exact .inr ⟨0,by simp,rfl,by simpa using hx⟩
   ·rw[if_neg hx]
    rcases zfZ p l with h|⟨k,hk,h,hp⟩
    ·rw[h];exact .inl rfl
    ·rw[h,if_neg (by omega)]
     exact .inr ⟨k+1,by simpa using hk,by omega,by simpa using hp⟩
abbrev zap (l:List Decl):T:=.sl 3 (l.map zav)
abbrev zbB (l:List Nod):T:=.sl 8 (l.map nodT)
def za8(p:Prog):List T:=[.sl 2 (p.enums.map enT),zbB p.nodes]
structure zuQ (n:Nod):Prop where
 ins:n.ins.length≤100000000
 outs:n.outs.length≤100000000
 locals:n.locals.length≤100000000
abbrev nC(d:Nod):List T:=[.s d.name,zap d.ins,zap d.outs,zap d.locals,.sl 7 (d.eqs.map equT),.sl 1 (d.autos.map zar),.sl 6 (d.assume.map exT),.sl 6 (d.ensure.map exT)]
def nodC(d:Nod):List T:=[.s d.name,zap d.ins,zap d.outs,zap d.locals,.sl 7 (d.eqs.map equT),.sl 1 (d.autos.map zar),.sl 6 (d.assume.map exT),.sl 6 (d.ensure.map exT)]
def zfm(d:Decl):List T:=[.s d.name,T.n d.ty,.sl 3 (d.clock.map onT)]
theorem zj5{l:List Nod}{k:Nat}(h:k<l.length):(l.map nodT)[k]?=some (.ag (nodC l[k])):=zbj nodT h
theorem zdK{l:List Decl}{k:Nat}(h:k<l.length):(l.map zav)[k]?=some (.ag (zfm l[k])):=zbj zav h
theorem zlR(l:List T)(hl:l.length≤1000000000):Pure Tryz.prog 101 [.t (.sl 3 l)] (.t (.sl 3 l)):=by
 refine so Tryz.func101 ?_
 repeat' (first|refine wk ?_|fail)
 apply TO.zpt zaf (sz:=3)
 ·exact rfl
 ·exact rfl
 ·exact rfl
 ·exact rfl
 ·exact rfl
 ·intro hc
  subst hc
  repeat' (first|refine wk ?_|exact wkc|intro hc|refine wk2 ?_ ?_|fail)
  exact wkr
 ·refine TO.nil ?_
  simp only[Kf]
  repeat' (first|(apply TO.zu0 zaf;(iterate 5 exact rfl))|refine wg2 ?_ ?_|refine wg ?_|exact wgc|intro hc|fail)
  exact wkr
theorem zfk(ls:List (List Decl))(hl:ls.length≤1000000)(h0:ls.flatten=[]):
  Pure Tryz.prog 100 [.t (.sl 1 (ls.map dls))] (.t (.v (.slice none 0 0))):=by
 have hml:(ls.map dls).length=ls.length:=qab _
 have hall:∀k (h:k<ls.length),ls[k]=[]:=fun k h=>List.flatten_eq_nil_iff.1 h0 _ (qaf h)
 refine so Tryz.func100 ?_
 repeat' (first|refine wk ?_|exact wkc|intro hc|refine wk2 ?_ ?_|fail)
 refine TR.zaA ls.length (fun _=>True) (fun k=>[(0,.t (.sl 1 (ls.map dls))),(3,.i 0),(9,.t (.sl 1 (ls.map dls))),(10,.i ls.length),(11,.i k)]) (fun _=>[]) trivial (fun k hlt _=>?_) (fun _=>?_) ⟨rfl,rfl,rfl,by rw[<-hml];rfl,rfl,trivial⟩
 ·have hx:=zmT hlt
  rw[hall k hlt]at hx
  change _=some (T.sl 3 [])at hx
  repeat' (first|refine wk ?_|exact wkc|intro hc|refine wk2 ?_ ?_|fail)
  exact zab.zaI hlt trivial ⟨rfl,rfl,rfl,rfl,rfl,trivial⟩
 ·repeat' (first|refine wk ?_|exact wkc|intro hc|refine wk2 ?_ ?_|refine wv zl5 ?_|fail)
  refine TR.zaA ls.length (fun _=>True) (fun k=>[(6,.t (.v (.slice none 0 0))),(25,.t (.sl 1 (ls.map dls))),(26,.i ls.length),(27,.i k)]) (fun _=>[]) trivial (fun k hlt _=>?_) (fun _=>?_) ⟨rfl,rfl,by rw[<-hml];rfl,rfl,trivial⟩
  ·have hx:=zmT hlt
   rw[hall k hlt]at hx
   change _=some (T.sl 3 [])at hx
   repeat' (first|refine wk ?_|exact wkc|intro hc|refine wk2 ?_ ?_|(apply TO.zlE zaf;(iterate 11 exact rfl))|fail)
   exact zab.zaI hlt trivial ⟨rfl,rfl,rfl,rfl,trivial⟩
  ·repeat' (first|refine wk ?_|exact wkc|intro hc|refine wk2 ?_ ?_|fail)
   exact wkr
theorem zpS{P:Program}{n:Nat}{env:Env}{H:Heap}{K:TK}{all:Array Oper}{rest:List Oper}{tab:Tab}{d:Nat}{ty:TypeId}{pos:String}{aft:Array Edge}{q:Bool}(hT:zaw P tab){t:TypeId}{i:TyI}{x:Operand}{cs es:List SV}{id off sz:Nat}(hd:Nat.ble (d+1) n=true)(ht:tab.get t=some i)(hk:i.k.agg=true)
  (hx:env.val x=some (.ref id off))(hH:H[id]?=some (.cells cs))(hs:i.size=sz)(hel:(cs.drop off).take sz=es)(hc:off+sz≤cs.length)(k:TO q P n all rest ((d,.ag es)::env) H K):TO q P n all (⟨some d,.load t x,ty,pos,aft,none⟩::rest) env H K:=by
 subst hs
 subst hel
 exact TO.zeo hT hd ht hk hx hH hc k
def zc5(n:Nod):List Decl:=n.ins++(n.outs++(n.locals++[]))
theorem zoP(n:Nod)(hn:zuQ n)(hck:∀d∈zc5 n,d.clock.length≤100000000):Pure Tryz.prog 68 [.t (.ag (nodC n))] (.t (zap (zc5 n))):=by
 have hi:=hn.ins
 have ho:=hn.outs
 have hl:=hn.locals
 have hlen:(zc5 n).length=n.ins.length+n.outs.length+n.locals.length:=by simp[zc5];omega
 by_cases h0:zc5 n=[]
 ·have hc:=zfk [n.ins,n.outs,n.locals] (by simp) h0
  rw[h0]
  unfold nodC
  refine so Tryz.func68 ?_
  repeat' (first|refine wu ?_|exact wkc|intro hc|refine wk2 ?_ ?_|refine wv hc ?_|fail)
  refine TR.zaA 0 (fun _=>True) (fun k=>[(3,.t (.v (.slice none 0 0))),(14,.t (.v (.slice none 0 0))),(15,.i 0),(16,.i k)]) (fun _=>[]) trivial (fun k hlt _=>?_) (fun _=>?_) ⟨rfl,rfl,rfl,rfl,trivial⟩
  ·omega
  ·repeat' (first|refine wu ?_|exact wkc|intro hc|refine wk2 ?_ ?_|fail)
   exact wkr
 ·have h1:1≤(zc5 n).length:=by
   cases hv:zc5 n with
   | nil=>exact absurd hv h0
   | cons a l=>simp
  have hc:=zgn [n.ins,n.outs,n.locals] (by simp) (show(zc5 n).length≤_ by omega) h1
  have hb:(zc5 n).length≤300000000:=by omega
  clear hi ho hl hlen h0
  change Sound Tryz.prog _ _ _ (fun r H'=>r= .ret (.ms 3 0 0 (zc5 n).length)/\H'=[.cells ((za9 (zc5 n)).map .t)])at hc
  generalize zc5 n=L at hc h1 hb hck⊢
  unfold nodC
  refine so Tryz.func68 ?_
  repeat' (first|refine wu ?_|exact wkc|intro hc|refine wk2 ?_ ?_|(apply TO.zph (tl:=za9 L) hc;(iterate 3 exact rfl);exact Les.refl _;exact rfl)|fail)
  have hcl:((za9 L).map SV.t).length=L.length*3:=by rw[qab,zdA]
  refine TR.zaA L.length (fun _=>True) (fun k=>[(3,.ms 3 0 0 L.length),(14,.ms 3 0 0 L.length),(15,.i L.length),(16,.i k)]) (fun _=>[.cells ((za9 L).map .t)]) trivial (fun k hlt _=>?_) (fun _=>?_) ⟨rfl,rfl,rfl,rfl,trivial⟩
  ·have hft:=zpz (sz:=3) (L.map zav) (fun e he=>by obtain⟨d,_,rfl⟩:=qaP.1 he;rfl) k (by simpa using hlt)
   have hld:(((za9 L).map SV.t).drop (0+k*3)).take 3=[.t (.s L[k].name),.t (T.n L[k].ty),.t (.sl 3 (L[k].clock.map onT))]:=by
    rw[<-List.map_drop,<-qbH,qaU]
    unfold za9
    rw[hft]
    simp[zav,T.cells]
   have hll:0+k*3+3≤((za9 L).map SV.t).length:=by rw[hcl];omega
   have hll2:0+k*3+2<((za9 L).map SV.t).length:=by rw[hcl];omega
   have hcl2:=zlR (L[k].clock.map onT) (by have:=hck _ (qaf hlt);rw[qab];omega)
   generalize L[k]=d at hld hcl2
   have hg2:((za9 L).map SV.t)[0+k*3+2]?=some (.t (.sl 3 (d.clock.map onT))):=by
    have:=congrArg (fun l:List SV=>l[2]?) hld
    simp only[qaS,qa6]at this
    simpa using this
   have hset:[Blk.cells ((za9 L).map SV.t),Blk.cells [.t (.s d.name),.t (T.n d.ty),.t (.sl 3 (d.clock.map onT))]].set 0 (.cells (((za9 L).map SV.t).set (0+k*3+2) (.t (.sl 3 (d.clock.map onT)))))=[Blk.cells ((za9 L).map SV.t),Blk.cells [.t (.s d.name),.t (T.n d.ty),.t (.sl 3 (d.clock.map onT))]]:=by
    obtain⟨g1,g2⟩:=qaa.1 hg2
    have:=@qcb _ ((za9 L).map SV.t) _ g1
    rw[g2]at this
    rw[this]
    rfl
   repeat' (first|refine wk ?_|exact wkc|intro hc|refine wk2 ?_ ?_|refine wv hcl2 ?_|refine zqg ?_|(apply zpS zaf;(iterate 6 exact rfl);exact hld;exact hll)|(apply TO.ztg zaf;(iterate 7 exact rfl);exact hll2;exact hset)|fail)
   exact zab.zvx 1 hlt trivial rfl rfl rfl (zjT 1 _) rfl
  ·refine TR.freeze 3 3 0 _ (es:=L.map zav) rfl rfl rfl (by simp) (fun e he=>by obtain⟨d,_,rfl⟩:=qaP.1 he;rfl) rfl rfl ?_
   repeat' (first|refine wu ?_|exact wkc|intro hc|refine wk2 ?_ ?_|fail)
   exact wkr
end Go.Proofs.YthmbhfgflijapaaGreatDoor
namespace Go.TL
open Go
def zuN(X:Act->World->Prop)(Q:Exit->Act->World->Prop):Exit->Act->World->Prop
 | .normal,a,w=>X a w
 | .panic ch,a,w=>Q (.panic ch) a w
 | _,_,_=>False
def NK(env1:Env)(H1:Heap):TK
 | .normal,env,H=>env=env1/\H=H1
 | _,_,_=>False
def NKP(K:TK)(g:Prop)(env1:Env)(H1:Heap):TK
 | .normal,env,H=>(env=env1/\H=H1)/\g
 | .panic v,env,H=>K (.panic v) env H
 | _,_,_=>False
section rules
variable {P:Program}{all:Array Oper}
theorem zre{F:Fence}{n:Nat}{o:Oper}{a:Act}{w:World}{X:Act->World->Prop}{Q:Exit->Act->World->Prop}(h:Oper.wpIn F n P o a w X (zuN X Q)):Oper.wpIn F n P o a w X Q:=by
 unfold Oper.wpIn at h⊢
 refine⟨h.1,?_⟩
 have h2:=h.2
 revert h2
 generalize (o.semAt F.round a.eval).run P w=r
 intro h
 cases r with
 | ok x w'=>
   cases x <;> simp only[Oper.uponIn]at h⊢ <;> first
    | exact h
    | (refine⟨h.1,CallsIn.mono h.2 fun e w2 h2=>?_⟩
       cases e with
       | returned v=>exact h2
       | panicked ch=>exact h2
       | outgrown=>obtain⟨a0,w0,h0⟩:=h2;exact h0.elim)
    | (refine⟨h.1,RoundIn.mono h.2 fun e w2 h2=>?_⟩
       cases e with
       | returned v=>exact h2
       | panicked ch=>exact h2
       | outgrown=>obtain⟨a0,w0,h0⟩:=h2;exact h0.elim)
 | halt x w'=>
   cases x <;> simp only[Oper.uponIn]at h⊢
   exact h
theorem znC{K:TK}{g:Prop}{n i:Nat}{o:Oper}{env env1:Env}{H H1:Heap}{φ:Fm}{m:M}{a:Act}{X:Act->World->Prop}{Q:Exit->Act->World->Prop}(ho:all[i]?=some o)(ht:TO false P n all [o] env H (NKP K g env1 H1))(h1:m.H=H)(h2:HRel m)(h3:ERel m n env a.tmps)(h4:zdv φ m.w a.defers)
  (next:g->∀m' a',m'.H=H1->Step m m'->HRel m'->ERel m' n env1 a'.tmps->zdv φ m'.w a'.defers->X a' m'.w)
  (hpan:∀m' env' a' v ch,Step m m'->HRel m'->ERel m' n env' a'.tmps->zdv φ m'.w a'.defers->zbu m' (.panic v) (.panic ch)->K (.panic v) env' m'.H->Q (.panic ch) a' m'.w):wpOpIn (Fr φ.r) 0 P all Q i X a m.w:=by
 have h:=ht φ m a h1 h2 h3 h4
 simp only at h
 have h':wpListIn (Fr φ.r) 0 P all (zuN X Q) [o] a m.w:=by
  refine zaX (fun e a' w' hp=>?_) (fun _ _=>Post.zcG) [o] a m.w h
  obtain⟨m',env',te,rfl,s,hm',he',hd',hx,hk⟩:=hp
  cases te with
  | normal=>
    obtain⟨⟨rfl,hH⟩,hg⟩:=hk
    cases e <;> simp[zbu]at hx
    exact next hg m' a' hH s hm' he' hd'
  | exit j=>exact hk.elim
  | ret=>exact hk.elim
  | panic v=>
    cases e with
    | panic ch=>exact hpan m' env' a' v ch s hm' he' hd' hx hk
    | _=>simp[zbu]at hx
 unfold wpListIn at h'
 unfold wpOpIn
 simp only[ho]
 split
 ·rename_i hw
  rw[if_pos hw]at h'
  exact zre h'
 ·rename_i hw
  rw[if_neg hw]at h'
  exact⟨h'.1,h'.2⟩
theorem TO.nkp{n:Nat}{K:TK}{g:Prop}{o:Oper}{env env1:Env}{H H1:Heap}(hg:g)(h:TO false P n all [o] env H (NK env1 H1)):TO false P n all [o] env H (NKP K g env1 H1):=
 fun φ m a h1 h2 h3 h4=>zaX (fun _ _ _ hp=>hp.mono fun te _ _ hk=>by cases te <;> first|exact⟨hk,hg⟩|exact hk.elim) (fun _ _=>Post.zcG) [o] a m.w (h φ m a h1 h2 h3 h4)
def zdt(all:Array Oper)(i:Nat):Option Nat:=(all[i]?).bind (·.dst)
def envA(all:Array Oper)(vs:List SV)(p:Nat->Bool):List Nat->Env
 | []=>[]
 | i::r=>match p i,zdt all i,vs[i]? with
   | true,some d,some v=>(d,v)::envA all vs p r
   | _,_,_=>envA all vs p r
theorem zby(a b:Env)(s:Nat):Env.look (a++b) s=match Env.look a s with|some v=>some v|none=>Env.look b s:=by
 induction a with
 | nil=>rfl
 | cons x a ih=>
   obtain⟨k,v⟩:=x
   simp only[qbk,Env.look]
   cases Nat.beq k s
   ·exact ih
   ·rfl
theorem zcV{vs:List SV}{p:Nat->Bool}(hu:∀i j d,zdt all i=some d->zdt all j=some d->i=j){i d:Nat}{v:SV}(hp:p i=true)(hd:zdt all i=some d)(hv:vs[i]?=some v):∀(l:List Nat),i∈l->(envA all vs p l).look d=some v
 | j::l,hi=>by
   unfold envA
   by_cases hij:j=i
   ·subst hij
    rw[hp,hd,hv]
    simp only[Env.look,qcH,cond_true]
   ·have hi':i∈l:=by simpa [Ne.symm hij]using hi
    split
    ·rename_i d' v' e1 e2 e3
     have:d'≠d:=fun e=>hij (hu j i d (by rw[<-e];exact e2) hd)
     rw[Env.zak _ _ this]
     exact zcV hu hp hd hv l hi'
    ·exact zcV hu hp hd hv l hi'
theorem zeg{vs:List SV}{p:Nat->Bool}{d:Nat}:∀(l:List Nat),(∀j∈l,p j=true->zdt all j≠some d)->(envA all vs p l).look d=none
 | [],_=>rfl
 | j::l,h=>by
   unfold envA
   split
   ·rename_i d' v' e1 e2 e3
    have:d'≠d:=fun e=>h j qak e1 (by rw[e2,e])
    rw[Env.zak _ _ this]
    exact zeg l fun j' hj'=>h j' (qan _ hj')
   ·exact zeg l fun j' hj'=>h j' (qan _ hj')
theorem zjh{vs:List SV}{p:Nat->Bool}{s:Nat}{v:SV}:∀(l:List Nat),(envA all vs p l).look s=some v->∃j,j∈l/\p j=true/\zdt all j=some s/\vs[j]?=some v
 | j::l,h=>by
   unfold envA at h
   split at h
   ·rename_i d' v' e1 e2 e3
    by_cases hd:d'=s
    ·subst hd
     rw[Env.zat]at h
     cases h
     exact⟨j,qak,e1,e2,e3⟩
    ·rw[Env.zak _ _ hd]at h
     exact zwfe
   ·exact zwfe
def slotsOf(all:Array Oper)(o:Oper):List Nat:=
 (o.op.operands.toList.filterMap fun x=>match x with| .tmp t=>some t|_=>none)++(match o.guard with|some g=>(zdt all g.1).toList|none=>[])
def zbT(all:Array Oper)(vs:List SV)(env0:Env):Env:=envA all vs (fun _=>true) (List.range all.size)++env0
def zaM(full:Env):List Nat->Env
 | []=>[]
 | s::r=>match full.look s with
   | some v=>(s,v)::zaM full r
   | none=>zaM full r
theorem zf5(full:Env)(t:Nat)(v:SV):∀(l:List Nat),(zaM full l).look t=some v->t∈l/\full.look t=some v
 | s::r,h=>by
   unfold zaM at h
   split at h
   ·rename_i u hu
    by_cases hs:s=t
    ·subst hs
     rw[Env.zat]at h
     cases h
     exact⟨qak,hu⟩
    ·rw[Env.zak _ _ hs]at h
     exact zwet
   ·exact zwet
theorem zhH{full:Env}{t:Nat}{v:SV}(h:full.look t=some v):∀(l:List Nat),t∈l->(zaM full l).look t=some v
 | s::r,hm=>by
   unfold zaM
   by_cases hs:s=t
   ·subst hs
    rw[h];simp only[]
    rw[Env.zat]
   ·have hr:t∈r:=by
     rcases qa2.1 hm with h1|h1
     ·exact absurd h1.symm hs
     ·exact h1
    split
    ·rw[Env.zak _ _ hs];exact zhH h r hr
    ·exact zhH h r hr
def putE(d:Option Nat)(v:SV)(env:Env):Env:=match d with|some d=>(d,v)::env|none=>env
def Prem(P:Program)(n:Nat)(all:Array Oper)(full:Env):List Oper->List (SV×Bool)->List Heap->Prop
 | [],[],_=>True
 | o::l,(v,false)::t,hs=>(∀H env,TO false P n all [o] (zaM full (slotsOf all o)++env) H (NK (putE o.dst v (zaM full (slotsOf all o)++env)) H))/\Prem P n all full l t hs
 | o::l,(v,true)::t,H1::H2::hs=>(∀env,TO false P n all [o] (zaM full (slotsOf all o)++env) H1 (NK (putE o.dst v (zaM full (slotsOf all o)++env)) H2))/\Prem P n all full l t (H2::hs)
 | _,_,_=>False
def effs(t:List (SV×Bool))(k:Nat):Nat:=((t.take k).filter (·.2)).length
theorem Prem.get{n:Nat}{full:Env}:∀ {l:List Oper} {t:List (SV×Bool)} {hs:List Heap},Prem P n all full l t hs->l.length=t.length/\∀(i:Nat) o v b,l[i]?=some o->t[i]?=some (v,b)->
   (b=false->∀H env,TO false P n all [o] (zaM full (slotsOf all o)++env) H (NK (putE o.dst v (zaM full (slotsOf all o)++env)) H))/\
   (b=true->∃H1 H2,hs[effs t i]?=some H1/\hs[effs t i+1]?=some H2/\∀env,TO false P n all [o] (zaM full (slotsOf all o)++env) H1 (NK (putE o.dst v (zaM full (slotsOf all o)++env)) H2))
 | [],[],hs,_=>by simp
 | o::l,(v,false)::t,hs,h=>by
   obtain⟨h1,h2⟩:=h
   obtain⟨g1,g2⟩:=Prem.get h2
   exact zwbc
 | o::l,(v,true)::t,H1::H2::hs,h=>by
   obtain⟨h1,h2⟩:=h
   obtain⟨g1,g2⟩:=Prem.get h2
   exact zwr
 | o::l,(v,true)::t,[],h=>by exact h.elim
 | o::l,(v,true)::t,[_],h=>by exact h.elim
 | [],_::_,_,h=>by exact h.elim
 | _::_,[],_,h=>by exact h.elim
def mixW(w:List Nat)(ops:Array Oper)(fl:List Bool):Bool:=
 zko ops && ((List.range ops.size).all fun i=>
  ((List.range ops.size).all fun j=>Nat.beq i j || (match zdt ops i,zdt ops j with|some d,some d'=>!Nat.beq d d'|_,_=>true)) &&
  (match ops[i]? with
    | some o=>(slotsOf ops o).all fun s=>(List.range ops.size).all fun j=>(match zdt ops j with|some d=>!Nat.beq d s || (match w.contains s with|true=>(cov ops 8 (zbe ops j)).contains i|false=>(cov ops 8 (zbe ops i)).contains j)|none=>true)
    | none=>true) &&
  (!(fl.getD i false) || (List.range i).all fun j=>!(fl.getD j false) || (cov ops 8 (zbe ops i)).contains j))
abbrev mixB (ops:Array Oper)(fl:List Bool):Bool:=mixW [] ops fl
def okC(ops:Array Oper)(fl:List Bool)(i c:Nat):Bool:=(List.range ops.size).all fun j=>!(fl.getD j false) ||
 ((!(cov ops 8 (zbe ops j)).contains i || Nat.ble c ((fl.take j).filter id).length) && (!(cov ops 8 (zbe ops i)).contains j || Nat.blt ((fl.take j).filter id).length c))
def unl(N:Nat)(L:Array Bool):Nat:=((List.range N).filter fun i=>L[i]? == some false).length
theorem filter_lt{p q:Nat->Bool}(h:∀i,q i=true->p i=true):∀(l:List Nat) (x:Nat),x∈l->p x=true->q x=false->(l.filter q).length<(l.filter p).length
 | y::l,x,hx,hp,hq=>by
   have hle:∀l:List Nat,(l.filter q).length≤(l.filter p).length:=by
    intro l
    induction l with
    | nil=>simp
    | cons z l ih=>
      simp only[List.filter_cons]
      cases hz:q z
      ·cases p z <;> simp <;> omega
      ·simp[h z hz];exact ih
   simp only[List.filter_cons]
   rcases qa2.1 hx with rfl|hx
   ·rw[hp,hq];have:=hle l;simp;omega
   ·have:=filter_lt h l x hx hp hq
    cases hz:q y
    ·cases p y <;> simp <;> omega
    ·simp[h y hz];exact this
theorem zfe(w:List Nat){G:Nat->Prop}{n:Nat}{env0:Env}{K:TK}{vs:List SV}{fl:List Bool}{hs:List Heap}{HF:Heap}{φ:Fm}{m0:M}(hw:∀t,w.contains t=true->(env0.look t).isSome=true)(hB:mixW w all fl=true)(hvl:vs.length=all.size)(hfl:fl.length=all.size)
  (hq:∀(i:Nat) o v,all[i]?=some o->vs[i]?=some v->fl.getD i false=false->∀(c:Nat) H,hs[c]?=some H->okC all fl i c=true->∀env,TO false P n all [o] (zaM (zaM env0 w++zbT all vs env0) (slotsOf all o)++env) H (NKP K (G i) (putE o.dst v (zaM (zaM env0 w++zbT all vs env0) (slotsOf all o)++env)) H))
  (he:∀(i:Nat) o v,all[i]?=some o->vs[i]?=some v->fl.getD i false=true->∃H1 H2,hs[((fl.take i).filter id).length]?=some H1/\hs[((fl.take i).filter id).length+1]?=some H2/\∀env,TO false P n all [o] (zaM (zaM env0 w++zbT all vs env0) (slotsOf all o)++env) H1 (NKP K (G i) (putE o.dst v (zaM (zaM env0 w++zbT all vs env0) (slotsOf all o)++env)) H2))
  (hF:hs[(fl.filter id).length]?=some HF)(hK:(∀j,j<all.size->G j)->K .normal (zbT all vs env0) HF):
  ∀(fuel:Nat) (L:Array Bool) (m:M) (a:Act),L.size=all.size->DC all L->unl all.size L≤fuel->
   (∃c,(∀i:Nat,fl.getD i false=true->(((fl.take i).filter id).length<c ↔ L[i]?=some true))/\c≤(fl.filter id).length/\hs[c]?=some m.H/\∀j,L[j]?=some true->G j)->
   Step m0 m->HRel m->ERel m n (envA all vs (fun i=>L.getD i false) (List.range all.size)++env0) a.tmps->zdv φ m.w a.defers->
   wpAnyIn (Fr φ.r) 0 P .any all (Post φ m0 n K) fuel L a m.w:=by
 simp only[mixW,qau]at hB
 obtain⟨hd,hall⟩:=hB
 have hall':∀i,i<all.size->_:=fun i hi=>qaw.1 hall i (by simpa using hi)
 have hdl:∀i d,zdt all i=some d->i<all.size:=fun i d h=>by
  unfold zdt at h
  cases ho:all[i]? with
  | none=>rw[ho]at h;cases h
  | some o=>exact(qaj.1 ho).1
 have hu:∀i j d,zdt all i=some d->zdt all j=some d->i=j:=by
  intro i j d h1 h2
  have:=hall' i (hdl i d h1)
  simp only[qau]at this
  have:=qaw.1 this.1.1 j (by simpa using hdl j d h2)
  rw[h1,h2]at this
  simpa using this
 have hcv:∀(i:Nat) o s j,all[i]?=some o->s∈slotsOf all o->zdt all j=some s->(w.contains s=true->i∈cov all 8 (zbe all j))/\(w.contains s=false->j∈cov all 8 (zbe all i)):=by
  intro i o s j ho hs' hj
  have:=hall' i (qaj.1 ho).1
  simp only[qau,ho]at this
  have:=qaw.1 this.1.2 s hs'
  have:=qaw.1 this j (by simpa using hdl j s hj)
  rw[hj]at this
  refine⟨fun h=>?_,fun h=>?_⟩
  ·rw[h]at this;simpa using this
  ·rw[h]at this;simpa using this
 have hch:∀i j,i<all.size->fl.getD i false=true->j<i->fl.getD j false=true->j∈cov all 8 (zbe all i):=by
  intro i j hi h1 hj h2
  have:=hall' i hi
  simp only[qau,h1,qci,qb5]at this
  have:=qaw.1 this.2 j (by simpa using hj)
  rw[h2]at this
  simpa using this
 have hfull:∀L:Array Bool,L.size=all.size->(∀i,i<all.size->L[i]?=some true)->envA all vs (fun i=>L.getD i false) (List.range all.size)++env0=zbT all vs env0:=by
  intro L hL hA
  unfold zbT
  congr 1
  have:∀l:List Nat,(∀i∈l,i<all.size)->envA all vs (fun i=>L.getD i false) l=envA all vs (fun _=>true) l:=by
   intro l
   induction l with
   | nil=>intro _;rfl
   | cons i l ih=>
     intro hl
     have h1:L.getD i false=true:=gT.2 (hA i (hl i qak))
     simp only[envA,h1,ih fun j hj=>hl j (qan _ hj)]
  exact this _ fun i hi=>by simpa using hi
 have hdone:∀(L:Array Bool) (m:M) (a:Act),L.size=all.size->(∀i,i<all.size->L[i]?=some true)->(∃c,(∀i:Nat,fl.getD i false=true->(((fl.take i).filter id).length<c ↔ L[i]?=some true))/\c≤(fl.filter id).length/\hs[c]?=some m.H/\∀j,L[j]?=some true->G j)->
   Step m0 m->HRel m->ERel m n (envA all vs (fun i=>L.getD i false) (List.range all.size)++env0) a.tmps->zdv φ m.w a.defers->Post φ m0 n K .normal a m.w:=by
  rintro L m a hL hA ⟨c,hc1,hc2,hc3,hG⟩ s h2 h3 h4
  rw[hfull L hL hA]at h3
  have hc:c=(fl.filter id).length:=by
   refine Nat.le_antisymm hc2 (qby fun hlt=>?_)
   have:∀(fl':List Bool) (c:Nat),c<(fl'.filter id).length->∃i:Nat,fl'.getD i false=true/\((fl'.take i).filter id).length=c:=by
    intro fl'
    induction fl' with
    | nil=>intro c h;simp at h
    | cons b fl' ih=>
      intro c h
      cases b with
      | false=>
        obtain⟨i,g1,g2⟩:=ih c (by simpa using h)
        exact⟨i+1,by simpa using g1,by simpa using g2⟩
      | true=>
        cases c with
        | zero=>exact⟨0,rfl,rfl⟩
        | succ c=>
          obtain⟨i,g1,g2⟩:=ih c (by simpa using h)
          exact⟨i+1,by simpa using g1,by simpa using g2⟩
   obtain⟨i,g1,g2⟩:=this fl c hlt
   have hil:i<all.size:=by
    rw[<-hfl]
    refine qbO fun hle=>?_
    rw[qbr,qa7 hle]at g1
    cases g1
   have:=(hc1 i g1).2 (hA i hil)
   omega
  subst hc
  rw[hF]at hc3
  cases hc3
  exact⟨m,zbT all vs env0,.normal,rfl,s,h2,h3,h4,trivial,hK fun j hj=>hG j (hA j hj)⟩
 intro fuel
 induction fuel with
 | zero=>
   intro L m a hL hdc hun hst s h2 h3 h4
   have hA:∀i,i<all.size->L[i]?=some true:=by
    intro i hi
    have:L[i]?=some (L[i]'(by omega)):=qam (by omega)
    rw[this]
    cases hb:L[i]'(by omega)
    ·exfalso
     have hmem:i∈(List.range all.size).filter fun i=>L[i]? == some false:=by
      rw[qb6]
      exact⟨by simpa using hi,by rw[this,hb];rfl⟩
     have:=List.length_pos_of_mem hmem
     unfold unl at hun
     omega
    ·rfl
   refine⟨?_,hdone L m a hL hA hst s h2 h3 h4⟩
   refine qb8.2 fun i hi=>?_
   have h:=((zbo hL).1 hi).1
   rw[hA i (by rw[<-hL];exact(qaj.1 h).1)]at h
   cases h
 | succ fuel ih=>
   intro L m a hL hdc hun hst s h2 h3 h4
   refine⟨fun hr=>?_,fun i hi=>?_⟩
   ·refine hdone L m a hL (fun i hi=>?_) hst s h2 h3 h4
    have:L[i]?=some (L[i]'(by omega)):=qam (by omega)
    rw[this]
    cases hb:L[i]'(by omega)
    ·exfalso
     obtain⟨j,_,hj,_⟩:=zdQ hL hd (n:=i) (by rw[this,hb])
     rw[hr]at hj;cases hj
    ·rfl
   ·obtain⟨g1,g2⟩:=(zbo hL).1 hi
    have hil:i<all.size:=by rw[<-hL];exact(qaj.1 g1).1
    have ho:all[i]?=some all[i]:=qam hil
    have hv:vs[i]?=some (vs[i]'(by omega)):=qac (by omega)
    generalize all[i]=o at ho
    generalize vs[i]'(by omega)=v at hv
    obtain⟨c,hc1,hc2,hc3,hG⟩:=hst
    have hcl:=zcT hdc 8 (zbe all i) g2
    have hlook:∀t u,(zaM (zaM env0 w++zbT all vs env0) (slotsOf all o)++(envA all vs (fun i=>L.getD i false) (List.range all.size)++env0)).look t=some u->
      (envA all vs (fun i=>L.getD i false) (List.range all.size)++env0).look t=some u:=by
     intro t u htu
     rw[zby]at htu
     cases hpk:(zaM (zaM env0 w++zbT all vs env0) (slotsOf all o)).look t with
     | none=>rw[hpk]at htu;exact htu
     | some u'=>
       rw[hpk]at htu
       cases htu
       obtain⟨k1,k2⟩:=zf5 _ _ _ _ hpk
       rw[zby]at k2
       cases hwl:(zaM env0 w).look t with
       | some u1=>
         rw[hwl]at k2
         cases k2
         obtain⟨w1,w2⟩:=zf5 _ _ _ _ hwl
         rw[zby]
         have:(envA all vs (fun i=>L.getD i false) (List.range all.size)).look t=none:=by
          refine zeg _ fun j hj hjl hjd=>?_
          have hjt:=gT.1 hjl
          have:=zcT hdc 8 (zbe all j) (hdc j hjt) i ((hcv i o t j ho k1 hjd).1 (by simpa using w1))
          rw[g1]at this
          cases this
         rw[this]
         exact w2
       | none=>
       rw[hwl]at k2
       have hwn:w.contains t=false:=by
        cases hc:w.contains t with
        | false=>rfl
        | true=>
          have h0:=hw t hc
          cases he0:env0.look t with
          | none=>rw[he0]at h0;cases h0
          | some u0=>exact absurd hwl (by rw[zhH he0 w (by simpa using hc)];simp)
       dsimp only at k2
       unfold zbT at k2
       rw[zby]at k2⊢
       cases hq':(envA all vs (fun _=>true) (List.range all.size)).look t with
       | some u''=>
         rw[hq']at k2
         cases k2
         obtain⟨j,j1,_,j2,j3⟩:=zjh _ hq'
         have hj:=hcl j ((hcv i o t j ho k1 j2).2 hwn)
         rw[zcV hu (p:=fun i=>L.getD i false) (gT.2 hj) j2 j3 _ j1]
       | none=>
         rw[hq']at k2
         have:(envA all vs (fun i=>L.getD i false) (List.range all.size)).look t=none:=by
          refine zeg _ fun j hj _ hjd=>?_
          have hjl:j<all.size:=by simpa using hj
          have:=zcV (vs:=vs) hu (p:=fun _=>true) rfl hjd (qac (by omega)) (List.range all.size) hj
          rw[this]at hq'
          cases hq'
         rw[this]
         exact k2
    have h3':ERel m n (zaM (zaM env0 w++zbT all vs env0) (slotsOf all o)++(envA all vs (fun i=>L.getD i false) (List.range all.size)++env0)) a.tmps:=h3.sub hlook
    have hset:∀j:Nat,(L.setIfInBounds i true)[j]?=if i=j then some true else L[j]? :=by
     intro j
     rw[qaK]
     split
     ·rw[if_pos (by omega)]
     ·rfl
    have hnext:∀H1:Heap,(∃c',(∀x:Nat,fl.getD x false=true->(((fl.take x).filter id).length<c' ↔ (L.setIfInBounds i true)[x]?=some true))/\c'≤(fl.filter id).length/\hs[c']?=some H1)->
      G i->∀m' a',m'.H=H1->Step m m'->HRel m'->ERel m' n (putE o.dst v (zaM (zaM env0 w++zbT all vs env0) (slotsOf all o)++(envA all vs (fun i=>L.getD i false) (List.range all.size)++env0))) a'.tmps->zdv φ m'.w a'.defers->
      wpAnyIn (Fr φ.r) 0 P .any all (Post φ m0 n K) fuel (L.setIfInBounds i true) a' m'.w:=by
     rintro H1 ⟨c',q1,q2,q3⟩ hgi m' a' hH s' h2' h3'' h4'
     refine ih (L.setIfInBounds i true) m' a' (by simpa using hL) (zsR hL hdc hi) ?_ ⟨c',q1,q2,by rw[hH];exact q3,fun j hj=>by
      rw[hset]at hj
      split at hj
      ·rename_i e;subst e;exact hgi
      ·exact hG j hj⟩ (s.trans s') h2' (h3''.sub fun t u htu=>?_) h4'
     ·have:=filter_lt (p:=fun x=>L[x]? == some false) (q:=fun x=>(L.setIfInBounds i true)[x]? == some false) (fun x hx=>by
       rw[hset]at hx
       split at hx
       ·cases hx
       ·exact hx) (List.range all.size) i (by simpa using hil) (by rw[g1];rfl) (by rw[hset,if_pos rfl];rfl)
      unfold unl at hun⊢
      omega
     ·rw[zby]at htu
      cases hq':(envA all vs (fun x=>(L.setIfInBounds i true).getD x false) (List.range all.size)).look t with
      | some u'=>
        rw[hq']at htu
        cases htu
        obtain⟨j,j1,j0,j2,j3⟩:=zjh _ hq'
        have j0':=gT.1 j0
        rw[hset]at j0'
        by_cases hij:i=j
        ·subst hij
         rw[hv]at j3
         cases j3
         unfold zdt at j2
         rw[ho]at j2
         have:o.dst=some t:=j2
         rw[this,putE,Env.zat]
        ·rw[if_neg hij]at j0'
         have hne:zdt all i≠some t:=fun e=>hij (hu i j t e j2)
         have e2:(envA all vs (fun i=>L.getD i false) (List.range all.size)++env0).look t=some u:=by
          rw[zby,zcV hu (p:=fun i=>L.getD i false) (gT.2 j0') j2 j3 _ j1]
         have e3:(zaM (zaM env0 w++zbT all vs env0) (slotsOf all o)++(envA all vs (fun i=>L.getD i false) (List.range all.size)++env0)).look t=some u:=by
          exact zwbm
         cases hdd:o.dst with
         | none=>exact e3
         | some d=>
           have:d≠t:=fun e=>hne (by unfold zdt;rw[ho];simp[hdd,e])
           rw[putE,Env.zak _ _ this]
           exact e3
      | none=>
        rw[hq']at htu
        have hno:∀j,j<all.size->L[j]?=some true->zdt all j≠some t:=by
         intro j hj hjt hjd
         have:=zcV (vs:=vs) hu (p:=fun x=>(L.setIfInBounds i true).getD x false) (i:=j) (gT.2 (by rw[hset];split;rfl;exact hjt)) hjd (qac (by omega)) (List.range all.size) (by simpa using hj)
         rw[this]at hq'
         cases hq'
        have hni:zdt all i≠some t:=by
         intro hjd
         have:=zcV (vs:=vs) hu (p:=fun x=>(L.setIfInBounds i true).getD x false) (i:=i) (gT.2 (by rw[hset,if_pos rfl])) hjd (qac (by omega)) (List.range all.size) (by simpa using hil)
         rw[this]at hq'
         cases hq'
        have e2:(envA all vs (fun i=>L.getD i false) (List.range all.size)++env0).look t=some u:=by
         rw[zby,zeg (List.range all.size) fun j hj hjp=>hno j (by simpa using hj) (gT.1 hjp)]
         exact htu
        have e3:(zaM (zaM env0 w++zbT all vs env0) (slotsOf all o)++(envA all vs (fun i=>L.getD i false) (List.range all.size)++env0)).look t=some u:=by
         exact zwbm
        cases hdd:o.dst with
        | none=>exact e3
        | some d=>
          have:d≠t:=fun e=>hni (by unfold zdt;rw[ho];simp[hdd,e])
          rw[putE,Env.zak _ _ this]
          exact e3
    cases hb:fl.getD i false with
    | false=>
      have hokc:okC all fl i c=true:=by
       unfold okC
       refine qaw.2 fun j hj=>?_
       cases hfj:fl.getD j false with
       | false=>rfl
       | true=>
         rw[qci,qb5,qau]
         have h5:=hc1 j hfj
         constructor
         ·cases hcc:(cov all 8 (zbe all j)).contains i with
          | false=>rfl
          | true=>
            rw[qci,qb5]
            refine qcI (qby fun hlt=>?_)
            have hjt:=h5.1 hlt
            have:=zcT hdc 8 (zbe all j) (hdc j hjt) i (by simpa using hcc)
            rw[g1]at this;cases this
         ·cases hcc:(cov all 8 (zbe all i)).contains j with
          | false=>rfl
          | true=>
            rw[qci,qb5]
            have:=h5.2 (hcl j (by simpa using hcc))
            exact qcI this
      refine znC (K:=K) (hpan:=fun m' env' a' v ch s' hm' he' hd' hx hk=>⟨m',env',.panic v,rfl,s.trans s',hm',he',hd',hx,hk⟩) ho (hq i o v ho hv hb c m.H hc3 hokc _) rfl h2 h3' h4 (hnext m.H ⟨c,fun x hx=>?_,hc2,hc3⟩)
      rw[hc1 x hx,hset]
      have:i≠x:=fun e=>by rw[e,hx]at hb;cases hb
      rw[if_neg this]
    | true=>
      obtain⟨H1,H2,k1,k2,k3⟩:=he i o v ho hv hb
      have hci:((fl.take i).filter id).length=c:=by
       have h5:=hc1 i hb
       have hge:c≤((fl.take i).filter id).length:=qby fun hlt=>by
        rw[h5.1 hlt]at g1;cases g1
       refine Nat.le_antisymm (qby fun hlt=>?_) hge
       have:∀(fl':List Bool) (c:Nat),c<(fl'.filter id).length->∃j:Nat,j<fl'.length/\fl'.getD j false=true/\((fl'.take j).filter id).length=c:=by
        intro fl'
        induction fl' with
        | nil=>intro c h;simp at h
        | cons b fl' ih=>
          intro c h
          cases b with
          | false=>
            obtain⟨j,g0,g1,g2⟩:=ih c (by simpa using h)
            exact⟨j+1,by simpa using g0,by simpa using g1,by simpa using g2⟩
          | true=>
            cases c with
            | zero=>exact⟨0,by simp,rfl,rfl⟩
            | succ c=>
              obtain⟨j,g0,g1,g2⟩:=ih c (by simpa using h)
              exact⟨j+1,by simpa using g0,by simpa using g1,by simpa using g2⟩
       obtain⟨j,g0,g3,g4⟩:=this (fl.take i) c hlt
       have hji:j<i:=by simp at g0;omega
       rw[qbr,qaS,if_pos hji,<-qbr]at g3
       rw[List.take_take,Nat.min_eq_left (by omega)]at g4
       have h6:=hcl j (hch i j hil hb hji g3)
       have:=(hc1 j g3).2 h6
       omega
      rw[hci]at k1 k2
      rw[hc3]at k1
      cases k1
      refine znC (K:=K) (hpan:=fun m' env' a' v ch s' hm' he' hd' hx hk=>⟨m',env',.panic v,rfl,s.trans s',hm',he',hd',hx,hk⟩) ho (k3 _) rfl h2 h3' h4 (hnext H2 ⟨c+1,fun x hx=>?_,?_,k2⟩)
      ·rw[hset]
       by_cases hix:i=x
       ·subst hix;rw[if_pos rfl,hci];simp
       ·rw[if_neg hix,<-hc1 x hx]
        have hmono:∀(fl':List Bool) (x y:Nat),x<y->fl'.getD x false=true->((fl'.take x).filter id).length<((fl'.take y).filter id).length:=by
         intro fl'
         induction fl' with
         | nil=>intro x y _ h;cases h
         | cons b fl' ih=>
           intro x y hxy h
           obtain⟨y',rfl⟩:∃y',y=y'+1:=⟨y-1,by omega⟩
           cases x with
           | zero=>simp at h;subst h;simp
           | succ x=>
             have:=ih x y' (by omega) (by simpa using h)
             cases b <;> simp <;> exact this
        have:((fl.take x).filter id).length≠c:=by
         rcases Nat.lt_or_gt_of_ne hix with h|h
         ·have:=hmono fl i x h hb;omega
         ·have:=hmono fl x i h hx;omega
        omega
      ·have:c<(fl.filter id).length:=by
        have hm:∀(fl':List Bool) (x:Nat),fl'.getD x false=true->((fl'.take x).filter id).length<(fl'.filter id).length:=by
         intro fl'
         induction fl' with
         | nil=>intro x h;cases h
         | cons b fl' ih=>
           intro x h
           cases x with
           | zero=>simp at h;subst h;simp
           | succ x=>
             have:=ih x (by simpa using h)
             cases b <;> simp <;> exact this
        have:=hm fl i hb
        omega
       omega
theorem TR.zuq(w:List Nat){n:Nat}{env0 envF:Env}{H0 HF:Heap}{K:TK}{id':Nat}{l:List Oper}(t:List (SV×Bool))(hs:List Heap)(hm:P.follows .mixedOrders=true)(hw:w.all (fun t=>(env0.look t).isSome)=true)(hB:mixW w l.toArray (t.map (·.2))=true)(h0:hs[0]?=some H0)
  (hp:Prem P n l.toArray (zaM env0 w++zbT l.toArray (t.map (·.1)) env0) l t hs)(hF:hs[((t.map (·.2)).filter id).length]?=some HF)(hE:zbK (zbT l.toArray (t.map (·.1)) env0)=some envF)(hK:K .normal envF HF):
  TR P n (.region id' l.toArray true) env0 H0 K:=by
 obtain⟨g1,g2⟩:=hp.get
 intro φ m a h1 h2 h3 h4
 have hef:∀i,((t.map (·.2)).take i |>.filter id).length=effs t i:=by
  exact zweq
 have s0:Step m ⟨m.A,m.β,m.H,{ m.w with drawn:=m.w.drawn+1 }⟩/\HRel ⟨m.A,m.β,m.H,{ m.w with drawn:=m.w.drawn+1 }⟩:=zcJ h2 ⟨rfl,rfl,rfl,qae _,fun _ _=>rfl⟩
 refine zbs (wpIn_region_any hm ?_)
 refine zfe w (G:=fun _=>True) (vs:=t.map (·.1)) (fl:=t.map (·.2)) (hs:=hs) (m0:=m) (fun t ht=>qaw.1 hw t (by simpa using ht)) hB (by simp[g1]) (by simp[g1]) ?_ ?_ hF (fun _=>by rw[zba hE]at hK;exact hK) l.toArray.size (Array.replicate l.toArray.size false)
  ⟨m.A,m.β,m.H,{ m.w with drawn:=m.w.drawn+1 }⟩ a (by simp) ?_ ?_ ?_ s0.1 s0.2 ?_ (h4.step h2 s0.1)
 ·intro i o v ho hv hb c H _ _ env
  obtain⟨⟨v',b⟩,hx,rfl⟩:∃x,t[i]?=some x/\x.1=v:=by simpa using hv
  have hb':b=false:=by
   exact zwfa
  exact((g2 i o v' b (by simpa using ho) hx).1 hb' H env).nkp trivial
 ·exact zws
 ·exact zwfd
 ·exact zwcn
 ·exact zwca
 ·exact zwi
theorem TR.zjC{n:Nat}{env0 envF:Env}{H0 HF:Heap}{K:TK}{id':Nat}{l:List Oper}(t:List (SV×Bool))(hs:List Heap)(hm:P.follows .mixedOrders=true)(hB:mixB l.toArray (t.map (·.2))=true)(h0:hs[0]?=some H0)
  (hp:Prem P n l.toArray (zbT l.toArray (t.map (·.1)) env0) l t hs)(hF:hs[((t.map (·.2)).filter id).length]?=some HF)(hE:zbK (zbT l.toArray (t.map (·.1)) env0)=some envF)(hK:K .normal envF HF):
  TR P n (.region id' l.toArray true) env0 H0 K:=TR.zuq [] t hs hm rfl hB h0 hp hF hE hK
end rules
end Go.TL
