import Derived.Test.YtpnnpgbaiobbjaaGreatDoorPz
import Derived.Test.YtpnnpgbaiobbjaaGreatDoorPk10
import Derived.Test.YtpnnpgbaiobbjaaGreatDoorPk12
import Derived.Test.YtpnnpgbaiobbjaaGreatDoorPk13
set_option linter.unusedSimpArgs false
set_option linter.unusedVariables false
namespace Go.Proofs.YtpnnpgbaiobbjaaGreatDoor
open Go Go.TL
attribute [local irreducible] TR TO Then zam RetK Sound zab Kf GG zaX
def tagI(t v:Int):Bool:=(decide (t=1) && (decide (v=0) || decide (v=1))) || (decide (3≤t) && decide (0≤v) && decide (v<16))
def zoR(t n:Int):Bool:=(decide (t=1) && decide (n=2)) || (decide (3≤t) && decide (1≤n) && decide (n≤16))
def opdI(o:Int):Int:=if o=1\/o=2 then 1 else 2
theorem zqD(t v:Int):Pure Tryz.prog 319 [.i t,.i v] (.b (tagI t v)):=by
 refine so Tryz.func319 ?_
 repeat' (first|refine wk ?_|exact wkc|intro hc|refine wk2 ?_ ?_|fail)
 all_goals try(refine RetK.pure rfl ?_ rfl;exact Le.of_eq (by simp_all [pack,tagI] <;> omega))
theorem zh9(t n:Int):Pure Tryz.prog 321 [.i t,.i n] (.b (zoR t n)):=by
 refine so Tryz.func321 ?_
 repeat' (first|refine wk ?_|exact wkc|intro hc|refine wk2 ?_ ?_|fail)
 all_goals try(refine RetK.pure rfl ?_ rfl;exact Le.of_eq (by simp_all [pack,zoR] <;> omega))
theorem zop(o:Int):Pure Tryz.prog 320 [.i o] (.i (opdI o)):=by
 refine so Tryz.func320 ?_
 repeat' (first|refine wk ?_|exact wkc|intro hc|refine wk2 ?_ ?_|fail)
 all_goals try(refine RetK.pure rfl ?_ rfl;exact Le.of_eq (by simp_all [pack,opdI] <;> omega))
structure Form where
 args:Bool
 op:Bool
 typed:Bool
 name:Bool
 word:Bool
abbrev zs2 (f:Form):T:=.ag [.b f.args,.b f.op,.b f.typed,.b f.name,.b f.word]
def ofF(k o t v n:Int):Form:=
 if k=1 then⟨decide (n=0),false,(decide (t=2) && decide (-32768≤v) && decide (v≤32767)) || (!decide (t=2) && tagI t v),false,false⟩
 else if k=2 then⟨decide (n=0),false,decide (t=0) && decide (v=0),true,false⟩
 else if k=3 then⟨decide (n=opdI o),true,decide (t=0) && decide (v=0),false,false⟩
 else if k=4 then⟨decide (n=3),false,decide (t=0) && decide (v=0),false,false⟩
 else if k=5 then⟨decide (n=1),false,decide (t=0) && decide (v=0),false,false⟩
 else if k=6\/k=7 then⟨decide (n=2),false,decide (t=0) && decide (v=0),false,false⟩
 else if k=8 then⟨decide (n=1),false,!decide (t=2) && tagI t v,true,false⟩
 else if k=9 then⟨!decide (t=2) && zoR t n,false,decide (v=0),true,false⟩
 else if k=10 then⟨decide (v≤n),false,decide (t=0) && (decide (v=0) || decide (v=1)),true,false⟩
 else if k=11 then⟨decide (n=0),false,decide (t=0) && decide (v=0),false,true⟩
 else⟨false,false,false,false,false⟩
set_option maxHeartbeats 2000000 in
theorem zrE (k o t v:Int) (nm:Str) (l:List T):Pure Tryz.prog 301 [.t (.ag [.i k,.i o,.i t,.i v,.s nm,.sl 6 l])] (.t (zs2 (ofF k o t v l.length))):=by
 have ht:=zqD t v
 have hb:=zh9 t l.length
 have ho:=zop o
 have hk:k=1\/k=2\/k=3\/k=4\/k=5\/k=6\/k=7\/k=8\/k=9\/k=10\/k=11\/(k<1\/11<k):=by omega
 rcases hk with rfl|rfl|rfl|rfl|rfl|rfl|rfl|rfl|rfl|rfl|rfl|hk
 all_goals
  first|rw[show ofF k o t v l.length=⟨false,false,false,false,false⟩ from by unfold ofF;repeat' (first|rw[if_neg (by omega)]|fail)]|simp only[ofF,Int.reduceEq,if_false,if_true,or_self,or_true,true_or,or_false,false_or]
  refine so Tryz.func301 ?_
  repeat' (first|refine wu ?_|exact wkc|intro hc|refine wk2 ?_ ?_|refine wv ht ?_|refine wv hb ?_|refine wv ho ?_|fail)
  all_goals
   refine RetK.pure rfl (Le.tree rfl (TLe.of_eq ?_)) rfl
   clear ht hb ho
   simp only[zs2,T.ag.injEq,qa7,T.v.injEq,Value.bool.injEq,and_true,true_eq_decide_iff,false_eq_decide_iff,eq_comm (a:=true),eq_comm (a:=false),qbI,qav,Bool.or_eq_false_iff,Bool.and_eq_false_iff,qbN,Bool.not_eq_false',decide_eq_true_eq,decide_eq_false_iff_not,Bool.false_eq_true,true_and,reduceCtorEq] <;>
    first|omega|(simp_all;done)|(simp_all;omega)
def oneI(k o t v:Int)(nm:Str)(n:Int):Int:=
 if 64<n then 3
 else if(ofF k o t v n).args=false\/(ofF k o t v n).typed=false\/((ofF k o t v n).op≠decide (o≠0))\/((ofF k o t v n).op=true/\(o<1\/16<o)) then 5
 else if(ofF k o t v n).name=true then(if ident nm then 0 else 6)
 else if(ofF k o t v n).word=true/\(zgJ nm).2=0 then 0
 else if nm≠ []\/(ofF k o t v n).word=true then 5 else 0
set_option maxHeartbeats 1000000 in
theorem zpN (k o t v:Int) (nm:Str) (l:List T):Pure Tryz.prog 260 [.t (.ag [.i k,.i o,.i t,.i v,.s nm,.sl 6 l])] (.i (oneI k o t v nm l.length)):=by
 have hf:=zrE k o t v nm l
 have hid:=zhr nm
 have hw:=zk5 nm
 unfold oneI
 generalize ofF k o t v l.length=f at*
 generalize ident nm=id at*
 generalize zgJ nm=w at*
 obtain⟨fa,fo,ft,fn,fw⟩:=f
 simp only[zs2]at hf
 obtain⟨w1,w2⟩:=w
 by_cases h64:64<(l.length:Int)
 ·rw[if_pos h64]
  refine so Tryz.func260 ?_
  repeat' (first|refine wu ?_|exact wkc|intro hc|refine wk2 ?_ ?_|fail)
  exact wkr
 ·rw[if_neg h64]
  cases fa with
  | false=>
    rw[if_pos (.inl rfl)]
    refine so Tryz.func260 ?_
    repeat' (first|refine wu ?_|exact wkc|intro hc|refine wk2 ?_ ?_|refine wv hf ?_|fail)
    exact wkr
  | true=>
    cases ft with
    | false=>
      rw[if_pos (.inr (.inl rfl))]
      refine so Tryz.func260 ?_
      repeat' (first|refine wu ?_|exact wkc|intro hc|refine wk2 ?_ ?_|refine wv hf ?_|fail)
      exact wkr
    | true=>
      simp only[qbv,false_or]
      cases fo <;> cases fn <;> cases fw
      all_goals
       refine so Tryz.func260 ?_
       repeat' (first|refine wu ?_|exact wkc|intro hc|refine wk2 ?_ ?_|refine wv hf ?_|refine wb hid ?_ ?_|refine wv hw ?_|fail)
       all_goals
        refine RetK.pure rfl (Le.of_eq ?_) rfl
        refine congrArg (fun z=>SV.t (T.v (Value.int IntKind.i64 z))) ?_
        clear hf hid hw
        first|(simp_all;done)|(simp_all;omega)
def znt(k:Int):Bool:=decide (k=2) || decide (k=8) || decide (k=9) || decide (k=10)
def znR(k o t v n:Int):Bool:=
 if k=1\/k=2\/k=11 then decide (n=0)
 else if k=3 then(if o=1\/o=2 then decide (n=1) else decide (n=2))
 else if k=4 then decide (n=3)
 else if k=5\/k=8 then decide (n=1)
 else if k=6\/k=7 then decide (n=2)
 else if k=9 then(if t=1 then decide (n=2) else decide (1≤n) && decide (n≤16))
 else decide (1≤n) || decide (v=0)
def zkH(k o t v:Int)(nm:Str)(n:Int):Bool:=
 if k<1\/11<k\/znR k o t v n=false then false
 else if(decide (k=3) != decide (o≠0))=true\/(o≠0/\(o<1\/16<o)) then false
 else if znt k=false/\k≠11/\nm≠ [] then false
 else if k=1 then(if t=2 then decide (-32768≤v) && decide (v≤32767) else tagI t v)
 else if k=8 then tagI t v
 else if k=9 then(decide (t=1) || decide (2<t)) && decide (v=0)
 else if k=10 then decide (t=0) && (decide (v=0) || decide (v=1))
 else if k=11 then decide (t=0) && decide (v=0) && decide ((zgJ nm).2=0)
 else decide (t=0) && decide (v=0)
def oneX(x:Ex):Int:=oneI x.kind.1 x.op.1 x.t.1 x.v.1 x.name x.args.length
def zaf{α:Type}(g:α->Int):List α->Int
 | []=>0
 | x::l=>if g x=0 then zaf g l else g x
theorem zcx{α:Type}(g:α->Int):∀(a b:List α),zaf g (a++b)=if zaf g a=0 then zaf g b else zaf g a
 | [],b=>by simp[zaf]
 | x::a,b=>by
   simp only[qbj,zaf]
   by_cases h:g x=0
   ·simp only[h,if_true];exact zcx g a b
   ·simp[h]
def zgg(e:Ex):Int:=if 400<wEx e\/32<zaQ e then 3 else zaf oneX (flat e)
theorem zoo(x:Ex):Pure Tryz.prog 260 [.t (.ag (exC x))] (.i (oneX x)):=by
 have:=zpN x.kind.1 x.op.1 x.t.1 x.v.1 x.name (x.args.map exT)
 rw[qaa]at this
 exact this
def errF(g:Ex->Int)(_:List Ex)(x:Ex):Out:=if g x=0 then .go else .jump .ret [.cells [.i (g x)]]
theorem zjJ(g:Ex->Int):∀(l pre:List Ex),za5 (errF g) pre l=if zaf g l=0 then .go else .jump .ret [.cells [.i (zaf g l)]]
 | [],pre=>by simp[za5,zaf]
 | x::l,pre=>by
   simp only[za5,errF,zaf]
   by_cases h:g x=0
   ·simp only[h,if_true];exact zjJ g l _
   ·simp[h]
theorem zkj(e:Ex)(h:wEx e≤1000000000):Pure Tryz.prog 205 [.t (exT e)] (.i (zgg e)):=by
 have hsz:=zmD e h
 have hdp:=zlW e h
 have hs:=zcz e
 rw[zaz]at*
 have hc0:exC e=[T.n e.kind,T.n e.op,T.n e.t,T.n e.v,.s e.name,.sl 6 (e.args.map exT)]:=rfl
 rw[hc0]at hs hsz hdp⊢
 unfold zgg
 refine so Tryz.func205 ?_
 by_cases h1:400<wEx e\/32<zaQ e
 ·rw[if_pos h1]
  repeat' (first|refine wkb ?_|refine wk ?_|exact wkc|intro hc|refine wk2 ?_ ?_|refine wv hsz ?_|refine wv hdp ?_|fail)
  all_goals exact wkr
 ·rw[if_neg h1]
  repeat' (first|refine wkb ?_|refine wk ?_|exact wkc|intro hc|refine wk2 ?_ ?_|refine wv hsz ?_|refine wv hdp ?_|refine wv hs ?_|fail)
  refine TR.zdo e (fun _=>[.cells [.i 0]]) (errF oneX) rfl h rfl rfl rfl (fun _=>⟨rfl,rfl⟩) (fun pre x=>?_) (fun fn pre x post hw=>?_) (fun fn=>?_)
  ·exact zwel
  ·have ho:=zoo x
   exact zwm
  ·rw[zjJ]
   by_cases h2:zaf oneX (flat e)=0
   ·exact zwea
   ·exact zwdq
theorem zth(k o t v:Int)(nm:Str)(n:Int)(hn:0≤n):oneI k o t v nm n=if 64<n then 3 else if zkH k o t v nm n=false then 5 else if znt k=true/\ident nm=false then 6 else 0:=by
 unfold oneI
 by_cases h64:64<n
 ·rw[if_pos h64,if_pos h64]
 rw[if_neg h64,if_neg h64]
 have hk:k=1\/k=2\/k=3\/k=4\/k=5\/k=6\/k=7\/k=8\/k=9\/k=10\/k=11\/(k<1\/11<k):=by omega
 generalize ident nm=id
 generalize hw:(zgJ nm).2=w
 have hv:v=0\/v=1\/(v≠0/\v≠1):=by omega
 rcases hk with rfl|rfl|rfl|rfl|rfl|rfl|rfl|rfl|rfl|rfl|rfl|hk
 case inr.inr.inr.inr.inr.inr.inr.inr.inr.inl=>rcases hv with rfl|rfl|hv <;> grind [ofF,zkH,znR,znt,opdI,tagI,zoR]
 case inr.inr.inr.inr.inr.inr.inr.inr.inr.inr.inr=>
  have e1:ofF k o t v n=⟨false,false,false,false,false⟩:=by unfold ofF;repeat' (first|rw[if_neg (by omega)]|fail)
  have e2:zkH k o t v nm n=false:=by unfold zkH;rw[if_pos (by omega)]
  rw[e1,e2]
  simp
 all_goals(clear hv;grind [ofF,zkH,znR,znt,opdI,tagI,zoR])
def insI(es:List En)(k t v n:Int):Int:=
 if k=1\/k=8\/k=9 then(if zcI es t=0 then 10 else if k≠9/\hasT es t v=false then 14 else if k=9/\n≠zcI es t then 9 else 0) else 0
def insX(es:List En)(x:Ex):Int:=insI es x.kind.1 x.t.1 x.v.1 x.args.length
def zbY(es:List En)(e:Ex):Int:=if zgg e=0 then zaf (insX es) (flat e) else zgg e
theorem zmE(es:List En)(t:Int):0≤zcI es t:=by
 unfold zcI;repeat' split
 all_goals omega
theorem zof(es:List En)(x:Ex):Pure Tryz.prog 206 [.t (ensT es),.t (.ag (exC x))] (.i (insX es x)):=by
 have hs:=zf2 es x.t
 have hh:=zkM es x.t x.v
 have hnn:=zmE es x.t.1
 have hcx:exC x=[T.n x.kind,T.n x.op,T.n x.t,T.n x.v,.s x.name,.sl 6 (x.args.map exT)]:=rfl
 have hmx:(x.args.map exT).length=x.args.length:=qaa _
 rw[hcx]
 unfold insX insI
 generalize zcI es x.t.1=sz at*
 generalize hasT es x.t.1 x.v.1=hb at*
 refine so Tryz.func206 ?_
 repeat' (first|refine wu ?_|exact wkc|intro hc|refine wk2 ?_ ?_|refine wv hs ?_|refine wb hh ?_ ?_|fail)
 all_goals
  clear hs hh hcx
  refine RetK.pure rfl (Le.of_eq ?_) rfl
  refine congrArg (fun z=>SV.t (T.v (Value.int IntKind.i64 z))) ?_
  grind
theorem zdv(es:List En)(e:Ex)(h:wEx e≤1000000000):Pure Tryz.prog 127 [.t (ensT es),.t (exT e)] (.i (zbY es e)):=by
 have hck:=zkj e h
 have hs:=zcz e
 rw[zaz]at*
 have hc0:exC e=[T.n e.kind,T.n e.op,T.n e.t,T.n e.v,.s e.name,.sl 6 (e.args.map exT)]:=rfl
 rw[hc0]at hs hck⊢
 unfold zbY
 refine so Tryz.func127 ?_
 by_cases h1:zgg e=0
 ·rw[if_pos h1]
  repeat' (first|refine wkb ?_|refine wk ?_|exact wkc|intro hc|refine wk2 ?_ ?_|refine wv hck ?_|refine wv hs ?_|fail)
  refine TR.zdo e (fun _=>[.cells [.i 0]]) (errF (insX es)) rfl h rfl rfl rfl (fun _=>⟨rfl,rfl⟩) (fun pre x=>?_) (fun fn pre x post hw=>?_) (fun fn=>?_)
  ·exact zwel
  ·have ho:=zof es x
   exact zwm
  ·rw[zjJ]
   by_cases h2:zaf (insX es) (flat e)=0
   ·exact zwea
   ·exact zwdq
 ·rw[if_neg h1]
  repeat' (first|refine wkb ?_|refine wk ?_|exact wkc|intro hc|refine wk2 ?_ ?_|refine wv hck ?_|refine wv hs ?_|fail)
  exact wkr
def idxI{α:Type}(p:α->Bool):List α->Int
 | []=>-1
 | x::l=>if p x then 0 else if idxI p l<0 then -1 else idxI p l+1
theorem zeO{α:Type}(p:α->Bool):∀(l:List α) (k:Nat) (h:k<l.length),(l.take k).all (fun x=>!p x)=true->p l[k]=true->idxI p l=k
 | x::l,0,_,_,hp=>by simp at hp;simp[idxI,hp]
 | x::l,k+1,h,ha,hp=>by
   simp only[qaH,qbw,qav,qbN]at ha
   have:=zeO p l k (by simpa using h) ha.2 (by simpa using hp)
   rw[idxI,if_neg (by simp[ha.1]),this,if_neg (by omega)]
   omega
theorem zfg{α:Type}(p:α->Bool):∀(l:List α),l.all (fun x=>!p x)=true->idxI p l= -1
 | [],_=>rfl
 | x::l,ha=>by
   simp only[qbw,qav,qbN]at ha
   rw[idxI,if_neg (by simp[ha.1]),zfg p l ha.2]
   rfl
theorem zdj{α:Type}(p:α->Bool):∀(l:List α),idxI p l= -1\/∃k:Nat,∃h:k<l.length,idxI p l=k/\p l[k]=true
 | []=>.inl rfl
 | x::l=>by
   unfold idxI
   by_cases hx:p x=true
   ·rw[if_pos hx];exact .inr ⟨0,by simp,rfl,by simpa using hx⟩
   ·rw[if_neg hx]
    rcases zdj p l with h|⟨k,hk,h,hp⟩
    ·rw[h];exact .inl rfl
    ·rw[h,if_neg (by omega)]
     exact .inr ⟨k+1,by simpa using hk,by omega,by simpa using hp⟩
abbrev zad (l:List Decl):T:=.sl 3 (l.map zaa)
abbrev zax (l:List Nod):T:=.sl 8 (l.map nodT)
theorem zdA(fid:FuncId)(caps:List SV)(hcaps:unders 0 caps=true)(p:Decl->Bool)(l:List Decl)(hl:l.length≤1000000000)(hp:∀d,Pure Tryz.prog fid (.t (zaa d)::caps) (.b (p d))):
  Pure Tryz.prog 116 [.t (zad l),.fn fid caps] (.i (idxI p l)):=by
 have hml:(l.map zaa).length=l.length:=qaa _
 refine so Tryz.func116 ?_
 repeat' (first|refine wk ?_|exact wkc|intro hc|refine wk2 ?_ ?_|fail)
 refine TR.zak l.length (fun k=>(l.take k).all (fun x=>!p x)=true) (fun k=>[(0,.t (zad l)),(1,.fn fid caps),(7,.i l.length),(8,.i k)]) (fun _=>[]) rfl (fun k hlt ha=>?_) (fun ha=>?_) ⟨rfl,rfl,by rw[<-hml];rfl,rfl,trivial⟩
 ·have hx:=zar zaa hlt
  have htk:=zbQ hlt
  have hat:=zeO p l k hlt ha
  have hd:=hp l[k]
  generalize l[k]=d at hx htk hat hd
  have hu:unders 0 (.t (zaa d)::caps)=true:=by simp[unders,SV.under,hcaps]
  repeat' (first|refine wk ?_|exact wkc|intro hc|refine wk2 ?_ ?_|(apply TO.zdN hd;(iterate 3 exact rfl);exact Les.refl _;exact hu;exact rfl)|fail)
  ·rw[hat hc];exact wkr
  ·exact zwga
 ·exact zwdb
theorem zfh(fid:FuncId)(caps:List SV)(hcaps:unders 0 caps=true)(p:Nod->Bool)(l:List Nod)(hl:l.length≤1000000000)(hp:∀d,Pure Tryz.prog fid (.t (nodT d)::caps) (.b (p d))):
  Pure Tryz.prog 97 [.t (zax l),.fn fid caps] (.i (idxI p l)):=by
 have hml:(l.map nodT).length=l.length:=qaa _
 refine so Tryz.func97 ?_
 repeat' (first|refine wk ?_|exact wkc|intro hc|refine wk2 ?_ ?_|fail)
 refine TR.zak l.length (fun k=>(l.take k).all (fun x=>!p x)=true) (fun k=>[(0,.t (zax l)),(1,.fn fid caps),(7,.i l.length),(8,.i k)]) (fun _=>[]) rfl (fun k hlt ha=>?_) (fun ha=>?_) ⟨rfl,rfl,by rw[<-hml];rfl,rfl,trivial⟩
 ·have hx:=zar nodT hlt
  have htk:=zbQ hlt
  have hat:=zeO p l k hlt ha
  have hd:=hp l[k]
  generalize l[k]=d at hx htk hat hd
  have hu:unders 0 (.t (nodT d)::caps)=true:=by simp[unders,SV.under,hcaps]
  repeat' (first|refine wk ?_|exact wkc|intro hc|refine wk2 ?_ ?_|(apply TO.zdN hd;(iterate 3 exact rfl);exact Les.refl _;exact hu;exact rfl)|fail)
  ·rw[hat hc];exact wkr
  ·exact zwga
 ·exact zwdb
theorem zhg(d:Decl)(nm:Str):Pure Tryz.prog 170 [.t (zaa d),.cp [.s nm] 0] (.b (d.name == nm)):=by
 have hd:zaa d= .ag [.s d.name,T.n d.ty,.sl 3 (d.clock.map onT)]:=rfl
 rw[hd]
 refine so Tryz.func170 ?_
 repeat' (first|refine wu ?_|exact wkc|intro hc|refine wk2 ?_ ?_|fail)
 all_goals try(refine RetK.pure rfl ?_ rfl;exact Le.of_eq (by simp_all [pack,zaa] <;> omega))
theorem zij(d:Nod)(nm:Str):Pure Tryz.prog 296 [.t (nodT d),.cp [.s nm] 0] (.b (d.name == nm)):=by
 have hd:nodT d= .ag [.s d.name,zad d.ins,zad d.outs,zad d.locals,.sl 7 (d.eqs.map equT),.sl 1 (d.autos.map zae),.sl 6 (d.assume.map exT),.sl 6 (d.ensure.map exT)]:=rfl
 rw[hd]
 refine so Tryz.func296 ?_
 repeat' (first|refine wu ?_|exact wkc|intro hc|refine wk2 ?_ ?_|fail)
 all_goals try(refine RetK.pure rfl ?_ rfl;exact Le.of_eq (by simp_all [pack,nodT] <;> omega))
def zcM:List Decl->Str->Int×Bool
 | [],_=>(0,false)
 | d::l,nm=>if d.name=nm then(d.ty.1,true) else zcM l nm
theorem zkX(nm:Str):∀(l:List Decl),(idxI (fun d=>d.name == nm) l= -1/\zcM l nm=(0,false))\/∃k:Nat,∃h:k<l.length,idxI (fun d=>d.name == nm) l=k/\zcM l nm=(l[k].ty.1,true)
 | []=>.inl ⟨rfl,rfl⟩
 | d::l=>by
   unfold idxI zcM
   by_cases hd:d.name=nm
   ·rw[if_pos hd,if_pos (by simpa using hd)]
    exact .inr ⟨0,by simp,rfl,rfl⟩
   ·rw[if_neg hd,if_neg (by simpa using hd)]
    rcases zkX nm l with ⟨h1,h2⟩|⟨k,hk,h1,h2⟩
    ·rw[h1,h2];exact .inl ⟨rfl,rfl⟩
    ·rw[h1,h2,if_neg (by omega)]
     exact .inr ⟨k+1,by simpa using hk,by omega,rfl⟩
structure Plc where
 p:Prog
 node:I64
 env:List Decl
def plcC(w:Plc):List T:=[.sl 2 (w.p.enums.map enT),zax w.p.nodes,T.n w.node,zad w.env]
abbrev plcT (w:Plc):T:=.ag (plcC w)
theorem zeg(w:Plc)(nm:Str)(hl:w.env.length≤1000000000):Pure Tryz.prog 111 [.t (plcT w),.s nm] (.tup [.i (zcM w.env nm).1,.b (zcM w.env nm).2]):=by
 have hs:=zdA 170 [.cp [.s nm] 0] rfl (fun d=>d.name == nm) w.env hl (fun d=>zhg d nm)
 unfold plcT plcC
 rcases zkX nm w.env with ⟨h1,h2⟩|⟨k,hk,h1,h2⟩
 ·rw[h1]at hs
  rw[h2]
  exact zwde
 ·rw[h1]at hs
  rw[h2]
  have hx:=zar zaa hk
  generalize w.env[k]=d at hx
  have hd:zaa d= .ag [.s d.name,T.n d.ty,.sl 3 (d.clock.map onT)]:=rfl
  rw[hd]at hx
  exact zwde
def zhb(env:List Decl)(nm:Str)(t:Int):Int:=if(zcM env nm).2=false then 6 else if(zcM env nm).1≠t then 10 else 0
theorem zkk(w:Plc)(nm:Str)(t:Int)(hl:w.env.length≤1000000000):Pure Tryz.prog 168 [.t (plcT w),.s nm,.i t] (.i (zhb w.env nm t)):=by
 have hs:=zeg w nm hl
 unfold zhb
 generalize zcM w.env nm=u at*
 obtain⟨u1,u2⟩:=u
 unfold plcT plcC at*
 cases u2
 all_goals
  refine so Tryz.func168 ?_
  repeat' (first|refine wu ?_|exact wkc|intro hc|refine wk2 ?_ ?_|refine wv hs ?_|fail)
  all_goals
   refine RetK.pure rfl (Le.of_eq ?_) rfl
   simp_all [pack]
def zkz(l:List Int):Bool:=l.all fun t=>decide (t=l.headD 0)
theorem zhj(l:List Int)(hl:l.length≤1000000000):Pure Tryz.prog 167 [.t (zeA l)] (.b (zkz l)):=by
 have hml:(l.map T.i).length=l.length:=qaa _
 unfold zkz
 refine so Tryz.func167 ?_
 repeat' (first|refine wk ?_|exact wkc|intro hc|refine wk2 ?_ ?_|fail)
 refine TR.zak l.length (fun k=>(l.take k).all (fun t=>decide (t=l.headD 0))=true) (fun k=>[(0,.t (zeA l)),(5,.t (zeA l)),(6,.i l.length),(7,.i k)]) (fun _=>[]) rfl (fun k hlt ha=>?_) (fun ha=>?_) ⟨rfl,rfl,by rw[<-hml];rfl,rfl,trivial⟩
 ·have hx:=zi8 hlt
  have htk:=zbQ hlt
  have hm:=qad hlt
  have hx0:(l.map T.i)[(0:Int).toNat]?=some (T.i (l.headD 0)):=by cases l with|nil=>simp at hlt|cons a l=>rfl
  generalize l[k]=t at hx htk hm
  generalize hh:l.headD 0=t0 at*
  repeat' (first|refine wk ?_|exact wkc|intro hc|refine wk2 ?_ ?_|fail)
  ·have:l.all (fun t=>decide (t=t0))=false:=qbO.2 ⟨t,hm,by simpa using hc⟩
   rw[this];exact wkr
  ·exact zwfp
 ·rw[qag]at ha
  exact zwep
def zif(p:Prog)(nm:Str):Int×Bool:=(max (idxI (fun n=>n.name == nm) p.nodes) 0,decide (0≤idxI (fun n=>n.name == nm) p.nodes))
def zay(p:Prog):List T:=[.sl 2 (p.enums.map enT),zax p.nodes]
theorem zoa(p:Prog)(nm:Str)(hl:p.nodes.length≤1000000000):Pure Tryz.prog 245 [.t (.ag (zay p)),.s nm] (.tup [.i (zif p nm).1,.b (zif p nm).2]):=by
 have hs:=zfh 296 [.cp [.s nm] 0] rfl (fun n=>n.name == nm) p.nodes hl (fun d=>zij d nm)
 unfold zif zay
 refine so Tryz.func245 ?_
 repeat' (first|refine wu ?_|exact wkc|intro hc|refine wk2 ?_ ?_|refine wv hs ?_|fail)
 all_goals
  refine RetK.pure rfl (Le.of_eq ?_) rfl
  simp_all [pack]
structure zmP (n:Nod):Prop where
 ins:n.ins.length≤100000000
 outs:n.outs.length≤100000000
 locals:n.locals.length≤100000000
structure zcq (w:Plc):Prop where
 nodes:w.p.nodes.length≤100000000
 each:∀n∈w.p.nodes,zmP n
 env:w.env.length≤1000000000
def zoe:List Decl->List Int->Bool
 | d::ds,t::ts=>decide (t=d.ty.1) && zoe ds ts
 | _,_=>true
def zgz(w:Plc)(e:Ex)(l:List Int)(inner:Bool):List Int×Int:=
 if(zif w.p e.name).2=false\/w.node.1≤(zif w.p e.name).1 then([],6) else
 match w.p.nodes[(zif w.p e.name).1.toNat]? with
 | none=>([],6)
 | some n=>
   if(l.length:Int)≠n.ins.length+e.v.1\/(inner=true/\n.outs.length≠1) then([],9)
   else if zoe n.ins l=false then([],10)
   else if e.v.1=1/\l.getD n.ins.length 0≠1 then([],10)
   else(n.outs.map (·.ty.1),0)
abbrev nC(d:Nod):List T:=[.s d.name,zad d.ins,zad d.outs,zad d.locals,.sl 7 (d.eqs.map equT),.sl 1 (d.autos.map zae),.sl 6 (d.assume.map exT),.sl 6 (d.ensure.map exT)]
def nodC(d:Nod):List T:=[.s d.name,zad d.ins,zad d.outs,zad d.locals,.sl 7 (d.eqs.map equT),.sl 1 (d.autos.map zae),.sl 6 (d.assume.map exT),.sl 6 (d.ensure.map exT)]
def zez(d:Decl):List T:=[.s d.name,T.n d.ty,.sl 3 (d.clock.map onT)]
theorem zdQ{l:List Nod}{k:Nat}(h:k<l.length):(l.map nodT)[k]?=some (.ag (nodC l[k])):=zar nodT h
theorem zcC{l:List Decl}{k:Nat}(h:k<l.length):(l.map zaa)[k]?=some (.ag (zez l[k])):=zar zaa h
theorem zn9{p:Prog}{nm:Str}(h:(zif p nm).2=true):∃k:Nat,∃hk:k<p.nodes.length,zif p nm=((k:Int),true):=by
 unfold zif at h⊢
 rcases zdj (fun n:Nod=>n.name == nm) p.nodes with h1|⟨k,hk,h1,_⟩
 ·rw[h1]at h;simp at h
 ·rw[h1]
  exact⟨k,hk,by simp⟩
theorem znV(w:Plc)(hw:zcq w)(e:Ex)(l:List Int)(inner:Bool)(hv:e.v.1=0\/e.v.1=1):Pure Tryz.prog 169 [.t (plcT w),.t (.ag (exC e)),.t (zeA l),.b inner] (.tup [.t (zeA (zgz w e l inner).1),.i (zgz w e l inner).2]):=by
 have hs:=zoa w.p e.name (by have:=hw.nodes;omega)
 unfold zgz
 unfold zay at hs
 cases hf:(zif w.p e.name).2 with
 | false=>
   rw[hf]at hs
   rw[if_pos (.inl rfl)]
   unfold plcT plcC exC
   refine so Tryz.func169 ?_
   repeat' (first|refine wu ?_|exact wkc|intro hc|refine wk2 ?_ ?_|refine wv hs ?_|fail)
   exact wkr
 | true=>
   obtain⟨k,hk,hf'⟩:=zn9 hf
   rw[hf']at hs⊢
   simp only[qbv,false_or,qck,qac hk]at hs⊢
   have hn:=hw.each w.p.nodes[k] (qad hk)
   have hx:=zdQ hk
   generalize w.p.nodes[k]=n at hn hx⊢
   have hmi:(n.ins.map zaa).length=n.ins.length:=qaa _
   have hmo:(n.outs.map zaa).length=n.outs.length:=qaa _
   have hml:(l.map T.i).length=l.length:=qaa _
   have hi:=hn.ins
   have ho:=hn.outs
   unfold plcT plcC exC
   unfold nodC at hx
   by_cases hnode:w.node.1≤(k:Int)
   ·rw[if_pos hnode]
    refine so Tryz.func169 ?_
    repeat' (first|refine wu ?_|exact wkc|intro hc|refine wk2 ?_ ?_|refine wv hs ?_|fail)
    exact wkr
   ·rw[if_neg hnode]
    by_cases h9:(l.length:Int)≠n.ins.length+e.v.1\/(inner=true/\n.outs.length≠1)
    ·rw[if_pos h9]
     cases inner
     all_goals
      refine so Tryz.func169 ?_
      repeat' (first|refine wu ?_|exact wkc|intro hc|refine wk2 ?_ ?_|refine wv hs ?_|fail)
      all_goals first
       | exact wkr
       | (exfalso;simp at h9;omega)
    ·rw[if_neg h9]
     have h91:(l.length:Int)=n.ins.length+e.v.1:=by
      refine qaE fun h=>h9 (.inl h)
     have h92:inner=true->n.outs.length=1:=fun h=>qaE fun h'=>h9 (.inr ⟨h,h'⟩)
     clear h9
     have hlb:l.length≤100000001:=by omega
     cases inner
     all_goals
      try replace h92:=h92 rfl
      refine so Tryz.func169 ?_
      repeat' (first|refine wu ?_|exact wkc|intro hc|refine wk2 ?_ ?_|refine wv hs ?_|fail)
      refine TR.zak n.ins.length (fun j=>zoe n.ins l=zoe (n.ins.drop j) (l.drop j)) (fun j=>[(2,.t (zeA l)),(5,.cp [T.n e.kind,T.n e.op,T.n e.t,T.n e.v,.s e.name,.sl 6 (e.args.map exT)] 0),(12,.cp (nodC n) 0),(59,.t (zad n.ins)),(60,.i n.ins.length),(61,.i j)]) (fun _=>[]) rfl (fun j hlt ha=>?_) (fun ha=>?_) ⟨rfl,rfl,rfl,rfl,by rw[<-hmi];rfl,rfl,trivial⟩
      ·have hj:j<l.length:=by omega
       have hx1:=zcC hlt
       have hx2:=zi8 hj
       rw[qbb hlt,qbb hj,zoe]at ha
       generalize n.ins[j]=d at hx1 ha
       generalize l[j]=t at hx2 ha
       unfold zez at hx1
       rw[ha]
       repeat' (first|refine wu ?_|exact wkc|intro hc|refine wk2 ?_ ?_|fail)
       ·rw[if_pos (by simp[hc])]
        exact wkr
       ·refine zab.zk0 0 hlt ?_ rfl rfl rfl rfl rfl
        simp[show t=d.ty.1 from by simpa using hc]
      ·rw[qa1 (qae _)]at ha
       rw[show zoe n.ins l=true from by rw[ha];rfl]
       simp only[qbv,if_false]
       unfold nodC
       have hgo:e.v.1=1->(l.map T.i)[((n.ins.map zaa).length:Int).toNat]?=some (T.i (l.getD n.ins.length 0)):=by
        intro h1
        have:n.ins.length<l.length:=by omega
        rw[hmi]
        simp[this]
       by_cases hb:e.v.1=1/\l.getD n.ins.length 0≠1
       ·rw[if_pos hb]
        have hxx:=hgo hb.1
        repeat' (first|refine wu ?_|exact wkc|intro hc|refine wk2 ?_ ?_|fail)
        all_goals first
         | exact wkr
         | (exfalso;exact hb.2 (by simpa using hc))
         | (exfalso;exact hc hb.1)
       ·rw[if_neg hb]
        have hl1:e.v.1=1->l.getD n.ins.length 0=1:=fun h1=>qaE fun h=>hb ⟨h1,h⟩
        by_cases hv1:e.v.1=1
        all_goals
         try(have hxx:=hgo hv1;rw[hl1 hv1]at hxx)
         clear hgo hb hl1
         repeat' (first|refine wu ?_|exact wkc|intro hc|refine wk2 ?_ ?_|fail)
         refine TR.tail 1 15 rfl ?_
         refine TR.zak n.outs.length (fun _=>True) (fun j=>[(15,.sl 1 (((n.outs.take j).map (·.ty.1)).map T.i) 0),(87,.t (zad n.outs)),(88,.i n.outs.length),(89,.i j)]) (fun j=>[.tail (((n.outs.take j).map (·.ty.1)).map T.i).length]) trivial (fun j hlt _=>?_) (fun _=>?_) ⟨rfl,rfl,by rw[<-hmo];rfl,rfl,trivial⟩
         ·have hx1:=zcC hlt
          have htk:((n.outs.take (j+1)).map (·.ty.1)).map T.i=((n.outs.take j).map (·.ty.1)).map T.i++[T.i n.outs[j].ty.1]:=by rw[zbQ hlt];simp only[qan,qak,qay]
          have hmk:(((n.outs.take j).map (·.ty.1)).map T.i).length≤100000000:=by simp;omega
          generalize n.outs[j]=d at hx1 htk
          unfold zez at hx1
          repeat' (first|refine wu ?_|exact wkc|intro hc|refine wk2 ?_ ?_|fail)
          exact zab.zat hlt trivial (by rw[htk];exact⟨rfl,rfl,rfl,rfl,trivial⟩) (by rw[htk,qai];rfl)
         ·exact zwdu
theorem zhc(l:List T)(hl:l.length≤1000000000):Pure Tryz.prog 109 [.t (.sl 3 l)] (.t (.sl 3 l)):=by
 refine so Tryz.func109 ?_
 repeat' (first|refine wk ?_|fail)
 apply TO.zdi zah (sz:=3)
 ·exact rfl
 ·exact rfl
 ·exact rfl
 ·exact rfl
 ·exact rfl
 ·exact zwdw
 ·exact zwb
theorem ze2(ls:List (List Decl))(hl:ls.length≤1000000)(h0:ls.flatten=[]):
  Pure Tryz.prog 108 [.t (.sl 1 (ls.map dls))] (.t (.v (.slice none 0 0))):=by
 have hml:(ls.map dls).length=ls.length:=qaa _
 have hall:∀k (h:k<ls.length),ls[k]=[]:=fun k h=>List.flatten_eq_nil_iff.1 h0 _ (qad h)
 refine so Tryz.func108 ?_
 repeat' (first|refine wk ?_|exact wkc|intro hc|refine wk2 ?_ ?_|fail)
 refine TR.zak ls.length (fun _=>True) (fun k=>[(0,.t (.sl 1 (ls.map dls))),(3,.i 0),(9,.t (.sl 1 (ls.map dls))),(10,.i ls.length),(11,.i k)]) (fun _=>[]) trivial (fun k hlt _=>?_) (fun _=>?_) ⟨rfl,rfl,rfl,by rw[<-hml];rfl,rfl,trivial⟩
 ·have hx:=zm0 hlt
  rw[hall k hlt]at hx
  change _=some (T.sl 3 [])at hx
  repeat' (first|refine wk ?_|exact wkc|intro hc|refine wk2 ?_ ?_|fail)
  exact zab.zat hlt trivial ⟨rfl,rfl,rfl,rfl,rfl,trivial⟩
 ·repeat' (first|refine wk ?_|exact wkc|intro hc|refine wk2 ?_ ?_|refine wv zmb ?_|fail)
  refine TR.zak ls.length (fun _=>True) (fun k=>[(6,.t (.v (.slice none 0 0))),(25,.t (.sl 1 (ls.map dls))),(26,.i ls.length),(27,.i k)]) (fun _=>[]) trivial (fun k hlt _=>?_) (fun _=>?_) ⟨rfl,rfl,by rw[<-hml];rfl,rfl,trivial⟩
  ·have hx:=zm0 hlt
   rw[hall k hlt]at hx
   change _=some (T.sl 3 [])at hx
   repeat' (first|refine wk ?_|exact wkc|intro hc|refine wk2 ?_ ?_|(apply TO.zlA zah;(iterate 11 exact rfl))|fail)
   exact zab.zat hlt trivial ⟨rfl,rfl,rfl,rfl,trivial⟩
  ·repeat' (first|refine wk ?_|exact wkc|intro hc|refine wk2 ?_ ?_|fail)
   exact wkr
end Go.Proofs.YtpnnpgbaiobbjaaGreatDoor
