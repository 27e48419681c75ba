import Derived.Test.YtcbhlhmebbkgnaaGreatPk8
import Derived.Test.YtcbhlhmebbkgnaaGreatPk11
set_option linter.unusedSimpArgs false
set_option linter.unusedVariables false
namespace Go.Proofs.YtcbhlhmebbkgnaaGreat
open Go Go.TL
attribute [local irreducible] TR TO Then zaw RetK Sound zab Kf GG zaZ
def tagI(t v:Int):Bool:=(decide (t=1) && (decide (v=0) || decide (v=1))) || (decide (3≤t) && decide (0≤v) && decide (v<16))
def zqa(t n:Int):Bool:=(decide (t=1) && decide (n=2)) || (decide (3≤t) && decide (1≤n) && decide (n≤16))
def opdI(o:Int):Int:=if o=1\/o=2 then 1 else 2
theorem zqd(t v:Int):Pure Tryz.prog 196 [.i t,.i v] (.b (tagI t v)):=by
 refine so Tryz.func196 ?_
 repeat' (first|refine wk ?_|exact wkc|intro hc|refine wk2 ?_ ?_|fail)
 all_goals try(refine RetK.pure rfl ?_ rfl;exact Le.of_eq (by simp_all [pack,tagI] <;> omega))
theorem zjg(t n:Int):Pure Tryz.prog 198 [.i t,.i n] (.b (zqa t n)):=by
 refine so Tryz.func198 ?_
 repeat' (first|refine wk ?_|exact wkc|intro hc|refine wk2 ?_ ?_|fail)
 all_goals try(refine RetK.pure rfl ?_ rfl;exact Le.of_eq (by simp_all [pack,zqa] <;> omega))
theorem zpa(o:Int):Pure Tryz.prog 197 [.i o] (.i (opdI o)):=by
 refine so Tryz.func197 ?_
 repeat' (first|refine wk ?_|exact wkc|intro hc|refine wk2 ?_ ?_|fail)
 all_goals try(refine RetK.pure rfl ?_ rfl;exact Le.of_eq (by simp_all [pack,opdI] <;> omega))
structure Form where
 args:Bool
 op:Bool
 typed:Bool
 name:Bool
 word:Bool
abbrev ztP (f:Form):T:=.ag [.b f.args,.b f.op,.b f.typed,.b f.name,.b f.word]
def ofF(k o t v n:Int):Form:=
 if k=1 then⟨decide (n=0),false,(decide (t=2) && decide (-32768≤v) && decide (v≤32767)) || (!decide (t=2) && tagI t v),false,false⟩
 else if k=2 then⟨decide (n=0),false,decide (t=0) && decide (v=0),true,false⟩
 else if k=3 then⟨decide (n=opdI o),true,decide (t=0) && decide (v=0),false,false⟩
 else if k=4 then⟨decide (n=3),false,decide (t=0) && decide (v=0),false,false⟩
 else if k=5 then⟨decide (n=1),false,decide (t=0) && decide (v=0),false,false⟩
 else if k=6\/k=7 then⟨decide (n=2),false,decide (t=0) && decide (v=0),false,false⟩
 else if k=8 then⟨decide (n=1),false,!decide (t=2) && tagI t v,true,false⟩
 else if k=9 then⟨!decide (t=2) && zqa t n,false,decide (v=0),true,false⟩
 else if k=10 then⟨decide (v≤n),false,decide (t=0) && (decide (v=0) || decide (v=1)),true,false⟩
 else if k=11 then⟨decide (n=0),false,decide (t=0) && decide (v=0),false,true⟩
 else⟨false,false,false,false,false⟩
set_option maxHeartbeats 2000000 in
theorem zrG (k o t v:Int) (nm:Str) (l:List T):Pure Tryz.prog 167 [.t (.ag [.i k,.i o,.i t,.i v,.s nm,.sl 6 l])] (.t (ztP (ofF k o t v l.length))):=by
 have ht:=zqd t v
 have hb:=zjg t l.length
 have ho:=zpa o
 have hk:k=1\/k=2\/k=3\/k=4\/k=5\/k=6\/k=7\/k=8\/k=9\/k=10\/k=11\/(k<1\/11<k):=by omega
 rcases hk with rfl|rfl|rfl|rfl|rfl|rfl|rfl|rfl|rfl|rfl|rfl|hk
 all_goals
  first|rw[show ofF k o t v l.length=⟨false,false,false,false,false⟩ from by unfold ofF;repeat' (first|rw[if_neg (by omega)]|fail)]|simp only[ofF,Int.reduceEq,if_false,if_true,or_self,or_true,true_or,or_false,false_or]
  refine so Tryz.func167 ?_
  repeat' (first|refine wu ?_|exact wkc|intro hc|refine wk2 ?_ ?_|refine wv ht ?_|refine wv hb ?_|refine wv ho ?_|fail)
  all_goals
   refine RetK.pure rfl (Le.tree rfl (TLe.of_eq ?_)) rfl
   clear ht hb ho
   simp only[ztP,T.ag.injEq,List.cons.injEq,T.v.injEq,Value.bool.injEq,and_true,true_eq_decide_iff,false_eq_decide_iff,eq_comm (a:=true),eq_comm (a:=false),Bool.or_eq_true,Bool.and_eq_true,Bool.or_eq_false_iff,Bool.and_eq_false_iff,Bool.not_eq_true',Bool.not_eq_false',decide_eq_true_eq,decide_eq_false_iff_not,Bool.false_eq_true,true_and,reduceCtorEq] <;>
    first|omega|(simp_all;done)|(simp_all;omega)
def oneI(k o t v:Int)(nm:Str)(n:Int):Int:=
 if 64<n then 3
 else if(ofF k o t v n).args=false\/(ofF k o t v n).typed=false\/((ofF k o t v n).op≠decide (o≠0))\/((ofF k o t v n).op=true/\(o<1\/16<o)) then 5
 else if(ofF k o t v n).name=true then(if ident nm then 0 else 6)
 else if(ofF k o t v n).word=true/\(zeC nm).2=0 then 0
 else if nm≠ []\/(ofF k o t v n).word=true then 5 else 0
set_option maxHeartbeats 1000000 in
theorem zp8 (k o t v:Int) (nm:Str) (l:List T):Pure Tryz.prog 118 [.t (.ag [.i k,.i o,.i t,.i v,.s nm,.sl 6 l])] (.i (oneI k o t v nm l.length)):=by
 have hf:=zrG k o t v nm l
 have hid:=zh0 nm
 have hw:=zma nm
 unfold oneI
 generalize ofF k o t v l.length=f at*
 generalize ident nm=id at*
 generalize zeC nm=w at*
 obtain⟨fa,fo,ft,fn,fw⟩:=f
 simp only[ztP]at hf
 obtain⟨w1,w2⟩:=w
 by_cases h64:64<(l.length:Int)
 ·rw[if_pos h64]
  refine so Tryz.func118 ?_
  repeat' (first|refine wu ?_|exact wkc|intro hc|refine wk2 ?_ ?_|fail)
  exact wkr
 ·rw[if_neg h64]
  cases fa with
  | false=>
    rw[if_pos (.inl rfl)]
    refine so Tryz.func118 ?_
    repeat' (first|refine wu ?_|exact wkc|intro hc|refine wk2 ?_ ?_|refine wv hf ?_|fail)
    exact wkr
  | true=>
    cases ft with
    | false=>
      rw[if_pos (.inr (.inl rfl))]
      refine so Tryz.func118 ?_
      repeat' (first|refine wu ?_|exact wkc|intro hc|refine wk2 ?_ ?_|refine wv hf ?_|fail)
      exact wkr
    | true=>
      simp only[Bool.true_eq_false,false_or]
      cases fo <;> cases fn <;> cases fw
      all_goals
       refine so Tryz.func118 ?_
       repeat' (first|refine wu ?_|exact wkc|intro hc|refine wk2 ?_ ?_|refine wv hf ?_|refine wb hid ?_ ?_|refine wv hw ?_|fail)
       all_goals
        refine RetK.pure rfl (Le.of_eq ?_) rfl
        refine congrArg (fun z=>SV.t (T.v (Value.int IntKind.i64 z))) ?_
        clear hf hid hw
        first|(simp_all;done)|(simp_all;omega)
theorem zlE(t v:Int):Pure Tryz.prog 175 [.i t,.i v] (.b (tagI t v)):=by
 refine so Tryz.func175 ?_
 repeat' (first|refine wk ?_|exact wkc|intro hc|refine wk2 ?_ ?_|fail)
 all_goals
  refine RetK.pure rfl (Le.of_eq ?_) rfl
  simp only[pack,tagI,SV.t.injEq,T.v.injEq,Value.bool.injEq,true_eq_decide_iff,false_eq_decide_iff,eq_comm (a:=true),eq_comm (a:=false),Bool.or_eq_true,Bool.and_eq_true,Bool.or_eq_false_iff,Bool.and_eq_false_iff,decide_eq_true_eq,decide_eq_false_iff_not]
  omega
def ziG(k:Int):Bool:=decide (k=2) || decide (k=8) || decide (k=9) || decide (k=10)
theorem zih(k:Int):Pure Tryz.prog 129 [.i k] (.b (ziG k)):=by
 refine so Tryz.func129 ?_
 repeat' (first|refine wk ?_|exact wkc|intro hc|refine wk2 ?_ ?_|fail)
 all_goals try(refine RetK.pure rfl ?_ rfl;exact Le.of_eq (by simp_all [pack,ziG] <;> omega))
def zgy(k o t v n:Int):Bool:=
 if k=1\/k=2\/k=11 then decide (n=0)
 else if k=3 then(if o=1\/o=2 then decide (n=1) else decide (n=2))
 else if k=4 then decide (n=3)
 else if k=5\/k=8 then decide (n=1)
 else if k=6\/k=7 then decide (n=2)
 else if k=9 then(if t=1 then decide (n=2) else decide (1≤n) && decide (n≤16))
 else decide (1≤n) || decide (v=0)
set_option maxHeartbeats 1000000 in
theorem zm5 (k o t v:Int) (nm:Str) (l:List T):Pure Tryz.prog 174 [.t (.ag [.i k,.i o,.i t,.i v,.s nm,.sl 6 l])] (.b (zgy k o t v l.length)):=by
 refine so Tryz.func174 ?_
 repeat' (first|refine wu ?_|exact wkc|intro hc|refine wk2 ?_ ?_|fail)
 all_goals
  refine RetK.pure rfl (Le.of_eq ?_) rfl
  first|(simp_all [pack,zgy];done)|(simp_all [pack,zgy];omega)
def zeS(k o t v:Int)(nm:Str)(n:Int):Bool:=
 if k<1\/11<k\/zgy k o t v n=false then false
 else if(decide (k=3) != decide (o≠0))=true\/(o≠0/\(o<1\/16<o)) then false
 else if ziG k=false/\k≠11/\nm≠ [] then false
 else if k=1 then(if t=2 then decide (-32768≤v) && decide (v≤32767) else tagI t v)
 else if k=8 then tagI t v
 else if k=9 then(decide (t=1) || decide (2<t)) && decide (v=0)
 else if k=10 then decide (t=0) && (decide (v=0) || decide (v=1))
 else if k=11 then decide (t=0) && decide (v=0) && decide ((zeC nm).2=0)
 else decide (t=0) && decide (v=0)
set_option maxHeartbeats 4000000 in
theorem znn (k o t v:Int) (nm:Str) (l:List T):Pure Tryz.prog 128 [.t (.ag [.i k,.i o,.i t,.i v,.s nm,.sl 6 l])] (.b (zeS k o t v nm l.length)):=by
 have ha:=zm5 k o t v nm l
 have hn:=zih k
 have htg:=zlE t v
 have hw:=zkT nm
 refine so Tryz.func128 ?_
 repeat' (first|refine wu ?_|exact wkc|intro hc|refine wk2 ?_ ?_|refine wb ha ?_ ?_|refine wb hn ?_ ?_|refine wv htg ?_|refine wv hw ?_|fail)
 all_goals
  refine RetK.pure rfl (Le.of_eq ?_) rfl
  clear ha hn htg hw
  refine congrArg (fun b=>SV.t (T.v (Value.bool b))) ?_
  first
  | (simp_all [zeS];done)
  | (simp_all [zeS];omega)
  | (simp_all [zeS,ziG];omega)
  | (unfold zeS;simp_all;omega)
def oneX(x:Ex):Int:=oneI x.kind.1 x.op.1 x.t.1 x.v.1 x.name x.args.length
def zaa{α:Type}(g:α->Int):List α->Int
 | []=>0
 | x::l=>if g x=0 then zaa g l else g x
theorem zaL{α:Type}(g:α->Int):∀(a b:List α),zaa g (a++b)=if zaa g a=0 then zaa g b else zaa g a
 | [],b=>by simp[zaa]
 | x::a,b=>by
   simp only[List.cons_append,zaa]
   by_cases h:g x=0
   ·simp only[h,if_true];exact zaL g a b
   ·simp[h]
def zen(e:Ex):Int:=if 400<wEx e\/32<zaH e then 3 else zaa oneX (flat e)
theorem zpu(x:Ex):Pure Tryz.prog 118 [.t (.ag (exC x))] (.i (oneX x)):=by
 have:=zp8 x.kind.1 x.op.1 x.t.1 x.v.1 x.name (x.args.map exT)
 rw[List.length_map]at this
 exact this
def errF(g:Ex->Int)(_:List Ex)(x:Ex):Out:=if g x=0 then .go else .jump .ret [.cells [.i (g x)]]
theorem zk1(g:Ex->Int):∀(l pre:List Ex),zbm (errF g) pre l=if zaa g l=0 then .go else .jump .ret [.cells [.i (zaa g l)]]
 | [],pre=>by simp[zbm,zaa]
 | x::l,pre=>by
   simp only[zbm,errF,zaa]
   by_cases h:g x=0
   ·simp only[h,if_true];exact zk1 g l _
   ·simp[h]
theorem zmg(e:Ex)(h:wEx e≤1000000000):Pure Tryz.prog 79 [.t (exT e)] (.i (zen e)):=by
 have hsz:=zm1 e h
 have hdp:=znO e h
 have hs:=zc4 e
 rw[zaA]at*
 have hc0:exC e=[T.n e.kind,T.n e.op,T.n e.t,T.n e.v,.s e.name,.sl 6 (e.args.map exT)]:=rfl
 rw[hc0]at hs hsz hdp⊢
 unfold zen
 refine so Tryz.func79 ?_
 by_cases h1:400<wEx e\/32<zaH e
 ·rw[if_pos h1]
  repeat' (first|refine wkb ?_|refine wk ?_|exact wkc|intro hc|refine wk2 ?_ ?_|refine wv hsz ?_|refine wv hdp ?_|fail)
  all_goals exact wkr
 ·rw[if_neg h1]
  repeat' (first|refine wkb ?_|refine wk ?_|exact wkc|intro hc|refine wk2 ?_ ?_|refine wv hsz ?_|refine wv hdp ?_|refine wv hs ?_|fail)
  refine TR.zd4 e (fun _=>[.cells [.i 0]]) (errF oneX) rfl h rfl rfl rfl (fun _=>⟨rfl,rfl⟩) (fun pre x=>?_) (fun fn pre x post hw=>?_) (fun fn=>?_)
  ·unfold errF
   split <;> rename_i hq <;> split at hq <;> cases hq
   ·trivial
   ·exact⟨rfl,rfl⟩
  ·have ho:=zpu x
   have hcx:exC x=[T.n x.kind,T.n x.op,T.n x.t,T.n x.v,.s x.name,.sl 6 (x.args.map exT)]:=rfl
   rw[hcx]at ho⊢
   repeat' (first|refine wu ?_|exact wkc|intro hc|refine wk2 ?_ ?_|fail)
   refine⟨rfl,?_⟩
   repeat' (first|refine wu ?_|exact wkc|intro hc|refine wk2 ?_ ?_|refine wv ho ?_|fail)
   ·refine⟨_,?_,rfl,rfl⟩
    rw[errF,if_neg hc]
    rfl
   ·refine⟨?_,rfl,rfl⟩
    rw[errF,if_pos (by simpa using hc)]
  ·rw[zk1]
   by_cases h2:zaa oneX (flat e)=0
   ·rw[if_pos h2,h2]
    repeat' (first|refine wu ?_|exact wkc|intro hc|refine wk2 ?_ ?_|fail)
    exact wkr
   ·rw[if_neg h2]
    simp only[]
    repeat' (first|refine wu ?_|exact wkc|intro hc|refine wk2 ?_ ?_|fail)
    exact wkr
theorem znj(k o t v:Int)(nm:Str)(n:Int)(hn:0≤n):oneI k o t v nm n=if 64<n then 3 else if zeS k o t v nm n=false then 5 else if ziG k=true/\ident nm=false then 6 else 0:=by
 unfold oneI
 by_cases h64:64<n
 ·rw[if_pos h64,if_pos h64]
 rw[if_neg h64,if_neg h64]
 have hk:k=1\/k=2\/k=3\/k=4\/k=5\/k=6\/k=7\/k=8\/k=9\/k=10\/k=11\/(k<1\/11<k):=by omega
 generalize ident nm=id
 generalize hw:(zeC nm).2=w
 have hv:v=0\/v=1\/(v≠0/\v≠1):=by omega
 rcases hk with rfl|rfl|rfl|rfl|rfl|rfl|rfl|rfl|rfl|rfl|rfl|hk
 case inr.inr.inr.inr.inr.inr.inr.inr.inr.inl=>rcases hv with rfl|rfl|hv <;> grind [ofF,zeS,zgy,ziG,opdI,tagI,zqa]
 case inr.inr.inr.inr.inr.inr.inr.inr.inr.inr.inr=>
  have e1:ofF k o t v n=⟨false,false,false,false,false⟩:=by unfold ofF;repeat' (first|rw[if_neg (by omega)]|fail)
  have e2:zeS k o t v nm n=false:=by unfold zeS;rw[if_pos (by omega)]
  rw[e1,e2]
  simp
 all_goals(clear hv;grind [ofF,zeS,zgy,ziG,opdI,tagI,zqa])
theorem zo1(x:Ex):Pure Tryz.prog 128 [.t (.ag (exC x))] (.b (zeS x.kind.1 x.op.1 x.t.1 x.v.1 x.name x.args.length)):=by
 have:=znn x.kind.1 x.op.1 x.t.1 x.v.1 x.name (x.args.map exT)
 rw[List.length_map]at this
 exact this
theorem zk7(e:Ex)(h:wEx e≤1000000000):Pure Tryz.prog 87 [.t (exT e)] (.i (zen e)):=by
 have hsz:=zl5 e h
 have hdp:=zlU e h
 have hls:=zju e h
 have hll:=zdp e
 rw[zaA]at*
 have hc0:exC e=[T.n e.kind,T.n e.op,T.n e.t,T.n e.v,.s e.name,.sl 6 (e.args.map exT)]:=rfl
 rw[hc0]at hls hsz hdp⊢
 unfold zen
 refine so Tryz.func87 ?_
 by_cases h1:400<wEx e\/32<zaH e
 ·rw[if_pos h1]
  repeat' (first|refine wkb ?_|refine wk ?_|exact wkc|intro hc|refine wk2 ?_ ?_|refine wv hsz ?_|refine wv hdp ?_|fail)
  all_goals exact wkr
 ·rw[if_neg h1]
  repeat' (first|refine wkb ?_|refine wk ?_|exact wkc|intro hc|refine wk2 ?_ ?_|refine wv hsz ?_|refine wv hdp ?_|refine wv hls ?_|fail)
  generalize flat e=l at hll⊢
  have hml:(l.map exT).length=l.length:=List.length_map _
  refine TR.zal l.length (fun k=>zaa oneX l=zaa oneX (l.drop k)) (fun k=>[(3,.t (.sl 6 (l.map exT))),(4,.i k)]) (fun _=>[]) rfl (fun k hlt ha=>?_) (fun ha=>?_)
  ·have hx:=zbd hlt
   rw[List.drop_eq_getElem_cons hlt,zaa]at ha
   have ho:=zo1 l[k]
   have hn:=zih l[k].kind.1
   have hi:=zbD l[k].name
   have he:=znj l[k].kind.1 l[k].op.1 l[k].t.1 l[k].v.1 l[k].name l[k].args.length (by omega)
   rw[show oneX l[k]=_ from he]at ha
   generalize l[k]=x at*
   have hcx:exC x=[T.n x.kind,T.n x.op,T.n x.t,T.n x.v,.s x.name,.sl 6 (x.args.map exT)]:=rfl
   have hmx:(x.args.map exT).length=x.args.length:=List.length_map _
   rw[hcx]at ho hx
   rw[ha]
   repeat' (first|refine wu ?_|exact wkc|intro hc|refine wk2 ?_ ?_|refine wb ho ?_ ?_|refine wb hn ?_ ?_|refine wb hi ?_ ?_|fail)
   all_goals
    clear ho hn hi hx hsz hdp hls
    first
    | (refine zab.zak hlt ?_;clear ha;grind)
    | (refine RetK.pure rfl (Le.of_eq ?_) rfl
       refine congrArg (fun z=>SV.t (T.v (Value.int IntKind.i64 z))) ?_
       grind)
  ·rw[ha,List.drop_of_length_le (Nat.le_refl _)]
   repeat' (first|refine wu ?_|exact wkc|intro hc|refine wk2 ?_ ?_|fail)
   exact wkr
def insI(es:List En)(k t v n:Int):Int:=
 if k=1\/k=8\/k=9 then(if zbK es t=0 then 10 else if k≠9/\hasT es t v=false then 14 else if k=9/\n≠zbK es t then 9 else 0) else 0
def insX(es:List En)(x:Ex):Int:=insI es x.kind.1 x.t.1 x.v.1 x.args.length
def zaP(es:List En)(e:Ex):Int:=if zen e=0 then zaa (insX es) (flat e) else zen e
theorem zi1(es:List En)(t:Int):0≤zbK es t:=by
 unfold zbK;repeat' split
 all_goals omega
theorem zps(es:List En)(x:Ex):Pure Tryz.prog 80 [.t (ensT es),.t (.ag (exC x))] (.i (insX es x)):=by
 have hs:=zgT es x.t
 have hh:=zlK es x.t x.v
 have hnn:=zi1 es x.t.1
 have hcx:exC x=[T.n x.kind,T.n x.op,T.n x.t,T.n x.v,.s x.name,.sl 6 (x.args.map exT)]:=rfl
 have hmx:(x.args.map exT).length=x.args.length:=List.length_map _
 rw[hcx]
 unfold insX insI
 generalize zbK es x.t.1=sz at*
 generalize hasT es x.t.1 x.v.1=hb at*
 refine so Tryz.func80 ?_
 repeat' (first|refine wu ?_|exact wkc|intro hc|refine wk2 ?_ ?_|refine wv hs ?_|refine wb hh ?_ ?_|fail)
 all_goals
  clear hs hh hcx
  refine RetK.pure rfl (Le.of_eq ?_) rfl
  refine congrArg (fun z=>SV.t (T.v (Value.int IntKind.i64 z))) ?_
  grind
theorem zij(es:List En)(t:I64):Pure Tryz.prog 131 [.t (ensT es),.n t] (.b (decide (0<zbK es t.1))):=by
 have hs:=zfy es t
 refine so Tryz.func131 ?_
 repeat' (first|refine wu ?_|exact wkc|intro hc|refine wk2 ?_ ?_|refine wv hs ?_|fail)
 all_goals
  refine RetK.pure rfl (Le.of_eq ?_) rfl
  refine congrArg (fun b=>SV.t (T.v (Value.bool b))) ?_
  simp[hc]
theorem zmY(es:List En):∀(m:Nat) (e:Ex),wEx e≤m->wEx e≤1000000000->Pure Tryz.prog 88 [.t (ensT es),.t (exT e)] (.i (zaa (insX es) (flat e))):=by
 intro m
 induction m with
 | zero=>intro e he;have:=zaI e;omega
 | succ m ih0=>
   intro e he hb
   have ih:∀x∈e.args,Pure Tryz.prog 88 [.t (ensT es),.t (exT x)] (.i (zaa (insX es) (flat x))):=fun x hx=>ih0 x (by have:=zaE hx;omega) (by have:=zaE hx;omega)
   clear ih0
   have hll:=zcq e
   rw[za2,zaa,zaA]
   have hv:=zij es e.t
   have hh:=zjQ es e.t e.v
   have hs:=zfy es e.t
   have hnn:=zi1 es e.t.1
   have hml:(e.args.map exT).length=e.args.length:=List.length_map _
   have hcx:exC e=[T.n e.kind,T.n e.op,T.n e.t,T.n e.v,.s e.name,.sl 6 (e.args.map exT)]:=rfl
   rw[hcx]
   have hz:insX es e=(if e.kind.1=1\/e.kind.1=8\/e.kind.1=9 then(if zbK es e.t.1=0 then 10 else if e.kind.1≠9/\hasT es e.t.1 e.v.1=false then 14 else if e.kind.1=9/\(e.args.length:Int)≠zbK es e.t.1 then 9 else 0) else 0):=rfl
   generalize insX es e=z at hz⊢
   generalize zbK es e.t.1=sz at*
   generalize hasT es e.t.1 e.v.1=hb at*
   refine so Tryz.func88 ?_
   repeat' (first|refine wu ?_|exact wkc|intro hc|refine wk2 ?_ ?_|refine wb hv ?_ ?_|refine wb hh ?_ ?_|refine wv hs ?_|fail)
   all_goals first
    | (refine RetK.pure rfl (Le.of_eq ?_) rfl
       clear hv hh hs ih
       refine congrArg (fun z=>SV.t (T.v (Value.int IntKind.i64 z))) ?_
       grind)
    | skip
   all_goals
    rw[if_pos (show z=0 from by clear hv hh hs ih;grind)]
    clear hz
    clear hv hh hs
    generalize e.args=l at*
    refine TR.zal l.length (fun k=>zaa (insX es) (flats (l.take k))=0) (fun k=>[(0,.t (ensT es)),(3,.cp [T.n e.kind,T.n e.op,T.n e.t,T.n e.v,.s e.name,.sl 6 (l.map exT)] 0),(5,.i k)]) (fun _=>[]) rfl (fun k hlt ha=>?_) (fun ha=>?_)
    ·have hx:=zbd hlt
     have hs:=ih l[k] (List.getElem_mem hlt)
     have htk:=ze8 l hlt
     have hsp:=zec l hlt
     rw[zaA]at hs
     generalize l[k]=x at hx hs htk hsp
     unfold exC at hx hs
     repeat' (first|refine wu ?_|exact wkc|intro hc|refine wk2 ?_ ?_|refine wv hs ?_|fail)
     ·refine RetK.pure rfl (Le.of_eq ?_) rfl
      refine congrArg (fun z=>SV.t (T.v (Value.int IntKind.i64 z))) ?_
      rw[hsp,zaL,if_pos ha,zaL,if_neg hc]
     ·refine zab.zak hlt ?_
      rw[htk,zaL,if_pos ha]
      simpa using hc
    ·rw[List.take_length]at ha
     rw[ha]
     repeat' (first|refine wu ?_|exact wkc|intro hc|refine wk2 ?_ ?_|fail)
     exact wkr
theorem zpC(es:List En)(e:Ex)(h:wEx e≤1000000000):Pure Tryz.prog 88 [.t (ensT es),.t (exT e)] (.i (zaa (insX es) (flat e))):=zmY es _ e (Nat.le_refl _) h
theorem zde(es:List En)(e:Ex)(h:wEx e≤1000000000):Pure Tryz.prog 57 [.t (ensT es),.t (exT e)] (.i (zaP es e)):=by
 have h1:=zk7 e h
 have h2:=zpC es e h
 rw[zaA]at*
 unfold exC at*
 unfold zaP
 refine so Tryz.func57 ?_
 repeat' (first|refine wu ?_|exact wkc|intro hc|refine wk2 ?_ ?_|refine wv h1 ?_|refine wv h2 ?_|fail)
 ·rw[if_neg hc];exact wkr
 ·rw[if_pos (by simpa using hc)];exact wkr
theorem zda(es:List En)(e:Ex)(h:wEx e≤1000000000):Pure Tryz.prog 54 [.t (ensT es),.t (exT e)] (.i (zaP es e)):=by
 have hck:=zmg e h
 have hs:=zc4 e
 rw[zaA]at*
 have hc0:exC e=[T.n e.kind,T.n e.op,T.n e.t,T.n e.v,.s e.name,.sl 6 (e.args.map exT)]:=rfl
 rw[hc0]at hs hck⊢
 unfold zaP
 refine so Tryz.func54 ?_
 by_cases h1:zen e=0
 ·rw[if_pos h1]
  repeat' (first|refine wkb ?_|refine wk ?_|exact wkc|intro hc|refine wk2 ?_ ?_|refine wv hck ?_|refine wv hs ?_|fail)
  refine TR.zd4 e (fun _=>[.cells [.i 0]]) (errF (insX es)) rfl h rfl rfl rfl (fun _=>⟨rfl,rfl⟩) (fun pre x=>?_) (fun fn pre x post hw=>?_) (fun fn=>?_)
  ·unfold errF
   split <;> rename_i hq <;> split at hq <;> cases hq
   ·trivial
   ·exact⟨rfl,rfl⟩
  ·have ho:=zps es x
   have hcx:exC x=[T.n x.kind,T.n x.op,T.n x.t,T.n x.v,.s x.name,.sl 6 (x.args.map exT)]:=rfl
   rw[hcx]at ho⊢
   repeat' (first|refine wu ?_|exact wkc|intro hc|refine wk2 ?_ ?_|fail)
   refine⟨rfl,?_⟩
   repeat' (first|refine wu ?_|exact wkc|intro hc|refine wk2 ?_ ?_|refine wv ho ?_|fail)
   ·refine⟨_,?_,rfl,rfl⟩
    rw[errF,if_neg hc]
    rfl
   ·refine⟨?_,rfl,rfl⟩
    rw[errF,if_pos (by simpa using hc)]
  ·rw[zk1]
   by_cases h2:zaa (insX es) (flat e)=0
   ·rw[if_pos h2,h2]
    repeat' (first|refine wu ?_|exact wkc|intro hc|refine wk2 ?_ ?_|fail)
    exact wkr
   ·rw[if_neg h2]
    simp only[]
    repeat' (first|refine wu ?_|exact wkc|intro hc|refine wk2 ?_ ?_|fail)
    exact wkr
 ·rw[if_neg h1]
  repeat' (first|refine wkb ?_|refine wk ?_|exact wkc|intro hc|refine wk2 ?_ ?_|refine wv hck ?_|refine wv hs ?_|fail)
  exact wkr
def idxI{α:Type}(p:α->Bool):List α->Int
 | []=>-1
 | x::l=>if p x then 0 else if idxI p l<0 then -1 else idxI p l+1
theorem zeT{α:Type}(p:α->Bool):∀(l:List α) (k:Nat) (h:k<l.length),(l.take k).all (fun x=>!p x)=true->p l[k]=true->idxI p l=k
 | x::l,0,_,_,hp=>by simp at hp;simp[idxI,hp]
 | x::l,k+1,h,ha,hp=>by
   simp only[List.take_succ_cons,List.all_cons,Bool.and_eq_true,Bool.not_eq_true']at ha
   have:=zeT p l k (by simpa using h) ha.2 (by simpa using hp)
   rw[idxI,if_neg (by simp[ha.1]),this,if_neg (by omega)]
   omega
theorem zcJ{α:Type}(p:α->Bool):∀(l:List α),l.all (fun x=>!p x)=true->idxI p l= -1
 | [],_=>rfl
 | x::l,ha=>by
   simp only[List.all_cons,Bool.and_eq_true,Bool.not_eq_true']at ha
   rw[idxI,if_neg (by simp[ha.1]),zcJ p l ha.2]
   rfl
theorem zfa{α:Type}(p:α->Bool):∀(l:List α),idxI p l= -1\/∃k:Nat,∃h:k<l.length,idxI p l=k/\p l[k]=true
 | []=>.inl rfl
 | x::l=>by
   unfold idxI
   by_cases hx:p x=true
   ·rw[if_pos hx];exact .inr ⟨0,by simp,rfl,by simpa using hx⟩
   ·rw[if_neg hx]
    rcases zfa p l with h|⟨k,hk,h,hp⟩
    ·rw[h];exact .inl rfl
    ·rw[h,if_neg (by omega)]
     exact .inr ⟨k+1,by simpa using hk,by omega,by simpa using hp⟩
abbrev zac (l:List Decl):T:=.sl 3 (l.map zah)
abbrev zag (l:List Nod):T:=.sl 8 (l.map nodT)
theorem zgl(fid:FuncId)(caps:List SV)(hcaps:unders 0 caps=true)(p:Decl->Bool)(l:List Decl)(hl:l.length≤1000000000)(hp:∀d,Pure Tryz.prog fid (.t (zah d)::caps) (.b (p d))):
  Pure Tryz.prog 121 [.t (zac l),.fn fid caps] (.i (idxI p l)):=by
 have hml:(l.map zah).length=l.length:=List.length_map _
 refine so Tryz.func121 ?_
 repeat' (first|refine wk ?_|exact wkc|intro hc|refine wk2 ?_ ?_|fail)
 refine TR.zal l.length (fun k=>(l.take k).all (fun x=>!p x)=true) (fun k=>[(0,.t (zac l)),(1,.fn fid caps),(7,.i l.length),(8,.i k)]) (fun _=>[]) rfl (fun k hlt ha=>?_) (fun ha=>?_) ⟨rfl,rfl,by rw[<-hml];rfl,rfl,trivial⟩
 ·have hx:=zaX zah hlt
  have htk:=zaG hlt
  have hat:=zeT p l k hlt ha
  have hd:=hp l[k]
  generalize l[k]=d at hx htk hat hd
  have hu:unders 0 (.t (zah d)::caps)=true:=by simp[unders,SV.under,hcaps]
  repeat' (first|refine wk ?_|exact wkc|intro hc|refine wk2 ?_ ?_|(apply TO.zev hd;(iterate 3 exact rfl);exact Les.refl _;exact hu;exact rfl)|fail)
  ·rw[hat hc];exact wkr
  ·refine zab.zak hlt ?_
   rw[htk,List.all_append,ha]
   simp[hc]
 ·rw[List.take_length]at ha
  rw[zcJ p l ha]
  repeat' (first|refine wk ?_|exact wkc|intro hc|refine wk2 ?_ ?_|fail)
  exact wkr
theorem zf7(fid:FuncId)(caps:List SV)(hcaps:unders 0 caps=true)(p:Nod->Bool)(l:List Nod)(hl:l.length≤1000000000)(hp:∀d,Pure Tryz.prog fid (.t (nodT d)::caps) (.b (p d))):
  Pure Tryz.prog 95 [.t (zag l),.fn fid caps] (.i (idxI p l)):=by
 have hml:(l.map nodT).length=l.length:=List.length_map _
 refine so Tryz.func95 ?_
 repeat' (first|refine wk ?_|exact wkc|intro hc|refine wk2 ?_ ?_|fail)
 refine TR.zal l.length (fun k=>(l.take k).all (fun x=>!p x)=true) (fun k=>[(0,.t (zag l)),(1,.fn fid caps),(7,.i l.length),(8,.i k)]) (fun _=>[]) rfl (fun k hlt ha=>?_) (fun ha=>?_) ⟨rfl,rfl,by rw[<-hml];rfl,rfl,trivial⟩
 ·have hx:=zaX nodT hlt
  have htk:=zaG hlt
  have hat:=zeT p l k hlt ha
  have hd:=hp l[k]
  generalize l[k]=d at hx htk hat hd
  have hu:unders 0 (.t (nodT d)::caps)=true:=by simp[unders,SV.under,hcaps]
  repeat' (first|refine wk ?_|exact wkc|intro hc|refine wk2 ?_ ?_|(apply TO.zev hd;(iterate 3 exact rfl);exact Les.refl _;exact hu;exact rfl)|fail)
  ·rw[hat hc];exact wkr
  ·refine zab.zak hlt ?_
   rw[htk,List.all_append,ha]
   simp[hc]
 ·rw[List.take_length]at ha
  rw[zcJ p l ha]
  repeat' (first|refine wk ?_|exact wkc|intro hc|refine wk2 ?_ ?_|fail)
  exact wkr
theorem ziZ(d:Decl)(nm:Str):Pure Tryz.prog 122 [.t (zah d),.cp [.s nm] 0] (.b (d.name == nm)):=by
 have hd:zah d= .ag [.s d.name,T.n d.ty,.sl 3 (d.clock.map onT)]:=rfl
 rw[hd]
 refine so Tryz.func122 ?_
 repeat' (first|refine wu ?_|exact wkc|intro hc|refine wk2 ?_ ?_|fail)
 all_goals try(refine RetK.pure rfl ?_ rfl;exact Le.of_eq (by simp_all [pack,zah] <;> omega))
theorem zi7(d:Nod)(nm:Str):Pure Tryz.prog 172 [.t (nodT d),.cp [.s nm] 0] (.b (d.name == nm)):=by
 have hd:nodT d= .ag [.s d.name,zac d.ins,zac d.outs,zac d.locals,.sl 7 (d.eqs.map equT),.sl 1 (d.autos.map zaj),.sl 6 (d.assume.map exT),.sl 6 (d.ensure.map exT)]:=rfl
 rw[hd]
 refine so Tryz.func172 ?_
 repeat' (first|refine wu ?_|exact wkc|intro hc|refine wk2 ?_ ?_|fail)
 all_goals try(refine RetK.pure rfl ?_ rfl;exact Le.of_eq (by simp_all [pack,nodT] <;> omega))
def zbu:List Decl->Str->Int×Bool
 | [],_=>(0,false)
 | d::l,nm=>if d.name=nm then(d.ty.1,true) else zbu l nm
theorem zmp(nm:Str):∀(l:List Decl),(idxI (fun d=>d.name == nm) l= -1/\zbu l nm=(0,false))\/∃k:Nat,∃h:k<l.length,idxI (fun d=>d.name == nm) l=k/\zbu l nm=(l[k].ty.1,true)
 | []=>.inl ⟨rfl,rfl⟩
 | d::l=>by
   unfold idxI zbu
   by_cases hd:d.name=nm
   ·rw[if_pos hd,if_pos (by simpa using hd)]
    exact .inr ⟨0,by simp,rfl,rfl⟩
   ·rw[if_neg hd,if_neg (by simpa using hd)]
    rcases zmp nm l with ⟨h1,h2⟩|⟨k,hk,h1,h2⟩
    ·rw[h1,h2];exact .inl ⟨rfl,rfl⟩
    ·rw[h1,h2,if_neg (by omega)]
     exact .inr ⟨k+1,by simpa using hk,by omega,rfl⟩
structure Plc where
 p:Prog
 node:I64
 env:List Decl
def plcC(w:Plc):List T:=[.sl 2 (w.p.enums.map enT),zag w.p.nodes,T.n w.node,zac w.env]
abbrev plcT (w:Plc):T:=.ag (plcC w)
theorem zeN(w:Plc)(nm:Str)(hl:w.env.length≤1000000000):Pure Tryz.prog 82 [.t (plcT w),.s nm] (.tup [.i (zbu w.env nm).1,.b (zbu w.env nm).2]):=by
 have hs:=zgl 122 [.cp [.s nm] 0] rfl (fun d=>d.name == nm) w.env hl (fun d=>ziZ d nm)
 unfold plcT plcC
 rcases zmp nm w.env with ⟨h1,h2⟩|⟨k,hk,h1,h2⟩
 ·rw[h1]at hs
  rw[h2]
  refine so Tryz.func82 ?_
  repeat' (first|refine wu ?_|exact wkc|intro hc|refine wk2 ?_ ?_|refine wv hs ?_|fail)
  exact wkr
 ·rw[h1]at hs
  rw[h2]
  have hx:=zaX zah hk
  generalize w.env[k]=d at hx
  have hd:zah d= .ag [.s d.name,T.n d.ty,.sl 3 (d.clock.map onT)]:=rfl
  rw[hd]at hx
  refine so Tryz.func82 ?_
  repeat' (first|refine wu ?_|exact wkc|intro hc|refine wk2 ?_ ?_|refine wv hs ?_|fail)
  exact wkr
def zdq(env:List Decl)(nm:Str)(t:Int):Int:=if(zbu env nm).2=false then 6 else if(zbu env nm).1≠t then 10 else 0
theorem zlC(w:Plc)(nm:Str)(t:Int)(hl:w.env.length≤1000000000):Pure Tryz.prog 85 [.t (plcT w),.s nm,.i t] (.i (zdq w.env nm t)):=by
 have hs:=zeN w nm hl
 unfold zdq
 generalize zbu w.env nm=u at*
 obtain⟨u1,u2⟩:=u
 unfold plcT plcC at*
 cases u2
 all_goals
  refine so Tryz.func85 ?_
  repeat' (first|refine wu ?_|exact wkc|intro hc|refine wk2 ?_ ?_|refine wv hs ?_|fail)
  all_goals
   refine RetK.pure rfl (Le.of_eq ?_) rfl
   simp_all [pack]
def zex(l:List Int):Bool:=l.all fun t=>decide (t=l.headD 0)
theorem zh4(l:List Int)(hl:l.length≤1000000000):Pure Tryz.prog 84 [.t (za5 l)] (.b (zex l)):=by
 have hml:(l.map T.i).length=l.length:=List.length_map _
 unfold zex
 refine so Tryz.func84 ?_
 repeat' (first|refine wk ?_|exact wkc|intro hc|refine wk2 ?_ ?_|fail)
 refine TR.zal l.length (fun k=>(l.take k).all (fun t=>decide (t=l.headD 0))=true) (fun k=>[(0,.t (za5 l)),(5,.t (za5 l)),(6,.i l.length),(7,.i k)]) (fun _=>[]) rfl (fun k hlt ha=>?_) (fun ha=>?_) ⟨rfl,rfl,by rw[<-hml];rfl,rfl,trivial⟩
 ·have hx:=zdM hlt
  have htk:=zaG hlt
  have hm:=List.getElem_mem hlt
  have hx0:(l.map T.i)[(0:Int).toNat]?=some (T.i (l.headD 0)):=by cases l with|nil=>simp at hlt|cons a l=>rfl
  generalize l[k]=t at hx htk hm
  generalize hh:l.headD 0=t0 at*
  repeat' (first|refine wk ?_|exact wkc|intro hc|refine wk2 ?_ ?_|fail)
  ·have:l.all (fun t=>decide (t=t0))=false:=List.all_eq_false.2 ⟨t,hm,by simpa using hc⟩
   rw[this];exact wkr
  ·refine zab.zak hlt ?_
   rw[htk,List.all_append,ha]
   simpa using hc
 ·rw[List.take_length]at ha
  rw[ha]
  repeat' (first|refine wk ?_|exact wkc|intro hc|refine wk2 ?_ ?_|fail)
  exact wkr
def zgr(p:Prog)(nm:Str):Int×Bool:=(max (idxI (fun n=>n.name == nm) p.nodes) 0,decide (0≤idxI (fun n=>n.name == nm) p.nodes))
def zav(p:Prog):List T:=[.sl 2 (p.enums.map enT),zag p.nodes]
theorem zpA(p:Prog)(nm:Str)(hl:p.nodes.length≤1000000000):Pure Tryz.prog 124 [.t (.ag (zav p)),.s nm] (.tup [.i (zgr p nm).1,.b (zgr p nm).2]):=by
 have hs:=zf7 172 [.cp [.s nm] 0] rfl (fun n=>n.name == nm) p.nodes hl (fun d=>zi7 d nm)
 unfold zgr zav
 refine so Tryz.func124 ?_
 repeat' (first|refine wu ?_|exact wkc|intro hc|refine wk2 ?_ ?_|refine wv hs ?_|fail)
 all_goals
  refine RetK.pure rfl (Le.of_eq ?_) rfl
  simp_all [pack]
theorem znN(p:Prog)(nm:Str)(hl:p.nodes.length≤1000000000):Pure Tryz.prog 138 [.t (.ag (zav p)),.s nm] (.tup [.i (zgr p nm).1,.b (zgr p nm).2]):=by
 unfold zgr zav
 have hml:(p.nodes.map nodT).length=p.nodes.length:=List.length_map _
 refine so Tryz.func138 ?_
 repeat' (first|refine wu ?_|exact wkc|intro hc|refine wk2 ?_ ?_|fail)
 refine TR.zal p.nodes.length (fun k=>(p.nodes.take k).all (fun x=>!(x.name == nm))=true) (fun k=>[(1,.s nm),(2,.cp [.sl 2 (p.enums.map enT),zag p.nodes] 0),(6,.i k)]) (fun _=>[]) rfl (fun k hlt ha=>?_) (fun ha=>?_)
 ·have hx:=zaX nodT hlt
  have htk:=zaG hlt
  have hat:=zeT (fun n:Nod=>n.name == nm) p.nodes k hlt ha
  generalize p.nodes[k]=d at hx htk hat
  have hd:nodT d= .ag [.s d.name,zac d.ins,zac d.outs,zac d.locals,.sl 7 (d.eqs.map equT),.sl 1 (d.autos.map zaj),.sl 6 (d.assume.map exT),.sl 6 (d.ensure.map exT)]:=rfl
  rw[hd]at hx
  repeat' (first|refine wu ?_|exact wkc|intro hc|refine wk2 ?_ ?_|fail)
  ·rw[hat (by simpa using hc)]
   rw[show max (k:Int) 0=k from by omega,show decide (0≤(k:Int))=true from by simp]
   exact wkr
  ·refine zab.zak hlt ?_
   rw[htk,List.all_append,ha]
   simpa using hc
 ·rw[List.take_length]at ha
  rw[zcJ _ _ ha]
  repeat' (first|refine wu ?_|exact wkc|intro hc|refine wk2 ?_ ?_|fail)
  exact wkr
theorem zfv(env:List Decl)(nm:Str)(hl:env.length≤1000000000):Pure Tryz.prog 90 [.t (zac env),.s nm] (.tup [.i (zbu env nm).1,.b (zbu env nm).2]):=by
 have hml:(env.map zah).length=env.length:=List.length_map _
 refine so Tryz.func90 ?_
 repeat' (first|refine wk ?_|exact wkc|intro hc|refine wk2 ?_ ?_|fail)
 refine TR.zal env.length (fun k=>zbu env nm=zbu (env.drop k) nm) (fun k=>[(0,.t (zac env)),(1,.s nm),(6,.i k)]) (fun _=>[]) rfl (fun k hlt ha=>?_) (fun ha=>?_)
 ·have hx:=zaX zah hlt
  rw[List.drop_eq_getElem_cons hlt,zbu]at ha
  generalize env[k]=d at hx ha
  have hd:zah d= .ag [.s d.name,T.n d.ty,.sl 3 (d.clock.map onT)]:=rfl
  rw[hd]at hx
  rw[ha]
  repeat' (first|refine wk ?_|exact wkc|intro hc|refine wk2 ?_ ?_|fail)
  ·rw[if_pos hc];exact wkr
  ·refine zab.zak hlt ?_
   rw[if_neg hc]
 ·rw[ha,List.drop_of_length_le (Nat.le_refl _)]
  repeat' (first|refine wk ?_|exact wkc|intro hc|refine wk2 ?_ ?_|fail)
  exact wkr
theorem zit(env:List Decl)(nm:Str)(t:Int)(hl:env.length≤1000000000):Pure Tryz.prog 93 [.t (zac env),.s nm,.i t] (.i (zdq env nm t)):=by
 have hs:=zfv env nm hl
 unfold zdq
 generalize zbu env nm=u at*
 obtain⟨u1,u2⟩:=u
 cases u2
 all_goals
  refine so Tryz.func93 ?_
  repeat' (first|refine wu ?_|exact wkc|intro hc|refine wk2 ?_ ?_|refine wv hs ?_|fail)
  all_goals
   refine RetK.pure rfl (Le.of_eq ?_) rfl
   simp_all [pack]
theorem zhp(a:Int)(l:List Int)(hl:l.length≤1000000000):Pure Tryz.prog 92 [.t (za5 (a::l)),.i 0] (.b (zex (a::l))):=by
 have hml:((a::l).map T.i).length=l.length+1:=by simp
 have he:zex (a::l)=l.all fun t=>decide (t=a):=by simp[zex]
 rw[he]
 refine so Tryz.func92 ?_
 repeat' (first|refine wk ?_|exact wkc|intro hc|refine wk2 ?_ ?_|fail)
 refine TR.zal l.length (fun k=>(l.take k).all (fun t=>decide (t=a))=true) (fun k=>[(0,.t (za5 (a::l))),(1,.i 0),(5,.i ((k+1:Nat):Int))]) (fun _=>[]) rfl (fun k hlt ha=>?_) (fun ha=>?_)
 ·have hx:((a::l).map T.i)[k+1]?=some (T.i l[k]):=by simp[hlt]
  have hx0:((a::l).map T.i)[(0:Int).toNat]?=some (T.i a):=rfl
  have htk:=zaG hlt
  have hm:=List.getElem_mem hlt
  generalize l[k]=t at hx htk hm
  repeat' (first|refine wk ?_|exact wkc|intro hc|refine wk2 ?_ ?_|fail)
  ·have:l.all (fun t=>decide (t=a))=false:=List.all_eq_false.2 ⟨t,hm,by simpa using hc⟩
   rw[this];exact wkr
  ·refine zab.zak hlt ?_
   rw[htk,List.all_append,ha]
   simpa using hc
 ·rw[List.take_length]at ha
  rw[ha]
  repeat' (first|refine wk ?_|exact wkc|intro hc|refine wk2 ?_ ?_|fail)
  exact wkr
structure zlW (n:Nod):Prop where
 ins:n.ins.length≤100000000
 outs:n.outs.length≤100000000
 locals:n.locals.length≤100000000
structure zbp (w:Plc):Prop where
 nodes:w.p.nodes.length≤100000000
 each:∀n∈w.p.nodes,zlW n
 env:w.env.length≤1000000000
def zjk:List Decl->List Int->Bool
 | d::ds,t::ts=>decide (t=d.ty.1) && zjk ds ts
 | _,_=>true
def zfc(w:Plc)(e:Ex)(l:List Int)(inner:Bool):List Int×Int:=
 if(zgr w.p e.name).2=false\/w.node.1≤(zgr w.p e.name).1 then([],6) else
 match w.p.nodes[(zgr w.p e.name).1.toNat]? with
 | none=>([],6)
 | some n=>
   if(l.length:Int)≠n.ins.length+e.v.1\/(inner=true/\n.outs.length≠1) then([],9)
   else if zjk n.ins l=false then([],10)
   else if e.v.1=1/\l.getD n.ins.length 0≠1 then([],10)
   else(n.outs.map (·.ty.1),0)
abbrev nC(d:Nod):List T:=[.s d.name,zac d.ins,zac d.outs,zac d.locals,.sl 7 (d.eqs.map equT),.sl 1 (d.autos.map zaj),.sl 6 (d.assume.map exT),.sl 6 (d.ensure.map exT)]
def nodC(d:Nod):List T:=[.s d.name,zac d.ins,zac d.outs,zac d.locals,.sl 7 (d.eqs.map equT),.sl 1 (d.autos.map zaj),.sl 6 (d.assume.map exT),.sl 6 (d.ensure.map exT)]
def zb4(d:Decl):List T:=[.s d.name,T.n d.ty,.sl 3 (d.clock.map onT)]
theorem zb7{l:List Nod}{k:Nat}(h:k<l.length):(l.map nodT)[k]?=some (.ag (nodC l[k])):=zaX nodT h
theorem zbh{l:List Decl}{k:Nat}(h:k<l.length):(l.map zah)[k]?=some (.ag (zb4 l[k])):=zaX zah h
theorem zjJ{p:Prog}{nm:Str}(h:(zgr p nm).2=true):∃k:Nat,∃hk:k<p.nodes.length,zgr p nm=((k:Int),true):=by
 unfold zgr at h⊢
 rcases zfa (fun n:Nod=>n.name == nm) p.nodes with h1|⟨k,hk,h1,_⟩
 ·rw[h1]at h;simp at h
 ·rw[h1]
  exact⟨k,hk,by simp⟩
theorem zoW(w:Plc)(hw:zbp w)(e:Ex)(l:List Int)(inner:Bool)(hv:e.v.1=0\/e.v.1=1):Pure Tryz.prog 86 [.t (plcT w),.t (.ag (exC e)),.t (za5 l),.b inner] (.tup [.t (za5 (zfc w e l inner).1),.i (zfc w e l inner).2]):=by
 have hs:=zpA w.p e.name (by have:=hw.nodes;omega)
 unfold zfc
 unfold zav at hs
 cases hf:(zgr w.p e.name).2 with
 | false=>
   rw[hf]at hs
   rw[if_pos (.inl rfl)]
   unfold plcT plcC exC
   refine so Tryz.func86 ?_
   repeat' (first|refine wu ?_|exact wkc|intro hc|refine wk2 ?_ ?_|refine wv hs ?_|fail)
   exact wkr
 | true=>
   obtain⟨k,hk,hf'⟩:=zjJ hf
   rw[hf']at hs⊢
   simp only[Bool.true_eq_false,false_or,Int.toNat_natCast,List.getElem?_eq_getElem hk]at hs⊢
   have hn:=hw.each w.p.nodes[k] (List.getElem_mem hk)
   have hx:=zb7 hk
   generalize w.p.nodes[k]=n at hn hx⊢
   have hmi:(n.ins.map zah).length=n.ins.length:=List.length_map _
   have hmo:(n.outs.map zah).length=n.outs.length:=List.length_map _
   have hml:(l.map T.i).length=l.length:=List.length_map _
   have hi:=hn.ins
   have ho:=hn.outs
   unfold plcT plcC exC
   unfold nodC at hx
   by_cases hnode:w.node.1≤(k:Int)
   ·rw[if_pos hnode]
    refine so Tryz.func86 ?_
    repeat' (first|refine wu ?_|exact wkc|intro hc|refine wk2 ?_ ?_|refine wv hs ?_|fail)
    exact wkr
   ·rw[if_neg hnode]
    by_cases h9:(l.length:Int)≠n.ins.length+e.v.1\/(inner=true/\n.outs.length≠1)
    ·rw[if_pos h9]
     cases inner
     all_goals
      refine so Tryz.func86 ?_
      repeat' (first|refine wu ?_|exact wkc|intro hc|refine wk2 ?_ ?_|refine wv hs ?_|fail)
      all_goals first
       | exact wkr
       | (exfalso;simp at h9;omega)
    ·rw[if_neg h9]
     have h91:(l.length:Int)=n.ins.length+e.v.1:=by
      refine Classical.byContradiction fun h=>h9 (.inl h)
     have h92:inner=true->n.outs.length=1:=fun h=>Classical.byContradiction fun h'=>h9 (.inr ⟨h,h'⟩)
     clear h9
     have hlb:l.length≤100000001:=by omega
     cases inner
     all_goals
      try replace h92:=h92 rfl
      refine so Tryz.func86 ?_
      repeat' (first|refine wu ?_|exact wkc|intro hc|refine wk2 ?_ ?_|refine wv hs ?_|fail)
      refine TR.zal n.ins.length (fun j=>zjk n.ins l=zjk (n.ins.drop j) (l.drop j)) (fun j=>[(2,.t (za5 l)),(5,.cp [T.n e.kind,T.n e.op,T.n e.t,T.n e.v,.s e.name,.sl 6 (e.args.map exT)] 0),(12,.cp (nodC n) 0),(59,.t (zac n.ins)),(60,.i n.ins.length),(61,.i j)]) (fun _=>[]) rfl (fun j hlt ha=>?_) (fun ha=>?_) ⟨rfl,rfl,rfl,rfl,by rw[<-hmi];rfl,rfl,trivial⟩
      ·have hj:j<l.length:=by omega
       have hx1:=zbh hlt
       have hx2:=zdM hj
       rw[List.drop_eq_getElem_cons hlt,List.drop_eq_getElem_cons hj,zjk]at ha
       generalize n.ins[j]=d at hx1 ha
       generalize l[j]=t at hx2 ha
       unfold zb4 at hx1
       rw[ha]
       repeat' (first|refine wu ?_|exact wkc|intro hc|refine wk2 ?_ ?_|fail)
       ·rw[if_pos (by simp[hc])]
        exact wkr
       ·refine zab.zhs 0 hlt ?_ rfl rfl rfl rfl rfl
        simp[show t=d.ty.1 from by simpa using hc]
      ·rw[List.drop_of_length_le (Nat.le_refl _)]at ha
       rw[show zjk n.ins l=true from by rw[ha];rfl]
       simp only[Bool.true_eq_false,if_false]
       unfold nodC
       have hgo:e.v.1=1->(l.map T.i)[((n.ins.map zah).length:Int).toNat]?=some (T.i (l.getD n.ins.length 0)):=by
        intro h1
        have:n.ins.length<l.length:=by omega
        rw[hmi]
        simp[this]
       by_cases hb:e.v.1=1/\l.getD n.ins.length 0≠1
       ·rw[if_pos hb]
        have hxx:=hgo hb.1
        repeat' (first|refine wu ?_|exact wkc|intro hc|refine wk2 ?_ ?_|fail)
        all_goals first
         | exact wkr
         | (exfalso;exact hb.2 (by simpa using hc))
         | (exfalso;exact hc hb.1)
       ·rw[if_neg hb]
        have hl1:e.v.1=1->l.getD n.ins.length 0=1:=fun h1=>Classical.byContradiction fun h=>hb ⟨h1,h⟩
        by_cases hv1:e.v.1=1
        all_goals
         try(have hxx:=hgo hv1;rw[hl1 hv1]at hxx)
         clear hgo hb hl1
         repeat' (first|refine wu ?_|exact wkc|intro hc|refine wk2 ?_ ?_|fail)
         refine TR.tail 1 15 rfl ?_
         refine TR.zal n.outs.length (fun _=>True) (fun j=>[(15,.sl 1 (((n.outs.take j).map (·.ty.1)).map T.i) 0),(87,.t (zac n.outs)),(88,.i n.outs.length),(89,.i j)]) (fun j=>[.tail (((n.outs.take j).map (·.ty.1)).map T.i).length]) trivial (fun j hlt _=>?_) (fun _=>?_) ⟨rfl,rfl,by rw[<-hmo];rfl,rfl,trivial⟩
         ·have hx1:=zbh hlt
          have htk:((n.outs.take (j+1)).map (·.ty.1)).map T.i=((n.outs.take j).map (·.ty.1)).map T.i++[T.i n.outs[j].ty.1]:=by rw[zaG hlt];simp only[List.map_append,List.map_cons,List.map_nil]
          have hmk:(((n.outs.take j).map (·.ty.1)).map T.i).length≤100000000:=by simp;omega
          generalize n.outs[j]=d at hx1 htk
          unfold zb4 at hx1
          repeat' (first|refine wu ?_|exact wkc|intro hc|refine wk2 ?_ ?_|fail)
          exact zab.zak hlt trivial (by rw[htk];exact⟨rfl,rfl,rfl,rfl,trivial⟩) (by rw[htk,List.length_append];rfl)
         ·rw[List.take_length]
          repeat' (first|refine wu ?_|exact wkc|intro hc|refine wk2 ?_ ?_|fail)
          exact wkr
end Go.Proofs.YtcbhlhmebbkgnaaGreat
