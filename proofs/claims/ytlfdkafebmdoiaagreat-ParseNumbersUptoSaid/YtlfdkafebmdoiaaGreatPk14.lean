import Derived.Test.YtlfdkafebmdoiaaGreatPk10
import Derived.Test.YtlfdkafebmdoiaaGreatPk11
import Derived.Test.YtlfdkafebmdoiaaGreatPk12
import Derived.Test.YtlfdkafebmdoiaaGreatPk13
set_option linter.unusedSimpArgs false
set_option linter.unusedVariables false
namespace Go.Proofs.YtlfdkafebmdoiaaGreat
open Go Go.TL
attribute [local irreducible] TR TO Then InBlock RetK Sound LoopK Kf GG ThenL
def letter(c:Int):Bool:=(decide (97≤c) && decide (c≤122)) || (decide (65≤c) && decide (c≤90))
def digit(c:Int):Bool:=decide (48≤c) && decide (c≤57)
def inner(c:Int):Bool:=letter c || digit c || c == 95
abbrev u8 (c:Int):SV:=.t (.v (.int .u8 c))
theorem letter_sound(c:Int):Pure Tryz.prog 60 [u8 c] (.b (letter c)):=by
 refine so Tryz.func60 ?_
 repeat' (first|refine wk ?_|exact wkc|intro hc|refine wk2 ?_ ?_|fail)
 all_goals try(refine RetK.pure rfl ?_ rfl;exact Le.of_eq (by simp_all [pack,letter] <;> omega))
theorem digit_sound(c:Int):Pure Tryz.prog 62 [u8 c] (.b (digit c)):=by
 refine so Tryz.func62 ?_
 repeat' (first|refine wk ?_|exact wkc|intro hc|refine wk2 ?_ ?_|fail)
 all_goals try(refine RetK.pure rfl ?_ rfl;exact Le.of_eq (by simp_all [pack,digit] <;> omega))
theorem inner_sound(c:Int):Pure Tryz.prog 86 [u8 c] (.b (inner c)):=by
 refine so Tryz.func86 ?_
 repeat' (first|refine wk ?_|exact wkc|intro hc|refine wk2 ?_ ?_|refine wb (letter_sound _) ?_ ?_|refine wb (digit_sound _) ?_ ?_|fail)
 all_goals try(refine RetK.pure rfl ?_ rfl;exact Le.of_eq (by simp_all [pack,inner] <;> omega))
def kws:List Str:=[
 [97,115,115,117,109,101],[97,110,100],[97,117,116,111,109,97,116,111,110],[98,111,111,108],[99,111,110,116,105,110,117,101],[100,111],[100,111,110,101],[101,108,115,101],[101,110,100],[101,110,115,117,114,101],[101,118,101,114,121],[102,97,108,115,101],[102,98,121],[105,102],[105,110,116],[108,101,116],[109,101,114,103,101],[109,111,100],[110,111,100,101],[110,111,116],[111,114],[112,114,101],[114,101,116,117,114,110,115],[115,116,97,116,101],[116,101,108],[116,104,101,110],[116,114,117,101],[116,121,112,101],[117,110,108,101,115,115],[117,110,116,105,108],[118,97,114],[119,104,101,110],[120,111,114]]
def keyword(s:Str):Bool:=kws.any fun w=>s == w
set_option maxHeartbeats 4000000 in
theorem keyword_sound (s:Str):Pure Tryz.prog 87 [.s s] (.b (keyword s)):=by
 refine so Tryz.func87 ?_
 repeat' (first|refine wk ?_|exact wkc|intro hc|refine wk2 ?_ ?_|fail)
 all_goals refine RetK.pure rfl ?_ rfl
 all_goals exact Le.of_eq (by simp[keyword,kws,pack, *])
def innerB(c:UInt8):Bool:=inner c.toNat
def letterB(c:UInt8):Bool:=letter c.toNat
def ident(s:Str):Bool:=
 match s with
 | []=>false
 | c::r=>decide (r.length+1≤40) && letterB c && !keyword (c::r) && (c::r).all innerB
theorem ident_sound(s:Str):Pure Tryz.prog 74 [.s s] (.b (ident s)):=by
 refine so Tryz.func74 ?_
 cases s with
 | nil=>
   repeat' (first|refine wk ?_|exact wkc|intro hc|refine wk2 ?_ ?_|refine wb (letter_sound _) ?_ ?_|refine wb (keyword_sound _) ?_ ?_|fail)
   all_goals try(refine RetK.pure rfl ?_ rfl;exact Le.of_eq (by simp_all [pack,ident] <;> omega))
 | cons c r=>
   repeat' (first|refine wk ?_|exact wkc|intro hc|refine wk2 ?_ ?_|refine wb (letter_sound _) ?_ ?_|refine wb (keyword_sound _) ?_ ?_|fail)
   all_goals try(refine RetK.pure rfl ?_ rfl;exact Le.of_eq (by simp_all [pack,ident,letterB] <;> omega))
   refine TR.loopN (c::r).length (fun k=>((c::r).take k).all innerB=true) (fun k=>[(0,.s (c::r)),(22,.i (c::r).length),(23,.i k)]) (fun _=>[]) rfl (fun k hlt ha=>?_) (fun ha=>?_)
   ·have hx:=List.getElem?_eq_getElem hlt
    repeat' (first|refine wk ?_|exact wkc|intro hc|refine wk2 ?_ ?_|refine wb (inner_sound _) ?_ ?_|fail)
    ·refine LoopK.nextN hlt ?_
     rw[List.take_succ_eq_append_getElem hlt,List.all_append,ha]
     simpa [innerB]using hc
    ·refine RetK.pure rfl (Le.of_eq ?_) rfl
     have:(c::r).all innerB=false:=by
      rw[List.all_eq_false]
      exact⟨_,List.getElem_mem hlt,by simpa [innerB]using hc⟩
     simp only[pack,ident,this]
     simp
   ·repeat' (first|refine wk ?_|exact wkc|intro hc|refine wk2 ?_ ?_|fail)
    rw[List.take_length]at ha
    refine RetK.pure rfl (Le.of_eq ?_) rfl
    simp_all [pack,ident,letterB]
    omega
def inW(v:Int):Bool:=decide (-32768≤v) && decide (v≤32767)
theorem in_sound(v:Int):Pure Tryz.prog 94 [.i v] (.b (inW v)):=by
 refine so Tryz.func94 ?_
 repeat' (first|refine wk ?_|exact wkc|intro hc|refine wk2 ?_ ?_|fail)
 all_goals try(refine RetK.pure rfl ?_ rfl;exact Le.of_eq (by simp_all [pack,inW] <;> omega))
abbrev ensT (es:List En):T:=.sl 2 (es.map enT)
def enumOf(es:List En)(t:Int):En×Bool:=
 if 3≤t/\t-3<es.length then(match es[(t-3).toNat]? with|some e=>(e,true)|none=>(⟨[],[]⟩,false)) else(⟨[],[]⟩,false)
def sizeOfT(es:List En)(t:Int):Int:=
 if t=1 then 2 else if t=2 then 65536 else((enumOf es t).1.tags.length:Int)
def hasT(es:List En)(t v:Int):Bool:=if t=2 then inW v else decide (0≤v) && decide (v<sizeOfT es t)
theorem enum_sound(es:List En)(t:I64):Pure Tryz.prog 93 [.t (ensT es),.n t] (.tup [.t (enT (enumOf es t.1).1),.b (enumOf es t.1).2]):=by
 obtain⟨t,ht1,ht2⟩:=t
 dsimp only[SV.n]
 refine so Tryz.func93 ?_
 have hl:(es.map enT).length=es.length:=List.length_map _
 by_cases h:3≤t/\t-3<es.length
 ·obtain⟨h1,h2⟩:=h
  have hlt:(t-3).toNat<es.length:=by omega
  have hx:=at_map enT hlt
  repeat' (first|refine wk ?_|exact wkc|intro hc|refine wk2 ?_ ?_|fail)
  simp only[enumOf,h1,h2,hlt,enT,and_self,if_true,List.getElem?_eq_getElem]
  exact wkr
 ·repeat' (first|refine wk ?_|exact wkc|intro hc|refine wk2 ?_ ?_|fail)
  all_goals
   simp only[enumOf,h,enT,if_false]
   exact wkr
theorem size_sound(es:List En)(t:I64):Pure Tryz.prog 75 [.t (ensT es),.n t] (.i (sizeOfT es t.1)):=by
 refine so Tryz.func75 ?_
 repeat' (first|refine wk ?_|exact wkc|intro hc|refine wk2 ?_ ?_|refine wv (enum_sound es t) ?_|fail)
 ·refine RetK.pure rfl (Le.of_eq ?_) rfl
  simp[pack,sizeOfT,hc]
 ·refine RetK.pure rfl (Le.of_eq ?_) rfl
  simp[pack,sizeOfT,hc]
 ·refine RetK.pure rfl (Le.of_eq ?_) rfl
  simp[pack,sizeOfT, *]
theorem has_sound(es:List En)(t v:I64):Pure Tryz.prog 76 [.t (ensT es),.n t,.n v] (.b (hasT es t.1 v.1)):=by
 refine so Tryz.func76 ?_
 repeat' (first|refine wk ?_|exact wkc|intro hc|refine wk2 ?_ ?_|refine wv (in_sound v.1) ?_|refine wv (size_sound es t) ?_|fail)
 all_goals
  refine RetK.pure rfl (Le.of_eq ?_) rfl
  simp_all [pack,hasT] <;> omega
def tagI(t v:Int):Bool:=(decide (t=1) && (decide (v=0) || decide (v=1))) || (decide (3≤t) && decide (0≤v) && decide (v<16))
def branI(t n:Int):Bool:=(decide (t=1) && decide (n=2)) || (decide (3≤t) && decide (1≤n) && decide (n≤16))
def opdI(o:Int):Int:=if o=1\/o=2 then 1 else 2
theorem tag_sound(t v:Int):Pure Tryz.prog 112 [.i t,.i v] (.b (tagI t v)):=by
 refine so Tryz.func112 ?_
 repeat' (first|refine wk ?_|exact wkc|intro hc|refine wk2 ?_ ?_|fail)
 all_goals try(refine RetK.pure rfl ?_ rfl;exact Le.of_eq (by simp_all [pack,tagI] <;> omega))
theorem branches_sound(t n:Int):Pure Tryz.prog 114 [.i t,.i n] (.b (branI t n)):=by
 refine so Tryz.func114 ?_
 repeat' (first|refine wk ?_|exact wkc|intro hc|refine wk2 ?_ ?_|fail)
 all_goals try(refine RetK.pure rfl ?_ rfl;exact Le.of_eq (by simp_all [pack,branI] <;> omega))
theorem opds_sound(o:Int):Pure Tryz.prog 113 [.i o] (.i (opdI o)):=by
 refine so Tryz.func113 ?_
 repeat' (first|refine wk ?_|exact wkc|intro hc|refine wk2 ?_ ?_|fail)
 all_goals try(refine RetK.pure rfl ?_ rfl;exact Le.of_eq (by simp_all [pack,opdI] <;> omega))
structure Form where
 args:Bool
 op:Bool
 typed:Bool
 name:Bool
 word:Bool
abbrev formT (f:Form):T:=.ag [.b f.args,.b f.op,.b f.typed,.b f.name,.b f.word]
def ofF(k o t v n:Int):Form:=
 if k=1 then⟨decide (n=0),false,(decide (t=2) && decide (-32768≤v) && decide (v≤32767)) || (!decide (t=2) && tagI t v),false,false⟩
 else if k=2 then⟨decide (n=0),false,decide (t=0) && decide (v=0),true,false⟩
 else if k=3 then⟨decide (n=opdI o),true,decide (t=0) && decide (v=0),false,false⟩
 else if k=4 then⟨decide (n=3),false,decide (t=0) && decide (v=0),false,false⟩
 else if k=5 then⟨decide (n=1),false,decide (t=0) && decide (v=0),false,false⟩
 else if k=6\/k=7 then⟨decide (n=2),false,decide (t=0) && decide (v=0),false,false⟩
 else if k=8 then⟨decide (n=1),false,!decide (t=2) && tagI t v,true,false⟩
 else if k=9 then⟨!decide (t=2) && branI t n,false,decide (v=0),true,false⟩
 else if k=10 then⟨decide (v≤n),false,decide (t=0) && (decide (v=0) || decide (v=1)),true,false⟩
 else if k=11 then⟨decide (n=0),false,decide (t=0) && decide (v=0),false,true⟩
 else⟨false,false,false,false,false⟩
set_option maxHeartbeats 2000000 in
theorem of_sound (k o t v:Int) (nm:Str) (l:List T):Pure Tryz.prog 100 [.t (.ag [.i k,.i o,.i t,.i v,.s nm,.sl 6 l])] (.t (formT (ofF k o t v l.length))):=by
 have ht:=tag_sound t v
 have hb:=branches_sound t l.length
 have ho:=opds_sound o
 have hk:k=1\/k=2\/k=3\/k=4\/k=5\/k=6\/k=7\/k=8\/k=9\/k=10\/k=11\/(k<1\/11<k):=by omega
 rcases hk with rfl|rfl|rfl|rfl|rfl|rfl|rfl|rfl|rfl|rfl|rfl|hk
 all_goals
  first|rw[show ofF k o t v l.length=⟨false,false,false,false,false⟩ from by unfold ofF;repeat' (first|rw[if_neg (by omega)]|fail)]|simp only[ofF,Int.reduceEq,if_false,if_true,or_self,or_true,true_or,or_false,false_or]
  refine so Tryz.func100 ?_
  repeat' (first|refine wu ?_|exact wkc|intro hc|refine wk2 ?_ ?_|refine wv ht ?_|refine wv hb ?_|refine wv ho ?_|fail)
  all_goals
   refine RetK.pure rfl (Le.tree rfl (TLe.of_eq ?_)) rfl
   clear ht hb ho
   simp only[formT,T.ag.injEq,List.cons.injEq,T.v.injEq,Value.bool.injEq,and_true,true_eq_decide_iff,false_eq_decide_iff,eq_comm (a:=true),eq_comm (a:=false),Bool.or_eq_true,Bool.and_eq_true,Bool.or_eq_false_iff,Bool.and_eq_false_iff,Bool.not_eq_true',Bool.not_eq_false',decide_eq_true_eq,decide_eq_false_iff_not,Bool.false_eq_true,true_and,reduceCtorEq] <;>
    first|omega|(simp_all;done)|(simp_all;omega)
def oneI(k o t v:Int)(nm:Str)(n:Int):Int:=
 if 64<n then 3
 else if(ofF k o t v n).args=false\/(ofF k o t v n).typed=false\/((ofF k o t v n).op≠decide (o≠0))\/((ofF k o t v n).op=true/\(o<1\/16<o)) then 5
 else if(ofF k o t v n).name=true then(if ident nm then 0 else 6)
 else if(ofF k o t v n).word=true/\(wordP nm).2=0 then 0
 else if nm≠ []\/(ofF k o t v n).word=true then 5 else 0
set_option maxHeartbeats 1000000 in
theorem one_sound (k o t v:Int) (nm:Str) (l:List T):Pure Tryz.prog 82 [.t (.ag [.i k,.i o,.i t,.i v,.s nm,.sl 6 l])] (.i (oneI k o t v nm l.length)):=by
 have hf:=of_sound k o t v nm l
 have hid:=ident_sound nm
 have hw:=parseW_sound nm
 unfold oneI
 generalize ofF k o t v l.length=f at*
 generalize ident nm=id at*
 generalize wordP nm=w at*
 obtain⟨fa,fo,ft,fn,fw⟩:=f
 simp only[formT]at hf
 obtain⟨w1,w2⟩:=w
 by_cases h64:64<(l.length:Int)
 ·rw[if_pos h64]
  refine so Tryz.func82 ?_
  repeat' (first|refine wu ?_|exact wkc|intro hc|refine wk2 ?_ ?_|fail)
  exact wkr
 ·rw[if_neg h64]
  cases fa with
  | false=>
    rw[if_pos (.inl rfl)]
    refine so Tryz.func82 ?_
    repeat' (first|refine wu ?_|exact wkc|intro hc|refine wk2 ?_ ?_|refine wv hf ?_|fail)
    exact wkr
  | true=>
    cases ft with
    | false=>
      rw[if_pos (.inr (.inl rfl))]
      refine so Tryz.func82 ?_
      repeat' (first|refine wu ?_|exact wkc|intro hc|refine wk2 ?_ ?_|refine wv hf ?_|fail)
      exact wkr
    | true=>
      simp only[Bool.true_eq_false,false_or]
      cases fo <;> cases fn <;> cases fw
      all_goals
       refine so Tryz.func82 ?_
       repeat' (first|refine wu ?_|exact wkc|intro hc|refine wk2 ?_ ?_|refine wv hf ?_|refine wb hid ?_ ?_|refine wv hw ?_|fail)
       all_goals
        refine RetK.pure rfl (Le.of_eq ?_) rfl
        refine congrArg (fun z=>SV.t (T.v (Value.int IntKind.i64 z))) ?_
        clear hf hid hw
        first|(simp_all;done)|(simp_all;omega)
def oneX(x:Ex):Int:=oneI x.kind.1 x.op.1 x.t.1 x.v.1 x.name x.args.length
def firstE{α:Type}(g:α->Int):List α->Int
 | []=>0
 | x::l=>if g x=0 then firstE g l else g x
theorem firstE_append{α:Type}(g:α->Int):∀(a b:List α),firstE g (a++b)=if firstE g a=0 then firstE g b else firstE g a
 | [],b=>by simp[firstE]
 | x::a,b=>by
   simp only[List.cons_append,firstE]
   by_cases h:g x=0
   ·simp only[h,if_true];exact firstE_append g a b
   ·simp[h]
def checkX(e:Ex):Int:=if 400<wEx e\/32<exDepth e then 3 else firstE oneX (flat e)
theorem oneX_sound(x:Ex):Pure Tryz.prog 82 [.t (.ag (exC x))] (.i (oneX x)):=by
 have:=one_sound x.kind.1 x.op.1 x.t.1 x.v.1 x.name (x.args.map exT)
 rw[List.length_map]at this
 exact this
def errF(g:Ex->Int)(_:List Ex)(x:Ex):Out:=if g x=0 then .go else .jump .ret [.cells [.i (g x)]]
theorem scan_err(g:Ex->Int):∀(l pre:List Ex),scanO (errF g) pre l=if firstE g l=0 then .go else .jump .ret [.cells [.i (firstE g l)]]
 | [],pre=>by simp[scanO,firstE]
 | x::l,pre=>by
   simp only[scanO,errF,firstE]
   by_cases h:g x=0
   ·simp only[h,if_true];exact scan_err g l _
   ·simp[h]
theorem checkX_sound(e:Ex)(h:wEx e≤1000000000):Pure Tryz.prog 53 [.t (exT e)] (.i (checkX e)):=by
 have hsz:=sizeE_sound e h
 have hdp:=depth_sound e h
 have hs:=Each_sound e
 rw[exT_eq]at*
 have hc0:exC e=[T.n e.kind,T.n e.op,T.n e.t,T.n e.v,.s e.name,.sl 6 (e.args.map exT)]:=rfl
 rw[hc0]at hs hsz hdp⊢
 unfold checkX
 refine so Tryz.func53 ?_
 by_cases h1:400<wEx e\/32<exDepth e
 ·rw[if_pos h1]
  repeat' (first|refine wkb ?_|refine wk ?_|exact wkc|intro hc|refine wk2 ?_ ?_|refine wv hsz ?_|refine wv hdp ?_|fail)
  all_goals exact wkr
 ·rw[if_neg h1]
  repeat' (first|refine wkb ?_|refine wk ?_|exact wkc|intro hc|refine wk2 ?_ ?_|refine wv hsz ?_|refine wv hdp ?_|refine wv hs ?_|fail)
  refine TR.rangeEach e (fun _=>[.cells [.i 0]]) (errF oneX) rfl h rfl rfl rfl (fun _=>⟨rfl,rfl⟩) (fun pre x=>?_) (fun fn pre x post hw=>?_) (fun fn=>?_)
  ·unfold errF
   split <;> rename_i hq <;> split at hq <;> cases hq
   ·trivial
   ·exact⟨rfl,rfl⟩
  ·have ho:=oneX_sound x
   have hcx:exC x=[T.n x.kind,T.n x.op,T.n x.t,T.n x.v,.s x.name,.sl 6 (x.args.map exT)]:=rfl
   rw[hcx]at ho⊢
   repeat' (first|refine wu ?_|exact wkc|intro hc|refine wk2 ?_ ?_|fail)
   refine⟨rfl,?_⟩
   repeat' (first|refine wu ?_|exact wkc|intro hc|refine wk2 ?_ ?_|refine wv ho ?_|fail)
   ·refine⟨_,?_,rfl,rfl⟩
    rw[errF,if_neg hc]
    rfl
   ·refine⟨?_,rfl,rfl⟩
    rw[errF,if_pos (by simpa using hc)]
  ·rw[scan_err]
   by_cases h2:firstE oneX (flat e)=0
   ·rw[if_pos h2,h2]
    repeat' (first|refine wu ?_|exact wkc|intro hc|refine wk2 ?_ ?_|fail)
    exact wkr
   ·rw[if_neg h2]
    simp only[]
    repeat' (first|refine wu ?_|exact wkc|intro hc|refine wk2 ?_ ?_|fail)
    exact wkr
def insI(es:List En)(k t v n:Int):Int:=
 if k=1\/k=8\/k=9 then(if sizeOfT es t=0 then 10 else if k≠9/\hasT es t v=false then 14 else if k=9/\n≠sizeOfT es t then 9 else 0) else 0
def insX(es:List En)(x:Ex):Int:=insI es x.kind.1 x.t.1 x.v.1 x.args.length
def exprX(es:List En)(e:Ex):Int:=if checkX e=0 then firstE (insX es) (flat e) else checkX e
theorem size_nonneg(es:List En)(t:Int):0≤sizeOfT es t:=by
 unfold sizeOfT;repeat' split
 all_goals omega
theorem insX_sound(es:List En)(x:Ex):Pure Tryz.prog 55 [.t (ensT es),.t (.ag (exC x))] (.i (insX es x)):=by
 have hs:=size_sound es x.t
 have hh:=has_sound es x.t x.v
 have hnn:=size_nonneg es x.t.1
 have hcx:exC x=[T.n x.kind,T.n x.op,T.n x.t,T.n x.v,.s x.name,.sl 6 (x.args.map exT)]:=rfl
 have hmx:(x.args.map exT).length=x.args.length:=List.length_map _
 rw[hcx]
 unfold insX insI
 generalize sizeOfT es x.t.1=sz at*
 generalize hasT es x.t.1 x.v.1=hb at*
 refine so Tryz.func55 ?_
 repeat' (first|refine wu ?_|exact wkc|intro hc|refine wk2 ?_ ?_|refine wv hs ?_|refine wb hh ?_ ?_|fail)
 all_goals
  clear hs hh hcx
  refine RetK.pure rfl (Le.of_eq ?_) rfl
  refine congrArg (fun z=>SV.t (T.v (Value.int IntKind.i64 z))) ?_
  grind
theorem exprX_sound(es:List En)(e:Ex)(h:wEx e≤1000000000):Pure Tryz.prog 28 [.t (ensT es),.t (exT e)] (.i (exprX es e)):=by
 have hck:=checkX_sound e h
 have hs:=Each_sound e
 rw[exT_eq]at*
 have hc0:exC e=[T.n e.kind,T.n e.op,T.n e.t,T.n e.v,.s e.name,.sl 6 (e.args.map exT)]:=rfl
 rw[hc0]at hs hck⊢
 unfold exprX
 refine so Tryz.func28 ?_
 by_cases h1:checkX e=0
 ·rw[if_pos h1]
  repeat' (first|refine wkb ?_|refine wk ?_|exact wkc|intro hc|refine wk2 ?_ ?_|refine wv hck ?_|refine wv hs ?_|fail)
  refine TR.rangeEach e (fun _=>[.cells [.i 0]]) (errF (insX es)) rfl h rfl rfl rfl (fun _=>⟨rfl,rfl⟩) (fun pre x=>?_) (fun fn pre x post hw=>?_) (fun fn=>?_)
  ·unfold errF
   split <;> rename_i hq <;> split at hq <;> cases hq
   ·trivial
   ·exact⟨rfl,rfl⟩
  ·have ho:=insX_sound es x
   have hcx:exC x=[T.n x.kind,T.n x.op,T.n x.t,T.n x.v,.s x.name,.sl 6 (x.args.map exT)]:=rfl
   rw[hcx]at ho⊢
   repeat' (first|refine wu ?_|exact wkc|intro hc|refine wk2 ?_ ?_|fail)
   refine⟨rfl,?_⟩
   repeat' (first|refine wu ?_|exact wkc|intro hc|refine wk2 ?_ ?_|refine wv ho ?_|fail)
   ·refine⟨_,?_,rfl,rfl⟩
    rw[errF,if_neg hc]
    rfl
   ·refine⟨?_,rfl,rfl⟩
    rw[errF,if_pos (by simpa using hc)]
  ·rw[scan_err]
   by_cases h2:firstE (insX es) (flat e)=0
   ·rw[if_pos h2,h2]
    repeat' (first|refine wu ?_|exact wkc|intro hc|refine wk2 ?_ ?_|fail)
    exact wkr
   ·rw[if_neg h2]
    simp only[]
    repeat' (first|refine wu ?_|exact wkc|intro hc|refine wk2 ?_ ?_|fail)
    exact wkr
 ·rw[if_neg h1]
  repeat' (first|refine wkb ?_|refine wk ?_|exact wkc|intro hc|refine wk2 ?_ ?_|refine wv hck ?_|refine wv hs ?_|fail)
  exact wkr
def idxI{α:Type}(p:α->Bool):List α->Int
 | []=>-1
 | x::l=>if p x then 0 else if idxI p l<0 then -1 else idxI p l+1
theorem idxI_at{α:Type}(p:α->Bool):∀(l:List α) (k:Nat) (h:k<l.length),(l.take k).all (fun x=>!p x)=true->p l[k]=true->idxI p l=k
 | x::l,0,_,_,hp=>by simp at hp;simp[idxI,hp]
 | x::l,k+1,h,ha,hp=>by
   simp only[List.take_succ_cons,List.all_cons,Bool.and_eq_true,Bool.not_eq_true']at ha
   have:=idxI_at p l k (by simpa using h) ha.2 (by simpa using hp)
   rw[idxI,if_neg (by simp[ha.1]),this,if_neg (by omega)]
   omega
theorem idxI_none{α:Type}(p:α->Bool):∀(l:List α),l.all (fun x=>!p x)=true->idxI p l= -1
 | [],_=>rfl
 | x::l,ha=>by
   simp only[List.all_cons,Bool.and_eq_true,Bool.not_eq_true']at ha
   rw[idxI,if_neg (by simp[ha.1]),idxI_none p l ha.2]
   rfl
abbrev declsT (l:List Decl):T:=.sl 3 (l.map declT)
abbrev nodesT (l:List Nod):T:=.sl 8 (l.map nodT)
structure Plc where
 p:Prog
 node:I64
 env:List Decl
def findN(p:Prog)(nm:Str):Int×Bool:=(max (idxI (fun n=>n.name == nm) p.nodes) 0,decide (0≤idxI (fun n=>n.name == nm) p.nodes))
def progC(p:Prog):List T:=[.sl 2 (p.enums.map enT),nodesT p.nodes]
def insOk:List Decl->List Int->Bool
 | d::ds,t::ts=>decide (t=d.ty.1) && insOk ds ts
 | _,_=>true
def callT(w:Plc)(e:Ex)(l:List Int)(inner:Bool):List Int×Int:=
 if(findN w.p e.name).2=false\/w.node.1≤(findN w.p e.name).1 then([],6) else
 match w.p.nodes[(findN w.p e.name).1.toNat]? with
 | none=>([],6)
 | some n=>
   if(l.length:Int)≠n.ins.length+e.v.1\/(inner=true/\n.outs.length≠1) then([],9)
   else if insOk n.ins l=false then([],10)
   else if e.v.1=1/\l.getD n.ins.length 0≠1 then([],10)
   else(n.outs.map (·.ty.1),0)
def nodC(d:Nod):List T:=[.s d.name,declsT d.ins,declsT d.outs,declsT d.locals,.sl 7 (d.eqs.map equT),.sl 1 (d.autos.map autoT),.sl 6 (d.assume.map exT),.sl 6 (d.ensure.map exT)]
def declC(d:Decl):List T:=[.s d.name,T.n d.ty,.sl 3 (d.clock.map onT)]
theorem at_nod{l:List Nod}{k:Nat}(h:k<l.length):(l.map nodT)[k]?=some (.ag (nodC l[k])):=at_map nodT h
theorem at_decl{l:List Decl}{k:Nat}(h:k<l.length):(l.map declT)[k]?=some (.ag (declC l[k])):=at_map declT h
end Go.Proofs.YtlfdkafebmdoiaaGreat
namespace Go.TL
open Go
def NextQ(X:Act->World->Prop)(Q:Exit->Act->World->Prop):Exit->Act->World->Prop
 | .normal,a,w=>X a w
 | .panic ch,a,w=>Q (.panic ch) a w
 | _,_,_=>False
def NK(env1:Env)(H1:Heap):TK
 | .normal,env,H=>env=env1/\H=H1
 | _,_,_=>False
def NKP(K:TK)(g:Prop)(env1:Env)(H1:Heap):TK
 | .normal,env,H=>(env=env1/\H=H1)/\g
 | .panic v,env,H=>K (.panic v) env H
 | _,_,_=>False
section rules
variable {P:Program}{all:Array Oper}
theorem wpIn_next{F:Fence}{n:Nat}{o:Oper}{a:Act}{w:World}{X:Act->World->Prop}{Q:Exit->Act->World->Prop}(h:Oper.wpIn F n P o a w X (NextQ X Q)):Oper.wpIn F n P o a w X Q:=by
 unfold Oper.wpIn at h⊢
 refine⟨h.1,?_⟩
 have h2:=h.2
 revert h2
 generalize (o.semAt F.round a.eval).run P w=r
 intro h
 cases r with
 | ok x w'=>
   cases x <;> simp only[Oper.uponIn]at h⊢ <;> first
    | exact h
    | (refine⟨h.1,CallsIn.mono h.2 fun e w2 h2=>?_⟩
       cases e with
       | returned v=>exact h2
       | panicked ch=>exact h2
       | outgrown=>obtain⟨a0,w0,h0⟩:=h2;exact h0.elim)
    | (refine⟨h.1,RoundIn.mono h.2 fun e w2 h2=>?_⟩
       cases e with
       | returned v=>exact h2
       | panicked ch=>exact h2
       | outgrown=>obtain⟨a0,w0,h0⟩:=h2;exact h0.elim)
 | halt x w'=>
   cases x <;> simp only[Oper.uponIn]at h⊢
   exact h
theorem step_opP{K:TK}{g:Prop}{n i:Nat}{o:Oper}{env env1:Env}{H H1:Heap}{φ:Fm}{m:M}{a:Act}{X:Act->World->Prop}{Q:Exit->Act->World->Prop}(ho:all[i]?=some o)(ht:TO false P n all [o] env H (NKP K g env1 H1))(h1:m.H=H)(h2:HRel m)(h3:ERel m n env a.tmps)(h4:DefOk φ m.w a.defers)
  (next:g->∀m' a',m'.H=H1->Step m m'->HRel m'->ERel m' n env1 a'.tmps->DefOk φ m'.w a'.defers->X a' m'.w)
  (hpan:∀m' env' a' v ch,Step m m'->HRel m'->ERel m' n env' a'.tmps->DefOk φ m'.w a'.defers->ExRel m' (.panic v) (.panic ch)->K (.panic v) env' m'.H->Q (.panic ch) a' m'.w):wpOpIn (Fr φ.r) 0 P all Q i X a m.w:=by
 have h:=ht φ m a h1 h2 h3 h4
 simp only at h
 have h':wpListIn (Fr φ.r) 0 P all (NextQ X Q) [o] a m.w:=by
  refine wpListIn_mono (fun e a' w' hp=>?_) (fun _ _=>Post.not_outgrown) [o] a m.w h
  obtain⟨m',env',te,rfl,s,hm',he',hd',hx,hk⟩:=hp
  cases te with
  | normal=>
    obtain⟨⟨rfl,hH⟩,hg⟩:=hk
    cases e <;> simp[ExRel]at hx
    exact next hg m' a' hH s hm' he' hd'
  | exit j=>exact hk.elim
  | ret=>exact hk.elim
  | panic v=>
    cases e with
    | panic ch=>exact hpan m' env' a' v ch s hm' he' hd' hx hk
    | _=>simp[ExRel]at hx
 unfold wpListIn at h'
 unfold wpOpIn
 simp only[ho]
 split
 ·rename_i hw
  rw[if_pos hw]at h'
  exact wpIn_next h'
 ·rename_i hw
  rw[if_neg hw]at h'
  exact⟨h'.1,h'.2⟩
theorem TO.nkp{n:Nat}{K:TK}{g:Prop}{o:Oper}{env env1:Env}{H H1:Heap}(hg:g)(h:TO false P n all [o] env H (NK env1 H1)):TO false P n all [o] env H (NKP K g env1 H1):=
 fun φ m a h1 h2 h3 h4=>wpListIn_mono (fun _ _ _ hp=>hp.mono fun te _ _ hk=>by cases te <;> first|exact⟨hk,hg⟩|exact hk.elim) (fun _ _=>Post.not_outgrown) [o] a m.w (h φ m a h1 h2 h3 h4)
def dstOf(all:Array Oper)(i:Nat):Option Nat:=(all[i]?).bind (·.dst)
def envA(all:Array Oper)(vs:List SV)(p:Nat->Bool):List Nat->Env
 | []=>[]
 | i::r=>match p i,dstOf all i,vs[i]? with
   | true,some d,some v=>(d,v)::envA all vs p r
   | _,_,_=>envA all vs p r
theorem look_append(a b:Env)(s:Nat):Env.look (a++b) s=match Env.look a s with|some v=>some v|none=>Env.look b s:=by
 induction a with
 | nil=>rfl
 | cons x a ih=>
   obtain⟨k,v⟩:=x
   simp only[List.cons_append,Env.look]
   cases Nat.beq k s
   ·exact ih
   ·rfl
theorem envA_some{vs:List SV}{p:Nat->Bool}(hu:∀i j d,dstOf all i=some d->dstOf all j=some d->i=j){i d:Nat}{v:SV}(hp:p i=true)(hd:dstOf all i=some d)(hv:vs[i]?=some v):∀(l:List Nat),i∈l->(envA all vs p l).look d=some v
 | j::l,hi=>by
   unfold envA
   by_cases hij:j=i
   ·subst hij
    rw[hp,hd,hv]
    simp only[Env.look,Nat.beq_refl,cond_true]
   ·have hi':i∈l:=by simpa [Ne.symm hij]using hi
    split
    ·rename_i d' v' e1 e2 e3
     have:d'≠d:=fun e=>hij (hu j i d (by rw[<-e];exact e2) hd)
     rw[Env.look_cons_other _ _ this]
     exact envA_some hu hp hd hv l hi'
    ·exact envA_some hu hp hd hv l hi'
theorem envA_none{vs:List SV}{p:Nat->Bool}{d:Nat}:∀(l:List Nat),(∀j∈l,p j=true->dstOf all j≠some d)->(envA all vs p l).look d=none
 | [],_=>rfl
 | j::l,h=>by
   unfold envA
   split
   ·rename_i d' v' e1 e2 e3
    have:d'≠d:=fun e=>h j List.mem_cons_self e1 (by rw[e2,e])
    rw[Env.look_cons_other _ _ this]
    exact envA_none l fun j' hj'=>h j' (List.mem_cons_of_mem _ hj')
   ·exact envA_none l fun j' hj'=>h j' (List.mem_cons_of_mem _ hj')
theorem envA_inv{vs:List SV}{p:Nat->Bool}{s:Nat}{v:SV}:∀(l:List Nat),(envA all vs p l).look s=some v->∃j,j∈l/\p j=true/\dstOf all j=some s/\vs[j]?=some v
 | j::l,h=>by
   unfold envA at h
   split at h
   ·rename_i d' v' e1 e2 e3
    by_cases hd:d'=s
    ·subst hd
     rw[Env.look_cons_same]at h
     cases h
     exact⟨j,List.mem_cons_self,e1,e2,e3⟩
    ·rw[Env.look_cons_other _ _ hd]at h
     obtain⟨j',h1,h2⟩:=envA_inv l h
     exact⟨j',List.mem_cons_of_mem _ h1,h2⟩
   ·obtain⟨j',h1,h2⟩:=envA_inv l h
    exact⟨j',List.mem_cons_of_mem _ h1,h2⟩
def slotsOf(all:Array Oper)(o:Oper):List Nat:=
 (o.op.operands.toList.filterMap fun x=>match x with| .tmp t=>some t|_=>none)++(match o.guard with|some g=>(dstOf all g.1).toList|none=>[])
def fullE(all:Array Oper)(vs:List SV)(env0:Env):Env:=envA all vs (fun _=>true) (List.range all.size)++env0
def pickE(full:Env):List Nat->Env
 | []=>[]
 | s::r=>match full.look s with
   | some v=>(s,v)::pickE full r
   | none=>pickE full r
theorem pickE_look(full:Env)(t:Nat)(v:SV):∀(l:List Nat),(pickE full l).look t=some v->t∈l/\full.look t=some v
 | s::r,h=>by
   unfold pickE at h
   split at h
   ·rename_i u hu
    by_cases hs:s=t
    ·subst hs
     rw[Env.look_cons_same]at h
     cases h
     exact⟨List.mem_cons_self,hu⟩
    ·rw[Env.look_cons_other _ _ hs]at h
     obtain⟨h1,h2⟩:=pickE_look full t v r h
     exact⟨List.mem_cons_of_mem _ h1,h2⟩
   ·obtain⟨h1,h2⟩:=pickE_look full t v r h
    exact⟨List.mem_cons_of_mem _ h1,h2⟩
theorem pickE_mem{full:Env}{t:Nat}{v:SV}(h:full.look t=some v):∀(l:List Nat),t∈l->(pickE full l).look t=some v
 | s::r,hm=>by
   unfold pickE
   by_cases hs:s=t
   ·subst hs
    rw[h];simp only[]
    rw[Env.look_cons_same]
   ·have hr:t∈r:=by
     rcases List.mem_cons.1 hm with h1|h1
     ·exact absurd h1.symm hs
     ·exact h1
    split
    ·rw[Env.look_cons_other _ _ hs];exact pickE_mem h r hr
    ·exact pickE_mem h r hr
def putE(d:Option Nat)(v:SV)(env:Env):Env:=match d with|some d=>(d,v)::env|none=>env
def Prem(P:Program)(n:Nat)(all:Array Oper)(full:Env):List Oper->List (SV×Bool)->List Heap->Prop
 | [],[],_=>True
 | o::l,(v,false)::t,hs=>(∀H env,TO false P n all [o] (pickE full (slotsOf all o)++env) H (NK (putE o.dst v (pickE full (slotsOf all o)++env)) H))/\Prem P n all full l t hs
 | o::l,(v,true)::t,H1::H2::hs=>(∀env,TO false P n all [o] (pickE full (slotsOf all o)++env) H1 (NK (putE o.dst v (pickE full (slotsOf all o)++env)) H2))/\Prem P n all full l t (H2::hs)
 | _,_,_=>False
def effs(t:List (SV×Bool))(k:Nat):Nat:=((t.take k).filter (·.2)).length
theorem Prem.get{n:Nat}{full:Env}:∀ {l:List Oper} {t:List (SV×Bool)} {hs:List Heap},Prem P n all full l t hs->l.length=t.length/\∀(i:Nat) o v b,l[i]?=some o->t[i]?=some (v,b)->
   (b=false->∀H env,TO false P n all [o] (pickE full (slotsOf all o)++env) H (NK (putE o.dst v (pickE full (slotsOf all o)++env)) H))/\
   (b=true->∃H1 H2,hs[effs t i]?=some H1/\hs[effs t i+1]?=some H2/\∀env,TO false P n all [o] (pickE full (slotsOf all o)++env) H1 (NK (putE o.dst v (pickE full (slotsOf all o)++env)) H2))
 | [],[],hs,_=>by simp
 | o::l,(v,false)::t,hs,h=>by
   obtain⟨h1,h2⟩:=h
   obtain⟨g1,g2⟩:=Prem.get h2
   refine⟨by simp[g1],fun i o' v' b' ho hv=>?_⟩
   cases i with
   | zero=>simp at ho hv;obtain⟨rfl,rfl⟩:=hv;subst ho;exact⟨fun _=>h1,fun e=>by cases e⟩
   | succ i=>
     have:=g2 i o' v' b' (by simpa using ho) (by simpa using hv)
     simpa [effs]using this
 | o::l,(v,true)::t,H1::H2::hs,h=>by
   obtain⟨h1,h2⟩:=h
   obtain⟨g1,g2⟩:=Prem.get h2
   refine⟨by simp[g1],fun i o' v' b' ho hv=>?_⟩
   cases i with
   | zero=>simp at ho hv;obtain⟨rfl,rfl⟩:=hv;subst ho;exact⟨fun e=>by(cases e),fun _=>⟨H1,H2,rfl,rfl,h1⟩⟩
   | succ i=>
     have:=g2 i o' v' b' (by simpa using ho) (by simpa using hv)
     have e:effs ((v,true)::t) (i+1)=effs t i+1:=by simp[effs]
     rw[e]
     simpa using this
 | o::l,(v,true)::t,[],h=>by exact h.elim
 | o::l,(v,true)::t,[_],h=>by exact h.elim
 | [],_::_,_,h=>by exact h.elim
 | _::_,[],_,h=>by exact h.elim
def mixW(w:List Nat)(ops:Array Oper)(fl:List Bool):Bool:=
 downB ops && ((List.range ops.size).all fun i=>
  ((List.range ops.size).all fun j=>Nat.beq i j || (match dstOf ops i,dstOf ops j with|some d,some d'=>!Nat.beq d d'|_,_=>true)) &&
  (match ops[i]? with
    | some o=>(slotsOf ops o).all fun s=>(List.range ops.size).all fun j=>(match dstOf ops j with|some d=>!Nat.beq d s || (match w.contains s with|true=>(cov ops 8 (afterOf ops j)).contains i|false=>(cov ops 8 (afterOf ops i)).contains j)|none=>true)
    | none=>true) &&
  (!(fl.getD i false) || (List.range i).all fun j=>!(fl.getD j false) || (cov ops 8 (afterOf ops i)).contains j))
abbrev mixB (ops:Array Oper)(fl:List Bool):Bool:=mixW [] ops fl
def okC(ops:Array Oper)(fl:List Bool)(i c:Nat):Bool:=(List.range ops.size).all fun j=>!(fl.getD j false) ||
 ((!(cov ops 8 (afterOf ops j)).contains i || Nat.ble c ((fl.take j).filter id).length) && (!(cov ops 8 (afterOf ops i)).contains j || Nat.blt ((fl.take j).filter id).length c))
def unl(N:Nat)(L:Array Bool):Nat:=((List.range N).filter fun i=>L[i]? == some false).length
theorem filter_lt{p q:Nat->Bool}(h:∀i,q i=true->p i=true):∀(l:List Nat) (x:Nat),x∈l->p x=true->q x=false->(l.filter q).length<(l.filter p).length
 | y::l,x,hx,hp,hq=>by
   have hle:∀l:List Nat,(l.filter q).length≤(l.filter p).length:=by
    intro l
    induction l with
    | nil=>simp
    | cons z l ih=>
      simp only[List.filter_cons]
      cases hz:q z
      ·cases p z <;> simp <;> omega
      ·simp[h z hz];exact ih
   simp only[List.filter_cons]
   rcases List.mem_cons.1 hx with rfl|hx
   ·rw[hp,hq];have:=hle l;simp;omega
   ·have:=filter_lt h l x hx hp hq
    cases hz:q y
    ·cases p y <;> simp <;> omega
    ·simp[h y hz];exact this
theorem any_mixW(w:List Nat){G:Nat->Prop}{n:Nat}{env0:Env}{K:TK}{vs:List SV}{fl:List Bool}{hs:List Heap}{HF:Heap}{φ:Fm}{m0:M}(hw:∀t,w.contains t=true->(env0.look t).isSome=true)(hB:mixW w all fl=true)(hvl:vs.length=all.size)(hfl:fl.length=all.size)
  (hq:∀(i:Nat) o v,all[i]?=some o->vs[i]?=some v->fl.getD i false=false->∀(c:Nat) H,hs[c]?=some H->okC all fl i c=true->∀env,TO false P n all [o] (pickE (pickE env0 w++fullE all vs env0) (slotsOf all o)++env) H (NKP K (G i) (putE o.dst v (pickE (pickE env0 w++fullE all vs env0) (slotsOf all o)++env)) H))
  (he:∀(i:Nat) o v,all[i]?=some o->vs[i]?=some v->fl.getD i false=true->∃H1 H2,hs[((fl.take i).filter id).length]?=some H1/\hs[((fl.take i).filter id).length+1]?=some H2/\∀env,TO false P n all [o] (pickE (pickE env0 w++fullE all vs env0) (slotsOf all o)++env) H1 (NKP K (G i) (putE o.dst v (pickE (pickE env0 w++fullE all vs env0) (slotsOf all o)++env)) H2))
  (hF:hs[(fl.filter id).length]?=some HF)(hK:(∀j,j<all.size->G j)->K .normal (fullE all vs env0) HF):
  ∀(fuel:Nat) (L:Array Bool) (m:M) (a:Act),L.size=all.size->DC all L->unl all.size L≤fuel->
   (∃c,(∀i:Nat,fl.getD i false=true->(((fl.take i).filter id).length<c ↔ L[i]?=some true))/\c≤(fl.filter id).length/\hs[c]?=some m.H/\∀j,L[j]?=some true->G j)->
   Step m0 m->HRel m->ERel m n (envA all vs (fun i=>L.getD i false) (List.range all.size)++env0) a.tmps->DefOk φ m.w a.defers->
   wpAnyIn (Fr φ.r) 0 P .any all (Post φ m0 n K) fuel L a m.w:=by
 simp only[mixW,Bool.and_eq_true]at hB
 obtain⟨hd,hall⟩:=hB
 have hall':∀i,i<all.size->_:=fun i hi=>List.all_eq_true.1 hall i (by simpa using hi)
 have hdl:∀i d,dstOf all i=some d->i<all.size:=fun i d h=>by
  unfold dstOf at h
  cases ho:all[i]? with
  | none=>rw[ho]at h;cases h
  | some o=>exact(Array.getElem?_eq_some_iff.1 ho).1
 have hu:∀i j d,dstOf all i=some d->dstOf all j=some d->i=j:=by
  intro i j d h1 h2
  have:=hall' i (hdl i d h1)
  simp only[Bool.and_eq_true]at this
  have:=List.all_eq_true.1 this.1.1 j (by simpa using hdl j d h2)
  rw[h1,h2]at this
  simpa using this
 have hcv:∀(i:Nat) o s j,all[i]?=some o->s∈slotsOf all o->dstOf all j=some s->(w.contains s=true->i∈cov all 8 (afterOf all j))/\(w.contains s=false->j∈cov all 8 (afterOf all i)):=by
  intro i o s j ho hs' hj
  have:=hall' i (Array.getElem?_eq_some_iff.1 ho).1
  simp only[Bool.and_eq_true,ho]at this
  have:=List.all_eq_true.1 this.1.2 s hs'
  have:=List.all_eq_true.1 this j (by simpa using hdl j s hj)
  rw[hj]at this
  refine⟨fun h=>?_,fun h=>?_⟩
  ·rw[h]at this;simpa using this
  ·rw[h]at this;simpa using this
 have hch:∀i j,i<all.size->fl.getD i false=true->j<i->fl.getD j false=true->j∈cov all 8 (afterOf all i):=by
  intro i j hi h1 hj h2
  have:=hall' i hi
  simp only[Bool.and_eq_true,h1,Bool.not_true,Bool.false_or]at this
  have:=List.all_eq_true.1 this.2 j (by simpa using hj)
  rw[h2]at this
  simpa using this
 have hfull:∀L:Array Bool,L.size=all.size->(∀i,i<all.size->L[i]?=some true)->envA all vs (fun i=>L.getD i false) (List.range all.size)++env0=fullE all vs env0:=by
  intro L hL hA
  unfold fullE
  congr 1
  have:∀l:List Nat,(∀i∈l,i<all.size)->envA all vs (fun i=>L.getD i false) l=envA all vs (fun _=>true) l:=by
   intro l
   induction l with
   | nil=>intro _;rfl
   | cons i l ih=>
     intro hl
     have h1:L.getD i false=true:=gT.2 (hA i (hl i List.mem_cons_self))
     simp only[envA,h1,ih fun j hj=>hl j (List.mem_cons_of_mem _ hj)]
  exact this _ fun i hi=>by simpa using hi
 have hdone:∀(L:Array Bool) (m:M) (a:Act),L.size=all.size->(∀i,i<all.size->L[i]?=some true)->(∃c,(∀i:Nat,fl.getD i false=true->(((fl.take i).filter id).length<c ↔ L[i]?=some true))/\c≤(fl.filter id).length/\hs[c]?=some m.H/\∀j,L[j]?=some true->G j)->
   Step m0 m->HRel m->ERel m n (envA all vs (fun i=>L.getD i false) (List.range all.size)++env0) a.tmps->DefOk φ m.w a.defers->Post φ m0 n K .normal a m.w:=by
  rintro L m a hL hA ⟨c,hc1,hc2,hc3,hG⟩ s h2 h3 h4
  rw[hfull L hL hA]at h3
  have hc:c=(fl.filter id).length:=by
   refine Nat.le_antisymm hc2 (Nat.le_of_not_lt fun hlt=>?_)
   have:∀(fl':List Bool) (c:Nat),c<(fl'.filter id).length->∃i:Nat,fl'.getD i false=true/\((fl'.take i).filter id).length=c:=by
    intro fl'
    induction fl' with
    | nil=>intro c h;simp at h
    | cons b fl' ih=>
      intro c h
      cases b with
      | false=>
        obtain⟨i,g1,g2⟩:=ih c (by simpa using h)
        exact⟨i+1,by simpa using g1,by simpa using g2⟩
      | true=>
        cases c with
        | zero=>exact⟨0,rfl,rfl⟩
        | succ c=>
          obtain⟨i,g1,g2⟩:=ih c (by simpa using h)
          exact⟨i+1,by simpa using g1,by simpa using g2⟩
   obtain⟨i,g1,g2⟩:=this fl c hlt
   have hil:i<all.size:=by
    rw[<-hfl]
    refine Nat.lt_of_not_le fun hle=>?_
    rw[List.getD_eq_getElem?_getD,List.getElem?_eq_none hle]at g1
    cases g1
   have:=(hc1 i g1).2 (hA i hil)
   omega
  subst hc
  rw[hF]at hc3
  cases hc3
  exact⟨m,fullE all vs env0,.normal,rfl,s,h2,h3,h4,trivial,hK fun j hj=>hG j (hA j hj)⟩
 intro fuel
 induction fuel with
 | zero=>
   intro L m a hL hdc hun hst s h2 h3 h4
   have hA:∀i,i<all.size->L[i]?=some true:=by
    intro i hi
    have:L[i]?=some (L[i]'(by omega)):=Array.getElem?_eq_getElem (by omega)
    rw[this]
    cases hb:L[i]'(by omega)
    ·exfalso
     have hmem:i∈(List.range all.size).filter fun i=>L[i]? == some false:=by
      rw[List.mem_filter]
      exact⟨by simpa using hi,by rw[this,hb];rfl⟩
     have:=List.length_pos_of_mem hmem
     unfold unl at hun
     omega
    ·rfl
   refine⟨?_,hdone L m a hL hA hst s h2 h3 h4⟩
   refine List.eq_nil_iff_forall_not_mem.2 fun i hi=>?_
   have h:=((ready_iff hL).1 hi).1
   rw[hA i (by rw[<-hL];exact(Array.getElem?_eq_some_iff.1 h).1)]at h
   cases h
 | succ fuel ih=>
   intro L m a hL hdc hun hst s h2 h3 h4
   refine⟨fun hr=>?_,fun i hi=>?_⟩
   ·refine hdone L m a hL (fun i hi=>?_) hst s h2 h3 h4
    have:L[i]?=some (L[i]'(by omega)):=Array.getElem?_eq_getElem (by omega)
    rw[this]
    cases hb:L[i]'(by omega)
    ·exfalso
     obtain⟨j,_,hj,_⟩:=first_ready hL hd (n:=i) (by rw[this,hb])
     rw[hr]at hj;cases hj
    ·rfl
   ·obtain⟨g1,g2⟩:=(ready_iff hL).1 hi
    have hil:i<all.size:=by rw[<-hL];exact(Array.getElem?_eq_some_iff.1 g1).1
    have ho:all[i]?=some all[i]:=Array.getElem?_eq_getElem hil
    have hv:vs[i]?=some (vs[i]'(by omega)):=List.getElem?_eq_getElem (by omega)
    generalize all[i]=o at ho
    generalize vs[i]'(by omega)=v at hv
    obtain⟨c,hc1,hc2,hc3,hG⟩:=hst
    have hcl:=cov_listed hdc 8 (afterOf all i) g2
    have hlook:∀t u,(pickE (pickE env0 w++fullE all vs env0) (slotsOf all o)++(envA all vs (fun i=>L.getD i false) (List.range all.size)++env0)).look t=some u->
      (envA all vs (fun i=>L.getD i false) (List.range all.size)++env0).look t=some u:=by
     intro t u htu
     rw[look_append]at htu
     cases hpk:(pickE (pickE env0 w++fullE all vs env0) (slotsOf all o)).look t with
     | none=>rw[hpk]at htu;exact htu
     | some u'=>
       rw[hpk]at htu
       cases htu
       obtain⟨k1,k2⟩:=pickE_look _ _ _ _ hpk
       rw[look_append]at k2
       cases hwl:(pickE env0 w).look t with
       | some u1=>
         rw[hwl]at k2
         cases k2
         obtain⟨w1,w2⟩:=pickE_look _ _ _ _ hwl
         rw[look_append]
         have:(envA all vs (fun i=>L.getD i false) (List.range all.size)).look t=none:=by
          refine envA_none _ fun j hj hjl hjd=>?_
          have hjt:=gT.1 hjl
          have:=cov_listed hdc 8 (afterOf all j) (hdc j hjt) i ((hcv i o t j ho k1 hjd).1 (by simpa using w1))
          rw[g1]at this
          cases this
         rw[this]
         exact w2
       | none=>
       rw[hwl]at k2
       have hwn:w.contains t=false:=by
        cases hc:w.contains t with
        | false=>rfl
        | true=>
          have h0:=hw t hc
          cases he0:env0.look t with
          | none=>rw[he0]at h0;cases h0
          | some u0=>exact absurd hwl (by rw[pickE_mem he0 w (by simpa using hc)];simp)
       dsimp only at k2
       unfold fullE at k2
       rw[look_append]at k2⊢
       cases hq':(envA all vs (fun _=>true) (List.range all.size)).look t with
       | some u''=>
         rw[hq']at k2
         cases k2
         obtain⟨j,j1,_,j2,j3⟩:=envA_inv _ hq'
         have hj:=hcl j ((hcv i o t j ho k1 j2).2 hwn)
         rw[envA_some hu (p:=fun i=>L.getD i false) (gT.2 hj) j2 j3 _ j1]
       | none=>
         rw[hq']at k2
         have:(envA all vs (fun i=>L.getD i false) (List.range all.size)).look t=none:=by
          refine envA_none _ fun j hj _ hjd=>?_
          have hjl:j<all.size:=by simpa using hj
          have:=envA_some (vs:=vs) hu (p:=fun _=>true) rfl hjd (List.getElem?_eq_getElem (by omega)) (List.range all.size) hj
          rw[this]at hq'
          cases hq'
         rw[this]
         exact k2
    have h3':ERel m n (pickE (pickE env0 w++fullE all vs env0) (slotsOf all o)++(envA all vs (fun i=>L.getD i false) (List.range all.size)++env0)) a.tmps:=h3.sub hlook
    have hset:∀j:Nat,(L.setIfInBounds i true)[j]?=if i=j then some true else L[j]? :=by
     intro j
     rw[Array.getElem?_setIfInBounds]
     split
     ·rw[if_pos (by omega)]
     ·rfl
    have hnext:∀H1:Heap,(∃c',(∀x:Nat,fl.getD x false=true->(((fl.take x).filter id).length<c' ↔ (L.setIfInBounds i true)[x]?=some true))/\c'≤(fl.filter id).length/\hs[c']?=some H1)->
      G i->∀m' a',m'.H=H1->Step m m'->HRel m'->ERel m' n (putE o.dst v (pickE (pickE env0 w++fullE all vs env0) (slotsOf all o)++(envA all vs (fun i=>L.getD i false) (List.range all.size)++env0))) a'.tmps->DefOk φ m'.w a'.defers->
      wpAnyIn (Fr φ.r) 0 P .any all (Post φ m0 n K) fuel (L.setIfInBounds i true) a' m'.w:=by
     rintro H1 ⟨c',q1,q2,q3⟩ hgi m' a' hH s' h2' h3'' h4'
     refine ih (L.setIfInBounds i true) m' a' (by simpa using hL) (dc_set hL hdc hi) ?_ ⟨c',q1,q2,by rw[hH];exact q3,fun j hj=>by
      rw[hset]at hj
      split at hj
      ·rename_i e;subst e;exact hgi
      ·exact hG j hj⟩ (s.trans s') h2' (h3''.sub fun t u htu=>?_) h4'
     ·have:=filter_lt (p:=fun x=>L[x]? == some false) (q:=fun x=>(L.setIfInBounds i true)[x]? == some false) (fun x hx=>by
       rw[hset]at hx
       split at hx
       ·cases hx
       ·exact hx) (List.range all.size) i (by simpa using hil) (by rw[g1];rfl) (by rw[hset,if_pos rfl];rfl)
      unfold unl at hun⊢
      omega
     ·rw[look_append]at htu
      cases hq':(envA all vs (fun x=>(L.setIfInBounds i true).getD x false) (List.range all.size)).look t with
      | some u'=>
        rw[hq']at htu
        cases htu
        obtain⟨j,j1,j0,j2,j3⟩:=envA_inv _ hq'
        have j0':=gT.1 j0
        rw[hset]at j0'
        by_cases hij:i=j
        ·subst hij
         rw[hv]at j3
         cases j3
         unfold dstOf at j2
         rw[ho]at j2
         have:o.dst=some t:=j2
         rw[this,putE,Env.look_cons_same]
        ·rw[if_neg hij]at j0'
         have hne:dstOf all i≠some t:=fun e=>hij (hu i j t e j2)
         have e2:(envA all vs (fun i=>L.getD i false) (List.range all.size)++env0).look t=some u:=by
          rw[look_append,envA_some hu (p:=fun i=>L.getD i false) (gT.2 j0') j2 j3 _ j1]
         have e3:(pickE (pickE env0 w++fullE all vs env0) (slotsOf all o)++(envA all vs (fun i=>L.getD i false) (List.range all.size)++env0)).look t=some u:=by
          rw[look_append]
          cases hpk:(pickE (pickE env0 w++fullE all vs env0) (slotsOf all o)).look t with
          | none=>exact e2
          | some u'=>
            have:=hlook t u' (by rw[look_append,hpk])
            rw[this]at e2
            exact e2
         cases hdd:o.dst with
         | none=>exact e3
         | some d=>
           have:d≠t:=fun e=>hne (by unfold dstOf;rw[ho];simp[hdd,e])
           rw[putE,Env.look_cons_other _ _ this]
           exact e3
      | none=>
        rw[hq']at htu
        have hno:∀j,j<all.size->L[j]?=some true->dstOf all j≠some t:=by
         intro j hj hjt hjd
         have:=envA_some (vs:=vs) hu (p:=fun x=>(L.setIfInBounds i true).getD x false) (i:=j) (gT.2 (by rw[hset];split;rfl;exact hjt)) hjd (List.getElem?_eq_getElem (by omega)) (List.range all.size) (by simpa using hj)
         rw[this]at hq'
         cases hq'
        have hni:dstOf all i≠some t:=by
         intro hjd
         have:=envA_some (vs:=vs) hu (p:=fun x=>(L.setIfInBounds i true).getD x false) (i:=i) (gT.2 (by rw[hset,if_pos rfl])) hjd (List.getElem?_eq_getElem (by omega)) (List.range all.size) (by simpa using hil)
         rw[this]at hq'
         cases hq'
        have e2:(envA all vs (fun i=>L.getD i false) (List.range all.size)++env0).look t=some u:=by
         rw[look_append,envA_none (List.range all.size) fun j hj hjp=>hno j (by simpa using hj) (gT.1 hjp)]
         exact htu
        have e3:(pickE (pickE env0 w++fullE all vs env0) (slotsOf all o)++(envA all vs (fun i=>L.getD i false) (List.range all.size)++env0)).look t=some u:=by
         rw[look_append]
         cases hpk:(pickE (pickE env0 w++fullE all vs env0) (slotsOf all o)).look t with
         | none=>exact e2
         | some u'=>
           have:=hlook t u' (by rw[look_append,hpk])
           rw[this]at e2
           exact e2
        cases hdd:o.dst with
        | none=>exact e3
        | some d=>
          have:d≠t:=fun e=>hni (by unfold dstOf;rw[ho];simp[hdd,e])
          rw[putE,Env.look_cons_other _ _ this]
          exact e3
    cases hb:fl.getD i false with
    | false=>
      have hokc:okC all fl i c=true:=by
       unfold okC
       refine List.all_eq_true.2 fun j hj=>?_
       cases hfj:fl.getD j false with
       | false=>rfl
       | true=>
         rw[Bool.not_true,Bool.false_or,Bool.and_eq_true]
         have h5:=hc1 j hfj
         constructor
         ·cases hcc:(cov all 8 (afterOf all j)).contains i with
          | false=>rfl
          | true=>
            rw[Bool.not_true,Bool.false_or]
            refine Nat.ble_eq_true_of_le (Nat.le_of_not_lt fun hlt=>?_)
            have hjt:=h5.1 hlt
            have:=cov_listed hdc 8 (afterOf all j) (hdc j hjt) i (by simpa using hcc)
            rw[g1]at this;cases this
         ·cases hcc:(cov all 8 (afterOf all i)).contains j with
          | false=>rfl
          | true=>
            rw[Bool.not_true,Bool.false_or]
            have:=h5.2 (hcl j (by simpa using hcc))
            exact Nat.ble_eq_true_of_le this
      refine step_opP (K:=K) (hpan:=fun m' env' a' v ch s' hm' he' hd' hx hk=>⟨m',env',.panic v,rfl,s.trans s',hm',he',hd',hx,hk⟩) ho (hq i o v ho hv hb c m.H hc3 hokc _) rfl h2 h3' h4 (hnext m.H ⟨c,fun x hx=>?_,hc2,hc3⟩)
      rw[hc1 x hx,hset]
      have:i≠x:=fun e=>by rw[e,hx]at hb;cases hb
      rw[if_neg this]
    | true=>
      obtain⟨H1,H2,k1,k2,k3⟩:=he i o v ho hv hb
      have hci:((fl.take i).filter id).length=c:=by
       have h5:=hc1 i hb
       have hge:c≤((fl.take i).filter id).length:=Nat.le_of_not_lt fun hlt=>by
        rw[h5.1 hlt]at g1;cases g1
       refine Nat.le_antisymm (Nat.le_of_not_lt fun hlt=>?_) hge
       have:∀(fl':List Bool) (c:Nat),c<(fl'.filter id).length->∃j:Nat,j<fl'.length/\fl'.getD j false=true/\((fl'.take j).filter id).length=c:=by
        intro fl'
        induction fl' with
        | nil=>intro c h;simp at h
        | cons b fl' ih=>
          intro c h
          cases b with
          | false=>
            obtain⟨j,g0,g1,g2⟩:=ih c (by simpa using h)
            exact⟨j+1,by simpa using g0,by simpa using g1,by simpa using g2⟩
          | true=>
            cases c with
            | zero=>exact⟨0,by simp,rfl,rfl⟩
            | succ c=>
              obtain⟨j,g0,g1,g2⟩:=ih c (by simpa using h)
              exact⟨j+1,by simpa using g0,by simpa using g1,by simpa using g2⟩
       obtain⟨j,g0,g3,g4⟩:=this (fl.take i) c hlt
       have hji:j<i:=by simp at g0;omega
       rw[List.getD_eq_getElem?_getD,List.getElem?_take,if_pos hji,<-List.getD_eq_getElem?_getD]at g3
       rw[List.take_take,Nat.min_eq_left (by omega)]at g4
       have h6:=hcl j (hch i j hil hb hji g3)
       have:=(hc1 j g3).2 h6
       omega
      rw[hci]at k1 k2
      rw[hc3]at k1
      cases k1
      refine step_opP (K:=K) (hpan:=fun m' env' a' v ch s' hm' he' hd' hx hk=>⟨m',env',.panic v,rfl,s.trans s',hm',he',hd',hx,hk⟩) ho (k3 _) rfl h2 h3' h4 (hnext H2 ⟨c+1,fun x hx=>?_,?_,k2⟩)
      ·rw[hset]
       by_cases hix:i=x
       ·subst hix;rw[if_pos rfl,hci];simp
       ·rw[if_neg hix,<-hc1 x hx]
        have hmono:∀(fl':List Bool) (x y:Nat),x<y->fl'.getD x false=true->((fl'.take x).filter id).length<((fl'.take y).filter id).length:=by
         intro fl'
         induction fl' with
         | nil=>intro x y _ h;cases h
         | cons b fl' ih=>
           intro x y hxy h
           obtain⟨y',rfl⟩:∃y',y=y'+1:=⟨y-1,by omega⟩
           cases x with
           | zero=>simp at h;subst h;simp
           | succ x=>
             have:=ih x y' (by omega) (by simpa using h)
             cases b <;> simp <;> exact this
        have:((fl.take x).filter id).length≠c:=by
         rcases Nat.lt_or_gt_of_ne hix with h|h
         ·have:=hmono fl i x h hb;omega
         ·have:=hmono fl x i h hx;omega
        omega
      ·have:c<(fl.filter id).length:=by
        have hm:∀(fl':List Bool) (x:Nat),fl'.getD x false=true->((fl'.take x).filter id).length<(fl'.filter id).length:=by
         intro fl'
         induction fl' with
         | nil=>intro x h;cases h
         | cons b fl' ih=>
           intro x h
           cases x with
           | zero=>simp at h;subst h;simp
           | succ x=>
             have:=ih x (by simpa using h)
             cases b <;> simp <;> exact this
        have:=hm fl i hb
        omega
       omega
theorem TR.regionW(w:List Nat){n:Nat}{env0 envF:Env}{H0 HF:Heap}{K:TK}{id':Nat}{l:List Oper}(t:List (SV×Bool))(hs:List Heap)(hm:P.follows .mixedOrders=true)(hw:w.all (fun t=>(env0.look t).isSome)=true)(hB:mixW w l.toArray (t.map (·.2))=true)(h0:hs[0]?=some H0)
  (hp:Prem P n l.toArray (pickE env0 w++fullE l.toArray (t.map (·.1)) env0) l t hs)(hF:hs[((t.map (·.2)).filter id).length]?=some HF)(hE:forceL (fullE l.toArray (t.map (·.1)) env0)=some envF)(hK:K .normal envF HF):
  TR P n (.region id' l.toArray true) env0 H0 K:=by
 obtain⟨g1,g2⟩:=hp.get
 intro φ m a h1 h2 h3 h4
 have hef:∀i,((t.map (·.2)).take i |>.filter id).length=effs t i:=by
  intro i
  unfold effs
  rw[<-List.map_take,List.filter_map,List.length_map]
  rfl
 have s0:Step m ⟨m.A,m.β,m.H,{ m.w with drawn:=m.w.drawn+1 }⟩/\HRel ⟨m.A,m.β,m.H,{ m.w with drawn:=m.w.drawn+1 }⟩:=keep_ok h2 ⟨rfl,rfl,rfl,Nat.le_refl _,fun _ _=>rfl⟩
 refine wpr_of_in (wpIn_region_any hm ?_)
 refine any_mixW w (G:=fun _=>True) (vs:=t.map (·.1)) (fl:=t.map (·.2)) (hs:=hs) (m0:=m) (fun t ht=>List.all_eq_true.1 hw t (by simpa using ht)) hB (by simp[g1]) (by simp[g1]) ?_ ?_ hF (fun _=>by rw[forceL_eq hE]at hK;exact hK) l.toArray.size (Array.replicate l.toArray.size false)
  ⟨m.A,m.β,m.H,{ m.w with drawn:=m.w.drawn+1 }⟩ a (by simp) ?_ ?_ ?_ s0.1 s0.2 ?_ (h4.step h2 s0.1)
 ·intro i o v ho hv hb c H _ _ env
  obtain⟨⟨v',b⟩,hx,rfl⟩:∃x,t[i]?=some x/\x.1=v:=by simpa using hv
  have hb':b=false:=by
   rw[List.getD_eq_getElem?_getD,List.getElem?_map,hx]at hb
   simpa using hb
  exact((g2 i o v' b (by simpa using ho) hx).1 hb' H env).nkp trivial
 ·intro i o v ho hv hb
  obtain⟨⟨v',b⟩,hx,rfl⟩:∃x,t[i]?=some x/\x.1=v:=by simpa using hv
  have hb':b=true:=by
   rw[List.getD_eq_getElem?_getD,List.getElem?_map,hx]at hb
   simpa using hb
  have:=(g2 i o v' b (by simpa using ho) hx).2 hb'
  rw[hef]
  obtain⟨H1,H2,e1,e2,e3⟩:=this
  exact⟨H1,H2,e1,e2,fun env=>(e3 env).nkp trivial⟩
 ·intro i hi
  rw[Array.getElem?_replicate]at hi
  split at hi <;> cases hi
 ·unfold unl
  have:=List.length_filter_le (fun i=>(Array.replicate l.toArray.size false)[i]? == some false) (List.range l.toArray.size)
  simpa using this
 ·refine⟨0,fun i hi=>⟨fun h=>by omega,fun h=>?_⟩,Nat.zero_le _,by rw[h0];simp[h1],fun j h=>?_⟩
  all_goals
   rw[Array.getElem?_replicate]at h
   split at h <;> cases h
 ·have:envA l.toArray (t.map (·.1)) (fun i=>(Array.replicate l.toArray.size false).getD i false) (List.range l.toArray.size)=[]:=by
   have:∀x:List Nat,envA l.toArray (t.map (·.1)) (fun i=>(Array.replicate l.toArray.size false).getD i false) x=[]:=by
    intro x
    induction x with
    | nil=>rfl
    | cons i x ih=>
      have:(Array.replicate l.toArray.size false).getD i false=false:=by
       rw[Array.getD_eq_getD_getElem?,Array.getElem?_replicate]
       split <;> rfl
      simp only[envA,this,ih]
   exact this _
  rw[this,List.nil_append]
  exact h3.step h2 s0.1
theorem TR.regionM{n:Nat}{env0 envF:Env}{H0 HF:Heap}{K:TK}{id':Nat}{l:List Oper}(t:List (SV×Bool))(hs:List Heap)(hm:P.follows .mixedOrders=true)(hB:mixB l.toArray (t.map (·.2))=true)(h0:hs[0]?=some H0)
  (hp:Prem P n l.toArray (fullE l.toArray (t.map (·.1)) env0) l t hs)(hF:hs[((t.map (·.2)).filter id).length]?=some HF)(hE:forceL (fullE l.toArray (t.map (·.1)) env0)=some envF)(hK:K .normal envF HF):
  TR P n (.region id' l.toArray true) env0 H0 K:=TR.regionW [] t hs hm rfl hB h0 hp hF hE hK
end rules
end Go.TL
