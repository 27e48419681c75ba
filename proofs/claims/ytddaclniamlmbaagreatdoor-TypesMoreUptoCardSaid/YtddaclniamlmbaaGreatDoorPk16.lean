import Derived.Test.YtddaclniamlmbaaGreatDoorPk13
import Derived.Test.YtddaclniamlmbaaGreatDoorPk15
set_option linter.unusedSimpArgs false
set_option linter.unusedVariables false
namespace Go.Proofs.YtddaclniamlmbaaGreatDoor
open Go Go.TL
attribute [local irreducible] TR TO Then InBlock RetK Sound LoopK Kf GG ThenL
def letter(c:Int):Bool:=(decide (97≤c) && decide (c≤122)) || (decide (65≤c) && decide (c≤90))
def digit(c:Int):Bool:=decide (48≤c) && decide (c≤57)
def inner(c:Int):Bool:=letter c || digit c || c == 95
abbrev u8 (c:Int):SV:=.t (.v (.int .u8 c))
theorem letter_sound(c:Int):Pure Tryz.prog 278 [u8 c] (.b (letter c)):=by
 refine so Tryz.func278 ?_
 repeat' (first|refine wk ?_|exact wkc|intro hc|refine wk2 ?_ ?_|fail)
 all_goals try(refine RetK.pure rfl ?_ rfl;exact Le.of_eq (by simp_all [pack,letter] <;> omega))
theorem digit_sound(c:Int):Pure Tryz.prog 332 [u8 c] (.b (digit c)):=by
 refine so Tryz.func332 ?_
 repeat' (first|refine wk ?_|exact wkc|intro hc|refine wk2 ?_ ?_|fail)
 all_goals try(refine RetK.pure rfl ?_ rfl;exact Le.of_eq (by simp_all [pack,digit] <;> omega))
theorem inner_sound(c:Int):Pure Tryz.prog 280 [u8 c] (.b (inner c)):=by
 refine so Tryz.func280 ?_
 repeat' (first|refine wk ?_|exact wkc|intro hc|refine wk2 ?_ ?_|refine wb (letter_sound _) ?_ ?_|refine wb (digit_sound _) ?_ ?_|fail)
 all_goals try(refine RetK.pure rfl ?_ rfl;exact Le.of_eq (by simp_all [pack,inner] <;> omega))
def kws:List Str:=[
 [97,115,115,117,109,101],[97,110,100],[97,117,116,111,109,97,116,111,110],[98,111,111,108],[99,111,110,116,105,110,117,101],[100,111],[100,111,110,101],[101,108,115,101],[101,110,100],[101,110,115,117,114,101],[101,118,101,114,121],[102,97,108,115,101],[102,98,121],[105,102],[105,110,116],[108,101,116],[109,101,114,103,101],[109,111,100],[110,111,100,101],[110,111,116],[111,114],[112,114,101],[114,101,116,117,114,110,115],[115,116,97,116,101],[116,101,108],[116,104,101,110],[116,114,117,101],[116,121,112,101],[117,110,108,101,115,115],[117,110,116,105,108],[118,97,114],[119,104,101,110],[120,111,114]]
def keyword(s:Str):Bool:=kws.any fun w=>s == w
set_option maxHeartbeats 4000000 in
theorem keyword_sound (s:Str):Pure Tryz.prog 279 [.s s] (.b (keyword s)):=by
 refine so Tryz.func279 ?_
 repeat' (first|refine wk ?_|exact wkc|intro hc|refine wk2 ?_ ?_|fail)
 all_goals refine RetK.pure rfl ?_ rfl
 all_goals exact Le.of_eq (by simp[keyword,kws,pack, *])
def innerB(c:UInt8):Bool:=inner c.toNat
def letterB(c:UInt8):Bool:=letter c.toNat
def ident(s:Str):Bool:=
 match s with
 | []=>false
 | c::r=>decide (r.length+1≤40) && letterB c && !keyword (c::r) && (c::r).all innerB
theorem ident_sound(s:Str):Pure Tryz.prog 201 [.s s] (.b (ident s)):=by
 refine so Tryz.func201 ?_
 cases s with
 | nil=>
   repeat' (first|refine wk ?_|exact wkc|intro hc|refine wk2 ?_ ?_|refine wb (letter_sound _) ?_ ?_|refine wb (keyword_sound _) ?_ ?_|fail)
   all_goals try(refine RetK.pure rfl ?_ rfl;exact Le.of_eq (by simp_all [pack,ident] <;> omega))
 | cons c r=>
   repeat' (first|refine wk ?_|exact wkc|intro hc|refine wk2 ?_ ?_|refine wb (letter_sound _) ?_ ?_|refine wb (keyword_sound _) ?_ ?_|fail)
   all_goals try(refine RetK.pure rfl ?_ rfl;exact Le.of_eq (by simp_all [pack,ident,letterB] <;> omega))
   refine TR.loopN (c::r).length (fun k=>((c::r).take k).all innerB=true) (fun k=>[(0,.s (c::r)),(22,.i (c::r).length),(23,.i k)]) (fun _=>[]) rfl (fun k hlt ha=>?_) (fun ha=>?_)
   ·have hx:=List.getElem?_eq_getElem hlt
    repeat' (first|refine wk ?_|exact wkc|intro hc|refine wk2 ?_ ?_|refine wb (inner_sound _) ?_ ?_|fail)
    ·refine LoopK.nextN hlt ?_
     rw[List.take_succ_eq_append_getElem hlt,List.all_append,ha]
     simpa [innerB]using hc
    ·refine RetK.pure rfl (Le.of_eq ?_) rfl
     have:(c::r).all innerB=false:=by
      rw[List.all_eq_false]
      exact⟨_,List.getElem_mem hlt,by simpa [innerB]using hc⟩
     simp only[pack,ident,this]
     simp
   ·repeat' (first|refine wk ?_|exact wkc|intro hc|refine wk2 ?_ ?_|fail)
    rw[List.take_length]at ha
    refine RetK.pure rfl (Le.of_eq ?_) rfl
    simp_all [pack,ident,letterB]
    omega
def inW(v:Int):Bool:=decide (-32768≤v) && decide (v≤32767)
theorem in_sound(v:Int):Pure Tryz.prog 226 [.i v] (.b (inW v)):=by
 refine so Tryz.func226 ?_
 repeat' (first|refine wk ?_|exact wkc|intro hc|refine wk2 ?_ ?_|fail)
 all_goals try(refine RetK.pure rfl ?_ rfl;exact Le.of_eq (by simp_all [pack,inW] <;> omega))
abbrev ensT (es:List En):T:=.sl 2 (es.map enT)
def enumOf(es:List En)(t:Int):En×Bool:=
 if 3≤t/\t-3<es.length then(match es[(t-3).toNat]? with|some e=>(e,true)|none=>(⟨[],[]⟩,false)) else(⟨[],[]⟩,false)
def sizeOfT(es:List En)(t:Int):Int:=
 if t=1 then 2 else if t=2 then 65536 else((enumOf es t).1.tags.length:Int)
def hasT(es:List En)(t v:Int):Bool:=if t=2 then inW v else decide (0≤v) && decide (v<sizeOfT es t)
theorem enum_sound(es:List En)(t:I64):Pure Tryz.prog 225 [.t (ensT es),.n t] (.tup [.t (enT (enumOf es t.1).1),.b (enumOf es t.1).2]):=by
 obtain⟨t,ht1,ht2⟩:=t
 dsimp only[SV.n]
 refine so Tryz.func225 ?_
 have hl:(es.map enT).length=es.length:=List.length_map _
 by_cases h:3≤t/\t-3<es.length
 ·obtain⟨h1,h2⟩:=h
  have hlt:(t-3).toNat<es.length:=by omega
  have hx:=at_map enT hlt
  repeat' (first|refine wk ?_|exact wkc|intro hc|refine wk2 ?_ ?_|fail)
  simp only[enumOf,h1,h2,hlt,enT,and_self,if_true,List.getElem?_eq_getElem]
  exact wkr
 ·repeat' (first|refine wk ?_|exact wkc|intro hc|refine wk2 ?_ ?_|fail)
  all_goals
   simp only[enumOf,h,enT,if_false]
   exact wkr
theorem size_sound(es:List En)(t:I64):Pure Tryz.prog 160 [.t (ensT es),.n t] (.i (sizeOfT es t.1)):=by
 refine so Tryz.func160 ?_
 repeat' (first|refine wk ?_|exact wkc|intro hc|refine wk2 ?_ ?_|refine wv (enum_sound es t) ?_|fail)
 ·refine RetK.pure rfl (Le.of_eq ?_) rfl
  simp[pack,sizeOfT,hc]
 ·refine RetK.pure rfl (Le.of_eq ?_) rfl
  simp[pack,sizeOfT,hc]
 ·refine RetK.pure rfl (Le.of_eq ?_) rfl
  simp[pack,sizeOfT, *]
theorem has_sound(es:List En)(t v:I64):Pure Tryz.prog 161 [.t (ensT es),.n t,.n v] (.b (hasT es t.1 v.1)):=by
 refine so Tryz.func161 ?_
 repeat' (first|refine wk ?_|exact wkc|intro hc|refine wk2 ?_ ?_|refine wv (in_sound v.1) ?_|refine wv (size_sound es t) ?_|fail)
 all_goals
  refine RetK.pure rfl (Le.of_eq ?_) rfl
  simp_all [pack,hasT] <;> omega
def opKind(o:Int):Int:=
 if o=1\/o=3\/o=4\/o=5 then 1 else if o=2\/6≤o/\o≤10 then 2 else if o=11\/o=12 then 3 else if 13≤o/\o≤16 then 4 else 0
def opN(o:Int):Int:=if o=1\/o=2 then 1 else if 3≤o/\o≤16 then 2 else 0
theorem opKind_cases(o:Int):(opKind o=0/\(o<1\/16<o))\/(opKind o=1/\(o=1\/o=3\/o=4\/o=5))\/(opKind o=2/\(o=2\/6≤o/\o≤10))\/(opKind o=3/\(o=11\/o=12))\/(opKind o=4/\13≤o/\o≤16):=by
 unfold opKind;repeat' split
 all_goals omega
theorem opN_cases(o:Int):(opN o=1/\(o=1\/o=2))\/(opN o=2/\3≤o/\o≤16)\/(opN o=0/\(o<1\/16<o)):=by
 unfold opN;repeat' split
 all_goals omega
theorem group_sound(o:Int):Pure Tryz.prog 165 [.i o] (.tup [.i (opKind o),.i (opN o)]):=by
 have h1:=opKind_cases o
 have h2:=opN_cases o
 generalize opKind o=a at h1⊢
 generalize opN o=b at h2⊢
 refine so Tryz.func165 ?_
 repeat' (first|refine wk ?_|exact wkc|intro hc|refine wk2 ?_ ?_|fail)
 all_goals
  refine RetK.pure rfl (Le.of_eq ?_) rfl
  simp only[pack,SV.tup.injEq,List.cons.injEq,SV.t.injEq,T.v.injEq,Value.int.injEq,true_and,and_true]
  omega
abbrev intsT (l:List Int):T:=.sl 1 (l.map T.i)
def okTy(k t0 t:Int):Bool:=if k=1 then decide (t=1) else if k=3 then decide (t=t0) && decide (1≤t) else decide (t=2)
def resultOp(o:Int)(ts:List Int):Int×Int:=
 if opKind o=0 then(0,2) else if(ts.length:Int)≠opN o then(0,9) else if ts.all (okTy (opKind o) (ts.headD 0)) then(if opKind o=2 then 2 else 1,0) else(0,10)
theorem at_ints{l:List Int}{k:Nat}(h:k<l.length):(l.map T.i)[k]?=some (T.i l[k]):=by simp[h]
theorem result_sound(o:Int)(ts:List Int):Pure Tryz.prog 89 [.i o,.t (intsT ts)] (.tup [.i (resultOp o ts).1,.i (resultOp o ts).2]):=by
 refine so Tryz.func89 ?_
 have hl:(ts.map T.i).length=ts.length:=List.length_map _
 have hk:=opKind_cases o
 have hn:=opN_cases o
 repeat' (first|refine wk ?_|exact wkc|intro hc|refine wk2 ?_ ?_|refine wv (group_sound o) ?_|fail)
 ·rw[show resultOp o ts=(0,2) from if_pos hc];exact wkr
 ·rename_i h0
  rw[show resultOp o ts=(0,9) from by simp only[resultOp,if_neg h0];exact if_pos (by omega)];exact wkr
 ·rename_i h0
  have hlen:(ts.length:Int)=opN o:=by omega
  have hr:resultOp o ts=if ts.all (okTy (opKind o) (ts.headD 0)) then(if opKind o=2 then 2 else 1,0) else(0,10):=by
   simp only[resultOp,if_neg h0];exact if_neg (by omega)
  rw[hr]
  clear hr
  have hx0:(ts.map T.i)[(0:Int).toNat]?=some (T.i (ts.headD 0)):=by
   cases ts with
   | nil=>simp at hlen;omega
   | cons a l=>rfl
  generalize ts.headD 0=t0 at hx0⊢
  generalize opKind o=k at h0 hk⊢
  refine TR.loopN ts.length (fun j=>(ts.take j).all (okTy k t0)=true) (fun j=>[(1,.t (intsT ts)),(6,.i k),(23,.t (intsT ts)),(24,.i ts.length),(25,.i j)]) (fun _=>[]) rfl (fun j hlt ha=>?_) (fun ha=>?_) ⟨rfl,rfl,rfl,by rw[<-hl];rfl,rfl,trivial⟩
  ·have hx:=at_ints hlt
   have htk:=List.take_succ_eq_append_getElem hlt
   have hm:=List.getElem_mem hlt
   generalize ts[j]=t at hx htk hm
   repeat' (first|refine wk ?_|exact wkc|intro hc|refine wk2 ?_ ?_|fail)
   all_goals first
    | (refine LoopK.nextN hlt ?_;rw[htk,List.all_append,ha];simp_all [okTy];done)
    | (refine LoopK.nextN hlt ?_;rw[htk,List.all_append,ha];simp_all [okTy];omega)
    | (have:ts.all (okTy k t0)=false:=List.all_eq_false.2 ⟨t,hm,by simp_all [okTy]⟩
       simp only[this];exact wkr)
    | (have:ts.all (okTy k t0)=false:=List.all_eq_false.2 ⟨t,hm,by simp_all [okTy];omega⟩
       simp only[this];exact wkr)
  ·rw[List.take_length]at ha
   rw[ha]
   repeat' (first|refine wk ?_|exact wkc|intro hc|refine wk2 ?_ ?_|fail)
   ·simp only[hc,if_true];exact wkr
   ·simp only[hc,if_true,if_false];exact wkr
def tagI(t v:Int):Bool:=(decide (t=1) && (decide (v=0) || decide (v=1))) || (decide (3≤t) && decide (0≤v) && decide (v<16))
def branI(t n:Int):Bool:=(decide (t=1) && decide (n=2)) || (decide (3≤t) && decide (1≤n) && decide (n≤16))
def opdI(o:Int):Int:=if o=1\/o=2 then 1 else 2
theorem tag_sound(t v:Int):Pure Tryz.prog 297 [.i t,.i v] (.b (tagI t v)):=by
 refine so Tryz.func297 ?_
 repeat' (first|refine wk ?_|exact wkc|intro hc|refine wk2 ?_ ?_|fail)
 all_goals try(refine RetK.pure rfl ?_ rfl;exact Le.of_eq (by simp_all [pack,tagI] <;> omega))
theorem branches_sound(t n:Int):Pure Tryz.prog 299 [.i t,.i n] (.b (branI t n)):=by
 refine so Tryz.func299 ?_
 repeat' (first|refine wk ?_|exact wkc|intro hc|refine wk2 ?_ ?_|fail)
 all_goals try(refine RetK.pure rfl ?_ rfl;exact Le.of_eq (by simp_all [pack,branI] <;> omega))
theorem opds_sound(o:Int):Pure Tryz.prog 298 [.i o] (.i (opdI o)):=by
 refine so Tryz.func298 ?_
 repeat' (first|refine wk ?_|exact wkc|intro hc|refine wk2 ?_ ?_|fail)
 all_goals try(refine RetK.pure rfl ?_ rfl;exact Le.of_eq (by simp_all [pack,opdI] <;> omega))
structure Form where
 args:Bool
 op:Bool
 typed:Bool
 name:Bool
 word:Bool
abbrev formT (f:Form):T:=.ag [.b f.args,.b f.op,.b f.typed,.b f.name,.b f.word]
def ofF(k o t v n:Int):Form:=
 if k=1 then⟨decide (n=0),false,(decide (t=2) && decide (-32768≤v) && decide (v≤32767)) || (!decide (t=2) && tagI t v),false,false⟩
 else if k=2 then⟨decide (n=0),false,decide (t=0) && decide (v=0),true,false⟩
 else if k=3 then⟨decide (n=opdI o),true,decide (t=0) && decide (v=0),false,false⟩
 else if k=4 then⟨decide (n=3),false,decide (t=0) && decide (v=0),false,false⟩
 else if k=5 then⟨decide (n=1),false,decide (t=0) && decide (v=0),false,false⟩
 else if k=6\/k=7 then⟨decide (n=2),false,decide (t=0) && decide (v=0),false,false⟩
 else if k=8 then⟨decide (n=1),false,!decide (t=2) && tagI t v,true,false⟩
 else if k=9 then⟨!decide (t=2) && branI t n,false,decide (v=0),true,false⟩
 else if k=10 then⟨decide (v≤n),false,decide (t=0) && (decide (v=0) || decide (v=1)),true,false⟩
 else if k=11 then⟨decide (n=0),false,decide (t=0) && decide (v=0),false,true⟩
 else⟨false,false,false,false,false⟩
set_option maxHeartbeats 2000000 in
theorem of_sound (k o t v:Int) (nm:Str) (l:List T):Pure Tryz.prog 223 [.t (.ag [.i k,.i o,.i t,.i v,.s nm,.sl 6 l])] (.t (formT (ofF k o t v l.length))):=by
 have ht:=tag_sound t v
 have hb:=branches_sound t l.length
 have ho:=opds_sound o
 have hk:k=1\/k=2\/k=3\/k=4\/k=5\/k=6\/k=7\/k=8\/k=9\/k=10\/k=11\/(k<1\/11<k):=by omega
 rcases hk with rfl|rfl|rfl|rfl|rfl|rfl|rfl|rfl|rfl|rfl|rfl|hk
 all_goals
  first|rw[show ofF k o t v l.length=⟨false,false,false,false,false⟩ from by unfold ofF;repeat' (first|rw[if_neg (by omega)]|fail)]|simp only[ofF,Int.reduceEq,if_false,if_true,or_self,or_true,true_or,or_false,false_or]
  refine so Tryz.func223 ?_
  repeat' (first|refine wu ?_|exact wkc|intro hc|refine wk2 ?_ ?_|refine wv ht ?_|refine wv hb ?_|refine wv ho ?_|fail)
  all_goals
   refine RetK.pure rfl (Le.tree rfl (TLe.of_eq ?_)) rfl
   clear ht hb ho
   simp only[formT,T.ag.injEq,List.cons.injEq,T.v.injEq,Value.bool.injEq,and_true,true_eq_decide_iff,false_eq_decide_iff,eq_comm (a:=true),eq_comm (a:=false),Bool.or_eq_true,Bool.and_eq_true,Bool.or_eq_false_iff,Bool.and_eq_false_iff,Bool.not_eq_true',Bool.not_eq_false',decide_eq_true_eq,decide_eq_false_iff_not,Bool.false_eq_true,true_and,reduceCtorEq] <;>
    first|omega|(simp_all;done)|(simp_all;omega)
def oneI(k o t v:Int)(nm:Str)(n:Int):Int:=
 if 64<n then 3
 else if(ofF k o t v n).args=false\/(ofF k o t v n).typed=false\/((ofF k o t v n).op≠decide (o≠0))\/((ofF k o t v n).op=true/\(o<1\/16<o)) then 5
 else if(ofF k o t v n).name=true then(if ident nm then 0 else 6)
 else if(ofF k o t v n).word=true/\(wordP nm).2=0 then 0
 else if nm≠ []\/(ofF k o t v n).word=true then 5 else 0
set_option maxHeartbeats 1000000 in
theorem one_sound (k o t v:Int) (nm:Str) (l:List T):Pure Tryz.prog 159 [.t (.ag [.i k,.i o,.i t,.i v,.s nm,.sl 6 l])] (.i (oneI k o t v nm l.length)):=by
 have hf:=of_sound k o t v nm l
 have hid:=ident_sound nm
 have hw:=parseW_sound nm
 unfold oneI
 generalize ofF k o t v l.length=f at*
 generalize ident nm=id at*
 generalize wordP nm=w at*
 obtain⟨fa,fo,ft,fn,fw⟩:=f
 simp only[formT]at hf
 obtain⟨w1,w2⟩:=w
 by_cases h64:64<(l.length:Int)
 ·rw[if_pos h64]
  refine so Tryz.func159 ?_
  repeat' (first|refine wu ?_|exact wkc|intro hc|refine wk2 ?_ ?_|fail)
  exact wkr
 ·rw[if_neg h64]
  cases fa with
  | false=>
    rw[if_pos (.inl rfl)]
    refine so Tryz.func159 ?_
    repeat' (first|refine wu ?_|exact wkc|intro hc|refine wk2 ?_ ?_|refine wv hf ?_|fail)
    exact wkr
  | true=>
    cases ft with
    | false=>
      rw[if_pos (.inr (.inl rfl))]
      refine so Tryz.func159 ?_
      repeat' (first|refine wu ?_|exact wkc|intro hc|refine wk2 ?_ ?_|refine wv hf ?_|fail)
      exact wkr
    | true=>
      simp only[Bool.true_eq_false,false_or]
      cases fo <;> cases fn <;> cases fw
      all_goals
       refine so Tryz.func159 ?_
       repeat' (first|refine wu ?_|exact wkc|intro hc|refine wk2 ?_ ?_|refine wv hf ?_|refine wb hid ?_ ?_|refine wv hw ?_|fail)
       all_goals
        refine RetK.pure rfl (Le.of_eq ?_) rfl
        refine congrArg (fun z=>SV.t (T.v (Value.int IntKind.i64 z))) ?_
        clear hf hid hw
        first|(simp_all;done)|(simp_all;omega)
def namedI(k:Int):Bool:=decide (k=2) || decide (k=8) || decide (k=9) || decide (k=10)
def argsI(k o t v n:Int):Bool:=
 if k=1\/k=2\/k=11 then decide (n=0)
 else if k=3 then(if o=1\/o=2 then decide (n=1) else decide (n=2))
 else if k=4 then decide (n=3)
 else if k=5\/k=8 then decide (n=1)
 else if k=6\/k=7 then decide (n=2)
 else if k=9 then(if t=1 then decide (n=2) else decide (1≤n) && decide (n≤16))
 else decide (1≤n) || decide (v=0)
def formI(k o t v:Int)(nm:Str)(n:Int):Bool:=
 if k<1\/11<k\/argsI k o t v n=false then false
 else if(decide (k=3) != decide (o≠0))=true\/(o≠0/\(o<1\/16<o)) then false
 else if namedI k=false/\k≠11/\nm≠ [] then false
 else if k=1 then(if t=2 then decide (-32768≤v) && decide (v≤32767) else tagI t v)
 else if k=8 then tagI t v
 else if k=9 then(decide (t=1) || decide (2<t)) && decide (v=0)
 else if k=10 then decide (t=0) && (decide (v=0) || decide (v=1))
 else if k=11 then decide (t=0) && decide (v=0) && decide ((wordP nm).2=0)
 else decide (t=0) && decide (v=0)
def oneX(x:Ex):Int:=oneI x.kind.1 x.op.1 x.t.1 x.v.1 x.name x.args.length
def firstE{α:Type}(g:α->Int):List α->Int
 | []=>0
 | x::l=>if g x=0 then firstE g l else g x
theorem firstE_append{α:Type}(g:α->Int):∀(a b:List α),firstE g (a++b)=if firstE g a=0 then firstE g b else firstE g a
 | [],b=>by simp[firstE]
 | x::a,b=>by
   simp only[List.cons_append,firstE]
   by_cases h:g x=0
   ·simp only[h,if_true];exact firstE_append g a b
   ·simp[h]
def checkX(e:Ex):Int:=if 400<wEx e\/32<exDepth e then 3 else firstE oneX (flat e)
theorem oneX_sound(x:Ex):Pure Tryz.prog 159 [.t (.ag (exC x))] (.i (oneX x)):=by
 have:=one_sound x.kind.1 x.op.1 x.t.1 x.v.1 x.name (x.args.map exT)
 rw[List.length_map]at this
 exact this
def errF(g:Ex->Int)(_:List Ex)(x:Ex):Out:=if g x=0 then .go else .jump .ret [.cells [.i (g x)]]
theorem scan_err(g:Ex->Int):∀(l pre:List Ex),scanO (errF g) pre l=if firstE g l=0 then .go else .jump .ret [.cells [.i (firstE g l)]]
 | [],pre=>by simp[scanO,firstE]
 | x::l,pre=>by
   simp only[scanO,errF,firstE]
   by_cases h:g x=0
   ·simp only[h,if_true];exact scan_err g l _
   ·simp[h]
theorem checkX_sound(e:Ex)(h:wEx e≤1000000000):Pure Tryz.prog 83 [.t (exT e)] (.i (checkX e)):=by
 have hsz:=sizeE_sound e h
 have hdp:=depth_sound e h
 have hs:=Each_sound e
 rw[exT_eq]at*
 have hc0:exC e=[T.n e.kind,T.n e.op,T.n e.t,T.n e.v,.s e.name,.sl 6 (e.args.map exT)]:=rfl
 rw[hc0]at hs hsz hdp⊢
 unfold checkX
 refine so Tryz.func83 ?_
 by_cases h1:400<wEx e\/32<exDepth e
 ·rw[if_pos h1]
  repeat' (first|refine wkb ?_|refine wk ?_|exact wkc|intro hc|refine wk2 ?_ ?_|refine wv hsz ?_|refine wv hdp ?_|fail)
  all_goals exact wkr
 ·rw[if_neg h1]
  repeat' (first|refine wkb ?_|refine wk ?_|exact wkc|intro hc|refine wk2 ?_ ?_|refine wv hsz ?_|refine wv hdp ?_|refine wv hs ?_|fail)
  refine TR.rangeEach e (fun _=>[.cells [.i 0]]) (errF oneX) rfl h rfl rfl rfl (fun _=>⟨rfl,rfl⟩) (fun pre x=>?_) (fun fn pre x post hw=>?_) (fun fn=>?_)
  ·unfold errF
   split <;> rename_i hq <;> split at hq <;> cases hq
   ·trivial
   ·exact⟨rfl,rfl⟩
  ·have ho:=oneX_sound x
   have hcx:exC x=[T.n x.kind,T.n x.op,T.n x.t,T.n x.v,.s x.name,.sl 6 (x.args.map exT)]:=rfl
   rw[hcx]at ho⊢
   repeat' (first|refine wu ?_|exact wkc|intro hc|refine wk2 ?_ ?_|fail)
   refine⟨rfl,?_⟩
   repeat' (first|refine wu ?_|exact wkc|intro hc|refine wk2 ?_ ?_|refine wv ho ?_|fail)
   ·refine⟨_,?_,rfl,rfl⟩
    rw[errF,if_neg hc]
    rfl
   ·refine⟨?_,rfl,rfl⟩
    rw[errF,if_pos (by simpa using hc)]
  ·rw[scan_err]
   by_cases h2:firstE oneX (flat e)=0
   ·rw[if_pos h2,h2]
    repeat' (first|refine wu ?_|exact wkc|intro hc|refine wk2 ?_ ?_|fail)
    exact wkr
   ·rw[if_neg h2]
    simp only[]
    repeat' (first|refine wu ?_|exact wkc|intro hc|refine wk2 ?_ ?_|fail)
    exact wkr
theorem oneI_eq(k o t v:Int)(nm:Str)(n:Int)(hn:0≤n):oneI k o t v nm n=if 64<n then 3 else if formI k o t v nm n=false then 5 else if namedI k=true/\ident nm=false then 6 else 0:=by
 unfold oneI
 by_cases h64:64<n
 ·rw[if_pos h64,if_pos h64]
 rw[if_neg h64,if_neg h64]
 have hk:k=1\/k=2\/k=3\/k=4\/k=5\/k=6\/k=7\/k=8\/k=9\/k=10\/k=11\/(k<1\/11<k):=by omega
 generalize ident nm=id
 generalize hw:(wordP nm).2=w
 have hv:v=0\/v=1\/(v≠0/\v≠1):=by omega
 rcases hk with rfl|rfl|rfl|rfl|rfl|rfl|rfl|rfl|rfl|rfl|rfl|hk
 case inr.inr.inr.inr.inr.inr.inr.inr.inr.inl=>rcases hv with rfl|rfl|hv <;> grind [ofF,formI,argsI,namedI,opdI,tagI,branI]
 case inr.inr.inr.inr.inr.inr.inr.inr.inr.inr.inr=>
  have e1:ofF k o t v n=⟨false,false,false,false,false⟩:=by unfold ofF;repeat' (first|rw[if_neg (by omega)]|fail)
  have e2:formI k o t v nm n=false:=by unfold formI;rw[if_pos (by omega)]
  rw[e1,e2]
  simp
 all_goals(clear hv;grind [ofF,formI,argsI,namedI,opdI,tagI,branI])
def insI(es:List En)(k t v n:Int):Int:=
 if k=1\/k=8\/k=9 then(if sizeOfT es t=0 then 10 else if k≠9/\hasT es t v=false then 14 else if k=9/\n≠sizeOfT es t then 9 else 0) else 0
def insX(es:List En)(x:Ex):Int:=insI es x.kind.1 x.t.1 x.v.1 x.args.length
def exprX(es:List En)(e:Ex):Int:=if checkX e=0 then firstE (insX es) (flat e) else checkX e
theorem size_nonneg(es:List En)(t:Int):0≤sizeOfT es t:=by
 unfold sizeOfT;repeat' split
 all_goals omega
theorem insX_sound(es:List En)(x:Ex):Pure Tryz.prog 84 [.t (ensT es),.t (.ag (exC x))] (.i (insX es x)):=by
 have hs:=size_sound es x.t
 have hh:=has_sound es x.t x.v
 have hnn:=size_nonneg es x.t.1
 have hcx:exC x=[T.n x.kind,T.n x.op,T.n x.t,T.n x.v,.s x.name,.sl 6 (x.args.map exT)]:=rfl
 have hmx:(x.args.map exT).length=x.args.length:=List.length_map _
 rw[hcx]
 unfold insX insI
 generalize sizeOfT es x.t.1=sz at*
 generalize hasT es x.t.1 x.v.1=hb at*
 refine so Tryz.func84 ?_
 repeat' (first|refine wu ?_|exact wkc|intro hc|refine wk2 ?_ ?_|refine wv hs ?_|refine wb hh ?_ ?_|fail)
 all_goals
  clear hs hh hcx
  refine RetK.pure rfl (Le.of_eq ?_) rfl
  refine congrArg (fun z=>SV.t (T.v (Value.int IntKind.i64 z))) ?_
  grind
theorem exprX_sound(es:List En)(e:Ex)(h:wEx e≤1000000000):Pure Tryz.prog 37 [.t (ensT es),.t (exT e)] (.i (exprX es e)):=by
 have hck:=checkX_sound e h
 have hs:=Each_sound e
 rw[exT_eq]at*
 have hc0:exC e=[T.n e.kind,T.n e.op,T.n e.t,T.n e.v,.s e.name,.sl 6 (e.args.map exT)]:=rfl
 rw[hc0]at hs hck⊢
 unfold exprX
 refine so Tryz.func37 ?_
 by_cases h1:checkX e=0
 ·rw[if_pos h1]
  repeat' (first|refine wkb ?_|refine wk ?_|exact wkc|intro hc|refine wk2 ?_ ?_|refine wv hck ?_|refine wv hs ?_|fail)
  refine TR.rangeEach e (fun _=>[.cells [.i 0]]) (errF (insX es)) rfl h rfl rfl rfl (fun _=>⟨rfl,rfl⟩) (fun pre x=>?_) (fun fn pre x post hw=>?_) (fun fn=>?_)
  ·unfold errF
   split <;> rename_i hq <;> split at hq <;> cases hq
   ·trivial
   ·exact⟨rfl,rfl⟩
  ·have ho:=insX_sound es x
   have hcx:exC x=[T.n x.kind,T.n x.op,T.n x.t,T.n x.v,.s x.name,.sl 6 (x.args.map exT)]:=rfl
   rw[hcx]at ho⊢
   repeat' (first|refine wu ?_|exact wkc|intro hc|refine wk2 ?_ ?_|fail)
   refine⟨rfl,?_⟩
   repeat' (first|refine wu ?_|exact wkc|intro hc|refine wk2 ?_ ?_|refine wv ho ?_|fail)
   ·refine⟨_,?_,rfl,rfl⟩
    rw[errF,if_neg hc]
    rfl
   ·refine⟨?_,rfl,rfl⟩
    rw[errF,if_pos (by simpa using hc)]
  ·rw[scan_err]
   by_cases h2:firstE (insX es) (flat e)=0
   ·rw[if_pos h2,h2]
    repeat' (first|refine wu ?_|exact wkc|intro hc|refine wk2 ?_ ?_|fail)
    exact wkr
   ·rw[if_neg h2]
    simp only[]
    repeat' (first|refine wu ?_|exact wkc|intro hc|refine wk2 ?_ ?_|fail)
    exact wkr
 ·rw[if_neg h1]
  repeat' (first|refine wkb ?_|refine wk ?_|exact wkc|intro hc|refine wk2 ?_ ?_|refine wv hck ?_|refine wv hs ?_|fail)
  exact wkr
end Go.Proofs.YtddaclniamlmbaaGreatDoor
