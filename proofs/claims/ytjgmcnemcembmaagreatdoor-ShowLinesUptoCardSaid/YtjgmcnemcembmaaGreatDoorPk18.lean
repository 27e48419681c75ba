import Derived.Test.YtjgmcnemcembmaaGreatDoorPk14
import Derived.Test.YtjgmcnemcembmaaGreatDoorPk17
set_option linter.unusedSimpArgs false
set_option linter.unusedVariables false
namespace Go.Proofs.YtjgmcnemcembmaaGreatDoor
open Go Go.TL
attribute [local irreducible] TR TO Then InBlock RetK Sound LoopK Kf GG ThenL
def letter(c:Int):Bool:=(decide (97≤c) && decide (c≤122)) || (decide (65≤c) && decide (c≤90))
def digit(c:Int):Bool:=decide (48≤c) && decide (c≤57)
def inner(c:Int):Bool:=letter c || digit c || c == 95
abbrev u8 (c:Int):SV:=.t (.v (.int .u8 c))
theorem letter_sound(c:Int):Pure Tryz.prog 139 [u8 c] (.b (letter c)):=by
 refine so Tryz.func139 ?_
 repeat' (first|refine wk ?_|exact wkc|intro hc|refine wk2 ?_ ?_|fail)
 all_goals try(refine RetK.pure rfl ?_ rfl;exact Le.of_eq (by simp_all [pack,letter] <;> omega))
theorem letterR_sound(c:Int):Pure Tryz.prog 124 [u8 c] (.b (letter c)):=by
 refine so Tryz.func124 ?_
 repeat' (first|refine wk ?_|exact wkc|intro hc|refine wk2 ?_ ?_|fail)
 all_goals try(refine RetK.pure rfl ?_ rfl;exact Le.of_eq (by simp_all [pack,letter] <;> omega))
theorem digit_sound(c:Int):Pure Tryz.prog 157 [u8 c] (.b (digit c)):=by
 refine so Tryz.func157 ?_
 repeat' (first|refine wk ?_|exact wkc|intro hc|refine wk2 ?_ ?_|fail)
 all_goals try(refine RetK.pure rfl ?_ rfl;exact Le.of_eq (by simp_all [pack,digit] <;> omega))
theorem digitR_sound(c:Int):Pure Tryz.prog 143 [u8 c] (.b (digit c)):=by
 refine so Tryz.func143 ?_
 repeat' (first|refine wk ?_|exact wkc|intro hc|refine wk2 ?_ ?_|fail)
 all_goals try(refine RetK.pure rfl ?_ rfl;exact Le.of_eq (by simp_all [pack,digit] <;> omega))
theorem inner_sound(c:Int):Pure Tryz.prog 141 [u8 c] (.b (inner c)):=by
 refine so Tryz.func141 ?_
 repeat' (first|refine wk ?_|exact wkc|intro hc|refine wk2 ?_ ?_|refine wb (letter_sound _) ?_ ?_|refine wb (digit_sound _) ?_ ?_|fail)
 all_goals try(refine RetK.pure rfl ?_ rfl;exact Le.of_eq (by simp_all [pack,inner] <;> omega))
theorem innerR_sound(c:Int):Pure Tryz.prog 125 [u8 c] (.b (inner c)):=by
 refine so Tryz.func125 ?_
 repeat' (first|refine wk ?_|exact wkc|intro hc|refine wk2 ?_ ?_|refine wb (letterR_sound _) ?_ ?_|refine wb (digitR_sound _) ?_ ?_|fail)
 all_goals try(refine RetK.pure rfl ?_ rfl;exact Le.of_eq (by simp_all [pack,inner] <;> omega))
def kws:List Str:=[
 [97,115,115,117,109,101],[97,110,100],[97,117,116,111,109,97,116,111,110],[98,111,111,108],[99,111,110,116,105,110,117,101],[100,111],[100,111,110,101],[101,108,115,101],[101,110,100],[101,110,115,117,114,101],[101,118,101,114,121],[102,97,108,115,101],[102,98,121],[105,102],[105,110,116],[108,101,116],[109,101,114,103,101],[109,111,100],[110,111,100,101],[110,111,116],[111,114],[112,114,101],[114,101,116,117,114,110,115],[115,116,97,116,101],[116,101,108],[116,104,101,110],[116,114,117,101],[116,121,112,101],[117,110,108,101,115,115],[117,110,116,105,108],[118,97,114],[119,104,101,110],[120,111,114]]
def keyword(s:Str):Bool:=kws.any fun w=>s == w
set_option maxHeartbeats 4000000 in
theorem keyword_sound (s:Str):Pure Tryz.prog 140 [.s s] (.b (keyword s)):=by
 refine so Tryz.func140 ?_
 repeat' (first|refine wk ?_|exact wkc|intro hc|refine wk2 ?_ ?_|fail)
 all_goals refine RetK.pure rfl ?_ rfl
 all_goals exact Le.of_eq (by simp[keyword,kws,pack, *])
def innerB(c:UInt8):Bool:=inner c.toNat
def letterB(c:UInt8):Bool:=letter c.toNat
def ident(s:Str):Bool:=
 match s with
 | []=>false
 | c::r=>decide (r.length+1≤40) && letterB c && !keyword (c::r) && (c::r).all innerB
theorem ident_sound(s:Str):Pure Tryz.prog 116 [.s s] (.b (ident s)):=by
 refine so Tryz.func116 ?_
 cases s with
 | nil=>
   repeat' (first|refine wk ?_|exact wkc|intro hc|refine wk2 ?_ ?_|refine wb (letter_sound _) ?_ ?_|refine wb (keyword_sound _) ?_ ?_|fail)
   all_goals try(refine RetK.pure rfl ?_ rfl;exact Le.of_eq (by simp_all [pack,ident] <;> omega))
 | cons c r=>
   repeat' (first|refine wk ?_|exact wkc|intro hc|refine wk2 ?_ ?_|refine wb (letter_sound _) ?_ ?_|refine wb (keyword_sound _) ?_ ?_|fail)
   all_goals try(refine RetK.pure rfl ?_ rfl;exact Le.of_eq (by simp_all [pack,ident,letterB] <;> omega))
   refine TR.loopN (c::r).length (fun k=>((c::r).take k).all innerB=true) (fun k=>[(0,.s (c::r)),(22,.i (c::r).length),(23,.i k)]) (fun _=>[]) rfl (fun k hlt ha=>?_) (fun ha=>?_)
   ·have hx:=List.getElem?_eq_getElem hlt
    repeat' (first|refine wk ?_|exact wkc|intro hc|refine wk2 ?_ ?_|refine wb (inner_sound _) ?_ ?_|fail)
    ·refine LoopK.nextN hlt ?_
     rw[List.take_succ_eq_append_getElem hlt,List.all_append,ha]
     simpa [innerB]using hc
    ·refine RetK.pure rfl (Le.of_eq ?_) rfl
     have:(c::r).all innerB=false:=by
      rw[List.all_eq_false]
      exact⟨_,List.getElem_mem hlt,by simpa [innerB]using hc⟩
     simp only[pack,ident,this]
     simp
   ·repeat' (first|refine wk ?_|exact wkc|intro hc|refine wk2 ?_ ?_|fail)
    rw[List.take_length]at ha
    refine RetK.pure rfl (Le.of_eq ?_) rfl
    simp_all [pack,ident,letterB]
    omega
theorem keywords_sound:Pure Tryz.prog 144 [] (.t (.sl 1 (kws.map T.s))):=by
 refine so Tryz.func144 ?_
 repeat' (first|refine wk ?_|exact wkc|intro hc|refine wk2 ?_ ?_|fail)
 exact RetK.pure rfl (Le.refl _) rfl
theorem keyword_any(s:Str):(kws.any fun x=>x == s)=keyword s:=by
 unfold keyword
 congr 1
 funext x
 exact Bool.eq_iff_iff.2 (by simp only[beq_iff_eq];exact eq_comm)
theorem keywordR_sound(s:Str):Pure Tryz.prog 126 [.s s] (.b (keyword s)):=by
 rw[<-keyword_any]
 refine so Tryz.func126 ?_
 have hkl:kws.length=33:=rfl
 repeat' (first|refine wk ?_|exact wkc|intro hc|refine wk2 ?_ ?_|refine wv keywords_sound ?_|fail)
 generalize hK:kws=ks
 rw[hK]at hkl
 have hml:(ks.map T.s).length=ks.length:=List.length_map _
 refine TR.loopN ks.length (fun k=>(ks.any fun x=>x == s)=((ks.drop k).any fun x=>x == s)) (fun k=>[(0,.s s),(3,.t (.sl 1 (ks.map T.s))),(4,.i k),(2,.b false)]) (fun _=>[]) rfl (fun k hlt ha=>?_) (fun ha=>?_)
 ·have hx:(ks.map T.s)[k]?=some (T.s ks[k]):=by rw[List.getElem?_map,List.getElem?_eq_getElem hlt];rfl
  rw[List.drop_eq_getElem_cons hlt,List.any_cons]at ha
  generalize ks[k]=x at hx ha
  repeat' (first|refine wk ?_|exact wkc|intro hc|refine wk2 ?_ ?_|fail)
  ·refine RetK.pure rfl (Le.of_eq ?_) rfl
   rw[ha,hc];simp[pack]
  ·rw[show(x == s)=false from by simpa using hc,Bool.false_or]at ha
   exact LoopK.nextN hlt ha
 ·rw[List.drop_eq_nil_of_le (by omega)]at ha
  repeat' (first|refine wk ?_|exact wkc|intro hc|refine wk2 ?_ ?_|fail)
  refine RetK.pure rfl (Le.of_eq ?_) rfl
  rw[ha];rfl
theorem identR_sound(s:Str):Pure Tryz.prog 95 [.s s] (.b (ident s)):=by
 refine so Tryz.func95 ?_
 cases s with
 | nil=>
   repeat' (first|refine wk ?_|exact wkc|intro hc|refine wk2 ?_ ?_|refine wb (letterR_sound _) ?_ ?_|fail)
   all_goals try(refine RetK.pure rfl ?_ rfl;exact Le.of_eq (by simp_all [pack,ident] <;> omega))
 | cons c r=>
   repeat' (first|refine wk ?_|exact wkc|intro hc|refine wk2 ?_ ?_|refine wb (letterR_sound _) ?_ ?_|fail)
   all_goals try(refine RetK.pure rfl ?_ rfl;exact Le.of_eq (by simp_all [pack,ident,letterB] <;> omega))
   refine TR.loopN (c::r).length (fun k=>((c::r).take k).all innerB=true) (fun k=>[(0,.s (c::r)),(3,.i k),(2,.b false)]) (fun _=>[]) rfl (fun k hlt ha=>?_) (fun ha=>?_)
   ·have hx:=List.getElem?_eq_getElem hlt
    repeat' (first|refine wk ?_|exact wkc|intro hc|refine wk2 ?_ ?_|refine wb (innerR_sound _) ?_ ?_|fail)
    ·refine LoopK.nextN hlt ?_
     rw[List.take_succ_eq_append_getElem hlt,List.all_append,ha]
     simpa [innerB]using hc
    ·refine RetK.pure rfl (Le.of_eq ?_) rfl
     have:(c::r).all innerB=false:=by
      rw[List.all_eq_false]
      exact⟨_,List.getElem_mem hlt,by simpa [innerB]using hc⟩
     simp only[pack,ident,this]
     simp
   ·repeat' (first|refine wk ?_|exact wkc|intro hc|refine wk2 ?_ ?_|refine wb (keywordR_sound _) ?_ ?_|fail)
    all_goals
     rw[List.take_length]at ha
     refine RetK.pure rfl (Le.of_eq ?_) rfl
     have h40:r.length+1≤40:=by simp at *;omega
     have hl:letterB c=true:=by simpa [letterB]using ‹letter _=true›
     simp[pack,ident,ha,hc,hl,h40]
def tagI(t v:Int):Bool:=(decide (t=1) && (decide (v=0) || decide (v=1))) || (decide (3≤t) && decide (0≤v) && decide (v<16))
def branI(t n:Int):Bool:=(decide (t=1) && decide (n=2)) || (decide (3≤t) && decide (1≤n) && decide (n≤16))
def opdI(o:Int):Int:=if o=1\/o=2 then 1 else 2
theorem tag_sound(t v:Int):Pure Tryz.prog 146 [.i t,.i v] (.b (tagI t v)):=by
 refine so Tryz.func146 ?_
 repeat' (first|refine wk ?_|exact wkc|intro hc|refine wk2 ?_ ?_|fail)
 all_goals try(refine RetK.pure rfl ?_ rfl;exact Le.of_eq (by simp_all [pack,tagI] <;> omega))
theorem branches_sound(t n:Int):Pure Tryz.prog 148 [.i t,.i n] (.b (branI t n)):=by
 refine so Tryz.func148 ?_
 repeat' (first|refine wk ?_|exact wkc|intro hc|refine wk2 ?_ ?_|fail)
 all_goals try(refine RetK.pure rfl ?_ rfl;exact Le.of_eq (by simp_all [pack,branI] <;> omega))
theorem opds_sound(o:Int):Pure Tryz.prog 147 [.i o] (.i (opdI o)):=by
 refine so Tryz.func147 ?_
 repeat' (first|refine wk ?_|exact wkc|intro hc|refine wk2 ?_ ?_|fail)
 all_goals try(refine RetK.pure rfl ?_ rfl;exact Le.of_eq (by simp_all [pack,opdI] <;> omega))
structure Form where
 args:Bool
 op:Bool
 typed:Bool
 name:Bool
 word:Bool
abbrev formT (f:Form):T:=.ag [.b f.args,.b f.op,.b f.typed,.b f.name,.b f.word]
def ofF(k o t v n:Int):Form:=
 if k=1 then⟨decide (n=0),false,(decide (t=2) && decide (-32768≤v) && decide (v≤32767)) || (!decide (t=2) && tagI t v),false,false⟩
 else if k=2 then⟨decide (n=0),false,decide (t=0) && decide (v=0),true,false⟩
 else if k=3 then⟨decide (n=opdI o),true,decide (t=0) && decide (v=0),false,false⟩
 else if k=4 then⟨decide (n=3),false,decide (t=0) && decide (v=0),false,false⟩
 else if k=5 then⟨decide (n=1),false,decide (t=0) && decide (v=0),false,false⟩
 else if k=6\/k=7 then⟨decide (n=2),false,decide (t=0) && decide (v=0),false,false⟩
 else if k=8 then⟨decide (n=1),false,!decide (t=2) && tagI t v,true,false⟩
 else if k=9 then⟨!decide (t=2) && branI t n,false,decide (v=0),true,false⟩
 else if k=10 then⟨decide (v≤n),false,decide (t=0) && (decide (v=0) || decide (v=1)),true,false⟩
 else if k=11 then⟨decide (n=0),false,decide (t=0) && decide (v=0),false,true⟩
 else⟨false,false,false,false,false⟩
set_option maxHeartbeats 2000000 in
theorem of_sound (k o t v:Int) (nm:Str) (l:List T):Pure Tryz.prog 129 [.t (.ag [.i k,.i o,.i t,.i v,.s nm,.sl 6 l])] (.t (formT (ofF k o t v l.length))):=by
 have ht:=tag_sound t v
 have hb:=branches_sound t l.length
 have ho:=opds_sound o
 have hk:k=1\/k=2\/k=3\/k=4\/k=5\/k=6\/k=7\/k=8\/k=9\/k=10\/k=11\/(k<1\/11<k):=by omega
 rcases hk with rfl|rfl|rfl|rfl|rfl|rfl|rfl|rfl|rfl|rfl|rfl|hk
 all_goals
  first|rw[show ofF k o t v l.length=⟨false,false,false,false,false⟩ from by unfold ofF;repeat' (first|rw[if_neg (by omega)]|fail)]|simp only[ofF,Int.reduceEq,if_false,if_true,or_self,or_true,true_or,or_false,false_or]
  refine so Tryz.func129 ?_
  repeat' (first|refine wu ?_|exact wkc|intro hc|refine wk2 ?_ ?_|refine wv ht ?_|refine wv hb ?_|refine wv ho ?_|fail)
  all_goals
   refine RetK.pure rfl (Le.tree rfl (TLe.of_eq ?_)) rfl
   clear ht hb ho
   simp only[formT,T.ag.injEq,List.cons.injEq,T.v.injEq,Value.bool.injEq,and_true,true_eq_decide_iff,false_eq_decide_iff,eq_comm (a:=true),eq_comm (a:=false),Bool.or_eq_true,Bool.and_eq_true,Bool.or_eq_false_iff,Bool.and_eq_false_iff,Bool.not_eq_true',Bool.not_eq_false',decide_eq_true_eq,decide_eq_false_iff_not,Bool.false_eq_true,true_and,reduceCtorEq] <;>
    first|omega|(simp_all;done)|(simp_all;omega)
def oneI(k o t v:Int)(nm:Str)(n:Int):Int:=
 if 64<n then 3
 else if(ofF k o t v n).args=false\/(ofF k o t v n).typed=false\/((ofF k o t v n).op≠decide (o≠0))\/((ofF k o t v n).op=true/\(o<1\/16<o)) then 5
 else if(ofF k o t v n).name=true then(if ident nm then 0 else 6)
 else if(ofF k o t v n).word=true/\(wordP nm).2=0 then 0
 else if nm≠ []\/(ofF k o t v n).word=true then 5 else 0
set_option maxHeartbeats 1000000 in
theorem one_sound (k o t v:Int) (nm:Str) (l:List T):Pure Tryz.prog 102 [.t (.ag [.i k,.i o,.i t,.i v,.s nm,.sl 6 l])] (.i (oneI k o t v nm l.length)):=by
 have hf:=of_sound k o t v nm l
 have hid:=ident_sound nm
 have hw:=parseW_sound nm
 unfold oneI
 generalize ofF k o t v l.length=f at*
 generalize ident nm=id at*
 generalize wordP nm=w at*
 obtain⟨fa,fo,ft,fn,fw⟩:=f
 simp only[formT]at hf
 obtain⟨w1,w2⟩:=w
 by_cases h64:64<(l.length:Int)
 ·rw[if_pos h64]
  refine so Tryz.func102 ?_
  repeat' (first|refine wu ?_|exact wkc|intro hc|refine wk2 ?_ ?_|fail)
  exact wkr
 ·rw[if_neg h64]
  cases fa with
  | false=>
    rw[if_pos (.inl rfl)]
    refine so Tryz.func102 ?_
    repeat' (first|refine wu ?_|exact wkc|intro hc|refine wk2 ?_ ?_|refine wv hf ?_|fail)
    exact wkr
  | true=>
    cases ft with
    | false=>
      rw[if_pos (.inr (.inl rfl))]
      refine so Tryz.func102 ?_
      repeat' (first|refine wu ?_|exact wkc|intro hc|refine wk2 ?_ ?_|refine wv hf ?_|fail)
      exact wkr
    | true=>
      simp only[Bool.true_eq_false,false_or]
      cases fo <;> cases fn <;> cases fw
      all_goals
       refine so Tryz.func102 ?_
       repeat' (first|refine wu ?_|exact wkc|intro hc|refine wk2 ?_ ?_|refine wv hf ?_|refine wb hid ?_ ?_|refine wv hw ?_|fail)
       all_goals
        refine RetK.pure rfl (Le.of_eq ?_) rfl
        refine congrArg (fun z=>SV.t (T.v (Value.int IntKind.i64 z))) ?_
        clear hf hid hw
        first|(simp_all;done)|(simp_all;omega)
theorem tagged_sound(t v:Int):Pure Tryz.prog 136 [.i t,.i v] (.b (tagI t v)):=by
 refine so Tryz.func136 ?_
 repeat' (first|refine wk ?_|exact wkc|intro hc|refine wk2 ?_ ?_|fail)
 all_goals
  refine RetK.pure rfl (Le.of_eq ?_) rfl
  simp only[pack,tagI,SV.t.injEq,T.v.injEq,Value.bool.injEq,true_eq_decide_iff,false_eq_decide_iff,eq_comm (a:=true),eq_comm (a:=false),Bool.or_eq_true,Bool.and_eq_true,Bool.or_eq_false_iff,Bool.and_eq_false_iff,decide_eq_true_eq,decide_eq_false_iff_not]
  omega
def namedI(k:Int):Bool:=decide (k=2) || decide (k=8) || decide (k=9) || decide (k=10)
theorem named_sound(k:Int):Pure Tryz.prog 111 [.i k] (.b (namedI k)):=by
 refine so Tryz.func111 ?_
 repeat' (first|refine wk ?_|exact wkc|intro hc|refine wk2 ?_ ?_|fail)
 all_goals try(refine RetK.pure rfl ?_ rfl;exact Le.of_eq (by simp_all [pack,namedI] <;> omega))
def argsI(k o t v n:Int):Bool:=
 if k=1\/k=2\/k=11 then decide (n=0)
 else if k=3 then(if o=1\/o=2 then decide (n=1) else decide (n=2))
 else if k=4 then decide (n=3)
 else if k=5\/k=8 then decide (n=1)
 else if k=6\/k=7 then decide (n=2)
 else if k=9 then(if t=1 then decide (n=2) else decide (1≤n) && decide (n≤16))
 else decide (1≤n) || decide (v=0)
set_option maxHeartbeats 1000000 in
theorem argsR_sound (k o t v:Int) (nm:Str) (l:List T):Pure Tryz.prog 135 [.t (.ag [.i k,.i o,.i t,.i v,.s nm,.sl 6 l])] (.b (argsI k o t v l.length)):=by
 refine so Tryz.func135 ?_
 repeat' (first|refine wu ?_|exact wkc|intro hc|refine wk2 ?_ ?_|fail)
 all_goals
  refine RetK.pure rfl (Le.of_eq ?_) rfl
  first|(simp_all [pack,argsI];done)|(simp_all [pack,argsI];omega)
def formI(k o t v:Int)(nm:Str)(n:Int):Bool:=
 if k<1\/11<k\/argsI k o t v n=false then false
 else if(decide (k=3) != decide (o≠0))=true\/(o≠0/\(o<1\/16<o)) then false
 else if namedI k=false/\k≠11/\nm≠ [] then false
 else if k=1 then(if t=2 then decide (-32768≤v) && decide (v≤32767) else tagI t v)
 else if k=8 then tagI t v
 else if k=9 then(decide (t=1) || decide (2<t)) && decide (v=0)
 else if k=10 then decide (t=0) && (decide (v=0) || decide (v=1))
 else if k=11 then decide (t=0) && decide (v=0) && decide ((wordP nm).2=0)
 else decide (t=0) && decide (v=0)
set_option maxHeartbeats 4000000 in
theorem formR_sound (k o t v:Int) (nm:Str) (l:List T):Pure Tryz.prog 110 [.t (.ag [.i k,.i o,.i t,.i v,.s nm,.sl 6 l])] (.b (formI k o t v nm l.length)):=by
 have ha:=argsR_sound k o t v nm l
 have hn:=named_sound k
 have htg:=tagged_sound t v
 have hw:=parseR2_sound nm
 refine so Tryz.func110 ?_
 repeat' (first|refine wu ?_|exact wkc|intro hc|refine wk2 ?_ ?_|refine wb ha ?_ ?_|refine wb hn ?_ ?_|refine wv htg ?_|refine wv hw ?_|fail)
 all_goals
  refine RetK.pure rfl (Le.of_eq ?_) rfl
  clear ha hn htg hw
  refine congrArg (fun b=>SV.t (T.v (Value.bool b))) ?_
  first
  | (simp_all [formI];done)
  | (simp_all [formI];omega)
  | (simp_all [formI,namedI];omega)
  | (unfold formI;simp_all;omega)
def oneX(x:Ex):Int:=oneI x.kind.1 x.op.1 x.t.1 x.v.1 x.name x.args.length
def firstE{α:Type}(g:α->Int):List α->Int
 | []=>0
 | x::l=>if g x=0 then firstE g l else g x
theorem firstE_append{α:Type}(g:α->Int):∀(a b:List α),firstE g (a++b)=if firstE g a=0 then firstE g b else firstE g a
 | [],b=>by simp[firstE]
 | x::a,b=>by
   simp only[List.cons_append,firstE]
   by_cases h:g x=0
   ·simp only[h,if_true];exact firstE_append g a b
   ·simp[h]
def checkX(e:Ex):Int:=if 400<wEx e\/32<exDepth e then 3 else firstE oneX (flat e)
theorem oneX_sound(x:Ex):Pure Tryz.prog 102 [.t (.ag (exC x))] (.i (oneX x)):=by
 have:=one_sound x.kind.1 x.op.1 x.t.1 x.v.1 x.name (x.args.map exT)
 rw[List.length_map]at this
 exact this
def errF(g:Ex->Int)(_:List Ex)(x:Ex):Out:=if g x=0 then .go else .jump .ret [.cells [.i (g x)]]
theorem scan_err(g:Ex->Int):∀(l pre:List Ex),scanO (errF g) pre l=if firstE g l=0 then .go else .jump .ret [.cells [.i (firstE g l)]]
 | [],pre=>by simp[scanO,firstE]
 | x::l,pre=>by
   simp only[scanO,errF,firstE]
   by_cases h:g x=0
   ·simp only[h,if_true];exact scan_err g l _
   ·simp[h]
theorem checkX_sound(e:Ex)(h:wEx e≤1000000000):Pure Tryz.prog 64 [.t (exT e)] (.i (checkX e)):=by
 have hsz:=sizeE_sound e h
 have hdp:=depth_sound e h
 have hs:=Each_sound e
 rw[exT_eq]at*
 have hc0:exC e=[T.n e.kind,T.n e.op,T.n e.t,T.n e.v,.s e.name,.sl 6 (e.args.map exT)]:=rfl
 rw[hc0]at hs hsz hdp⊢
 unfold checkX
 refine so Tryz.func64 ?_
 by_cases h1:400<wEx e\/32<exDepth e
 ·rw[if_pos h1]
  repeat' (first|refine wkb ?_|refine wk ?_|exact wkc|intro hc|refine wk2 ?_ ?_|refine wv hsz ?_|refine wv hdp ?_|fail)
  all_goals exact wkr
 ·rw[if_neg h1]
  repeat' (first|refine wkb ?_|refine wk ?_|exact wkc|intro hc|refine wk2 ?_ ?_|refine wv hsz ?_|refine wv hdp ?_|refine wv hs ?_|fail)
  refine TR.rangeEach e (fun _=>[.cells [.i 0]]) (errF oneX) rfl h rfl rfl rfl (fun _=>⟨rfl,rfl⟩) (fun pre x=>?_) (fun fn pre x post hw=>?_) (fun fn=>?_)
  ·unfold errF
   split <;> rename_i hq <;> split at hq <;> cases hq
   ·trivial
   ·exact⟨rfl,rfl⟩
  ·have ho:=oneX_sound x
   have hcx:exC x=[T.n x.kind,T.n x.op,T.n x.t,T.n x.v,.s x.name,.sl 6 (x.args.map exT)]:=rfl
   rw[hcx]at ho⊢
   repeat' (first|refine wu ?_|exact wkc|intro hc|refine wk2 ?_ ?_|fail)
   refine⟨rfl,?_⟩
   repeat' (first|refine wu ?_|exact wkc|intro hc|refine wk2 ?_ ?_|refine wv ho ?_|fail)
   ·refine⟨_,?_,rfl,rfl⟩
    rw[errF,if_neg hc]
    rfl
   ·refine⟨?_,rfl,rfl⟩
    rw[errF,if_pos (by simpa using hc)]
  ·rw[scan_err]
   by_cases h2:firstE oneX (flat e)=0
   ·rw[if_pos h2,h2]
    repeat' (first|refine wu ?_|exact wkc|intro hc|refine wk2 ?_ ?_|fail)
    exact wkr
   ·rw[if_neg h2]
    simp only[]
    repeat' (first|refine wu ?_|exact wkc|intro hc|refine wk2 ?_ ?_|fail)
    exact wkr
theorem oneI_eq(k o t v:Int)(nm:Str)(n:Int)(hn:0≤n):oneI k o t v nm n=if 64<n then 3 else if formI k o t v nm n=false then 5 else if namedI k=true/\ident nm=false then 6 else 0:=by
 unfold oneI
 by_cases h64:64<n
 ·rw[if_pos h64,if_pos h64]
 rw[if_neg h64,if_neg h64]
 have hk:k=1\/k=2\/k=3\/k=4\/k=5\/k=6\/k=7\/k=8\/k=9\/k=10\/k=11\/(k<1\/11<k):=by omega
 generalize ident nm=id
 generalize hw:(wordP nm).2=w
 have hv:v=0\/v=1\/(v≠0/\v≠1):=by omega
 rcases hk with rfl|rfl|rfl|rfl|rfl|rfl|rfl|rfl|rfl|rfl|rfl|hk
 case inr.inr.inr.inr.inr.inr.inr.inr.inr.inl=>rcases hv with rfl|rfl|hv <;> grind [ofF,formI,argsI,namedI,opdI,tagI,branI]
 case inr.inr.inr.inr.inr.inr.inr.inr.inr.inr.inr=>
  have e1:ofF k o t v n=⟨false,false,false,false,false⟩:=by unfold ofF;repeat' (first|rw[if_neg (by omega)]|fail)
  have e2:formI k o t v nm n=false:=by unfold formI;rw[if_pos (by omega)]
  rw[e1,e2]
  simp
 all_goals(clear hv;grind [ofF,formI,argsI,namedI,opdI,tagI,branI])
theorem form_sound(x:Ex):Pure Tryz.prog 110 [.t (.ag (exC x))] (.b (formI x.kind.1 x.op.1 x.t.1 x.v.1 x.name x.args.length)):=by
 have:=formR_sound x.kind.1 x.op.1 x.t.1 x.v.1 x.name (x.args.map exT)
 rw[List.length_map]at this
 exact this
theorem checkR6_sound(e:Ex)(h:wEx e≤1000000000):Pure Tryz.prog 73 [.t (exT e)] (.i (checkX e)):=by
 have hsz:=sizeR6_sound e h
 have hdp:=depthR_sound e h
 have hls:=List_sound e h
 have hll:=flat_len e
 rw[exT_eq]at*
 have hc0:exC e=[T.n e.kind,T.n e.op,T.n e.t,T.n e.v,.s e.name,.sl 6 (e.args.map exT)]:=rfl
 rw[hc0]at hls hsz hdp⊢
 unfold checkX
 refine so Tryz.func73 ?_
 by_cases h1:400<wEx e\/32<exDepth e
 ·rw[if_pos h1]
  repeat' (first|refine wkb ?_|refine wk ?_|exact wkc|intro hc|refine wk2 ?_ ?_|refine wv hsz ?_|refine wv hdp ?_|fail)
  all_goals exact wkr
 ·rw[if_neg h1]
  repeat' (first|refine wkb ?_|refine wk ?_|exact wkc|intro hc|refine wk2 ?_ ?_|refine wv hsz ?_|refine wv hdp ?_|refine wv hls ?_|fail)
  generalize flat e=l at hll⊢
  have hml:(l.map exT).length=l.length:=List.length_map _
  refine TR.loopN l.length (fun k=>firstE oneX l=firstE oneX (l.drop k)) (fun k=>[(3,.t (.sl 6 (l.map exT))),(4,.i k)]) (fun _=>[]) rfl (fun k hlt ha=>?_) (fun ha=>?_)
  ·have hx:=at_exT hlt
   rw[List.drop_eq_getElem_cons hlt,firstE]at ha
   have ho:=form_sound l[k]
   have hn:=named_sound l[k].kind.1
   have hi:=identR_sound l[k].name
   have he:=oneI_eq l[k].kind.1 l[k].op.1 l[k].t.1 l[k].v.1 l[k].name l[k].args.length (by omega)
   rw[show oneX l[k]=_ from he]at ha
   generalize l[k]=x at*
   have hcx:exC x=[T.n x.kind,T.n x.op,T.n x.t,T.n x.v,.s x.name,.sl 6 (x.args.map exT)]:=rfl
   have hmx:(x.args.map exT).length=x.args.length:=List.length_map _
   rw[hcx]at ho hx
   rw[ha]
   repeat' (first|refine wu ?_|exact wkc|intro hc|refine wk2 ?_ ?_|refine wb ho ?_ ?_|refine wb hn ?_ ?_|refine wb hi ?_ ?_|fail)
   all_goals
    clear ho hn hi hx hsz hdp hls
    first
    | (refine LoopK.nextN hlt ?_;clear ha;grind)
    | (refine RetK.pure rfl (Le.of_eq ?_) rfl
       refine congrArg (fun z=>SV.t (T.v (Value.int IntKind.i64 z))) ?_
       grind)
  ·rw[ha,List.drop_of_length_le (Nat.le_refl _)]
   repeat' (first|refine wu ?_|exact wkc|intro hc|refine wk2 ?_ ?_|fail)
   exact wkr
end Go.Proofs.YtjgmcnemcembmaaGreatDoor
