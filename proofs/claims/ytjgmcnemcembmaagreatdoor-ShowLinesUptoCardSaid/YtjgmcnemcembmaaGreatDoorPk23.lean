import Derived.Test.YtjgmcnemcembmaaGreatDoorPk22
set_option linter.unusedSimpArgs false
set_option linter.unusedVariables false
namespace Go.Proofs.YtjgmcnemcembmaaGreatDoor
open Go Go.TL
attribute [local irreducible] TR TO Then InBlock RetK Sound LoopK Kf GG ThenL
def symL:List (Int×Str):=[(3,[97,110,100]),(4,[111,114]),(5,[120,111,114]),(6,[43]),(7,[45]),(8,[42]),(9,[47]),(10,[109,111,100]),(11,[61]),(12,[60,62]),(13,[60]),(14,[60,61]),(15,[62]),(16,[62,61])]
abbrev syL (l:List (Int×Str)):List (Value×T):=l.map fun e=>(.int .i64 e.1,.s e.2)
abbrev syB (l:List (Int×Str)):Blk:=.map 3 9 (syL l)
abbrev symB:Blk:=syB symL
def symS(o:Int):Str:=((symL.find? fun e=>decide (e.1=o)).map fun e=>e.2).getD [62,61]
theorem kIntS:Maps.Keyed Tryz.prog 3:=Maps.int_keyed Tryz.underlying3
theorem keyI(n:Int)(h:3≤n/\n≤16):∃l,keyOf Tryz.prog 3 (.int .i64 n)=some l:=⟨.int .i64 n,by
 have hw:(Lit.int IntKind.i64 n).wf=true:=by simp[Lit.wf,show IntKind.min .i64= -9223372036854775808 from rfl,show IntKind.max .i64=9223372036854775807 from rfl];omega
 simp[keyOf,Tryz.underlying3,mapKey,hw]⟩
theorem syKeys(l:List (Int×Str))(h:∀e∈l,3≤e.1/\e.1≤16):KeysOk Tryz.prog 3 (syL l):=by
 intro j e he
 rw[List.getElem?_map]at he
 cases hq:l[j]? with
 | none=>rw[hq]at he;cases he
 | some s=>rw[hq]at he;cases he;exact keyI _ (h s (List.mem_of_getElem? hq))
theorem sym_get{o:Int}(h:3≤o/\o≤16):MapGet (syL symL) (.int .i64 o) (some (.s (symS o))):=by
 refine⟨(o-3).toNat,?_,fun j t' hj=>?_⟩
 ·rcases(by omega:o=3\/o=4\/o=5\/o=6\/o=7\/o=8\/o=9\/o=10\/o=11\/o=12\/o=13\/o=14\/o=15\/o=16)with h|h|h|h|h|h|h|h|h|h|h|h|h|h <;> (subst h;rfl)
 ·match j with
  | 0|1|2|3|4|5|6|7|8|9|10|11|12|13=>simp[syL,symL]at hj;omega
  | j+14=>simp[syL,symL]at hj
section
variable {n:Nat}{env:Env}{K:TK}{all:Array Oper}{rest:List Oper}{d id:Nat}{ty:TypeId}{pos:String}{aft:Array Edge}{H:Heap}{x y w:Operand}{q:Bool}
theorem TO.symGet{o:Int}(hd:Nat.ble (d+1) n=true)(hx:env.val x=some (.mp id))(hH:H[id]?=some symB)(hy:env.val y=some (.i o))(h:3≤o/\o≤16)
  (k:TO q Tryz.prog n all rest ((d,.s (symS o))::env) H K):TO q Tryz.prog n all (⟨some d,.lookup 63 x y false,ty,pos,aft,none⟩::rest) env H K:=by
 refine TO.lookup tabOk hd rfl rfl rfl rfl rfl kIntS hx hH (syKeys _ (by decide)) hy (kx:=.int .i64 o) (fun m v h=>h.v_eq) (keyI o h) (sym_get h) ?_
 exact k
theorem TO.symPut{l:List (Int×Str)}{o:Int}{s:Str}{H':Heap}(hx:env.val x=some (.mp id))(hH:H[id]?=some (syB l))(hy:env.val y=some (.i o))(hw:env.val w=some (.s s))(hn:(l.all fun e=>!decide (e.1=o))=true)(hl:∀e∈l,3≤e.1/\e.1≤16)(ho:3≤o/\o≤16)
  (hH':setS H id (syB (l++[(o,s)]))=some H')(kk:TO false Tryz.prog n all rest env H' K):
  TO false Tryz.prog n all (⟨none,.insert 63 x y w,ty,pos,aft,none⟩::rest) env H K:=by
 refine TO.insertP ?_
 have hp:MapPut (syL l) (.int .i64 o) (.s s) (syL (l++[(o,s)])):=by
  refine .inr ⟨?_,by simp[syL]⟩
  intro j e he e2
  rw[List.getElem?_map]at he
  cases hq:l[j]? with
  | none=>rw[hq]at he;cases he
  | some u=>
    rw[hq]at he;cases he
    have h1:=List.all_eq_true.1 hn u (List.mem_of_getElem? hq)
    simp only[Bool.not_eq_true',decide_eq_false_iff_not]at h1
    exact h1 (by simpa using e2)
 refine TO.mapUpdate tabOk rfl rfl kIntS hx hH (syKeys l hl) hy (kx:=.int .i64 o) (fun m v h=>h.v_eq) (keyI o ho) hw rfl hp (setS_eq hH').symm kk
end
set_option maxHeartbeats 4000000 in
theorem newWriter_sound (es:List En):Sound Tryz.prog 23 [.t (ensT es)] [] (fun r H'=>r= .ret (.ag [.t (ensT es),.mp 1])/\H'=[.cells [.t (ensT es),.mp 1],symB]):=by
 refine so Tryz.func23 ?_
 repeat' (first|refine wkb ?_|(apply TO.makeMap 3 9;exact rfl)|(refine TO.symPut (id:=1) (l:=[]) rfl rfl rfl rfl (by decide) (by decide) (by decide) rfl ?_)|(refine TO.symPut (id:=1) (l:=[(3,[97,110,100])]) rfl rfl rfl rfl (by decide) (by decide) (by decide) rfl ?_)|(refine TO.symPut (id:=1) (l:=[(3,[97,110,100]),(4,[111,114])]) rfl rfl rfl rfl (by decide) (by decide) (by decide) rfl ?_)|(refine TO.symPut (id:=1) (l:=[(3,[97,110,100]),(4,[111,114]),(5,[120,111,114])]) rfl rfl rfl rfl (by decide) (by decide) (by decide) rfl ?_)|(refine TO.symPut (id:=1) (l:=[(3,[97,110,100]),(4,[111,114]),(5,[120,111,114]),(6,[43])]) rfl rfl rfl rfl (by decide) (by decide) (by decide) rfl ?_)|(refine TO.symPut (id:=1) (l:=[(3,[97,110,100]),(4,[111,114]),(5,[120,111,114]),(6,[43]),(7,[45])]) rfl rfl rfl rfl (by decide) (by decide) (by decide) rfl ?_)|(refine TO.symPut (id:=1) (l:=[(3,[97,110,100]),(4,[111,114]),(5,[120,111,114]),(6,[43]),(7,[45]),(8,[42])]) rfl rfl rfl rfl (by decide) (by decide) (by decide) rfl ?_)|(refine TO.symPut (id:=1) (l:=[(3,[97,110,100]),(4,[111,114]),(5,[120,111,114]),(6,[43]),(7,[45]),(8,[42]),(9,[47])]) rfl rfl rfl rfl (by decide) (by decide) (by decide) rfl ?_)|(refine TO.symPut (id:=1) (l:=[(3,[97,110,100]),(4,[111,114]),(5,[120,111,114]),(6,[43]),(7,[45]),(8,[42]),(9,[47]),(10,[109,111,100])]) rfl rfl rfl rfl (by decide) (by decide) (by decide) rfl ?_)|(refine TO.symPut (id:=1) (l:=[(3,[97,110,100]),(4,[111,114]),(5,[120,111,114]),(6,[43]),(7,[45]),(8,[42]),(9,[47]),(10,[109,111,100]),(11,[61])]) rfl rfl rfl rfl (by decide) (by decide) (by decide) rfl ?_)|(refine TO.symPut (id:=1) (l:=[(3,[97,110,100]),(4,[111,114]),(5,[120,111,114]),(6,[43]),(7,[45]),(8,[42]),(9,[47]),(10,[109,111,100]),(11,[61]),(12,[60,62])]) rfl rfl rfl rfl (by decide) (by decide) (by decide) rfl ?_)|(refine TO.symPut (id:=1) (l:=[(3,[97,110,100]),(4,[111,114]),(5,[120,111,114]),(6,[43]),(7,[45]),(8,[42]),(9,[47]),(10,[109,111,100]),(11,[61]),(12,[60,62]),(13,[60])]) rfl rfl rfl rfl (by decide) (by decide) (by decide) rfl ?_)|(refine TO.symPut (id:=1) (l:=[(3,[97,110,100]),(4,[111,114]),(5,[120,111,114]),(6,[43]),(7,[45]),(8,[42]),(9,[47]),(10,[109,111,100]),(11,[61]),(12,[60,62]),(13,[60]),(14,[60,61])]) rfl rfl rfl rfl (by decide) (by decide) (by decide) rfl ?_)|(refine TO.symPut (id:=1) (l:=[(3,[97,110,100]),(4,[111,114]),(5,[120,111,114]),(6,[43]),(7,[45]),(8,[42]),(9,[47]),(10,[109,111,100]),(11,[61]),(12,[60,62]),(13,[60]),(14,[60,61]),(15,[62])]) rfl rfl rfl rfl (by decide) (by decide) (by decide) rfl ?_)|refine wk ?_|fail)
 exact RetK.keep 2 rfl (Le.refl _) rfl rfl rfl rfl rfl ⟨rfl,rfl⟩
structure ShE (es:List En):Prop where
 len:es.length≤1000000000
 tags:∀u∈es,u.tags.length≤1000000000
 small:∀u∈es,∀t∈u.tags,t.length≤3000000
def valS(es:List En)(t v:Int):Str:=(textT es t v).1
theorem itoa_len(v:I64):(Go.Lib.itoa v.1).length≤30:=by
 obtain⟨v,h1,h2⟩:=v
 unfold Go.Lib.itoa
 have:=decDigits_len 20 v.natAbs (by omega)
 have:=decDigits_len 20 v.toNat (by omega)
 dsimp only
 split
 ·rw[List.length_cons];omega
 ·omega
theorem valS_len{es:List En}(h:ShE es)(t v:I64):(valS es t.1 v.1).length≤3000030:=by
 unfold valS textT
 split
 ·exact Nat.zero_le _
 split
 ·exact Nat.zero_le _
 split
 ·split
  ·exact Nat.le_of_ble_eq_true rfl
  ·exact Nat.le_of_ble_eq_true rfl
 split
 ·have:=itoa_len v
  dsimp only
  omega
 ·dsimp only
  rename_i h1 h2 h3 h4
  cases hx:(enumOf es t.1).1.tags[v.1.toNat]? with
  | none=>exact Nat.zero_le _
  | some g=>
    have hg:=List.mem_of_getElem? hx
    obtain⟨g1,g2,g3,g4⟩:=enumOf_in (by simpa using h1) h3 h4
    rw[g4]at hg
    have:=h.small _ (List.getElem_mem g3) g hg
    simp only[Option.getD_some]
    omega
abbrev wr (es:List En):SV:=.ag [.t (ensT es),.mp 0]
theorem valueW_sound{es:List En}(h:ShE es)(t v:I64):Sound Tryz.prog 67 [wr es,.n t,.n v] [symB] (fun r H'=>r= .ret (.s (valS es t.1 v.1))/\H'=[symB]):=by
 have ht:=textT_sound es t v h.len h.tags
 unfold valS
 generalize textT es t.1 v.1=z at*
 refine so Tryz.func67 ?_
 repeat' (first|refine wu ?_|exact wkc|intro hc|refine wk2 ?_ ?_|refine wv ht ?_|fail)
 exact RetK.keep 1 rfl (Le.refl _) rfl rfl rfl rfl rfl ⟨rfl,rfl⟩
def smpS(es:List En)(o:OnC):Str:=[119,104,101,110,32]++valS es o.t.1 o.tag.1++[40]++o.name++[41]
theorem smpS_len{es:List En}(h:ShE es)(o:OnC)(hn:o.name.length≤3000000):(smpS es o).length≤6000040:=by
 have:=valS_len h o.t o.tag
 simp only[smpS,List.length_append,List.length_cons,List.length_nil]
 omega
set_option maxHeartbeats 4000000 in
theorem sampling_sound {es:List En} (h:ShE es) (o:OnC) (hn:o.name.length≤3000000):Sound Tryz.prog 70 [wr es,.t (onT o)] [symB] (fun r H'=>r= .ret (.s (smpS es o))/\H'=[symB]):=by
 have ht:=valueW_sound h o.t o.tag
 have hl:=valS_len h o.t o.tag
 unfold smpS
 generalize valS es o.t.1 o.tag.1=z at*
 obtain⟨nm,t,v⟩:=o
 dsimp only at*
 refine so Tryz.func70 ?_
 refine wkt ?_
 (apply TO.box;exact rfl;exact rfl;exact rfl;exact rfl)
 refine wkt ?_
 refine rgS [wr es,.cp [.s nm,T.n t,T.n v] 1,.n t,.cp [.s nm,T.n t,T.n v] 2,.n v,.s z,.s ([119,104,101,110,32]++z),.s ([119,104,101,110,32]++z++[40]),.cp [.s nm,T.n t,T.n v] 0,.s nm,.s ([119,104,101,110,32]++z++[40]++nm),.s ([119,104,101,110,32]++z++[40]++nm++[41]),.s ([119,104,101,110,32]++z++[40]++nm++[41])] ?_ ?_
 ·repeat' (first|refine wkt ?_|refine wd ht ?_|(apply TO.cat;exact rfl;exact rfl;exact rfl;(simp only[List.length_append,List.length_cons,List.length_nil];omega))|exact trivial|exact⟨⟨rfl,rfl⟩,trivial⟩|refine And.intro (fun env=>?_) ?_|refine wk ?_|exact wkc|intro hc|refine wk2 ?_ ?_|fail)
  done
 ·repeat' (first|refine wu ?_|exact wkc|intro hc|refine wk2 ?_ ?_|fail)
  exact RetK.keep 1 rfl (Le.refl _) rfl rfl rfl rfl rfl ⟨rfl,rfl⟩
def primB(e:Ex):Bool:=decide (e.kind.1=2\/e.kind.1=11\/e.kind.1=10\/e.kind.1=1/\(e.t.1≠2\/0≤e.v.1))
def grS(f:Ex->Str)(e:Ex):Str:=if primB e=true then f e else[40]++f e++[41]
def operS(f:Ex->Str)(o:Int):List Ex->Str
 | [a]=>if o=1 then[110,111,116,32]++grS f a else if a.kind.1=1/\a.t.1=2 then[45,40]++f a++[41] else[45]++grS f a
 | [a,b]=>grS f a++[32]++symS o++[32]++grS f b
 | _=>[]
def brV(t:Int)(i:Nat):Int:=if t=1 then 1-(i:Int) else i
def mergeA(es:List En)(f:Ex->Str)(t:Int)(args:List Ex)(s:Str):Nat->Str
 | 0=>s
 | i+1=>mergeA es f t args s i++([32,40]++valS es t (brV t i)++[32,45,62,32]++((args[(brV t i).toNat]?).map f).getD []++[41])
def callA(f:Ex->Str)(v:Int)(nm:Str)(args:List Ex):Str:=
 if v=1 then nm++[40]++Go.Lib.join ((args.take (args.length-1)).map f) [44,32]++[41]++([32,101,118,101,114,121,32]++((args[args.length-1]?).map (grS f)).getD [])
 else nm++[40]++Go.Lib.join (args.map f) [44,32]++[41]
def shE(es:List En)(f:Ex->Str)(e:Ex):Str:=
 if e.kind.1=1 then valS es e.t.1 e.v.1
 else if e.kind.1=3 then operS f e.op.1 e.args
 else if e.kind.1=4 then(match e.args with|[a,b,c]=>[105,102,32]++f a++[32,116,104,101,110,32]++f b++[32,101,108,115,101,32]++f c|_=>[])
 else if e.kind.1=5 then(match e.args with|[a]=>[112,114,101,32]++grS f a|_=>[])
 else if e.kind.1=6 then(match e.args with|[a,b]=>grS f a++[32,45,62,32]++grS f b|_=>[])
 else if e.kind.1=7 then(match e.args with|[a,b]=>grS f a++[32,102,98,121,32]++grS f b|_=>[])
 else if e.kind.1=8 then(match e.args with|[a]=>grS f a++[32]++smpS es ⟨e.name,e.t,e.v⟩|_=>[])
 else if e.kind.1=9 then mergeA es f e.t.1 e.args ([109,101,114,103,101,32]++e.name) e.args.length
 else if e.kind.1=10 then callA f e.v.1 e.name e.args
 else if e.kind.1=11 then[39]++e.name++[39]
 else e.name
def shF(es:List En):Nat->Ex->Str
 | 0,_=>[]
 | m+1,e=>shE es (shF es m) e
structure ShA (e:Ex):Prop where
 few:e.args.length≤64
 name:e.name.length≤3000000
 kind:1≤e.kind.1/\e.kind.1≤11
 v1:e.kind.1=1->e.t.1=2->-32768≤e.v.1/\e.v.1≤32767
 o3:e.kind.1=3->1≤e.op.1/\e.op.1≤16/\(e.args.length:Int)=opdI e.op.1
 k4:e.kind.1=4->e.args.length=3
 k5:e.kind.1=5\/e.kind.1=8->e.args.length=1
 k6:e.kind.1=6\/e.kind.1=7->e.args.length=2
 t8:e.kind.1=8\/e.kind.1=9->e.t.1≠2
 k9:e.kind.1=9->e.t.1=1->e.args.length=2
 v10:e.kind.1=10->(e.v.1=0\/e.v.1=1)/\e.v.1≤e.args.length
abbrev ShC (F:FuncId)(es:List En)(e:Ex)(s:Str):Prop:=Sound Tryz.prog F [wr es,.t (.ag (exC e))] [symB] (fun r H'=>r= .ret (.s s)/\H'=[symB])
theorem primary_sound(e:Ex):Pure Tryz.prog 106 [.t (.ag (exC e))] (.b (primB e)):=by
 unfold primB
 obtain⟨⟨k,k1,k2⟩,⟨o,o1,o2⟩,⟨t,t1,t2⟩,⟨v,v1,v2⟩,nm,args⟩:=e
 dsimp only[exC,Ex.kind,Ex.op,Ex.t,Ex.v,Ex.name,Ex.args]
 generalize args.map exT=la
 refine so Tryz.func106 ?_
 repeat' (first|refine wu ?_|exact wkc|intro hc|refine wk2 ?_ ?_|fail)
 all_goals
  refine RetK.pure rfl (Le.of_eq ?_) rfl
  first|(simp_all [pack];done)|(simp_all [pack];omega)
theorem operand_sound{es:List En}{f:Ex->Str}{e:Ex}(hf:ShC 37 es e (f e))(hl:(f e).length≤1000000000000000):ShC 69 es e (grS f e):=by
 have hp:=primary_sound e
 unfold grS
 unfold ShC at*
 generalize f e=s at*
 generalize primB e=b at*
 cases b with
 | true=>
   rw[if_pos rfl]
   have he:exC e=[T.n e.kind,T.n e.op,T.n e.t,T.n e.v,.s e.name,.sl 6 (e.args.map exT)]:=rfl
   rw[he]at*
   refine so Tryz.func69 ?_
   refine wkt ?_
   (apply TO.box;exact rfl;exact rfl;exact rfl;exact rfl)
   repeat' (first|refine wkt ?_|refine wv hp ?_|refine wd hf ?_|refine wk ?_|fail)
   exact RetK.keep 1 rfl (Le.refl _) rfl rfl rfl rfl rfl ⟨rfl,rfl⟩
 | false=>
   rw[if_neg (by decide)]
   have he:exC e=[T.n e.kind,T.n e.op,T.n e.t,T.n e.v,.s e.name,.sl 6 (e.args.map exT)]:=rfl
   rw[he]at*
   refine so Tryz.func69 ?_
   refine wkt ?_
   (apply TO.box;exact rfl;exact rfl;exact rfl;exact rfl)
   repeat' (first|refine wkt ?_|refine wv hp ?_|refine wd hf ?_|(apply TO.cat;exact rfl;exact rfl;exact rfl;(simp only[List.length_append,List.length_cons,List.length_nil];omega))|refine wk ?_|fail)
   exact RetK.keep 1 rfl (Le.refl _) rfl rfl rfl rfl rfl ⟨rfl,rfl⟩
theorem symS_len(o:Int):(symS o).length≤3:=by
 unfold symS
 cases h:symL.find? fun e=>decide (e.1=o) with
 | none=>exact Nat.le_of_ble_eq_true rfl
 | some e=>
   have:=List.mem_of_find?_eq_some h
   have hh:∀e∈symL,e.2.length≤3:=by decide
   exact hh e this
theorem exC_eq(k o t v:I64)(n:Str)(l:List Ex):exC (.mk k o t v n l)=[T.n k,T.n o,T.n t,T.n v,.s n,.sl 6 (l.map exT)]:=rfl
theorem len2{α:Type}{l:List α}(h:l.length=2):∃a b,l=[a,b]:=by
 match l,h with
 | [a,b],_=>exact⟨a,b,rfl⟩
theorem len3{α:Type}{l:List α}(h:l.length=3):∃a b c,l=[a,b,c]:=by
 match l,h with
 | [a,b,c],_=>exact⟨a,b,c,rfl⟩
theorem operS_one(f:Ex->Str)(o:Int)(a:Ex):operS f o [a]=if o=1 then[110,111,116,32]++grS f a else if a.kind.1=1/\a.t.1=2 then[45,40]++f a++[41] else[45]++grS f a:=rfl
theorem operS_two(f:Ex->Str)(o:Int)(a b:Ex):operS f o [a,b]=grS f a++[32]++symS o++[32]++grS f b:=rfl
set_option maxHeartbeats 8000000 in
theorem operator_sound {es:List En} {f:Ex->Str} {e:Ex} (hA:ShA e) (h3:e.kind.1=3) (hf:∀x∈e.args,ShC 37 es x (f x)) (hl:∀x∈e.args,(f x).length≤100000000000000):
  ShC 68 es e (operS f e.op.1 e.args):=by
 obtain⟨ho1,ho2,hn⟩:=hA.o3 h3
 have hg:∀x∈e.args,ShC 69 es x (grS f x):=fun x hx=>operand_sound (hf x hx) (Nat.le_trans (hl x hx) (by decide))
 have hgl:∀x∈e.args,(grS f x).length≤100000000000002:=fun x hx=>by
  have:=hl x hx
  unfold grS
  split
  ·omega
  ·simp only[List.length_append,List.length_cons,List.length_nil];omega
 obtain⟨k,o,t,v,nm,args⟩:=e
 clear hA
 dsimp only[Ex.kind,Ex.op,Ex.args]at*
 unfold opdI at hn
 by_cases h12:o.1=1\/o.1=2
 ·rw[if_pos h12]at hn
  obtain⟨a,rfl⟩:∃a,args=[a]:=List.length_eq_one_iff.1 (by omega)
  have hf:=hf a (List.mem_singleton.2 rfl)
  have hg:=hg a (List.mem_singleton.2 rfl)
  have hl:=hl a (List.mem_singleton.2 rfl)
  have hgl:=hgl a (List.mem_singleton.2 rfl)
  generalize hz:operS f o.1 [a]=z
  rw[operS_one]at hz
  by_cases h1:o.1=1
  ·rw[if_pos h1]at hz
   unfold ShC at*
   rw[exC_eq]
   dsimp only[List.map]
   rw[exT_eq]
   generalize f a=s at*
   generalize grS f a=g at*
   subst hz
   obtain⟨⟨k',kk1,kk2⟩,o',⟨t',tt1,tt2⟩,v',n',l'⟩:=a
   obtain⟨o,oo1,oo2⟩:=o
   rw[exC_eq]at*
   dsimp only[Ex.kind,Ex.t]at*
   generalize l'.map exT=la at*
   subst h1
   refine so Tryz.func68 ?_
   refine wkt ?_
   (apply TO.box;exact rfl;exact rfl;exact rfl;exact rfl)
   repeat' (first|refine wkt ?_|refine wd hf ?_|refine wd hg ?_|(apply TO.cat;exact rfl;exact rfl;exact rfl;(simp only[List.length_append,List.length_cons,List.length_nil];omega))|exact wkc|intro hc|refine wk2 ?_ ?_|refine wk ?_|fail)
   exact RetK.keep 1 rfl (Le.refl _) rfl rfl rfl rfl rfl ⟨rfl,rfl⟩
  have h2:o.1=2:=by omega
  rw[if_neg h1]at hz
  by_cases hc:a.kind.1=1/\a.t.1=2
  ·rw[if_pos hc]at hz
   unfold ShC at*
   rw[exC_eq]
   dsimp only[List.map]
   rw[exT_eq]
   generalize f a=s at*
   generalize grS f a=g at*
   subst hz
   obtain⟨⟨k',kk1,kk2⟩,o',⟨t',tt1,tt2⟩,v',n',l'⟩:=a
   obtain⟨o,oo1,oo2⟩:=o
   rw[exC_eq]at*
   dsimp only[Ex.kind,Ex.t]at*
   generalize l'.map exT=la at*
   subst h2
   obtain⟨rfl,rfl⟩:=hc
   refine so Tryz.func68 ?_
   refine wkt ?_
   (apply TO.box;exact rfl;exact rfl;exact rfl;exact rfl)
   repeat' (first|refine wkt ?_|refine wd hf ?_|refine wd hg ?_|(apply TO.cat;exact rfl;exact rfl;exact rfl;(simp only[List.length_append,List.length_cons,List.length_nil];omega))|exact wkc|intro hc|refine wk2 ?_ ?_|refine wk ?_|fail)
   exact RetK.keep 1 rfl (Le.refl _) rfl rfl rfl rfl rfl ⟨rfl,rfl⟩
  ·rw[if_neg hc]at hz
   unfold ShC at*
   rw[exC_eq]
   dsimp only[List.map]
   rw[exT_eq]
   generalize f a=s at*
   generalize grS f a=g at*
   subst hz
   obtain⟨⟨k',kk1,kk2⟩,o',⟨t',tt1,tt2⟩,v',n',l'⟩:=a
   obtain⟨o,oo1,oo2⟩:=o
   rw[exC_eq]at*
   dsimp only[Ex.kind,Ex.t]at*
   generalize l'.map exT=la at*
   subst h2
   by_cases hk:k'=1
   ·subst hk
    have ht:t'≠2:=fun h=>hc ⟨rfl,h⟩
    refine so Tryz.func68 ?_
    refine wkt ?_
    (apply TO.box;exact rfl;exact rfl;exact rfl;exact rfl)
    repeat' (first|refine wkt ?_|refine wd hf ?_|refine wd hg ?_|(apply TO.cat;exact rfl;exact rfl;exact rfl;(simp only[List.length_append,List.length_cons,List.length_nil];omega))|exact wkc|intro hc|refine wk2 ?_ ?_|refine wk ?_|fail)
    exact RetK.keep 1 rfl (Le.refl _) rfl rfl rfl rfl rfl ⟨rfl,rfl⟩
   ·refine so Tryz.func68 ?_
    refine wkt ?_
    (apply TO.box;exact rfl;exact rfl;exact rfl;exact rfl)
    repeat' (first|refine wkt ?_|refine wd hf ?_|refine wd hg ?_|(apply TO.cat;exact rfl;exact rfl;exact rfl;(simp only[List.length_append,List.length_cons,List.length_nil];omega))|exact wkc|intro hc|refine wk2 ?_ ?_|refine wk ?_|fail)
    exact RetK.keep 1 rfl (Le.refl _) rfl rfl rfl rfl rfl ⟨rfl,rfl⟩
 ·rw[if_neg h12]at hn
  obtain⟨a,b,rfl⟩:∃a b,args=[a,b]:=len2 (by omega)
  have hga:=hg a (List.mem_cons_self ..)
  have hgb:=hg b (List.mem_cons_of_mem _ (List.mem_cons_self ..))
  have hla:=hgl a (List.mem_cons_self ..)
  have hlb:=hgl b (List.mem_cons_of_mem _ (List.mem_cons_self ..))
  have hs:=symS_len o.1
  clear hf hl hg hgl hn h3
  rw[operS_two]
  unfold ShC at*
  rw[exC_eq]
  dsimp only[List.map]
  rw[exT_eq,exT_eq]
  generalize grS f a=ga at*
  generalize grS f b=gb at*
  obtain⟨k',o',t',v',n',l'⟩:=a
  obtain⟨k2,o2,t2,v2,n2,l2⟩:=b
  simp only[exC_eq]at*
  generalize l'.map exT=la at*
  generalize l2.map exT=lb at*
  have h1:o.1≠1:=fun h=>h12 (.inl h)
  have h2:o.1≠2:=fun h=>h12 (.inr h)
  have ho:3≤o.1/\o.1≤16:=by omega
  clear h12
  refine so Tryz.func68 ?_
  refine wkt ?_
  (apply TO.box;exact rfl;exact rfl;exact rfl;exact rfl)
  repeat' (first|refine wkt ?_|(apply TO.indexAddr tabOk;(iterate 8 exact rfl);decide;exact rfl)|exact wkc|intro hc|refine wk2 ?_ ?_|fail)
  refine rgS [wr es,.t (.ag [T.n k',T.n o',T.n t',T.n v',.s n',.sl 6 la]),.s ga,.s (ga++[32]),.ref 1 1,.mp 0,.cp [T.n k,T.n o,T.n t,T.n v,.s nm,.sl 6 [.ag [T.n k',T.n o',T.n t',T.n v',.s n',.sl 6 la],.ag [T.n k2,T.n o2,T.n t2,T.n v2,.s n2,.sl 6 lb]]] 1,.n o,.s (symS o.1),.s (ga++[32]++symS o.1),.s (ga++[32]++symS o.1++[32]),wr es,.cp [T.n k,T.n o,T.n t,T.n v,.s nm,.sl 6 [.ag [T.n k',T.n o',T.n t',T.n v',.s n',.sl 6 la],.ag [T.n k2,T.n o2,T.n t2,T.n v2,.s n2,.sl 6 lb]]] 5,.t (.sl 6 [.ag [T.n k',T.n o',T.n t',T.n v',.s n',.sl 6 la],.ag [T.n k2,T.n o2,T.n t2,T.n v2,.s n2,.sl 6 lb]]),.cp [T.n k2,T.n o2,T.n t2,T.n v2,.s n2,.sl 6 lb] 0,.t (.ag [T.n k2,T.n o2,T.n t2,T.n v2,.s n2,.sl 6 lb]),.s gb,.s (ga++[32]++symS o.1++[32]++gb),.s (ga++[32]++symS o.1++[32]++gb)] ?_ ?_
  ·repeat' (first|refine wkt ?_|refine wd hga ?_|refine wd hgb ?_|refine TO.symGet rfl rfl rfl rfl ho ?_|(apply TO.indexAddr tabOk;(iterate 8 exact rfl);decide;exact rfl)|(apply TO.cat;exact rfl;exact rfl;exact rfl;(simp only[List.length_append,List.length_cons,List.length_nil];omega))|exact trivial|exact⟨⟨rfl,rfl⟩,trivial⟩|refine And.intro (fun env=>?_) ?_|refine wk ?_|exact wkc|intro hc|refine wk2 ?_ ?_|fail)
   done
  ·repeat' (first|refine wu ?_|exact wkc|intro hc|refine wk2 ?_ ?_|fail)
   exact RetK.keep 1 rfl (Le.refl _) rfl rfl rfl rfl rfl ⟨rfl,rfl⟩
theorem join_len(sep:Str)(B:Nat):∀l:List Str,(∀x∈l,x.length≤B)->(Go.Lib.join l sep).length≤l.length*(B+sep.length)
 | [],_=>by simp[Go.Lib.join]
 | [x],h=>by
   have:=h x (List.mem_singleton.2 rfl)
   simp[Go.Lib.join]
   omega
 | x::y::l,h=>by
   have h1:=h x (List.mem_cons_self ..)
   have h2:=join_len sep B (y::l) fun z hz=>h z (List.mem_cons_of_mem _ hz)
   have e:(Go.Lib.join (x::y::l) sep).length=x.length+sep.length+(Go.Lib.join (y::l) sep).length:=by
    simp[Go.Lib.join]
    try omega
   rw[e,List.length_cons,Nat.succ_mul]
   omega
def clockS(es:List En)(ck:List OnC):Str:=Go.Lib.join (ck.map (smpS es)) [32]
set_option maxHeartbeats 4000000 in
theorem clockW_sound {es:List En} (h:ShE es) (ck:List OnC) (hn:∀o∈ck,o.name.length≤3000000) (hl:ck.length≤1000000):Sound Tryz.prog 41 [wr es,.t (.sl 3 (ck.map onT))] [symB] (fun r H'=>r= .ret (.s (clockS es ck))/\H'=[symB]):=by
 have hml:(ck.map onT).length=ck.length:=List.length_map _
 have hj:=joinP_sound (ck.map (smpS es)) [32] (by rw[List.length_map];omega) (by
  refine Nat.le_trans (join_len [32] 6000040 _ fun x hx=>?_) ?_
  ·obtain⟨o,ho,rfl⟩:=List.mem_map.1 hx
   exact smpS_len h o (hn o ho)
  ·rw[List.length_map]
   exact Nat.le_trans (Nat.mul_le_mul_right _ hl) (by decide))
 unfold clockS
 have hjm:(ck.map (smpS es)).map T.s=ck.map fun o=>T.s (smpS es o):=by rw[List.map_map];rfl
 rw[hjm]at hj
 generalize Go.Lib.join (ck.map (smpS es)) [32]=z at*
 refine so Tryz.func41 ?_
 refine wkt ?_
 (apply TO.box;exact rfl;exact rfl;exact rfl;exact rfl)
 repeat' (first|refine wkt ?_|fail)
 refine TR.tail 1 5 rfl ?_
 refine TR.loopN ck.length (fun _=>True) (fun j=>[(2,.ref 1 0),(5,.sl 1 ((ck.take j).map fun o=>T.s (smpS es o)) 2),(8,.t (.sl 3 (ck.map onT))),(9,.i ck.length),(10,.i j)]) (fun j=>[symB,.cells [.t (ensT es),.mp 0],.tail ((ck.take j).map fun o=>T.s (smpS es o)).length]) trivial (fun j hlt _=>?_) (fun _=>?_) ⟨rfl,rfl,rfl,by rw[<-hml];rfl,rfl,trivial⟩ rfl
 ·have hx:=at_map onT hlt
  have htk:=take_at hlt
  have hs:=sampling_sound h ck[j] (hn _ (List.getElem_mem hlt))
  have hlen:((ck.take j).map fun o=>T.s (smpS es o)).length≤1000000:=by rw[List.length_map,List.length_take];omega
  generalize ck[j]=o at*
  obtain⟨nm,t,v⟩:=o
  dsimp only[onT]at hx hs
  repeat' (first|refine wu ?_|exact wkc|intro hc|refine wk2 ?_ ?_|refine wd hs ?_|fail)
  exact LoopK.nextN hlt trivial (by(try dsimp only);rw[htk,List.map_append];exact⟨rfl,rfl,rfl,rfl,rfl,trivial⟩) (by(try dsimp only);rw[htk,List.map_append];simp)
 ·rw[List.take_length]
  repeat' (first|refine wu ?_|exact wkc|intro hc|refine wk2 ?_ ?_|refine wv hj ?_|fail)
  exact RetK.keep 1 rfl (Le.refl _) rfl rfl rfl rfl rfl ⟨rfl,rfl⟩
end Go.Proofs.YtjgmcnemcembmaaGreatDoor
