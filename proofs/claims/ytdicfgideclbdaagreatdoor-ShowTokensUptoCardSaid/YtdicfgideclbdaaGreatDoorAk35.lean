import Derived.Test.YtdicfgideclbdaaGreatDoorAk34
set_option maxHeartbeats 64000000
set_option linter.all false
namespace Go.Proofs.YtdicfgideclbdaaGreatDoor
open Go Go.TL
attribute [local irreducible] TR TO Then zaj RetK Sound zac Kf GG zaQ
variable {es:List En}{o:Int}{env:Env}{H:Heap}{K:TK}{all:Array Oper}{rest:List Oper}{q:Bool}{d:Nat}{ty:TypeId}{aft:Array Edge}
theorem zkq(b:Bool):Pure Tryz.prog 163 [.b b] (.s (if b=true then[116,114,117,101] else[102,97,108,115,101])):=by
 have h:Pure Tryz.prog 189 [.b b] (.s (if b=true then[116,114,117,101] else[102,97,108,115,101])):=by
  cases b
  all_goals
   refine so Tryz.func189 ?_;refine ya ?_;exact wkr
 generalize (if b=true then[116,114,117,101] else[102,97,108,115,101]:Str)=s at*;refine so Tryz.func163 ?_;refine yb h ?_;exact wkr
theorem zh5{t:Int}(hk:zii es t=true)(h1:t≠1)(h2:t≠2):3≤t/\t-3<es.length/\∃h:(t-3).toNat<es.length,(zaL es t).1=es[(t-3).toNat]:=by
 unfold zii zdn at hk;rw[oH h1,oH h2]at hk;simp only at hk;by_cases h:3≤t/\t-3<es.length
 ·have hlt:(t-3).toNat<es.length:=oA
  refine⟨h.1,h.2,hlt,?_⟩;unfold zaL;rw[oG h,qad hlt]
 ·unfold zaL at hk;rw[oH h]at hk;cases hk
theorem zAa{t v:Int}(h2:t≠2)(h1:t≠1)(hh:hasT es t v=true):0≤v/\∃h:v.toNat<(zaL es t).1.tags.length,(zaL es t).1.tags[v.toNat]?=some ((zaL es t).1.tags[v.toNat]):=by
 unfold hasT zbf at hh;rw[oH h2,oH h1,oH h2]at hh;simp only[qar,decide_eq_true_eq]at hh
 have:v.toNat<(zaL es t).1.tags.length:=oA
 exact⟨hh.1,this,qad this⟩
theorem zog (es:List En) (t v:I64) (hl:es.length≤1000000000) (htl:∀u∈es,u.tags.length≤1000000000):Pure Tryz.prog 136 [.t (ensT es),.n t,.n v] (.tup [.s (zji es t.1 v.1).1,.i (zji es t.1 v.1).2]):=by
 have hv:=zmS es t;have hh:=zfY es t v;have hf:=fun b=>zkq b
 have hi:=znG v.1 v.2;obtain⟨t,ht1,ht2⟩:=t;obtain⟨v,hv1,hv2⟩:=v;dsimp only[SV.n]at hv hh hi⊢;have hml:(es.map enT).length=es.length:=qac _;generalize hz:zji es t v=z;unfold zji at hz;cases hk:zii es t with
 | false=>
   rw[hk]at hv;rw[oG hk]at hz;subst hz;refine so Tryz.func136 ?_;refine yb hv ?_;exact wkr
 | true=>
 rw[hk]at hv;rw[oH (by rw[hk];decide)]at hz;cases hq:hasT es t v with
 | false=>
   rw[hq]at hh;rw[oG hq]at hz;subst hz;refine so Tryz.func136 ?_;repeat' (first|refine wu ?_|exact wkc|refine wk2 ?_ ?_|refine wv hv ?_|refine wv hh ?_|intro hc)
   exact wkr
 | true=>
 rw[hq]at hh;rw[oH (by rw[hq];decide)]at hz;by_cases h1:t=1
 ·rw[oG h1]at hz;subst h1;by_cases hv1:v=1
  ·rw[oG hv1]at hz;subst hz hv1;have hf:=hf true;rw[oG rfl]at hf;refine so Tryz.func136 ?_;repeat' (first|refine wu ?_|exact wkc|refine wk2 ?_ ?_|refine wv hv ?_|refine wv hh ?_|refine wv hf ?_|(apply TO.bin;(iterate 4 exact rfl))|intro hc)
   exact wkr
  ·rw[oH hv1]at hz;subst hz;have hf:=hf false;rw[oH oB]at hf;refine so Tryz.func136 ?_;repeat' (first|refine wu ?_|exact wkc|refine wk2 ?_ ?_|refine wv hv ?_|refine wv hh ?_|refine wv hf ?_|intro hc)
   exact wkr
 rw[oH h1]at hz;by_cases h2:t=2
 ·rw[oG h2]at hz;subst h2 hz;refine so Tryz.func136 ?_;repeat' (first|refine wu ?_|exact wkc|refine wk2 ?_ ?_|refine wv hv ?_|refine wv hh ?_|refine wv hi ?_|intro hc)
  exact wkr
 rw[oH h2]at hz;obtain⟨g1,g2,g3,g4⟩:=zh5 hk h1 h2;obtain⟨g5,g6,g7⟩:=zAa h2 h1 hq;rw[g7]at hz;simp only[qbm]at hz;have hx:=zbc enT g3;have hu:=htl _ (qak g3);generalize hen:(zaL es t).1=en at*;rw[<-g4]at hx hu;have hy:=zbc T.s g6;have hmt:(en.tags.map T.s).length=en.tags.length:=qac _;unfold enT at hx;subst hz;clear hk hq hen g4 g7;generalize en.tags[v.toNat]=tg at*;refine so Tryz.func136 ?_;repeat' (first|refine wu ?_|exact wkc|refine wk2 ?_ ?_|refine wv hv ?_|refine wv hh ?_|intro hc)
 exact wkr
section rules
variable {n:Nat}{pos:String}
end rules
theorem zd9:∀(m u:Nat),u<10 ^ m->(Go.Lib.decDigits u).length≤m+1
 | 0,u,h=>by rw[Go.Lib.decDigits,dif_pos (by simp at h;omega)];simp
 | m+1,u,h=>by
   rw[Go.Lib.decDigits];split
   ·simp
   ·have:=zd9 m (u / 10) (by rw[Nat.pow_succ]at h;omega)
    rw[qab];simp only[qae,qal];omega
def symL:List (Int×Str):=[(3,[97,110,100]),(4,[111,114]),(5,[120,111,114]),(6,[43]),(7,[45]),(8,[42]),(9,[47]),(10,[109,111,100]),(11,[61]),(12,[60,62]),(13,[60]),(14,[60,61]),(15,[62]),(16,[62,61])]
abbrev syL (l:List (Int×Str)):List (Value×T):=l.map fun e=>(.int .i64 e.1,.s e.2)
abbrev syB (l:List (Int×Str)):Blk:=.map 3 9 (syL l)
abbrev symB:Blk:=syB symL
def symS(o:Int):Str:=((symL.find? fun e=>decide (e.1=o)).map fun e=>e.2).getD [62,61]
theorem zzh:Maps.Keyed Tryz.prog 3:=Maps.int_keyed Tryz.underlying3
theorem keyI(n:Int)(h:3≤n/\n≤16):∃l,keyOf Tryz.prog 3 (.int .i64 n)=some l:=⟨.int .i64 n,by
 have hw:(Lit.int IntKind.i64 n).wf=true:=by simp[Lit.wf,show IntKind.min .i64= -9223372036854775808 from rfl,show IntKind.max .i64=9223372036854775807 from rfl];omega
 simp[keyOf,Tryz.underlying3,mapKey,hw]⟩
theorem zwM(l:List (Int×Str))(h:∀e∈l,3≤e.1/\e.1≤16):zhI Tryz.prog 3 (syL l):=by
 intro j e he;rw[qan]at he;cases hq:l[j]? with
 | none=>rw[hq]at he;cases he
 | some s=>rw[hq]at he;cases he;exact keyI _ (h s (qau hq))
theorem zyn(h:3≤o/\o≤16):zlf (syL symL) (.int .i64 o) (some (.s (symS o))):=by
 refine⟨(o-3).toNat,?_,fun j t' hj=>?_⟩
 ·rcases(by omega:o=3\/o=4\/o=5\/o=6\/o=7\/o=8\/o=9\/o=10\/o=11\/o=12\/o=13\/o=14\/o=15\/o=16)with h|h|h|h|h|h|h|h|h|h|h|h|h|h <;> (subst h;rfl)
 ·match j with
  | 0|1|2|3|4|5|6|7|8|9|10|11|12|13=>simp[syL,symL]at hj;omega
  | j+14=>simp[syL,symL]at hj
section
variable {n:Nat}{id:Nat}{pos:String}{x y w:Operand}
theorem TO.zz9(hd:Nat.ble (d+1) n=true)(hx:env.val x=some (.mp id))(hH:H[id]?=some symB)(hy:env.val y=some (.i o))(h:3≤o/\o≤16)
  (k:TO q Tryz.prog n all rest ((d,.s (symS o))::env) H K):TO q Tryz.prog n all (⟨some d,.lookup 89 x y false,ty,pos,aft,none⟩::rest) env H K:=by
 refine TO.lookup zaf hd rfl rfl rfl rfl rfl zzh hx hH (zwM _ oB) hy (kx:=.int .i64 o) (fun m v h=>h.v_eq) (keyI o h) (zyn h) ?_;exact k
theorem TO.zdz{l:List (Int×Str)}{s:Str}{H':Heap}(hx:env.val x=some (.mp id))(hH:H[id]?=some (syB l))(hy:env.val y=some (.i o))(hw:env.val w=some (.s s))(hn:(l.all fun e=>!decide (e.1=o))=true)(hl:∀e∈l,3≤e.1/\e.1≤16)(ho:3≤o/\o≤16)
  (hH':setS H id (syB (l++[(o,s)]))=some H')(kk:TO false Tryz.prog n all rest env H' K):
  TO false Tryz.prog n all (⟨none,.insert 89 x y w,ty,pos,aft,none⟩::rest) env H K:=by
 refine TO.zsj ?_
 have hp:zq8 (syL l) (.int .i64 o) (.s s) (syL (l++[(o,s)])):=by
  refine .inr ⟨?_,by simp[syL]⟩;intro j e he e2;rw[qan]at he;cases hq:l[j]? with
  | none=>rw[hq]at he;cases he
  | some u=>
    rw[hq]at he;cases he
    have h1:=qaB.1 hn u (qau hq);simp only[qbA,decide_eq_false_iff_not]at h1;exact h1 (by simpa using e2)
 refine TO.mapUpdate zaf rfl rfl zzh hx hH (zwM l hl) hy (kx:=.int .i64 o) (fun m v h=>h.v_eq) (keyI o ho) hw rfl hp (zgI hH').symm kk
end
theorem zin (es:List En):Sound Tryz.prog 30 [.t (ensT es)] [] (fun r H'=>r= .ret (.ag [.t (ensT es),.mp 1])/\H'=[.cells [.t (ensT es),.mp 1],symB]):=by
 refine so Tryz.func30 ?_;repeat' (first|refine wkb ?_|(apply TO.makeMap 3 9;exact rfl)|(refine TO.zdz (id:=1) (l:=[]) rfl rfl rfl rfl oB oB oB rfl ?_)|(refine TO.zdz (id:=1) (l:=[(3,[97,110,100])]) rfl rfl rfl rfl oB oB oB rfl ?_)|(refine TO.zdz (id:=1) (l:=[(3,[97,110,100]),(4,[111,114])]) rfl rfl rfl rfl oB oB oB rfl ?_)|(refine TO.zdz (id:=1) (l:=[(3,[97,110,100]),(4,[111,114]),(5,[120,111,114])]) rfl rfl rfl rfl oB oB oB rfl ?_)|(refine TO.zdz (id:=1) (l:=[(3,[97,110,100]),(4,[111,114]),(5,[120,111,114]),(6,[43])]) rfl rfl rfl rfl oB oB oB rfl ?_)|(refine TO.zdz (id:=1) (l:=[(3,[97,110,100]),(4,[111,114]),(5,[120,111,114]),(6,[43]),(7,[45])]) rfl rfl rfl rfl oB oB oB rfl ?_)|(refine TO.zdz (id:=1) (l:=[(3,[97,110,100]),(4,[111,114]),(5,[120,111,114]),(6,[43]),(7,[45]),(8,[42])]) rfl rfl rfl rfl oB oB oB rfl ?_)|(refine TO.zdz (id:=1) (l:=[(3,[97,110,100]),(4,[111,114]),(5,[120,111,114]),(6,[43]),(7,[45]),(8,[42]),(9,[47])]) rfl rfl rfl rfl oB oB oB rfl ?_)|(refine TO.zdz (id:=1) (l:=[(3,[97,110,100]),(4,[111,114]),(5,[120,111,114]),(6,[43]),(7,[45]),(8,[42]),(9,[47]),(10,[109,111,100])]) rfl rfl rfl rfl oB oB oB rfl ?_)|(refine TO.zdz (id:=1) (l:=[(3,[97,110,100]),(4,[111,114]),(5,[120,111,114]),(6,[43]),(7,[45]),(8,[42]),(9,[47]),(10,[109,111,100]),(11,[61])]) rfl rfl rfl rfl oB oB oB rfl ?_)|(refine TO.zdz (id:=1) (l:=[(3,[97,110,100]),(4,[111,114]),(5,[120,111,114]),(6,[43]),(7,[45]),(8,[42]),(9,[47]),(10,[109,111,100]),(11,[61]),(12,[60,62])]) rfl rfl rfl rfl oB oB oB rfl ?_)|(refine TO.zdz (id:=1) (l:=[(3,[97,110,100]),(4,[111,114]),(5,[120,111,114]),(6,[43]),(7,[45]),(8,[42]),(9,[47]),(10,[109,111,100]),(11,[61]),(12,[60,62]),(13,[60])]) rfl rfl rfl rfl oB oB oB rfl ?_)|(refine TO.zdz (id:=1) (l:=[(3,[97,110,100]),(4,[111,114]),(5,[120,111,114]),(6,[43]),(7,[45]),(8,[42]),(9,[47]),(10,[109,111,100]),(11,[61]),(12,[60,62]),(13,[60]),(14,[60,61])]) rfl rfl rfl rfl oB oB oB rfl ?_)|(refine TO.zdz (id:=1) (l:=[(3,[97,110,100]),(4,[111,114]),(5,[120,111,114]),(6,[43]),(7,[45]),(8,[42]),(9,[47]),(10,[109,111,100]),(11,[61]),(12,[60,62]),(13,[60]),(14,[60,61]),(15,[62])]) rfl rfl rfl rfl oB oB oB rfl ?_)|refine wk ?_|fail)
 exact zwfh
structure ShE (es:List En):Prop where
 len:es.length≤1000000000
 tags:∀u∈es,u.tags.length≤1000000000
 small:∀u∈es,∀t∈u.tags,t.length≤3000000
def valS(es:List En)(t v:Int):Str:=(zji es t v).1
theorem zo4(v:I64):(Go.Lib.itoa v.1).length≤30:=by
 obtain⟨v,h1,h2⟩:=v;unfold Go.Lib.itoa
 have:=zd9 20 v.natAbs oA
 have:=zd9 20 v.toNat oA
 dsimp only;split
 ·rw[qae];omega
 ·omega
theorem zff(h:ShE es)(t v:I64):(valS es t.1 v.1).length≤3000030:=by
 unfold valS zji;split
 ·exact qaM _
 split
 ·exact qaM _
 split
 ·split
  ·exact leB
  ·exact leB
 split
 ·have:=zo4 v
  dsimp only;omega
 ·dsimp only;rename_i h1 h2 h3 h4;cases hx:(zaL es t.1).1.tags[v.1.toNat]? with
  | none=>exact qaM _
  | some g=>
    have hg:=qau hx;obtain⟨g1,g2,g3,g4⟩:=zh5 (by simpa using h1) h3 h4;rw[g4]at hg
    have:=h.small _ (qak g3) g hg
    simp only[qbm];omega
abbrev wr (es:List En):SV:=.ag [.t (ensT es),.mp 0]
theorem zdB(h:ShE es)(t v:I64):Sound Tryz.prog 91 [wr es,.n t,.n v] [symB] (fun r H'=>r= .ret (.s (valS es t.1 v.1))/\H'=[symB]):=by
 have ht:=zog es t v h.len h.tags;unfold valS;generalize zji es t.1 v.1=z at*;refine so Tryz.func91 ?_;refine yb ht ?_;exact zwfg
def smpS(es:List En)(o:OnC):Str:=[119,104,101,110,32]++valS es o.t.1 o.tag.1++[40]++o.name++[41]
theorem zkX(h:ShE es)(o:OnC)(hn:o.name.length≤3000000):(smpS es o).length≤6000040:=by
 have:=zff h o.t o.tag
 exact zweo
theorem zfo  (h:ShE es) (o:OnC) (hn:o.name.length≤3000000):Sound Tryz.prog 94 [wr es,.t (onT o)] [symB] (fun r H'=>r= .ret (.s (smpS es o))/\H'=[symB]):=by
 have ht:=zdB h o.t o.tag;have hl:=zff h o.t o.tag;unfold smpS;generalize valS es o.t.1 o.tag.1=z at*;obtain⟨nm,t,v⟩:=o;dsimp only at*;refine so Tryz.func94 ?_;refine wkt ?_;refine zqj ?_;refine wkt ?_;refine rgS [wr es,.cp [.s nm,T.n t,T.n v] 1,.n t,.cp [.s nm,T.n t,T.n v] 2,.n v,.s z,.s ([119,104,101,110,32]++z),.s ([119,104,101,110,32]++z++[40]),.cp [.s nm,T.n t,T.n v] 0,.s nm,.s ([119,104,101,110,32]++z++[40]++nm),.s ([119,104,101,110,32]++z++[40]++nm++[41]),.s ([119,104,101,110,32]++z++[40]++nm++[41])] ?_ ?_
 ·repeat' (first|refine wkt ?_|refine wd ht ?_|refine zqd ?_|exact trivial|exact⟨⟨rfl,rfl⟩,trivial⟩|refine qav (fun env=>?_) ?_|refine wk ?_|exact wkc|refine wk2 ?_ ?_|intro hc)
  done
 ·exact zweg
def zqQ(e:Ex):Bool:=decide (e.kind.1=2\/e.kind.1=11\/e.kind.1=10\/e.kind.1=1/\(e.t.1≠2\/0≤e.v.1))
def grS(f:Ex->Str)(e:Ex):Str:=if zqQ e=true then f e else[40]++f e++[41]
def zhm(f:Ex->Str)(o:Int):List Ex->Str
 | [a]=>if o=1 then[110,111,116,32]++grS f a else if a.kind.1=1/\a.t.1=2 then[45,40]++f a++[41] else[45]++grS f a
 | [a,b]=>grS f a++[32]++symS o++[32]++grS f b
 | _=>[]
def brV(t:Int)(i:Nat):Int:=if t=1 then 1-(i:Int) else i
def zbl(es:List En)(f:Ex->Str)(t:Int)(args:List Ex)(s:Str):Nat->Str
 | 0=>s
 | i+1=>zbl es f t args s i++([32,40]++valS es t (brV t i)++[32,45,62,32]++((args[(brV t i).toNat]?).map f).getD []++[41])
def zfs(f:Ex->Str)(v:Int)(nm:Str)(args:List Ex):Str:=
 if v=1 then nm++[40]++Go.Lib.join ((args.take (args.length-1)).map f) [44,32]++[41]++([32,101,118,101,114,121,32]++((args[args.length-1]?).map (grS f)).getD [])
 else nm++[40]++Go.Lib.join (args.map f) [44,32]++[41]
def shE(es:List En)(f:Ex->Str)(e:Ex):Str:=
 if e.kind.1=1 then valS es e.t.1 e.v.1
 else if e.kind.1=3 then zhm f e.op.1 e.args
 else if e.kind.1=4 then(match e.args with|[a,b,c]=>[105,102,32]++f a++[32,116,104,101,110,32]++f b++[32,101,108,115,101,32]++f c|_=>[])
 else if e.kind.1=5 then(match e.args with|[a]=>[112,114,101,32]++grS f a|_=>[])
 else if e.kind.1=6 then(match e.args with|[a,b]=>grS f a++[32,45,62,32]++grS f b|_=>[])
 else if e.kind.1=7 then(match e.args with|[a,b]=>grS f a++[32,102,98,121,32]++grS f b|_=>[])
 else if e.kind.1=8 then(match e.args with|[a]=>grS f a++[32]++smpS es ⟨e.name,e.t,e.v⟩|_=>[])
 else if e.kind.1=9 then zbl es f e.t.1 e.args ([109,101,114,103,101,32]++e.name) e.args.length
 else if e.kind.1=10 then zfs f e.v.1 e.name e.args
 else if e.kind.1=11 then[39]++e.name++[39]
 else e.name
def shF(es:List En):Nat->Ex->Str
 | 0,_=>[]
 | m+1,e=>shE es (shF es m) e
structure ShA (e:Ex):Prop where
 few:e.args.length≤64
 name:e.name.length≤3000000
 kind:1≤e.kind.1/\e.kind.1≤11
 v1:e.kind.1=1->e.t.1=2->-32768≤e.v.1/\e.v.1≤32767
 o3:e.kind.1=3->1≤e.op.1/\e.op.1≤16/\(e.args.length:Int)=opdI e.op.1
 k4:e.kind.1=4->e.args.length=3
 k5:e.kind.1=5\/e.kind.1=8->e.args.length=1
 k6:e.kind.1=6\/e.kind.1=7->e.args.length=2
 t8:e.kind.1=8\/e.kind.1=9->e.t.1≠2
 k9:e.kind.1=9->e.t.1=1->e.args.length=2
 v10:e.kind.1=10->(e.v.1=0\/e.v.1=1)/\e.v.1≤e.args.length
abbrev ShC (F:FuncId)(es:List En)(e:Ex)(s:Str):Prop:=Sound Tryz.prog F [wr es,.t (.ag (exC e))] [symB] (fun r H'=>r= .ret (.s s)/\H'=[symB])
theorem zkL(e:Ex):Pure Tryz.prog 137 [.t (.ag (exC e))] (.b (zqQ e)):=by
 unfold zqQ;obtain⟨⟨k,k1,k2⟩,⟨o,o1,o2⟩,⟨t,t1,t2⟩,⟨v,v1,v2⟩,nm,args⟩:=e;dsimp only[exC,Ex.kind,Ex.op,Ex.t,Ex.v,Ex.name,Ex.args];generalize args.map exT=la;refine so Tryz.func137 ?_;repeat' (first|refine wu ?_|exact wkc|refine wk2 ?_ ?_|intro hc)
 all_goals
  refine RetK.pure rfl (Le.of_eq ?_) rfl
  first|(simp_all [pack];done)|(simp_all [pack];omega)
theorem zel{f:Ex->Str}{e:Ex}(hf:ShC 43 es e (f e))(hl:(f e).length≤1000000000000000):ShC 93 es e (grS f e):=by
 have hp:=zkL e;unfold grS;unfold ShC at*;generalize f e=s at*;generalize zqQ e=b at*;cases b with
 | true=>
   rw[oG rfl];have he:exC e=[T.n e.kind,T.n e.op,T.n e.t,T.n e.v,.s e.name,.sl 6 (e.args.map exT)]:=rfl;rw[he]at*;refine so Tryz.func93 ?_;refine wkt ?_;refine zqj ?_;repeat' (first|refine wkt ?_|refine wv hp ?_|refine wd hf ?_|refine wk ?_|fail)
   exact RetK.keep 1 rfl (Le.refl _) rfl rfl rfl rfl rfl ⟨rfl,rfl⟩
 | false=>
   rw[oH oB];have he:exC e=[T.n e.kind,T.n e.op,T.n e.t,T.n e.v,.s e.name,.sl 6 (e.args.map exT)]:=rfl;rw[he]at*;refine so Tryz.func93 ?_;refine wkt ?_;refine zqj ?_;repeat' (first|refine wkt ?_|refine wv hp ?_|refine wd hf ?_|refine zqd ?_|refine wk ?_|fail)
   exact RetK.keep 1 rfl (Le.refl _) rfl rfl rfl rfl rfl ⟨rfl,rfl⟩
end Go.Proofs.YtdicfgideclbdaaGreatDoor
