import Derived.Laws.BytesString
import Derived.Test.YthmbhfgflijapaaGreatDoorPk25
set_option linter.all false
namespace Go.TL
open Go
end Go.TL
namespace Go.Proofs.YthmbhfgflijapaaGreatDoor
open Go Go.TL
attribute [local irreducible] TR TO Then zag RetK Sound zab Kf GG zaK
abbrev zv4:Str:=[98,111,111,108]
abbrev bInt:Str:=[105,110,116]
def zdV(es:List En)(t:Int):Str×Bool:=if t=1 then(zv4,true) else if t=2 then(bInt,true) else((za5 es t).1.name,(za5 es t).2)
def zhz(es:List En)(t:Int):Bool:=(zdV es t).2
def ziv(es:List En)(t v:Int):Str×Int:=
 if zhz es t=false then([],10) else if hasT es t v=false then([],14) else if t=1 then(if v=1 then([116,114,117,101],0) else([102,97,108,115,101],0)) else if t=2 then(Go.Lib.itoa v,0)
 else(((za5 es t).1.tags[v.toNat]?).getD [],0)
theorem zhA(es:List En)(t:I64):Pure Tryz.prog 96 [.t (ensT es),.n t] (.tup [.s (zdV es t.1).1,.b (zdV es t.1).2]):=by
 have he:=ziH es t
 unfold zdV
 obtain⟨t,ht1,ht2⟩:=t
 dsimp only[SV.n]at he⊢
 generalize za5 es t=u at*
 unfold enT at he
 refine so Tryz.func96 ?_
 repeat' (first|refine wu ?_|exact wkc|intro hc|refine wk2 ?_ ?_|refine wv he ?_|fail)
 all_goals first
  | (rw[if_pos (by assumption)];exact wkr)
  | (rw[if_neg (by assumption),if_pos (by assumption)];exact wkr)
  | (rw[if_neg (by assumption),if_neg (by assumption)];exact wkr)
theorem zlr(es:List En)(t:I64):Pure Tryz.prog 111 [.t (ensT es),.n t] (.b (zhz es t.1)):=by
 have he:=zhA es t
 unfold zhz
 generalize zdV es t.1=u at*
 refine so Tryz.func111 ?_
 repeat' (first|refine wu ?_|exact wkc|intro hc|refine wk2 ?_ ?_|refine wv he ?_|fail)
 exact wkr
end Go.Proofs.YthmbhfgflijapaaGreatDoor
namespace Go.Proofs.YthmbhfgflijapaaGreatDoor
open Go Go.TL
attribute [local irreducible] TR TO Then zag RetK Sound zab Kf GG zaK
theorem zjm(b:Bool):Pure Tryz.prog 112 [.b b] (.s (if b=true then[116,114,117,101] else[102,97,108,115,101])):=by
 have h:Pure Tryz.prog 154 [.b b] (.s (if b=true then[116,114,117,101] else[102,97,108,115,101])):=by
  cases b
  all_goals
   refine so Tryz.func154 ?_
   repeat' (first|refine wu ?_|exact wkc|intro hc|refine wk2 ?_ ?_|fail)
   exact wkr
 generalize (if b=true then[116,114,117,101] else[102,97,108,115,101]:Str)=s at*
 refine so Tryz.func112 ?_
 repeat' (first|refine wu ?_|exact wkc|intro hc|refine wk2 ?_ ?_|refine wv h ?_|fail)
 exact wkr
theorem zhp{es:List En}{t:Int}(hk:zhz es t=true)(h1:t≠1)(h2:t≠2):3≤t/\t-3<es.length/\∃h:(t-3).toNat<es.length,(za5 es t).1=es[(t-3).toNat]:=by
 unfold zhz zdV at hk
 rw[if_neg h1,if_neg h2]at hk
 simp only at hk
 by_cases h:3≤t/\t-3<es.length
 ·have hlt:(t-3).toNat<es.length:=by omega
  refine⟨h.1,h.2,hlt,?_⟩
  unfold za5
  rw[if_pos h,qac hlt]
 ·unfold za5 at hk
  rw[if_neg h]at hk
  cases hk
theorem zvT{es:List En}{t v:Int}(h2:t≠2)(h1:t≠1)(hh:hasT es t v=true):0≤v/\∃h:v.toNat<(za5 es t).1.tags.length,(za5 es t).1.tags[v.toNat]?=some ((za5 es t).1.tags[v.toNat]):=by
 unfold hasT zbz at hh
 rw[if_neg h2,if_neg h1,if_neg h2]at hh
 simp only[qau,decide_eq_true_eq]at hh
 have:v.toNat<(za5 es t).1.tags.length:=by omega
 exact⟨hh.1,this,qac this⟩
set_option maxHeartbeats 4000000 in
theorem zmE (es:List En) (t v:I64) (hl:es.length≤1000000000) (htl:∀u∈es,u.tags.length≤1000000000):Pure Tryz.prog 78 [.t (ensT es),.n t,.n v] (.tup [.s (ziv es t.1 v.1).1,.i (ziv es t.1 v.1).2]):=by
 have hv:=zlr es t
 have hh:=zft es t v
 have hf:=fun b=>zjm b
 have hi:=zmc v.1 v.2
 obtain⟨t,ht1,ht2⟩:=t
 obtain⟨v,hv1,hv2⟩:=v
 dsimp only[SV.n]at hv hh hi⊢
 have hml:(es.map enT).length=es.length:=qab _
 generalize hz:ziv es t v=z
 unfold ziv at hz
 cases hk:zhz es t with
 | false=>
   rw[hk]at hv
   rw[if_pos hk]at hz
   subst hz
   refine so Tryz.func78 ?_
   repeat' (first|refine wu ?_|exact wkc|intro hc|refine wk2 ?_ ?_|refine wv hv ?_|fail)
   exact wkr
 | true=>
 rw[hk]at hv
 rw[if_neg (by rw[hk];decide)]at hz
 cases hq:hasT es t v with
 | false=>
   rw[hq]at hh
   rw[if_pos hq]at hz
   subst hz
   refine so Tryz.func78 ?_
   repeat' (first|refine wu ?_|exact wkc|intro hc|refine wk2 ?_ ?_|refine wv hv ?_|refine wv hh ?_|fail)
   exact wkr
 | true=>
 rw[hq]at hh
 rw[if_neg (by rw[hq];decide)]at hz
 by_cases h1:t=1
 ·rw[if_pos h1]at hz
  subst h1
  by_cases hv1:v=1
  ·rw[if_pos hv1]at hz
   subst hz hv1
   have hf:=hf true
   rw[if_pos rfl]at hf
   refine so Tryz.func78 ?_
   repeat' (first|refine wu ?_|exact wkc|intro hc|refine wk2 ?_ ?_|refine wv hv ?_|refine wv hh ?_|refine wv hf ?_|(apply TO.bin;(iterate 4 exact rfl))|fail)
   exact wkr
  ·rw[if_neg hv1]at hz
   subst hz
   have hf:=hf false
   rw[if_neg (by decide)]at hf
   refine so Tryz.func78 ?_
   repeat' (first|refine wu ?_|exact wkc|intro hc|refine wk2 ?_ ?_|refine wv hv ?_|refine wv hh ?_|refine wv hf ?_|fail)
   exact wkr
 rw[if_neg h1]at hz
 by_cases h2:t=2
 ·rw[if_pos h2]at hz
  subst h2 hz
  refine so Tryz.func78 ?_
  repeat' (first|refine wu ?_|exact wkc|intro hc|refine wk2 ?_ ?_|refine wv hv ?_|refine wv hh ?_|refine wv hi ?_|fail)
  exact wkr
 rw[if_neg h2]at hz
 obtain⟨g1,g2,g3,g4⟩:=zhp hk h1 h2
 obtain⟨g5,g6,g7⟩:=zvT h2 h1 hq
 rw[g7]at hz
 simp only[qbm]at hz
 have hx:=zbj enT g3
 have hu:=htl _ (qaf g3)
 generalize hen:(za5 es t).1=en at*
 rw[<-g4]at hx hu
 have hy:=zbj T.s g6
 have hmt:(en.tags.map T.s).length=en.tags.length:=qab _
 unfold enT at hx
 subst hz
 clear hk hq hen g4 g7
 generalize en.tags[v.toNat]=tg at*
 refine so Tryz.func78 ?_
 repeat' (first|refine wu ?_|exact wkc|intro hc|refine wk2 ?_ ?_|refine wv hv ?_|refine wv hh ?_|fail)
 exact wkr
section rules
variable {n:Nat}{env:Env}{H:Heap}{K:TK}{all:Array Oper}{rest:List Oper}{q:Bool}{d:Nat}{ty:TypeId}{pos:String}{aft:Array Edge}
end rules
theorem zdN:∀(m u:Nat),u<10 ^ m->(Go.Lib.decDigits u).length≤m+1
 | 0,u,h=>by rw[Go.Lib.decDigits,dif_pos (by simp at h;omega)];simp
 | m+1,u,h=>by
   rw[Go.Lib.decDigits]
   split
   ·simp
   ·have:=zdN m (u / 10) (by rw[Nat.pow_succ]at h;omega)
    rw[qad];simp only[qal,qaz];omega
theorem zvk:Maps.Keyed Tryz.prog 9:=Maps.string_keyed Tryz.underlying9
theorem keyP{s:Str}(h:s.length≤1000000000):∃l,keyOf Tryz.prog 9 (str s)=some l:=by
 exact zwcj
theorem znD{a b:Str}(h:str a=str b):a=b:=by
 exact zwfb
abbrev opL (l:List (Str×Int)):List (Value×T):=l.map fun e=>(str e.1,.v (.int .i64 e.2))
abbrev opB (l:List (Str×Int)):Blk:=.map 9 3 (opL l)
def zkV(l:List (Str×Int))(s:Str):Option Int:=(l.find? fun e=>decide (e.1=s)).map fun e=>e.2
structure OpOk (l:List (Str×Int)):Prop where
 nodup:(l.map fun e=>e.1).Nodup
 short:∀e∈l,e.1.length≤1000000000
theorem OpOk.keys{l:List (Str×Int)}(h:OpOk l):zg2 Tryz.prog 9 (opL l):=by
 intro j e he
 rw[qar]at he
 cases hq:l[j]? with
 | none=>rw[hq]at he;cases he
 | some s=>rw[hq]at he;cases he;exact keyP (h.short s (qas hq))
theorem zs5{l:List (Str×Int)}(h:OpOk l)(s:Str):zjY (opL l) (str s) ((zkV l s).map fun v=>.v (.int .i64 v)):=by
 unfold zkV
 cases hf:l.find? (fun e=>decide (e.1=s)) with
 | none=>
   rw[qcm]at hf
   intro j e he e2
   rw[qar]at he
   cases hq:l[j]? with
   | none=>rw[hq]at he;cases he
   | some x=>
     rw[hq]at he;cases he
     exact hf x (qas hq) (by simpa using znD e2)
 | some e=>
   have hm:=qb1 hf
   have hp:=List.find?_some hf
   simp only[decide_eq_true_eq]at hp
   obtain⟨j,hj⟩:=qbc hm
   refine⟨j,by simp[opL,hj,hp],fun j' t' h'=>?_⟩
   rw[qar]at h'
   cases hq:l[j']? with
   | none=>rw[hq]at h';cases h'
   | some x=>
     rw[hq]at h'
     simp only[qaW,qaE,qbo]at h'
     have h1:=znD h'.1
     have e1:(l.map fun e=>e.1)[j']?=some s:=by simp[hq,h1]
     have e2:(l.map fun e=>e.1)[j]?=some s:=by simp[hj,hp]
     exact(qcw (qaa.1 e1).1 h.nodup).1 (e1.trans e2.symm)
section
variable {n:Nat}{env:Env}{K:TK}{all:Array Oper}{rest:List Oper}{d id:Nat}{ty:TypeId}{pos:String}{aft:Array Edge}{H:Heap}{x y w:Operand}{q:Bool}
theorem TO.zpL{P:Program}{t:TypeId}(k:TO false P n all (⟨none,.mapUpdate t x y w,ty,pos,aft,none⟩::rest) env H K):TO false P n all (⟨none,.insert t x y w,ty,pos,aft,none⟩::rest) env H K:=by
 unfold Go.TL.TO at k⊢
 intro φ m a h1 h2 h3 h4
 have h:=k φ m a h1 h2 h3 h4
 simp only[wpListIn]at h⊢
 rw[if_pos (show Region.wanted _ _=true from rfl)]at h⊢
 unfold Oper.wpIn at h⊢
 refine⟨fun _ _=>trivial,?_⟩
 have e:∀r,Oper.semAt r a.eval ⟨none,.insert t x y w,ty,pos,aft,none⟩=Oper.semAt r a.eval ⟨none,.mapUpdate t x y w,ty,pos,aft,none⟩:=fun r=>by
  rw[Oper.semAt_eq _ _ _ (by intro c e;cases e),Oper.semAt_eq _ _ _ (by intro c e;cases e)]
  simp only[execOp]
 rw[e]
 have h5:=h.2
 unfold Oper.uponIn at h5⊢
 exact h5
theorem TO.zfD{l:List (Str×Int)}{s:Str}{v:Int}{H':Heap}(hx:env.val x=some (.mp id))(hH:H[id]?=some (opB l))(hy:env.val y=some (.s s))(hw:env.val w=some (.i v))(hl:OpOk l)(hn:zkV l s=none)(hs:s.length≤1000000000)
  (hH':setS H id (opB (l++[(s,v)]))=some H')(kk:TO false Tryz.prog n all rest env H' K):
  TO false Tryz.prog n all (⟨none,.insert 210 x y w,ty,pos,aft,none⟩::rest) env H K:=by
 have hg:=zs5 hl s
 rw[hn]at hg
 refine TO.zpL ?_
 exact TO.mapUpdate zaf rfl rfl zvk hx hH hl.keys hy (kx:=str s) (fun m v h=>h.v_eq) (keyP hs) hw rfl (.inr ⟨hg,by rw[opL,qaH];rfl⟩) (zf9 hH').symm kk
theorem TO.zkV{l:List (Str×Int)}{s:Str}(hd:Nat.ble (d+1) n=true)(hx:env.val x=some (.mp id))(hH:H[id]?=some (opB l))(hy:env.val y=some (.s s))(hl:OpOk l)(hs:s.length≤1000000000)
  {r:Option Int}(hr:Go.Proofs.YthmbhfgflijapaaGreatDoor.zkV l s=r)(k:TO q Tryz.prog n all rest ((d,.tup [.i (r.getD 0),.b r.isSome])::env) H K):
  TO q Tryz.prog n all (⟨some d,.lookup 210 x y true,ty,pos,aft,none⟩::rest) env H K:=by
 refine TO.lookup zaf hd rfl rfl rfl rfl rfl zvk hx hH hl.keys hy (kx:=str s) (fun m v h=>h.v_eq) (keyP hs) (zs5 hl s) ?_
 rw[hr]
 cases r <;> exact k
end
def opsL(n:Int):List (Str×Int):=
 if n=0 then[([111,114],4),([120,111,114],5)]
 else if n=1 then[([97,110,100],3)]
 else if n=3 then[([61],11),([60,62],12),([60],13),([60,61],14),([62],15),([62,61],16)]
 else if n=4 then[([43],6),([45],7)]
 else[([42],8),([47],9),([109,111,100],10)]
theorem zuj(n:Int):OpOk (opsL n):=by
 unfold opsL
 split
 ·exact⟨by decide,by decide⟩
 split
 ·exact⟨by decide,by decide⟩
 split
 ·exact⟨by decide,by decide⟩
 split
 ·exact⟨by decide,by decide⟩
 ·exact⟨by decide,by decide⟩
set_option maxHeartbeats 1000000 in
theorem zka (n:Int):Sound Tryz.prog 127 [.i n] [] (fun r H'=>r= .ret (.mp 0)/\H'=[opB (opsL n)]):=by
 have e0:OpOk []:=⟨qbz,by simp⟩
 unfold opsL
 split
 ·refine so Tryz.func127 ?_
  repeat' (first|refine wu ?_|exact wkc|intro hc|refine wk2 ?_ ?_|(apply TO.makeMap 9 3;exact rfl)|(refine TO.zfD (id:=0) (l:=[]) rfl rfl rfl rfl ⟨by decide,by decide⟩ (by decide) (leB) rfl ?_)|(refine TO.zfD (id:=0) (l:=[([111,114],4)]) rfl rfl rfl rfl ⟨by decide,by decide⟩ (by decide) (leB) rfl ?_)|fail)
  exact zwfr
 split
 ·refine so Tryz.func127 ?_
  repeat' (first|refine wu ?_|exact wkc|intro hc|refine wk2 ?_ ?_|(apply TO.makeMap 9 3;exact rfl)|(refine TO.zfD (id:=0) (l:=[]) rfl rfl rfl rfl ⟨by decide,by decide⟩ (by decide) (leB) rfl ?_)|fail)
  exact zwfr
 split
 ·refine so Tryz.func127 ?_
  repeat' (first|refine wu ?_|exact wkc|intro hc|refine wk2 ?_ ?_|(apply TO.makeMap 9 3;exact rfl)|(refine TO.zfD (id:=0) (l:=[]) rfl rfl rfl rfl ⟨by decide,by decide⟩ (by decide) (leB) rfl ?_)|(refine TO.zfD (id:=0) (l:=[([61],11)]) rfl rfl rfl rfl ⟨by decide,by decide⟩ (by decide) (leB) rfl ?_)|(refine TO.zfD (id:=0) (l:=[([61],11),([60,62],12)]) rfl rfl rfl rfl ⟨by decide,by decide⟩ (by decide) (leB) rfl ?_)|(refine TO.zfD (id:=0) (l:=[([61],11),([60,62],12),([60],13)]) rfl rfl rfl rfl ⟨by decide,by decide⟩ (by decide) (leB) rfl ?_)|(refine TO.zfD (id:=0) (l:=[([61],11),([60,62],12),([60],13),([60,61],14)]) rfl rfl rfl rfl ⟨by decide,by decide⟩ (by decide) (leB) rfl ?_)|(refine TO.zfD (id:=0) (l:=[([61],11),([60,62],12),([60],13),([60,61],14),([62],15)]) rfl rfl rfl rfl ⟨by decide,by decide⟩ (by decide) (leB) rfl ?_)|fail)
  exact zwfr
 split
 ·refine so Tryz.func127 ?_
  repeat' (first|refine wu ?_|exact wkc|intro hc|refine wk2 ?_ ?_|(apply TO.makeMap 9 3;exact rfl)|(refine TO.zfD (id:=0) (l:=[]) rfl rfl rfl rfl ⟨by decide,by decide⟩ (by decide) (leB) rfl ?_)|(refine TO.zfD (id:=0) (l:=[([43],6)]) rfl rfl rfl rfl ⟨by decide,by decide⟩ (by decide) (leB) rfl ?_)|fail)
  exact zwfr
 ·refine so Tryz.func127 ?_
  repeat' (first|refine wu ?_|exact wkc|intro hc|refine wk2 ?_ ?_|(apply TO.makeMap 9 3;exact rfl)|(refine TO.zfD (id:=0) (l:=[]) rfl rfl rfl rfl ⟨by decide,by decide⟩ (by decide) (leB) rfl ?_)|(refine TO.zfD (id:=0) (l:=[([42],8)]) rfl rfl rfl rfl ⟨by decide,by decide⟩ (by decide) (leB) rfl ?_)|(refine TO.zfD (id:=0) (l:=[([42],8),([47],9)]) rfl rfl rfl rfl ⟨by decide,by decide⟩ (by decide) (leB) rfl ?_)|fail)
  exact zwfr
def symL:List (Int×Str):=[(3,[97,110,100]),(4,[111,114]),(5,[120,111,114]),(6,[43]),(7,[45]),(8,[42]),(9,[47]),(10,[109,111,100]),(11,[61]),(12,[60,62]),(13,[60]),(14,[60,61]),(15,[62]),(16,[62,61])]
abbrev syL (l:List (Int×Str)):List (Value×T):=l.map fun e=>(.int .i64 e.1,.s e.2)
abbrev syB (l:List (Int×Str)):Blk:=.map 3 9 (syL l)
abbrev symB:Blk:=syB symL
def symS(o:Int):Str:=((symL.find? fun e=>decide (e.1=o)).map fun e=>e.2).getD [62,61]
theorem zvj:Maps.Keyed Tryz.prog 3:=Maps.int_keyed Tryz.underlying3
theorem keyI(n:Int)(h:3≤n/\n≤16):∃l,keyOf Tryz.prog 3 (.int .i64 n)=some l:=⟨.int .i64 n,by
 have hw:(Lit.int IntKind.i64 n).wf=true:=by simp[Lit.wf,show IntKind.min .i64= -9223372036854775808 from rfl,show IntKind.max .i64=9223372036854775807 from rfl];omega
 simp[keyOf,Tryz.underlying3,mapKey,hw]⟩
theorem zth(l:List (Int×Str))(h:∀e∈l,3≤e.1/\e.1≤16):zg2 Tryz.prog 3 (syL l):=by
 intro j e he
 rw[qar]at he
 cases hq:l[j]? with
 | none=>rw[hq]at he;cases he
 | some s=>rw[hq]at he;cases he;exact keyI _ (h s (qas hq))
theorem zuD{o:Int}(h:3≤o/\o≤16):zjY (syL symL) (.int .i64 o) (some (.s (symS o))):=by
 refine⟨(o-3).toNat,?_,fun j t' hj=>?_⟩
 ·rcases(by omega:o=3\/o=4\/o=5\/o=6\/o=7\/o=8\/o=9\/o=10\/o=11\/o=12\/o=13\/o=14\/o=15\/o=16)with h|h|h|h|h|h|h|h|h|h|h|h|h|h <;> (subst h;rfl)
 ·match j with
  | 0|1|2|3|4|5|6|7|8|9|10|11|12|13=>simp[syL,symL]at hj;omega
  | j+14=>simp[syL,symL]at hj
section
variable {n:Nat}{env:Env}{K:TK}{all:Array Oper}{rest:List Oper}{d id:Nat}{ty:TypeId}{pos:String}{aft:Array Edge}{H:Heap}{x y w:Operand}{q:Bool}
theorem TO.zvS{o:Int}(hd:Nat.ble (d+1) n=true)(hx:env.val x=some (.mp id))(hH:H[id]?=some symB)(hy:env.val y=some (.i o))(h:3≤o/\o≤16)
  (k:TO q Tryz.prog n all rest ((d,.s (symS o))::env) H K):TO q Tryz.prog n all (⟨some d,.lookup 62 x y false,ty,pos,aft,none⟩::rest) env H K:=by
 refine TO.lookup zaf hd rfl rfl rfl rfl rfl zvj hx hH (zth _ (by decide)) hy (kx:=.int .i64 o) (fun m v h=>h.v_eq) (keyI o h) (zuD h) ?_
 exact k
theorem TO.zdk{l:List (Int×Str)}{o:Int}{s:Str}{H':Heap}(hx:env.val x=some (.mp id))(hH:H[id]?=some (syB l))(hy:env.val y=some (.i o))(hw:env.val w=some (.s s))(hn:(l.all fun e=>!decide (e.1=o))=true)(hl:∀e∈l,3≤e.1/\e.1≤16)(ho:3≤o/\o≤16)
  (hH':setS H id (syB (l++[(o,s)]))=some H')(kk:TO false Tryz.prog n all rest env H' K):
  TO false Tryz.prog n all (⟨none,.insert 62 x y w,ty,pos,aft,none⟩::rest) env H K:=by
 refine TO.zpL ?_
 have hp:zoS (syL l) (.int .i64 o) (.s s) (syL (l++[(o,s)])):=by
  refine .inr ⟨?_,by simp[syL]⟩
  intro j e he e2
  rw[qar]at he
  cases hq:l[j]? with
  | none=>rw[hq]at he;cases he
  | some u=>
    rw[hq]at he;cases he
    have h1:=qaw.1 hn u (qas hq)
    simp only[qbs,decide_eq_false_iff_not]at h1
    exact h1 (by simpa using e2)
 refine TO.mapUpdate zaf rfl rfl zvj hx hH (zth l hl) hy (kx:=.int .i64 o) (fun m v h=>h.v_eq) (keyI o ho) hw rfl hp (zf9 hH').symm kk
end
set_option maxHeartbeats 4000000 in
theorem zhC (es:List En):Sound Tryz.prog 17 [.t (ensT es)] [] (fun r H'=>r= .ret (.ag [.t (ensT es),.mp 1])/\H'=[.cells [.t (ensT es),.mp 1],symB]):=by
 refine so Tryz.func17 ?_
 repeat' (first|refine wkb ?_|(apply TO.makeMap 3 9;exact rfl)|(refine TO.zdk (id:=1) (l:=[]) rfl rfl rfl rfl (by decide) (by decide) (by decide) rfl ?_)|(refine TO.zdk (id:=1) (l:=[(3,[97,110,100])]) rfl rfl rfl rfl (by decide) (by decide) (by decide) rfl ?_)|(refine TO.zdk (id:=1) (l:=[(3,[97,110,100]),(4,[111,114])]) rfl rfl rfl rfl (by decide) (by decide) (by decide) rfl ?_)|(refine TO.zdk (id:=1) (l:=[(3,[97,110,100]),(4,[111,114]),(5,[120,111,114])]) rfl rfl rfl rfl (by decide) (by decide) (by decide) rfl ?_)|(refine TO.zdk (id:=1) (l:=[(3,[97,110,100]),(4,[111,114]),(5,[120,111,114]),(6,[43])]) rfl rfl rfl rfl (by decide) (by decide) (by decide) rfl ?_)|(refine TO.zdk (id:=1) (l:=[(3,[97,110,100]),(4,[111,114]),(5,[120,111,114]),(6,[43]),(7,[45])]) rfl rfl rfl rfl (by decide) (by decide) (by decide) rfl ?_)|(refine TO.zdk (id:=1) (l:=[(3,[97,110,100]),(4,[111,114]),(5,[120,111,114]),(6,[43]),(7,[45]),(8,[42])]) rfl rfl rfl rfl (by decide) (by decide) (by decide) rfl ?_)|(refine TO.zdk (id:=1) (l:=[(3,[97,110,100]),(4,[111,114]),(5,[120,111,114]),(6,[43]),(7,[45]),(8,[42]),(9,[47])]) rfl rfl rfl rfl (by decide) (by decide) (by decide) rfl ?_)|(refine TO.zdk (id:=1) (l:=[(3,[97,110,100]),(4,[111,114]),(5,[120,111,114]),(6,[43]),(7,[45]),(8,[42]),(9,[47]),(10,[109,111,100])]) rfl rfl rfl rfl (by decide) (by decide) (by decide) rfl ?_)|(refine TO.zdk (id:=1) (l:=[(3,[97,110,100]),(4,[111,114]),(5,[120,111,114]),(6,[43]),(7,[45]),(8,[42]),(9,[47]),(10,[109,111,100]),(11,[61])]) rfl rfl rfl rfl (by decide) (by decide) (by decide) rfl ?_)|(refine TO.zdk (id:=1) (l:=[(3,[97,110,100]),(4,[111,114]),(5,[120,111,114]),(6,[43]),(7,[45]),(8,[42]),(9,[47]),(10,[109,111,100]),(11,[61]),(12,[60,62])]) rfl rfl rfl rfl (by decide) (by decide) (by decide) rfl ?_)|(refine TO.zdk (id:=1) (l:=[(3,[97,110,100]),(4,[111,114]),(5,[120,111,114]),(6,[43]),(7,[45]),(8,[42]),(9,[47]),(10,[109,111,100]),(11,[61]),(12,[60,62]),(13,[60])]) rfl rfl rfl rfl (by decide) (by decide) (by decide) rfl ?_)|(refine TO.zdk (id:=1) (l:=[(3,[97,110,100]),(4,[111,114]),(5,[120,111,114]),(6,[43]),(7,[45]),(8,[42]),(9,[47]),(10,[109,111,100]),(11,[61]),(12,[60,62]),(13,[60]),(14,[60,61])]) rfl rfl rfl rfl (by decide) (by decide) (by decide) rfl ?_)|(refine TO.zdk (id:=1) (l:=[(3,[97,110,100]),(4,[111,114]),(5,[120,111,114]),(6,[43]),(7,[45]),(8,[42]),(9,[47]),(10,[109,111,100]),(11,[61]),(12,[60,62]),(13,[60]),(14,[60,61]),(15,[62])]) rfl rfl rfl rfl (by decide) (by decide) (by decide) rfl ?_)|refine wk ?_|fail)
 exact RetK.keep 2 rfl (Le.refl _) rfl rfl rfl rfl rfl ⟨rfl,rfl⟩
structure ShE (es:List En):Prop where
 len:es.length≤1000000000
 tags:∀u∈es,u.tags.length≤1000000000
 small:∀u∈es,∀t∈u.tags,t.length≤3000000
def valS(es:List En)(t v:Int):Str:=(ziv es t v).1
theorem zng(v:I64):(Go.Lib.itoa v.1).length≤30:=by
 obtain⟨v,h1,h2⟩:=v
 unfold Go.Lib.itoa
 have:=zdN 20 v.natAbs (by omega)
 have:=zdN 20 v.toNat (by omega)
 dsimp only
 split
 ·rw[qal];omega
 ·omega
theorem zeH{es:List En}(h:ShE es)(t v:I64):(valS es t.1 v.1).length≤3000030:=by
 unfold valS ziv
 split
 ·exact qaJ _
 split
 ·exact qaJ _
 split
 ·split
  ·exact leB
  ·exact leB
 split
 ·have:=zng v
  dsimp only
  omega
 ·dsimp only
  rename_i h1 h2 h3 h4
  cases hx:(za5 es t.1).1.tags[v.1.toNat]? with
  | none=>exact qaJ _
  | some g=>
    have hg:=qas hx
    obtain⟨g1,g2,g3,g4⟩:=zhp (by simpa using h1) h3 h4
    rw[g4]at hg
    have:=h.small _ (qaf g3) g hg
    simp only[qbm]
    omega
abbrev wr (es:List En):SV:=.ag [.t (ensT es),.mp 0]
theorem zdm{es:List En}(h:ShE es)(t v:I64):Sound Tryz.prog 41 [wr es,.n t,.n v] [symB] (fun r H'=>r= .ret (.s (valS es t.1 v.1))/\H'=[symB]):=by
 have ht:=zmE es t v h.len h.tags
 unfold valS
 generalize ziv es t.1 v.1=z at*
 refine so Tryz.func41 ?_
 repeat' (first|refine wu ?_|exact wkc|intro hc|refine wk2 ?_ ?_|refine wv ht ?_|fail)
 exact zwfr
def smpS(es:List En)(o:OnC):Str:=[119,104,101,110,32]++valS es o.t.1 o.tag.1++[40]++o.name++[41]
theorem zjM{es:List En}(h:ShE es)(o:OnC)(hn:o.name.length≤3000000):(smpS es o).length≤6000040:=by
 have:=zeH h o.t o.tag
 exact zwex
set_option maxHeartbeats 4000000 in
theorem zeT {es:List En} (h:ShE es) (o:OnC) (hn:o.name.length≤3000000):Sound Tryz.prog 44 [wr es,.t (onT o)] [symB] (fun r H'=>r= .ret (.s (smpS es o))/\H'=[symB]):=by
 have ht:=zdm h o.t o.tag
 have hl:=zeH h o.t o.tag
 unfold smpS
 generalize valS es o.t.1 o.tag.1=z at*
 obtain⟨nm,t,v⟩:=o
 dsimp only at*
 refine so Tryz.func44 ?_
 refine wkt ?_
 refine zqj ?_
 refine wkt ?_
 refine rgS [wr es,.cp [.s nm,T.n t,T.n v] 1,.n t,.cp [.s nm,T.n t,T.n v] 2,.n v,.s z,.s ([119,104,101,110,32]++z),.s ([119,104,101,110,32]++z++[40]),.cp [.s nm,T.n t,T.n v] 0,.s nm,.s ([119,104,101,110,32]++z++[40]++nm),.s ([119,104,101,110,32]++z++[40]++nm++[41]),.s ([119,104,101,110,32]++z++[40]++nm++[41])] ?_ ?_
 ·repeat' (first|refine wkt ?_|refine wd ht ?_|refine zqc ?_|exact trivial|exact⟨⟨rfl,rfl⟩,trivial⟩|refine qai (fun env=>?_) ?_|refine wk ?_|exact wkc|intro hc|refine wk2 ?_ ?_|fail)
  done
 ·repeat' (first|refine wu ?_|exact wkc|intro hc|refine wk2 ?_ ?_|fail)
  exact zwfr
def zox(e:Ex):Bool:=decide (e.kind.1=2\/e.kind.1=11\/e.kind.1=10\/e.kind.1=1/\(e.t.1≠2\/0≤e.v.1))
def grS(f:Ex->Str)(e:Ex):Str:=if zox e=true then f e else[40]++f e++[41]
def zgE(f:Ex->Str)(o:Int):List Ex->Str
 | [a]=>if o=1 then[110,111,116,32]++grS f a else if a.kind.1=1/\a.t.1=2 then[45,40]++f a++[41] else[45]++grS f a
 | [a,b]=>grS f a++[32]++symS o++[32]++grS f b
 | _=>[]
def brV(t:Int)(i:Nat):Int:=if t=1 then 1-(i:Int) else i
def zbc(es:List En)(f:Ex->Str)(t:Int)(args:List Ex)(s:Str):Nat->Str
 | 0=>s
 | i+1=>zbc es f t args s i++([32,40]++valS es t (brV t i)++[32,45,62,32]++((args[(brV t i).toNat]?).map f).getD []++[41])
def zeX(f:Ex->Str)(v:Int)(nm:Str)(args:List Ex):Str:=
 if v=1 then nm++[40]++Go.Lib.join ((args.take (args.length-1)).map f) [44,32]++[41]++([32,101,118,101,114,121,32]++((args[args.length-1]?).map (grS f)).getD [])
 else nm++[40]++Go.Lib.join (args.map f) [44,32]++[41]
def shE(es:List En)(f:Ex->Str)(e:Ex):Str:=
 if e.kind.1=1 then valS es e.t.1 e.v.1
 else if e.kind.1=3 then zgE f e.op.1 e.args
 else if e.kind.1=4 then(match e.args with|[a,b,c]=>[105,102,32]++f a++[32,116,104,101,110,32]++f b++[32,101,108,115,101,32]++f c|_=>[])
 else if e.kind.1=5 then(match e.args with|[a]=>[112,114,101,32]++grS f a|_=>[])
 else if e.kind.1=6 then(match e.args with|[a,b]=>grS f a++[32,45,62,32]++grS f b|_=>[])
 else if e.kind.1=7 then(match e.args with|[a,b]=>grS f a++[32,102,98,121,32]++grS f b|_=>[])
 else if e.kind.1=8 then(match e.args with|[a]=>grS f a++[32]++smpS es ⟨e.name,e.t,e.v⟩|_=>[])
 else if e.kind.1=9 then zbc es f e.t.1 e.args ([109,101,114,103,101,32]++e.name) e.args.length
 else if e.kind.1=10 then zeX f e.v.1 e.name e.args
 else if e.kind.1=11 then[39]++e.name++[39]
 else e.name
def shF(es:List En):Nat->Ex->Str
 | 0,_=>[]
 | m+1,e=>shE es (shF es m) e
structure ShA (e:Ex):Prop where
 few:e.args.length≤64
 name:e.name.length≤3000000
 kind:1≤e.kind.1/\e.kind.1≤11
 v1:e.kind.1=1->e.t.1=2->-32768≤e.v.1/\e.v.1≤32767
 o3:e.kind.1=3->1≤e.op.1/\e.op.1≤16/\(e.args.length:Int)=opdI e.op.1
 k4:e.kind.1=4->e.args.length=3
 k5:e.kind.1=5\/e.kind.1=8->e.args.length=1
 k6:e.kind.1=6\/e.kind.1=7->e.args.length=2
 t8:e.kind.1=8\/e.kind.1=9->e.t.1≠2
 k9:e.kind.1=9->e.t.1=1->e.args.length=2
 v10:e.kind.1=10->(e.v.1=0\/e.v.1=1)/\e.v.1≤e.args.length
abbrev ShC (F:FuncId)(es:List En)(e:Ex)(s:Str):Prop:=Sound Tryz.prog F [wr es,.t (.ag (exC e))] [symB] (fun r H'=>r= .ret (.s s)/\H'=[symB])
theorem zjB(e:Ex):Pure Tryz.prog 79 [.t (.ag (exC e))] (.b (zox e)):=by
 unfold zox
 obtain⟨⟨k,k1,k2⟩,⟨o,o1,o2⟩,⟨t,t1,t2⟩,⟨v,v1,v2⟩,nm,args⟩:=e
 dsimp only[exC,Ex.kind,Ex.op,Ex.t,Ex.v,Ex.name,Ex.args]
 generalize args.map exT=la
 refine so Tryz.func79 ?_
 repeat' (first|refine wu ?_|exact wkc|intro hc|refine wk2 ?_ ?_|fail)
 all_goals
  refine RetK.pure rfl (Le.of_eq ?_) rfl
  first|(simp_all [pack];done)|(simp_all [pack];omega)
theorem zdW{es:List En}{f:Ex->Str}{e:Ex}(hf:ShC 18 es e (f e))(hl:(f e).length≤1000000000000000):ShC 43 es e (grS f e):=by
 have hp:=zjB e
 unfold grS
 unfold ShC at*
 generalize f e=s at*
 generalize zox e=b at*
 cases b with
 | true=>
   rw[if_pos rfl]
   have he:exC e=[T.n e.kind,T.n e.op,T.n e.t,T.n e.v,.s e.name,.sl 6 (e.args.map exT)]:=rfl
   rw[he]at*
   refine so Tryz.func43 ?_
   refine wkt ?_
   refine zqj ?_
   repeat' (first|refine wkt ?_|refine wv hp ?_|refine wd hf ?_|refine wk ?_|fail)
   exact RetK.keep 1 rfl (Le.refl _) rfl rfl rfl rfl rfl ⟨rfl,rfl⟩
 | false=>
   rw[if_neg (by decide)]
   have he:exC e=[T.n e.kind,T.n e.op,T.n e.t,T.n e.v,.s e.name,.sl 6 (e.args.map exT)]:=rfl
   rw[he]at*
   refine so Tryz.func43 ?_
   refine wkt ?_
   refine zqj ?_
   repeat' (first|refine wkt ?_|refine wv hp ?_|refine wd hf ?_|refine zqc ?_|refine wk ?_|fail)
   exact RetK.keep 1 rfl (Le.refl _) rfl rfl rfl rfl rfl ⟨rfl,rfl⟩
theorem LxP.thn{A B:Str}{Ka Kb:List Tk}(hA:LxP A Ka)(hB:LxP B Kb):LxP (A++32::B) (Ka++Kb):=hA.app (hB.blank (by decide)) ⟨32,B,rfl,by decide⟩
theorem LxP.cnc{A B:Str}{t:Tk}{Kb:List Tk}(hA:LxP A [t])(hB:LxP B Kb):LxP (A++32::B) (t::Kb):=hA.thn hB
theorem LxP.brk{A:Str}{Ka:List Tk}(hA:LxP A Ka):LxP (40::(A++[41])) (tL::(Ka++[tR])):=(hA.app (LxP.cl LxP.emp) ⟨41,[],rfl,by decide⟩).br
theorem LxP.nam{k:Int}{x:Str}(hk:k≠5)(h:zeI k x):LxP x [(k,x)]:=by
 have:=LxP.tok h
 have e:zax (k,x,0)=x:=by unfold zax;rw[if_neg (by simpa using hk)]
 rw[e]at this;exact this
theorem zb5{x:Str}(h:∃c w,x=c::w/\letter c.toNat=true/\(∀d∈x,inner d.toNat=true)/\zcK x=(3,x,0)):LxP x [(3,x)]:=LxP.nam (by decide) (.inl h)
theorem zc4{x:Str}(h:x∈zci):LxP x [(4,x)]:=LxP.nam (by decide) (.inr (.inr (.inr ⟨rfl,h⟩)))
def HdO(T:Str):Prop:=∃c r,T=c::r/\c≠45/\c≠62
theorem HdO.name{s:Str}(h:zeI 1 s)(R:Str):HdO (s++R):=by
 rcases h with ⟨c,w,rfl,hc,_,_⟩|⟨c,w,_,_,h⟩|⟨h,_⟩|⟨h,_⟩
 ·refine⟨c,w++R,rfl,?_,?_⟩ <;> (rintro rfl;revert hc;decide)
 ·exact absurd (zns h).1 (by decide)
 ·exact absurd h (by decide)
 ·exact absurd h (by decide)
theorem zui{o:Int}(h1:3≤o)(h2:o≤16):LxP (symS o) [opTk o]:=by
 have:o=3\/o=4\/o=5\/o=6\/o=7\/o=8\/o=9\/o=10\/o=11\/o=12\/o=13\/o=14\/o=15\/o=16:=by omega
 rcases this with rfl|rfl|rfl|rfl|rfl|rfl|rfl|rfl|rfl|rfl|rfl|rfl|rfl|rfl
 case inl=>exact zb5 (x:=[97,110,100]) ⟨_,_,rfl,by decide,by decide,by decide⟩
 case inr.inl=>exact zb5 (x:=[111,114]) ⟨_,_,rfl,by decide,by decide,by decide⟩
 case inr.inr.inl=>exact zb5 (x:=[120,111,114]) ⟨_,_,rfl,by decide,by decide,by decide⟩
 case inr.inr.inr.inl=>exact zc4 (x:=[43]) (by decide)
 case inr.inr.inr.inr.inl=>exact zc4 (x:=[45]) (by decide)
 case inr.inr.inr.inr.inr.inl=>exact zc4 (x:=[42]) (by decide)
 case inr.inr.inr.inr.inr.inr.inl=>exact zc4 (x:=[47]) (by decide)
 case inr.inr.inr.inr.inr.inr.inr.inl=>exact zb5 (x:=[109,111,100]) ⟨_,_,rfl,by decide,by decide,by decide⟩
 case inr.inr.inr.inr.inr.inr.inr.inr.inl=>exact zc4 (x:=[61]) (by decide)
 case inr.inr.inr.inr.inr.inr.inr.inr.inr.inl=>exact zc4 (x:=[60,62]) (by decide)
 case inr.inr.inr.inr.inr.inr.inr.inr.inr.inr.inl=>exact zc4 (x:=[60]) (by decide)
 case inr.inr.inr.inr.inr.inr.inr.inr.inr.inr.inr.inl=>exact zc4 (x:=[60,61]) (by decide)
 case inr.inr.inr.inr.inr.inr.inr.inr.inr.inr.inr.inr.inl=>exact zc4 (x:=[62]) (by decide)
 case inr.inr.inr.inr.inr.inr.inr.inr.inr.inr.inr.inr.inr=>exact zc4 (x:=[62,61]) (by decide)
structure ztt (T:Str) (K:List Tk) (O:Str) (KO:List Tk):Prop where
 t:LxP T K
 o:LxP O KO
 hd:HdO O
theorem zwU{f:Ex->Str}{g:Ex->List Tk}{e:Ex}(h:LxP (f e) (g e))(hd:zox e=true->HdO (f e)):ztt (f e) (g e) (grS f e) (tkO g e):=by
 unfold grS tkO
 have hpp:zgF e=zox e:=rfl
 rw[hpp]
 split
 ·rename_i hp
  exact⟨h,h,hd hp⟩
 ·refine⟨h,?_,40,f e++[41],rfl,by decide,by decide⟩
  exact h.brk
theorem zpM{f:Ex->Str}{g:Ex->List Tk}:∀(l:List Ex),(∀x∈l,LxP (f x) (g x))->LxP (Go.Lib.join (l.map f) [44,32]) (zgA (l.map fun x=>(x,g x)))
 | [],_=>LxP.emp
 | x::l,h=>by
   rw[qah,Go.Lib.join_cons,qah]
   have tl:∀(l:List Ex),(∀x∈l,LxP (f x) (g x))->LxP (Go.Lib.joinTail [44,32] (l.map f)) (zfR (l.map fun x=>(x,g x))):=by
    intro l
    induction l with
    | nil=>intro _;exact LxP.emp
    | cons y l ih=>
      intro h
      have h1:=h y qak
      have h2:=ih (fun z hz=>h z (qan _ hz))
      rw[qah,qah,zex]
      have e:Go.Lib.joinTail [44,32] (f y::l.map f)=44::32::(f y++Go.Lib.joinTail [44,32] (l.map f)):=by simp[Go.Lib.joinTail]
      rw[e]
      refine LxP.comma (LxP.blank (by decide) ?_)
      cases l with
      | nil=>
        have e1:Go.Lib.joinTail [44,32] (([]:List Ex).map f)=[]:=rfl
        rw[e1,qaG]
        show LxP (f y) (g y++[])
        rw[qaG];exact h1
      | cons z l=>
        refine h1.app h2 ⟨44,_,by simp[Go.Lib.joinTail];rfl,by decide⟩
   have h1:=h x qak
   have h2:=tl l (fun z hz=>h z (qan _ hz))
   cases l with
   | nil=>
     have e1:Go.Lib.joinTail [44,32] (([]:List Ex).map f)=[]:=rfl
     rw[e1,qaG]
     show LxP (f x) (g x++[])
     rw[qaG];exact h1
   | cons z l=>exact h1.app h2 ⟨44,_,by simp[Go.Lib.joinTail];rfl,by decide⟩
theorem zvo:LxP [119,104,101,110] [zlk]:=zb5 ⟨_,_,rfl,by decide,by decide,by decide⟩
theorem zwB:LxP [110,111,116] [tNot]:=zb5 ⟨_,_,rfl,by decide,by decide,by decide⟩
theorem kwIf:LxP [105,102] [tIf]:=zb5 ⟨_,_,rfl,by decide,by decide,by decide⟩
theorem zvn:LxP [116,104,101,110] [zoM]:=zb5 ⟨_,_,rfl,by decide,by decide,by decide⟩
theorem zvm:LxP [101,108,115,101] [zoL]:=zb5 ⟨_,_,rfl,by decide,by decide,by decide⟩
theorem zwC:LxP [112,114,101] [tPre]:=zb5 ⟨_,_,rfl,by decide,by decide,by decide⟩
theorem zwA:LxP [102,98,121] [tFby]:=zb5 ⟨_,_,rfl,by decide,by decide,by decide⟩
theorem zt5:LxP [109,101,114,103,101] [zfJ]:=zb5 ⟨_,_,rfl,by decide,by decide,by decide⟩
theorem zt4:LxP [101,118,101,114,121] [zlj]:=zb5 ⟨_,_,rfl,by decide,by decide,by decide⟩
theorem zvl:LxP [45,62] [tArr]:=zc4 (by decide)
theorem zvQ{es:List En}{o:OnC}(h:LxP (valS es o.t.1 o.tag.1) [tgTk es o.t.1 o.tag.1])(hn:zeI 1 o.name):LxP (smpS es o) [zlk,tgTk es o.t.1 o.tag.1,tL,(1,o.name),tR]:=by
 have e:smpS es o=[119,104,101,110]++32::(valS es o.t.1 o.tag.1++40::(o.name++[41])):=by unfold smpS;simp
 rw[e]
 exact zvo.cnc (h.app (LxP.brk (LxP.nam (by decide) hn)) ⟨40,_,rfl,by decide⟩)
theorem znl{es:List En}{f:Ex->Str}{g:Ex->List Tk}{t:Int}{args:List Ex}{s:Str}{K0:List Tk}(h0:LxP s K0):∀i,(∀j,j<i->LxP (valS es t (brV t j)) [tgTk es t (brV t j)]/\∃a,args[(brV t j).toNat]?=some a/\LxP (f a) (g a))->
  LxP (zbc es f t args s i) (K0++((List.range i).map fun j=>brTk (tgTk es t (brV t j),((args[(brV t j).toNat]?).map g).getD [])).flatten)
 | 0,_=>by simpa [zbc]using h0
 | i+1,h=>by
   have ih:=znl h0 i (fun j hj=>h j (by omega))
   obtain⟨h1,a,h2,h3⟩:=h i (qbD i)
   have e:([32,40]++valS es t (brV t i)++[32,45,62,32]++((some a).map f).getD []++[41]:Str)=32::40::((valS es t (brV t i)++32::([45,62]++32::f a))++[41]):=by simp
   rw[zbc,h2,e,List.range_succ,qaH,qbB]
   have h4:=(h1.cnc (zvl.cnc h3)).brk
   have h5:=ih.app (LxP.blank (c:=32) (by decide) h4) ⟨32,_,rfl,by decide⟩
   simp only[qah,qaC,qa3,qb3,qaG,h2,qaW,qbm]
   rw[<-qaO]
   exact h5
end Go.Proofs.YthmbhfgflijapaaGreatDoor
