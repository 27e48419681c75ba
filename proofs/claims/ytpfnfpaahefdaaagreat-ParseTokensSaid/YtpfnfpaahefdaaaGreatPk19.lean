import Derived.DeepKeys5
import Derived.Test.YtpfnfpaahefdaaaGreatPk18
set_option linter.all false
namespace Go.Proofs.YtpfnfpaahefdaaaGreat
open Go Go.TL
attribute [local irreducible] TR TO Then zab RetK Sound zac Kf GG za2
theorem zqM:Maps.Keyed Tryz.prog 9:=Maps.string_keyed Tryz.underlying9
theorem keyP{s:Str}(h:s.length≤1000000000):∃l,keyOf Tryz.prog 9 (str s)=some l:=by
 refine⟨.string s,?_⟩
 have:(⟨s.toArray⟩:ByteArray).size≤maxLen:=by
  show s.toArray.size≤maxLen
  simp[maxLen];omega
 simp[keyOf,Tryz.underlying9,mapKey,this]
theorem zkV{a b:Str}(h:str a=str b):a=b:=by
 simp only[str,Value.string.injEq,ByteArray.mk.injEq]at h
 simpa using h
abbrev opL (l:List (Str×Int)):List (Value×T):=l.map fun e=>(str e.1,.v (.int .i64 e.2))
abbrev opB (l:List (Str×Int)):Blk:=.map 9 3 (opL l)
def ziN(l:List (Str×Int))(s:Str):Option Int:=(l.find? fun e=>decide (e.1=s)).map fun e=>e.2
structure OpOk (l:List (Str×Int)):Prop where
 nodup:(l.map fun e=>e.1).Nodup
 short:∀e∈l,e.1.length≤1000000000
theorem OpOk.keys{l:List (Str×Int)}(h:OpOk l):zj9 Tryz.prog 9 (opL l):=by
 intro j e he
 rw[qar]at he
 cases hq:l[j]? with
 | none=>rw[hq]at he;cases he
 | some s=>rw[hq]at he;cases he;exact keyP (h.short s (qaB hq))
theorem zo5{l:List (Str×Int)}(h:OpOk l)(s:Str):zoO (opL l) (str s) ((ziN l s).map fun v=>.v (.int .i64 v)):=by
 unfold ziN
 cases hf:l.find? (fun e=>decide (e.1=s)) with
 | none=>
   rw[List.find?_eq_none]at hf
   intro j e he e2
   rw[qar]at he
   cases hq:l[j]? with
   | none=>rw[hq]at he;cases he
   | some x=>
     rw[hq]at he;cases he
     exact hf x (qaB hq) (by simpa using zkV e2)
 | some e=>
   have hm:=List.mem_of_find?_eq_some hf
   have hp:=List.find?_some hf
   simp only[decide_eq_true_eq]at hp
   obtain⟨j,hj⟩:=qa6 hm
   refine⟨j,by simp[opL,hj,hp],fun j' t' h'=>?_⟩
   rw[qar]at h'
   cases hq:l[j']? with
   | none=>rw[hq]at h';cases h'
   | some x=>
     rw[hq]at h'
     simp only[qaX,qaD,qbs]at h'
     have h1:=zkV h'.1
     have e1:(l.map fun e=>e.1)[j']?=some s:=by simp[hq,h1]
     have e2:(l.map fun e=>e.1)[j]?=some s:=by simp[hj,hp]
     exact(List.getElem?_inj (qaa.1 e1).1 h.nodup).1 (e1.trans e2.symm)
section
variable {n:Nat}{env:Env}{K:TK}{all:Array Oper}{rest:List Oper}{d id:Nat}{ty:TypeId}{pos:String}{aft:Array Edge}{H:Heap}{x y w:Operand}{q:Bool}
theorem TO.zpB{P:Program}{t:TypeId}(k:TO false P n all (⟨none,.mapUpdate t x y w,ty,pos,aft,none⟩::rest) env H K):TO false P n all (⟨none,.insert t x y w,ty,pos,aft,none⟩::rest) env H K:=by
 unfold Go.TL.TO at k⊢
 intro φ m a h1 h2 h3 h4
 have h:=k φ m a h1 h2 h3 h4
 simp only[wpListIn]at h⊢
 rw[if_pos (show Region.wanted _ _=true from rfl)]at h⊢
 unfold Oper.wpIn at h⊢
 refine⟨fun _ _=>trivial,?_⟩
 have e:∀r,Oper.semAt r a.eval ⟨none,.insert t x y w,ty,pos,aft,none⟩=Oper.semAt r a.eval ⟨none,.mapUpdate t x y w,ty,pos,aft,none⟩:=fun r=>by
  rw[Oper.semAt_eq _ _ _ (by intro c e;cases e),Oper.semAt_eq _ _ _ (by intro c e;cases e)]
  simp only[execOp]
 rw[e]
 have h5:=h.2
 unfold Oper.uponIn at h5⊢
 exact h5
theorem TO.zeK{l:List (Str×Int)}{s:Str}{v:Int}{H':Heap}(hx:env.val x=some (.mp id))(hH:H[id]?=some (opB l))(hy:env.val y=some (.s s))(hw:env.val w=some (.i v))(hl:OpOk l)(hn:ziN l s=none)(hs:s.length≤1000000000)
  (hH':setS H id (opB (l++[(s,v)]))=some H')(kk:TO false Tryz.prog n all rest env H' K):
  TO false Tryz.prog n all (⟨none,.insert 158 x y w,ty,pos,aft,none⟩::rest) env H K:=by
 have hg:=zo5 hl s
 rw[hn]at hg
 refine TO.zpB ?_
 exact TO.mapUpdate zaa rfl rfl zqM hx hH hl.keys hy (kx:=str s) (fun m v h=>h.v_eq) (keyP hs) hw rfl (.inr ⟨hg,by rw[opL,qav];rfl⟩) (zjR hH').symm kk
theorem TO.ziN{l:List (Str×Int)}{s:Str}(hd:Nat.ble (d+1) n=true)(hx:env.val x=some (.mp id))(hH:H[id]?=some (opB l))(hy:env.val y=some (.s s))(hl:OpOk l)(hs:s.length≤1000000000)
  {r:Option Int}(hr:Go.Proofs.YtpfnfpaahefdaaaGreat.ziN l s=r)(k:TO q Tryz.prog n all rest ((d,.tup [.i (r.getD 0),.b r.isSome])::env) H K):
  TO q Tryz.prog n all (⟨some d,.lookup 158 x y true,ty,pos,aft,none⟩::rest) env H K:=by
 refine TO.lookup zaa hd rfl rfl rfl rfl rfl zqM hx hH hl.keys hy (kx:=str s) (fun m v h=>h.v_eq) (keyP hs) (zo5 hl s) ?_
 rw[hr]
 cases r <;> exact k
end
def opsL(n:Int):List (Str×Int):=
 if n=0 then[([111,114],4),([120,111,114],5)]
 else if n=1 then[([97,110,100],3)]
 else if n=3 then[([61],11),([60,62],12),([60],13),([60,61],14),([62],15),([62,61],16)]
 else if n=4 then[([43],6),([45],7)]
 else[([42],8),([47],9),([109,111,100],10)]
theorem zpO(n:Int):OpOk (opsL n):=by
 unfold opsL
 split
 ·exact⟨by decide,by decide⟩
 split
 ·exact⟨by decide,by decide⟩
 split
 ·exact⟨by decide,by decide⟩
 split
 ·exact⟨by decide,by decide⟩
 ·exact⟨by decide,by decide⟩
set_option maxHeartbeats 1000000 in
theorem zii (n:Int):Sound Tryz.prog 96 [.i n] [] (fun r H'=>r= .ret (.mp 0)/\H'=[opB (opsL n)]):=by
 have e0:OpOk []:=⟨qbB,by simp⟩
 unfold opsL
 split
 ·refine so Tryz.func96 ?_
  repeat' (first|refine wu ?_|exact wkc|intro hc|refine wk2 ?_ ?_|(apply TO.makeMap 9 3;exact rfl)|(refine TO.zeK (id:=0) (l:=[]) rfl rfl rfl rfl ⟨by decide,by decide⟩ (by decide) (leB) rfl ?_)|(refine TO.zeK (id:=0) (l:=[([111,114],4)]) rfl rfl rfl rfl ⟨by decide,by decide⟩ (by decide) (leB) rfl ?_)|fail)
  exact zwfs
 split
 ·refine so Tryz.func96 ?_
  repeat' (first|refine wu ?_|exact wkc|intro hc|refine wk2 ?_ ?_|(apply TO.makeMap 9 3;exact rfl)|(refine TO.zeK (id:=0) (l:=[]) rfl rfl rfl rfl ⟨by decide,by decide⟩ (by decide) (leB) rfl ?_)|fail)
  exact zwfs
 split
 ·refine so Tryz.func96 ?_
  repeat' (first|refine wu ?_|exact wkc|intro hc|refine wk2 ?_ ?_|(apply TO.makeMap 9 3;exact rfl)|(refine TO.zeK (id:=0) (l:=[]) rfl rfl rfl rfl ⟨by decide,by decide⟩ (by decide) (leB) rfl ?_)|(refine TO.zeK (id:=0) (l:=[([61],11)]) rfl rfl rfl rfl ⟨by decide,by decide⟩ (by decide) (leB) rfl ?_)|(refine TO.zeK (id:=0) (l:=[([61],11),([60,62],12)]) rfl rfl rfl rfl ⟨by decide,by decide⟩ (by decide) (leB) rfl ?_)|(refine TO.zeK (id:=0) (l:=[([61],11),([60,62],12),([60],13)]) rfl rfl rfl rfl ⟨by decide,by decide⟩ (by decide) (leB) rfl ?_)|(refine TO.zeK (id:=0) (l:=[([61],11),([60,62],12),([60],13),([60,61],14)]) rfl rfl rfl rfl ⟨by decide,by decide⟩ (by decide) (leB) rfl ?_)|(refine TO.zeK (id:=0) (l:=[([61],11),([60,62],12),([60],13),([60,61],14),([62],15)]) rfl rfl rfl rfl ⟨by decide,by decide⟩ (by decide) (leB) rfl ?_)|fail)
  exact zwfs
 split
 ·refine so Tryz.func96 ?_
  repeat' (first|refine wu ?_|exact wkc|intro hc|refine wk2 ?_ ?_|(apply TO.makeMap 9 3;exact rfl)|(refine TO.zeK (id:=0) (l:=[]) rfl rfl rfl rfl ⟨by decide,by decide⟩ (by decide) (leB) rfl ?_)|(refine TO.zeK (id:=0) (l:=[([43],6)]) rfl rfl rfl rfl ⟨by decide,by decide⟩ (by decide) (leB) rfl ?_)|fail)
  exact zwfs
 ·refine so Tryz.func96 ?_
  repeat' (first|refine wu ?_|exact wkc|intro hc|refine wk2 ?_ ?_|(apply TO.makeMap 9 3;exact rfl)|(refine TO.zeK (id:=0) (l:=[]) rfl rfl rfl rfl ⟨by decide,by decide⟩ (by decide) (leB) rfl ?_)|(refine TO.zeK (id:=0) (l:=[([42],8)]) rfl rfl rfl rfl ⟨by decide,by decide⟩ (by decide) (leB) rfl ?_)|(refine TO.zeK (id:=0) (l:=[([42],8),([47],9)]) rfl rfl rfl rfl ⟨by decide,by decide⟩ (by decide) (leB) rfl ?_)|fail)
  exact zwfs
section rules
variable {P:Program}{n:Nat}{env:Env}{H:Heap}{K:TK}{all:Array Oper}{rest:List Oper}{d:Nat}{ty:TypeId}{pos:String}{aft:Array Edge}
theorem TO.zqy{cargs:List SV}{kt vt:TypeId}{es:List (Value×T)}{f:Operand}{fid:FuncId}{caps:List SV}{args:Array Operand}{ts:Array TypeId}{vs:List SV}
  (hs:Sound P fid cargs [] fun r H'=>r= .ret (.mp 0)/\H'=[.map kt vt es])(hd:Nat.ble (d+1) n=true)
  (hf:env.val f=some (.fn fid caps))(ha:env.vals args.toList=some vs)(hl:Les (vs++caps) cargs)(hu:unders 0 cargs=true)
  (k:TO false P n all rest ((d,.mp H.length)::env) (H++[.map kt vt es]) K):
  TO false P n all (⟨some d,.call { callee:=.value f,args:=args,argTypes:=ts },ty,pos,aft,none⟩::rest) env H K:=
 TO.zcC [] hs hd hf ha (by rw[zbA (N:=0) (fun j hj=>by omega) _ hu];exact hl) hu (zg9 H) (by simp[SV.ren,names]) (by
  simp only[patch,qah,qas,Blk.ren]) k
end rules
theorem rgX(c:Nat){g:Prop}{n:Nat}{env0 envF:Env}{H0 HF:Heap}{K:TK}{id':Nat}{l:List Oper}(t:List (SV×Nat×Nat))(hs:List Heap)
  (hp:zhw Tryz.prog n K c g l.toArray (zbc l.toArray (t.map (·.1)) env0) hs 0 l t hs)(hK:g->K .normal envF HF)
  (hB:(mixB l.toArray ((t.map (·.2)).map fun x=>Nat.blt x.2 x.1) && zo9 l.toArray (t.map (·.2)) hs.length)=true:=by dsimp only[List.map,List.length];decide +kernel)(h0:hs[0]?=some H0:=by exact rfl)
  (hc:Nat.blt c l.length=true:=by exact rfl)(hF:hs[(t.filter efX).length]?=some HF:=by exact rfl)(hE:zbF (zbc l.toArray (t.map (·.1)) env0)=some envF:=by exact rfl):
  TR Tryz.prog n (.region id' l.toArray true) env0 H0 K:=TR.zdz c t hs hmix hB h0 hp hc hF hE hK
theorem zjM(k:Nat)(s:Str):ziN (opsL (k:Int)) s=zlP k s:=by
 unfold opsL zlP ziN
 by_cases h0:k=0
 ·subst h0;rw[if_pos (show((0:Nat):Int)=0 from rfl),if_pos (show(0:Nat)=0 from rfl)];simp only[List.find?];repeat' split
  all_goals simp_all
 rw[if_neg (by omega),if_neg h0]
 by_cases h1:k=1
 ·subst h1;rw[if_pos (show((1:Nat):Int)=1 from rfl),if_pos (show(1:Nat)=1 from rfl)];simp only[List.find?];repeat' split
  all_goals simp_all
 rw[if_neg (by omega),if_neg h1]
 by_cases h3:k=3
 ·subst h3;rw[if_pos (show((3:Nat):Int)=3 from rfl),if_pos (show(3:Nat)=3 from rfl)];simp only[List.find?];repeat' split
  all_goals simp_all
 rw[if_neg (by omega),if_neg h3]
 by_cases h4:k=4
 ·subst h4;rw[if_pos (show((4:Nat):Int)=4 from rfl),if_pos (show(4:Nat)=4 from rfl)];simp only[List.find?];repeat' split
  all_goals simp_all
 rw[if_neg (by omega),if_neg h4]
 simp only[List.find?];repeat' split
 all_goals simp_all
set_option maxHeartbeats 4000000 in
theorem zlQ (l:List Tok) (n:Int) (es:List En) (i k:Nat) (hl:l.length≤1000000) (hS:∀t∈l,t.2.1.length≤1000000000):Sound Tryz.prog 81 [.ref 0 0,.i k] [rdB l n es i] (fun r H'=>r= .ret (.tup [.i (((rdr l es).oper k i).getD 0),.b ((rdr l es).oper k i).isSome])/\H'=[rdB l n es i]):=by
 have hml:(l.map tokT).length=l.length:=qad _
 have h3:=zaK l n es i 3 hl
 have h4:=zaK l n es i 4 hl
 have hr:(rdr l es).oper k i=if((rdr l es).kind i 3 || (rdr l es).kind i 4)=true then zlP k ((rdr l es).txt i) else none:=rfl
 have hb:=zii k
 have hg:=zjM k ((rdr l es).txt i)
 rw[<-hg]at hr
 have hin:((rdr l es).kind i 3 || (rdr l es).kind i 4)=true->i<l.length:=by
  intro h
  unfold Rd.kind at h
  simp only[qar]at h
  by_cases hi:i<l.length
  ·exact hi
  ·rw[qaG (by omega)]at h;simp at h
 have ht:∀h:i<l.length,(rdr l es).txt i=l[i].2.1:=by
  intro h
  exact zwep
 generalize (rdr l es).oper k i=o at*
 generalize (rdr l es).kind i 3=b3 at*
 generalize (rdr l es).kind i 4=b4 at*
 generalize (rdr l es).txt i=s at*
 clear hg
 cases hbb:(b3 || b4) with
 | false=>
   rw[hbb,if_neg (by decide)]at hr
   subst hr
   cases b3 with
   | true=>cases hbb
   | false=>
     cases b4 with
     | true=>cases hbb
     | false=>
       refine so Tryz.func81 ?_
       repeat' (first|refine wu ?_|exact wkc|intro hc|refine wk2 ?_ ?_|refine wd h3 ?_|refine wd h4 ?_|fail)
       exact RetK.keep 1 rfl (Le.refl _) rfl rfl rfl rfl rfl ⟨rfl,rfl⟩
 | true=>
   rw[hbb,if_pos rfl]at hr
   have hlt:=hin hbb
   have hx:=zcK hlt
   have hs':=ht hlt
   have hsl:=hS _ (qaz hlt)
   generalize l[i]=t at*
   rw[<-hs']at hx hsl
   have ok:=zpO k
   generalize opsL (k:Int)=L at*
   rcases(show b3=true\/(b3=false/\b4=true) by clear hr h3 h4 hb;cases b3 <;> simp_all)with rfl|⟨rfl,rfl⟩
   all_goals
    refine so Tryz.func81 ?_
    repeat' (first|refine wkt ?_|refine wd h3 ?_|refine wd h4 ?_|(apply TO.want;exact rfl)|exact wkc|intro hc|refine wk2 ?_ ?_|fail)
    refine rgX 1 (g:=True) [(.i k,0,1),(.mp 1,1,0),(.ref 0 0,0,1),(.ref 0 0,0,1),(.ref 0 0,0,1),(.t (.sl 3 (l.map tokT)),0,1),(.ref 0 0,0,1),(.ref 0 0,0,1),(.ref 0 2,0,1),(.i i,0,1),(.cp [T.i t.1,.s s,T.i t.2.2] 0,0,1),(.cp [T.i t.1,.s s,T.i t.2.2] 1,0,1),(.s s,0,1),(.tup [.i (o.getD 0),.b o.isSome],1,1),(.tup [.i (o.getD 0),.b o.isSome],0,1),(.i (o.getD 0),0,1),(.b o.isSome,0,1),(.i (o.getD 0),0,1),(.b o.isSome,0,1)] [[rdB l n es i],[rdB l n es i,opB L]] ?_ (fun _=>?_)
    ·repeat' (first|refine wkt ?_|refine wd h1 ?_|exact trivial|exact⟨⟨rfl,rfl⟩,trivial⟩|refine qai (fun env=>?_) ?_|refine qai ?_ ?_|refine wk ?_|exact wkc|intro hc|refine wk2 ?_ ?_|(apply TO.zqy hb;(iterate 3 exact rfl);exact⟨Le.refl _,trivial⟩;exact rfl)|(refine TO.ziN (id:=1) (r:=o) rfl rfl rfl rfl ok hsl hr.symm ?_)|fail)
     done
    ·repeat' (first|refine wu ?_|exact wkc|intro hc|refine wk2 ?_ ?_|fail)
     exact zwfs
abbrev ExR (l:List Tok)(n:Int)(es:List En)(f:FuncId)(args:List SV)(i:Nat)(r:PR Ex):Prop:=RdS l n es f args i r (.t (exT (r.vl noE)))
theorem zbG(k o t v:Int)(s:Str)(l:List Ex)(hk:(toI k).1=k)(ho:(toI o).1=o)(ht:(toI t).1=t)(hv:(toI v).1=v):exT (mkE k o t v s l)= .ag [T.i k,T.i o,T.i t,T.i v,.s s,.sl 6 (l.map exT)]:=by
 rw[zao]
 unfold mkE exC
 exact zwfm
set_option maxHeartbeats 1000000 in
theorem ziD (l:List Tok) (n:Int) (es:List En) (i:Nat) (hl:l.length≤1000000) (hi:i≤l.length) {r2 r3:PR Ex} (h2:(rdr l es).isAt i [110,111,116]=true->ExR l n es 62 [.i 2] (i+1) r2/\InR l.length (i+1) r2) (h3:ExR l n es 62 [.i 3] i r3/\InR l.length i r3):
  ExR l n es 62 [.i 2] i (if(rdr l es).isAt i [110,111,116]=true then r2.bind fun a j=>.ok (mkE 3 1 0 0 [] [a]) j else r3):=by
 have ht:=zal l n es i [110,111,116] hl hi
 generalize (rdr l es).isAt i [110,111,116]=b at*
 refine Sound.err rfl (fun _=>rfl) ?_
 cases b with
 | true=>
   rw[if_pos rfl]at ht
   rw[if_pos rfl]
   obtain⟨h2,hin⟩:=h2 rfl
   cases r2 with
   | er k c=>
     have hc0:=hin.2
     replace h2:=h2.er
     simp only[PR.vl]at h2
     refine so Tryz.func62 ?_
     repeat' (first|refine wu ?_|exact wkc|intro hc|refine wk2 ?_ ?_|refine wd ht ?_|refine we h2 ?_ ?_|fail)
     exact rdP rfl hc0
   | ok a j=>
     replace h2:=h2.ok
     simp only[PR.vl]at h2
     rw[show(PR.bind (PR.ok a j) fun a j=>PR.ok (mkE 3 1 0 0 [] [a]) j)=PR.ok (mkE 3 1 0 0 [] [a]) j from rfl]
     simp only[PR.vl]
     rw[zbG _ _ _ _ _ _ rfl rfl rfl rfl,qah,qas]
     rw[zao a]at h2⊢
     unfold exC at h2⊢
     refine so Tryz.func62 ?_
     repeat' (first|refine wu ?_|exact wkc|intro hc|refine wk2 ?_ ?_|refine wd ht ?_|refine we h2 ?_ ?_|fail)
     apply rdV rfl
     ·exact rfl
     ·exact zqa
     all_goals exact rfl
 | false=>
   rw[if_neg (by decide)]at ht
   rw[if_neg (by decide)]
   obtain⟨h3,hin⟩:=h3
   cases r3 with
   | er k c=>
     have hc0:=hin.2
     replace h3:=h3.er
     simp only[PR.vl]at h3
     refine so Tryz.func62 ?_
     repeat' (first|refine wu ?_|exact wkc|intro hc|refine wk2 ?_ ?_|refine wd ht ?_|refine we h3 ?_ ?_|fail)
     exact rdP rfl hc0
   | ok a j=>
     replace h3:=h3.ok
     simp only[PR.vl]at h3⊢
     rw[zao]at h3⊢
     unfold exC at h3⊢
     refine so Tryz.func62 ?_
     repeat' (first|refine wu ?_|exact wkc|intro hc|refine wk2 ?_ ?_|refine wd ht ?_|refine we h3 ?_ ?_|fail)
     apply rdV rfl
     ·exact rfl
     ·exact zqa
     all_goals exact rfl
theorem zoh{l:List Tok}{es:List En}{k i:Nat}{op:Int}(h:(rdr l es).oper k i=some op):i<l.length:=by
 have:=zm5 h
 rw[zaf]at this
 exact this
theorem zoj{R:Rd}{f:Nat->PR Ex}{k:Nat}:∀ {m:Nat} {a:Ex} {i:Nat},R.oper k i=none->R.ops f k m a i= .ok a i
 | 0,_,_,_=>rfl
 | m+1,a,i,h=>by rw[Rd.ops,h]
theorem zm4{k:Nat}{s:Str}{op:Int}(h:zlP k s=some op):0≤op/\op≤100:=by
 unfold zlP at h
 repeat' split at h
 all_goals first|(cases h;exact⟨by decide,by decide⟩)|cases h
theorem zoi{R:Rd}{k i:Nat}{op:Int}(h:R.oper k i=some op):0≤op/\op≤100:=by
 unfold Rd.oper at h
 split at h
 ·exact zm4 h
 ·cases h
abbrev exZ:Blk:=.cells [.t (.v (.int .i64 0)),.t (.v (.int .i64 0)),.t (.v (.int .i64 0)),.t (.v (.int .i64 0)),.t (.v (str [])),.t (.v (.slice none 0 0))]
abbrev exB (e:Ex):Blk:=.cells [.t (T.n e.kind),.t (T.n e.op),.t (T.n e.t),.t (T.n e.v),.t (T.s e.name),.t (T.sl 6 (e.args.map exT))]
theorem zpr(k o t v:Int)(s:Str)(l:List Ex)(hk:(toI k).1=k)(ho:(toI o).1=o)(ht:(toI t).1=t)(hv:(toI v).1=v):exB (mkE k o t v s l)= .cells [.t (T.i k),.t (T.i o),.t (T.i t),.t (T.i v),.t (.s s),.t (.sl 6 (l.map exT))]:=by
 unfold mkE exB
 exact zwfm
set_option maxHeartbeats 4000000 in
theorem ziF (l:List Tok) (n:Int) (es:List En) (i k:Nat) (hl:l.length≤1000000) (hi:i≤l.length) (hS:∀t∈l,t.2.1.length≤1000000000) (hk2:k≠2) (hk6:k≠6) (hk7:k≤7) {f:Nat->PR Ex}
  (hf:∀j,i≤j->j≤l.length->ExR l n es 62 [.i ((k:Int)+1)] j (f j)/\InR l.length (j+1) (f j)):
  ExR l n es 62 [.i k] i ((f i).bind fun a j=>(rdr l es).ops f k (rdr l es).K.length a j):=by
 obtain⟨h1,hin⟩:=hf i (qae _) hi
 generalize hr:((f i).bind fun a j=>(rdr l es).ops f k (rdr l es).K.length a j)=r
 refine Sound.err rfl (fun _=>rfl) ?_
 cases hq:f i with
 | er k c=>
   rw[hq]at h1 hin hr
   have hc0:=hin.2
   replace h1:=h1.er
   simp only[PR.vl]at h1
   refine so Tryz.func62 ?_
   repeat' (first|refine wu ?_|exact wkc|intro hc|refine wk2 ?_ ?_|refine we h1 ?_ ?_|fail)
   exact rdP hr.symm hc0
 | ok a j=>
   rw[hq]at h1 hin hr
   replace h1:=h1.ok
   obtain⟨hj1,hj2⟩:=hin
   simp only[PR.vl]at h1
   simp only[PR.bind]at hr
   rw[zao a]at h1
   unfold exC at h1
   refine so Tryz.func62 ?_
   repeat' (first|refine wkb ?_|refine wk ?_|exact wkc|intro hc|refine wk2 ?_ ?_|refine we h1 ?_ ?_|fail)
   refine TR.zbd (ι:=Nat×Nat×Ex) (fun x=>i≤x.2.1/\x.2.1≤l.length/\l.length-x.2.1≤x.1/\(rdr l es).ops f k x.1 x.2.2 x.2.1=r) (fun x=>l.length-x.2.1) (fun _=>[(0,.ref 0 0),(1,.i k),(5,.ref 2 0),(4,.ref 1 0)]) (fun x=>[rdB l n es x.2.1,exZ,exB x.2.2]) ((rdr l es).K.length,j,a)
    ⟨by show i≤j;omega,hj2,by rw[zaf];show l.length-j≤l.length;omega,hr⟩ ⟨rfl,rfl,rfl,rfl,trivial⟩ rfl ?_
   clear h1 hj1 hj2 hr hq
   clear j a
   rintro⟨m,j,a⟩ ⟨q1,q2,q3,q4⟩
   replace q1:i≤j:=q1
   replace q2:j≤l.length:=q2
   replace q3:l.length-j≤m:=q3
   replace q4:(rdr l es).ops f k m a j=r:=q4
   have ho:=zlQ l n es j k hl hS
   cases hop:(rdr l es).oper k j with
   | none=>
     rw[hop]at ho
     rw[zoj hop]at q4
     repeat' (first|refine wu ?_|exact wkc|intro hc|refine wk2 ?_ ?_|refine wd ho ?_|fail)
     subst q4
     apply rdV rfl
     ·exact rfl
     ·rw[vlE,zao]
      unfold exC
      exact zqa
     all_goals exact rfl
   | some op=>
     have hlt:=zoh hop
     have hov:=zoi hop
     rw[hop]at ho
     simp only[qbU,Option.isSome_some]at ho
     cases m with
     | zero=>exfalso;omega
     | succ m=>
     rw[Rd.ops,hop]at q4
     simp only at q4
     obtain⟨hx,hin⟩:=hf (j+1) (by omega) hlt
     cases hq:f (j+1) with
     | er c2 c=>
       rw[hq]at hx hin q4
       have hc0:=hin.2
       replace hx:=hx.er
       simp only[PR.vl]at hx
       simp only[PR.bind]at q4
       repeat' (first|refine wkt ?_|refine zqn ?_|refine wd ho ?_|exact wkc|intro hc|refine wk2 ?_ ?_|fail)
       refine rgX 5 (g:=False) [(.i op,0,1),(.ag [.t (T.n a.kind),.t (T.n a.op),.t (T.n a.t),.t (T.n a.v),.t (T.s a.name),.t (T.sl 6 (a.args.map exT))],0,1),(.ref 0 0,0,1),(.i k,0,1),(.i ((k:Int)+1),0,1),(.t (.ag [T.n a.kind,T.n a.op,T.n a.t,T.n a.v,T.s a.name,T.sl 6 (a.args.map exT)]),1,0),(.t (.sl 6 [.ag [T.n a.kind,T.n a.op,T.n a.t,T.n a.v,T.s a.name,T.sl 6 (a.args.map exT)],.ag [T.n a.kind,T.n a.op,T.n a.t,T.n a.v,T.s a.name,T.sl 6 (a.args.map exT)]]),1,1),(.t (.ag [T.i 3,T.i op,T.i 0,T.i 0,T.s [],T.sl 6 [.ag [T.n a.kind,T.n a.op,T.n a.t,T.n a.v,T.s a.name,T.sl 6 (a.args.map exT)],.ag [T.n a.kind,T.n a.op,T.n a.t,T.n a.v,T.s a.name,T.sl 6 (a.args.map exT)]]]),1,1),(.t (.v undef),1,0)] [[rdB l n es (j+1),exZ,exB a],[rdB l n es (j+1),exZ,exB a],[rdB l n es (j+1),exZ,.cells [.t (T.i 3),.t (T.i op),.t (T.i 0),.t (T.i 0),.t (T.s []),.t (T.sl 6 [.ag [T.n a.kind,T.n a.op,T.n a.t,T.n a.v,T.s a.name,T.sl 6 (a.args.map exT)],.ag [T.n a.kind,T.n a.op,T.n a.t,T.n a.v,T.s a.name,T.sl 6 (a.args.map exT)]])]]] ?_ (fun h=>h.elim)
       repeat' (first|refine wkt ?_|exact trivial|exact⟨⟨rfl,rfl⟩,trivial⟩|refine zqn ?_|refine qai (fun env=>?_) ?_|refine qai ?_ ?_|refine we hx ?_ ?_|refine wk ?_|exact wkc|intro hc|refine wk2 ?_ ?_|fail)
       repeat' (first|refine zac.panic ?_|refine wk ?_|fail)
       exact rdP q4.symm hc0
     | ok b j2=>
       rw[hq]at hx hin q4
       replace hx:=hx.ok
       obtain⟨hj1,hj2⟩:=hin
       simp only[PR.vl]at hx
       simp only[PR.bind]at q4
       rw[zao b]at hx
       unfold exC at hx
       have hex:exT (mkE 3 op 0 0 [] [a,b])= .ag [T.i 3,T.i op,T.i 0,T.i 0,T.s [],T.sl 6 [.ag [T.n a.kind,T.n a.op,T.n a.t,T.n a.v,T.s a.name,T.sl 6 (a.args.map exT)],.ag [T.n b.kind,T.n b.op,T.n b.t,T.n b.v,T.s b.name,T.sl 6 (b.args.map exT)]]]:=by
        rw[zbG _ _ _ _ _ _ rfl (zci (by omega)) rfl rfl,qah,qah,qas,zao a,zao b];rfl
       repeat' (first|refine wkt ?_|refine zqn ?_|refine wd ho ?_|exact wkc|intro hc|refine wk2 ?_ ?_|fail)
       refine rgX 5 (g:=True) [(.i op,0,1),(.ag [.t (T.n a.kind),.t (T.n a.op),.t (T.n a.t),.t (T.n a.v),.t (T.s a.name),.t (T.sl 6 (a.args.map exT))],0,1),(.ref 0 0,0,1),(.i k,0,1),(.i ((k:Int)+1),0,1),(.t (.ag [T.n b.kind,T.n b.op,T.n b.t,T.n b.v,T.s b.name,T.sl 6 (b.args.map exT)]),1,0),(.t (.sl 6 [.ag [T.n a.kind,T.n a.op,T.n a.t,T.n a.v,T.s a.name,T.sl 6 (a.args.map exT)],.ag [T.n b.kind,T.n b.op,T.n b.t,T.n b.v,T.s b.name,T.sl 6 (b.args.map exT)]]),1,1),(.t (.ag [T.i 3,T.i op,T.i 0,T.i 0,T.s [],T.sl 6 [.ag [T.n a.kind,T.n a.op,T.n a.t,T.n a.v,T.s a.name,T.sl 6 (a.args.map exT)],.ag [T.n b.kind,T.n b.op,T.n b.t,T.n b.v,T.s b.name,T.sl 6 (b.args.map exT)]]]),1,1),(.t (.v undef),1,0)] [[rdB l n es (j+1),exZ,exB a],[rdB l n es j2,exZ,exB a],[rdB l n es j2,exZ,.cells [.t (T.i 3),.t (T.i op),.t (T.i 0),.t (T.i 0),.t (T.s []),.t (T.sl 6 [.ag [T.n a.kind,T.n a.op,T.n a.t,T.n a.v,T.s a.name,T.sl 6 (a.args.map exT)],.ag [T.n b.kind,T.n b.op,T.n b.t,T.n b.v,T.s b.name,T.sl 6 (b.args.map exT)]])]]] ?_ (fun _=>?_)
       ·repeat' (first|refine wkt ?_|exact trivial|exact⟨⟨rfl,rfl⟩,trivial⟩|refine zqn ?_|refine qai (fun env=>?_) ?_|refine qai ?_ ?_|refine we hx ?_ ?_|refine wk ?_|exact wkc|intro hc|refine wk2 ?_ ?_|fail)
        done
       ·by_cases h3:k=3
        ·rw[if_pos h3]at q4
         subst q4
         repeat' (first|refine wu ?_|exact wkc|intro hc|refine wk2 ?_ ?_|fail)
         apply rdV rfl
         ·exact rfl
         ·rw[vlE,hex]
          exact zqa
         all_goals exact rfl
        ·rw[if_neg h3]at q4
         repeat' (first|refine wu ?_|exact wkc|intro hc|refine wk2 ?_ ?_|fail)
         refine zac.next (m,j2,mkE 3 op 0 0 [] [a,b]) ⟨?_,hj2,?_,q4⟩ ?_ ⟨rfl,rfl,rfl,rfl,trivial⟩ ?_
         ·show i≤j2;omega
         ·show l.length-j2≤m;omega
         ·show l.length-j2<l.length-j;omega
         ·show _=[rdB l n es j2,exZ,exB (mkE 3 op 0 0 [] [a,b])]
          rw[zpr _ _ _ _ _ _ rfl (zci (by omega)) rfl rfl,qah,qah,qas,zao a,zao b];rfl
set_option maxHeartbeats 1000000 in
theorem ziE (l:List Tok) (n:Int) (es:List En) (i:Nat) {r:PR Ex} (h:ExR l n es 80 [] i r/\InR l.length (i+1) r):ExR l n es 62 [.i 6] i r:=by
 obtain⟨h3,hin⟩:=h
 refine Sound.err rfl (fun _=>rfl) ?_
 cases r with
 | er k c=>
   have hc0:=hin.2
   replace h3:=h3.er
   simp only[PR.vl]at h3
   refine so Tryz.func62 ?_
   repeat' (first|refine wu ?_|exact wkc|intro hc|refine wk2 ?_ ?_|refine we h3 ?_ ?_|fail)
   exact rdP rfl hc0
 | ok a j=>
   replace h3:=h3.ok
   simp only[PR.vl]at h3⊢
   rw[zao]at h3⊢
   unfold exC at h3⊢
   refine so Tryz.func62 ?_
   repeat' (first|refine wu ?_|exact wkc|intro hc|refine wk2 ?_ ?_|refine we h3 ?_ ?_|fail)
   apply rdV rfl
   ·exact rfl
   ·exact zqa
   all_goals exact rfl
theorem zl4{R:Rd}:∀ {m:Nat} {a:Ex} {i:Nat},R.isAt i [119,104,101,110]=false->R.whens m a i= .ok a i
 | 0,_,_,_=>rfl
 | m+1,a,i,h=>by rw[Rd.whens,h,if_neg (by decide)]
set_option maxHeartbeats 4000000 in
theorem zj6 (l:List Tok) (n:Int) (es:List En) (i:Nat) (hl:l.length≤1000000) (hi:i≤l.length) (he:EsOk es) {ru rp:PR Ex}
  (hu:(rdr l es).isAt i [45]=true\/(rdr l es).isAt i [112,114,101]=true->ExR l n es 80 [] (i+1) ru/\InR l.length (i+1) ru)
  (hp:ExR l n es 94 [] i rp/\InR l.length (i+1) rp):
  ExR l n es 80 [] i (if(rdr l es).neg i=false/\(rdr l es).isAt i [45]=true then ru.bind fun a j=>.ok (mkE 3 2 0 0 [] [a]) j
   else if(rdr l es).neg i=false/\(rdr l es).isAt i [112,114,101]=true then ru.bind fun a j=>.ok (mkE 5 0 0 0 [] [a]) j
   else rp.bind fun e j=>(rdr l es).whens (rdr l es).K.length e j):=by
 have hn:=zbJ l n es i hl hi
 have h1:=zal l n es i [45] hl hi
 have h2:=zal l n es i [112,114,101] hl hi
 generalize (rdr l es).neg i=bn at*
 generalize (rdr l es).isAt i [45]=b1 at*
 generalize (rdr l es).isAt i [112,114,101]=b2 at*
 refine Sound.err rfl (fun _=>rfl) ?_
 by_cases c1:bn=false/\b1=true
 ·obtain⟨rfl,rfl⟩:=c1
  rw[if_pos ⟨rfl,rfl⟩]
  rw[if_pos rfl]at h1
  obtain⟨h3,hin⟩:=hu (.inl rfl)
  cases ru with
  | er k c=>
    have hc0:=hin.2
    replace h3:=h3.er
    simp only[PR.vl]at h3
    refine so Tryz.func80 ?_
    repeat' (first|refine wu ?_|exact wkc|intro hc|refine wk2 ?_ ?_|refine wd hn ?_|refine wd h1 ?_|refine we h3 ?_ ?_|fail)
    exact rdP rfl hc0
  | ok a j=>
    replace h3:=h3.ok
    simp only[PR.vl]at h3
    rw[show(PR.bind (PR.ok a j) fun a j=>PR.ok (mkE 3 2 0 0 [] [a]) j)=PR.ok (mkE 3 2 0 0 [] [a]) j from rfl,vlE,zbG _ _ _ _ _ _ rfl rfl rfl rfl,qah,qas]
    rw[zao a]at h3⊢
    unfold exC at h3⊢
    refine so Tryz.func80 ?_
    repeat' (first|refine wu ?_|exact wkc|intro hc|refine wk2 ?_ ?_|refine wd hn ?_|refine wd h1 ?_|refine we h3 ?_ ?_|fail)
    apply rdV rfl
    ·exact rfl
    ·exact zqa
    all_goals exact rfl
 rw[if_neg c1]
 by_cases c2:bn=false/\b2=true
 ·obtain⟨rfl,rfl⟩:=c2
  rw[if_pos ⟨rfl,rfl⟩]
  cases b1 with
  | true=>exact absurd ⟨rfl,rfl⟩ c1
  | false=>
  rw[if_neg (by decide)]at h1
  rw[if_pos rfl]at h2
  obtain⟨h3,hin⟩:=hu (.inr rfl)
  cases ru with
  | er k c=>
    have hc0:=hin.2
    replace h3:=h3.er
    simp only[PR.vl]at h3
    refine so Tryz.func80 ?_
    repeat' (first|refine wu ?_|exact wkc|intro hc|refine wk2 ?_ ?_|refine wd hn ?_|refine wd h1 ?_|refine wd h2 ?_|refine we h3 ?_ ?_|fail)
    exact rdP rfl hc0
  | ok a j=>
    replace h3:=h3.ok
    simp only[PR.vl]at h3
    rw[show(PR.bind (PR.ok a j) fun a j=>PR.ok (mkE 5 0 0 0 [] [a]) j)=PR.ok (mkE 5 0 0 0 [] [a]) j from rfl,vlE,zbG _ _ _ _ _ _ rfl rfl rfl rfl,qah,qas]
    rw[zao a]at h3⊢
    unfold exC at h3⊢
    refine so Tryz.func80 ?_
    repeat' (first|refine wu ?_|exact wkc|intro hc|refine wk2 ?_ ?_|refine wd hn ?_|refine wd h1 ?_|refine wd h2 ?_|refine we h3 ?_ ?_|fail)
    apply rdV rfl
    ·exact rfl
    ·exact zqa
    all_goals exact rfl
 rw[if_neg c2]
 clear hu
 obtain⟨h3,hin⟩:=hp
 have hcb:bn=true\/(bn=false/\b1=false/\b2=false):=by
  clear hn h1 h2 h3
  cases bn <;> cases b1 <;> cases b2 <;> simp_all
 generalize hr:(rp.bind fun e j=>(rdr l es).whens (rdr l es).K.length e j)=r
 cases rp with
 | er k c=>
   have hc0:=hin.2
   replace h3:=h3.er
   simp only[PR.vl]at h3
   rcases hcb with rfl|⟨rfl,rfl,rfl⟩
   ·refine so Tryz.func80 ?_
    repeat' (first|refine wu ?_|exact wkc|intro hc|refine wk2 ?_ ?_|refine wd hn ?_|refine we h3 ?_ ?_|fail)
    exact rdP hr.symm hc0
   ·rw[if_neg (by decide)]at h1 h2
    refine so Tryz.func80 ?_
    repeat' (first|refine wu ?_|exact wkc|intro hc|refine wk2 ?_ ?_|refine wd hn ?_|refine wd h1 ?_|refine wd h2 ?_|refine we h3 ?_ ?_|fail)
    exact rdP hr.symm hc0
 | ok e j=>
   replace h3:=h3.ok
   obtain⟨hj1,hj2⟩:=hin
   simp only[PR.bind]at hr
   simp only[PR.vl]at h3
   rw[zao e]at h3
   unfold exC at h3
   rcases hcb with rfl|⟨rfl,rfl,rfl⟩
   ·refine so Tryz.func80 ?_
    repeat' (first|refine wkb ?_|refine wk ?_|exact wkc|intro hc|refine wk2 ?_ ?_|refine wd hn ?_|refine we h3 ?_ ?_|fail)
    exact zwb
   ·rw[if_neg (by decide)]at h1 h2
    refine so Tryz.func80 ?_
    repeat' (first|refine wkb ?_|refine wk ?_|exact wkc|intro hc|refine wk2 ?_ ?_|refine wd hn ?_|refine wd h1 ?_|refine wd h2 ?_|refine we h3 ?_ ?_|fail)
    exact zwb
end Go.Proofs.YtpfnfpaahefdaaaGreat
