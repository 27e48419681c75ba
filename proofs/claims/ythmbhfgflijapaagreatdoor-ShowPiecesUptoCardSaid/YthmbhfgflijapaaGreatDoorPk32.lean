import Derived.WideLaws
import Derived.Test.YthmbhfgflijapaaGreatDoorPk31
set_option linter.all false
namespace Go.TL
open Go
section rules
variable {P:Program}{n:Nat}{env:Env}{H:Heap}{K:TK}{all:Array Oper}{rest:List Oper}{q:Bool}{d:Nat}{ty:TypeId}{pos:String}{aft:Array Edge}
theorem TO.zoo{t t' u:TypeId}{x:Operand}{s:SV}(hd:Nat.ble (d+1) n=true)(hx:env.val x=some (.ifc u s))(ht:P.underlying t=some (.interface (P.methodsAt t)))
  (k:TO q P n all rest ((d,.t (.v (.bool true)))::env) H K):TO q P n all (⟨some d,.binOp .neq t x (.const .nilIface) t',ty,pos,aft,none⟩::rest) env H K:=
 TO.op hd (fun m ac h1 h2 h3=>⟨.bool true,fun w' hw'=>by
  have h:=h3.val hx
  generalize hq:ac.eval x=z at h
  cases h with
  | ifc _ _ y hy=>simp[execOp,eval_const,hq,eqGuard,run_neq_held_nil w' t u y ht],.t _ _ (.v _)⟩) k
theorem TO.zmi{t t':TypeId}{x:Operand}(hd:Nat.ble (d+1) n=true)(hx:env.val x=some (.t (.v .nilIface)))(ht:P.underlying t=some (.interface (P.methodsAt t)))
  (k:TO q P n all rest ((d,.t (.v (.bool false)))::env) H K):TO q P n all (⟨some d,.binOp .neq t x (.const .nilIface) t',ty,pos,aft,none⟩::rest) env H K:=
 TO.op hd (fun m ac h1 h2 h3=>⟨.bool false,fun w' hw'=>by
  simp[execOp,eval_const,(h3.val hx).v_eq,eqGuard,run_neq_nil_nil w' t ht],.t _ _ (.v _)⟩) k
end rules
end Go.TL
namespace Go.Proofs.YthmbhfgflijapaaGreatDoor
open Go Go.TL
attribute [local irreducible] TR TO Then zag RetK Sound zab Kf GG zaK
theorem zl1(l:List Tok)(n:Int)(es:List En)(hk:TkOk l)(hes:EsOk es)(i:Nat)(hi:i≤l.length):ExR l n es 22 [] i ((rdr l es).expr i)/\InR l.length (i+1) ((rdr l es).expr i):=by
 have h:=zd9 (R:=rdr l es) (10*(rdr l es).K.length+10) .expr (i:=i) (by rw[zal];exact hi)
 rw[zal]at h
 refine⟨?_,by unfold Rd.expr;rw[zal];exact h⟩
 unfold Rd.expr
 rw[zal]
 exact zsa l n es hk hes (zkP l n es hk hes) (zlN l n es hk.len) (10*l.length+10) .expr i hi (by show 10*(l.length-i)+9<_;omega)
theorem zkr(l:List Tok)(n:Int)(es:List En)(i:Nat)(hl:l.length≤1000000)(hi:i≤l.length):RdS l n es 23 [] i (if i<l.length then .er i 5 else .ok () i:PR Unit) (.tup []):=by
 have hml:(l.map tokT).length=l.length:=qab _
 have hf:=zb8 l n es i i 5 (by decide) hl
 generalize hr:(if i<l.length then .er i 5 else .ok () i:PR Unit)=r
 refine Sound.err rfl (fun _=>rfl) ?_
 by_cases hlt:i<l.length
 ·rw[if_pos hlt]at hr
  refine so Tryz.func23 ?_
  repeat' (first|refine wu ?_|exact wkc|intro hc|refine wk2 ?_ ?_|refine we hf ?_ ?_|fail)
  exact rdP hr.symm (by decide)
 ·rw[if_neg hlt]at hr
  refine so Tryz.func23 ?_
  repeat' (first|refine wu ?_|exact wkc|intro hc|refine wk2 ?_ ?_|refine we hf ?_ ?_|fail)
  exact rdN (vs:=[]) hr.symm rfl (Le.refl _) rfl rfl rfl
theorem zkh(a c:Int):Pure Tryz.prog 21 [.ifc 115 (.t (.ag [T.i a,T.i c]))] (.tup [.i a,.i c]):=by
 refine so Tryz.func21 ?_
 repeat' (first|refine wkt ?_|refine wka ?_|refine wk ?_|exact wkc|intro hc|refine wk2 ?_ ?_|(apply TO.zg7 zaf;(iterate 4 exact rfl))|refine zqi ?_|fail)
 exact wkr
theorem zrq(s:Str)(es:List En)(hs:(scan s).2.2=0)(hb:s.length≤1000000):Sound Tryz.prog 19 [.s s,.t (ensT es)] [] (fun r H'=>r= .ret (.tup [.ref 0 0,.i 0,.i 0])/\H'=[rdB (scan s).1 s.length es 0]):=by
 have h:=ziX s
 generalize scan s=x at*
 obtain⟨x1,x2,x3⟩:=x
 simp only at hs h
 subst hs
 refine so Tryz.func19 ?_
 repeat' (first|refine wkb ?_|refine wv h ?_|fail)
 refine wk2 ?_ ?_
 ·intro hc;exact absurd rfl hc
 intro hc
 repeat' (first|refine zqj ?_|(apply TO.go zaf 0 false;exact rfl;(first|apply GG.to|apply GG.stop|apply GG.tr0|apply GG.tr|apply GG.ex))|(apply TR.go0 zaf 0 false;exact rfl;(first|apply GG.to|apply GG.stop|apply GG.tr0|apply GG.tr|apply GG.ex))|(apply TR.go zaf 0 false;exact rfl;(first|apply GG.to|apply GG.stop|apply GG.tr0|apply GG.tr|apply GG.ex))|(apply TO.go0 zaf 0 false;exact rfl;(first|apply GG.to|apply GG.stop|apply GG.tr0|apply GG.tr|apply GG.ex))|(apply zdJ.go zaf 0 false;exact rfl;(first|apply GG.to|apply GG.stop|apply GG.tr0|apply GG.tr|apply GG.ex))|fail)
 exact RetK.keep 1 rfl (Le.refl _) rfl rfl rfl rfl rfl ⟨rfl,rfl⟩
theorem zrp(s:Str)(es:List En)(hs:(scan s).2.2≠0):Pure Tryz.prog 19 [.s s,.t (ensT es)] (.tup [.t (.v (.pointer none)),.i (scan s).2.1,.i (scan s).2.2]):=by
 have h:=ziX s
 generalize scan s=x at*
 obtain⟨x1,x2,x3⟩:=x
 simp only at hs h
 refine so Tryz.func19 ?_
 repeat' (first|refine wkt ?_|refine wka ?_|refine wk ?_|exact wkc|intro hc|refine wk2 ?_ ?_|refine wv h ?_|fail)
 all_goals first
  | exact wkr
  | (exfalso;omega)
end Go.Proofs.YthmbhfgflijapaaGreatDoor
namespace Go.Proofs.YthmbhfgflijapaaGreatDoor
open Go Go.TL
attribute [local irreducible] TR TO Then zag RetK Sound zab Kf GG zaK
section rules
variable {P:Program}{n:Nat}{env:Env}{H:Heap}{K:TK}{all:Array Oper}{rest:List Oper}{d:Nat}{ty:TypeId}{pos:String}{aft:Array Edge}
theorem TO.zru{cargs:List SV}{a b:Int}{cs:List SV}{f:Operand}{fid:FuncId}{caps:List SV}{args:Array Operand}{ts:Array TypeId}{vs:List SV}
  (hs:Sound P fid cargs [] fun r H'=>r= .ret (.tup [.ref 0 0,.i a,.i b])/\H'=[.cells cs])(hd:Nat.ble (d+1) n=true)
  (hf:env.val f=some (.fn fid caps))(ha:env.vals args.toList=some vs)(hl:Les (vs++caps) cargs)(hu:unders 0 cargs=true)(hcs:unders 0 cs=true)
  (k:TO false P n all rest ((d,.tup [.ref H.length 0,.i a,.i b])::env) (H++[.cells cs]) K):
  TO false P n all (⟨some d,.call { callee:=.value f,args:=args,argTypes:=ts },ty,pos,aft,none⟩::rest) env H K:=
 TO.zds [] hs hd hf ha (by rw[zbp (N:=0) (fun j hj=>by omega) _ hu];exact hl) hu (zeB H) (by simp[SV.ren,rens,names]) (by
  simp only[patch,qah,qaC,Blk.ren,zi4 _ hcs]) k
end rules
theorem zhk(a c:Int)(x0 x1 x2 x3 x4 x5 b d:SV)(Hr:Heap)(hb:zaa (Hr.length+3) Hr=true):
  zcj Tryz.prog 20 [.ref 0 0,.ref 1 0,.ref 2 0] (.cells [x0,x1,x2,x3,x4,x5]:: .cells [b]:: .cells [d]::Hr) (some (.ifc 115 (.t (.ag [T.i a,T.i c])))) (fun H3=>H3=exZ:: .cells [.i a]:: .cells [.i c]::Hr):=by
 have hc:=zkh a c
 refine zcj.of (tab:=tab) Tryz.func20 (by kernel_rfl) rfl rfl rfl rfl ?_
 repeat' (first|refine wkb ?_|(apply TO.zoo;exact rfl;exact rfl;kernel_rfl)|refine Then.normal ?_|refine wv hc ?_|fail)
 have ht:(exZ::Blk.cells [.i a]::Blk.cells [.i c]::Hr).take (Blk.cells [x0,x1,x2,x3,x4,x5]::Blk.cells [b]::Blk.cells [d]::Hr).length=exZ::Blk.cells [.i a]::Blk.cells [.i c]::Hr:=by simp
 refine⟨qae _,?_,ht⟩
 show zaa _ (List.take _ (exZ::Blk.cells [.i a]::Blk.cells [.i c]::Hr))=true
 rw[ht]
 exact hb
theorem zhj(H:Heap)(hb:zaa H.length H=true):
  zcj Tryz.prog 20 [.ref 0 0,.ref 1 0,.ref 2 0] H none (fun H3=>H3=H):=by
 refine zcj.of (tab:=tab) Tryz.func20 (by kernel_rfl) rfl rfl rfl rfl ?_
 repeat' (first|refine wkb ?_|(apply TO.zmi;exact rfl;exact rfl;kernel_rfl)|refine Then.normal ?_|fail)
 exact⟨qae _,by rw[qaI (qae _)];exact hb,qaI (qae _)⟩
theorem we4{G Q1 Q2:Prop}{f:FuncId}{cargs:List SV}{v pv:SV}{c:Int}{Hc H1:Heap}(hs:Sound Tryz.prog f cargs Hc (Err c v pv H1))(k1:Q1)(k2:Q2)(h:Sound Tryz.prog f cargs Hc (Err c v pv H1)->Hold Q1->Hold Q2->G:=by
  intro hs k1 k2
  (apply TO.zkf [3] hs;(iterate 3 exact rfl);exact zqa;exact rfl;exact Hands.one rfl rfl;(iterate 4 exact rfl);exact k1.p;exact k2.p)):G:=h hs ⟨k1⟩ ⟨k2⟩
def zfX(es:List En)(s:Str):Ex×Int×Int:=
 if(scan s).2.2≠0 then(noE,(scan s).2.1,(scan s).2.2) else
 match (rdr (scan s).1 es).expr 0 with
 | .er k c=>(noE,placeOf (scan s).1 s.length k,c)
 | .ok e j=>if j<(scan s).1.length then(noE,placeOf (scan s).1 s.length j,5) else if za4 es e=0 then(e,0,0) else(noE,0,za4 es e)
theorem noET:exT noE= .ag [T.i 0,T.i 0,T.i 0,T.i 0,T.s [],T.sl 6 []]:=by
 unfold noE
 rw[zbI _ _ _ _ _ _ rfl rfl rfl rfl]
 rfl
theorem zuE{P:Program}{n:Nat}{c:Code}{K KD:TK}{gf:FuncId}{cv:List SV}{env:Env}{H:Heap}(h:K .ret env H):zgz P n c K gf cv KD .ret env H:=h
theorem za0{P:Program}{n:Nat}{c:Code}{K KD:TK}{gf:FuncId}{cv:List SV}{env:Env}{H:Heap}(h:TD P n c env H K gf cv KD):zgz P n c K gf cv KD .normal env H:=h
attribute [local irreducible] TD zgz
set_option maxHeartbeats 4000000 in
theorem zl0 (es:List En) (s:Str) (hb:s.length≤1000000) (hk:TkOk (scan s).1) (hes:EsOk es) (hw:∀e j,(rdr (scan s).1 es).expr 0= .ok e j->wEx e≤1000000000):
  Pure Tryz.prog 8 [.t (ensT es),.s s] (.tup [.t (exT (zfX es s).1),.i (zfX es s).2.1,.i (zfX es s).2.2]):=by
 have hz:zfX es s=zfX es s:=rfl
 conv at hz=>rhs;unfold zfX
 generalize zfX es s=z at hz⊢
 by_cases hs:(scan s).2.2≠0
 ·have h1:=zrp s es hs
  rw[if_pos hs]at hz
  subst hz
  try simp only[noET]
  refine Sound.ze6 zaf Tryz.func8 (by kernel_rfl) rfl rfl (gf:=20) (cv:=[.ref 0 0,.ref 1 0,.ref 2 0]) ?_
  refine TD.seq ?_
  repeat' (first|refine wkb ?_|refine wk ?_|fail)
  refine za0 ?_
  refine TD.seq ?_
  repeat' (first|refine wkb ?_|refine wv h1 ?_|refine wk ?_|exact wkc|intro hc|refine wk2 ?_ ?_|fail)
  refine za0 ?_
  refine TD.seq ?_
  repeat' (first|refine wkb ?_|exact wkc|intro hc|refine wk2 ?_ ?_|fail)
  refine rgX 0 (g:=True) [(.t (.ag [T.i 0,T.i 0,T.i 0,T.i 0,T.s [],.v (.slice none 0 0)]),0,0),(.i (scan s).2.1,0,1),(.i (scan s).2.2,0,2),(.any,1,0),(.any,1,0),(.any,1,0)] [[exZ,.cells [.i (scan s).2.1],.cells [.i (scan s).2.2]],[exZ,.cells [.i (scan s).2.1],.cells [.i (scan s).2.2]],[exZ,.cells [.i (scan s).2.1],.cells [.i (scan s).2.2]],[exZ,.cells [.i (scan s).2.1],.cells [.i (scan s).2.2]]] ?_ (fun _=>?_)
  ·repeat' (first|refine wkt ?_|exact trivial|exact⟨⟨rfl,rfl⟩,trivial⟩|refine qai (fun env=>?_) ?_|refine qai ?_ ?_|refine wk ?_|exact wkc|intro hc|refine wk2 ?_ ?_|fail)
   done
  ·repeat' (first|refine wkb ?_|fail)
   refine zuE ?_
   exact wkr
 have h1:=zrq s es (by simpa using hs) hb
 rw[if_neg hs]at hz
 clear hs
 generalize (scan s).1=l at*
 obtain⟨hx,hin⟩:=zl1 l s.length es hk hes 0 (qaJ _)
 cases hq:(rdr l es).expr 0 with
 | er k c=>
   rw[hq]at hx hin hz
   have hc0:=hin.2
   replace hx:=hx.er
   simp only[PR.vl]at hx
   simp only at hz
   subst hz
   try simp only[noET]
   refine Sound.ze6 zaf Tryz.func8 (by kernel_rfl) rfl rfl (gf:=20) (cv:=[.ref 0 0,.ref 1 0,.ref 2 0]) ?_
   refine TD.seq ?_
   repeat' (first|refine wkb ?_|refine wk ?_|fail)
   refine za0 ?_
   refine TD.seq ?_
   refine wk ?_
   repeat' (first|refine wkb ?_|(apply TO.zru h1;(iterate 3 exact rfl);exact⟨Le.refl _,Le.refl _,trivial⟩;exact rfl;exact rfl)|refine wk ?_|exact wkc|intro hc|refine wk2 ?_ ?_|fail)
   refine za0 ?_
   refine TD.seq ?_
   repeat' (first|refine wkb ?_|refine wk ?_|exact wkc|intro hc|refine wk2 ?_ ?_|fail)
   refine za0 ?_
   refine TD.defer (tz:=0) rfl rfl ?_
   repeat' (first|refine wkb ?_|refine wk ?_|refine we4 hx ?_ ?_|exact wkc|intro hc|refine wk2 ?_ ?_|fail)
   exact⟨_,zhk _ _ _ _ _ _ _ _ _ _ _ rfl,fun H3 h=>by subst h;exact wkr⟩
 | ok e j=>
   have hwe:=hw e j hq
   rw[hq]at hx hin hz
   obtain⟨_,hj⟩:=hin
   replace hx:=hx.ok
   simp only[PR.vl]at hx
   simp only at hz
   have hfi:=zkr l s.length es j hk.len hj
   by_cases hlt:j<l.length
   ·rw[if_pos hlt]at hz hfi
    subst hz
    try simp only[noET]
    replace hfi:=hfi.er
    rw[zae e]at hx
    unfold exC at hx
    refine Sound.ze6 zaf Tryz.func8 (by kernel_rfl) rfl rfl (gf:=20) (cv:=[.ref 0 0,.ref 1 0,.ref 2 0]) ?_
    refine TD.seq ?_
    repeat' (first|refine wkb ?_|refine wk ?_|fail)
    refine za0 ?_
    refine TD.seq ?_
    refine wk ?_
    repeat' (first|refine wkb ?_|(apply TO.zru h1;(iterate 3 exact rfl);exact⟨Le.refl _,Le.refl _,trivial⟩;exact rfl;exact rfl)|refine wk ?_|exact wkc|intro hc|refine wk2 ?_ ?_|fail)
    refine za0 ?_
    refine TD.seq ?_
    repeat' (first|refine wkb ?_|refine wk ?_|exact wkc|intro hc|refine wk2 ?_ ?_|fail)
    refine za0 ?_
    refine TD.defer (tz:=0) rfl rfl ?_
    repeat' (first|refine wkb ?_|refine wk ?_|refine we4 hx ?_ ?_|refine we4 hfi ?_ ?_|exact wkc|intro hc|refine wk2 ?_ ?_|fail)
    exact⟨_,zhk _ _ _ _ _ _ _ _ _ _ _ rfl,fun H3 h=>by subst h;exact wkr⟩
   ·rw[if_neg hlt]at hz hfi
    replace hfi:=hfi.ok
    have hsh:=zco es e hwe
    generalize za4 es e=x at*
    rw[zae e]at hx hsh
    unfold exC at hx hsh
    by_cases hx0:x=0
    ·rw[if_pos hx0]at hz
     subst hx0
     subst hz
     try simp only[noET]
     try simp only
     rw[zae e]
     unfold exC
     refine Sound.ze6 zaf Tryz.func8 (by kernel_rfl) rfl rfl (gf:=20) (cv:=[.ref 0 0,.ref 1 0,.ref 2 0]) ?_
     refine TD.seq ?_
     repeat' (first|refine wkb ?_|refine wk ?_|fail)
     refine za0 ?_
     refine TD.seq ?_
     refine wk ?_
     repeat' (first|refine wkb ?_|(apply TO.zru h1;(iterate 3 exact rfl);exact⟨Le.refl _,Le.refl _,trivial⟩;exact rfl;exact rfl)|refine wk ?_|exact wkc|intro hc|refine wk2 ?_ ?_|fail)
     refine za0 ?_
     refine TD.seq ?_
     repeat' (first|refine wkb ?_|refine wk ?_|exact wkc|intro hc|refine wk2 ?_ ?_|fail)
     refine za0 ?_
     refine TD.defer (tz:=0) rfl rfl ?_
     repeat' (first|refine wkb ?_|refine wk ?_|refine we4 hx ?_ ?_|refine we4 hfi ?_ ?_|refine wv hsh ?_|exact wkc|intro hc|refine wk2 ?_ ?_|fail)
     exact⟨_,zhj _ rfl,fun H3 h=>by subst h;exact wkr⟩
    ·rw[if_neg hx0]at hz
     subst hz
     try simp only[noET]
     refine Sound.ze6 zaf Tryz.func8 (by kernel_rfl) rfl rfl (gf:=20) (cv:=[.ref 0 0,.ref 1 0,.ref 2 0]) ?_
     refine TD.seq ?_
     repeat' (first|refine wkb ?_|refine wk ?_|fail)
     refine za0 ?_
     refine TD.seq ?_
     refine wk ?_
     repeat' (first|refine wkb ?_|(apply TO.zru h1;(iterate 3 exact rfl);exact⟨Le.refl _,Le.refl _,trivial⟩;exact rfl;exact rfl)|refine wk ?_|exact wkc|intro hc|refine wk2 ?_ ?_|fail)
     refine za0 ?_
     refine TD.seq ?_
     repeat' (first|refine wkb ?_|refine wk ?_|exact wkc|intro hc|refine wk2 ?_ ?_|fail)
     refine za0 ?_
     refine TD.defer (tz:=0) rfl rfl ?_
     repeat' (first|refine wkb ?_|refine wk ?_|refine we4 hx ?_ ?_|refine we4 hfi ?_ ?_|refine wv hsh ?_|exact wkc|intro hc|refine wk2 ?_ ?_|fail)
     exact⟨_,zhj _ rfl,fun H3 h=>by subst h;exact wkr⟩
end Go.Proofs.YthmbhfgflijapaaGreatDoor
namespace Go.Proofs.YthmbhfgflijapaaGreatDoor
open Go Go.TL
attribute [local irreducible] TR TO Then zag RetK Sound zab Kf GG zaK
theorem zqo{es:List En}{e:Ex}(hX:za4 es e=0)(hL:∀x∈flat e,NdL es x)(hW:∀(K:List Tk),∀x∈flat e,NdW ⟨K,es⟩ x)(hs:(shF es 400 e).length≤65536):zfX es (shF es 400 e)=(e,0,0):=by
 have hw:wEx e≤400:=by
  unfold za4 at hX
  split at hX
  ·rename_i hc
   unfold zd5 at hc
   split at hc
   ·exact absurd hc (by decide)
   ·omega
  ·contradiction
 obtain⟨h1,h2⟩:=(znG 400 e hw hL).t.lx ((shF es 400 e).length+1) (qbD _)
 have hscan:=zk9 hs
 have hc:(scan (shF es 400 e)).2.2=0:=by rw[hscan];show(lexF _ _).2.2=0;rw[h2]
 have hK:(scan (shF es 400 e)).1.map (fun t=>(t.1,t.2.1))=tkF es 400 e:=by
  rw[hscan,<-h1]
  simp only[placed,qa8]
  rfl
 have hlen:(scan (shF es 400 e)).1.length=(tkF es 400 e).length:=by rw[<-hK,qab]
 have hr:(rdr (scan (shF es 400 e)).1 es).expr 0= .ok e (scan (shF es 400 e)).1.length:=by
  have hR:rdr (scan (shF es 400 e)).1 es=⟨tkF es 400 e,es⟩:=by unfold rdr;rw[hK]
  have:=(znw (R:=⟨tkF es 400 e,es⟩) 400 e hw (hW _)).pe (10*(tkF es 400 e).length+10) 0 [] (qae _) (by
   show(tkF es 400 e).drop 0=_
   rw[qaG,qbe]) EndE.nil
  rw[hR,hlen]
  simpa [Rd.expr]using this
 unfold zfX
 rw[if_neg (by rw[hc];simp),hr]
 simp only
 rw[if_neg (by omega),if_pos hX]
theorem zdu{k o t v n:Int}{nm:Str}(h:oneI k o t v nm n=0):n≤64/\(ofF k o t v n).args=true/\(ofF k o t v n).typed=true/\(ofF k o t v n).op=decide (o≠0)/\((ofF k o t v n).op=true->1≤o/\o≤16)/\
  ((ofF k o t v n).name=true->ident nm=true)/\((ofF k o t v n).name=false->(ofF k o t v n).word=true->(zea nm).2=0)/\((ofF k o t v n).name=false->(ofF k o t v n).word=false->nm=[]):=by
 unfold oneI at h
 generalize ofF k o t v n=f at*
 split at h
 ·cases h
 rename_i h1
 split at h
 ·cases h
 rename_i h2
 simp only[not_or,not_and]at h2
 obtain⟨g1,g2,g3,g4⟩:=h2
 refine⟨by omega,by simpa using g1,by simpa using g2,Classical.not_not.1 g3,fun hp=>?_,?_,?_,?_⟩
 ·have:=g4 hp;omega
 ·intro hp
  rw[if_pos hp]at h
  split at h
  ·assumption
  ·cases h
 ·intro hp hw
  rw[if_neg (by rw[hp];simp)]at h
  split at h
  ·rename_i hq;exact hq.2
  ·split at h
   ·cases h
   ·rename_i hq;simp[hw]at hq
 ·intro hp hw
  rw[if_neg (by rw[hp];simp),if_neg (by rw[hw];simp)]at h
  split at h
  ·cases h
  ·rename_i hq
   simp only[not_or,Classical.not_not]at hq
   exact hq.1
theorem zwE{o t v n:Int}{nm:Str}(h:oneI 1 o t v nm n=0):n=0/\o=0/\nm=[]/\(t=2/\-32768≤v/\v≤32767\/t≠2/\tagI t v=true):=by
 obtain⟨_,a,b,c,_,_,_,d⟩:=zdu h
 have hd:=d rfl rfl
 have ha:decide (n=0)=true:=a
 have hb:((decide (t=2) && decide (-32768≤v) && decide (v≤32767)) || (!decide (t=2) && tagI t v))=true:=b
 have hc:false=decide (o≠0):=c
 simp only[qbv,qau,decide_eq_true_eq,qbs,decide_eq_false_iff_not]at ha hb
 have hc':=of_decide_eq_false hc.symm
 refine⟨ha,by omega,hd,?_⟩
 rcases hb with hb|hb
 ·exact .inl ⟨hb.1.1,hb.1.2,hb.2⟩
 ·exact .inr hb
theorem zkU{o t v:Int}(hb:(decide (t=0) && decide (v=0))=true):t=0/\v=0:=by simpa using hb
theorem zmm{o:Int}(hc:false=decide (o≠0)):o=0:=by
 have:=of_decide_eq_false hc.symm;omega
theorem zwF{o t v n:Int}{nm:Str}(h:oneI 2 o t v nm n=0):n=0/\o=0/\t=0/\v=0/\ident nm=true:=by
 obtain⟨_,a,b,c,_,d,_,_⟩:=zdu h
 have hb:=zkU (o:=o) b
 exact⟨of_decide_eq_true a,zmm c,hb.1,hb.2,d rfl⟩
theorem zwG{o t v n:Int}{nm:Str}(h:oneI 3 o t v nm n=0):n=opdI o/\1≤o/\o≤16/\t=0/\v=0/\nm=[]:=by
 obtain⟨_,a,b,_,e,_,_,d⟩:=zdu h
 have hb:=zkU (o:=o) b
 have he:=e rfl
 exact⟨of_decide_eq_true a,he.1,he.2,hb.1,hb.2,d rfl rfl⟩
theorem zwH{o t v n:Int}{nm:Str}(h:oneI 4 o t v nm n=0):n=3/\o=0/\t=0/\v=0/\nm=[]:=by
 exact zwdc
theorem zwI{o t v n:Int}{nm:Str}(h:oneI 5 o t v nm n=0):n=1/\o=0/\t=0/\v=0/\nm=[]:=by
 exact zwdc
theorem zvD{k o t v n:Int}{nm:Str}(hk:k=6\/k=7)(h:oneI k o t v nm n=0):n=2/\o=0/\t=0/\v=0/\nm=[]:=by
 obtain⟨_,a,b,c,_,_,_,d⟩:=zdu h
 rcases hk with rfl|rfl
 all_goals
  have hb:=zkU (o:=o) b
  exact⟨of_decide_eq_true a,zmm c,hb.1,hb.2,d rfl rfl⟩
theorem zwJ{o t v n:Int}{nm:Str}(h:oneI 8 o t v nm n=0):n=1/\o=0/\t≠2/\tagI t v=true/\ident nm=true:=by
 obtain⟨_,a,b,c,_,d,_,_⟩:=zdu h
 have hb:(!decide (t=2) && tagI t v)=true:=b
 simp only[qau,qbs,decide_eq_false_iff_not]at hb
 exact⟨of_decide_eq_true a,zmm c,hb.1,hb.2,d rfl⟩
theorem zwK{o t v n:Int}{nm:Str}(h:oneI 9 o t v nm n=0):t≠2/\zjb t n=true/\v=0/\o=0/\ident nm=true:=by
 obtain⟨_,a,b,c,_,d,_,_⟩:=zdu h
 have ha:(!decide (t=2) && zjb t n)=true:=a
 simp only[qau,qbs,decide_eq_false_iff_not]at ha
 exact⟨ha.1,ha.2,of_decide_eq_true b,zmm c,d rfl⟩
theorem zvB{o t v n:Int}{nm:Str}(h:oneI 10 o t v nm n=0):v≤n/\t=0/\(v=0\/v=1)/\o=0/\ident nm=true:=by
 obtain⟨_,a,b,c,_,d,_,_⟩:=zdu h
 have hb:(decide (t=0) && (decide (v=0) || decide (v=1)))=true:=b
 simp only[qau,qbv,decide_eq_true_eq]at hb
 exact⟨of_decide_eq_true a,hb.1,hb.2,zmm c,d rfl⟩
theorem zvC{o t v n:Int}{nm:Str}(h:oneI 11 o t v nm n=0):n=0/\o=0/\t=0/\v=0/\(zea nm).2=0:=by
 obtain⟨_,a,b,c,_,_,d,_⟩:=zdu h
 have hb:=zkU (o:=o) b
 exact⟨of_decide_eq_true a,zmm c,hb.1,hb.2,d rfl rfl⟩
theorem zwL{k o t v n:Int}{nm:Str}(h:oneI k o t v nm n=0):1≤k/\k≤11:=by
 obtain⟨_,a,_⟩:=zdu h
 unfold ofF at a
 by_cases h0:1≤k/\k≤11
 ·exact h0
 ·exfalso
  rw[if_neg (by omega),if_neg (by omega),if_neg (by omega),if_neg (by omega),if_neg (by omega),if_neg (by omega),if_neg (by omega),if_neg (by omega),if_neg (by omega),if_neg (by omega)]at a
  cases a
structure EnW (es:List En):Prop where
 id:∀u∈es,∀s∈u.tags,ident s=true
 tag:∀(i j:Nat) (u:En) (s:Str),es[i]?=some u->u.tags[j]?=some s->zbi s 0 es=some (3+i,j)
theorem zsT{es:List En}{t v:Int}(h3:3≤t)(hv:0≤v)(hl:v<((za5 es t).1.tags.length:Int)):∃u s,es[(t-3).toNat]?=some u/\za5 es t=(u,true)/\u.tags[v.toNat]?=some s:=by
 unfold za5 at hl⊢
 split at hl
 ·rename_i h
  rw[if_pos h]
  cases hu:es[(t-3).toNat]? with
  | none=>rw[hu]at hl;simp at hl;omega
  | some u=>
    rw[hu]at hl
    have hlt:v.toNat<u.tags.length:=by
     have:v<(u.tags.length:Int):=hl
     omega
    exact⟨u,u.tags[v.toNat],rfl,rfl,qac hlt⟩
 ·simp at hl;omega
theorem zuJ{es:List En}{t v:Int}(h3:3≤t)(hv:0≤v)(hl:v<((za5 es t).1.tags.length:Int)):∃u s,es[(t-3).toNat]?=some u/\u.tags[v.toNat]?=some s/\valS es t v=s/\tgTk es t v=(1,s):=by
 obtain⟨u,s,h1,h2,h4⟩:=zsT h3 hv hl
 refine⟨u,s,h1,h4,?_,?_⟩
 ·unfold valS ziv zhz zdV hasT zbz
  rw[h2]at hl⊢
  have hd:(decide (0≤v) && decide (v<(u.tags.length:Int)))=true:=by simp;exact⟨hv,hl⟩
  simp only[if_neg (show ¬t=1 by omega),if_neg (show ¬t=2 by omega),hd,h4]
  rfl
 ·unfold tgTk
  rw[if_neg (by omega),h2]
  simp only[h4]
  rfl
theorem znL{es:List En}{K:List Tk}{v:Int}(h:v=0\/v=1):LxP (valS es 1 v) [tgTk es 1 v]/\HdO (valS es 1 v)/\TagW ⟨K,es⟩ 1 v.toNat (tgTk es 1 v):=by
 rcases h with rfl|rfl
 ·exact⟨zb5 (x:=[102,97,108,115,101]) ⟨_,_,rfl,by decide,by decide,by decide⟩,⟨102,_,rfl,by decide,by decide⟩,.ff⟩
 ·exact⟨zb5 (x:=[116,114,117,101]) ⟨_,_,rfl,by decide,by decide,by decide⟩,⟨116,_,rfl,by decide,by decide⟩,.tt⟩
theorem zq4{es:List En}(hE:EnW es){K:List Tk}{t v:Int}(h3:3≤t)(hv:0≤v)(hl:v<((za5 es t).1.tags.length:Int)):LxP (valS es t v) [tgTk es t v]/\HdO (valS es t v)/\TagW ⟨K,es⟩ t.toNat v.toNat (tgTk es t v):=by
 obtain⟨u,s,h1,h2,h4,h5⟩:=zuJ h3 hv hl
 have hid:zeI 1 s:=zfK (hE.id u (qas h1) s (qas h2))
 rw[h4,h5]
 refine⟨LxP.nam (by decide) hid,?_,?_⟩
 ·have:=HdO.name hid []
  rwa [qaG]at this
 ·refine .id s (by omega) ?_
  show zbi s 0 es=_
  rw[hE.tag _ _ u s h1 h2]
  congr 2
  omega
theorem zpK{es:List En}{k t v n:Int}(hk:k=1\/k=8)(h:insI es k t v n=0):hasT es t v=true:=by
 unfold insI at h
 rw[if_pos (by omega)]at h
 split at h
 ·cases h
 ·split at h
  ·cases h
  ·rename_i h2
   cases hb:hasT es t v with
   | true=>rfl
   | false=>exact absurd ⟨by omega,hb⟩ h2
theorem zvi{es:List En}{t v:Int}(h3:3≤t)(h:hasT es t v=true):0≤v/\v<((za5 es t).1.tags.length:Int):=by
 unfold hasT zbz at h
 rw[if_neg (by omega),if_neg (by omega),if_neg (by omega)]at h
 simpa using h
theorem znf{es:List En}{t v n:Int}(h:insI es 9 t v n=0)(h3:3≤t):n=((za5 es t).1.tags.length:Int):=by
 unfold insI at h
 rw[if_pos (by omega)]at h
 split at h
 ·cases h
 ·split at h
  ·cases h
  ·split at h
   ·cases h
   ·rename_i h2
    have:n=zbz es t:=by
     by_cases hq:n=zbz es t
     ·exact hq
     ·exact absurd ⟨by decide,hq⟩ h2
    rw[this]
    unfold zbz
    rw[if_neg (by omega),if_neg (by omega)]
theorem zmI{es:List En}(hE:EnW es){K:List Tk}{t v:Int}(ht:tagI t v=true)(hh:hasT es t v=true):LxP (valS es t v) [tgTk es t v]/\HdO (valS es t v)/\TagW ⟨K,es⟩ t.toNat v.toNat (tgTk es t v)/\t=t.toNat/\v=v.toNat:=by
 unfold tagI at ht
 simp only[qbv,qau,decide_eq_true_eq]at ht
 rcases ht with ⟨rfl,hv⟩|⟨⟨h3,h0⟩,_⟩
 ·obtain⟨a,b,c⟩:=znL (es:=es) (K:=K) hv
  exact⟨a,b,c,rfl,by omega⟩
 ·obtain⟨g1,g2⟩:=zvi h3 hh
  obtain⟨a,b,c⟩:=zq4 hE (K:=K) h3 g1 g2
  exact⟨a,b,c,by omega,by omega⟩
theorem zuI{es:List En}{v:Int}(h1:-32768≤v)(h2:v≤32767)(hh:hasT es 2 v=true):LxP (valS es 2 v) (vlTk es 2 v)/\(0≤v->HdO (valS es 2 v)):=by
 have hs:valS es 2 v=Go.Lib.itoa v:=by
  unfold valS ziv
  rw[if_neg (by show ¬(true=false);simp),if_neg (by rw[hh];simp),if_neg (by decide),if_pos rfl]
 rw[hs]
 have hd:∀u:Nat,∃c w,Go.Lib.decDigits u=c::w/\c≠45/\c≠62:=by
  intro u
  have h:=zkm u
  have hne:Go.Lib.decDigits u≠ []:=by
   by_cases hu:u<10
   ·rw[zec hu];simp
   ·rw[zcQ (by omega)];simp
  generalize Go.Lib.decDigits u=x at h hne⊢
  cases x with
  | nil=>exact absurd rfl hne
  | cons c w=>
    have hc:=h c qak
    exact⟨c,w,rfl,by rintro rfl;revert hc;decide,by rintro rfl;revert hc;decide⟩
 unfold Go.Lib.itoa
 by_cases hv:v<0
 ·rw[if_pos hv,zto rfl hv]
  refine⟨?_,fun h=>by omega⟩
  obtain⟨c,w,e,g1,g2⟩:=hd v.natAbs
  have hn:=LxP.nam (by decide) (zqU (u:=v.natAbs) (by omega))
  rw[e]at hn⊢
  exact LxP.minus g1 g2 hn
 ·rw[if_neg hv,ztp rfl hv]
  exact⟨LxP.nam (by decide) (zqU (by omega)),fun _=>hd _⟩
theorem zpY{l:List Ex}(h:(l.length:Int)=0):l=[]:=qaM (by omega)
theorem ztD{t n:Int}(h:zjb t n=true):t=1/\n=2\/3≤t/\1≤n/\n≤16:=by
 unfold zjb at h
 simp only[qbv,qau,decide_eq_true_eq]at h
 omega
theorem zvv{es:List En}(hE:EnW es){K:List Tk}{x:Ex}(h1:oneX x=0)(h2:insX es x=0)(hv:x.kind.1=2->zbi x.name 0 es=none):NdL es x/\NdW ⟨K,es⟩ x:=by
 obtain⟨k,o,t,v,s,args⟩:=x
 have h1:oneI k.1 o.1 t.1 v.1 s args.length=0:=h1
 have h2:insI es k.1 t.1 v.1 args.length=0:=h2
 have hv:k.1=2->zbi s 0 es=none:=hv
 have hk0:=zwL h1
 have hk:k.1=1\/k.1=2\/k.1=3\/k.1=4\/k.1=5\/k.1=6\/k.1=7\/k.1=8\/k.1=9\/k.1=10\/k.1=11:=by omega
 generalize hkk:k.1=kk at*
 rcases hk with rfl|rfl|rfl|rfl|rfl|rfl|rfl|rfl|rfl|rfl|rfl
 ·obtain⟨a1,a2,a3,a4⟩:=zwE h1
  have hh:=zpK (.inl rfl) h2
  constructor <;> constructor <;> dsimp only[Ex.kind,Ex.op,Ex.t,Ex.v,Ex.name,Ex.args] <;> try(first|(intros;omega)|exact fun _=>a2|exact fun _=>a3|exact fun _=>zpY a1)
  ·intro _
   rcases a4 with ⟨ht,g1,g2⟩|⟨ht,htag⟩
   ·rw[ht]at hh⊢
    obtain⟨p,q⟩:=zuI g1 g2 hh
    exact⟨p,fun h=>q (h.resolve_left (fun hc=>hc rfl))⟩
   ·obtain⟨p,q,_⟩:=zmI hE (K:=K) htag hh
    rw[ztq ht]
    exact⟨p,fun _=>q⟩
  ·intro _
   rcases a4 with ⟨ht,g1,g2⟩|⟨ht,htag⟩
   ·exact .inl ⟨ht,g1,g2⟩
   ·obtain⟨_,_,r,e1,e2⟩:=zmI hE (K:=K) htag hh
    exact .inr ⟨ht,_,_,e1,e2,r⟩
 ·obtain⟨a1,a2,a3,a4,a5⟩:=zwF h1
  constructor <;> constructor <;> dsimp only[Ex.kind,Ex.op,Ex.t,Ex.v,Ex.name,Ex.args] <;> try(first|(intros;omega)|exact fun _=>zpY a1|exact fun _=>zfK a5|exact fun _=>hv rfl)
 ·obtain⟨a1,a2,a3,a4,a5,a6⟩:=zwG h1
  constructor <;> constructor <;> dsimp only[Ex.kind,Ex.op,Ex.t,Ex.v,Ex.name,Ex.args] <;> try(first|(intros;omega)|exact fun _=>a6|exact fun _=>⟨a2,a3,a1⟩)
 ·obtain⟨a1,a2,a3,a4,a5⟩:=zwH h1
  exact zwcu
 ·obtain⟨a1,a2,a3,a4,a5⟩:=zwI h1
  exact zwcu
 ·obtain⟨a1,a2,a3,a4,a5⟩:=zvD (.inl rfl) h1
  exact zwcu
 ·obtain⟨a1,a2,a3,a4,a5⟩:=zvD (.inr rfl) h1
  exact zwcu
 ·obtain⟨a1,a2,a3,a4,a5⟩:=zwJ h1
  have hh:=zpK (.inr rfl) h2
  obtain⟨p,_,r,e1,e2⟩:=zmI hE (K:=K) a4 hh
  constructor <;> constructor <;> dsimp only[Ex.kind,Ex.op,Ex.t,Ex.v,Ex.name,Ex.args] <;> try(first|(intros;omega)|exact fun _=>zfK a5|exact fun _=>p|exact fun _=>⟨_,_,e1,e2,r⟩)
 ·obtain⟨a1,a2,a3,a4,a5⟩:=zwK h1
  have hbr:=ztD a2
  have key:∀j:Nat,j<args.length->LxP (valS es t.1 (brV t.1 j)) [tgTk es t.1 (brV t.1 j)]:=by
   intro j hj
   rcases hbr with ⟨ht,hn⟩|⟨h3,_,_⟩
   ·rw[ht]
    exact(znL (K:=K) (by unfold brV;rw[if_pos rfl];omega)).1
   ·have hsz:=znf h2 h3
    have hb:brV t.1 j=(j:Int):=by unfold brV;rw[if_neg (by omega)]
    rw[hb]
    exact(zq4 hE (K:=K) h3 (by omega) (by omega)).1
  have key3:t.1=1->args.length=2:=fun ht=>by omega
  have key2:(t.1=1/\args.length=2)\/∃t':Nat,t.1=t'/\t'≠1/\(⟨K,es⟩:Rd).size t'=args.length/\1≤args.length/\∀j,j<args.length->TagW ⟨K,es⟩ t' j (tgTk es t' j):=by
   rcases hbr with ⟨ht,hn⟩|⟨h3,hn1,_⟩
   ·exact .inl ⟨ht,by omega⟩
   ·right
    have hsz:=znf h2 h3
    refine⟨t.1.toNat,by omega,by omega,?_,by omega,fun j hj=>?_⟩
    ·obtain⟨u,w,g1,g2,_⟩:=zsT (es:=es) h3 (Int.le_refl 0) (by omega)
     rw[g2]at hsz
     unfold Rd.size
     rw[if_neg (by omega),if_neg (by omega),show t.1.toNat-3=(t.1-3).toNat by omega]
     show(match es[(t.1-3).toNat]? with
      | some u=>u.tags.length
      | none=>0)=_
     rw[g1]
     have hsz':(args.length:Int)=(u.tags.length:Int):=hsz
     show u.tags.length=args.length
     omega
    ·have:=(zq4 hE (K:=K) (v:=j) h3 (by omega) (by omega)).2.2
     rw[show((t.1.toNat:Nat):Int)=t.1 by omega]
     simpa using this
  constructor <;> constructor <;> dsimp only[Ex.kind,Ex.op,Ex.t,Ex.v,Ex.name,Ex.args] <;> try(first|(intros;omega)|exact fun _=>zfK a5|exact fun _=>key|exact fun _=>key2|exact fun _=>key3)
 ·obtain⟨a1,a2,a3,a4,a5⟩:=zvB h1
  constructor <;> constructor <;> dsimp only[Ex.kind,Ex.op,Ex.t,Ex.v,Ex.name,Ex.args] <;> try(first|(intros;omega)|exact fun _=>zfK a5|exact fun _=>⟨a3,a1⟩)
 ·obtain⟨a1,a2,a3,a4,a5⟩:=zvC h1
  constructor <;> constructor <;> dsimp only[Ex.kind,Ex.op,Ex.t,Ex.v,Ex.name,Ex.args] <;> try(first|(intros;omega)|exact fun _=>zsu a5|exact fun _=>zpY a1)
end Go.Proofs.YthmbhfgflijapaaGreatDoor
