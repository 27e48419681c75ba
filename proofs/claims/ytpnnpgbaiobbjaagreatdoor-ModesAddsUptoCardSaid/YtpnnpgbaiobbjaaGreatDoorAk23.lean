import Derived.Test.YtpnnpgbaiobbjaaGreatDoorAk19
import Derived.Test.YtpnnpgbaiobbjaaGreatDoorAk22
set_option linter.all false
namespace Go.Proofs.YtpnnpgbaiobbjaaGreatDoor
open Go Go.TL
attribute [local irreducible] TR TO Then zao RetK Sound zab Kf GG zaZ
theorem ziP(x s:Sta):Pure Tryz.prog 241 [.t (staT x),.cp (staC s) 0] (.b (x.name == s.name)):=by
 rw[zii]
 unfold staC
 refine so Tryz.func241 ?_
 repeat' (first|refine wu ?_|exact wkc|intro hc|refine wk2 ?_ ?_|fail)
 all_goals exact zwcz
theorem ziG(fid:FuncId)(caps:List SV)(hcaps:unders 0 caps=true)(p:Sta->Bool)(l:List Sta)(hl:l.length≤1000000000)(hp:∀d,Pure Tryz.prog fid (.t (staT d)::caps) (.b (p d))):
  Pure Tryz.prog 290 [.t (.sl 6 (l.map staT)),.fn fid caps] (.i (idxI p l)):=by
 have hml:(l.map staT).length=l.length:=qaa _
 refine so Tryz.func290 ?_
 repeat' (first|refine wk ?_|exact wkc|intro hc|refine wk2 ?_ ?_|fail)
 refine TR.zal l.length (fun k=>(l.take k).all (fun x=>!p x)=true) (fun k=>[(0,.t (.sl 6 (l.map staT))),(1,.fn fid caps),(7,.i l.length),(8,.i k)]) (fun _=>[]) rfl (fun k hlt ha=>?_) (fun ha=>?_) ⟨rfl,rfl,by rw[<-hml];rfl,rfl,trivial⟩
 ·have hx:=zar staT hlt
  have htk:=zb0 hlt
  have hat:=ze6 p l k hlt ha
  have hd:=hp l[k]
  generalize l[k]=d at hx htk hat hd
  rw[zii]at hx hd
  have hu:unders 0 (.t (.ag (staC d))::caps)=true:=by simp[unders,SV.under,hcaps]
  unfold staC at*
  repeat' (first|refine wk ?_|exact wkc|intro hc|refine wk2 ?_ ?_|(apply TO.zeQ hd;(iterate 3 exact rfl);exact Les.refl _;exact hu;exact rfl)|fail)
  ·rw[hat hc];exact wkr
  ·exact zwfv
 ·exact zwcs
theorem zfD{α:Type}(p:α->Bool)(l:List α):decide (0≤idxI p l)=l.any p:=by
 rcases zdA p l with h|⟨k,hk,h,hp⟩
 ·rw[h]
  symm
  cases ha:l.any p with
  | false=>rfl
  | true=>
    exfalso
    have:∀l:List α,l.any p=true->0≤idxI p l:=by
     intro l
     induction l with
     | nil=>intro h;simp at h
     | cons x l ih=>
       intro h
       unfold idxI
       by_cases hx:p x=true
       ·rw[if_pos hx];omega
       ·rw[if_neg hx]
        have:=ih (by simpa [hx]using h)
        rw[if_neg (by omega)];omega
    have:=this l ha
    omega
 ·rw[h]
  have:l.any p=true:=qcy.2 ⟨_,qad hk,hp⟩
  rw[this];simp
theorem ziA(fid:FuncId)(caps:List SV)(hcaps:unders 0 caps=true)(p:Sta->Bool)(l:List Sta)(hl:l.length≤1000000000)(hp:∀d,Pure Tryz.prog fid (.t (staT d)::caps) (.b (p d))):
  Pure Tryz.prog 240 [.t (.sl 6 (l.map staT)),.fn fid caps] (.b (l.any p)):=by
 have hs:=ziG fid caps hcaps p l hl hp
 have ha:=zfD p l
 generalize idxI p l=z at*
 have hu:unders 0 [.t (.sl 6 (l.map staT)),.fn fid caps]=true:=by simp[unders,SV.under,hcaps]
 refine so Tryz.func240 ?_
 repeat' (first|refine wk ?_|exact wkc|intro hc|refine wk2 ?_ ?_|(apply TO.zeQ hs;(iterate 3 exact rfl);exact Les.refl _;exact hu;exact rfl)|fail)
 all_goals
  refine RetK.pure rfl (Le.of_eq ?_) rfl
  refine congrArg (fun b=>SV.t (T.v (Value.bool b))) ?_
  rw[<-ha];simp;omega
theorem zlb(l:List Str)(hl:l.length≤1000000000)(s:Str):Pure Tryz.prog 248 [.t (.sl 1 (l.map T.s)),.s s] (.i (idxI (fun x=>s == x) l)):=by
 have hml:(l.map T.s).length=l.length:=qaa _
 refine so Tryz.func248 ?_
 repeat' (first|refine wk ?_|exact wkc|intro hc|refine wk2 ?_ ?_|fail)
 refine TR.zal l.length (fun k=>(l.take k).all (fun x=>!(s == x))=true) (fun k=>[(0,.t (.sl 1 (l.map T.s))),(1,.s s),(7,.i l.length),(8,.i k)]) (fun _=>[]) rfl (fun k hlt ha=>?_) (fun ha=>?_) ⟨rfl,rfl,by rw[<-hml];rfl,rfl,trivial⟩
 ·have hx:=at_s hlt
  have htk:=zb0 hlt
  have hat:=ze6 (fun x=>s == x) l k hlt ha
  generalize l[k]=d at hx htk hat
  repeat' (first|refine wk ?_|exact wkc|intro hc|refine wk2 ?_ ?_|fail)
  ·rw[hat (by simp[hc])];exact wkr
  ·exact zwfv
 ·rw[qah]at ha
  rw[zfE _ l ha]
  repeat' (first|refine wk ?_|exact wkc|intro hc|refine wk2 ?_ ?_|fail)
  exact wkr
theorem zb6(l:List Str)(hl:l.length≤1000000000)(s:Str):Pure Tryz.prog 179 [.t (.sl 1 (l.map T.s)),.s s] (.b (decide (s∈l))):=by
 have hs:=zlb l hl s
 have ha:=zfD (fun x=>s == x) l
 have hm:(l.any fun x=>s == x)=decide (s∈l):=by
  rw[Bool.eq_iff_iff];simp
 rw[hm]at ha
 generalize idxI (fun x=>s == x) l=z at*
 refine so Tryz.func179 ?_
 repeat' (first|refine wk ?_|exact wkc|intro hc|refine wk2 ?_ ?_|refine wv hs ?_|fail)
 all_goals
  refine RetK.pure rfl (Le.of_eq ?_) rfl
  refine congrArg (fun b=>SV.t (T.v (Value.bool b))) ?_
  rw[<-ha];simp;omega
theorem zkw(b:List Str)(hb:b.length≤1000000000)(x:Str):Pure Tryz.prog 295 [.s x,.cp [.sl 1 (b.map T.s)] 0] (.b (!decide (x∈b))):=by
 have hs:=zb6 b hb x
 refine so Tryz.func295 ?_
 repeat' (first|refine wu ?_|exact wkc|intro hc|refine wk2 ?_ ?_|refine wb hs ?_ ?_|fail)
 all_goals
  refine RetK.pure rfl (Le.of_eq ?_) rfl
  refine congrArg (fun b=>SV.t (T.v (Value.bool b))) ?_
  rw[hc]
theorem zo3(fid:FuncId)(caps:List SV)(hcaps:unders 0 caps=true)(p:Str->Bool)(l:List Str)(hl:l.length≤1000000000)(hp:∀d,Pure Tryz.prog fid (.s d::caps) (.b (p d))):
  Pure Tryz.prog 317 [.t (.sl 1 (l.map T.s)),.fn fid caps] (.i (idxI p l)):=by
 have hml:(l.map T.s).length=l.length:=qaa _
 refine so Tryz.func317 ?_
 repeat' (first|refine wk ?_|exact wkc|intro hc|refine wk2 ?_ ?_|fail)
 refine TR.zal l.length (fun k=>(l.take k).all (fun x=>!p x)=true) (fun k=>[(0,.t (.sl 1 (l.map T.s))),(1,.fn fid caps),(7,.i l.length),(8,.i k)]) (fun _=>[]) rfl (fun k hlt ha=>?_) (fun ha=>?_) ⟨rfl,rfl,by rw[<-hml];rfl,rfl,trivial⟩
 ·have hx:=at_s hlt
  have htk:=zb0 hlt
  have hat:=ze6 p l k hlt ha
  have hd:=hp l[k]
  generalize l[k]=d at hx htk hat hd
  have hu:unders 0 (.s d::caps)=true:=by simp[unders,SV.under,hcaps]
  repeat' (first|refine wk ?_|exact wkc|intro hc|refine wk2 ?_ ?_|(apply TO.zeQ hd;(iterate 3 exact rfl);exact Les.refl _;exact hu;exact rfl)|fail)
  ·rw[hat hc];exact wkr
  ·exact zwfv
 ·exact zwcs
theorem zoO(fid:FuncId)(caps:List SV)(hcaps:unders 0 caps=true)(p:Str->Bool)(l:List Str)(hl:l.length≤1000000000)(hp:∀d,Pure Tryz.prog fid (.s d::caps) (.b (p d))):
  Pure Tryz.prog 294 [.t (.sl 1 (l.map T.s)),.fn fid caps] (.b (l.any p)):=by
 have hs:=zo3 fid caps hcaps p l hl hp
 have ha:=zfD p l
 generalize idxI p l=z at*
 have hu:unders 0 [.t (.sl 1 (l.map T.s)),.fn fid caps]=true:=by simp[unders,SV.under,hcaps]
 refine so Tryz.func294 ?_
 repeat' (first|refine wk ?_|exact wkc|intro hc|refine wk2 ?_ ?_|(apply TO.zeQ hs;(iterate 3 exact rfl);exact Les.refl _;exact hu;exact rfl)|fail)
 all_goals
  refine RetK.pure rfl (Le.of_eq ?_) rfl
  refine congrArg (fun b=>SV.t (T.v (Value.bool b))) ?_
  rw[<-ha];simp;omega
def znv(a b:List Str):Bool:=decide (a.length=b.length) && !(a.any fun x=>!decide (x∈b))
theorem zl0(a b:List Str)(ha:a.length≤1000000000)(hb:b.length≤1000000000):Pure Tryz.prog 243 [.t (.sl 1 (a.map T.s)),.t (.sl 1 (b.map T.s))] (.b (znv a b)):=by
 have hs:=zoO 295 [.cp [.sl 1 (b.map T.s)] 0] rfl (fun x=>!decide (x∈b)) a ha (fun x=>zkw b hb x)
 have m1:(a.map T.s).length=a.length:=qaa _
 have m2:(b.map T.s).length=b.length:=qaa _
 unfold znv
 generalize (a.any fun x=>!decide (x∈b))=z at*
 cases z
 all_goals
  refine so Tryz.func243 ?_
  repeat' (first|refine wu ?_|exact wkc|intro hc|refine wk2 ?_ ?_|(apply TO.zeQ hs;(iterate 3 exact rfl);exact Les.refl _;exact rfl;exact rfl)|fail)
  all_goals
   refine RetK.pure rfl (Le.of_eq ?_) rfl
   refine congrArg (fun b=>SV.t (T.v (Value.bool b))) ?_
   clear hs
   first
   | (simp;omega)
   | (rw[decide_eq_true (by omega)];rfl)
   | (rw[decide_eq_false (by omega)];rfl)
abbrev ztG (up:SV)(b:Nat):Heap:=[setB [],setB [],.cells [up,.mp b,.mp (b+1),nilM,nilS]]
theorem zld(p:Prog)(n q:Int)(seen:List (Int×Str×Int)):
  Sound Tryz.prog 158 [nilP] [lkB p n q,zbS seen] (fun r H'=>r= .ret (.ref 4 0)/\H'=lkB p n q::zbS seen::ztG nilP 2):=by
 refine so Tryz.func158 ?_
 refine wk ?_
 exact RetK.keep 5 rfl (Le.refl _) rfl rfl rfl rfl rfl ⟨rfl,rfl⟩
theorem zqQ(p:Prog)(n q:Int)(seen:List (Int×Str×Int))(h:Ch):
  Sound Tryz.prog 158 [.ref h.id 0] (full p n q seen h) (fun r H'=>r= .ret (.ref (h.N+2) 0)/\H'=full p n q seen h++ztG (.ref h.id 0) h.N):=by
 cases h
 case one a=>
  refine so Tryz.func158 ?_
  refine wk ?_
  exact RetK.keep 8 rfl (Le.refl _) rfl rfl rfl rfl rfl ⟨rfl,rfl⟩
 case c1=>
  refine so Tryz.func158 ?_
  refine wk ?_
  exact RetK.keep 10 rfl (Le.refl _) rfl rfl rfl rfl rfl ⟨rfl,rfl⟩
 case c2=>
  refine so Tryz.func158 ?_
  refine wk ?_
  exact RetK.keep 14 rfl (Le.refl _) rfl rfl rfl rfl rfl ⟨rfl,rfl⟩
 case c3=>
  refine so Tryz.func158 ?_
  refine wk ?_
  exact RetK.keep 18 rfl (Le.refl _) rfl rfl rfl rfl rfl ⟨rfl,rfl⟩
 case c4=>
  refine so Tryz.func158 ?_
  refine wk ?_
  exact RetK.keep 22 rfl (Le.refl _) rfl rfl rfl rfl rfl ⟨rfl,rfl⟩
theorem wbd{G Q:Prop}{f:FuncId}{cargs:List SV}{v:SV}(hs:Pure Tryz.prog f cargs v)(k:Q)(h:Pure Tryz.prog f cargs v->Hold Q->G:=by
  intro hs k
  (apply TO.zul hs;(iterate 3 exact rfl);exact Go.TL.Les.refl _;exact rfl;exact rfl;exact k.p)):G:=h hs ⟨k⟩
theorem wmb{G Q:Prop}(k:Q)(h:Hold Q->G:=by
  intro k
  (apply TO.zq4;exact rfl;exact rfl;exact k.p)):G:=h ⟨k⟩
theorem wvb{G Q:Prop}{f:FuncId}{cargs:List SV}{v:SV}(hs:Pure Tryz.prog f cargs v)(k:Q)(h:Pure Tryz.prog f cargs v->Hold Q->G:=by
  intro hs k
  (apply TO.zeQ hs;(iterate 3 exact rfl);(repeat' (first|exact trivial|exact Le.refl _|refine qaf ?_ ?_|refine Le.tree rfl ?_|refine Le.bnd ?_|exact TLe.refl _|fail));exact rfl;exact rfl;exact k.p)):G:=h hs ⟨k⟩
def ExT(e:Ex):Prop:=wEx e≤1000000000/\∀x∈flat e,Arity x
def zcC(w:Plc)(c:Ex):Int:=if(resT w false c).2≠0 then(resT w false c).2 else if(resT w false c).1.length≠1 then 9 else if(resT w false c).1.headD 0≠1 then 10 else 0
theorem ze1(w:Plc)(hw:zcG w)(c:Ex)(hc:ExT c):Pure Tryz.prog 61 [.t (plcT w),.t (exT c)] (.i (zcC w c)):=by
 have hs:=zfR w hw c hc.1 hc.2 false
 unfold zcC
 generalize resT w false c=r at*
 obtain⟨l,f⟩:=r
 simp only at*
 have hml:(l.map T.i).length=l.length:=qaa _
 have hx0:0<l.length->(l.map T.i)[(0:Int).toNat]?=some (T.i (l.headD 0)):=by cases l with|nil=>simp|cons a l=>intro _;rfl
 generalize l.headD 0=t0 at*
 rw[zay]at hs⊢
 unfold exC at*
 unfold plcT plcC at*
 clear hc
 by_cases hl:l.length=1
 ·have hx:=hx0 (by omega)
  exact zwbc
 ·exact zwbc
theorem zgN(w:Plc)(hw:zcG w)(t:Tran)(hc:ExT t.cond):Pure Tryz.prog 172 [.t (plcT w),.t (zah t)] (.i (zcC w t.cond)):=by
 have hs:=ze1 w hw t.cond hc
 generalize zcC w t.cond=z at*
 rw[zay]at hs
 rw[show zah t= .ag (zgY t) from rfl]
 unfold exC at hs
 unfold zgY
 unfold plcT plcC at*
 refine so Tryz.func172 ?_
 repeat' (first|refine wu ?_|exact wkc|intro hc|refine wk2 ?_ ?_|refine wv hs ?_|fail)
 exact wkr
def eqnT(w:Plc)(q:Equ):Int:=if(resT w false q.right).2≠0 then(resT w false q.right).2 else if(resT w false q.right).1.length≠q.left.length then 9 else if q.left.map (fun s=>(zc1 w.env s).1)=(resT w false q.right).1 then 0 else 10
theorem zja(w:Plc)(hw:zcG w)(q:Equ)(hq:q.left.length≤1000000000)(hc:ExT q.right):Pure Tryz.prog 57 [.t (plcT w),.t (equT q)] (.i (eqnT w q)):=by
 have hs:=zfR w hw q.right hc.1 hc.2 false
 have hz:eqnT w q=eqnT w q:=rfl
 conv at hz=>rhs;unfold eqnT
 generalize eqnT w q=z at hz⊢
 generalize resT w false q.right=r at*
 obtain⟨l,f⟩:=r
 simp only at*
 have hml:(l.map T.i).length=l.length:=qaa _
 have hmq:(q.left.map T.s).length=q.left.length:=qaa _
 have hty:=fun s=>zez w s hw.env
 rw[zay]at hs
 rw[show equT q= .ag (equC q) from rfl]
 unfold exC at hs
 unfold equC
 unfold plcT plcC at*
 clear hc
 refine so Tryz.func57 ?_
 repeat' (first|refine wu ?_|exact wkc|intro hc|refine wk2 ?_ ?_|refine wv hs ?_|fail)
 ·rw[if_pos hc]at hz;subst hz;exact wkr
 ·have hlq:=hc
  clear hc
  have hf:=hc
  rw[if_neg hf,if_pos (by rw[hml,hmq]at hlq;omega)]at hz;subst hz;exact wkr
 have hlq:=hc
 clear hc
 have hf:=hc
 rw[if_neg hf,if_neg (by rw[hml,hmq]at hlq;omega)]at hz
 have hll:l.length=q.left.length:=by rw[hml,hmq]at hlq;omega
 clear hs hlq
 refine TR.zal q.left.length (fun k=>(q.left.take k).map (fun s=>(zc1 w.env s).1)=l.take k) (fun k=>[(2,.cp [.sl 2 (w.p.enums.map enT),zaC w.p.nodes,T.n w.node,zac w.env] 0),(5,.t (zeS l)),(28,.t (.sl 1 (q.left.map T.s))),(29,.i (q.left.map T.s).length),(30,.i k)]) (fun _=>[]) rfl (fun k hlt ha=>?_) (fun ha=>?_)
 ·have hx:(q.left.map T.s)[k]?=some (T.s q.left[k]):=zar T.s hlt
  have hy:(l.map T.i)[k]?=some (T.i (l[k]'(by omega))):=zjE (by omega)
  have hs:=hty q.left[k]
  have t1:(q.left.take (k+1)).map (fun s=>(zc1 w.env s).1)=(q.left.take k).map (fun s=>(zc1 w.env s).1)++[(zc1 w.env q.left[k]).1]:=by rw[qaA hlt,qal];rfl
  have t2:l.take (k+1)=l.take k++[l[k]'(by omega)]:=qaA (by omega)
  have hne:(zc1 w.env q.left[k]).1≠l[k]'(by omega)->¬q.left.map (fun s=>(zc1 w.env s).1)=l:=fun h e=>h (by
   have:=congrArg (fun z=>z[k]?) e
   simp only[qau,qac hlt,qac (show k<l.length by omega),qa6]at this
   exact qco this)
  generalize (zc1 w.env q.left[k])=u at*
  generalize l[k]'(by omega)=y at*
  generalize q.left[k]=x at*
  obtain⟨u1,u2⟩:=u
  clear hty
  repeat' (first|refine wu ?_|exact wkc|intro hc|refine wk2 ?_ ?_|refine wv hs ?_|fail)
  ·rw[if_neg (hne hc)]at hz
   subst hz;exact wkr
  ·refine zab.zat hlt ?_
   rw[t1,t2,ha,qbg.1 hc]
 ·rw[show q.left.length=q.left.length from rfl,qah,<-hll,qah]at ha
  rw[if_pos ha]at hz;subst hz
  repeat' (first|refine wu ?_|exact wkc|intro hc|refine wk2 ?_ ?_|fail)
  exact wkr
theorem zfz(fid:FuncId)(b:T)(f:Ex->Int)(l:List Ex)(hl:l.length≤1000000000)(hp:∀x∈l,Pure Tryz.prog fid [.t b,.t (exT x)] (.i (f x))):
  Pure Tryz.prog 60 [.t (.sl 6 (l.map exT)),.bnd fid [.t b]] (.i (zaf f l)):=by
 have hml:(l.map exT).length=l.length:=qaa _
 refine so Tryz.func60 ?_
 repeat' (first|refine wk ?_|exact wkc|intro hc|refine wk2 ?_ ?_|fail)
 refine TR.zal l.length (fun k=>zaf f (l.take k)=0) (fun k=>[(1,.bnd fid [.t b]),(8,.t (.sl 6 (l.map exT))),(9,.i (l.map exT).length),(10,.i k)]) (fun _=>[]) rfl (fun k hlt ha=>?_) (fun ha=>?_)
 ·have hx:=zar exT hlt
  have g1:=zaF (f:=f) hlt ha
  have g2:=zaq (f:=f) hlt ha
  have hd:=hp _ (qad hlt)
  generalize l[k]=x at*
  generalize f x=fx at*
  rw[zay x]at hx hd
  unfold exC at*
  repeat' (first|refine wkt ?_|refine wka ?_|refine wk ?_|exact wkc|intro hc|refine wk2 ?_ ?_|refine wbd hd ?_|fail)
  ·rw[g1 hc];exact wkr
  ·exact zab.zat hlt (g2 (qbg.1 hc))
 ·exact zwdn
theorem zfB(fid:FuncId)(b:T)(f:Tran->Int)(l:List Tran)(hl:l.length≤1000000000)(hp:∀x∈l,Pure Tryz.prog fid [.t b,.t (zah x)] (.i (f x))):
  Pure Tryz.prog 171 [.t (.sl 8 (l.map zah)),.bnd fid [.t b]] (.i (zaf f l)):=by
 have hml:(l.map zah).length=l.length:=qaa _
 refine so Tryz.func171 ?_
 repeat' (first|refine wk ?_|exact wkc|intro hc|refine wk2 ?_ ?_|fail)
 refine TR.zal l.length (fun k=>zaf f (l.take k)=0) (fun k=>[(1,.bnd fid [.t b]),(8,.t (.sl 8 (l.map zah))),(9,.i (l.map zah).length),(10,.i k)]) (fun _=>[]) rfl (fun k hlt ha=>?_) (fun ha=>?_)
 ·have hx:=zar zah hlt
  have g1:=zaF (f:=f) hlt ha
  have g2:=zaq (f:=f) hlt ha
  have hd:=hp _ (qad hlt)
  generalize l[k]=x at*
  generalize f x=fx at*
  rw[(show ∀t:Tran,zah t= .ag (zgY t) from fun _=>rfl) x]at hx hd
  unfold zgY at*
  repeat' (first|refine wkt ?_|refine wka ?_|refine wk ?_|exact wkc|intro hc|refine wk2 ?_ ?_|refine wbd hd ?_|fail)
  ·rw[g1 hc];exact wkr
  ·exact zab.zat hlt (g2 (qbg.1 hc))
 ·exact zwdn
theorem zjQ(fid:FuncId)(b:T)(f:Equ->Int)(l:List Equ)(hl:l.length≤1000000000)(hp:∀x∈l,Pure Tryz.prog fid [.t b,.t (equT x)] (.i (f x))):
  Pure Tryz.prog 174 [.t (.sl 7 (l.map equT)),.bnd fid [.t b]] (.i (zaf f l)):=by
 have hml:(l.map equT).length=l.length:=qaa _
 refine so Tryz.func174 ?_
 repeat' (first|refine wk ?_|exact wkc|intro hc|refine wk2 ?_ ?_|fail)
 refine TR.zal l.length (fun k=>zaf f (l.take k)=0) (fun k=>[(1,.bnd fid [.t b]),(8,.t (.sl 7 (l.map equT))),(9,.i (l.map equT).length),(10,.i k)]) (fun _=>[]) rfl (fun k hlt ha=>?_) (fun ha=>?_)
 ·have hx:=zar equT hlt
  have g1:=zaF (f:=f) hlt ha
  have g2:=zaq (f:=f) hlt ha
  have hd:=hp _ (qad hlt)
  generalize l[k]=x at*
  generalize f x=fx at*
  rw[(show ∀t:Equ,equT t= .ag (equC t) from fun _=>rfl) x]at hx hd
  unfold equC at*
  repeat' (first|refine wkt ?_|refine wka ?_|refine wk ?_|exact wkc|intro hc|refine wk2 ?_ ?_|refine wbd hd ?_|fail)
  ·rw[g1 hc];exact wkr
  ·exact zab.zat hlt (g2 (qbg.1 hc))
 ·exact zwdn
theorem zjR(fid:FuncId)(b:T)(f:Sta->Int)(l:List Sta)(hl:l.length≤1000000000)(hp:∀x∈l,Pure Tryz.prog fid [.t b,.t (staT x)] (.i (f x))):
  Pure Tryz.prog 112 [.t (.sl 6 (l.map staT)),.bnd fid [.t b]] (.i (zaf f l)):=by
 have hml:(l.map staT).length=l.length:=qaa _
 refine so Tryz.func112 ?_
 repeat' (first|refine wk ?_|exact wkc|intro hc|refine wk2 ?_ ?_|fail)
 refine TR.zal l.length (fun k=>zaf f (l.take k)=0) (fun k=>[(1,.bnd fid [.t b]),(8,.t (.sl 6 (l.map staT))),(9,.i (l.map staT).length),(10,.i k)]) (fun _=>[]) rfl (fun k hlt ha=>?_) (fun ha=>?_)
 ·have hx:=zar staT hlt
  have g1:=zaF (f:=f) hlt ha
  have g2:=zaq (f:=f) hlt ha
  have hd:=hp _ (qad hlt)
  generalize l[k]=x at*
  generalize f x=fx at*
  rw[zii x]at hx hd
  unfold staC at*
  repeat' (first|refine wkt ?_|refine wka ?_|refine wk ?_|exact wkc|intro hc|refine wk2 ?_ ?_|refine wbd hd ?_|fail)
  ·rw[g1 hc];exact wkr
  ·exact zab.zat hlt (g2 (qbg.1 hc))
 ·exact zwdn
theorem zfy(fid:FuncId)(b:T)(f:Auto->Int)(l:List Auto)(hl:l.length≤1000000000)(hp:∀x∈l,Pure Tryz.prog fid [.t b,.t (zae x)] (.i (f x))):
  Pure Tryz.prog 58 [.t (.sl 1 (l.map zae)),.bnd fid [.t b]] (.i (zaf f l)):=by
 have hml:(l.map zae).length=l.length:=qaa _
 refine so Tryz.func58 ?_
 repeat' (first|refine wk ?_|exact wkc|intro hc|refine wk2 ?_ ?_|fail)
 refine TR.zal l.length (fun k=>zaf f (l.take k)=0) (fun k=>[(1,.bnd fid [.t b]),(8,.t (.sl 1 (l.map zae))),(9,.i (l.map zae).length),(10,.i k)]) (fun _=>[]) rfl (fun k hlt ha=>?_) (fun ha=>?_)
 ·have hx:=zar zae hlt
  have g1:=zaF (f:=f) hlt ha
  have g2:=zaq (f:=f) hlt ha
  have hd:=hp _ (qad hlt)
  generalize l[k]=x at*
  generalize f x=fx at*
  rw[zho x]at hx hd
  unfold zdj at*
  repeat' (first|refine wkt ?_|refine wka ?_|refine wk ?_|exact wkc|intro hc|refine wk2 ?_ ?_|refine wbd hd ?_|fail)
  ·rw[g1 hc];exact wkr
  ·exact zab.zat hlt (g2 (qbg.1 hc))
 ·exact zwdn
abbrev zme (l:List Str):Blk:=.cells ((l.map T.s).map .t)
theorem zun{l:List Str}{k:Nat}(h:k<l.length):((l.map T.s).map SV.t)[0+k*1]?=some (.s l[k]):=by simp[h]
def zbE(own:List Str)(l:List Str):List Str:=l.filter fun x=>!decide (x∈own)
theorem zdY(own l:List Str):(zbE own l).length≤l.length:=qcF _ _
theorem zeG{own l:List Str}{k:Nat}(h:k<l.length):zbE own (l.take (k+1))=zbE own (l.take k)++(if l[k]∈own then[] else[l[k]]):=by
 unfold zbE
 rw[qaA h,List.filter_append]
 by_cases hm:l[k]∈own <;> simp[hm]
theorem zlg{own l:List Str}(h:l.all (fun x=>!decide (x∈own))=true):zbE own l=l:=by
 unfold zbE
 rw[List.filter_eq_self]
 intro x hx
 exact qaB.1 h x hx
def midS(own l:List Str)(k:Nat):List Str:=zbE own (l.take k)++l.drop (zbE own (l.take k)).length
theorem zn8(own l:List Str)(k:Nat):(midS own l k).length=l.length:=by
 unfold midS
 have h1:=zdY own (l.take k)
 have h2:(l.take k).length≤l.length:=by simp;omega
 simp;omega
theorem zuM{own l:List Str}{k:Nat}(h:k<l.length):(midS own l k)[k]?=some l[k]:=by
 unfold midS
 have h1:=zdY own (l.take k)
 have h2:(l.take k).length=k:=by simp;omega
 rw[qax (by omega),qbb,show(zbE own (l.take k)).length+(k-(zbE own (l.take k)).length)=k from by omega]
 exact qac h
theorem zuN{own l:List Str}{k:Nat}(h:k<l.length)(hm:l[k]∈own):midS own l (k+1)=midS own l k:=by
 unfold midS
 rw[zeG h,if_pos hm,qaQ]
theorem zsW{own l:List Str}{k:Nat}(h:k<l.length)(hm:l[k] ∉ own):midS own l (k+1)=(midS own l k).set (zbE own (l.take k)).length l[k]:=by
 have h1:=zdY own (l.take k)
 have h2:(l.take k).length=k:=by simp;omega
 unfold midS
 rw[zeG h,if_neg hm]
 generalize zbE own (l.take k)=K at*
 rw[qcH _ _ (qag _),qbH]
 cases hd:l.drop K.length with
 | nil=>
   have:=congrArg List.length hd
   simp at this;omega
 | cons y r=>
   rw[List.set_cons_zero]
   have hr:l.drop (K.length+1)=r:=by
    have:=congrArg (List.drop 1) hd
    rw[List.drop_drop]at this
    simpa using this
   rw[qae,qcG,hr]
   simp
theorem zo8{own l:List Str}{k:Nat}(hk:k<l.length)(ha:(l.take k).all (fun x=>!decide (x∈own))=true)(hm:l[k]∈own):midS own l (k+1)=l/\(zbE own (l.take (k+1))).length=k:=by
 have h2:(l.take k).length=k:=by simp;omega
 unfold midS
 rw[zeG hk,if_pos hm,qaQ,zlg ha,h2]
 exact⟨qaS k l,rfl⟩
theorem ziz{k:Nat}{H0:Heap}(h:zad k H0=true)(ts:List T):zad k (H0++[.cells (ts.map .t)])=true:=zap h (zkr k ts)
theorem zsR{own l:List Str}{k:Nat}(hk:k<l.length)(hm:l[k]∈own):(zbE own l).length<l.length:=by
 unfold zbE
 refine List.length_filter_lt_length_iff_exists.2 ⟨l[k],qad hk,by simpa using hm⟩
theorem zpn(own l:List Str):splice (((midS own l l.length).map T.s).map SV.t) (0+(zbE own l).length*1) (List.replicate (l.length-(zbE own l).length) (.t (T.s [])))=((zbE own l++List.replicate (l.length-(zbE own l).length) []).map T.s).map .t:=by
 have h1:=zdY own l
 unfold splice midS
 rw[qah]
 simp only[qaO,Nat.mul_one,qb7]
 rw[<-qb0,<-qb0,qcM,qa7 (by simp),qaQ]
 simp
abbrev outH (p:Prog)(n q:Int)(seen:List (Int×Str×Int))(h:Ch):Heap:=lkB p n q::zbS seen::(h.heap.dropLast++[.dead,.cells [.ref h.id 0]])
theorem zi9(p:Prog)(n q:Int)(seen:List (Int×Str×Int))(h:Ch)(hne:8≤h.N)(hk:zaD h.top.own)(x:Str)(hx:x.length≤1000000000):
  Sound Tryz.prog 293 [.s x,.ref h.N 0] (outH p n q seen h) (fun r H'=>r= .ret (.b (decide (x∈h.top.own)))/\H'=outH p n q seen h):=by
 revert hne hk
 revert h
 refine Ch.lt fun h=>?_
 cases h
 case one=>intro g hne;exact absurd hne (show ¬8≤5 by decide)
 case c1=>intro g hne;exact absurd hne (show ¬8≤7 by decide)
 all_goals
  intro g hne hk
  refine so Tryz.func293 ?_
  repeat' (first|refine wkt ?_|refine wka ?_|refine wk ?_|exact wkc|intro hc|refine wk2 ?_ ?_|(apply TO.zgK;(iterate 4 exact rfl);assumption;assumption)|(apply TO.zjn;(iterate 3 exact rfl);assumption)|fail)
  all_goals exact retV rfl (bsv (by simp_all [g,Ch.top])) rfl rfl
theorem zoU(p:Prog)(n q:Int)(seen:List (Int×Str×Int))(h:Ch)(hne:8≤h.N)(hk:zaD h.top.own)(l:List Str)(hl:l.length≤2000000000)(hs:∀x∈l,x.length≤1000000000):
  Sound Tryz.prog 317 [.ms 1 (h.N+1) 0 l.length,.fn 293 [.ref h.N 0]] (outH p n q seen h++[zme l]) (fun r H'=>r= .ret (.i (idxI (fun x=>decide (x∈h.top.own)) l))/\H'=outH p n q seen h++[zme l]):=by
 revert hne hk
 revert h
 refine Ch.lt fun h=>?_
 cases h
 case one=>intro g hne;exact absurd hne (show ¬8≤5 by decide)
 case c1=>intro g hne;exact absurd hne (show ¬8≤7 by decide)
 all_goals
  intro g hne hk
  refine so Tryz.func317 ?_
  repeat' (first|refine wk ?_|exact wkc|intro hc|refine wk2 ?_ ?_|fail)
  refine TR.zal l.length (fun k=>(l.take k).all (fun x=>!decide (x∈g.top.own))=true) (fun k=>[(0,.ms 1 (g.N+1) 0 l.length),(1,.fn 293 [.ref g.N 0]),(7,.i l.length),(8,.i k)]) (fun _=>outH p n q seen g++[zme l]) rfl (fun k hlt ha=>?_) (fun ha=>?_)
  ·have hx:=zun hlt
   have htk:=zb0 hlt
   have hat:=ze6 (fun x=>decide (x∈g.top.own)) l k hlt ha
   have hd:=zi9 p n q seen g hne hk l[k] (hs _ (qad hlt))
   generalize l[k]=d at hx htk hat hd
   repeat' (first|refine wk ?_|exact wkc|intro hc|refine wk2 ?_ ?_|(apply TO.zes zag;(iterate 7 exact rfl);omega;omega)|(apply TO.zfJ zag;(iterate 5 exact rfl);exact hx)|(apply TO.znN (g.N+1) hd;(iterate 3 exact rfl);exact Les.refl _;exact leB;(iterate 3 exact rfl))|fail)
   ·rw[hat hc];exact retV rfl rfl rfl (ziz rfl _)
   ·exact zwfi
  ·rw[qah]at ha
   rw[zfE _ l ha]
   repeat' (first|refine wk ?_|exact wkc|intro hc|refine wk2 ?_ ?_|fail)
   exact retV rfl rfl rfl (ziz rfl _)
theorem zp6(p:Prog)(n q:Int)(seen:List (Int×Str×Int))(h:Ch)(hne:8≤h.N)(hk:zaD h.top.own)(l:List Str)(hl:l.length≤2000000000)(hs:∀x∈l,x.length≤1000000000):
  Sound Tryz.prog 292 [.ms 1 (h.N+1) 0 l.length,.fn 293 [.ref h.N 0]] (outH p n q seen h++[zme l])
   (fun r H'=>r= .ret (.ms 1 (h.N+1) 0 (zbE h.top.own l).length)/\H'=outH p n q seen h++[.cells (((zbE h.top.own l++List.replicate (l.length-(zbE h.top.own l).length) []).map T.s).map .t)]):=by
 revert hne hk
 revert h
 refine Ch.lt fun h=>?_
 cases h
 case one=>intro g hne;exact absurd hne (show ¬8≤5 by decide)
 case c1=>intro g hne;exact absurd hne (show ¬8≤7 by decide)
 all_goals
  intro g hne hk
  have hd0:=zoU p n q seen g hne hk l hl hs
  rcases zdA (fun x=>decide (x∈g.top.own)) l with h|⟨k0,hk0,h,hp⟩
  ·rw[h]at hd0
   have hall:l.all (fun x=>!decide (x∈g.top.own))=true:=by
    have:=zfD (fun x=>decide (x∈g.top.own)) l
    rw[h]at this
    rw[List.all_eq_not_any_not]
    simpa using this
   rw[zlg hall,qbH]
   simp only[List.replicate_zero,qaQ]
   refine so Tryz.func292 ?_
   repeat' (first|refine wk ?_|exact wkc|intro hc|refine wk2 ?_ ?_|(apply TO.zaE (g.N+2) hd0;(iterate 3 exact rfl);exact Les.refl _;(iterate 3 exact rfl);exact ziz rfl _;exact rfl;exact rfl;exact ziz rfl _;exact za6 _)|fail)
   exact retV rfl rfl rfl (ziz rfl _)
  ·rw[h]at hd0
   have hin:l[k0]∈g.top.own:=by simpa using hp
   have hall:(l.take k0).all (fun x=>!decide (x∈g.top.own))=true:=by
    have:∀(l:List Str) (k:Nat),idxI (fun x=>decide (x∈g.top.own)) l=k->(l.take k).all (fun x=>!decide (x∈g.top.own))=true:=by
     intro l
     induction l with
     | nil=>intro k _;simp
     | cons y l ih=>
       intro k hk
       unfold idxI at hk
       by_cases hy:decide (y∈g.top.own)=true
       ·rw[if_pos hy]at hk
        have:k=0:=by omega
        subst this;rfl
       ·rw[if_neg hy]at hk
        split at hk
        ·omega
        ·obtain⟨k',rfl⟩:∃k',k=k'+1:=⟨k-1,by omega⟩
         rw[qaM,qbG,ih k' (by omega)]
         simpa using hy
    exact this l k0 h
   obtain⟨f1,f2⟩:=zo8 hk0 hall hin
   have hlt1:=zsR hk0 hin
   refine so Tryz.func292 ?_
   repeat' (first|refine wk ?_|exact wkc|intro hc|refine wk2 ?_ ?_|(apply TO.zaE (g.N+2) hd0;(iterate 3 exact rfl);exact Les.refl _;(iterate 3 exact rfl);exact ziz rfl _;exact rfl;exact rfl;exact ziz rfl _;exact za6 _)|fail)
   refine TR.zal (l.length-(k0+1)) (fun _=>True) (fun k=>[(0,.ms 1 (g.N+1) 0 l.length),(1,.fn 293 [.ref g.N 0]),(5,.i (zbE g.top.own (l.take (k0+1+k))).length),(6,.i ((k0+1+k:Nat):Int))]) (fun k=>outH p n q seen g++[zme (midS g.top.own l (k0+1+k))]) trivial (fun k hlt _=>?_) (fun _=>?_) ⟨rfl,rfl,by rw[qb9,f2];rfl,rfl,trivial⟩ (by rw[qb9,f1];rfl)
   ·have hj:k0+1+k<l.length:=by omega
    have hkl:=zdY g.top.own (l.take (k0+1+k))
    have htl:(l.take (k0+1+k)).length=k0+1+k:=by simp;omega
    have hml:(((midS g.top.own l (k0+1+k)).map T.s).map SV.t).length=l.length:=by rw[qaa,qaa,zn8]
    have hx:(((midS g.top.own l (k0+1+k)).map T.s).map SV.t)[0+(k0+1+k)*1]?=some (.s l[k0+1+k]):=by
     rw[qaO,Nat.mul_one,qau,qau,zuM hj];rfl
    have hd:=zi9 p n q seen g hne hk l[k0+1+k] (hs _ (qad hj))
    have g1:=zuN (own:=g.top.own) hj
    have g2:=zsW (own:=g.top.own) hj
    have g3:=zeG (own:=g.top.own) hj
    generalize l[k0+1+k]=x at*
    generalize zbE g.top.own (l.take (k0+1+k))=KS at*
    generalize midS g.top.own l (k0+1+k)=MS at*
    repeat' (first|refine wk ?_|exact wkc|intro hc|refine wk2 ?_ ?_|(apply TO.zes zag;(iterate 7 exact rfl);omega;omega)|(apply TO.zfJ zag;(iterate 5 exact rfl);exact hx)|(apply TO.znN (g.N+1) hd;(iterate 3 exact rfl);exact Les.refl _;exact leB;(iterate 3 exact rfl))|(apply TO.ztX zag;(iterate 7 exact rfl);(show 0+KS.length*1<_;rw[hml];omega);exact rfl)|fail)
    ·have hxo:x∈g.top.own:=by simpa using hc
     rw[if_pos hxo,qaQ]at g3
     refine zab.zat hlt trivial ⟨rfl,rfl,?_,rfl,trivial⟩ ?_
     ·rw[show zbE g.top.own (l.take (k0+1+(k+1)))=KS from g3];rfl
     ·rw[show midS g.top.own l (k0+1+(k+1))=MS from g1 hxo]
    ·have hxo:x ∉ g.top.own:=by simpa using hc
     rw[if_neg hxo]at g3
     refine zab.zat hlt trivial ⟨rfl,rfl,?_,rfl,trivial⟩ ?_
     ·rw[show zbE g.top.own (l.take (k0+1+(k+1)))=KS++[x] from g3,qae];rfl
     ·rw[show midS g.top.own l (k0+1+(k+1))=MS.set KS.length x from g2 hxo]
      show _=outH p n q seen g++[zme (MS.set KS.length x)]
      unfold zme
      rw[List.map_set,List.map_set]
      show _=outH p n q seen g++[Blk.cells (((MS.map T.s).map SV.t).set KS.length (.s x))]
      conv=>rhs;rw[show KS.length=0+KS.length*1 from by omega]
      rfl
   ·have hll:k0+1+(l.length-(k0+1))=l.length:=by omega
    have hsp:=zpn g.top.own l
    have hml:(((midS g.top.own l l.length).map T.s).map SV.t).length=l.length:=by rw[qaa,qaa,zn8]
    rw[hll,qah]
    generalize zbE g.top.own l=KS at*
    generalize midS g.top.own l l.length=MS at*
    repeat' (first|refine wk ?_|exact wkc|intro hc|refine wk2 ?_ ?_|(apply TO.zju zag;(iterate 7 exact rfl);omega)|(apply TO.zom zag;(iterate 6 exact rfl);omega)|(apply TO.zvt zag;(iterate 7 exact rfl);omega;(show 0+KS.length*1+(l.length-KS.length)≤_;rw[hml];omega);exact rfl)|fail)
    refine RetK.keep (g.N+2) (v:=.ms 1 (g.N+1) 0 KS.length) rfl (Le.refl _) rfl rfl rfl (H':=outH p n q seen g++[.cells (((KS++List.replicate (l.length-KS.length) []).map T.s).map .t)]) ?_ (ziz rfl _) ⟨rfl,rfl⟩
    rw[<-hsp];rfl
end Go.Proofs.YtpnnpgbaiobbjaaGreatDoor
