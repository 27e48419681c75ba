import Derived.Test.YtpfnfpaahefdaaaGreatPk14
set_option linter.all false
namespace Go.Proofs.YtpfnfpaahefdaaaGreat
open Go Go.TL
attribute [local irreducible] TR TO Then zac RetK Sound zaf Kf GG zaY
abbrev zbZ (es:List En)(n q:Int):Blk:=.cells [.t (ensT es),.i n,.i q]
abbrev zgf (n q c:Int):SV:=.ifc 61 (.t (.ag [T.i n,T.i q,T.i c]))
abbrev LS (f:FuncId)(args:List SV)(es:List En)(n q c:Int):Prop:=Sound Tryz.prog f (.ref 0 0::args) [zbZ es n q] (Err c (.tup []) (zgf n q c) [zbZ es n q])
theorem retF{rs:List ResultVar}{env:Env}{H:Heap}{es:List En}{n q c c':Int}(h0:c'≠0)(hc:c'=c)(hN:Nat.ble 1 H.length=true)(hb:zab H.length H=true):
  RetK tab rs 1 (Err0 c (.tup []) (zgf n q c) [zbZ es n q] 1) (.panic (zgf n q c')) env H:=by
 subst hc;exact RetK.errP h0 hN rfl hb
theorem retN{env:Env}{H:Heap}{es:List En}{n q c:Int}(hc:c=0)(hk:Nat.ble 1 H.length=true)(ht:H.take 1=[zbZ es n q]):
  RetK tab [] 1 (Err0 c (.tup []) (zgf n q c) [zbZ es n q] 1) .normal env H:=RetK.errN (vs:=[]) hc rfl (Le.refl _) rfl hk rfl ht rfl
theorem we{G Q1 Q2:Prop}{f:FuncId}{cargs:List SV}{v pv:SV}{c:Int}{Hc H1:Heap}(hs:Sound Tryz.prog f cargs Hc (Err c v pv H1))(k1:Q1)(k2:Q2)(h:Sound Tryz.prog f cargs Hc (Err c v pv H1)->Hold Q1->Hold Q2->G:=by
  intro hs k1 k2
  first
  | (apply TO.zll 1 hs;(iterate 3 exact rfl);exact zqa;(iterate 9 exact rfl);exact k1.p;exact k2.p)
  | (apply TO.zll 2 hs;(iterate 3 exact rfl);exact zqa;(iterate 9 exact rfl);exact k1.p;exact k2.p)):G:=h hs ⟨k1⟩ ⟨k2⟩
theorem zlQ(es:List En)(n q e:Int):Sound Tryz.prog 20 [.ref 0 0,.b true,.i e] [zbZ es n q] (fun r H'=>r= .ret (.tup [])/\H'=[zbZ es n q]):=by
 refine so Tryz.func20 ?_
 repeat' (first|refine wu ?_|exact wkc|intro hc|refine wk2 ?_ ?_|fail)
 exact RetK.zpQ 1 (vs:=[]) rfl (Le.refl _) rfl rfl rfl rfl rfl ⟨rfl,rfl⟩
theorem zlP(es:List En)(n q e:Int)(he:e≠0):LS 20 [.b false,.i e] es n q e:=by
 refine Sound.err rfl (fun _=>rfl) ?_
 refine so Tryz.func20 ?_
 repeat' (first|refine wu ?_|exact wkc|intro hc|refine wk2 ?_ ?_|(apply TO.makeInterface;exact rfl;kernel_rfl;exact rfl)|(apply TO.panic;exact rfl)|fail)
 exact retF he rfl rfl rfl
section
variable {n:Nat}{env:Env}{K:TK}{all:Array Oper}{rest:List Oper}{d:Nat}{ty:TypeId}{pos:String}{aft:Array Edge}{es:List En}{a q e:Int}{H Hr:Heap}{args:Array Operand}{ts:Array TypeId}
theorem TO.zpT(hd:Nat.ble (d+1) n=true)(ha:env.vals args.toList=some [.ref 0 0,.b true,.i e])(h1:H=zbZ es a q::Hr)(k:TO false Tryz.prog n all rest ((d,.tup [])::env) H K):
  TO false Tryz.prog n all (⟨some d,.call { callee:=.value (.func 20),args:=args,argTypes:=ts },ty,pos,aft,none⟩::rest) env H K:=by
 subst h1
 exact TO.zmQ 1 (zlQ es a q e) hd rfl ha ⟨Le.refl _,Le.refl _,Le.refl _,trivial⟩ (by simp) rfl rfl rfl rfl rfl rfl (by simp[zd1]) k
theorem TO.zpl(hd:Nat.ble (d+1) n=true)(ha:env.vals args.toList=some [.ref 0 0,.b false,.i e])(h1:H=zbZ es a q::Hr)(he:e≠0)(k:K (.panic (zgf a q e)) env (.dead::Hr)):
  TO false Tryz.prog n all (⟨some d,.call { callee:=.value (.func 20),args:=args,argTypes:=ts },ty,pos,aft,none⟩::rest) env H K:=by
 subst h1
 exact TO.zll 1 (zlP es a q e he) hd rfl ha ⟨Le.refl _,Le.refl _,Le.refl _,trivial⟩ (by simp) rfl rfl rfl rfl rfl rfl rfl (by simp[zd1];rfl) (fun h=>absurd h he) (fun _=>k)
end
theorem wm{G Q:Prop}(k:Q)(h:Hold Q->G:=by
  intro k
  first
  | (apply Go.Proofs.YtpfnfpaahefdaaaGreat.TO.zpT;(iterate 3 exact rfl);exact k.p)
  | (apply Go.Proofs.YtpfnfpaahefdaaaGreat.TO.zpl;(iterate 3 exact rfl);decide;exact k.p)
  | (apply Go.Proofs.YtpfnfpaahefdaaaGreat.TO.zpl;(iterate 3 exact rfl);assumption;exact k.p)):G:=h ⟨k⟩
theorem zbw(es:List En)(n q:Int)(s:Str):LS 44 [.s s] es n q (zcg s):=by
 refine Sound.err rfl (fun _=>rfl) ?_
 have hi:=zfJ s
 unfold zcg
 refine so Tryz.func44 ?_
 repeat' (first|refine wu ?_|exact wkc|intro hc|refine wk2 ?_ ?_|refine wb hi ?_ ?_|refine wm ?_|fail)
 ·exact retN (if_pos hc) rfl rfl
 ·apply retF
  ·decide
  ·rw[if_neg (by simp[hc])]
  ·exact rfl
  ·exact rfl
theorem zd5(es:List En)(n q e:Int):LS 48 [.i e] es n q e:=by
 refine Sound.err rfl (fun _=>rfl) ?_
 refine so Tryz.func48 ?_
 repeat' (first|refine wu ?_|exact wkc|intro hc|refine wk2 ?_ ?_|refine wm ?_|fail)
 ·exact retN hc rfl rfl
 ·exact retF hc rfl rfl rfl
theorem za8{α:Type}{f:α->Int}{l:List α}{k:Nat}(hk:k<l.length)(h:zan f (l.take k)=0)(hn:f l[k]≠0):zan f l=f l[k]:=by
 conv=>lhs;rw[<-qbe k l]
 rw[zcp,if_pos h,qaF hk,zan,if_neg hn]
theorem zaS{α:Type}{f:α->Int}{l:List α}{k:Nat}(hk:k<l.length)(h:zan f (l.take k)=0)(hz:f l[k]=0):zan f (l.take (k+1))=0:=by
 rw[qaH hk,zcp,if_pos h,zan,if_pos hz,zan]
theorem zaX{α:Type}{f:α->Int}{l:List α}(h:zan f (l.take l.length)=0):zan f l=0:=by rwa [qbc]at h
theorem at_s{l:List Str}{k:Nat}(h:k<l.length):(l.map T.s)[k]?=some (T.s l[k]):=by simp[h]
theorem zpL{l:List OnC}{k:Nat}(h:k<l.length):(l.map onT)[k]?=some (.ag [.s l[k].name,T.n l[k].t,T.n l[k].tag]):=zc0 onT h
theorem ziL(es:List En)(n q:Int)(u:En)(hw:u.tags.length≤1000000000):LS 21 [.t (.ag [.s u.name,.sl 1 (u.tags.map T.s)])] es n q (zfy u):=by
 refine Sound.err rfl (fun _=>rfl) ?_
 have hi:=zbw es n q u.name
 have hml:(u.tags.map T.s).length=u.tags.length:=qad _
 have hz:zfy u=zfy u:=rfl
 conv at hz=>rhs;unfold zfy orE
 generalize zfy u=z at hz⊢
 refine so Tryz.func21 ?_
 repeat' (first|refine wu ?_|exact wkc|intro hc|refine wk2 ?_ ?_|refine we hi ?_ ?_|refine wm ?_|fail)
 all_goals first
  | (apply retF;assumption;(rw[hz];clear hi;grind);exact rfl;exact rfl)
  | (apply retF;decide;(rw[hz];clear hi;grind);exact rfl;exact rfl)
  | skip
 have hz2:z=zan zcg u.tags:=by rw[hz];clear hi;grind
 clear hz
 generalize u.tags=l at*
 refine TR.zb0 l.length (fun k=>zan zcg (l.take k)=0) (fun k=>[(0,.ref 0 0),(23,.t (.sl 1 (l.map T.s))),(24,.i (l.map T.s).length),(25,.i k)]) (fun _=>[zbZ es n q]) rfl (fun k hlt ha=>?_) (fun ha=>?_)
 ·have hx:=at_s hlt
  have h1:=za8 (f:=zcg) hlt ha
  have h2:=zaS (f:=zcg) hlt ha
  generalize l[k]=x at*
  have hs:=zbw es n q x
  repeat' (first|refine wu ?_|exact wkc|intro hc|refine wk2 ?_ ?_|refine we hs ?_ ?_|fail)
  ·exact zaf.zcq hlt (h2 hc)
  ·refine zaf.panic ?_
   repeat' (first|refine wu ?_|exact wkc|intro hc|refine wk2 ?_ ?_|fail)
   exact retF hc (by rw[hz2,h1 hc]) rfl rfl
 ·repeat' (first|refine wu ?_|exact wkc|intro hc|refine wk2 ?_ ?_|fail)
  exact retN (by rw[hz2,zaX ha]) rfl rfl
theorem zcI(es:List En)(n q:Int)(l:List Decl)(port:Bool)(hw:(zb9 l).w≤1000000000):LS 45 [.t (zb9 l),.b port] es n q (zan (ze1 es port) l):=by
 refine Sound.err rfl (fun _=>rfl) ?_
 have hml:(l.map zag).length=l.length:=qad _
 have hlb:l.length≤1000000000:=qbg (qbX (zdG zag 3 l)) hw
 refine so Tryz.func45 ?_
 repeat' (first|refine wu ?_|exact wkc|intro hc|refine wk2 ?_ ?_|fail)
 refine TR.zb0 l.length (fun k=>zan (ze1 es port) (l.take k)=0) (fun k=>[(0,.ref 0 0),(2,.b port),(10,.t (zb9 l)),(11,.i (l.map zag).length),(12,.i k)]) (fun _=>[zbZ es n q]) rfl (fun k hlt ha=>?_) (fun ha=>?_)
 ·have hx:=zoe hlt
  have h1:=za8 (f:=ze1 es port) hlt ha
  have h2:=zaS (f:=ze1 es port) hlt ha
  have hcl:=zdG onT 3 l[k].clock
  have hwx:=zhu (f:=zag) (sz:=3) (qaG hlt)
  rw[show zag l[k]= .ag (zmW l[k]) from rfl,w_ag]at hwx
  generalize l[k]=x at*
  simp only[zmW,qag,qas,qaz,qaN]at hwx
  have hmo:(x.clock.map onT).length=x.clock.length:=qad _
  have hs:=zbw es n q x.name
  have hsz:=zc8 es x.ty
  unfold zmW at hx
  have hz:ze1 es port x=ze1 es port x:=rfl
  conv at hz=>rhs;unfold ze1 orE
  generalize ze1 es port x=z at hz h1 h2
  cases port
  all_goals
   repeat' (first|refine wu ?_|exact wkc|intro hc|refine wk2 ?_ ?_|refine we hs ?_ ?_|refine wm ?_|refine wv hsz ?_|fail)
  all_goals first
   | (refine zaf.panic ?_
      refine wk ?_
      apply retF
      first|assumption|decide
      ·clear hs hsz;grind
      exact rfl
      exact rfl)
   | skip
  all_goals
   have hz2:z=zan (onE es) x.clock:=by clear hs hsz;grind
   clear hz hs hsz
   generalize x.clock=cl at*
   refine TR.zb0 cl.length (fun j=>zan (onE es) (cl.take j)=0) (fun j=>[(0,.ref 0 0),(2,.b _),(10,.t (zb9 l)),(11,.i (l.map zag).length),(12,.i k),(47,.t (.sl 3 (cl.map onT))),(48,.i (cl.map onT).length),(49,.i j)]) (fun _=>[zbZ es n q]) rfl (fun j hlt2 ha2=>?_) (fun ha2=>?_)
   ·have hx2:=zpL hlt2
    have g1:=za8 (f:=onE es) hlt2 ha2
    have g2:=zaS (f:=onE es) hlt2 ha2
    generalize cl[j]=o at*
    have hs:=zbw es n q o.name
    have hh:=zhQ es o.t o.tag
    have hz:onE es o=onE es o:=rfl
    conv at hz=>rhs;unfold onE orE
    generalize onE es o=z3 at hz g1 g2
    repeat' (first|refine wu ?_|exact wkc|intro hc|refine wk2 ?_ ?_|refine we hs ?_ ?_|refine wm ?_|refine wb hh ?_ ?_|fail)
    all_goals first
     | exact zaf.zcq hlt2 (g2 (by clear hs hh;grind))
     | (refine zaf.panic ?_
        refine wk ?_
        refine zaf.panic ?_
        refine wk ?_
        apply retF
        first|assumption|decide
        ·clear hs hh;grind
        exact rfl
        exact rfl)
   ·have hz3:=zaX ha2
    refine wk ?_
    repeat' (first|refine wu ?_|exact wkc|intro hc|refine wk2 ?_ ?_|fail)
    exact zaf.zcq hlt (h2 (by rw[hz2,hz3]))
 ·repeat' (first|refine wu ?_|exact wkc|intro hc|refine wk2 ?_ ?_|fail)
  exact retN (zaX ha) rfl rfl
def allF(g:Ex->Bool)(H1:Heap)(_:List Ex)(x:Ex):Out:=if g x=true then .go else .jump .ret H1
theorem zjU(g:Ex->Bool)(H1:Heap):∀(l pre:List Ex),zbn (allF g H1) pre l=if l.all g=true then .go else .jump .ret H1
 | [],pre=>by simp[zbn]
 | x::l,pre=>by
   simp only[zbn,allF,qbm,qat]
   by_cases h:g x=true
   ·simp only[h,if_true,true_and];exact zjU g H1 l _
   ·simp[h]
theorem zf1(e:Ex)(h:wEx e≤1000000000):Pure Tryz.prog 92 [.t (.ag (exC e))] (.b (sless e)):=by
 have hs:=zdH e
 rw[zal]at hs
 have hc0:exC e=[T.n e.kind,T.n e.op,T.n e.t,T.n e.v,.s e.name,.sl 6 (e.args.map exT)]:=rfl
 rw[hc0]at hs⊢
 unfold sless
 refine so Tryz.func92 ?_
 repeat' (first|refine wkb ?_|refine wk ?_|exact wkc|intro hc|refine wk2 ?_ ?_|refine wv hs ?_|fail)
 refine TR.zer e (fun _=>[.cells [.b false]]) (allF (fun x=>zij x.kind.1) [.cells [.b false]]) rfl h rfl rfl rfl (fun _=>⟨rfl,rfl⟩) (fun pre x=>?_) (fun fn pre x post hw=>?_) (fun fn=>?_)
 ·unfold allF
  split <;> rename_i hq <;> split at hq <;> cases hq
  ·trivial
  ·exact⟨rfl,rfl⟩
 ·have hcx:exC x=[T.n x.kind,T.n x.op,T.n x.t,T.n x.v,.s x.name,.sl 6 (x.args.map exT)]:=rfl
  rw[hcx]
  repeat' (first|refine wu ?_|exact wkc|intro hc|refine wk2 ?_ ?_|fail)
  refine⟨rfl,?_⟩
  repeat' (first|refine wu ?_|exact wkc|intro hc|refine wk2 ?_ ?_|fail)
  all_goals first
   | (refine⟨_,?_,rfl,rfl⟩
      rw[allF,if_neg (by clear hs hc0 hcx;simp[zij];omega)]
      rfl)
   | (refine⟨?_,rfl,rfl⟩
      rw[allF,if_pos (by clear hs hc0 hcx;simp[zij];omega)])
 ·rw[zjU]
  by_cases h2:((flat e).all fun x=>zij x.kind.1)=true
  ·exact zwdr
  ·rw[if_neg h2,Bool.not_eq_true _ |>.mp h2]
   simp only[]
   repeat' (first|refine wu ?_|exact wkc|intro hc|refine wk2 ?_ ?_|fail)
   exact wkr
theorem zoU{q:Equ}:wEx q.right≤(equT q).w:=by
 have h:=zmx q.right
 rw[zal,w_ag]at h
 rw[show equT q= .ag (.sl 1 (q.left.map T.s)::exC q.right) from rfl,w_ag,qag,qaz]
 have:=zpH (.sl 1 (q.left.map T.s))
 omega
theorem zm9{q:Equ}:q.left.length≤(equT q).w:=by
 have h:=zdG T.s 1 q.left
 rw[show equT q= .ag (.sl 1 (q.left.map T.s)::exC q.right) from rfl,w_ag,qag,qaz]
 omega
def equC(q:Equ):List T:=.sl 1 (q.left.map T.s)::[T.n q.right.kind,T.n q.right.op,T.n q.right.t,T.n q.right.v,.s q.right.name,.sl 6 (q.right.args.map exT)]
theorem znO{l:List Equ}{k:Nat}(h:k<l.length):(l.map equT)[k]?=some (.ag (equC l[k])):=zc0 equT h
theorem zgt(es:List En)(n q:Int)(u:Equ)(hw:(equT u).w≤1000000000):LS 46 [.t (.ag (equC u))] es n q (equE es u):=by
 refine Sound.err rfl (fun _=>rfl) ?_
 have hx:=zcy es u.right (qbg zoU hw)
 have hlb:u.left.length≤1000000000:=qbg zm9 hw
 have hml:(u.left.map T.s).length=u.left.length:=qad _
 have hr:=zd5 es n q (zca es u.right)
 have hz:equE es u=equE es u:=rfl
 conv at hz=>rhs;unfold equE orE
 rw[zal]at hx
 unfold exC at hx
 unfold equC
 generalize equE es u=z at hz⊢
 generalize zca es u.right=xe at*
 refine so Tryz.func46 ?_
 repeat' (first|refine wu ?_|exact wkc|intro hc|refine wk2 ?_ ?_|refine wm ?_|fail)
 all_goals first
  | ((repeat' (first|refine zaf.panic ?_|refine wk ?_|fail));apply retF;(first|assumption|decide);(clear hr hx;grind);exact rfl;exact rfl)
  | skip
 generalize u.left=l at*
 refine TR.zb0 l.length (fun k=>zan zcg (l.take k)=0) (fun k=>[(0,.ref 0 0),(3,.cp [.sl 1 (l.map T.s),T.n u.right.kind,T.n u.right.op,T.n u.right.t,T.n u.right.v,.s u.right.name,.sl 6 (u.right.args.map exT)] 0),(19,.t (.sl 1 (l.map T.s))),(20,.i (l.map T.s).length),(21,.i k)]) (fun _=>[zbZ es n q]) rfl (fun k hlt ha=>?_) (fun ha=>?_)
 ·have hx:=at_s hlt
  have h1:=za8 (f:=zcg) hlt ha
  have h2:=zaS (f:=zcg) hlt ha
  generalize l[k]=x at*
  have hs:=zbw es n q x
  repeat' (first|refine wu ?_|exact wkc|intro hc|refine wk2 ?_ ?_|refine we hs ?_ ?_|fail)
  all_goals first
   | exact zaf.zcq hlt (h2 hc)
   | ((repeat' (first|refine zaf.panic ?_|refine wk ?_|fail));apply retF;(first|assumption|decide);(clear hr hx hs;grind);exact rfl;exact rfl)
 ·have h1:=zaX ha
  repeat' (first|refine wu ?_|exact wkc|intro hc|refine wk2 ?_ ?_|refine wv hx ?_|refine we hr ?_ ?_|refine wm ?_|fail)
  all_goals first
   | ((repeat' (first|refine zaf.panic ?_|refine wk ?_|fail));apply retF;(first|assumption|decide);(clear hr hx;grind);exact rfl;exact rfl)
   | exact retN (by clear hr hx;grind) rfl rfl
def znC(t:Tran):List T:=[T.n t.cond.kind,T.n t.cond.op,T.n t.cond.t,T.n t.cond.v,.s t.cond.name,.sl 6 (t.cond.args.map exT),T.n t.to,.b t.resume]
theorem zof{l:List Tran}{k:Nat}(h:k<l.length):(l.map zbg)[k]?=some (.ag (znC l[k])):=zc0 zbg h
theorem znE{t:Tran}:wEx t.cond≤(zbg t).w:=by
 have h:=zmx t.cond
 rw[zal,w_ag]at h
 rw[show zbg t= .ag (znC t) from rfl,w_ag]
 simp only[exC,znC,qag,qas,qaz,qaN]at*
 omega
theorem zeY(es:List En)(n q:Int)(l:List Tran)(states:Int)(strong:Bool)(hw:(T.sl 8 (l.map zbg)).w≤1000000000):LS 74 [.t (.sl 8 (l.map zbg)),.i states,.b strong] es n q (zan (zgj es states strong) l):=by
 refine Sound.err rfl (fun _=>rfl) ?_
 have hml:(l.map zbg).length=l.length:=qad _
 have hlb:l.length≤1000000000:=qbg (qbX (zdG zbg 8 l)) hw
 refine so Tryz.func74 ?_
 repeat' (first|refine wu ?_|exact wkc|intro hc|refine wk2 ?_ ?_|fail)
 refine TR.zb0 l.length (fun k=>zan (zgj es states strong) (l.take k)=0) (fun k=>[(0,.ref 0 0),(2,.i states),(3,.b strong),(10,.t (.sl 8 (l.map zbg))),(11,.i (l.map zbg).length),(12,.i k)]) (fun _=>[zbZ es n q]) rfl (fun k hlt ha=>?_) (fun ha=>?_)
 ·have hx:=zof hlt
  have h1:=za8 (f:=zgj es states strong) hlt ha
  have h2:=zaS (f:=zgj es states strong) hlt ha
  have hwx:=zhu (f:=zbg) (sz:=8) (qaG hlt)
  generalize l[k]=x at*
  have hwe:wEx x.cond≤1000000000:=by have:=znE (t:=x);omega
  have hex:=zcy es x.cond hwe
  have hst:=zf1 x.cond hwe
  rw[zal]at hex
  unfold exC at hex hst
  unfold znC at hx
  have hr:=zd5 es n q (zca es x.cond)
  have hz:zgj es states strong x=zgj es states strong x:=rfl
  conv at hz=>rhs;unfold zgj orE
  generalize zgj es states strong x=z at*
  generalize zca es x.cond=xe at*
  generalize sless x.cond=sl at*
  cases strong
  all_goals
   repeat' (first|refine wu ?_|exact wkc|intro hc|refine wk2 ?_ ?_|refine wm ?_|refine wv hex ?_|refine we hr ?_ ?_|refine wb hst ?_ ?_|fail)
  all_goals first
   | exact zaf.zcq hlt (h2 (by clear hex hst hr;grind))
   | ((repeat' (first|refine zaf.panic ?_|refine wk ?_|fail));apply retF;(first|assumption|decide);(clear hex hst hr hx;grind);exact rfl;exact rfl)
 ·repeat' (first|refine wu ?_|exact wkc|intro hc|refine wk2 ?_ ?_|fail)
  exact retN (zaX ha) rfl rfl
def ze0(a:Auto):List T:=[.sl 6 (a.states.map staT)]
theorem zlb(a:Auto):zaP a= .ag (ze0 a):=zdK a
def staC(s:Sta):List T:=[.s s.name,zb9 s.locals,.sl 7 (s.eqs.map equT),.sl 1 (s.autos.map zaP),.sl 8 (s.unl.map zbg),.sl 8 (s.unt.map zbg)]
theorem zn6(s:Sta):staT s= .ag (staC s):=zdm s
theorem zo3{l:List Sta}{k:Nat}(h:k<l.length):(l.map staT)[k]?=some (.ag (staC l[k])):=by rw[<-zn6];exact zc0 staT h
theorem zk9{l:List Auto}{k:Nat}(h:k<l.length):(l.map zaP)[k]?=some (.ag (ze0 l[k])):=by rw[<-zlb];exact zc0 zaP h
theorem zpX(s:Sta):(zb9 s.locals).w+(T.sl 7 (s.eqs.map equT)).w+(T.sl 1 (s.autos.map zaP)).w+(T.sl 8 (s.unl.map zbg)).w+(T.sl 8 (s.unt.map zbg)).w≤(staT s).w:=by
 rw[zn6,w_ag];simp only[staC,qag,qas,qaz,qaN];omega
theorem zpF(a:Auto):(T.sl 6 (a.states.map staT)).w≤(zaP a).w:=by
 rw[zlb,w_ag];simp only[ze0,qag,qas,qaz,qaN];omega
theorem zeM(es:List En)(n q:Int):∀(k:Nat) (d:Int),k≤3->d+k=3->∀(a:Auto),(zaP a).w≤1000000000->LS 47 [.t (.ag (ze0 a)),.i d] es n q (zdV es k a)
 | 0,d,_,hd,a,_=>by
   refine Sound.err rfl (fun _=>rfl) ?_
   unfold zdV ze0
   refine so Tryz.func47 ?_
   repeat' (first|refine wu ?_|exact wkc|intro hc|refine wk2 ?_ ?_|refine wm ?_|fail)
   ·apply retF
    ·decide
    ·rfl
    ·exact rfl
    ·exact rfl
 | k+1,d,hk3,hd,a,hw=>by
   have ih:∀x,(zaP x).w≤1000000000->LS 47 [.t (.ag (ze0 x)),.i (d+1)] es n q (zdV es k x):=fun x hx=>zeM es n q k (d+1) (by omega) (by omega) x hx
   refine Sound.err rfl (fun _=>rfl) ?_
   have hwa:=zpF a
   have hlb:a.states.length≤1000000000:=by have:=zdG staT 6 a.states;omega
   have hml:(a.states.map staT).length=a.states.length:=qad _
   have hz:zdV es (k+1) a=zdV es (k+1) a:=rfl
   conv at hz=>rhs;unfold zdV orE
   generalize zdV es (k+1) a=z at hz⊢
   generalize zdV es k=F at*
   unfold ze0
   generalize a.states=l at*
   refine so Tryz.func47 ?_
   repeat' (first|refine wu ?_|exact wkc|intro hc|refine wk2 ?_ ?_|refine wm ?_|fail)
   all_goals first
    | ((repeat' (first|refine zaf.panic ?_|refine wk ?_|fail));apply retF;(first|assumption|decide);(clear ih;grind);exact rfl;exact rfl)
    | (exfalso;omega)
    | skip
   have hz2:z=zan (stE es F (l.length:Int)) l:=by clear ih;grind
   clear hz
   refine TR.zb0 l.length (fun k=>zan (stE es F (l.length:Int)) (l.take k)=0) (fun k=>[(0,.ref 0 0),(2,.i d),(4,.cp [.sl 6 (l.map staT)] 0),(29,.t (.sl 6 (l.map staT))),(30,.i (l.map staT).length),(31,.i k)]) (fun _=>[zbZ es n q]) rfl (fun j hlt ha=>?_) (fun ha=>?_)
   ·have hx:=zo3 hlt
    have h1:=za8 (f:=stE es F (l.length:Int)) hlt ha
    have h2:=zaS (f:=stE es F (l.length:Int)) hlt ha
    have hwx:=zhu (f:=staT) (sz:=6) (qaG hlt)
    generalize l[j]=x at*
    have hws:=zpX x
    have hl1:=zdG equT 7 x.eqs
    have hl2:=zdG zaP 1 x.autos
    have m1:(x.locals.map zag).length=x.locals.length:=qad _
    have m2:(x.eqs.map equT).length=x.eqs.length:=qad _
    have m3:(x.autos.map zaP).length=x.autos.length:=qad _
    have m4:(x.unl.map zbg).length=x.unl.length:=qad _
    have m5:(x.unt.map zbg).length=x.unt.length:=qad _
    have hi:=zbw es n q x.name
    have hd1:=zcI es n q x.locals false (by omega)
    have ht1:=zeY es n q x.unl (l.length:Int) true (by omega)
    have ht2:=zeY es n q x.unt (l.length:Int) false (by omega)
    rw[<-hml]at ht1 ht2
    have hz:stE es F (l.length:Int) x=stE es F (l.length:Int) x:=rfl
    conv at hz=>rhs;unfold stE orE
    have heq:∀u,u∈x.eqs->LS 46 [.t (.ag (equC u))] es n q (equE es u):=fun u hu=>zgt es n q u (by have:=zhu (f:=equT) (sz:=7) hu;omega)
    have hau:∀u,u∈x.autos->LS 47 [.t (.ag (ze0 u)),.i (d+1)] es n q (F u):=fun u hu=>ih u (by have:=zhu (f:=zaP) (sz:=1) hu;omega)
    clear ih
    generalize stE es F (l.length:Int) x=zs at hz h1 h2
    rw[<-hml]at hz
    unfold staC at hx
    repeat' (first|refine wu ?_|exact wkc|intro hc|refine wk2 ?_ ?_|refine wm ?_|refine we hi ?_ ?_|refine we hd1 ?_ ?_|fail)
    all_goals first
     | ((repeat' (first|refine zaf.panic ?_|refine wk ?_|fail));apply retF;(first|assumption|decide);(clear hi hd1 ht1 ht2 heq hau hx;grind);exact rfl;exact rfl)
     | skip
    refine TR.zb0 x.eqs.length (fun i=>zan (equE es) (x.eqs.take i)=0) (fun i=>[(0,.ref 0 0),(2,.i d),(4,.cp [.sl 6 (l.map staT)] 0),(29,.t (.sl 6 (l.map staT))),(30,.i (l.map staT).length),(31,.i j),(7,.cp [.s x.name,zb9 x.locals,.sl 7 (x.eqs.map equT),.sl 1 (x.autos.map zaP),.sl 8 (x.unl.map zbg),.sl 8 (x.unt.map zbg)] 0),(72,.t (.sl 7 (x.eqs.map equT))),(73,.i (x.eqs.map equT).length),(74,.i i)]) (fun _=>[zbZ es n q]) rfl (fun i hlt2 ha2=>?_) (fun ha2=>?_)
    ·have hx2:=znO hlt2
     have g1:=za8 (f:=equE es) hlt2 ha2
     have g2:=zaS (f:=equE es) hlt2 ha2
     have hs:=heq _ (qaG hlt2)
     generalize x.eqs[i]=u at*
     unfold equC at hx2 hs
     repeat' (first|refine wu ?_|exact wkc|intro hc|refine wk2 ?_ ?_|refine we hs ?_ ?_|fail)
     all_goals exact zwbc
    have he2:=zaX ha2
    refine wk ?_
    repeat' (first|refine wu ?_|exact wkc|intro hc|refine wk2 ?_ ?_|fail)
    refine TR.zb0 x.autos.length (fun i=>zan F (x.autos.take i)=0) (fun i=>[(0,.ref 0 0),(2,.i d),(4,.cp [.sl 6 (l.map staT)] 0),(29,.t (.sl 6 (l.map staT))),(30,.i (l.map staT).length),(31,.i j),(7,.cp [.s x.name,zb9 x.locals,.sl 7 (x.eqs.map equT),.sl 1 (x.autos.map zaP),.sl 8 (x.unl.map zbg),.sl 8 (x.unt.map zbg)] 0),(83,.t (.sl 1 (x.autos.map zaP))),(84,.i (x.autos.map zaP).length),(85,.i i)]) (fun _=>[zbZ es n q]) rfl (fun i hlt2 ha2=>?_) (fun ha2=>?_)
    ·have hx2:=zk9 hlt2
     have g1:=za8 (f:=F) hlt2 ha2
     have g2:=zaS (f:=F) hlt2 ha2
     have hs:=hau _ (qaG hlt2)
     generalize x.autos[i]=u at*
     unfold ze0 at hx2 hs
     repeat' (first|refine wu ?_|exact wkc|intro hc|refine wk2 ?_ ?_|refine we hs ?_ ?_|fail)
     all_goals exact zwbc
    have he3:=zaX ha2
    refine wk ?_
    repeat' (first|refine wu ?_|exact wkc|intro hc|refine wk2 ?_ ?_|refine we ht1 ?_ ?_|refine we ht2 ?_ ?_|fail)
    all_goals first
     | exact zaf.zcq hlt (h2 (by clear hi hd1 ht1 ht2 heq hau hx;grind))
     | ((repeat' (first|refine zaf.panic ?_|refine wk ?_|fail));apply retF;(first|assumption|decide);(clear hi hd1 ht1 ht2 heq hau hx;grind);exact rfl;exact rfl)
   ·repeat' (first|refine wu ?_|exact wkc|intro hc|refine wk2 ?_ ?_|fail)
    exact retN (by rw[hz2,zaX ha]) rfl rfl
theorem zix(es:List En)(n q:Int)(a:Auto)(hw:(zaP a).w≤1000000000):LS 47 [.t (.ag (ze0 a)),.i 0] es n q (zdV es 3 a):=zeM es n q 3 0 (qae _) rfl a hw
theorem wka{G Q:Prop}(k:Q)(h:Hold Q->G:=by
  (intro k;apply TO.zoc zaa;(iterate 9 exact rfl);exact leB;exact k.p)):G:=h ⟨k⟩
theorem retQ{rs:List ResultVar}{env:Env}{H H1:Heap}{v:SV}{n q q' c c':Int}(h0:c'≠0)(hc:c'=c)(hq:q'=q)(hN:Nat.ble 1 H.length=true)(hb:zab H.length H=true):
  RetK tab rs 1 (Err0 c v (zgf n q c) H1 1) (.panic (zgf n q' c')) env H:=by
 subst hc hq;exact RetK.errP h0 hN rfl hb
theorem zhM{α:Type}{f:α->Int}{l:List α}{k:Nat}(hk:k<l.length)(h:zan f (l.take k)=0)(hn:f l[k]≠0):zcK f l=((k:Int),f l[k]):=by
 conv=>lhs;rw[<-qbe k l]
 rw[zei,if_pos h,qaF hk,zan,if_neg hn,if_neg hn,zcK,if_neg hn]
 simp;omega
theorem zpW(n:Nod):(zb9 n.ins).w+(zb9 n.outs).w+(zb9 n.locals).w+(T.sl 7 (n.eqs.map equT)).w+(T.sl 1 (n.autos.map zaP)).w+(T.sl 6 (n.assume.map exT)).w+(T.sl 6 (n.ensure.map exT)).w≤(nodT n).w:=by
 rw[show nodT n= .ag (nodC n) from rfl,w_ag];simp only[nodC,qag,qas,qaz,qaN];omega
set_option maxHeartbeats 1000000 in
theorem ziX (es:List En) (a b i:Int) (n:Nod) (hw:(nodT n).w≤1000000000):
  Sound Tryz.prog 22 [.ref 0 0,.i i,.t (.ag (nodC n))] [zbZ es a b] (Err (zcG es n).2 (.tup []) (zgf i (zcG es n).1 (zcG es n).2) [zbZ es i (-1)]):=by
 refine Sound.err rfl (fun _=>rfl) ?_
 have hwn:=zpW n
 have l1:=zdG equT 7 n.eqs
 have l2:=zdG zaP 1 n.autos
 have l3:=zdG exT 6 n.assume
 have l4:=zdG exT 6 n.ensure
 have m1:(n.ins.map zag).length=n.ins.length:=qad _
 have m2:(n.outs.map zag).length=n.outs.length:=qad _
 have m3:(n.locals.map zag).length=n.locals.length:=qad _
 have m4:(n.eqs.map equT).length=n.eqs.length:=qad _
 have m5:(n.autos.map zaP).length=n.autos.length:=qad _
 have m6:(n.assume.map exT).length=n.assume.length:=qad _
 have m7:(n.ensure.map exT).length=n.ensure.length:=qad _
 have hi:=zbw es i (-1) n.name
 have hd1:=zcI es i (-1) n.ins true (by omega)
 have hd2:=zcI es i (-1) n.outs true (by omega)
 have hd3:=zcI es i (-1) n.locals false (by omega)
 have heq:∀(q:Int) u,u∈n.eqs->LS 46 [.t (.ag (equC u))] es i q (equE es u):=fun q u hu=>zgt es i q u (by have:=zhu (f:=equT) (sz:=7) hu;omega)
 have hau:∀u,u∈n.autos->LS 47 [.t (.ag (ze0 u)),.i 0] es i (-1) (zdV es 3 u):=fun u hu=>zix es i (-1) u (by have:=zhu (f:=zaP) (sz:=1) hu;omega)
 have hex:∀u,u∈n.assume\/u∈n.ensure->wEx u≤1000000000:=fun u hu=>by
  have:=zmx u
  rcases hu with hu|hu
  ·have:=zhu (f:=exT) (sz:=6) hu;omega
  ·have:=zhu (f:=exT) (sz:=6) hu;omega
 have hz:zcG es n=zcG es n:=rfl
 conv at hz=>rhs;unfold zcG zos zpz orE
 generalize zcG es n=z at hz⊢
 unfold nodC
 clear hwn hw
 refine so Tryz.func22 ?_
 repeat' (first|refine wu ?_|exact wkc|intro hc|refine wk2 ?_ ?_|refine wm ?_|refine we hi ?_ ?_|refine we hd1 ?_ ?_|refine we hd2 ?_ ?_|refine we hd3 ?_ ?_|fail)
 all_goals first
  | ((repeat' (first|refine zaf.panic ?_|refine wk ?_|fail));apply retQ;(first|assumption|decide);(clear hi hd1 hd2 hd3 heq hau hex;grind);(clear hi hd1 hd2 hd3 heq hau hex;grind);exact rfl;exact rfl)
  | skip
 refine TR.zb0 n.eqs.length (fun k=>zan (equE es) (n.eqs.take k)=0) (fun k=>[(0,.ref 0 0),(5,.cp (nC n) 0),(80,.t (.sl 7 (n.eqs.map equT))),(81,.i (n.eqs.map equT).length),(82,.i k)]) (fun k=>[zbZ es i ((k:Int)-1)]) rfl (fun k hlt ha=>?_) (fun ha=>?_)
 ·have hx:=znO hlt
  have g1:=za8 (f:=(equE es)) hlt ha
  have g2:=zaS (f:=(equE es)) hlt ha
  have hs:=heq k _ (qaG hlt)
  have g3:=zhM (f:=equE es) hlt ha
  generalize n.eqs[k]=u at*
  unfold equC at hx hs
  repeat' (first|refine wkt ?_|refine wka ?_|refine wk ?_|exact wkc|intro hc|refine wk2 ?_ ?_|refine we hs ?_ ?_|fail)
  all_goals first
   | (refine zaf.zcq hlt (g2 hc) ?_ (by rw[show((k+1:Nat):Int)-1=k from by omega]);repeat' (first|exact trivial|refine qak rfl ?_|fail))
   | ((repeat' (first|refine zaf.panic ?_|refine wk ?_|fail));apply retQ;(first|assumption|decide);(clear hs hi hd1 hd2 hd3 heq hau hex hx;grind);(clear hs hi hd1 hd2 hd3 heq hau hex hx;grind);exact rfl;exact rfl)
 have e1:=zaX ha
 clear hi hd1 hd2 hd3 heq
 refine wk ?_
 repeat' (first|refine wu ?_|exact wkc|intro hc|refine wk2 ?_ ?_|fail)
 refine TR.zb0 n.autos.length (fun k=>zan (zdV es 3) (n.autos.take k)=0) (fun k=>[(0,.ref 0 0),(5,.cp (nC n) 0),(101,.t (.sl 1 (n.autos.map zaP))),(102,.i (n.autos.map zaP).length),(103,.i k)]) (fun k=>[zbZ es i (-1)]) rfl (fun k hlt ha=>?_) (fun ha=>?_)
 ·have hx:=zk9 hlt
  have g1:=za8 (f:=(zdV es 3)) hlt ha
  have g2:=zaS (f:=(zdV es 3)) hlt ha
  have hs:=hau _ (qaG hlt)
  generalize n.autos[k]=u at*
  unfold ze0 at hx hs
  repeat' (first|refine wu ?_|exact wkc|intro hc|refine wk2 ?_ ?_|refine we hs ?_ ?_|fail)
  all_goals first
   | exact zaf.zcq hlt (g2 hc)
   | ((repeat' (first|refine zaf.panic ?_|refine wk ?_|fail));apply retQ;(first|assumption|decide);(clear hs hau hex hx;grind);(clear hs hau hex hx;grind);exact rfl;exact rfl)
 have e2:=zaX ha
 clear hau
 refine wk ?_
 repeat' (first|refine wu ?_|exact wkc|intro hc|refine wk2 ?_ ?_|fail)
 refine TR.zb0 n.assume.length (fun k=>zan (zca es) (n.assume.take k)=0) (fun k=>[(0,.ref 0 0),(5,.cp (nC n) 0),(112,.t (.sl 6 (n.assume.map exT))),(113,.i (n.assume.map exT).length),(114,.i k)]) (fun k=>[zbZ es i (-1)]) rfl (fun k hlt ha=>?_) (fun ha=>?_)
 ·have hx:=zhB hlt
  have g1:=za8 (f:=(zca es)) hlt ha
  have g2:=zaS (f:=(zca es)) hlt ha
  have hs:=zcy es _ (hex _ (.inl (qaG hlt)))
  rw[zal]at hs
  generalize n.assume[k]=u at*
  exact zwk
 have e3:=zaX ha
 refine wk ?_
 repeat' (first|refine wu ?_|exact wkc|intro hc|refine wk2 ?_ ?_|fail)
 refine TR.zb0 n.ensure.length (fun k=>zan (zca es) (n.ensure.take k)=0) (fun k=>[(0,.ref 0 0),(5,.cp (nC n) 0),(128,.t (.sl 6 (n.ensure.map exT))),(129,.i (n.ensure.map exT).length),(130,.i k)]) (fun k=>[zbZ es i (-1)]) rfl (fun k hlt ha=>?_) (fun ha=>?_)
 ·have hx:=zhB hlt
  have g1:=za8 (f:=(zca es)) hlt ha
  have g2:=zaS (f:=(zca es)) hlt ha
  have hs:=zcy es _ (hex _ (.inr (qaG hlt)))
  rw[zal]at hs
  generalize n.ensure[k]=u at*
  exact zwk
 have e4:=zaX ha
 refine wk ?_
 repeat' (first|refine wu ?_|exact wkc|intro hc|refine wk2 ?_ ?_|fail)
 refine RetK.errN (vs:=[]) ?_ rfl (Le.refl _) rfl rfl rfl rfl rfl
 clear hex;grind
end Go.Proofs.YtpfnfpaahefdaaaGreat
