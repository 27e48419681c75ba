import Derived.Test.YtpnnpgbaiobbjaaGreatDoorPz
import Derived.DeepKeys
import Derived.Test.YtpnnpgbaiobbjaaGreatDoorPk11
import Derived.Test.YtpnnpgbaiobbjaaGreatDoorPk14
import Derived.Test.YtpnnpgbaiobbjaaGreatDoorPk15
import Derived.Test.YtpnnpgbaiobbjaaGreatDoorPk16
import Derived.Test.YtpnnpgbaiobbjaaGreatDoorPk18
import Derived.Test.YtpnnpgbaiobbjaaGreatDoorPk21
import Derived.Test.YtpnnpgbaiobbjaaGreatDoorPk22
import Derived.Test.YtpnnpgbaiobbjaaGreatDoorPk23
import Derived.Test.YtpnnpgbaiobbjaaGreatDoorPk25
import Derived.Test.YtpnnpgbaiobbjaaGreatDoorPk26
import Derived.Test.YtpnnpgbaiobbjaaGreatDoorPk29
set_option linter.unusedSimpArgs false
set_option linter.unusedVariables false
namespace Go.Proofs.YtpnnpgbaiobbjaaGreatDoor
open Go Go.TL
attribute [local irreducible] TR TO Then zam RetK Sound zab Kf GG zaX
theorem zph(k o t v:I64)(n:Str):flat (.mk k o t v n [])=[.mk k o t v n []]:=by rw[zb9];rfl
theorem zrZ(k o t v:I64)(n:Str):wEx (.mk k o t v n [])=1:=by rw[zh3];rfl
theorem zrf(k o t v:I64)(n:Str):zaQ (.mk k o t v n [])≤32:=by rw[zeo];show(0:Int)+1≤32;decide
theorem zn8(es:List En)(k o t v:I64)(n:Str)(h1:oneX (.mk k o t v n [])=0)(h2:insX es (.mk k o t v n [])=0):zbY es (.mk k o t v n [])=0:=by
 have hd:=zrf k o t v n
 unfold zbY zgg
 rw[zph,zrZ]
 simp[zaf,h1,h2];omega
theorem e0:zbY [] zin=0:=zn8 _ _ _ _ _ _ (by decide +kernel) (by decide +kernel)
theorem e1:equE [] ⟨[[120]],zin⟩=0:=by unfold equE;rw[show zbY [] (Equ.mk [[120]] zin).right=0 from e0];decide +kernel
theorem e2:zb3 [] zfA=(-1,0):=by
 have h:zaf (equE []) zfA.eqs=0:=by show zaf (equE []) [⟨[[120]],zin⟩]=0;unfold zaf;rw[e1];rfl
 unfold zb3
 rw[h];decide +kernel
theorem e3:zbs smpl=((0,0),0):=by
 have h:zaf (fun n=>(zb3 smpl.enums n).2) smpl.nodes=0:=by
  show zaf _ [zfA]=0
  unfold zaf
  rw[show zb3 smpl.enums zfA=(-1,0) from e2];rfl
 unfold zbs
 rw[h];decide +kernel
theorem e4:zct smpl=((0,0),0):=by unfold zct;rw[e3];decide +kernel
theorem e5(w:Plc):resT w false zin=([2],0):=by rw[zjG];rfl
theorem e6:eqnT ⟨smpl,nI 0,zaI zfA⟩ ⟨[[120]],zin⟩=10:=by
 unfold eqnT
 rw[show resT ⟨smpl,nI 0,zaI zfA⟩ false (Equ.mk [[120]] zin).right=([2],0) from e5 _];decide +kernel
theorem e7:nodG smpl (zfA,0)=(0,10):=by
 have h:zaf (eqnT ⟨smpl,nI 0,zaI zfA⟩) zfA.eqs=10:=by show zaf _ [Equ.mk [[120]] zin]=10;unfold zaf;rw[e6];rfl
 have h2:zb4 (eqnT ⟨smpl,nI 0,zaI zfA⟩) zfA.eqs=(0,10):=by show zb4 _ [Equ.mk [[120]] zin]=(0,10);unfold zb4;rw[e6];rfl
 show zk2 ⟨smpl,nI 0,zaI zfA⟩ zfA=_
 unfold zk2
 rw[h,h2];rfl
theorem wvS{G Q:Prop}{f:FuncId}{cargs:List SV}{v:SV}(hs:Pure Tryz.prog f cargs v)(k:Q)(h:Pure Tryz.prog f cargs v->Hold Q->G:=by
  intro hs k
  (apply TO.zdN hs;(iterate 3 exact rfl);(repeat' (first|exact trivial|exact Le.refl _|refine qaf ?_ ?_|refine Le.zrV rfl ?_|exact TLs.refl _|exact TLs.nil _|refine TLs.agL ?_|refine TLs.slL ?_|fail));exact rfl;exact rfl;exact k.p)):G:=h hs ⟨k⟩
def Ex.withArgs:Ex->List Ex->Ex| .mk k o t v n _,l=>.mk k o t v n l
def putL(F:Int->Ex->Ex×Int):Int->List Ex->List Ex×Int
 | k,[]=>([],k)
 | k,a::l=>((if 0≤k then F k a else(a,k)).1::(putL F (if 0≤k then F k a else(a,k)).2 l).1,(putL F (if 0≤k then F k a else(a,k)).2 l).2)
def putE(x:Ex):Nat->Int->Ex->Ex×Int
 | 0,k,e=>(e,k)
 | m+1,k,e=>if k=0 then(x,-1) else(e.withArgs (putL (putE x m) (k-1) e.args).1,(putL (putE x m) (k-1) e.args).2)
def onEq(a b:OnC):Bool:=decide (a.name=b.name) && decide (a.t.1=b.t.1) && decide (a.tag.1=b.tag.1)
theorem zrG(a b:OnC):onEq a b=true ↔ a=b:=by
 obtain⟨n,t,g⟩:=a
 obtain⟨n',t',g'⟩:=b
 simp only[onEq,qav,decide_eq_true_eq,OnC.mk.injEq,Subtype.ext_iff,and_assoc]
instance:DecidableEq OnC:=fun a b=>decidable_of_iff _ (zrG a b)
def isVar(e:Ex):Bool:=decide (e.kind.1=2\/e.kind.1=8\/e.kind.1=9)
def addN(l:List Str)(e:Ex):List Str:=if isVar e=true/\e.name ∉ l then l++[e.name] else l
def zb1(l:List Str)(e:Ex):List Str:=(flat e).foldl addN l
def zlb(p:Prog):Bool:=p.nodes.all fun n=>decide (n.autos.length=0)
theorem rg{n:Nat}{env0 envF:Env}{H0:Heap}{K:TK}{id':Nat}{l:List Oper}(t:List SV)
  (hp:Prem Tryz.prog n l.toArray (zaZ l.toArray t env0) l (t.map fun v=>(v,false)) [H0])(hK:K .normal envF H0)
  (hB:(Nat.beq t.length l.length && mixB l.toArray (t.map fun _=>false))=true:=by dsimp only[List.map,List.length];decide +kernel)(hE:zbf (zaZ l.toArray t env0)=some envF:=by exact rfl):
  TR Tryz.prog n (.region id' l.toArray true) env0 H0 K:=by
 simp only[qav]at hB
 have e1:(t.map fun v=>(v,false)).map (·.1)=t:=by rw[qbo];exact List.map_id t
 have e2:(t.map fun v=>(v,false)).map (·.2)=t.map fun _=>false:=by rw[qbo];rfl
 have e3:(t.map fun _=>false).filter id=[]:=by
  rw[qbU];simp
 exact TR.zjF (t.map fun v=>(v,false)) [H0] hmix (by rw[e2];exact hB.2) rfl (by rw[e1];exact hp) (by rw[e2,e3];rfl) (by rw[e1];exact hE) hK
def zj4(l:List OnC):Prop:=l.length≤100000000/\∀o∈l,o.name.length≤1000000000
theorem zj4.nil:zj4 []:=⟨by simp,by simp⟩
theorem zj4.take{l:List OnC}(h:zj4 l)(k:Nat):zj4 (l.take k):=⟨by have:=h.1;simp;omega,fun o ho=>h.2 o (qaO ho)⟩
theorem zir(e:Ex):Pure Tryz.prog 318 [.t (.ag (exC e))] (.b (isVar e)):=by
 unfold isVar exC
 refine so Tryz.func318 ?_
 repeat' (first|refine wu ?_|exact wkc|intro hc|refine wk2 ?_ ?_|fail)
 all_goals
  refine RetK.pure rfl (Le.of_eq ?_) rfl
  refine congrArg (fun b=>SV.t (T.v (Value.bool b))) ?_
  simp;omega
theorem zmQ(l:List Str)(e:Ex):(addN l e).length≤l.length+1:=by
 unfold addN;split <;> simp
theorem zkG:∀(es:List Ex) (l:List Str),(es.foldl addN l).length≤l.length+es.length
 | [],l=>by simp
 | e::es,l=>by
   have:=zkG es (addN l e)
   have:=zmQ l e
   simp only[qaY,qap];omega
theorem zmr(acc:List Str)(l:List Ex){j:Nat}(h:j<l.length):(flats (l.take (j+1))).foldl addN acc=zb1 ((flats (l.take j)).foldl addN acc) l[j]:=by
 rw[zfS l h,qbd];rfl
set_option maxHeartbeats 1000000 in
theorem zjA:∀(m:Nat) (e:Ex) (acc:List Str),wEx e≤m->acc.length+wEx e≤1000000000->
  Sound Tryz.prog 299 [.sl 1 (acc.map T.s) 0,.t (.ag (exC e)),.b false] [.tail (acc.map T.s).length] (fun r H'=>r= .ret (.sl 1 ((zb1 acc e).map T.s) 0)/\H'=[.tail ((zb1 acc e).map T.s).length]):=by
 intro m
 induction m with
 | zero=>intro e _ he;have:=zcp e;omega
 | succ m ih0=>
   intro e acc he hb
   have ih:=fun x (hx:x∈e.args) (acc:List Str) (hb:acc.length+wEx x≤1000000000)=>ih0 x acc (by have:=zbR hx;omega) hb
   clear ih0
   have hfl:(flats e.args).length+1=wEx e:=by rw[<-zep,zb9,qap]
   have hll:=zjX e
   have hv:=zir e
   have hc:=zbW acc (by omega) e.name
   have hnx:zb1 acc e=(flats e.args).foldl addN (addN acc e):=by unfold zb1;rw[zb9];rfl
   rw[hnx]
   clear hnx
   have had:=zmQ acc e
   have hma:(acc.map T.s).length=acc.length:=qaa _
   have hadd:addN acc e=if isVar e=true/\e.name ∉ acc then acc++[e.name] else acc:=rfl
   generalize addN acc e=ac1 at*
   unfold exC at*
   generalize e.args=l at*
   have hml:(l.map exT).length=l.length:=qaa _
   by_cases hp:isVar e=true/\e.name ∉ acc
   rw[if_pos hp]at hadd
   rw[hp.1]at hv
   rw[decide_eq_false hp.2]at hc
   have hmp:ac1.map T.s=acc.map T.s++[T.s e.name]:=by rw[hadd];simp
   refine so Tryz.func299 ?_
   repeat' (first|refine wu ?_|exact wkc|intro hc|refine wk2 ?_ ?_|refine wv hv ?_|refine wv hc ?_|fail)
   rotate_left
   rw[if_neg hp]at hadd
   subst hadd
   have hmp:ac1.map T.s=ac1.map T.s:=rfl
   by_cases hvv:isVar e=true
   rw[hvv]at hv
   rw[decide_eq_true (show e.name∈ac1 from qaE fun h=>hp ⟨hvv,h⟩)]at hc
   refine so Tryz.func299 ?_
   repeat' (first|refine wu ?_|exact wkc|intro hc|refine wk2 ?_ ?_|refine wv hv ?_|refine wv hc ?_|fail)
   rotate_left
   rw[qb5]at hvv
   rw[hvv]at hv
   refine so Tryz.func299 ?_
   repeat' (first|refine wu ?_|exact wkc|intro hc|refine wk2 ?_ ?_|refine wv hv ?_|fail)
   all_goals
    have h0:(flats (l.take 0)).foldl addN ac1=ac1:=by simp[flats]
    refine TR.zak l.length (fun _=>True) (fun j=>[(0,.sl 1 (((flats (l.take j)).foldl addN ac1).map T.s) 0),(2,.b false),(4,.cp [T.n e.kind,T.n e.op,T.n e.t,T.n e.v,.s e.name,.sl 6 (l.map exT)] 0),(24,.t (.sl 6 (l.map exT))),(25,.i (l.map exT).length),(26,.i j)]) (fun j=>[.tail (((flats (l.take j)).foldl addN ac1).map T.s).length]) trivial (fun j hlt _=>?_) (fun _=>?_) (by(try dsimp only);rw[h0,hmp];exact⟨rfl,rfl,rfl,rfl,rfl,rfl,trivial⟩) (by(try dsimp only);rw[h0,hmp];try first|rfl|(rw[qai];rfl))
    ·have hx:=zeU hlt
     have hd:=zkG (flats (l.take j)) ac1
     have h2:=congrArg List.length (zeN l hlt)
     rw[qai,qai,zep]at h2
     have hs:=ih l[j] (qad hlt) ((flats (l.take j)).foldl addN ac1) (by omega)
     have htk:=zmr ac1 l hlt
     generalize l[j]=x at hx hs htk
     unfold exC at hx
     repeat' (first|refine wkt ?_|refine wka ?_|refine wk ?_|exact wkc|intro hc|refine wk2 ?_ ?_|refine wd hs ?_|fail)
     exact zab.zat hlt trivial (by(try dsimp only);rw[htk];exact⟨rfl,rfl,rfl,rfl,rfl,rfl,trivial⟩) (by(try dsimp only);rw[htk])
    ·rw[qag]
     repeat' (first|refine wu ?_|exact wkc|intro hc|refine wk2 ?_ ?_|fail)
     exact RetK.at 1 rfl (Le.refl _) (qae _) rfl rfl rfl ⟨rfl,rfl⟩
theorem zd9(e:Ex)(h:wEx e≤1000000000):Pure Tryz.prog 247 [.t (.ag (exC e))] (.t (.sl 1 ((zb1 [] e).map T.s))):=by
 have hs:Pure Tryz.prog 299 [.t (.v (.slice none 0 0)),.t (.ag (exC e)),.b false] (.t (.sl 1 ((zb1 [] e).map T.s))):=Sound.own (Sound.fresh (pre:=[]) (post:=[.t (.ag (exC e)),.b false]) (zjA _ e [] (qae _) (by simpa using h)))
 unfold exC at*
 refine so Tryz.func247 ?_
 repeat' (first|refine wu ?_|exact wkc|intro hc|refine wk2 ?_ ?_|refine wv hs ?_|fail)
 exact wkr
theorem zjZ{α:Type}(f:α->T)(sz:Nat)(l:List α):(l.map fun x=>(f x).w).sum≤(T.sl sz (l.map f)).w:=by
 rw[w_sl,qbo]
 exact Nat.le_add_left _ _
theorem zqB{α:Type}(l:List α):(l.map fun _=>1).sum=l.length:=by
 induction l with
 | nil=>rfl
 | cons x l ih=>rw[qak,qat,ih,qap];omega
theorem zcm{α:Type}{f:List Str->α->List Str}{g:α->Nat}:∀ {l:List α} (o:List Str),(∀x∈l,∀o,(f o x).length≤o.length+g x)->(l.foldl f o).length≤o.length+(l.map g).sum
 | [],o,_=>by simp
 | x::l,o,h=>by
   have h1:=h x (qaD ..) o
   have h2:=zcm (l:=l) (f o x) fun y hy=>h y (qaA _ hy)
   simp only[qaY,qak,qat]
   omega
theorem zdY{α:Type}{f:List Str->α->List Str}(h:∀x o,o.length≤(f o x).length):∀(l:List α) (o:List Str),o.length≤(l.foldl f o).length
 | [],o=>qae _
 | x::l,o=>qaF (h x o) (zdY h l (f o x))
theorem zd0{α:Type}{f:List Str->α->List Str}(h:∀x o,o.length≤(f o x).length)(l:List α)(o:List Str)(j:Nat):((l.take j).foldl f o).length≤(l.foldl f o).length:=by
 conv=>rhs;rw[<-qaS j l,qbd]
 exact zdY h _ _
theorem zqY{α:Type}(g:α->List Str)(x:α)(o:List Str):o.length≤(o++g x).length:=by rw[qai];omega
theorem zkY(e:Ex):(zb1 [] e).length≤(exT e).w:=by
 have h:∀(l:List Ex) (o:List Str),(l.foldl addN o).length≤o.length+l.length:=by
  intro l
  induction l with
  | nil=>intro o;simp
  | cons x l ih=>
    intro o
    have h1:=ih (addN o x)
    have h2:(addN o x).length≤o.length+1:=by unfold addN;split <;> simp
    simp only[qaY,qap]
    omega
 have h1:=h (flat e) []
 rw[zep]at h1
 have h2:=zei e
 unfold zb1
 simp only[qaC]at h1
 omega
def clkF(o:List Str)(d:Decl):List Str:=d.clock.foldl (fun o c=>o++[c.name]) o
def eqnF(o:List Str)(q:Equ):List Str:=o++zb1 [] q.right
def trnF(o:List Str)(t:Tran):List Str:=o++zb1 [] t.cond
def zcH:Nat->Sta->List Str
 | 0,_=>[]
 | m+1,s=>s.autos.foldl (fun o a=>a.states.foldl (fun o x=>x.unl.foldl trnF o++zcH m x) o) (s.unt.foldl trnF (s.eqs.foldl eqnF (s.locals.foldl clkF [])))
theorem zsP(d:Decl)(o:List Str):o.length≤(clkF o d).length:=zdY (fun x o=>zqY (fun c:OnC=>[c.name]) x o) d.clock o
theorem zq7(d:Decl)(o:List Str):(clkF o d).length≤o.length+(zaa d).w:=by
 have h:=zcm (f:=fun o (c:OnC)=>o++[c.name]) (g:=fun c=>(onT c).w) (l:=d.clock) o fun x _ o=>by have:=zis (onT x);simp only[qai,qap,qaC];omega
 have h2:=zjZ onT 3 d.clock
 have h3:(T.sl 3 (d.clock.map onT)).w≤(zaa d).w:=by rw[show zaa d= .ag [.s d.name,T.n d.ty,.sl 3 (d.clock.map onT)] from rfl,w_ag];simp only[qak,qay,qat,qaK];omega
 unfold clkF
 omega
theorem zri(q:Equ)(o:List Str):(eqnF o q).length≤o.length+(equT q).w:=by
 have h1:=zkY q.right
 have h2:(exT q.right).w≤(equT q).w:=by rw[show equT q= .ag (.sl 1 (q.left.map T.s)::exC q.right) from rfl,zaz,w_ag,w_ag,qak,qat];omega
 unfold eqnF
 rw[qai]
 omega
theorem znF(t:Tran)(o:List Str):(trnF o t).length≤o.length+(zag t).w:=by
 have h1:=zkY t.cond
 have h2:(exT t.cond).w≤(zag t).w:=by
  rw[show zag t= .ag [T.n t.cond.kind,T.n t.cond.op,T.n t.cond.t,T.n t.cond.v,.s t.cond.name,.sl 6 (t.cond.args.map exT),T.n t.to,.b t.resume] from rfl,zaz,w_ag,w_ag]
  exact zwfg
 unfold trnF
 rw[qai]
 omega
theorem zpb(q:Equ)(o:List Str):o.length≤(eqnF o q).length:=zqY (fun q:Equ=>zb1 [] q.right) q o
theorem zjU(q:Tran)(o:List Str):o.length≤(trnF o q).length:=zqY (fun q:Tran=>zb1 [] q.cond) q o
theorem zhO:∀(m:Nat) (s:Sta),(zcH m s).length+(T.sl 8 (s.unl.map zag)).w≤(staT s).w
 | 0,s=>by have:=zek s;show 0+_≤_;omega
 | m+1,s=>by
   unfold zcH
   have hs:=zek s
   have e1:(zad s.locals).w=(T.sl 3 (s.locals.map zaa)).w:=rfl
   have h1:=zcm (l:=s.locals) [] fun d _ o=>zq7 d o
   have h2:=zcm (l:=s.eqs) (s.locals.foldl clkF []) fun d _ o=>zri d o
   have h3:=zcm (l:=s.unt) (s.eqs.foldl eqnF (s.locals.foldl clkF [])) fun d _ o=>znF d o
   have k1:=zjZ zaa 3 s.locals
   have k2:=zjZ equT 7 s.eqs
   have k3:=zjZ zag 8 s.unt
   have hx:∀(x:Sta) (o:List Str),(x.unl.foldl trnF o++zcH m x).length≤o.length+(staT x).w:=fun x o=>by
    have g1:=zcm (l:=x.unl) o fun d _ o=>znF d o
    have g2:=zjZ zag 8 x.unl
    have g4:=zhO m x
    rw[qai]
    omega
   have hA:∀(a:Auto) (o:List Str),(a.states.foldl (fun o x=>x.unl.foldl trnF o++zcH m x) o).length≤o.length+(zae a).w:=fun a o=>by
    have g1:=zcm (l:=a.states) o fun x _ o=>hx x o
    have g2:=zjZ staT 6 a.states
    have g3:=zb5 a
    omega
   have h4:=zcm (l:=s.autos) (s.unt.foldl trnF (s.eqs.foldl eqnF (s.locals.foldl clkF []))) fun a _ o=>hA a o
   have k4:=zjZ zae 1 s.autos
   simp only[qaC]at h1
   omega
set_option maxHeartbeats 8000000 in
theorem zgt:∀(m:Nat) (s:Sta),(staT s).w≤100000000->(staT s).w≤m->Pure Tryz.prog 178 [.t (staT s)] (.t (.sl 1 ((zcH m s).map T.s)))
 | 0,s,_,hm=>by have:=zis (staT s);omega
 | m+1,s,hw,hm=>by
   have ih:=zgt m
   have htot:=zhO (m+1) s
   unfold zcH at htot⊢
   have hws:=zek s
   have e1:(zad s.locals).w=(T.sl 3 (s.locals.map zaa)).w:=rfl
   obtain⟨g,hg⟩:∃g:List Str->Sta->List Str,g=fun o x=>x.unl.foldl trnF o++zcH m x:=⟨_,rfl⟩
   obtain⟨h,hh⟩:∃h:List Str->Auto->List Str,h=fun o a=>a.states.foldl g o:=⟨_,rfl⟩
   rw[show(fun(o:List Str) (a:Auto)=>a.states.foldl (fun o x=>x.unl.foldl trnF o++zcH m x) o)=h by rw[hh,hg]]at htot⊢
   have hgge:∀x o,o.length≤(g o x).length:=fun x o=>by rw[hg];exact qaF (zdY zjU x.unl o) (by rw[qai];omega)
   have hhge:∀x o,o.length≤(h o x).length:=fun x o=>by rw[hh];exact zdY hgge x.states o
   have q4:=zd0 hhge s.autos (s.unt.foldl trnF (s.eqs.foldl eqnF (s.locals.foldl clkF [])))
   have q3:=zd0 zjU s.unt (s.eqs.foldl eqnF (s.locals.foldl clkF []))
   have q2:=zd0 zpb s.eqs (s.locals.foldl clkF [])
   have q1:=zd0 zsP s.locals []
   have r4:=zdY hhge s.autos (s.unt.foldl trnF (s.eqs.foldl eqnF (s.locals.foldl clkF [])))
   have r3:=zdY zjU s.unt (s.eqs.foldl eqnF (s.locals.foldl clkF []))
   have r2:=zdY zpb s.eqs (s.locals.foldl clkF [])
   have m1:(s.locals.map zaa).length=s.locals.length:=qaa _
   have m2:(s.eqs.map equT).length=s.eqs.length:=qaa _
   have m3:(s.unt.map zag).length=s.unt.length:=qaa _
   have m4:(s.autos.map zae).length=s.autos.length:=qaa _
   have b1:=zai zaa 3 s.locals
   have b2:=zai equT 7 s.eqs
   have b3:=zai zag 8 s.unt
   have b4:=zai zae 1 s.autos
   rw[za6]
   refine so Tryz.func178 ?_
   repeat' (first|refine wkt ?_|fail)
   refine TR.tail 1 3 rfl ?_
   refine TR.zak s.locals.length (fun _=>True) (fun j=>[(1,.cp [.s s.name,.sl 3 (s.locals.map zaa),.sl 7 (s.eqs.map equT),.sl 1 (s.autos.map zae),.sl 8 (s.unl.map zag),.sl 8 (s.unt.map zag)] 0),(3,.sl 1 (((s.locals.take j).foldl clkF []).map T.s) 0),(19,.t (.sl 3 (s.locals.map zaa))),(20,.i s.locals.length),(21,.i j)]) (fun j=>[.tail (((s.locals.take j).foldl clkF []).map T.s).length]) trivial (fun j hlt _=>?_) (fun _=>?_) ⟨rfl,rfl,rfl,by rw[<-m1];rfl,rfl,trivial⟩ rfl
   ·have hx:=zar zaa hlt
    have hn:=zas clkF [] hlt
    have hq:=q1 (j+1)
    rw[hn]at hq
    have hck:=zci (l:=s.locals) (by omega) _ (qad hlt)
    have hfew:=hck.few
    generalize (s.locals.take j).foldl clkF []=acc at*
    generalize s.locals[j]=d at*
    obtain⟨nm,ty,ck⟩:=d
    rw[show clkF acc ⟨nm,ty,ck⟩=ck.foldl (fun(o:List Str) (c:OnC)=>o++[c.name]) acc from rfl]at hn hq
    dsimp only[zaa]at hx hn hq hfew
    have hmc:(ck.map onT).length=ck.length:=qaa _
    have q5:=zd0 (f:=fun(o:List Str) (c:OnC)=>o++[c.name]) (fun x o=>zqY (fun c:OnC=>[c.name]) x o) ck acc
    repeat' (first|refine wkt ?_|refine zqo ?_|refine zab.exit ?_|exact wkc|intro hc|refine wk2 ?_ ?_|fail)
    refine TR.zak ck.length (fun _=>True) (fun k=>[(1,.cp [.s s.name,.sl 3 (s.locals.map zaa),.sl 7 (s.eqs.map equT),.sl 1 (s.autos.map zae),.sl 8 (s.unl.map zag),.sl 8 (s.unt.map zag)] 0),(3,.sl 1 (((ck.take k).foldl (fun(o:List Str) (c:OnC)=>o++[c.name]) acc).map T.s) 0),(19,.t (.sl 3 (s.locals.map zaa))),(20,.i s.locals.length),(21,.i j),(26,.t (.sl 3 (ck.map onT))),(27,.i ck.length),(28,.i k)]) (fun k=>[.tail (((ck.take k).foldl (fun(o:List Str) (c:OnC)=>o++[c.name]) acc).map T.s).length]) trivial (fun k hlk _=>?_) (fun _=>?_) ⟨rfl,rfl,rfl,rfl,rfl,rfl,by rw[<-hmc];rfl,rfl,trivial⟩ rfl
    ·have hy:=zar onT hlk
     have hn2:=zas (fun(o:List Str) (c:OnC)=>o++[c.name]) acc hlk
     have hq2:=q5 k
     generalize (ck.take k).foldl (fun(o:List Str) (c:OnC)=>o++[c.name]) acc=acc2 at*
     have hma:(acc2.map T.s).length=acc2.length:=qaa _
     generalize ck[k]=oc at*
     obtain⟨onm,ot,otg⟩:=oc
     dsimp only[onT]at hy hn2
     repeat' (first|refine wkt ?_|refine zqp ?_|refine zqe ?_|refine zab.exit ?_|exact wkc|intro hc|refine wk2 ?_ ?_|refine wk ?_|fail)
     exact zab.zat hlk trivial (by(try dsimp only);rw[hn2,qan];exact⟨rfl,rfl,rfl,rfl,rfl,rfl,rfl,rfl,trivial⟩) (by(try dsimp only);rw[hn2];simp)
    ·exact zwbk
   rw[qag]
   generalize s.locals.foldl clkF []=o1 at*
   repeat' (first|refine wkt ?_|refine zab.exit ?_|exact wkc|intro hc|refine wk2 ?_ ?_|fail)
   refine TR.zak s.eqs.length (fun _=>True) (fun j=>[(1,.cp [.s s.name,.sl 3 (s.locals.map zaa),.sl 7 (s.eqs.map equT),.sl 1 (s.autos.map zae),.sl 8 (s.unl.map zag),.sl 8 (s.unt.map zag)] 0),(3,.sl 1 (((s.eqs.take j).foldl eqnF o1).map T.s) 0),(40,.t (.sl 7 (s.eqs.map equT))),(41,.i s.eqs.length),(42,.i j)]) (fun j=>[.tail (((s.eqs.take j).foldl eqnF o1).map T.s).length]) trivial (fun j hlt _=>?_) (fun _=>?_) ⟨rfl,rfl,rfl,by rw[<-m2];rfl,rfl,trivial⟩ rfl
   ·have hx:(s.eqs.map equT)[j]?=some (.ag [T.sl 1 (s.eqs[j].left.map T.s),T.n s.eqs[j].right.kind,T.n s.eqs[j].right.op,T.n s.eqs[j].right.t,T.n s.eqs[j].right.v,T.s s.eqs[j].right.name,T.sl 6 (s.eqs[j].right.args.map exT)]):=zar equT hlt
    have hn:=zas eqnF o1 hlt
    have hq:=q2 (j+1)
    rw[hn]at hq
    have hqe:=(zkA (qad hlt)).2.1
    generalize (s.eqs.take j).foldl eqnF o1=acc at*
    have hma:(acc.map T.s).length=acc.length:=qaa _
    have hwx:=zei s.eqs[j].right
    have c1:=zd9 s.eqs[j].right (by omega)
    rw[show eqnF acc s.eqs[j]=acc++zb1 [] s.eqs[j].right from rfl]at hn hq
    rw[qai]at hq
    unfold exC at c1
    generalize zb1 [] s.eqs[j].right=nx at*
    have hmn:(nx.map T.s).length=nx.length:=qaa _
    generalize s.eqs[j]=q at*
    repeat' (first|refine wkt ?_|refine zqo ?_|refine wv c1 ?_|refine zqe ?_|refine zab.exit ?_|exact wkc|intro hc|refine wk2 ?_ ?_|refine wk ?_|fail)
    exact zwct
   rw[qag]
   generalize s.eqs.foldl eqnF o1=o2 at*
   repeat' (first|refine wkt ?_|refine zab.exit ?_|exact wkc|intro hc|refine wk2 ?_ ?_|fail)
   refine TR.zak s.unt.length (fun _=>True) (fun j=>[(1,.cp [.s s.name,.sl 3 (s.locals.map zaa),.sl 7 (s.eqs.map equT),.sl 1 (s.autos.map zae),.sl 8 (s.unl.map zag),.sl 8 (s.unt.map zag)] 0),(3,.sl 1 (((s.unt.take j).foldl trnF o2).map T.s) 0),(53,.t (.sl 8 (s.unt.map zag))),(54,.i s.unt.length),(55,.i j)]) (fun j=>[.tail (((s.unt.take j).foldl trnF o2).map T.s).length]) trivial (fun j hlt _=>?_) (fun _=>?_) ⟨rfl,rfl,rfl,by rw[<-m3];rfl,rfl,trivial⟩ rfl
   ·have hx:(s.unt.map zag)[j]?=some (.ag [T.n s.unt[j].cond.kind,T.n s.unt[j].cond.op,T.n s.unt[j].cond.t,T.n s.unt[j].cond.v,.s s.unt[j].cond.name,.sl 6 (s.unt[j].cond.args.map exT),T.n s.unt[j].to,.b s.unt[j].resume]):=zar zag hlt
    have hn:=zas trnF o2 hlt
    have hq:=q3 (j+1)
    rw[hn]at hq
    have hqe:=zjS (qad hlt)
    generalize (s.unt.take j).foldl trnF o2=acc at*
    have hma:(acc.map T.s).length=acc.length:=qaa _
    have hwx:=zei s.unt[j].cond
    have c1:=zd9 s.unt[j].cond (by omega)
    rw[show trnF acc s.unt[j]=acc++zb1 [] s.unt[j].cond from rfl]at hn hq
    rw[qai]at hq
    unfold exC at c1
    generalize zb1 [] s.unt[j].cond=nx at*
    have hmn:(nx.map T.s).length=nx.length:=qaa _
    generalize s.unt[j]=q at*
    repeat' (first|refine wkt ?_|refine zqo ?_|refine wv c1 ?_|refine zqe ?_|refine zab.exit ?_|exact wkc|intro hc|refine wk2 ?_ ?_|refine wk ?_|fail)
    exact zwct
   rw[qag]
   generalize s.unt.foldl trnF o2=o3 at*
   repeat' (first|refine wkt ?_|refine zab.exit ?_|exact wkc|intro hc|refine wk2 ?_ ?_|fail)
   refine TR.zak s.autos.length (fun _=>True) (fun j=>[(3,.sl 1 (((s.autos.take j).foldl h o3).map T.s) 0),(66,.t (.sl 1 (s.autos.map zae))),(67,.i s.autos.length),(68,.i j)]) (fun j=>[.tail (((s.autos.take j).foldl h o3).map T.s).length]) trivial (fun j hlt _=>?_) (fun _=>?_) ⟨rfl,rfl,by rw[<-m4];rfl,rfl,trivial⟩ rfl
   ·have hx:=zar zae hlt
    rw[zbA]at hx
    have hn:=zas h o3 hlt
    have hq:=q4 (j+1)
    rw[hn]at hq
    have hsi:=fun x hx=>zfC (qad hlt) (s:=x) hx
    have hsw:=fun x (hx:x∈s.autos[j].states)=>zaw (f:=staT) (sz:=6) hx
    have haw:=zb5 s.autos[j]
    have hiw:=zaw (f:=zae) (sz:=1) (qad hlt)
    have hsb:=zai staT 6 s.autos[j].states
    generalize (s.autos.take j).foldl h o3=acc at*
    have hhx:h acc s.autos[j]=s.autos[j].states.foldl g acc:=by rw[hh]
    rw[hhx]at hn hq
    clear hhx hhge
    generalize s.autos[j]=x at*
    obtain⟨sts⟩:=x
    simp only[Auto.states]at hx hn hsi hq hsw haw hiw hsb
    have hmc:(sts.map staT).length=sts.length:=qaa _
    have q6:=zd0 hgge sts acc
    have hma:(acc.map T.s).length=acc.length:=qaa _
    repeat' (first|refine wkt ?_|refine zqo ?_|refine zab.exit ?_|exact wkc|intro hc|refine wk2 ?_ ?_|fail)
    refine TR.zak sts.length (fun _=>True) (fun k=>[(3,.sl 1 (((sts.take k).foldl g acc).map T.s) 0),(66,.t (.sl 1 (s.autos.map zae))),(67,.i s.autos.length),(68,.i j),(73,.t (.sl 6 (sts.map staT))),(74,.i sts.length),(75,.i k)]) (fun k=>[.tail (((sts.take k).foldl g acc).map T.s).length]) trivial (fun k hlk _=>?_) (fun _=>?_) ⟨rfl,rfl,rfl,rfl,rfl,by rw[<-hmc];rfl,rfl,trivial⟩ rfl
    ·have hy:=zar staT hlk
     have hn2:=zas g acc hlk
     have hq2:=q6 (k+1)
     rw[hn2]at hq2
     have hsx:=hsi _ (qad hlk)
     have hwx:=hsw _ (qad hlk)
     generalize (sts.take k).foldl g acc=acc2 at*
     have hgx:g acc2 sts[k]=sts[k].unl.foldl trnF acc2++zcH m sts[k]:=by rw[hg]
     rw[hgx]at hn2 hq2
     have c2:=ih sts[k] (by omega) (by omega)
     clear hgx hgge
     rw[za6]at hy c2
     have b5:=zai zag 8 sts[k].unl
     have m5:(sts[k].unl.map zag).length=sts[k].unl.length:=qaa _
     have q7:=zd0 zjU sts[k].unl acc2
     rw[qai]at hq2
     generalize zcH m sts[k]=rx at*
     have hmr:(rx.map T.s).length=rx.length:=qaa _
     generalize sts[k]=x at*
     repeat' (first|refine wkt ?_|refine zqp ?_|refine zab.exit ?_|exact wkc|intro hc|refine wk2 ?_ ?_|fail)
     refine TR.zak x.unl.length (fun _=>True) (fun i=>[(3,.sl 1 (((x.unl.take i).foldl trnF acc2).map T.s) 0),(15,.cp [.s x.name,.sl 3 (x.locals.map zaa),.sl 7 (x.eqs.map equT),.sl 1 (x.autos.map zae),.sl 8 (x.unl.map zag),.sl 8 (x.unt.map zag)] 0),(66,.t (.sl 1 (s.autos.map zae))),(67,.i s.autos.length),(68,.i j),(73,.t (.sl 6 (sts.map staT))),(74,.i sts.length),(75,.i k),(80,.t (.sl 8 (x.unl.map zag))),(81,.i x.unl.length),(82,.i i)]) (fun i=>[.tail (((x.unl.take i).foldl trnF acc2).map T.s).length]) trivial (fun i hli _=>?_) (fun _=>?_) ⟨rfl,rfl,rfl,rfl,rfl,rfl,rfl,rfl,rfl,by rw[<-m5];rfl,rfl,trivial⟩ rfl
     ·have hz:(x.unl.map zag)[i]?=some (.ag [T.n x.unl[i].cond.kind,T.n x.unl[i].cond.op,T.n x.unl[i].cond.t,T.n x.unl[i].cond.v,.s x.unl[i].cond.name,.sl 6 (x.unl[i].cond.args.map exT),T.n x.unl[i].to,.b x.unl[i].resume]):=zar zag hli
      have hn3:=zas trnF acc2 hli
      have hq3:=q7 (i+1)
      rw[hn3]at hq3
      have hqe:=zjS (qad hli)
      generalize (x.unl.take i).foldl trnF acc2=acc3 at*
      have hma3:(acc3.map T.s).length=acc3.length:=qaa _
      have hwx3:=zei x.unl[i].cond
      have c1:=zd9 x.unl[i].cond (by omega)
      rw[show trnF acc3 x.unl[i]=acc3++zb1 [] x.unl[i].cond from rfl]at hn3 hq3
      rw[qai]at hq3
      unfold exC at c1
      generalize zb1 [] x.unl[i].cond=nx at*
      have hmn:(nx.map T.s).length=nx.length:=qaa _
      generalize x.unl[i]=q at*
      repeat' (first|refine wkt ?_|refine zqq ?_|refine wv c1 ?_|refine zqe ?_|refine zab.exit ?_|exact wkc|intro hc|refine wk2 ?_ ?_|refine wk ?_|fail)
      exact zab.zat hli trivial (by(try dsimp only);rw[hn3,qan];exact⟨rfl,rfl,rfl,rfl,rfl,rfl,rfl,rfl,rfl,rfl,rfl,trivial⟩) (by(try dsimp only);rw[hn3];simp)
     ·rw[qag]
      have hq8:=q7 x.unl.length
      rw[qag]at hq8
      generalize x.unl.foldl trnF acc2=acc4 at*
      have hma4:(acc4.map T.s).length=acc4.length:=qaa _
      repeat' (first|refine wkt ?_|refine wv c2 ?_|refine zqe ?_|refine zab.exit ?_|exact wkc|intro hc|refine wk2 ?_ ?_|refine wk ?_|fail)
      exact zab.zat hlk trivial (by(try dsimp only);rw[hn2,qan];exact⟨rfl,rfl,rfl,rfl,rfl,rfl,rfl,trivial⟩) (by(try dsimp only);rw[hn2];simp)
    ·exact zwbm
   rw[qag]
   repeat' (first|refine wkt ?_|refine zab.exit ?_|exact wkc|intro hc|refine wk2 ?_ ?_|refine wk ?_|fail)
   exact RetK.pure rfl (Le.own _ _ _) rfl
theorem ze1(fid:FuncId)(caps:List SV)(hcaps:unders 0 caps=true)(p:Decl->Bool)(l:List Decl)(hl:l.length≤1000000000)(hp:∀d,Pure Tryz.prog fid (.t (zaa d)::caps) (.b (p d))):
  Pure Tryz.prog 180 [.t (.sl 3 (l.map zaa)),.fn fid caps] (.b (l.any p)):=by
 have hs:=zdA fid caps hcaps p l hl hp
 have ha:=zer p l
 generalize idxI p l=z at*
 have hu:unders 0 [.t (.sl 3 (l.map zaa)),.fn fid caps]=true:=by simp[unders,SV.under,hcaps]
 refine so Tryz.func180 ?_
 repeat' (first|refine wk ?_|exact wkc|intro hc|refine wk2 ?_ ?_|(apply TO.zdN hs;(iterate 3 exact rfl);exact Les.refl _;exact hu;exact rfl)|fail)
 all_goals
  refine RetK.pure rfl (Le.of_eq ?_) rfl
  refine congrArg (fun b=>SV.t (T.v (Value.bool b))) ?_
  rw[<-ha];simp;omega
theorem zkv(s:Str)(d:Decl):Pure Tryz.prog 298 [.t (zaa d),.cp [.s s] 0] (.b (decide (d.name=s))):=by
 unfold zaa
 refine so Tryz.func298 ?_
 repeat' (first|refine wu ?_|exact wkc|intro hc|refine wk2 ?_ ?_|fail)
 all_goals exact zwdj
theorem zka(s:Str)(d:Decl):Pure Tryz.prog 117 [.t (zaa d),.cp [.s s] 0] (.b (decide (d.name=s))):=by
 unfold zaa
 refine so Tryz.func117 ?_
 repeat' (first|refine wu ?_|exact wkc|intro hc|refine wk2 ?_ ?_|fail)
 all_goals exact zwdj
theorem zkd(e d:Decl):Pure Tryz.prog 181 [.t (zaa d),.cp [.s e.name,T.n e.ty,.sl 3 (e.clock.map onT)] 0] (.b (decide (d.name=e.name))):=by
 unfold zaa
 refine so Tryz.func181 ?_
 repeat' (first|refine wu ?_|exact wkc|intro hc|refine wk2 ?_ ?_|fail)
 all_goals exact zwdj
abbrev dH (o:List Str):Heap:=[.cells [.sl 1 (o.map T.s) 1],.tail (o.map T.s).length]
theorem zs5(o:List Str)(s:Str)(h:s ∉ o):ins o s=o++[s]:=by unfold ins;rw[if_neg h]
theorem ziT(o:List Str)(s:Str)(ho:o.length≤1000000000):Sound Tryz.prog 297 [.s s,.ref 0 0] (dH o) (fun r H'=>r= .ret (.tup [])/\H'=dH (ins o s)):=by
 have hc1:=zbW o ho s
 have hmo:(o.map T.s).length=o.length:=qaa _
 by_cases h:s∈o
 ·rw[show ins o s=o by unfold ins;rw[if_pos h]]
  rw[decide_eq_true h]at hc1
  refine so Tryz.func297 ?_
  repeat' (first|refine wkt ?_|refine wv hc1 ?_|refine zab.exit ?_|exact wkc|intro hc|refine wk2 ?_ ?_|refine wk ?_|fail)
  exact RetK.zih 2 rfl (Le.refl _) rfl rfl rfl rfl rfl ⟨rfl,rfl⟩
 ·rw[zs5 o s h]
  rw[decide_eq_false h]at hc1
  refine so Tryz.func297 ?_
  repeat' (first|refine wkt ?_|refine wv hc1 ?_|refine zqe ?_|refine zab.exit ?_|exact wkc|intro hc|refine wk2 ?_ ?_|refine wk ?_|fail)
  exact RetK.zih 2 rfl (Le.refl _) rfl rfl rfl rfl rfl ⟨rfl,by simp⟩
def defQ(o:List Str)(q:Equ):List Str:=q.left.foldl ins o
def defS(x:Sta)(o:List Str)(s:Str):List Str:=if(x.locals.any fun d=>decide (d.name=s))=true then o else ins o s
def zdt:Nat->List Equ->List Auto->List Str
 | 0,_,_=>[]
 | m+1,qs,l=>l.foldl (fun o a=>match a.states with
   | []=>o
   | x::_=>(zdt m x.eqs x.autos).foldl (defS x) o) (qs.foldl defQ [])
theorem zpr(s:Str)(o:List Str):o.length≤(ins o s).length:=by unfold ins;split <;> simp
theorem zo9(x:Sta)(s:Str)(o:List Str):o.length≤(defS x o s).length:=by unfold defS;split;exact qae _;exact zpr s o
theorem zrd(x:Sta)(s:Str)(o:List Str):(defS x o s).length≤o.length+1:=by unfold defS;split;omega;exact zjq o s
theorem zsT(q:Equ)(o:List Str):o.length≤(defQ o q).length:=zdY zpr q.left o
theorem zrc(q:Equ)(o:List Str):(defQ o q).length≤o.length+(equT q).w:=by
 have h:=zcm (f:=ins) (g:=fun _=>1) (l:=q.left) o fun x _ o=>zjq o x
 rw[zqB]at h
 have h2:(T.sl 1 (q.left.map T.s)).w≤(equT q).w:=by rw[show equT q= .ag (.sl 1 (q.left.map T.s)::exC q.right) from rfl,w_ag,qak,qat];omega
 have h3:=zai T.s 1 q.left
 unfold defQ
 omega
theorem zgN:∀(m:Nat) (qs:List Equ) (l:List Auto),(zdt m qs l).length≤(T.sl 7 (qs.map equT)).w+(T.sl 1 (l.map zae)).w
 | 0,_,_=>qaU _
 | m+1,qs,l=>by
   unfold zdt
   have h1:=zcm (l:=qs) [] fun q _ o=>zrc q o
   have h2:=zjZ equT 7 qs
   have h3:=zcm (f:=fun(o:List Str) (a:Auto)=>match a.states with
    | []=>o
    | x::_=>(zdt m x.eqs x.autos).foldl (defS x) o) (g:=fun a=>(zae a).w) (l:=l) (qs.foldl defQ []) fun a _ o=>by
      obtain⟨sts⟩:=a
      cases sts with
      | nil=>exact qct _ _
      | cons x r=>
        have g1:=zcm (f:=defS x) (g:=fun _=>1) (l:=zdt m x.eqs x.autos) o fun s _ o=>zrd x s o
        rw[zqB]at g1
        have g2:=zgN m x.eqs x.autos
        have g3:=zek x
        have g4:=zaw (f:=staT) (sz:=6) (l:=x::r) (x:=x) (qaD ..)
        have g5:=zb5 (.mk (x::r))
        simp only[Auto.states]at g5⊢
        omega
   have h4:=zjZ zae 1 l
   simp only[qaC]at h1
   omega
set_option maxHeartbeats 8000000 in
theorem zhh:∀(m:Nat) (qs:List Equ) (l:List Auto),(T.sl 7 (qs.map equT)).w≤100000000->(T.sl 1 (l.map zae)).w≤100000000->(T.sl 1 (l.map zae)).w≤m->Pure Tryz.prog 246 [.t (.v (.slice none 0 0)),.t (.sl 7 (qs.map equT)),.t (.sl 1 (l.map zae))] (.t (.sl 1 ((zdt m qs l).map T.s)))
 | 0,_,l,_,_,hm=>by have:=zis (T.sl 1 (l.map zae));omega
 | m+1,qs,l,hq,hl,hm=>by
   have ih:=zhh m
   have htot:=zgN (m+1) qs l
   unfold zdt at htot⊢
   obtain⟨g,hg⟩:∃g:List Str->Auto->List Str,g=fun o a=>match a.states with
    | []=>o
    | x::_=>(zdt m x.eqs x.autos).foldl (defS x) o:=⟨_,rfl⟩
   rw[<-hg]at htot⊢
   have hgge:∀x o,o.length≤(g o x).length:=fun x o=>by
    rw[hg]
    obtain⟨sts⟩:=x
    cases sts with
    | nil=>exact qae _
    | cons x r=>exact zdY (zo9 x) _ o
   have q2:=zd0 hgge l (qs.foldl defQ [])
   have q1:=zd0 zsT qs []
   have r2:=zdY hgge l (qs.foldl defQ [])
   have hmq:(qs.map equT).length=qs.length:=qaa _
   have hml:(l.map zae).length=l.length:=qaa _
   have hqb:=zai equT 7 qs
   have hlb:=zai zae 1 l
   refine so Tryz.func246 ?_
   repeat' (first|refine zqx ?_|refine TR.region ?_|refine zqi ?_|refine zqh ?_|refine zqj ?_|refine zqg ?_|fail)
   refine TR.zbK 1 0 0 rfl rfl rfl ?_
   refine TR.zak qs.length (fun _=>True) (fun j=>[(2,.t (.sl 1 (l.map zae))),(3,.ref 0 0),(7,.fn 297 [.ref 0 0]),(18,.t (.sl 7 (qs.map equT))),(19,.i qs.length),(20,.i j)]) (fun j=>dH ((qs.take j).foldl defQ [])) trivial (fun j hlt _=>?_) (fun _=>?_) ⟨rfl,rfl,rfl,rfl,by rw[<-hmq];rfl,rfl,trivial⟩ rfl
   ·have hx:(qs.map equT)[j]?=some (.ag [T.sl 1 (qs[j].left.map T.s),T.n qs[j].right.kind,T.n qs[j].right.op,T.n qs[j].right.t,T.n qs[j].right.v,T.s qs[j].right.name,T.sl 6 (qs[j].right.args.map exT)]):=zar equT hlt
    have hn:=zas defQ [] hlt
    have hqq:=q1 (j+1)
    rw[hn]at hqq
    have hqi:=(zkA (qad hlt)).2.2
    generalize (qs.take j).foldl defQ []=acc at*
    rw[show defQ acc qs[j]=qs[j].left.foldl ins acc from rfl]at hn hqq
    have q3:=zd0 zpr qs[j].left acc
    have hmc:(qs[j].left.map T.s).length=qs[j].left.length:=qaa _
    generalize qs[j]=q at*
    repeat' (first|refine wkt ?_|refine zqo ?_|refine zab.exit ?_|exact wkc|intro hc|refine wk2 ?_ ?_|fail)
    refine TR.zak q.left.length (fun _=>True) (fun k=>[(2,.t (.sl 1 (l.map zae))),(3,.ref 0 0),(7,.fn 297 [.ref 0 0]),(18,.t (.sl 7 (qs.map equT))),(19,.i qs.length),(20,.i j),(25,.t (.sl 1 (q.left.map T.s))),(26,.i q.left.length),(27,.i k)]) (fun k=>dH ((q.left.take k).foldl ins acc)) trivial (fun k hlk _=>?_) (fun _=>?_) ⟨rfl,rfl,rfl,rfl,rfl,rfl,rfl,by rw[<-hmc];rfl,rfl,trivial⟩ rfl
    ·have hy:=zar T.s hlk
     have hn2:=zas ins acc hlk
     have hq3:=q3 k
     generalize (q.left.take k).foldl ins acc=acc2 at*
     generalize q.left[k]=s at*
     have c1:=ziT acc2 s (by omega)
     generalize ins acc2 s=acc3 at*
     repeat' (first|refine wkt ?_|refine zqp ?_|(apply TO.zaD 2 c1;(iterate 3 exact rfl);exact zqb;(iterate 8 exact rfl))|refine zab.exit ?_|exact wkc|intro hc|refine wk2 ?_ ?_|refine wk ?_|fail)
     exact zwcz
    ·rw[qag,<-hn]
     repeat' (first|refine wkt ?_|refine zab.exit ?_|exact wkc|intro hc|refine wk2 ?_ ?_|refine wk ?_|fail)
     exact zab.zat hlt trivial (by(try dsimp only);exact⟨rfl,rfl,rfl,rfl,rfl,rfl,trivial⟩) rfl
   rw[qag]
   generalize qs.foldl defQ []=o1 at*
   repeat' (first|refine wkt ?_|refine zab.exit ?_|exact wkc|intro hc|refine wk2 ?_ ?_|fail)
   refine TR.zak l.length (fun _=>True) (fun j=>[(3,.ref 0 0),(7,.fn 297 [.ref 0 0]),(36,.t (.sl 1 (l.map zae))),(37,.i l.length),(38,.i j)]) (fun j=>dH ((l.take j).foldl g o1)) trivial (fun j hlt _=>?_) (fun _=>?_) ⟨rfl,rfl,rfl,by rw[<-hml];rfl,rfl,trivial⟩ rfl
   ·have hx:=zar zae hlt
    rw[zbA]at hx
    have hn:=zas g o1 hlt
    have hqq:=q2 (j+1)
    rw[hn]at hqq
    have hsi:=fun x hx=>zfC (qad hlt) (s:=x) hx
    have hwa:=zb5 l[j]
    have hiw:=zaw (f:=zae) (sz:=1) (qad hlt)
    generalize (l.take j).foldl g o1=acc at*
    have hgx:g acc l[j]=match l[j].states with
     | []=>acc
     | x::_=>(zdt m x.eqs x.autos).foldl (defS x) acc:=by rw[hg]
    rw[hgx]at hn hqq
    clear hgx hgge hg
    generalize l[j]=a at*
    obtain⟨sts⟩:=a
    simp only[Auto.states]at hx hn hsi hqq hwa
    cases sts with
    | nil=>
      dsimp only[List.map]at hx
      repeat' (first|refine wkt ?_|refine zqo ?_|refine zab.exit ?_|exact wkc|intro hc|refine wk2 ?_ ?_|refine wk ?_|fail)
      exact zab.zat hlt trivial (by(try dsimp only);exact⟨rfl,rfl,rfl,rfl,rfl,trivial⟩) (by(try dsimp only);rw[hn])
    | cons x r=>
      dsimp only at hn hqq
      have hsx:=hsi x (qaD ..)
      have hrl:=zai staT 6 (x::r)
      have c2:=ih x.eqs x.autos (by omega) (by omega) (by omega)
      have hD:=zgN m x.eqs x.autos
      generalize zdt m x.eqs x.autos=D at*
      have hmD:(D.map T.s).length=D.length:=qaa _
      have q4:=zd0 (zo9 x) D acc
      have hms:((x::r).map staT).length=r.length+1:=by simp
      have hy:((x::r).map staT)[0]?=some (.ag [.s x.name,.sl 3 (x.locals.map zaa),.sl 7 (x.eqs.map equT),.sl 1 (x.autos.map zae),.sl 8 (x.unl.map zag),.sl 8 (x.unt.map zag)]):=by rw[<-za6];rfl
      have hlx:=zai zaa 3 x.locals
      have e1:(zad x.locals).w=(T.sl 3 (x.locals.map zaa)).w:=rfl
      generalize (x::r).map staT=S at*
      repeat' (first|refine wkt ?_|refine zqo ?_|refine zab.exit ?_|exact wkc|intro hc|refine wk2 ?_ ?_|fail)
      repeat' (first|refine wkt ?_|(apply TO.indexAddr zah;(iterate 8 exact rfl);decide;exact hy)|refine wv c2 ?_|refine zab.exit ?_|exact wkc|intro hc|refine wk2 ?_ ?_|fail)
      refine TR.zak D.length (fun _=>True) (fun k=>[(3,.ref 0 0),(7,.fn 297 [.ref 0 0]),(14,.cp [.s x.name,.sl 3 (x.locals.map zaa),.sl 7 (x.eqs.map equT),.sl 1 (x.autos.map zae),.sl 8 (x.unl.map zag),.sl 8 (x.unt.map zag)] 0),(36,.t (.sl 1 (l.map zae))),(37,.i l.length),(38,.i j),(54,.t (.sl 1 (D.map T.s))),(55,.i D.length),(56,.i k)]) (fun k=>dH ((D.take k).foldl (defS x) acc)) trivial (fun k hlk _=>?_) (fun _=>?_) ⟨rfl,rfl,rfl,rfl,rfl,rfl,rfl,by rw[<-hmD];rfl,rfl,trivial⟩ rfl
      ·have hz:=zar T.s hlk
       have hn2:=zas (defS x) acc hlk
       have hq5:=q4 k
       generalize (D.take k).foldl (defS x) acc=acc2 at*
       generalize D[k]=s at*
       have c3:=ze1 298 [.cp [.s s] 0] rfl (fun d=>decide (d.name=s)) x.locals (by omega) fun d=>zkv s d
       by_cases ha:(x.locals.any fun d=>decide (d.name=s))=true
       ·rw[show defS x acc2 s=acc2 by unfold defS;rw[if_pos ha]]at hn2
        rw[ha]at c3
        repeat' (first|refine wkt ?_|refine zqq ?_|refine wv c3 ?_|refine zab.exit ?_|exact wkc|intro hc|refine wk2 ?_ ?_|refine wk ?_|fail)
        exact zwcz
       ·rw[show defS x acc2 s=ins acc2 s by unfold defS;rw[if_neg ha]]at hn2
        rw[qb5]at ha
        rw[ha]at c3
        have c1:=ziT acc2 s (by omega)
        generalize ins acc2 s=acc3 at*
        repeat' (first|refine wkt ?_|refine zqq ?_|refine wv c3 ?_|(apply TO.zaD 2 c1;(iterate 3 exact rfl);exact zqb;(iterate 8 exact rfl))|refine zab.exit ?_|exact wkc|intro hc|refine wk2 ?_ ?_|refine wk ?_|fail)
        exact zwcz
      ·exact zwbk
   rw[qag]
   repeat' (first|refine wkt ?_|refine zab.exit ?_|exact wkc|intro hc|refine wk2 ?_ ?_|refine wk ?_|fail)
   exact RetK.pure rfl (Le.own _ _ _) rfl
theorem zh7(qs:List Equ)(l:List Auto)(hq:(T.sl 7 (qs.map equT)).w≤100000000)(hl:(T.sl 1 (l.map zae)).w≤100000000)(c0 c1 c2 c3 c6 c7:T):Pure Tryz.prog 175 [.t (.ag [c0,c1,c2,c3,.sl 7 (qs.map equT),.sl 1 (l.map zae),c6,c7])] (.t (.sl 1 ((zdt 100000000 qs l).map T.s))):=by
 have c:=zhh 100000000 qs l hq hl hl
 generalize (zdt 100000000 qs l).map T.s=z at*
 refine so Tryz.func175 ?_
 repeat' (first|refine wkt ?_|refine wv c ?_|refine zab.exit ?_|exact wkc|intro hc|refine wk2 ?_ ?_|refine wk ?_|fail)
 exact wkr
theorem zid(a:Auto)(ha:(zae a).w≤99999990):Pure Tryz.prog 115 [.t (zae a)] (.t (.sl 1 ((zdt 100000000 [] [a]).map T.s))):=by
 have c:=zh7 [] [a] (by rw[qay,w_sl];decide) (by rw[w_sl];simp only[qak,qay,qat,qaK];omega) (.s []) (.sl 3 []) (.sl 3 []) (.sl 3 []) (.sl 6 []) (.sl 6 [])
 generalize (zdt 100000000 [] [a]).map T.s=z at*
 dsimp only[List.map]at c
 rw[zbA]at c⊢
 refine so Tryz.func115 ?_
 repeat' (first|refine wkt ?_|(apply TO.zr8 zah;(iterate 7 exact rfl);refine(?_:Le _ (.t (T.ag [.s [],.sl 3 [],.sl 3 [],.sl 3 [],.sl 7 [],.sl 1 [.ag [.sl 6 (a.states.map staT)]],.sl 6 [],.sl 6 []])));exact zqb)|refine wv c ?_|refine zab.exit ?_|exact wkc|intro hc|refine wk2 ?_ ?_|refine wk ?_|fail)
 exact wkr
end Go.Proofs.YtpnnpgbaiobbjaaGreatDoor
