import Derived.DeepKeys
import Derived.Test.YtpnnpgbaiobbjaaGreatDoorAk20
import Derived.Test.YtpnnpgbaiobbjaaGreatDoorAk26
set_option linter.all false
namespace Go.Proofs.YtpnnpgbaiobbjaaGreatDoor
open Go Go.TL
attribute [local irreducible] TR TO Then zao RetK Sound zab Kf GG zaZ
theorem wvS{G Q:Prop}{f:FuncId}{cargs:List SV}{v:SV}(hs:Pure Tryz.prog f cargs v)(k:Q)(h:Pure Tryz.prog f cargs v->Hold Q->G:=by
  intro hs k
  (apply TO.zeQ hs;(iterate 3 exact rfl);(repeat' (first|exact trivial|exact Le.refl _|refine qaf ?_ ?_|refine Le.zrU rfl ?_|exact TLs.refl _|exact TLs.nil _|refine TLs.agL ?_|refine TLs.slL ?_|fail));exact rfl;exact rfl;exact k.p)):G:=h hs ⟨k⟩
def onEq(a b:OnC):Bool:=decide (a.name=b.name) && decide (a.t.1=b.t.1) && decide (a.tag.1=b.tag.1)
theorem zog(a b:OnC):onEq a b=true ↔ a=b:=by
 obtain⟨n,t,g⟩:=a
 obtain⟨n',t',g'⟩:=b
 simp only[onEq,qaz,decide_eq_true_eq,OnC.mk.injEq,Subtype.ext_iff,and_assoc]
instance:DecidableEq OnC:=fun a b=>decidable_of_iff _ (zog a b)
def isVar(e:Ex):Bool:=decide (e.kind.1=2\/e.kind.1=8\/e.kind.1=9)
def addN(l:List Str)(e:Ex):List Str:=if isVar e=true/\e.name ∉ l then l++[e.name] else l
def zca(l:List Str)(e:Ex):List Str:=(flat e).foldl addN l
abbrev onV (o:OnC):Value:=.agg #[str o.name,.int .i64 o.t.1,.int .i64 o.tag.1]
theorem zpT:Tryz.prog.cellsOf 170=3:=by kernel_rfl
theorem zuH:Tryz.prog.keyType 170=true:=by kernel_rfl
theorem wf64(t:I64):(Lit.int .i64 t.1).wf=true:=by
 simp only[Lit.wf,qaz,decide_eq_true_eq]
 exact⟨t.2.1,t.2.2⟩
theorem zhQ(N:Nat){o:OnC}(hs:(⟨o.name.toArray⟩:ByteArray).size≤maxLen):
  (Tryz.prog.keyLits (N+1+1) 170 [str o.name,.int .i64 o.t.1,.int .i64 o.tag.1])=some [.string o.name,.int .i64 o.t.1,.int .i64 o.tag.1]:=by
 have e1:∀c,Tryz.prog.keyLits (N+1) 3 [c]=(match c with| .int q' n=>if q'= .i64/\(Lit.int .i64 n).wf=true then some [.int .i64 n] else none|_=>none):=fun c=>by
  exact zwfk
 have e2:Tryz.prog.keyLits (N+1) 9 [str o.name]=some [.string o.name]:=by
  exact zwfq
 unfold Program.keyLits
 simp only[Tryz.underlying170,zpT]
 simp only[qam,qaD,qbQ,List.mapM_nil,ztw,ztx,qbh,List.take,List.drop,e1,e2,wf64]
 simp
theorem zvD{o:OnC}(h:o.name.length≤1000000000):keyOf Tryz.prog 170 (onV o)=some (.string (keyBytes [.string o.name,.int .i64 o.t.1,.int .i64 o.tag.1])):=by
 have hs:(⟨o.name.toArray⟩:ByteArray).size≤maxLen:=by
  show o.name.toArray.size≤maxLen
  simp[maxLen];omega
 have h5:(onV o).formed Tryz.prog 170=true:=by
  simp only[onV,Value.formed,Tryz.underlying170,zpT];rfl
 obtain⟨N,hN⟩:=zrZ
 rw[keyOf,Tryz.underlying170]
 simp only[zuH,h5,hN,Value.cells,qcN,if_true,zhQ N hs,qa6]
section
variable {n:Nat}{env:Env}{K:TK}{all:Array Oper}{rest:List Oper}{d:Nat}{ty:TypeId}{pos:String}{aft:Array Edge}{H:Heap}{q:Bool}
theorem ztQ{o:OnC}{m:M}{v:Value}(h:SRel m (.t (onT o)) v):v=onV o:=by
 cases h with
 | t _ _ h=>
   cases h with
   | ag _ arr hs h1 h=>
     obtain⟨l⟩:=arr
     match l,hs with
     | [a,b,c],_=>
       have ha:=h 0 _ a rfl rfl
       have hb:=h 1 _ b rfl rfl
       have hc:=h 2 _ c rfl rfl
       cases ha;cases hb;cases hc
       rfl
theorem zta(w:World){a b:OnC}(ha:a.name.length≤1000000000)(hb:b.name.length≤1000000000):(Op.equal 170 (onV a) (onV b)).run Tryz.prog w= .ok (decide (a=b)) w:=by
 obtain⟨N,hN⟩:=zrZ
 have la:=zhQ N (o:=a) (by show a.name.toArray.size≤maxLen;simp[maxLen];omega)
 have lb:=zhQ N (o:=b) (by show b.name.toArray.size≤maxLen;simp[maxLen];omega)
 obtain⟨r,hr,hrr⟩:=run_equal_deep (P:=Tryz.prog) w (m:=3) (leB) (by kernel_rfl) (by rw[Tryz.underlying170]) (zvD ha) (zvD hb)
 have hrd:r=decide (a=b):=by
  by_cases h:a=b
  ·rw[decide_eq_true h];exact hrr.2 (by rw[h])
  ·rw[decide_eq_false h]
   cases hb:r with
   | false=>rfl
   | true=>
     exfalso
     have:=hrr.1 hb
     simp only[Lit.string.injEq]at this
     have:=keyLits_inj la lb this
     simp only[qba,Lit.string.injEq,Lit.int.injEq,true_and,and_true]at this
     obtain⟨h1,h2,h3⟩:=this
     exact h ((zog a b).1 (by simp[onEq,h1,h2,h3]))
 rw[hr,hrd]
theorem TO.neOn{t':TypeId}{x y:Operand}{a b:OnC}(hd:Nat.ble (d+1) n=true)(hx:env.val x=some (.t (onT a)))(hy:env.val y=some (.t (onT b)))(ha:a.name.length≤1000000000)(hb:b.name.length≤1000000000)
  (k:TO q Tryz.prog n all rest ((d,.b (!decide (a=b)))::env) H K):TO q Tryz.prog n all (⟨some d,.binOp .neq 170 x y t',ty,pos,aft,none⟩::rest) env H K:=
 TO.op hd (fun m ac h1 h2 h3=>⟨.bool (!decide (a=b)),fun w' hw'=>by
  have e1:=ztQ (h3.val hx)
  have e2:=ztQ (h3.val hy)
  have hg:Tryz.prog.eqGuardType Tryz.prog.depth 170=false:=by kernel_rfl
  simp[execOp,e1,e2,eqGuard,hg,Go.binOp,zta w' ha hb],.t _ _ (.v _)⟩) k
theorem TO.zwJ{t':TypeId}{x y:Operand}{a b:OnC}{v:Bool}(hd:Nat.ble (d+1) n=true)(hx:env.val x=some (.t (onT a)))(hy:env.val y=some (.t (onT b)))(ha:a.name.length≤1000000000)(hb:b.name.length≤1000000000)(hv:(!decide (a=b))=v)
  (k:TO q Tryz.prog n all rest ((d,.b v)::env) H K):TO q Tryz.prog n all (⟨some d,.binOp .neq 170 x y t',ty,pos,aft,none⟩::rest) env H K:=by
 subst hv;exact TO.neOn hd hx hy ha hb k
end
theorem ziR(e:Ex):Pure Tryz.prog 318 [.t (.ag (exC e))] (.b (isVar e)):=by
 unfold isVar exC
 refine so Tryz.func318 ?_
 repeat' (first|refine wu ?_|exact wkc|intro hc|refine wk2 ?_ ?_|fail)
 all_goals
  refine RetK.pure rfl (Le.of_eq ?_) rfl
  refine congrArg (fun b=>SV.t (T.v (Value.bool b))) ?_
  simp;omega
theorem znr(l:List Str)(e:Ex):(addN l e).length≤l.length+1:=by
 unfold addN;split <;> simp
theorem zk4:∀(es:List Ex) (l:List Str),(es.foldl addN l).length≤l.length+es.length
 | [],l=>by simp
 | e::es,l=>by
   have:=zk4 es (addN l e)
   have:=znr l e
   simp only[qaU,qam];omega
theorem zmV(acc:List Str)(l:List Ex){j:Nat}(h:j<l.length):(flats (l.take (j+1))).foldl addN acc=zca ((flats (l.take j)).foldl addN acc) l[j]:=by
 rw[zf9 l h,qbm];rfl
set_option maxHeartbeats 1000000 in
theorem zj6:∀(m:Nat) (e:Ex) (acc:List Str),wEx e≤m->acc.length+wEx e≤1000000000->
  Sound Tryz.prog 299 [.sl 1 (acc.map T.s) 0,.t (.ag (exC e)),.b false] [.tail (acc.map T.s).length] (fun r H'=>r= .ret (.sl 1 ((zca acc e).map T.s) 0)/\H'=[.tail ((zca acc e).map T.s).length]):=by
 intro m
 induction m with
 | zero=>intro e _ he;have:=zcn e;omega
 | succ m ih0=>
   intro e acc he hb
   have ih:=fun x (hx:x∈e.args) (acc:List Str) (hb:acc.length+wEx x≤1000000000)=>ih0 x acc (by have:=zbP hx;omega) hb
   clear ih0
   have hfl:(flats e.args).length+1=wEx e:=by rw[<-zdU,zcD,qam]
   have hll:=zhj e
   have hv:=ziR e
   have hc:=zb6 acc (by omega) e.name
   have hnx:zca acc e=(flats e.args).foldl addN (addN acc e):=by unfold zca;rw[zcD];rfl
   rw[hnx]
   clear hnx
   have had:=znr acc e
   have hma:(acc.map T.s).length=acc.length:=qaa _
   have hadd:addN acc e=if isVar e=true/\e.name ∉ acc then acc++[e.name] else acc:=rfl
   generalize addN acc e=ac1 at*
   unfold exC at*
   generalize e.args=l at*
   have hml:(l.map exT).length=l.length:=qaa _
   by_cases hp:isVar e=true/\e.name ∉ acc
   rw[if_pos hp]at hadd
   rw[hp.1]at hv
   rw[decide_eq_false hp.2]at hc
   have hmp:ac1.map T.s=acc.map T.s++[T.s e.name]:=by rw[hadd];simp
   refine so Tryz.func299 ?_
   repeat' (first|refine wu ?_|exact wkc|intro hc|refine wk2 ?_ ?_|refine wv hv ?_|refine wv hc ?_|fail)
   rotate_left
   rw[if_neg hp]at hadd
   subst hadd
   have hmp:ac1.map T.s=ac1.map T.s:=rfl
   by_cases hvv:isVar e=true
   rw[hvv]at hv
   rw[decide_eq_true (show e.name∈ac1 from qav fun h=>hp ⟨hvv,h⟩)]at hc
   refine so Tryz.func299 ?_
   repeat' (first|refine wu ?_|exact wkc|intro hc|refine wk2 ?_ ?_|refine wv hv ?_|refine wv hc ?_|fail)
   rotate_left
   rw[qcb]at hvv
   rw[hvv]at hv
   refine so Tryz.func299 ?_
   repeat' (first|refine wu ?_|exact wkc|intro hc|refine wk2 ?_ ?_|refine wv hv ?_|fail)
   all_goals
    have h0:(flats (l.take 0)).foldl addN ac1=ac1:=by simp[flats]
    refine TR.zal l.length (fun _=>True) (fun j=>[(0,.sl 1 (((flats (l.take j)).foldl addN ac1).map T.s) 0),(2,.b false),(4,.cp [T.n e.kind,T.n e.op,T.n e.t,T.n e.v,.s e.name,.sl 6 (l.map exT)] 0),(24,.t (.sl 6 (l.map exT))),(25,.i (l.map exT).length),(26,.i j)]) (fun j=>[.tail (((flats (l.take j)).foldl addN ac1).map T.s).length]) trivial (fun j hlt _=>?_) (fun _=>?_) (by(try dsimp only);rw[h0,hmp];exact⟨rfl,rfl,rfl,rfl,rfl,rfl,trivial⟩) (by(try dsimp only);rw[h0,hmp];try first|rfl|(rw[qae];rfl))
    ·have hx:=zed hlt
     have hd:=zk4 (flats (l.take j)) ac1
     have h2:=congrArg List.length (ze4 l hlt)
     rw[qae,qae,zdU]at h2
     have hs:=ih l[j] (qad hlt) ((flats (l.take j)).foldl addN ac1) (by omega)
     have htk:=zmV ac1 l hlt
     generalize l[j]=x at hx hs htk
     unfold exC at hx
     repeat' (first|refine wkt ?_|refine wka ?_|refine wk ?_|exact wkc|intro hc|refine wk2 ?_ ?_|refine wd hs ?_|fail)
     exact zab.zat hlt trivial (by(try dsimp only);rw[htk];exact⟨rfl,rfl,rfl,rfl,rfl,rfl,trivial⟩) (by(try dsimp only);rw[htk])
    ·rw[qah]
     repeat' (first|refine wu ?_|exact wkc|intro hc|refine wk2 ?_ ?_|fail)
     exact RetK.at 1 rfl (Le.refl _) (qag _) rfl rfl rfl ⟨rfl,rfl⟩
theorem zev(e:Ex)(h:wEx e≤1000000000):Pure Tryz.prog 247 [.t (.ag (exC e))] (.t (.sl 1 ((zca [] e).map T.s))):=by
 have hs:Pure Tryz.prog 299 [.t (.v (.slice none 0 0)),.t (.ag (exC e)),.b false] (.t (.sl 1 ((zca [] e).map T.s))):=Sound.own (Sound.fresh (pre:=[]) (post:=[.t (.ag (exC e)),.b false]) (zj6 _ e [] (qag _) (by simpa using h)))
 unfold exC at*
 refine so Tryz.func247 ?_
 repeat' (first|refine wu ?_|exact wkc|intro hc|refine wk2 ?_ ?_|refine wv hs ?_|fail)
 exact wkr
theorem zeH{α:Type}{f:List Str->α->List Str}{g:α->Nat}:∀ {l:List α} {a:List Str},(∀a x,x∈l->(f a x).length≤a.length+g x)->(l.foldl f a).length≤a.length+(l.map g).sum
 | [],a,_=>by simp
 | x::l,a,h=>by
   have h1:=h a x (qas ..)
   have h2:=zeH (l:=l) (a:=f a x) fun a y hy=>h a y (qar _ hy)
   rw[qaU,qaj,qao]
   omega
theorem ziT{α:Type}(f:α->T)(sz:Nat)(l:List α):(l.map fun x=>(f x).w).sum≤(T.sl sz (l.map f)).w:=by
 rw[w_sl,qbp]
 exact Nat.le_add_left _ _
theorem zcU{α:Type}{f:List Str->α->List Str}{g:α->T}(sz:Nat){l:List α}{a:List Str}(h:∀a x,x∈l->(f a x).length≤a.length+(g x).w):(l.foldl f a).length≤a.length+(T.sl sz (l.map g)).w:=by
 have h1:=zeH (f:=f) (l:=l) (a:=a) (g:=fun x=>(g x).w) h
 have h2:=ziT g sz l
 omega
theorem zin{α:Type}(l:List α):(l.map fun _=>1).sum=l.length:=by
 induction l with
 | nil=>rfl
 | cons x l ih=>rw[qaj,qao,ih,qam];omega
theorem zqZ(l:List Str)(a:List Str):(l.foldl ins a).length≤a.length+l.length:=by
 have h1:=zeH (f:=ins) (g:=fun _=>1) (l:=l) (a:=a) fun a x _=>zdm a x
 rw[zin]at h1
 exact h1
theorem zjj(a:List Str)(ds:List Decl):(za1 a ds).length≤a.length+(zac ds).w:=zcU 3 fun a d _=>by
 have h1:=zeH (f:=fun(a:List Str) (o:OnC)=>ins a o.name) (g:=fun _=>1) (l:=d.clock) (a:=ins a d.name) fun a x _=>zdm a x.name
 have h2:=zdm a d.name
 have h3:=zai onT 3 d.clock
 rw[show zaa d= .ag [.s d.name,T.n d.ty,.sl 3 (d.clock.map onT)] from rfl,w_ag]
 simp only[qaj,qay,qao,qaI,w_s]
 rw[zin]at h1
 omega
theorem zcE{α:Type}{f:List Str->α->List Str}{g:α->Nat}:∀ {l:List α} (o:List Str),(∀x∈l,∀o,(f o x).length≤o.length+g x)->(l.foldl f o).length≤o.length+(l.map g).sum
 | [],o,_=>by simp
 | x::l,o,h=>by
   have h1:=h x (qas ..) o
   have h2:=zcE (l:=l) (f o x) fun y hy=>h y (qar _ hy)
   simp only[qaU,qaj,qao]
   omega
theorem zel{α:Type}{f:List Str->α->List Str}(h:∀x o,o.length≤(f o x).length):∀(l:List α) (o:List Str),o.length≤(l.foldl f o).length
 | [],o=>qag _
 | x::l,o=>qaE (h x o) (zel h l (f o x))
theorem zem{α:Type}{f:List Str->α->List Str}(h:∀x o,o.length≤(f o x).length)(l:List α)(o:List Str)(j:Nat):((l.take j).foldl f o).length≤(l.foldl f o).length:=by
 conv=>rhs;rw[<-qaS j l,qbm]
 exact zel h _ _
theorem zsk{α:Type}(g:α->List Str)(x:α)(o:List Str):o.length≤(o++g x).length:=by rw[qae];omega
theorem zlq(e:Ex):(zca [] e).length≤(exT e).w:=by
 have h:∀(l:List Ex) (o:List Str),(l.foldl addN o).length≤o.length+l.length:=by
  intro l
  induction l with
  | nil=>intro o;simp
  | cons x l ih=>
    intro o
    have h1:=ih (addN o x)
    have h2:(addN o x).length≤o.length+1:=by unfold addN;split <;> simp
    simp only[qaU,qam]
    omega
 have h1:=h (flat e) []
 rw[zdU]at h1
 have h2:=zdI e
 unfold zca
 simp only[qaD]at h1
 omega
def clkF(o:List Str)(d:Decl):List Str:=d.clock.foldl (fun o c=>o++[c.name]) o
def eqnF(o:List Str)(q:Equ):List Str:=o++zca [] q.right
def trnF(o:List Str)(t:Tran):List Str:=o++zca [] t.cond
def zbF:Nat->Sta->List Str
 | 0,_=>[]
 | m+1,s=>s.autos.foldl (fun o a=>a.states.foldl (fun o x=>x.unl.foldl trnF o++zbF m x) o) (s.unt.foldl trnF (s.eqs.foldl eqnF (s.locals.foldl clkF [])))
theorem zup(d:Decl)(o:List Str):o.length≤(clkF o d).length:=zel (fun x o=>zsk (fun c:OnC=>[c.name]) x o) d.clock o
theorem zsv(d:Decl)(o:List Str):(clkF o d).length≤o.length+(zaa d).w:=by
 have h:=zcE (f:=fun o (c:OnC)=>o++[c.name]) (g:=fun c=>(onT c).w) (l:=d.clock) o fun x _ o=>by have:=ziS (onT x);simp only[qae,qam,qaD];omega
 have h2:=ziT onT 3 d.clock
 have h3:(T.sl 3 (d.clock.map onT)).w≤(zaa d).w:=by rw[show zaa d= .ag [.s d.name,T.n d.ty,.sl 3 (d.clock.map onT)] from rfl,w_ag];simp only[qaj,qay,qao,qaI];omega
 unfold clkF
 omega
theorem zsF(q:Equ)(o:List Str):(eqnF o q).length≤o.length+(equT q).w:=by
 have h1:=zlq q.right
 have h2:(exT q.right).w≤(equT q).w:=by rw[show equT q= .ag (.sl 1 (q.left.map T.s)::exC q.right) from rfl,zay,w_ag,w_ag,qaj,qao];omega
 unfold eqnF
 rw[qae]
 omega
theorem zos(t:Tran)(o:List Str):(trnF o t).length≤o.length+(zah t).w:=by
 have h1:=zlq t.cond
 have h2:(exT t.cond).w≤(zah t).w:=by
  rw[show zah t= .ag [T.n t.cond.kind,T.n t.cond.op,T.n t.cond.t,T.n t.cond.v,.s t.cond.name,.sl 6 (t.cond.args.map exT),T.n t.to,.b t.resume] from rfl,zay,w_ag,w_ag]
  exact zwez
 unfold trnF
 rw[qae]
 omega
theorem zp7(q:Equ)(o:List Str):o.length≤(eqnF o q).length:=zsk (fun q:Equ=>zca [] q.right) q o
theorem zkp(q:Tran)(o:List Str):o.length≤(trnF o q).length:=zsk (fun q:Tran=>zca [] q.cond) q o
theorem zia:∀(m:Nat) (s:Sta),(zbF m s).length+(T.sl 8 (s.unl.map zah)).w≤(staT s).w
 | 0,s=>by have:=zdK s;show 0+_≤_;omega
 | m+1,s=>by
   unfold zbF
   have hs:=zdK s
   have e1:(zac s.locals).w=(T.sl 3 (s.locals.map zaa)).w:=rfl
   have h1:=zcE (l:=s.locals) [] fun d _ o=>zsv d o
   have h2:=zcE (l:=s.eqs) (s.locals.foldl clkF []) fun d _ o=>zsF d o
   have h3:=zcE (l:=s.unt) (s.eqs.foldl eqnF (s.locals.foldl clkF [])) fun d _ o=>zos d o
   have k1:=ziT zaa 3 s.locals
   have k2:=ziT equT 7 s.eqs
   have k3:=ziT zah 8 s.unt
   have hx:∀(x:Sta) (o:List Str),(x.unl.foldl trnF o++zbF m x).length≤o.length+(staT x).w:=fun x o=>by
    have g1:=zcE (l:=x.unl) o fun d _ o=>zos d o
    have g2:=ziT zah 8 x.unl
    have g4:=zia m x
    rw[qae]
    omega
   have hA:∀(a:Auto) (o:List Str),(a.states.foldl (fun o x=>x.unl.foldl trnF o++zbF m x) o).length≤o.length+(zae a).w:=fun a o=>by
    have g1:=zcE (l:=a.states) o fun x _ o=>hx x o
    have g2:=ziT staT 6 a.states
    have g3:=zbJ a
    omega
   have h4:=zcE (l:=s.autos) (s.unt.foldl trnF (s.eqs.foldl eqnF (s.locals.foldl clkF []))) fun a _ o=>hA a o
   have k4:=ziT zae 1 s.autos
   simp only[qaD]at h1
   omega
set_option maxHeartbeats 8000000 in
theorem zgI:∀(m:Nat) (s:Sta),(staT s).w≤100000000->(staT s).w≤m->Pure Tryz.prog 178 [.t (staT s)] (.t (.sl 1 ((zbF m s).map T.s)))
 | 0,s,_,hm=>by have:=ziS (staT s);omega
 | m+1,s,hw,hm=>by
   have ih:=zgI m
   have htot:=zia (m+1) s
   unfold zbF at htot⊢
   have hws:=zdK s
   have e1:(zac s.locals).w=(T.sl 3 (s.locals.map zaa)).w:=rfl
   obtain⟨g,hg⟩:∃g:List Str->Sta->List Str,g=fun o x=>x.unl.foldl trnF o++zbF m x:=⟨_,rfl⟩
   obtain⟨h,hh⟩:∃h:List Str->Auto->List Str,h=fun o a=>a.states.foldl g o:=⟨_,rfl⟩
   rw[show(fun(o:List Str) (a:Auto)=>a.states.foldl (fun o x=>x.unl.foldl trnF o++zbF m x) o)=h by rw[hh,hg]]at htot⊢
   have hgge:∀x o,o.length≤(g o x).length:=fun x o=>by rw[hg];exact qaE (zel zkp x.unl o) (by rw[qae];omega)
   have hhge:∀x o,o.length≤(h o x).length:=fun x o=>by rw[hh];exact zel hgge x.states o
   have q4:=zem hhge s.autos (s.unt.foldl trnF (s.eqs.foldl eqnF (s.locals.foldl clkF [])))
   have q3:=zem zkp s.unt (s.eqs.foldl eqnF (s.locals.foldl clkF []))
   have q2:=zem zp7 s.eqs (s.locals.foldl clkF [])
   have q1:=zem zup s.locals []
   have r4:=zel hhge s.autos (s.unt.foldl trnF (s.eqs.foldl eqnF (s.locals.foldl clkF [])))
   have r3:=zel zkp s.unt (s.eqs.foldl eqnF (s.locals.foldl clkF []))
   have r2:=zel zp7 s.eqs (s.locals.foldl clkF [])
   have m1:(s.locals.map zaa).length=s.locals.length:=qaa _
   have m2:(s.eqs.map equT).length=s.eqs.length:=qaa _
   have m3:(s.unt.map zah).length=s.unt.length:=qaa _
   have m4:(s.autos.map zae).length=s.autos.length:=qaa _
   have b1:=zai zaa 3 s.locals
   have b2:=zai equT 7 s.eqs
   have b3:=zai zah 8 s.unt
   have b4:=zai zae 1 s.autos
   rw[za8]
   refine so Tryz.func178 ?_
   repeat' (first|refine wkt ?_|fail)
   refine TR.tail 1 3 rfl ?_
   refine TR.zal s.locals.length (fun _=>True) (fun j=>[(1,.cp [.s s.name,.sl 3 (s.locals.map zaa),.sl 7 (s.eqs.map equT),.sl 1 (s.autos.map zae),.sl 8 (s.unl.map zah),.sl 8 (s.unt.map zah)] 0),(3,.sl 1 (((s.locals.take j).foldl clkF []).map T.s) 0),(19,.t (.sl 3 (s.locals.map zaa))),(20,.i s.locals.length),(21,.i j)]) (fun j=>[.tail (((s.locals.take j).foldl clkF []).map T.s).length]) trivial (fun j hlt _=>?_) (fun _=>?_) ⟨rfl,rfl,rfl,by rw[<-m1];rfl,rfl,trivial⟩ rfl
   ·have hx:=zar zaa hlt
    have hn:=zau clkF [] hlt
    have hq:=q1 (j+1)
    rw[hn]at hq
    have hck:=zcx (l:=s.locals) (by omega) _ (qad hlt)
    have hfew:=hck.few
    generalize (s.locals.take j).foldl clkF []=acc at*
    generalize s.locals[j]=d at*
    obtain⟨nm,ty,ck⟩:=d
    rw[show clkF acc ⟨nm,ty,ck⟩=ck.foldl (fun(o:List Str) (c:OnC)=>o++[c.name]) acc from rfl]at hn hq
    dsimp only[zaa]at hx hn hq hfew
    have hmc:(ck.map onT).length=ck.length:=qaa _
    have q5:=zem (f:=fun(o:List Str) (c:OnC)=>o++[c.name]) (fun x o=>zsk (fun c:OnC=>[c.name]) x o) ck acc
    repeat' (first|refine wkt ?_|refine zqp ?_|refine zab.exit ?_|exact wkc|intro hc|refine wk2 ?_ ?_|fail)
    refine TR.zal ck.length (fun _=>True) (fun k=>[(1,.cp [.s s.name,.sl 3 (s.locals.map zaa),.sl 7 (s.eqs.map equT),.sl 1 (s.autos.map zae),.sl 8 (s.unl.map zah),.sl 8 (s.unt.map zah)] 0),(3,.sl 1 (((ck.take k).foldl (fun(o:List Str) (c:OnC)=>o++[c.name]) acc).map T.s) 0),(19,.t (.sl 3 (s.locals.map zaa))),(20,.i s.locals.length),(21,.i j),(26,.t (.sl 3 (ck.map onT))),(27,.i ck.length),(28,.i k)]) (fun k=>[.tail (((ck.take k).foldl (fun(o:List Str) (c:OnC)=>o++[c.name]) acc).map T.s).length]) trivial (fun k hlk _=>?_) (fun _=>?_) ⟨rfl,rfl,rfl,rfl,rfl,rfl,by rw[<-hmc];rfl,rfl,trivial⟩ rfl
    ·have hy:=zar onT hlk
     have hn2:=zau (fun(o:List Str) (c:OnC)=>o++[c.name]) acc hlk
     have hq2:=q5 k
     generalize (ck.take k).foldl (fun(o:List Str) (c:OnC)=>o++[c.name]) acc=acc2 at*
     have hma:(acc2.map T.s).length=acc2.length:=qaa _
     generalize ck[k]=oc at*
     obtain⟨onm,ot,otg⟩:=oc
     dsimp only[onT]at hy hn2
     repeat' (first|refine wkt ?_|refine zqq ?_|refine zqe ?_|refine zab.exit ?_|exact wkc|intro hc|refine wk2 ?_ ?_|refine wk ?_|fail)
     exact zab.zat hlk trivial (by(try dsimp only);rw[hn2,qal];exact⟨rfl,rfl,rfl,rfl,rfl,rfl,rfl,rfl,trivial⟩) (by(try dsimp only);rw[hn2];simp)
    ·exact zwbh
   rw[qah]
   generalize s.locals.foldl clkF []=o1 at*
   repeat' (first|refine wkt ?_|refine zab.exit ?_|exact wkc|intro hc|refine wk2 ?_ ?_|fail)
   refine TR.zal s.eqs.length (fun _=>True) (fun j=>[(1,.cp [.s s.name,.sl 3 (s.locals.map zaa),.sl 7 (s.eqs.map equT),.sl 1 (s.autos.map zae),.sl 8 (s.unl.map zah),.sl 8 (s.unt.map zah)] 0),(3,.sl 1 (((s.eqs.take j).foldl eqnF o1).map T.s) 0),(40,.t (.sl 7 (s.eqs.map equT))),(41,.i s.eqs.length),(42,.i j)]) (fun j=>[.tail (((s.eqs.take j).foldl eqnF o1).map T.s).length]) trivial (fun j hlt _=>?_) (fun _=>?_) ⟨rfl,rfl,rfl,by rw[<-m2];rfl,rfl,trivial⟩ rfl
   ·have hx:(s.eqs.map equT)[j]?=some (.ag [T.sl 1 (s.eqs[j].left.map T.s),T.n s.eqs[j].right.kind,T.n s.eqs[j].right.op,T.n s.eqs[j].right.t,T.n s.eqs[j].right.v,T.s s.eqs[j].right.name,T.sl 6 (s.eqs[j].right.args.map exT)]):=zar equT hlt
    have hn:=zau eqnF o1 hlt
    have hq:=q2 (j+1)
    rw[hn]at hq
    have hqe:=(zjc (qad hlt)).2.1
    generalize (s.eqs.take j).foldl eqnF o1=acc at*
    have hma:(acc.map T.s).length=acc.length:=qaa _
    have hwx:=zdI s.eqs[j].right
    have c1:=zev s.eqs[j].right (by omega)
    rw[show eqnF acc s.eqs[j]=acc++zca [] s.eqs[j].right from rfl]at hn hq
    rw[qae]at hq
    unfold exC at c1
    generalize zca [] s.eqs[j].right=nx at*
    have hmn:(nx.map T.s).length=nx.length:=qaa _
    generalize s.eqs[j]=q at*
    repeat' (first|refine wkt ?_|refine zqp ?_|refine wv c1 ?_|refine zqe ?_|refine zab.exit ?_|exact wkc|intro hc|refine wk2 ?_ ?_|refine wk ?_|fail)
    exact zwcm
   rw[qah]
   generalize s.eqs.foldl eqnF o1=o2 at*
   repeat' (first|refine wkt ?_|refine zab.exit ?_|exact wkc|intro hc|refine wk2 ?_ ?_|fail)
   refine TR.zal s.unt.length (fun _=>True) (fun j=>[(1,.cp [.s s.name,.sl 3 (s.locals.map zaa),.sl 7 (s.eqs.map equT),.sl 1 (s.autos.map zae),.sl 8 (s.unl.map zah),.sl 8 (s.unt.map zah)] 0),(3,.sl 1 (((s.unt.take j).foldl trnF o2).map T.s) 0),(53,.t (.sl 8 (s.unt.map zah))),(54,.i s.unt.length),(55,.i j)]) (fun j=>[.tail (((s.unt.take j).foldl trnF o2).map T.s).length]) trivial (fun j hlt _=>?_) (fun _=>?_) ⟨rfl,rfl,rfl,by rw[<-m3];rfl,rfl,trivial⟩ rfl
   ·have hx:(s.unt.map zah)[j]?=some (.ag [T.n s.unt[j].cond.kind,T.n s.unt[j].cond.op,T.n s.unt[j].cond.t,T.n s.unt[j].cond.v,.s s.unt[j].cond.name,.sl 6 (s.unt[j].cond.args.map exT),T.n s.unt[j].to,.b s.unt[j].resume]):=zar zah hlt
    have hn:=zau trnF o2 hlt
    have hq:=q3 (j+1)
    rw[hn]at hq
    have hqe:=zkn (qad hlt)
    generalize (s.unt.take j).foldl trnF o2=acc at*
    have hma:(acc.map T.s).length=acc.length:=qaa _
    have hwx:=zdI s.unt[j].cond
    have c1:=zev s.unt[j].cond (by omega)
    rw[show trnF acc s.unt[j]=acc++zca [] s.unt[j].cond from rfl]at hn hq
    rw[qae]at hq
    unfold exC at c1
    generalize zca [] s.unt[j].cond=nx at*
    have hmn:(nx.map T.s).length=nx.length:=qaa _
    generalize s.unt[j]=q at*
    repeat' (first|refine wkt ?_|refine zqp ?_|refine wv c1 ?_|refine zqe ?_|refine zab.exit ?_|exact wkc|intro hc|refine wk2 ?_ ?_|refine wk ?_|fail)
    exact zwcm
   rw[qah]
   generalize s.unt.foldl trnF o2=o3 at*
   repeat' (first|refine wkt ?_|refine zab.exit ?_|exact wkc|intro hc|refine wk2 ?_ ?_|fail)
   refine TR.zal s.autos.length (fun _=>True) (fun j=>[(3,.sl 1 (((s.autos.take j).foldl h o3).map T.s) 0),(66,.t (.sl 1 (s.autos.map zae))),(67,.i s.autos.length),(68,.i j)]) (fun j=>[.tail (((s.autos.take j).foldl h o3).map T.s).length]) trivial (fun j hlt _=>?_) (fun _=>?_) ⟨rfl,rfl,by rw[<-m4];rfl,rfl,trivial⟩ rfl
   ·have hx:=zar zae hlt
    rw[zbV]at hx
    have hn:=zau h o3 hlt
    have hq:=q4 (j+1)
    rw[hn]at hq
    have hsi:=fun x hx=>zgM (qad hlt) (s:=x) hx
    have hsw:=fun x (hx:x∈s.autos[j].states)=>zav (f:=staT) (sz:=6) hx
    have haw:=zbJ s.autos[j]
    have hiw:=zav (f:=zae) (sz:=1) (qad hlt)
    have hsb:=zai staT 6 s.autos[j].states
    generalize (s.autos.take j).foldl h o3=acc at*
    have hhx:h acc s.autos[j]=s.autos[j].states.foldl g acc:=by rw[hh]
    rw[hhx]at hn hq
    clear hhx hhge
    generalize s.autos[j]=x at*
    obtain⟨sts⟩:=x
    simp only[Auto.states]at hx hn hsi hq hsw haw hiw hsb
    have hmc:(sts.map staT).length=sts.length:=qaa _
    have q6:=zem hgge sts acc
    have hma:(acc.map T.s).length=acc.length:=qaa _
    repeat' (first|refine wkt ?_|refine zqp ?_|refine zab.exit ?_|exact wkc|intro hc|refine wk2 ?_ ?_|fail)
    refine TR.zal sts.length (fun _=>True) (fun k=>[(3,.sl 1 (((sts.take k).foldl g acc).map T.s) 0),(66,.t (.sl 1 (s.autos.map zae))),(67,.i s.autos.length),(68,.i j),(73,.t (.sl 6 (sts.map staT))),(74,.i sts.length),(75,.i k)]) (fun k=>[.tail (((sts.take k).foldl g acc).map T.s).length]) trivial (fun k hlk _=>?_) (fun _=>?_) ⟨rfl,rfl,rfl,rfl,rfl,by rw[<-hmc];rfl,rfl,trivial⟩ rfl
    ·have hy:=zar staT hlk
     have hn2:=zau g acc hlk
     have hq2:=q6 (k+1)
     rw[hn2]at hq2
     have hsx:=hsi _ (qad hlk)
     have hwx:=hsw _ (qad hlk)
     generalize (sts.take k).foldl g acc=acc2 at*
     have hgx:g acc2 sts[k]=sts[k].unl.foldl trnF acc2++zbF m sts[k]:=by rw[hg]
     rw[hgx]at hn2 hq2
     have c2:=ih sts[k] (by omega) (by omega)
     clear hgx hgge
     rw[za8]at hy c2
     have b5:=zai zah 8 sts[k].unl
     have m5:(sts[k].unl.map zah).length=sts[k].unl.length:=qaa _
     have q7:=zem zkp sts[k].unl acc2
     rw[qae]at hq2
     generalize zbF m sts[k]=rx at*
     have hmr:(rx.map T.s).length=rx.length:=qaa _
     generalize sts[k]=x at*
     repeat' (first|refine wkt ?_|refine zqq ?_|refine zab.exit ?_|exact wkc|intro hc|refine wk2 ?_ ?_|fail)
     refine TR.zal x.unl.length (fun _=>True) (fun i=>[(3,.sl 1 (((x.unl.take i).foldl trnF acc2).map T.s) 0),(15,.cp [.s x.name,.sl 3 (x.locals.map zaa),.sl 7 (x.eqs.map equT),.sl 1 (x.autos.map zae),.sl 8 (x.unl.map zah),.sl 8 (x.unt.map zah)] 0),(66,.t (.sl 1 (s.autos.map zae))),(67,.i s.autos.length),(68,.i j),(73,.t (.sl 6 (sts.map staT))),(74,.i sts.length),(75,.i k),(80,.t (.sl 8 (x.unl.map zah))),(81,.i x.unl.length),(82,.i i)]) (fun i=>[.tail (((x.unl.take i).foldl trnF acc2).map T.s).length]) trivial (fun i hli _=>?_) (fun _=>?_) ⟨rfl,rfl,rfl,rfl,rfl,rfl,rfl,rfl,rfl,by rw[<-m5];rfl,rfl,trivial⟩ rfl
     ·have hz:(x.unl.map zah)[i]?=some (.ag [T.n x.unl[i].cond.kind,T.n x.unl[i].cond.op,T.n x.unl[i].cond.t,T.n x.unl[i].cond.v,.s x.unl[i].cond.name,.sl 6 (x.unl[i].cond.args.map exT),T.n x.unl[i].to,.b x.unl[i].resume]):=zar zah hli
      have hn3:=zau trnF acc2 hli
      have hq3:=q7 (i+1)
      rw[hn3]at hq3
      have hqe:=zkn (qad hli)
      generalize (x.unl.take i).foldl trnF acc2=acc3 at*
      have hma3:(acc3.map T.s).length=acc3.length:=qaa _
      have hwx3:=zdI x.unl[i].cond
      have c1:=zev x.unl[i].cond (by omega)
      rw[show trnF acc3 x.unl[i]=acc3++zca [] x.unl[i].cond from rfl]at hn3 hq3
      rw[qae]at hq3
      unfold exC at c1
      generalize zca [] x.unl[i].cond=nx at*
      have hmn:(nx.map T.s).length=nx.length:=qaa _
      generalize x.unl[i]=q at*
      repeat' (first|refine wkt ?_|refine zqr ?_|refine wv c1 ?_|refine zqe ?_|refine zab.exit ?_|exact wkc|intro hc|refine wk2 ?_ ?_|refine wk ?_|fail)
      exact zab.zat hli trivial (by(try dsimp only);rw[hn3,qal];exact⟨rfl,rfl,rfl,rfl,rfl,rfl,rfl,rfl,rfl,rfl,rfl,trivial⟩) (by(try dsimp only);rw[hn3];simp)
     ·rw[qah]
      have hq8:=q7 x.unl.length
      rw[qah]at hq8
      generalize x.unl.foldl trnF acc2=acc4 at*
      have hma4:(acc4.map T.s).length=acc4.length:=qaa _
      repeat' (first|refine wkt ?_|refine wv c2 ?_|refine zqe ?_|refine zab.exit ?_|exact wkc|intro hc|refine wk2 ?_ ?_|refine wk ?_|fail)
      exact zab.zat hlk trivial (by(try dsimp only);rw[hn2,qal];exact⟨rfl,rfl,rfl,rfl,rfl,rfl,rfl,trivial⟩) (by(try dsimp only);rw[hn2];simp)
    ·exact zwbj
   rw[qah]
   repeat' (first|refine wkt ?_|refine zab.exit ?_|exact wkc|intro hc|refine wk2 ?_ ?_|refine wk ?_|fail)
   exact RetK.pure rfl (Le.own _ _ _) rfl
theorem zfk(fid:FuncId)(caps:List SV)(hcaps:unders 0 caps=true)(p:Decl->Bool)(l:List Decl)(hl:l.length≤1000000000)(hp:∀d,Pure Tryz.prog fid (.t (zaa d)::caps) (.b (p d))):
  Pure Tryz.prog 180 [.t (.sl 3 (l.map zaa)),.fn fid caps] (.b (l.any p)):=by
 have hs:=zdX fid caps hcaps p l hl hp
 have ha:=zfD p l
 generalize idxI p l=z at*
 have hu:unders 0 [.t (.sl 3 (l.map zaa)),.fn fid caps]=true:=by simp[unders,SV.under,hcaps]
 refine so Tryz.func180 ?_
 repeat' (first|refine wk ?_|exact wkc|intro hc|refine wk2 ?_ ?_|(apply TO.zeQ hs;(iterate 3 exact rfl);exact Les.refl _;exact hu;exact rfl)|fail)
 all_goals
  refine RetK.pure rfl (Le.of_eq ?_) rfl
  refine congrArg (fun b=>SV.t (T.v (Value.bool b))) ?_
  rw[<-ha];simp;omega
theorem zkU(s:Str)(d:Decl):Pure Tryz.prog 298 [.t (zaa d),.cp [.s s] 0] (.b (decide (d.name=s))):=by
 unfold zaa
 refine so Tryz.func298 ?_
 repeat' (first|refine wu ?_|exact wkc|intro hc|refine wk2 ?_ ?_|fail)
 all_goals exact zwcz
theorem zkB(s:Str)(d:Decl):Pure Tryz.prog 117 [.t (zaa d),.cp [.s s] 0] (.b (decide (d.name=s))):=by
 unfold zaa
 refine so Tryz.func117 ?_
 repeat' (first|refine wu ?_|exact wkc|intro hc|refine wk2 ?_ ?_|fail)
 all_goals exact zwcz
theorem zkE(e d:Decl):Pure Tryz.prog 181 [.t (zaa d),.cp [.s e.name,T.n e.ty,.sl 3 (e.clock.map onT)] 0] (.b (decide (d.name=e.name))):=by
 unfold zaa
 refine so Tryz.func181 ?_
 repeat' (first|refine wu ?_|exact wkc|intro hc|refine wk2 ?_ ?_|fail)
 all_goals exact zwcz
abbrev dH (o:List Str):Heap:=[.cells [.sl 1 (o.map T.s) 1],.tail (o.map T.s).length]
theorem zuG(o:List Str)(s:Str)(h:s ∉ o):ins o s=o++[s]:=by unfold ins;rw[if_neg h]
theorem zjp(o:List Str)(s:Str)(ho:o.length≤1000000000):Sound Tryz.prog 297 [.s s,.ref 0 0] (dH o) (fun r H'=>r= .ret (.tup [])/\H'=dH (ins o s)):=by
 have hc1:=zb6 o ho s
 have hmo:(o.map T.s).length=o.length:=qaa _
 by_cases h:s∈o
 ·rw[show ins o s=o by unfold ins;rw[if_pos h]]
  rw[decide_eq_true h]at hc1
  refine so Tryz.func297 ?_
  repeat' (first|refine wkt ?_|refine wv hc1 ?_|refine zab.exit ?_|exact wkc|intro hc|refine wk2 ?_ ?_|refine wk ?_|fail)
  exact RetK.ziH 2 rfl (Le.refl _) rfl rfl rfl rfl rfl ⟨rfl,rfl⟩
 ·rw[zuG o s h]
  rw[decide_eq_false h]at hc1
  refine so Tryz.func297 ?_
  repeat' (first|refine wkt ?_|refine wv hc1 ?_|refine zqe ?_|refine zab.exit ?_|exact wkc|intro hc|refine wk2 ?_ ?_|refine wk ?_|fail)
  exact RetK.ziH 2 rfl (Le.refl _) rfl rfl rfl rfl rfl ⟨rfl,by simp⟩
def defQ(o:List Str)(q:Equ):List Str:=q.left.foldl ins o
def defS(x:Sta)(o:List Str)(s:Str):List Str:=if(x.locals.any fun d=>decide (d.name=s))=true then o else ins o s
def zdk:Nat->List Equ->List Auto->List Str
 | 0,_,_=>[]
 | m+1,qs,l=>l.foldl (fun o a=>match a.states with
   | []=>o
   | x::_=>(zdk m x.eqs x.autos).foldl (defS x) o) (qs.foldl defQ [])
theorem zqR(s:Str)(o:List Str):o.length≤(ins o s).length:=by unfold ins;split <;> simp
theorem zp5(x:Sta)(s:Str)(o:List Str):o.length≤(defS x o s).length:=by unfold defS;split;exact qag _;exact zqR s o
theorem zsA(x:Sta)(s:Str)(o:List Str):(defS x o s).length≤o.length+1:=by unfold defS;split;omega;exact zdm o s
theorem zut(q:Equ)(o:List Str):o.length≤(defQ o q).length:=zel zqR q.left o
theorem zsz(q:Equ)(o:List Str):(defQ o q).length≤o.length+(equT q).w:=by
 have h:=zcE (f:=ins) (g:=fun _=>1) (l:=q.left) o fun x _ o=>zdm o x
 rw[zin]at h
 have h2:(T.sl 1 (q.left.map T.s)).w≤(equT q).w:=by rw[show equT q= .ag (.sl 1 (q.left.map T.s)::exC q.right) from rfl,w_ag,qaj,qao];omega
 have h3:=zai T.s 1 q.left
 unfold defQ
 omega
theorem zg3:∀(m:Nat) (qs:List Equ) (l:List Auto),(zdk m qs l).length≤(T.sl 7 (qs.map equT)).w+(T.sl 1 (l.map zae)).w
 | 0,_,_=>qaK _
 | m+1,qs,l=>by
   unfold zdk
   have h1:=zcE (l:=qs) [] fun q _ o=>zsz q o
   have h2:=ziT equT 7 qs
   have h3:=zcE (f:=fun(o:List Str) (a:Auto)=>match a.states with
    | []=>o
    | x::_=>(zdk m x.eqs x.autos).foldl (defS x) o) (g:=fun a=>(zae a).w) (l:=l) (qs.foldl defQ []) fun a _ o=>by
      obtain⟨sts⟩:=a
      cases sts with
      | nil=>exact qbx _ _
      | cons x r=>
        have g1:=zcE (f:=defS x) (g:=fun _=>1) (l:=zdk m x.eqs x.autos) o fun s _ o=>zsA x s o
        rw[zin]at g1
        have g2:=zg3 m x.eqs x.autos
        have g3:=zdK x
        have g4:=zav (f:=staT) (sz:=6) (l:=x::r) (x:=x) (qas ..)
        have g5:=zbJ (.mk (x::r))
        simp only[Auto.states]at g5⊢
        omega
   have h4:=ziT zae 1 l
   simp only[qaD]at h1
   omega
set_option maxHeartbeats 8000000 in
theorem zhz:∀(m:Nat) (qs:List Equ) (l:List Auto),(T.sl 7 (qs.map equT)).w≤100000000->(T.sl 1 (l.map zae)).w≤100000000->(T.sl 1 (l.map zae)).w≤m->Pure Tryz.prog 246 [.t (.v (.slice none 0 0)),.t (.sl 7 (qs.map equT)),.t (.sl 1 (l.map zae))] (.t (.sl 1 ((zdk m qs l).map T.s)))
 | 0,_,l,_,_,hm=>by have:=ziS (T.sl 1 (l.map zae));omega
 | m+1,qs,l,hq,hl,hm=>by
   have ih:=zhz m
   have htot:=zg3 (m+1) qs l
   unfold zdk at htot⊢
   obtain⟨g,hg⟩:∃g:List Str->Auto->List Str,g=fun o a=>match a.states with
    | []=>o
    | x::_=>(zdk m x.eqs x.autos).foldl (defS x) o:=⟨_,rfl⟩
   rw[<-hg]at htot⊢
   have hgge:∀x o,o.length≤(g o x).length:=fun x o=>by
    rw[hg]
    obtain⟨sts⟩:=x
    cases sts with
    | nil=>exact qag _
    | cons x r=>exact zel (zp5 x) _ o
   have q2:=zem hgge l (qs.foldl defQ [])
   have q1:=zem zut qs []
   have r2:=zel hgge l (qs.foldl defQ [])
   have hmq:(qs.map equT).length=qs.length:=qaa _
   have hml:(l.map zae).length=l.length:=qaa _
   have hqb:=zai equT 7 qs
   have hlb:=zai zae 1 l
   refine so Tryz.func246 ?_
   repeat' (first|refine zqy ?_|refine TR.region ?_|refine zqi ?_|refine zqh ?_|refine zqj ?_|refine zqg ?_|fail)
   refine TR.zcA 1 0 0 rfl rfl rfl ?_
   refine TR.zal qs.length (fun _=>True) (fun j=>[(2,.t (.sl 1 (l.map zae))),(3,.ref 0 0),(7,.fn 297 [.ref 0 0]),(18,.t (.sl 7 (qs.map equT))),(19,.i qs.length),(20,.i j)]) (fun j=>dH ((qs.take j).foldl defQ [])) trivial (fun j hlt _=>?_) (fun _=>?_) ⟨rfl,rfl,rfl,rfl,by rw[<-hmq];rfl,rfl,trivial⟩ rfl
   ·have hx:(qs.map equT)[j]?=some (.ag [T.sl 1 (qs[j].left.map T.s),T.n qs[j].right.kind,T.n qs[j].right.op,T.n qs[j].right.t,T.n qs[j].right.v,T.s qs[j].right.name,T.sl 6 (qs[j].right.args.map exT)]):=zar equT hlt
    have hn:=zau defQ [] hlt
    have hqq:=q1 (j+1)
    rw[hn]at hqq
    have hqi:=(zjc (qad hlt)).2.2
    generalize (qs.take j).foldl defQ []=acc at*
    rw[show defQ acc qs[j]=qs[j].left.foldl ins acc from rfl]at hn hqq
    have q3:=zem zqR qs[j].left acc
    have hmc:(qs[j].left.map T.s).length=qs[j].left.length:=qaa _
    generalize qs[j]=q at*
    repeat' (first|refine wkt ?_|refine zqp ?_|refine zab.exit ?_|exact wkc|intro hc|refine wk2 ?_ ?_|fail)
    refine TR.zal q.left.length (fun _=>True) (fun k=>[(2,.t (.sl 1 (l.map zae))),(3,.ref 0 0),(7,.fn 297 [.ref 0 0]),(18,.t (.sl 7 (qs.map equT))),(19,.i qs.length),(20,.i j),(25,.t (.sl 1 (q.left.map T.s))),(26,.i q.left.length),(27,.i k)]) (fun k=>dH ((q.left.take k).foldl ins acc)) trivial (fun k hlk _=>?_) (fun _=>?_) ⟨rfl,rfl,rfl,rfl,rfl,rfl,rfl,by rw[<-hmc];rfl,rfl,trivial⟩ rfl
    ·have hy:=zar T.s hlk
     have hn2:=zau ins acc hlk
     have hq3:=q3 k
     generalize (q.left.take k).foldl ins acc=acc2 at*
     generalize q.left[k]=s at*
     have c1:=zjp acc2 s (by omega)
     generalize ins acc2 s=acc3 at*
     repeat' (first|refine wkt ?_|refine zqq ?_|(apply TO.zaE 2 c1;(iterate 3 exact rfl);exact zqb;(iterate 8 exact rfl))|refine zab.exit ?_|exact wkc|intro hc|refine wk2 ?_ ?_|refine wk ?_|fail)
     exact zwcq
    ·rw[qah,<-hn]
     repeat' (first|refine wkt ?_|refine zab.exit ?_|exact wkc|intro hc|refine wk2 ?_ ?_|refine wk ?_|fail)
     exact zab.zat hlt trivial (by(try dsimp only);exact⟨rfl,rfl,rfl,rfl,rfl,rfl,trivial⟩) rfl
   rw[qah]
   generalize qs.foldl defQ []=o1 at*
   repeat' (first|refine wkt ?_|refine zab.exit ?_|exact wkc|intro hc|refine wk2 ?_ ?_|fail)
   refine TR.zal l.length (fun _=>True) (fun j=>[(3,.ref 0 0),(7,.fn 297 [.ref 0 0]),(36,.t (.sl 1 (l.map zae))),(37,.i l.length),(38,.i j)]) (fun j=>dH ((l.take j).foldl g o1)) trivial (fun j hlt _=>?_) (fun _=>?_) ⟨rfl,rfl,rfl,by rw[<-hml];rfl,rfl,trivial⟩ rfl
   ·have hx:=zar zae hlt
    rw[zbV]at hx
    have hn:=zau g o1 hlt
    have hqq:=q2 (j+1)
    rw[hn]at hqq
    have hsi:=fun x hx=>zgM (qad hlt) (s:=x) hx
    have hwa:=zbJ l[j]
    have hiw:=zav (f:=zae) (sz:=1) (qad hlt)
    generalize (l.take j).foldl g o1=acc at*
    have hgx:g acc l[j]=match l[j].states with
     | []=>acc
     | x::_=>(zdk m x.eqs x.autos).foldl (defS x) acc:=by rw[hg]
    rw[hgx]at hn hqq
    clear hgx hgge hg
    generalize l[j]=a at*
    obtain⟨sts⟩:=a
    simp only[Auto.states]at hx hn hsi hqq hwa
    cases sts with
    | nil=>
      dsimp only[List.map]at hx
      repeat' (first|refine wkt ?_|refine zqp ?_|refine zab.exit ?_|exact wkc|intro hc|refine wk2 ?_ ?_|refine wk ?_|fail)
      exact zab.zat hlt trivial (by(try dsimp only);exact⟨rfl,rfl,rfl,rfl,rfl,trivial⟩) (by(try dsimp only);rw[hn])
    | cons x r=>
      dsimp only at hn hqq
      have hsx:=hsi x (qas ..)
      have hrl:=zai staT 6 (x::r)
      have c2:=ih x.eqs x.autos (by omega) (by omega) (by omega)
      have hD:=zg3 m x.eqs x.autos
      generalize zdk m x.eqs x.autos=D at*
      have hmD:(D.map T.s).length=D.length:=qaa _
      have q4:=zem (zp5 x) D acc
      have hms:((x::r).map staT).length=r.length+1:=by simp
      have hy:((x::r).map staT)[0]?=some (.ag [.s x.name,.sl 3 (x.locals.map zaa),.sl 7 (x.eqs.map equT),.sl 1 (x.autos.map zae),.sl 8 (x.unl.map zah),.sl 8 (x.unt.map zah)]):=by rw[<-za8];rfl
      have hlx:=zai zaa 3 x.locals
      have e1:(zac x.locals).w=(T.sl 3 (x.locals.map zaa)).w:=rfl
      generalize (x::r).map staT=S at*
      repeat' (first|refine wkt ?_|refine zqp ?_|refine zab.exit ?_|exact wkc|intro hc|refine wk2 ?_ ?_|fail)
      repeat' (first|refine wkt ?_|(apply TO.indexAddr zag;(iterate 8 exact rfl);decide;exact hy)|refine wv c2 ?_|refine zab.exit ?_|exact wkc|intro hc|refine wk2 ?_ ?_|fail)
      refine TR.zal D.length (fun _=>True) (fun k=>[(3,.ref 0 0),(7,.fn 297 [.ref 0 0]),(14,.cp [.s x.name,.sl 3 (x.locals.map zaa),.sl 7 (x.eqs.map equT),.sl 1 (x.autos.map zae),.sl 8 (x.unl.map zah),.sl 8 (x.unt.map zah)] 0),(36,.t (.sl 1 (l.map zae))),(37,.i l.length),(38,.i j),(54,.t (.sl 1 (D.map T.s))),(55,.i D.length),(56,.i k)]) (fun k=>dH ((D.take k).foldl (defS x) acc)) trivial (fun k hlk _=>?_) (fun _=>?_) ⟨rfl,rfl,rfl,rfl,rfl,rfl,rfl,by rw[<-hmD];rfl,rfl,trivial⟩ rfl
      ·have hz:=zar T.s hlk
       have hn2:=zau (defS x) acc hlk
       have hq5:=q4 k
       generalize (D.take k).foldl (defS x) acc=acc2 at*
       generalize D[k]=s at*
       have c3:=zfk 298 [.cp [.s s] 0] rfl (fun d=>decide (d.name=s)) x.locals (by omega) fun d=>zkU s d
       by_cases ha:(x.locals.any fun d=>decide (d.name=s))=true
       ·rw[show defS x acc2 s=acc2 by unfold defS;rw[if_pos ha]]at hn2
        rw[ha]at c3
        repeat' (first|refine wkt ?_|refine zqr ?_|refine wv c3 ?_|refine zab.exit ?_|exact wkc|intro hc|refine wk2 ?_ ?_|refine wk ?_|fail)
        exact zwcq
       ·rw[show defS x acc2 s=ins acc2 s by unfold defS;rw[if_neg ha]]at hn2
        rw[qcb]at ha
        rw[ha]at c3
        have c1:=zjp acc2 s (by omega)
        generalize ins acc2 s=acc3 at*
        repeat' (first|refine wkt ?_|refine zqr ?_|refine wv c3 ?_|(apply TO.zaE 2 c1;(iterate 3 exact rfl);exact zqb;(iterate 8 exact rfl))|refine zab.exit ?_|exact wkc|intro hc|refine wk2 ?_ ?_|refine wk ?_|fail)
        exact zwcq
      ·exact zwbh
   rw[qah]
   repeat' (first|refine wkt ?_|refine zab.exit ?_|exact wkc|intro hc|refine wk2 ?_ ?_|refine wk ?_|fail)
   exact RetK.pure rfl (Le.own _ _ _) rfl
theorem zix(qs:List Equ)(l:List Auto)(hq:(T.sl 7 (qs.map equT)).w≤100000000)(hl:(T.sl 1 (l.map zae)).w≤100000000)(c0 c1 c2 c3 c6 c7:T):Pure Tryz.prog 175 [.t (.ag [c0,c1,c2,c3,.sl 7 (qs.map equT),.sl 1 (l.map zae),c6,c7])] (.t (.sl 1 ((zdk 100000000 qs l).map T.s))):=by
 have c:=zhz 100000000 qs l hq hl hl
 generalize (zdk 100000000 qs l).map T.s=z at*
 refine so Tryz.func175 ?_
 repeat' (first|refine wkt ?_|refine wv c ?_|refine zab.exit ?_|exact wkc|intro hc|refine wk2 ?_ ?_|refine wk ?_|fail)
 exact wkr
theorem ziC(a:Auto)(ha:(zae a).w≤99999990):Pure Tryz.prog 115 [.t (zae a)] (.t (.sl 1 ((zdk 100000000 [] [a]).map T.s))):=by
 have c:=zix [] [a] (by rw[qay,w_sl];decide) (by rw[w_sl];simp only[qaj,qay,qao,qaI];omega) (.s []) (.sl 3 []) (.sl 3 []) (.sl 3 []) (.sl 6 []) (.sl 6 [])
 generalize (zdk 100000000 [] [a]).map T.s=z at*
 dsimp only[List.map]at c
 rw[zbV]at c⊢
 refine so Tryz.func115 ?_
 repeat' (first|refine wkt ?_|(apply TO.znI zag;(iterate 7 exact rfl);refine(?_:Le _ (.t (T.ag [.s [],.sl 3 [],.sl 3 [],.sl 3 [],.sl 7 [],.sl 1 [.ag [.sl 6 (a.states.map staT)]],.sl 6 [],.sl 6 []])));exact zqb)|refine wv c ?_|refine zab.exit ?_|exact wkc|intro hc|refine wk2 ?_ ?_|refine wk ?_|fail)
 exact wkr
end Go.Proofs.YtpnnpgbaiobbjaaGreatDoor
