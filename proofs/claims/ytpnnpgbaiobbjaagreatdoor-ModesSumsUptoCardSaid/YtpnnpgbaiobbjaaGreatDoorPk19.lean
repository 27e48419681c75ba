import Derived.Test.YtpnnpgbaiobbjaaGreatDoorPz
import Derived.Test.YtpnnpgbaiobbjaaGreatDoorPk18
set_option linter.unusedSimpArgs false
set_option linter.unusedVariables false
namespace Go.Proofs.YtpnnpgbaiobbjaaGreatDoor
open Go Go.TL
attribute [local irreducible] TR TO Then zam RetK Sound zab Kf GG zaX
abbrev zb7 (n q c:Int):SV:=.ifc 157 (.t (.ag [T.i n,T.i q,T.i c]))
theorem zrB(p:Prog)(n q:Int)(seen:List (Int×Str×Int))(e:Int):Sound Tryz.prog 157 [.ref 0 0,.b true,.i e] [lkB p n q,zbJ seen] (fun r H'=>r= .ret (.tup [])/\H'=[lkB p n q,zbJ seen]):=by
 refine so Tryz.func157 ?_
 repeat' (first|refine wu ?_|exact wkc|intro hc|refine wk2 ?_ ?_|fail)
 exact RetK.zih 2 (vs:=[]) rfl (Le.refl _) rfl rfl rfl rfl rfl ⟨rfl,rfl⟩
theorem zrA(p:Prog)(n q:Int)(seen:List (Int×Str×Int))(e:Int)(he:e≠0):Sound Tryz.prog 157 [.ref 0 0,.b false,.i e] [lkB p n q,zbJ seen] (Err e (.tup []) (zb7 n q e) [lkB p n q,zbJ seen]):=by
 refine Sound.err rfl (fun _=>rfl) ?_
 refine so Tryz.func157 ?_
 repeat' (first|refine wu ?_|exact wkc|intro hc|refine wk2 ?_ ?_|(apply TO.makeInterface;exact rfl;kernel_rfl;exact rfl)|(apply TO.panic;exact rfl)|fail)
 exact RetK.errP he rfl rfl rfl
theorem Ch.len(h:Ch)(p:Prog)(n q:Int)(seen:List (Int×Str×Int)):(full p n q seen h).length=h.N:=by cases h <;> rfl
theorem Ch.under(h:Ch)(p:Prog)(n q:Int)(seen:List (Int×Str×Int)):zac h.N (full p n q seen h)=true:=by cases h <;> rfl
theorem Ch.ge(h:Ch):5≤h.N:=by cases h <;> simp[Ch.N]
theorem Ch.tk(h:Ch)(p:Prog)(n q:Int)(seen:List (Int×Str×Int)):(full p n q seen h).take h.N=full p n q seen h:=qaT (by rw[Ch.len];exact qae _)
theorem Ch.tkl(h:Ch)(p:Prog)(n q:Int)(seen:List (Int×Str×Int)):(full p n q seen h).take (full p n q seen h).length=full p n q seen h:=qaT (qae _)
theorem Ch.und(h:Ch)(p:Prog)(n q:Int)(seen:List (Int×Str×Int)):zac (full p n q seen h).length (full p n q seen h)=true:=by rw[Ch.len];exact Ch.under h p n q seen
theorem Ch.ble(h:Ch)(p:Prog)(n q:Int)(seen:List (Int×Str×Int)):Nat.ble (full p n q seen h).length (full p n q seen h).length=true:=by simp
section
variable {n:Nat}{env:Env}{K:TK}{all:Array Oper}{rest:List Oper}{d:Nat}{ty:TypeId}{pos:String}{aft:Array Edge}{p:Prog}{a q e:Int}{seen:List (Int×Str×Int)}{H Hr:Heap}{args:Array Operand}{ts:Array TypeId}
theorem TO.zt7(hd:Nat.ble (d+1) n=true)(ha:env.vals args.toList=some [.ref 0 0,.b true,.i e])(h1:H=lkB p a q::zbJ seen::Hr)(k:TO false Tryz.prog n all rest ((d,.tup [])::env) H K):
  TO false Tryz.prog n all (⟨some d,.call { callee:=.value (.func 157),args:=args,argTypes:=ts },ty,pos,aft,none⟩::rest) env H K:=by
 subst h1
 exact TO.zaD 2 (zrB p a q seen e) hd rfl ha ⟨Le.refl _,Le.refl _,Le.refl _,trivial⟩ (by simp) rfl rfl rfl rfl rfl rfl (by simp[za1]) k
theorem TO.zsj(hd:Nat.ble (d+1) n=true)(ha:env.vals args.toList=some [.ref 0 0,.b false,.i e])(h1:H=lkB p a q::zbJ seen::Hr)(he:e≠0)(k:K (.panic (zb7 a q e)) env (.dead:: .dead::Hr)):
  TO false Tryz.prog n all (⟨some d,.call { callee:=.value (.func 157),args:=args,argTypes:=ts },ty,pos,aft,none⟩::rest) env H K:=by
 subst h1
 exact TO.zkh 2 (zrA p a q seen e he) hd rfl ha ⟨Le.refl _,Le.refl _,Le.refl _,trivial⟩ (by simp) rfl rfl rfl rfl rfl rfl rfl (by simp[za1];rfl) (fun h=>absurd h he) (fun _=>k)
theorem TO.zm8(N:Nat){Hc:Heap}{cargs:List SV}{b:Bool}{f:Operand}{fid:FuncId}{caps:List SV}{vs:List SV}
  (hs:Sound Tryz.prog fid cargs Hc fun r H'=>r= .ret (.b b)/\H'=Hc)(hd:Nat.ble (d+1) n=true)(hf:env.val f=some (.fn fid caps))(ha:env.vals args.toList=some vs)(hl:Les (vs++caps) cargs)
  (hN:N≤H.length)(hc:H.take N=Hc)(hu:unders N cargs=true)(hb:zac N Hc=true)
  (k1:b=true->TO false Tryz.prog n all rest ((d,.b true)::env) H K)(k2:b=false->TO false Tryz.prog n all rest ((d,.b false)::env) H K):
  TO false Tryz.prog n all (⟨some d,.call { callee:=.value f,args:=args,argTypes:=ts },ty,pos,aft,none⟩::rest) env H K:=by
 have hl1:Hc.length=N:=by rw[<-hc];simp;omega
 refine TO.zaD N hs hd hf ha hl (by simpa using hN) hc hu hb rfl hl1 hb (H':=H) (by rw[<-hc,qaS,za1]) ?_
 cases b
 ·exact k2 rfl
 ·exact k1 rfl
theorem TO.sees{h:Ch}{nm:Str}(hk:h.ok)(hd:Nat.ble (d+1) n=true)(ha:env.vals args.toList=some [.ref h.id 0,.s nm])(hH:H.take h.N=full p a q seen h)(hs:nm.length≤1000000000)
  (k1:nm∈h.vis->TO false Tryz.prog n all rest ((d,.b true)::env) H K)(k2:nm ∉ h.vis->TO false Tryz.prog n all rest ((d,.b false)::env) H K):
  TO false Tryz.prog n all (⟨some d,.call { callee:=.value (.func 237),args:=args,argTypes:=ts },ty,pos,aft,none⟩::rest) env H K:=by
 have hN:h.N≤H.length:=by have:=congrArg List.length hH;rw[Ch.len]at this;simp at this;omega
 refine TO.zm8 h.N (zov p a q seen h hk nm hs) hd rfl ha ⟨Le.refl _,Le.refl _,trivial⟩ hN hH ?_ (Ch.under h p a q seen) (fun hb=>k1 (by simpa using hb)) (fun hb=>k2 (by simpa using hb))
 cases h <;> rfl
theorem TO.defined{h:Ch}{nm:Str}(hk:h.ok)(hd:Nat.ble (d+1) n=true)(ha:env.vals args.toList=some [.ref h.id 0,.s nm])(hH:H.take h.N=full p a q seen h)(hs:nm.length≤1000000000)
  (k1:(nm∈h.low\/nm∈h.top.done)->TO false Tryz.prog n all rest ((d,.b true)::env) H K)(k2:¬(nm∈h.low\/nm∈h.top.done)->TO false Tryz.prog n all rest ((d,.b false)::env) H K):
  TO false Tryz.prog n all (⟨some d,.call { callee:=.value (.func 238),args:=args,argTypes:=ts },ty,pos,aft,none⟩::rest) env H K:=by
 have hN:h.N≤H.length:=by have:=congrArg List.length hH;rw[Ch.len]at this;simp at this;omega
 refine TO.zm8 h.N (zjf p a q seen h hk nm hs) hd rfl ha ⟨Le.refl _,Le.refl _,trivial⟩ hN hH ?_ (Ch.under h p a q seen) (fun hb=>k1 (by simpa using hb)) (fun hb=>k2 (by simpa using hb))
 cases h <;> rfl
end
theorem wms{G Q:Prop}(k:Q)(h:Hold Q->G:=by
  intro k
  first
  | (apply Go.Proofs.YtpnnpgbaiobbjaaGreatDoor.TO.zt7;(iterate 3 exact rfl);exact k.p)
  | (apply Go.Proofs.YtpnnpgbaiobbjaaGreatDoor.TO.zsj;(iterate 3 exact rfl);decide;exact k.p)
  | (apply Go.Proofs.YtpnnpgbaiobbjaaGreatDoor.TO.zsj;(iterate 3 exact rfl);assumption;exact k.p)):G:=h ⟨k⟩
abbrev SS (f:FuncId)(args:List SV)(p:Prog)(n q:Int)(seen:List (Int×Str×Int))(h h':Ch)(c:Int):Prop:=Sound Tryz.prog f (.ref 0 0::args) (full p n q seen h) (Err c (.tup []) (zb7 n q c) (full p n q seen h'))
theorem retS{rs:List ResultVar}{env:Env}{H H1:Heap}{n q c c':Int}{N:Nat}{v:SV}(h0:c'≠0)(hc:c'=c)(hN:N≤H.length):
  zeS (RetK tab rs N (Err0 c v (zb7 n q c) H1 N)) (.panic (zb7 n q c')) env H:=by
 subst hc;exact zeS.errP h0 hN (fun _=>rfl)
theorem zlf{env:Env}{H H1:Heap}{n q c:Int}{N:Nat}(hc:c=0)(hN:Nat.ble N H1.length=true)(hk:Nat.ble H1.length H.length=true)(ht:H.take H1.length=H1)(hb:zac H1.length H1=true):
  zeS (RetK tab [] N (Err0 c (.tup []) (zb7 n q c) H1 N)) .normal env H:=RetK.errN (vs:=[]) hc rfl (Le.refl _) hN hk rfl ht hb
def zli(vis:List Str)(l:List Decl):Int:=zaf (fun d=>zaf (fun o:OnC=>if o.name∈vis then 0 else 6) d.clock) l
theorem zaV{l:List Decl}{d:Decl}(h:d∈l):d.name.length<(zad l).w/\(T.sl 3 (d.clock.map onT)).w<(zad l).w:=by
 exact zwbj
theorem zpH{l:List OnC}{o:OnC}(h:o∈l):o.name.length<(T.sl 3 (l.map onT)).w:=by
 exact zwcx
theorem zhT(p:Prog)(n q:Int)(seen:List (Int×Str×Int))(h:Ch)(hk:h.ok)(l:List Decl)(hw:(zad l).w≤1000000000):SS 160 [.ref h.id 0,.t (zad l)] p n q seen h h (zli h.vis l):=by
 have hml:(l.map zaa).length=l.length:=qaa _
 have hlb:l.length≤1000000000:=qaF (qbi (zai zaa 3 l)) hw
 unfold zli
 refine Sound.err rfl (fun _=>rfl) ?_
 refine so Tryz.func160 ?_
 refine TR.dead ?_
 repeat' (first|refine wu ?_|exact wkc|intro hc|refine wk2 ?_ ?_|fail)
 refine TR.zak l.length (fun k=>zaf (fun d=>zaf (fun o:OnC=>if o.name∈h.vis then 0 else 6) d.clock) (l.take k)=0) (fun k=>[(0,.ref 0 0),(1,.ref h.id 0),(10,.t (zad l)),(11,.i (l.map zaa).length),(12,.i k)]) (fun _=>full p n q seen h) rfl (fun k hlt ha=>?_) (fun ha=>?_)
 ·have hx:=zcC hlt
  have g1:=zaC (f:=fun d=>zaf (fun o:OnC=>if o.name∈h.vis then 0 else 6) d.clock) hlt ha
  have g2:=zap (f:=fun d=>zaf (fun o:OnC=>if o.name∈h.vis then 0 else 6) d.clock) hlt ha
  have hwx:=(zaV (qad hlt)).2
  generalize l[k]=x at*
  have hlc:=zai onT 3 x.clock
  have hmo:(x.clock.map onT).length=x.clock.length:=qaa _
  unfold zez at hx
  repeat' (first|refine wu ?_|exact wkc|intro hc|refine wk2 ?_ ?_|fail)
  refine TR.zak x.clock.length (fun j=>zaf (fun o:OnC=>if o.name∈h.vis then 0 else 6) (x.clock.take j)=0) (fun j=>[(0,.ref 0 0),(1,.ref h.id 0),(10,.t (zad l)),(11,.i (l.map zaa).length),(12,.i k),(17,.t (.sl 3 (x.clock.map onT))),(18,.i (x.clock.map onT).length),(19,.i j)]) (fun _=>full p n q seen h) rfl (fun j hlt2 ha2=>?_) (fun ha2=>?_)
  ·have hx2:=ztG hlt2
   have f1:=zaC (f:=fun o:OnC=>if o.name∈h.vis then 0 else 6) hlt2 ha2
   have f2:=zap (f:=fun o:OnC=>if o.name∈h.vis then 0 else 6) hlt2 ha2
   have hno:x.clock[j].name.length≤1000000000:=by have:=zpH (qad hlt2);omega
   generalize x.clock[j]=o at*
   repeat' (first|refine wkt ?_|refine wka ?_|refine wkD ?_|refine wk ?_|exact wkc|intro hc|refine wk2 ?_ ?_|(apply TO.zgu;(iterate 4 exact rfl);assumption;assumption)|(apply TO.ziR;(iterate 3 exact rfl);assumption)|(apply TO.znA;(iterate 4 exact rfl);assumption;assumption;exact rfl)|refine wms ?_|(apply TO.sees hk;exact rfl;exact rfl;(first|exact rfl|exact Ch.tk _ _ _ _ _);assumption)|(apply TO.defined hk;exact rfl;exact rfl;(first|exact rfl|exact Ch.tk _ _ _ _ _);assumption)|fail)
   ·exact zab.zat hlt2 (f2 (by rw[if_pos hc]))
   ·((repeat' (first|refine zab.panic ?_|refine wk ?_|fail));apply retS;(first|assumption|decide);(clear hx;first|grind|grind [orE]);(first|exact leB|exact Nat.le_refl _|(simp[Ch.len];done)|(simp[Ch.len];omega)))
  ·have e1:=zaF ha2
   refine wk ?_
   repeat' (first|refine wu ?_|exact wkc|intro hc|refine wk2 ?_ ?_|fail)
   exact zab.zat hlt (g2 e1)
 ·exact zwbw
theorem zas{α β:Type}(f:β->α->β)(a:β){l:List α}{j:Nat}(h:j<l.length):(l.take (j+1)).foldl f a=f ((l.take j).foldl f a) l[j]:=by rw[zbQ h,qbd];rfl
theorem zbr{α:Type}{f:List Str->α->List Str}:∀ {l:List α} {a:List Str},zaE a->(∀a x,x∈l->zaE a->zaE (f a x))->zaE (l.foldl f a)
 | [],_,h,_=>h
 | x::l,a,h,hf=>zbr (l:=l) (hf a x (qaD ..) h) fun a y hy=>hf a y (qaA _ hy)
theorem zc9{α:Type}{f:List Str->α->List Str}{l:List α}{a:List Str}(h:zaE a)(hf:∀a x,x∈l->zaE a->zaE (f a x))(j:Nat):zaE ((l.take j).foldl f a):=zbr h fun a x hx=>hf a x (qaO hx)
abbrev zdK (s:Str):Prop:=s.length≤1000000000
structure zr5 (d:Decl):Prop where
 name:zdK d.name
 ck:∀o∈d.clock,zdK o.name
 few:d.clock.length≤100000000
theorem zci{l:List Decl}(h:(zad l).w≤100000000):∀d∈l,zr5 d:=fun d hd=>by
 have h1:=zaV hd
 refine⟨by show _≤_;omega,fun o ho=>?_,?_⟩
 ·have h2:=zaw (f:=onT) (sz:=3) ho
  rw[show onT o= .ag [.s o.name,T.n o.t,T.n o.tag] from rfl,w_ag]at h2
  simp only[qak,qay,qat,qaK,w_s]at h2
  show _≤_
  omega
 ·have h2:=zai onT 3 d.clock
  omega
theorem zec{a:List Str}{ds:List Decl}(h:zaE a)(hd:∀d∈ds,zr5 d):zaE (zcn a ds):=zbr h fun a d hh ha=>zbr (ha.ins (hd d hh).name) fun a o ho ha=>ha.ins ((hd d hh).ck o ho)
def zoF(e:Ex):Prop:=∀x∈flat e,zdK x.name
theorem zcj{e:Ex}(h:(exT e).w≤1000000000):zoF e:=fun x hx=>qaF (flat_nameF _ e (qae _) x hx) h
where
 flat_nameF:∀(m:Nat) (e:Ex),wEx e≤m->∀x∈flat e,x.name.length≤(exT e).w
 | 0,e,h=>by have:=zcp e;omega
 | m+1,e,h=>by
   intro x hx
   have he:(exT e).w=(T.ag (exC e)).w:=by rw[zaz]
   have h1:e.name.length+(T.sl 6 (e.args.map exT)).w≤(exT e).w:=by
    exact zweg
   rw[zb9]at hx
   rcases qby.1 hx with rfl|hx
   ·omega
   ·unfold flats at hx
    obtain⟨l,hl,hxl⟩:=qcr.1 hx
    obtain⟨y,hy,rfl⟩:=qbf.1 hl
    have:=flat_nameF m y (by have:=zbR hy;omega) x hxl
    have:=zaw (f:=exT) (sz:=6) hy
    omega
theorem ok_one{a:List Str}{x:Ex}(h:zaE a)(hx:zdK x.name):zaE (oneL a x):=by
 unfold oneL
 split
 ·exact h.ins hx
 ·exact h
theorem zfC{l:List Auto}{x:Auto}{s:Sta}(hx:x∈l)(hs:s∈x.states):s.name.length+(zad s.locals).w+(T.sl 7 (s.eqs.map equT)).w+(T.sl 1 (s.autos.map zae)).w+(T.sl 8 (s.unl.map zag)).w+(T.sl 8 (s.unt.map zag)).w<(T.sl 1 (l.map zae)).w:=by
 have h1:=zaw (f:=zae) (sz:=1) hx
 have h2:=zb5 x
 have h3:=zaw (f:=staT) (sz:=6) hs
 rw[za6,w_ag]at h3
 simp only[qak,qay,qat,qaK,w_s]at h3
 have h4:(zad s.locals).w=(T.sl 3 (s.locals.map zaa)).w:=rfl
 omega
theorem zkA{l:List Equ}{q:Equ}(hq:q∈l):(∀s∈q.left,s.length<(T.sl 7 (l.map equT)).w)/\(exT q.right).w<(T.sl 7 (l.map equT)).w/\q.left.length<(T.sl 7 (l.map equT)).w:=by
 have h1:=zaw (f:=equT) (sz:=7) hq
 rw[show equT q= .ag (.sl 1 (q.left.map T.s)::exC q.right) from rfl,w_ag,qak,qat]at h1
 refine⟨fun s hs=>?_,?_,?_⟩
 ·have h2:=zaw (f:=T.s) (sz:=1) hs
  rw[w_s]at h2
  omega
 ·rw[zaz,w_ag];omega
 ·have h2:=zai T.s 1 q.left
  omega
theorem zjS{l:List Tran}{t:Tran}(ht:t∈l):(exT t.cond).w<(T.sl 8 (l.map zag)).w:=by
 have h1:=zaw (f:=zag) (sz:=8) ht
 rw[show zag t= .ag [T.n t.cond.kind,T.n t.cond.op,T.n t.cond.t,T.n t.cond.v,.s t.cond.name,.sl 6 (t.cond.args.map exT),T.n t.to,.b t.resume] from rfl,w_ag]at h1
 simp only[qak,qay,qat,qaK]at h1
 rw[zaz,w_ag]
 exact zwfg
theorem zkW{qs:List Equ}(hq:(T.sl 7 (qs.map equT)).w≤100000000):∀q∈qs,∀s∈q.left,zdK s:=fun q hh s hs=>by
 have:=(zkA hh).1 s hs
 show _≤_
 omega
def zaO:Nat->List Auto->Nat
 | 0,_=>0
 | m+1,l=>l.foldl (fun n a=>a.states.foldl (fun n s=>n+zaO m s.autos) n) l.length
def zbP:Nat->List Auto->Nat
 | 0,_=>0
 | m+1,l=>l.foldl (fun n a=>max n (a.states.foldl (fun d s=>max d (zbP m s.autos)) 0+1)) 0
def zfZ:Nat->List Auto->Nat
 | 0,_=>0
 | m+1,l=>l.foldl (fun n a=>a.states.foldl (fun n s=>max n (1+zfZ m s.autos)) (max n 1)) 0
theorem zl9{α:Type}{f:Nat->α->Nat}{g:α->Nat}:∀ {l:List α} (n:Nat),(∀x∈l,∀n,f n x≤n+g x)->l.foldl f n≤n+(l.map g).sum
 | [],n,_=>by simp
 | x::l,n,h=>by
   have h1:=h x (qaD ..) n
   have h2:=zl9 (l:=l) (f n x) fun y hy=>h y (qaA _ hy)
   simp only[qaY,qak,qat]
   omega
theorem zhm{α:Type}{f:Nat->α->Nat}(h:∀x n,n≤f n x):∀(l:List α) (n:Nat),n≤l.foldl f n
 | [],n=>qae _
 | x::l,n=>qaF (h x n) (zhm h l (f n x))
theorem zd1{α:Type}{f:Nat->α->Nat}(h:∀x n,n≤f n x)(l:List α)(n j:Nat):(l.take j).foldl f n≤l.foldl f n:=by
 conv=>rhs;rw[<-qaS j l,qbd]
 exact zhm h _ _
theorem zf3{α:Type}{f g:α->Nat}:∀ {l:List α},(∀x∈l,f x≤g x)->(l.map f).sum≤(l.map g).sum
 | [],_=>by simp
 | x::l,h=>by
   have h1:=h x (qaD ..)
   have h2:=zf3 (l:=l) fun y hy=>h y (qaA _ hy)
   simp only[qak,qat]
   omega
theorem znD{α:Type}{f:α->Nat}:∀ {l:List α},(l.map fun x=>f x+1).sum=(l.map f).sum+l.length
 | []=>by simp
 | x::l=>by
   have h2:=znD (f:=f) (l:=l)
   simp only[qak,qat,qap]
   omega
theorem count_le:∀(m:Nat) (l:List Auto),zaO m l≤(T.sl 1 (l.map zae)).w
 | 0,l=>qaU _
 | m+1,l=>by
   unfold zaO
   have h1:∀a∈l,∀n,a.states.foldl (fun n s=>n+zaO m s.autos) n≤n+(a.states.map fun s=>(staT s).w).sum:=fun a _ n=>zl9 n fun s _ n=>by
    have h2:=count_le m s.autos
    have h3:=zek s
    omega
   refine qaF (zl9 (g:=fun a=>(a.states.map fun s=>(staT s).w).sum) _ h1) ?_
   have h4:∀a∈l,(a.states.map fun s=>(staT s).w).sum+1≤(zae a).w:=fun a _=>by
    have:=zb5 a
    rw[w_sl,qbo]at this
    have e:(T.w ∘ staT)=fun s=>(staT s).w:=rfl
    rw[e]at this
    omega
   have h5:=zf3 h4
   rw[znD]at h5
   rw[w_sl,qbo]
   have e:(T.w ∘ zae)=fun s=>(zae s).w:=rfl
   rw[e]
   omega
theorem zhf(m:Nat)(a:Auto)(n:Nat):n≤a.states.foldl (fun n s=>n+zaO m s.autos) n:=zhm (fun _ _=>by omega) _ _
theorem zea:∀(m:Nat) (l:List Auto),zbP m l≤m
 | 0,l=>qae _
 | m+1,l=>by
   unfold zbP
   have hS:∀(L:List Sta) (d:Nat),d≤m->L.foldl (fun d s=>max d (zbP m s.autos)) d≤m:=by
    intro L
    induction L with
    | nil=>intro d h;exact h
    | cons s L ih=>
      intro d h
      exact ih _ (qcC.2 ⟨h,zea m s.autos⟩)
   have hA:∀(L:List Auto) (n:Nat),n≤m+1->L.foldl (fun n a=>max n (a.states.foldl (fun d s=>max d (zbP m s.autos)) 0+1)) n≤m+1:=by
    intro L
    induction L with
    | nil=>intro d h;exact h
    | cons a L ih=>
      intro n h
      exact ih _ (qcC.2 ⟨h,Nat.succ_le_succ (hS a.states 0 (qaU _))⟩)
   exact hA l 0 (qaU _)
theorem zgT:∀(m:Nat) (l:List Auto),zfZ m l=zbP m l
 | 0,l=>rfl
 | m+1,l=>by
   unfold zfZ zbP
   have hS:∀(L:List Sta) (n d:Nat),L.foldl (fun n s=>max n (1+zfZ m s.autos)) (max n (d+1))=max n (L.foldl (fun d s=>max d (zbP m s.autos)) d+1):=by
    intro L
    induction L with
    | nil=>intro n d;rfl
    | cons s L ih=>
      intro n d
      have h:=zgT m s.autos
      simp only[qaY]
      rw[h,<-ih]
      congr 1
      omega
   congr 1
   funext n a
   exact hS a.states n 0
theorem zoB(m:Nat)(l:List Auto):zaO (m+1) l=0 ↔ l=[]:=by
 constructor
 ·intro h
  unfold zaO at h
  have:=zhm (f:=fun n (a:Auto)=>a.states.foldl (fun n s=>n+zaO m s.autos) n) (fun a n=>zhf m a n) l l.length
  rw[h]at this
  exact List.length_eq_zero_iff.1 (Nat.le_zero.1 this)
 ·intro h;subst h;rfl
theorem zqS(m:Nat)(l:List Auto):zbP (m+1) l=0 ↔ l=[]:=by
 constructor
 ·intro h
  unfold zbP at h
  cases l with
  | nil=>rfl
  | cons x l=>
    have:=zhm (f:=fun n (a:Auto)=>max n (a.states.foldl (fun d s=>max d (zbP m s.autos)) 0+1)) (fun a n=>by omega) l (max 0 (x.states.foldl (fun d s=>max d (zbP m s.autos)) 0+1))
    rw[qaY]at h
    rw[h]at this
    omega
 ·intro h;subst h;rfl
def countP(p:List Nod):Nat:=p.foldl (fun n x=>n+zaO 100000001 x.autos) 0
def zdl(p:List Nod):Nat:=p.foldl (fun n x=>max n (zbP 100000001 x.autos)) 0
theorem countP_eq(p:List Nod):countP p=(p.map fun x=>zaO 100000001 x.autos).sum:=by
 have:∀(l:List Nod) (n:Nat),l.foldl (fun n x=>n+zaO 100000001 x.autos) n=n+(l.map fun x=>zaO 100000001 x.autos).sum:=by
  intro l
  induction l with
  | nil=>intro n;simp
  | cons x l ih=>intro n;simp only[qaY,qak,qat];rw[ih];omega
 unfold countP
 rw[this];omega
theorem znx(p:List Nod):(0<countP p)=(0<zdl p):=by
 have h1:∀(l:List Nod) (n k:Nat),((0<n) ↔ (0<k))->((0<l.foldl (fun n x=>n+zaO 100000001 x.autos) n) ↔ (0<l.foldl (fun n x=>max n (zbP 100000001 x.autos)) k)):=by
  intro l
  induction l with
  | nil=>intro n k h;exact h
  | cons x l ih=>
    intro n k h
    simp only[qaY]
    refine ih _ _ ?_
    have h1:=zoB 100000000 x.autos
    have h2:=zqS 100000000 x.autos
    have h3:zaO 100000001 x.autos=0 ↔ zbP 100000001 x.autos=0:=h1.trans h2.symm
    generalize zaO 100000001 x.autos=u at*
    generalize zbP 100000001 x.autos=w at*
    omega
 exact propext (h1 p 0 0 Iff.rfl)
set_option maxHeartbeats 4000000 in
theorem zgm:∀(m:Nat) (l:List Auto),(T.sl 1 (l.map zae)).w≤100000000->(T.sl 1 (l.map zae)).w≤m->Pure Tryz.prog 40 [.t (.sl 1 (l.map zae))] (.i (zaO m l:Nat))
 | 0,l,_,hm=>by have:=zis (T.sl 1 (l.map zae));omega
 | m+1,l,hl,hm=>by
   have ih:=zgm m
   have hml:(l.map zae).length=l.length:=qaa _
   have hlb:=zai zae 1 l
   have htot:=count_le (m+1) l
   unfold zaO at htot⊢
   obtain⟨fs,hfs⟩:∃fs:Nat->Sta->Nat,fs=fun n s=>n+zaO m s.autos:=⟨_,rfl⟩
   obtain⟨g,hg⟩:∃g:Nat->Auto->Nat,g=fun n x=>x.states.foldl fs n:=⟨_,rfl⟩
   rw[show(fun(n:Nat) (a:Auto)=>a.states.foldl (fun n s=>n+zaO m s.autos) n)=g by rw[hg,hfs]]at htot⊢
   have hge:∀a n,n≤g n a:=fun a n=>by rw[hg,hfs];exact zhf m a n
   refine so Tryz.func40 ?_
   repeat' (first|refine wkt ?_|fail)
   refine TR.zak l.length (fun _=>True) (fun j=>[(3,.i (((l.take j).foldl g l.length:Nat):Int)),(10,.t (.sl 1 (l.map zae))),(11,.i l.length),(12,.i j)]) (fun _=>[]) trivial (fun j hlt _=>?_) (fun _=>?_) ⟨by rw[<-hml];rfl,rfl,by rw[<-hml];rfl,rfl,trivial⟩ rfl
   ·have hx:=zar zae hlt
    rw[zbA]at hx
    have hn:=zas g l.length hlt
    have hup:(l.take (j+1)).foldl g l.length≤l.foldl g l.length:=zd1 hge l _ _
    have hsi:=fun s hs=>zfC (qad hlt) (s:=s) hs
    have hsb:l[j].states.length≤100000000:=by
     exact zwdg
    rw[hn]at hup
    generalize (l.take j).foldl g l.length=acc at*
    have hgx:g acc l[j]=l[j].states.foldl fs acc:=by rw[hg]
    rw[hgx]at hn hup
    clear hgx hge
    generalize l[j]=x at*
    obtain⟨sts⟩:=x
    simp only[Auto.states]at hx hn hup hsi hsb
    have hmc:(sts.map staT).length=sts.length:=qaa _
    repeat' (first|refine wkt ?_|refine zqo ?_|refine zab.exit ?_|exact wkc|intro hc|refine wk2 ?_ ?_|fail)
    refine TR.zak sts.length (fun _=>True) (fun k=>[(3,.i (((sts.take k).foldl fs acc:Nat):Int)),(10,.t (.sl 1 (l.map zae))),(11,.i l.length),(12,.i j),(17,.t (.sl 6 (sts.map staT))),(18,.i sts.length),(19,.i k)]) (fun _=>[]) trivial (fun k hlk _=>?_) (fun _=>?_) ⟨rfl,rfl,rfl,rfl,rfl,by rw[<-hmc];rfl,rfl,trivial⟩ rfl
    ·have hy:=zar staT hlk
     rw[za6]at hy
     have hn2:=zas fs acc hlk
     have hup2:(sts.take (k+1)).foldl fs acc≤sts.foldl fs acc:=zd1 (fun s n=>by rw[hfs];exact qct _ _) sts _ _
     rw[hn2]at hup2
     have hw:=hsi _ (qad hlk)
     generalize (sts.take k).foldl fs acc=acc2 at*
     have hfx:fs acc2 sts[k]=acc2+zaO m sts[k].autos:=by rw[hfs]
     rw[hfx]at hn2 hup2
     have c2:=ih sts[k].autos (by omega) (by omega)
     generalize zaO m sts[k].autos=c at*
     generalize sts[k]=s at*
     repeat' (first|refine wkt ?_|refine zqp ?_|refine wv c2 ?_|refine zqv ?_|refine zab.exit ?_|exact wkc|intro hc|refine wk2 ?_ ?_|refine wk ?_|fail)
     exact zab.zat hlk trivial (by(try dsimp only);rw[hn2,qbB];exact⟨rfl,rfl,rfl,rfl,rfl,rfl,rfl,trivial⟩) rfl
    ·exact zwbm
   ·exact zwdu
theorem zeJ(a b:Nat):((max a b:Nat):Int)=max (a:Int) (b:Int):=by omega
theorem znu(m:Nat)(l:List Sta)(n:Nat)(h:n≤m):l.foldl (fun d s=>max d (zbP m s.autos)) n≤m:=by
 induction l generalizing n with
 | nil=>exact h
 | cons s l ih=>
   exact ih _ (qcC.2 ⟨h,zea m s.autos⟩)
theorem zrC(m:Nat)(l:List Auto)(n:Nat)(h:n≤m+1):l.foldl (fun n a=>max n (a.states.foldl (fun d s=>max d (zbP m s.autos)) 0+1)) n≤m+1:=by
 induction l generalizing n with
 | nil=>exact h
 | cons a l ih=>
   exact ih _ (qcC.2 ⟨h,Nat.succ_le_succ (znu m a.states 0 (qaU _))⟩)
set_option maxHeartbeats 4000000 in
theorem zhE:∀(m:Nat) (l:List Auto),m≤100000001->(T.sl 1 (l.map zae)).w≤100000000->(T.sl 1 (l.map zae)).w≤m->Pure Tryz.prog 42 [.t (.sl 1 (l.map zae))] (.i (zbP m l:Nat))
 | 0,l,_,_,hm=>by have:=zis (T.sl 1 (l.map zae));omega
 | m+1,l,hM,hl,hm=>by
   have ih:=fun l=>zhE m l (by omega)
   have hml:(l.map zae).length=l.length:=qaa _
   have hlb:=zai zae 1 l
   unfold zbP
   obtain⟨fs,hfs⟩:∃fs:Nat->Sta->Nat,fs=fun d s=>max d (zbP m s.autos):=⟨_,rfl⟩
   obtain⟨g,hg⟩:∃g:Nat->Auto->Nat,g=fun n x=>max n (x.states.foldl fs 0+1):=⟨_,rfl⟩
   have hgb:∀j,(l.take j).foldl g 0≤m+1:=fun j=>by rw[hg,hfs];exact zrC m _ 0 (qaU _)
   have hfb:∀L:List Sta,L.foldl fs 0≤m:=fun L=>by rw[hfs];exact znu m L 0 (qaU _)
   rw[show(fun(n:Nat) (a:Auto)=>max n (a.states.foldl (fun d s=>max d (zbP m s.autos)) 0+1))=g by rw[hg,hfs]]
   refine so Tryz.func42 ?_
   repeat' (first|refine wkt ?_|fail)
   refine TR.zak l.length (fun _=>True) (fun j=>[(3,.i (((l.take j).foldl g 0:Nat):Int)),(9,.t (.sl 1 (l.map zae))),(10,.i l.length),(11,.i j)]) (fun _=>[]) trivial (fun j hlt _=>?_) (fun _=>?_) ⟨rfl,rfl,by rw[<-hml];rfl,rfl,trivial⟩ rfl
   ·have hx:=zar zae hlt
    rw[zbA]at hx
    have hn:=zas g 0 hlt
    have hb1:=hgb j
    have hsi:=fun s hs=>zfC (qad hlt) (s:=s) hs
    have hsb:l[j].states.length≤100000000:=by
     exact zwdg
    generalize (l.take j).foldl g 0=acc at*
    have hgx:g acc l[j]=max acc (l[j].states.foldl fs 0+1):=by rw[hg]
    rw[hgx]at hn
    clear hgx hgb
    generalize l[j]=x at*
    obtain⟨sts⟩:=x
    simp only[Auto.states]at hx hn hsi hsb
    have hmc:(sts.map staT).length=sts.length:=qaa _
    repeat' (first|refine wkt ?_|refine zqo ?_|refine zab.exit ?_|exact wkc|intro hc|refine wk2 ?_ ?_|fail)
    refine TR.zak sts.length (fun _=>True) (fun k=>[(3,.i (acc:Int)),(6,.i (((sts.take k).foldl fs 0:Nat):Int)),(9,.t (.sl 1 (l.map zae))),(10,.i l.length),(11,.i j),(16,.t (.sl 6 (sts.map staT))),(17,.i sts.length),(18,.i k)]) (fun _=>[]) trivial (fun k hlk _=>?_) (fun _=>?_) ⟨rfl,rfl,rfl,rfl,rfl,rfl,by rw[<-hmc];rfl,rfl,trivial⟩ rfl
    ·have hy:=zar staT hlk
     rw[za6]at hy
     have hn2:=zas fs 0 hlk
     have hb2:=hfb (sts.take k)
     have hw:=hsi _ (qad hlk)
     generalize (sts.take k).foldl fs 0=acc2 at*
     have hfx:fs acc2 sts[k]=max acc2 (zbP m sts[k].autos):=by rw[hfs]
     rw[hfx]at hn2
     have hc0:=zea m sts[k].autos
     have c2:=ih sts[k].autos (by omega) (by omega)
     generalize zbP m sts[k].autos=c at*
     generalize sts[k]=s at*
     repeat' (first|refine wkt ?_|refine zqp ?_|refine wv c2 ?_|(apply TO.maxi;(iterate 3 exact rfl))|refine zab.exit ?_|exact wkc|intro hc|refine wk2 ?_ ?_|refine wk ?_|fail)
     exact zab.zat hlk trivial (by(try dsimp only);rw[hn2,zeJ];exact⟨rfl,rfl,rfl,rfl,rfl,rfl,rfl,rfl,trivial⟩) rfl
    ·rw[qag]
     have hb3:=hfb sts
     generalize sts.foldl fs 0=d at*
     repeat' (first|refine wkt ?_|refine zqv ?_|(apply TO.maxi;(iterate 3 exact rfl))|refine zab.exit ?_|exact wkc|intro hc|refine wk2 ?_ ?_|refine wk ?_|fail)
     exact zab.zat hlt trivial (by(try dsimp only);rw[hn,zeJ,qbB];exact⟨rfl,rfl,rfl,rfl,trivial⟩) rfl
   ·exact zwdu
theorem zeL(p:List Nod)(j:Nat):(p.take j).foldl (fun n x=>n+zaO 100000001 x.autos) 0≤countP p:=zd1 (fun _ _=>by omega) p _ _
theorem countP_le(p:List Nod):countP p≤(T.sl 8 (p.map nodT)).w:=by
 rw[countP_eq,w_sl,qbo]
 have h:=zf3 (l:=p) (f:=fun x=>zaO 100000001 x.autos) (g:=T.w ∘ nodT) fun x hx=>by
  have h1:=count_le 100000001 x.autos
  have h2:=zej x
  show _≤(nodT x).w
  omega
 omega
theorem zfu{p:Prog}(hw:(T.ag (zay p)).w≤100000000){n:Nod}(h:n∈p.nodes):(T.sl 1 (n.autos.map zae)).w≤100000000:=by
 rw[w_ag]at hw
 simp only[zay,zax,qak,qay,qat,qaK]at hw
 have h1:=zaw (f:=nodT) (sz:=8) h
 have h2:=zej n
 omega
theorem znw{p:Prog}(hw:(T.ag (zay p)).w≤100000000):(T.sl 8 (p.nodes.map nodT)).w≤100000000:=by
 rw[w_ag]at hw
 simp only[zay,zax,qak,qay,qat,qaK]at hw
 omega
set_option maxHeartbeats 4000000 in
theorem zcg (p:Prog) (hw:(T.ag (zay p)).w≤100000000):Pure Tryz.prog 14 [.t (.ag (zay p))] (.i (countP p.nodes:Nat)):=by
 have hm2:(p.nodes.map nodT).length=p.nodes.length:=qaa _
 have hl2:=zai nodT 8 p.nodes
 have hwn:=znw hw
 have hno:∀n∈p.nodes,(T.sl 1 (n.autos.map zae)).w≤100000000:=fun n h=>zfu hw h
 have htot:=countP_le p.nodes
 have htk:=zeL p.nodes
 unfold countP at*
 obtain⟨g,hg⟩:∃g:Nat->Nod->Nat,g=fun n x=>n+zaO 100000001 x.autos:=⟨_,rfl⟩
 rw[<-hg]at htot htk⊢
 unfold zay
 clear hw
 refine so Tryz.func14 ?_
 repeat' (first|refine wkt ?_|fail)
 refine TR.zak p.nodes.length (fun _=>True) (fun j=>[(3,.i (((p.nodes.take j).foldl g 0:Nat):Int)),(7,.t (zax p.nodes)),(8,.i p.nodes.length),(9,.i j)]) (fun _=>[]) trivial (fun j hlt _=>?_) (fun _=>?_) ⟨rfl,rfl,by rw[<-hm2];rfl,rfl,trivial⟩ rfl
 ·have hx:=zdQ hlt
  have hn:=zas g 0 hlt
  have hb1:=htk j
  have hb2:=htk (j+1)
  rw[hn]at hb2
  have hwa:=hno _ (qad hlt)
  generalize (p.nodes.take j).foldl g 0=acc at*
  have hgx:g acc p.nodes[j]=acc+zaO 100000001 p.nodes[j].autos:=by rw[hg]
  rw[hgx]at hn hb2
  have c2:=zgm 100000001 p.nodes[j].autos (by omega) (by omega)
  clear hgx hno
  generalize zaO 100000001 p.nodes[j].autos=c at*
  generalize p.nodes[j]=x at*
  unfold nodC at hx
  repeat' (first|refine wkt ?_|refine zqo ?_|refine wv c2 ?_|refine zqv ?_|refine zab.exit ?_|exact wkc|intro hc|refine wk2 ?_ ?_|refine wk ?_|fail)
  exact zab.zat hlt trivial (by(try dsimp only);rw[hn,qbB];exact⟨rfl,rfl,rfl,rfl,trivial⟩) rfl
 ·exact zwdu
theorem zjB(l:List Nod)(n:Nat)(h:n≤100000001):l.foldl (fun n x=>max n (zbP 100000001 x.autos)) n≤100000001:=by
 induction l generalizing n with
 | nil=>exact h
 | cons x l ih=>
   exact ih _ (qcC.2 ⟨h,zea 100000001 x.autos⟩)
set_option maxHeartbeats 4000000 in
theorem zcB (p:Prog) (hw:(T.ag (zay p)).w≤100000000):Pure Tryz.prog 16 [.t (.ag (zay p))] (.i (zdl p.nodes:Nat)):=by
 have hm2:(p.nodes.map nodT).length=p.nodes.length:=qaa _
 have hl2:=zai nodT 8 p.nodes
 have hwn:=znw hw
 have hno:∀n∈p.nodes,(T.sl 1 (n.autos.map zae)).w≤100000000:=fun n h=>zfu hw h
 have htk:=fun j=>zjB (p.nodes.take j) 0 (by decide)
 unfold zdl at*
 obtain⟨g,hg⟩:∃g:Nat->Nod->Nat,g=fun n x=>max n (zbP 100000001 x.autos):=⟨_,rfl⟩
 rw[<-hg]at htk⊢
 unfold zay
 clear hw
 refine so Tryz.func16 ?_
 repeat' (first|refine wkt ?_|fail)
 refine TR.zak p.nodes.length (fun _=>True) (fun j=>[(3,.i (((p.nodes.take j).foldl g 0:Nat):Int)),(7,.t (zax p.nodes)),(8,.i p.nodes.length),(9,.i j)]) (fun _=>[]) trivial (fun j hlt _=>?_) (fun _=>?_) ⟨rfl,rfl,by rw[<-hm2];rfl,rfl,trivial⟩ rfl
 ·have hx:=zdQ hlt
  have hn:=zas g 0 hlt
  have hb1:=htk j
  have hwa:=hno _ (qad hlt)
  generalize (p.nodes.take j).foldl g 0=acc at*
  have hgx:g acc p.nodes[j]=max acc (zbP 100000001 p.nodes[j].autos):=by rw[hg]
  rw[hgx]at hn
  have hb2:=zea 100000001 p.nodes[j].autos
  have c2:=zhE 100000001 p.nodes[j].autos (by omega) (by omega) (by omega)
  clear hgx hno
  generalize zbP 100000001 p.nodes[j].autos=c at*
  generalize p.nodes[j]=x at*
  unfold nodC at hx
  repeat' (first|refine wkt ?_|refine zqo ?_|refine wv c2 ?_|(apply TO.maxi;(iterate 3 exact rfl))|refine zab.exit ?_|exact wkc|intro hc|refine wk2 ?_ ?_|refine wk ?_|fail)
  exact zab.zat hlt trivial (by(try dsimp only);rw[hn,zeJ];exact⟨rfl,rfl,rfl,rfl,trivial⟩) rfl
 ·exact zwdu
end Go.Proofs.YtpnnpgbaiobbjaaGreatDoor
