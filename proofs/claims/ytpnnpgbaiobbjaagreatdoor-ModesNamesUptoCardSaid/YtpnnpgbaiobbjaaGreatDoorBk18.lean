import Derived.Test.YtpnnpgbaiobbjaaGreatDoorBk17
set_option linter.all false
namespace Go.TL
open Go
section rules
variable {P:Program}{n:Nat}{env:Env}{H:Heap}{K:TK}{all:Array Oper}{rest:List Oper}{tab:Tab}
variable {d:Nat}{ty:TypeId}{pos:String}{aft:Array Edge}{q:Bool}
theorem TR.less{c:Code}(i:Nat){v v':SV}(hi:env.look i=some v)(hl:Le v v')(k:TR P n c ((i,v')::env) H K):TR P n c env H K:=by
 exact zwbd
theorem TO.zvU(x sz:Nat){R:Nat}{e:TypeId}{ops:List Oper}(hx:env.look x=some (.rw R 0))(hH:H[R]?=some (.row e []))
  (k:TO q P n all ops ((x,.t (.sl sz []))::env) H K):TO q P n all ops env H K:=by
 intro φ m a h1 h2 h3 h4
 refine k φ m a h1 h2 ⟨h3.1,fun i v hv=>?_⟩ h4
 by_cases hi:x=i
 ·subst hi
  rw[Env.zan]at hv
  cases hv
  obtain⟨y,y1,y2⟩:=h3.2 x _ hx
  refine⟨y,y1,?_⟩
  cases y2 with
  | rw _ _ _ p hp hxs ho=>
    have hH1:m.H[R]?=some (.row e []):=by rw[h1];exact hH
    obtain⟨ad,cap,rfl,hc1,hc2,hc3,hc4⟩:=(ho 0 (by rw[hH1];rfl)).2 rfl
    cases ad with
    | none=>
      simp only at hc4
      subst hc4
      exact .t _ _ (.nil sz)
    | some a0=>
      obtain⟨rfl,_⟩:=hc4
      exact .t _ _ (.sl sz [] p.b 0 cap (fun _=>undef) (qaK _) (fun i e h=>by simp at h) (fun i j h=>by simp at h) (fun i j h=>by simp at h) (fun i j h=>by simp at h) (fun i e j c h=>by simp at h))
 ·rw[Env.zak _ _ hi]at hv
  exact h3.2 i v hv
theorem TO.less(i:Nat){ops:List Oper}{v v':SV}(hi:env.look i=some v)(hl:Le v v')(k:TO q P n all ops ((i,v')::env) H K):TO q P n all ops env H K:=by
 exact zwbd
theorem TO.shadow{ops:List Oper}{v x:SV}(k:TO q P n all ops ((d,v)::env) H K):TO q P n all ops ((d,v)::(d,x)::env) H K:=by
 intro φ m a h1 h2 h3 h4
 refine k φ m a h1 h2 ⟨h3.1,fun j w hw=>h3.2 j w ?_⟩ h4
 by_cases hj:d=j
 ·subst hj
  rw[Env.zan]at hw⊢;exact hw
 ·rw[Env.zak _ _ hj]at hw
  rw[Env.zak _ _ hj,Env.zak _ _ hj];exact hw
theorem zqW{m:M}(hm:HRel m):Step m ⟨m.A,m.β++[⟨0,0,0⟩],m.H++[.dead],m.w⟩/\HRel ⟨m.A,m.β++[⟨0,0,0⟩],m.H++[.dead],m.w⟩:=by
 have hlen:=hm.len
 have pick:∀(i:Nat) q c,(m.β++[(⟨0,0,0⟩:Place)])[i]?=some q->(m.H++[Blk.dead])[i]?=some c->c.live=true->m.β[i]?=some q/\m.H[i]?=some c:=by
  intro i q c h1 h2 hl
  by_cases hi:i<m.H.length
  ·rw[qau (by rw[hlen];exact hi)]at h1
   rw[qau hi]at h2
   exact⟨h1,h2⟩
  ·rw[qaB (by omega)]at h2
   cases hj:i-m.H.length with
   | zero=>rw[hj]at h2;cases h2;cases hl
   | succ j=>rw[hj]at h2;cases h2
 have own:∀b o,Own ⟨m.A,m.β++[⟨0,0,0⟩],m.H++[.dead],m.w⟩ b o->Own m b o:=by
  rintro b o ⟨i,q,c,h1,h2,h3,h4⟩
  exact⟨i,q,c,(pick i q c h1 h2 h3).1,(pick i q c h1 h2 h3).2,h3,h4⟩
 have s:Step m ⟨m.A,m.β++[⟨0,0,0⟩],m.H++[.dead],m.w⟩:=by
  refine⟨rfl,rfl,rfl,qag _,fun _ _ h=>h,fun _ _ h=>.inl h,fun b o h=>.inl (own b o h),fun _ _ _ _=>rfl,fun _ _ _ _ _=>rfl,fun _ _ _=>rfl,fun _ _ h=>h,fun _ L h=>⟨L,h⟩,fun _ _ _ h=>h,fun i q hq=>⟨q,?_,?_⟩⟩
  ·show(m.β++[_])[i]?=some q
   exact zwfr
  ·show za2 m.H[i]? (m.H++[Blk.dead])[i]? q q
   rw[qau (by rw[<-hlen];exact(qab.1 hq).1)]
   exact za2.refl _ _
 refine⟨s,by simp[hlen],fun i q c h1 h2=>?_,fun i j q r c l hij h1 h2 h3 h4 hc hl=>?_,fun b o h hn=>hm.still b o h (own b o hn),hm.inA,fun i q c h1 h2 hc hq=>hm.inO i q c (pick i q c h1 h2 hc).1 (pick i q c h1 h2 hc).2 hc hq,s.glob hm⟩
 ·cases hlv:c.live with
  | false=>cases c <;> simp[Blk.live]at hlv;trivial
  | true=>exact(hm.blk i q c (pick i q c h1 h2 hlv).1 (pick i q c h1 h2 hlv).2).step hm s (fun o _ _=>⟨rfl,fun _=>rfl⟩) (fun _=>rfl)
 ·exact hm.apart i j q r c l hij (pick i q c h1 h2 hc).1 (pick i q c h1 h2 hc).2 (pick j r l h3 h4 hl).1 (pick j r l h3 h4 hl).2 hc hl
theorem TO.zt1{ops:List Oper}(k:TO false P n all ops env (H++[.dead]) K):TO false P n all ops env H K:=by
 intro φ m a h1 h2 h3 h4
 obtain⟨s,hm'⟩:=zqW h2
 exact TO.ze1 (m':=⟨m.A,m.β++[⟨0,0,0⟩],m.H++[.dead],m.w⟩) s (k φ ⟨m.A,m.β++[⟨0,0,0⟩],m.H++[.dead],m.w⟩ a (by rw[h1]) hm' (h3.step h2 s) (h4.step h2 s))
theorem TO.zug{H1:Heap}{cargs:List SV}{v:SV}{f:Operand}{fid:FuncId}{caps:List SV}{args:Array Operand}{ts:Array TypeId}{vs:List SV}(hs:Sound P fid cargs H fun r H'=>r= .ret v/\H'=H1)(hd:Nat.ble (d+1) n=true)
  (hf:env.val f=some (.fn fid caps))(ha:env.vals args.toList=some vs)(hl:Les (vs++caps) cargs)(k:TO false P n all rest ((d,v)::env) H1 K):
  TO false P n all (⟨some d,.call { callee:=.value f,args:=args,argTypes:=ts },ty,pos,aft,none⟩::rest) env H K:=
 TO.zvn hs hd hf ha hl (fun u H' h=>by obtain⟨h,rfl⟩:=h;cases h;exact k) (fun u H' h=>by cases h.1)
end rules
def zpL(K:TK):TK:=fun e env H=>∃env1:Env,(∀i v,env1.look i=some v->∃u,env.look i=some u/\Le u v)/\K e env1 H
section rules
variable {P:Program}{n:Nat}{env:Env}{H:Heap}{K:TK}
theorem Post.weak{φ:Fm}{m:M}{e:Exit}{a:Act}{w:World}(h:Post φ m n (zpL K) e a w):Post φ m n K e a w:=by
 obtain⟨m2,env2,te,rfl,s,hm,he,hd,hx,env1,hle,hk⟩:=h
 exact⟨m2,env1,te,rfl,s,hm,⟨he.1,fun i v hv=>by
  obtain⟨u,hu,hl⟩:=hle i v hv
  obtain⟨x,x1,x2⟩:=he.2 i u hu
  exact⟨x,x1,hl m2 x x2⟩⟩,hd,hx,hk⟩
theorem TR.weak{c:Code}(h:TR P n c env H (zpL K)):TR P n c env H K:=
 fun φ m a h1 h2 h3 h4=>za9 (h φ m a h1 h2 h3 h4) fun _ _ _ hp=>hp.weak
theorem zpL.done{e:zdR}(h:K e env H):zpL K e env H:=⟨env,fun _ v hv=>⟨v,hv,Le.refl v⟩,h⟩
variable {all:Array Oper}{rest:List Oper}{tab:Tab}{d:Nat}{ty:TypeId}{pos:String}{aft:Array Edge}
theorem TO.zdH{cargs:List SV}{sz m:Nat}{es:List T}{f:Operand}{fid:FuncId}{caps:List SV}{args:Array Operand}{ts:Array TypeId}{vs:List SV}
  (hs:Sound P fid cargs [] fun r H'=>r= .ret (.sl sz es 0)/\H'=[.tail m])(hd:Nat.ble (d+1) n=true)
  (hf:env.val f=some (.fn fid caps))(ha:env.vals args.toList=some vs)(hl:Les (vs++caps) cargs)(hu:unders 0 cargs=true)
  (k:TO false P n all rest ((d,.sl sz es H.length)::env) (H++[.tail m]) K):
  TO false P n all (⟨some d,.call { callee:=.value f,args:=args,argTypes:=ts },ty,pos,aft,none⟩::rest) env H K:=
 TO.zoZ [] hs hd hf ha (by rw[zbs (N:=0) (fun j hj=>by omega) _ hu];exact hl) hu (zeO H) (by simp[SV.ren,names]) (by
  simp only[patch,qaj,qaw,Blk.ren]) k
end rules
section rules
variable {P:Program}{n:Nat}{env:Env}{H:Heap}{K:TK}{tab:Tab}
variable {all:Array Oper}{rest:List Oper}{d:Nat}{ty:TypeId}{pos:String}{aft:Array Edge}
end rules
section rules
variable {P:Program}{all:Array Oper}
def zmg(P:Program)(n:Nat)(all:Array Oper)(full:Env)(G:List Heap):List Oper->List (SV×Bool)->List Heap->Prop
 | [],[],_=>True
 | o::l,(v,false)::t,hs=>(∀H∈G,∀env,TO false P n all [o] (zat full (slotsOf all o)++env) H (NK (putE o.dst v (zat full (slotsOf all o)++env)) H))/\zmg P n all full G l t hs
 | o::l,(v,true)::t,H1::H2::hs=>(∀env,TO false P n all [o] (zat full (slotsOf all o)++env) H1 (NK (putE o.dst v (zat full (slotsOf all o)++env)) H2))/\zmg P n all full G l t (H2::hs)
 | _,_,_=>False
theorem zmg.get{n:Nat}{full:Env}{G:List Heap}:∀ {l:List Oper} {t:List (SV×Bool)} {hs:List Heap},zmg P n all full G l t hs->l.length=t.length/\∀(i:Nat) o v b,l[i]?=some o->t[i]?=some (v,b)->
   (b=false->∀H∈G,∀env,TO false P n all [o] (zat full (slotsOf all o)++env) H (NK (putE o.dst v (zat full (slotsOf all o)++env)) H))/\
   (b=true->∃H1 H2,hs[effs t i]?=some H1/\hs[effs t i+1]?=some H2/\∀env,TO false P n all [o] (zat full (slotsOf all o)++env) H1 (NK (putE o.dst v (zat full (slotsOf all o)++env)) H2))
 | [],[],hs,_=>by simp
 | o::l,(v,false)::t,hs,h=>by
   obtain⟨h1,h2⟩:=h
   obtain⟨g1,g2⟩:=zmg.get h2
   exact zwbf
 | o::l,(v,true)::t,H1::H2::hs,h=>by
   obtain⟨h1,h2⟩:=h
   obtain⟨g1,g2⟩:=zmg.get h2
   exact zwt
 | o::l,(v,true)::t,[],h=>by exact h.elim
 | o::l,(v,true)::t,[_],h=>by exact h.elim
 | [],_::_,_,h=>by exact h.elim
 | _::_,[],_,h=>by exact h.elim
theorem TR.zuV{n:Nat}{env0 envF:Env}{H0 HF:Heap}{K:TK}{id':Nat}{l:List Oper}(t:List (SV×Bool))(hs:List Heap)(hm:P.follows .mixedOrders=true)(hB:mixB l.toArray (t.map (·.2))=true)(h0:hs[0]?=some H0)
  (hp:zmg P n l.toArray (zba l.toArray (t.map (·.1)) env0) hs l t hs)(hF:hs[((t.map (·.2)).filter id).length]?=some HF)(hE:zbv (zba l.toArray (t.map (·.1)) env0)=some envF)(hK:K .normal envF HF):
  TR P n (.region id' l.toArray true) env0 H0 K:=by
 obtain⟨g1,g2⟩:=hp.get
 intro φ m a h1 h2 h3 h4
 have hef:∀i,((t.map (·.2)).take i |>.filter id).length=effs t i:=by
  exact zwfm
 have s0:Step m ⟨m.A,m.β,m.H,{ m.w with drawn:=m.w.drawn+1 }⟩/\HRel ⟨m.A,m.β,m.H,{ m.w with drawn:=m.w.drawn+1 }⟩:=zcO h2 ⟨rfl,rfl,rfl,qag _,fun _ _=>rfl⟩
 refine zbn (wpIn_region_any hm ?_)
 refine zfm [] (G:=fun _=>True) (vs:=t.map (·.1)) (fl:=t.map (·.2)) (hs:=hs) (m0:=m) (fun t ht=>by cases ht) hB (by simp[g1]) (by simp[g1]) ?_ ?_ hF (fun _=>by rw[zaV hE]at hK;exact hK) l.toArray.size (Array.replicate l.toArray.size false)
  ⟨m.A,m.β,m.H,{ m.w with drawn:=m.w.drawn+1 }⟩ a (by simp) ?_ ?_ ?_ s0.1 s0.2 ?_ (h4.step h2 s0.1)
 ·intro i o v ho hv hb c H hcH _ env
  obtain⟨⟨v',b⟩,hx,rfl⟩:∃x,t[i]?=some x/\x.1=v:=by simpa using hv
  have hb':b=false:=by
   exact zwft
  exact((g2 i o v' b (by simpa using ho) hx).1 hb' H (qat hcH) env).nkp trivial
 ·exact zwv
 ·exact zwfv
 ·exact zwct
 ·exact zwch
 ·exact zwh
end rules
end Go.TL
namespace Go.Proofs.YtpnnpgbaiobbjaaGreatDoor
open Go Go.TL
attribute [local irreducible] TR TO Then zap RetK Sound zab Kf GG za3
set_option maxHeartbeats 4000000 in
theorem zgW (a:List Str) (ha:zaw a) (ds:List Decl) (hl:(zad ds).w≤100000000):Sound Tryz.prog 98 [.mp 0,.t (zad ds)] [setB a] (fun r H'=>r= .ret (.tup [])/\H'=[setB (zaE a ds)]):=by
 have hd:=zbu hl
 have hml:(ds.map zaa).length=ds.length:=qaa _
 have hlb:ds.length≤100000000:=by
  exact zwev
 unfold zaE
 obtain⟨f,hf⟩:∃f:List Str->Decl->List Str,f=fun a d=>d.clock.foldl (fun a o=>ins a o.name) (ins a d.name):=⟨_,rfl⟩
 rw[<-hf]
 have hok:=za7 (f:=f) (l:=ds) ha (fun a d hh ha=>by rw[hf];exact zaJ (ha.ins (hd d hh).name) fun a o ho ha=>ha.ins ((hd d hh).ck o ho))
 refine so Tryz.func98 ?_
 repeat' (first|refine wkt ?_|fail)
 refine TR.zal ds.length (fun _=>True) (fun j=>[(0,.mp 0),(8,.t (zad ds)),(9,.i ds.length),(10,.i j)]) (fun j=>[setB ((ds.take j).foldl f a)]) trivial (fun j hlt _=>?_) (fun _=>?_) ⟨rfl,rfl,by rw[<-hml];rfl,rfl,trivial⟩ rfl
 ·have hx:=zao zaa hlt
  have hn:=zam f a hlt
  have hdd:=hd _ (qad hlt)
  have hk:=hok j
  generalize (ds.take j).foldl f a=acc at*
  have hfe:f acc ds[j]=ds[j].clock.foldl (fun a o=>ins a o.name) (ins acc ds[j].name):=by rw[hf]
  rw[hfe]at hn
  have hok2:=za7 (f:=fun a (o:OnC)=>ins a o.name) (l:=ds[j].clock) (hk.ins hdd.name) (fun a o ho ha=>ha.ins (hdd.ck o ho))
  have hnm:=hdd.name
  have hck:=hdd.ck
  have hfew:=hdd.few
  clear hfe hdd
  generalize ds[j]=d at*
  obtain⟨nm,ty,ck⟩:=d
  dsimp only[zaa]at hx hn hok2 hnm hck hfew
  have hmc:(ck.map onT).length=ck.length:=qaa _
  repeat' (first|refine wkt ?_|refine zqq ?_|(apply TO.zee;(iterate 4 exact rfl);exact hk;exact hnm;exact rfl)|refine zab.exit ?_|exact wkc|intro hc|refine wk2 ?_ ?_|fail)
  refine TR.zal ck.length (fun _=>True) (fun k=>[(0,.mp 0),(8,.t (zad ds)),(9,.i ds.length),(10,.i j),(18,.t (.sl 3 (ck.map onT))),(19,.i ck.length),(20,.i k)]) (fun k=>[setB ((ck.take k).foldl (fun a o=>ins a o.name) (ins acc nm))]) trivial (fun k hlk _=>?_) (fun _=>?_) ⟨rfl,rfl,rfl,rfl,rfl,by rw[<-hmc];rfl,rfl,trivial⟩ rfl
  ·have hy:=zao onT hlk
   have hn2:=zam (fun a (o:OnC)=>ins a o.name) (ins acc nm) hlk
   have hk2:=hok2 k
   have hs2:=hck _ (qad hlk)
   generalize (ck.take k).foldl (fun a (o:OnC)=>ins a o.name) (ins acc nm)=acc2 at*
   generalize ck[k]=o at*
   obtain⟨onm,ot,otg⟩:=o
   dsimp only[onT]at hy hs2 hn2
   repeat' (first|refine wkt ?_|refine zqr ?_|(apply TO.zee;(iterate 4 exact rfl);exact hk2;exact hs2;exact rfl)|refine zab.exit ?_|exact wkc|intro hc|refine wk2 ?_ ?_|refine wk ?_|fail)
   exact zwdf
  ·exact zwbn
 ·exact zwco
set_option maxHeartbeats 8000000 in
theorem zg1:∀(m:Nat) (a:List Str) (qs:List Equ) (l:List Auto),zaw a->(T.sl 7 (qs.map equT)).w≤100000000->(T.sl 1 (l.map zae)).w≤100000000->(T.sl 1 (l.map zae)).w≤m->
  Sound Tryz.prog 99 [.mp 0,.t (.sl 7 (qs.map equT)),.t (.sl 1 (l.map zae))] [setB a] (fun r H'=>r= .ret (.tup [])/\H'=[setB (zaT m a qs l)])
 | 0,_,_,l,_,_,_,hm=>by have:=zgA (T.sl 1 (l.map zae));omega
 | m+1,a,qs,l,ha,hq,hl,hm=>by
   have ih:=zg1 m
   have hmq:(qs.map equT).length=qs.length:=qaa _
   have hml:(l.map zae).length=l.length:=qaa _
   have hqb:=zai equT 7 qs
   have hlb:=zai zae 1 l
   have hsh:=zfQ hq
   have hqi:=fun q hh=>(zgU (l:=qs) (q:=q) hh).2.2
   unfold zaT lhsL
   obtain⟨f,hf⟩:∃f:List Str->Equ->List Str,f=fun a q=>q.left.foldl ins a:=⟨_,rfl⟩
   obtain⟨g,hg⟩:∃g:List Str->Auto->List Str,g=fun a x=>x.states.foldl (fun a s=>zaT m (zaE (ins a s.name) s.locals) s.eqs s.autos) a:=⟨_,rfl⟩
   rw[<-hf,<-hg]
   have hok:=za7 (f:=f) (l:=qs) ha (fun a q hh ha=>by rw[hf];exact zaJ ha fun a s hs ha=>ha.ins (hsh q hh s hs))
   have hokS:∀x∈l,∀s∈x.states,∀a,zaw a->zaw (zaT m (zaE (ins a s.name) s.locals) s.eqs s.autos):=fun x hx s hs a ha=>by
    exact zwdg
   have hok1:=hok qs.length
   rw[qae]at hok1
   have hokA:=za7 (f:=g) (l:=l) hok1 (fun a x hx ha=>by rw[hg];exact zaJ ha fun a s hs ha=>hokS x hx s hs a ha)
   refine so Tryz.func99 ?_
   repeat' (first|refine wkt ?_|fail)
   refine TR.zal qs.length (fun _=>True) (fun j=>[(0,.mp 0),(2,.t (.sl 1 (l.map zae))),(14,.t (.sl 7 (qs.map equT))),(15,.i qs.length),(16,.i j)]) (fun j=>[setB ((qs.take j).foldl f a)]) trivial (fun j hlt _=>?_) (fun _=>?_) ⟨rfl,rfl,rfl,by rw[<-hmq];rfl,rfl,trivial⟩ rfl
   ·have hx:(qs.map equT)[j]?=some (.ag [T.sl 1 (qs[j].left.map T.s),T.n qs[j].right.kind,T.n qs[j].right.op,T.n qs[j].right.t,T.n qs[j].right.v,T.s qs[j].right.name,T.sl 6 (qs[j].right.args.map exT)]):=zao equT hlt
    have hn:=zam f a hlt
    have hk:=hok j
    have hss:=hsh _ (qad hlt)
    have hlen:=hqi _ (qad hlt)
    generalize (qs.take j).foldl f a=acc at*
    have hfe:f acc qs[j]=qs[j].left.foldl ins acc:=by rw[hf]
    rw[hfe]at hn
    have hok2:=za7 (f:=ins) (l:=qs[j].left) hk (fun a s hs ha=>ha.ins (hss s hs))
    have hmc:(qs[j].left.map T.s).length=qs[j].left.length:=qaa _
    clear hfe ih hokA hokS hok
    generalize qs[j]=q at*
    repeat' (first|refine wkt ?_|refine zqq ?_|refine zab.exit ?_|exact wkc|intro hc|refine wk2 ?_ ?_|fail)
    refine TR.zal q.left.length (fun _=>True) (fun k=>[(0,.mp 0),(2,.t (.sl 1 (l.map zae))),(14,.t (.sl 7 (qs.map equT))),(15,.i qs.length),(16,.i j),(21,.t (.sl 1 (q.left.map T.s))),(22,.i q.left.length),(23,.i k)]) (fun k=>[setB ((q.left.take k).foldl ins acc)]) trivial (fun k hlk _=>?_) (fun _=>?_) ⟨rfl,rfl,rfl,rfl,rfl,rfl,by rw[<-hmc];rfl,rfl,trivial⟩ rfl
    ·have hy:=zao T.s hlk
     have hn2:=zam ins acc hlk
     have hk2:=hok2 k
     have hs2:=hss _ (qad hlk)
     generalize (q.left.take k).foldl ins acc=acc2 at*
     generalize q.left[k]=s at*
     repeat' (first|refine wkt ?_|refine zqr ?_|(apply TO.zee;(iterate 4 exact rfl);exact hk2;exact hs2;exact rfl)|refine zab.exit ?_|exact wkc|intro hc|refine wk2 ?_ ?_|refine wk ?_|fail)
     exact zwdd
    ·exact zwbl
   rw[qae]
   clear hok hqi hsh
   generalize qs.foldl f a=a1 at*
   repeat' (first|refine wkt ?_|refine zab.exit ?_|exact wkc|intro hc|refine wk2 ?_ ?_|fail)
   refine TR.zal l.length (fun _=>True) (fun j=>[(0,.mp 0),(31,.t (.sl 1 (l.map zae))),(32,.i l.length),(33,.i j)]) (fun j=>[setB ((l.take j).foldl g a1)]) trivial (fun j hlt _=>?_) (fun _=>?_) ⟨rfl,rfl,by rw[<-hml];rfl,rfl,trivial⟩ rfl
   ·have hx:=zao zae hlt
    rw[zbQ]at hx
    have hn:=zam g a1 hlt
    have hk:=hokA j
    have hoS:=hokS _ (qad hlt)
    have hsi:=fun s hs=>zef (qad hlt) (s:=s) hs
    have hsb:l[j].states.length≤100000000:=by
     exact zwdk
    generalize (l.take j).foldl g a1=acc at*
    have hge:g acc l[j]=l[j].states.foldl (fun a s=>zaT m (zaE (ins a s.name) s.locals) s.eqs s.autos) acc:=by rw[hg]
    rw[hge]at hn
    have hok2:=za7 (f:=fun a (s:Sta)=>zaT m (zaE (ins a s.name) s.locals) s.eqs s.autos) (l:=l[j].states) hk (fun a s hs ha=>hoS s hs a ha)
    clear hge hokA hokS
    generalize l[j]=x at*
    obtain⟨sts⟩:=x
    simp only[Auto.states]at hx hn hoS hsi hok2 hsb
    have hmc:(sts.map staT).length=sts.length:=qaa _
    repeat' (first|refine wkt ?_|refine zqq ?_|refine zab.exit ?_|exact wkc|intro hc|refine wk2 ?_ ?_|fail)
    refine TR.zal sts.length (fun _=>True) (fun k=>[(0,.mp 0),(31,.t (.sl 1 (l.map zae))),(32,.i l.length),(33,.i j),(38,.t (.sl 6 (sts.map staT))),(39,.i sts.length),(40,.i k)]) (fun k=>[setB ((sts.take k).foldl (fun a s=>zaT m (zaE (ins a s.name) s.locals) s.eqs s.autos) acc)]) trivial (fun k hlk _=>?_) (fun _=>?_) ⟨rfl,rfl,rfl,rfl,rfl,by rw[<-hmc];rfl,rfl,trivial⟩ rfl
    ·have hy:=zao staT hlk
     rw[za8]at hy
     have hn2:=zam (fun a (s:Sta)=>zaT m (zaE (ins a s.name) s.locals) s.eqs s.autos) acc hlk
     have hk2:=hok2 k
     have hw:=hsi _ (qad hlk)
     generalize (sts.take k).foldl (fun a (s:Sta)=>zaT m (zaE (ins a s.name) s.locals) s.eqs s.autos) acc=acc2 at*
     have hs2:zdc sts[k].name:=by show _≤_;omega
     have c1:=zgW (ins acc2 sts[k].name) (hk2.ins hs2) sts[k].locals (by omega)
     have c2:=ih (zaE (ins acc2 sts[k].name) sts[k].locals) sts[k].eqs sts[k].autos (zcp (hk2.ins hs2) (zbu (by omega))) (by omega) (by omega) (by omega)
     generalize zaT m (zaE (ins acc2 sts[k].name) sts[k].locals) sts[k].eqs sts[k].autos=a3 at*
     generalize sts[k]=s at*
     repeat' (first|refine wkt ?_|refine zqr ?_|(apply TO.zee;(iterate 4 exact rfl);exact hk2;exact hs2;exact rfl)|(apply TO.zaD 1 c1;(iterate 3 exact rfl);exact Les.refl _;(iterate 8 exact rfl))|(apply TO.zaD 1 c2;(iterate 3 exact rfl);exact Les.refl _;(iterate 8 exact rfl))|refine zab.exit ?_|exact wkc|intro hc|refine wk2 ?_ ?_|refine wk ?_|fail)
     exact zwdf
    ·exact zwbn
   ·exact zwco
abbrev zE:List T:=[.v (.int .i64 0),.v (.int .i64 0),.v (.int .i64 0),.v (.int .i64 0),.v (str []),.v (.slice none 0 0)]
theorem zvq(e:Ex):(exT e).cells.length=6:=by rw[zay];rfl
theorem zm2(c:Nat)(h1:1≤c)(h2:c≤3000000000):Sound Tryz.prog 232 [.t (.v (.slice none 0 0)),.i c] [] (fun r H'=>r= .ret (.ms 6 0 0 0)/\H'=[.cells (zaU zE c)]):=by
 refine so Tryz.func232 ?_
 repeat' (first|refine wk ?_|exact wkc|intro hc|refine wk2 ?_ ?_|(apply TO.zga zag;(iterate 4 exact rfl))|(apply TO.ziA zag;(iterate 6 exact rfl))|(apply TO.zek zag (c:=c) (ik':=.i64);(iterate 6 exact rfl);kernel_rfl;exact rfl;exact rfl;omega;omega;exact rfl)|(apply TO.ziz zag;(iterate 6 exact rfl))|fail)
 exact zwff
theorem zlm:Pure Tryz.prog 232 [.t (.v (.slice none 0 0)),.i 0] (.t (.v (.slice none 0 0))):=by
 refine so Tryz.func232 ?_
 repeat' (first|refine wk ?_|exact wkc|intro hc|refine wk2 ?_ ?_|(apply TO.zga zag;(iterate 4 exact rfl))|fail)
 exact wkr
abbrev lsE (l:List Ex):T:=.sl 6 (l.map exT)
def csE(l:List Ex):List T:=((l.map exT).map T.cells).flatten
theorem zmA(l:List Ex):(csE l).length=l.length*6:=by
 have:=(zcd (sz:=6) (l.map exT) (fun e he=>by obtain⟨d,_,rfl⟩:=qa2.1 he;exact zvq d)).1
 rw[qaa]at this
 exact this
theorem zo7(a b:List Ex):csE (a++b)=csE a++csE b:=by simp[csE]
theorem atE{ls:List (List Ex)}{k:Nat}(h:k<ls.length):(ls.map lsE)[k]?=some (lsE ls[k]):=by simp[h]
theorem zjV(ls:List (List Ex))(hl:ls.length≤1000000)(hn:ls.flatten.length≤3000000000):
  Pure Tryz.prog 155 [.t (.sl 1 (ls.map lsE))] (.t (lsE ls.flatten)):=by
 have hml:(ls.map lsE).length=ls.length:=qaa _
 refine so Tryz.func155 ?_
 repeat' (first|refine wk ?_|exact wkc|intro hc|refine wk2 ?_ ?_|fail)
 refine TR.zal ls.length (fun _=>True) (fun k=>[(0,.t (.sl 1 (ls.map lsE))),(3,.i ((ls.take k).flatten.length:Nat)),(9,.t (.sl 1 (ls.map lsE))),(10,.i ls.length),(11,.i k)]) (fun _=>[]) trivial (fun k hlt _=>?_) (fun _=>?_) ⟨rfl,rfl,rfl,by rw[<-hml];rfl,rfl,trivial⟩
 ·obtain⟨f1,f2⟩:=zgb hlt
  have hx:=atE hlt
  have hm2:(ls[k].map exT).length=ls[k].length:=qaa _
  exact zwbr
 ·rw[qae]
  by_cases h0:ls.flatten=[]
  ·rw[h0]
   have hg:=zlm
   repeat' (first|refine wk ?_|exact wkc|intro hc|refine wk2 ?_ ?_|refine wv hg ?_|fail)
   refine TR.zal ls.length (fun _=>True) (fun k=>[(6,.t (.v (.slice none 0 0))),(25,.t (.sl 1 (ls.map lsE))),(26,.i ls.length),(27,.i k)]) (fun k=>[]) trivial (fun k hlt _=>?_) (fun _=>?_) ⟨rfl,rfl,by rw[<-hml];rfl,rfl,trivial⟩ rfl
   ·have hx:=atE hlt
    exact zwbb
   ·repeat' (first|refine wu ?_|exact wkc|intro hc|refine wk2 ?_ ?_|fail)
    exact wkr
  ·have h1:1≤ls.flatten.length:=qcg.2 h0
   repeat' (first|refine wk ?_|exact wkc|intro hc|refine wk2 ?_ ?_|(apply TO.zkX (tl:=(List.replicate ls.flatten.length zE).flatten) (zm2 ls.flatten.length h1 hn);(iterate 3 exact rfl);exact Les.refl _;exact rfl)|fail)
   refine TR.zal ls.length (fun _=>True) (fun k=>[(6,.ms 6 0 0 (ls.take k).flatten.length),(25,.t (.sl 1 (ls.map lsE))),(26,.i ls.length),(27,.i k)]) (fun k=>[.cells (mixC (csE (ls.take k).flatten) zE (ls.flatten.length-(ls.take k).flatten.length))]) trivial (fun k hlt _=>?_) (fun _=>?_) ⟨rfl,rfl,by rw[<-hml];rfl,rfl,trivial⟩
   ·obtain⟨f1,f2⟩:=zgb hlt
    have f3:=zp2 hlt
    have hx:=atE hlt
    have hm2:(ls[k].map exT).length=ls[k].length:=qaa _
    have hfit:0+((ls.take k).flatten.length+(ls[k].map exT).length)*6≤(mixC (csE (ls.take k).flatten) zE (ls.flatten.length-(ls.take k).flatten.length)).length:=by
     rw[zhq,zmA,hm2]
     show _≤_+_*6
     omega
    have hsp:[Blk.cells (mixC (csE (ls.take k).flatten) zE (ls.flatten.length-(ls.take k).flatten.length))].set 0 (.cells (splice (mixC (csE (ls.take k).flatten) zE (ls.flatten.length-(ls.take k).flatten.length)) (0+(ls.take k).flatten.length*6) ((((ls[k].map exT).map T.cells).flatten).map .t)))=
      [Blk.cells (mixC (csE (ls.take (k+1)).flatten) zE (ls.flatten.length-(ls.take (k+1)).flatten.length))]:=by
     have e:=zcx (csE (ls.take k).flatten) (csE ls[k]) zE (ls.flatten.length-(ls.take k).flatten.length) ls[k].length (0+(ls.take k).flatten.length*6) (by omega) (by rw[zmA];omega) (zmA _)
     refine congrArg (fun c=>[Blk.cells c]) (e.trans ?_)
     rw[f3,zo7,qaf]
     congr 1
     omega
    exact zwq
   ·rw[qae,qbz,zeD]
    repeat' (first|refine zab.exit ?_|fail)
    refine TR.freeze 6 6 0 ls.flatten.length (es:=ls.flatten.map exT) rfl rfl rfl (qaa _).symm (fun e he=>by obtain⟨d,_,rfl⟩:=qa2.1 he;exact zvq d) rfl rfl ?_
    repeat' (first|refine wu ?_|exact wkc|intro hc|refine wk2 ?_ ?_|fail)
    exact wkr
abbrev zQ:List T:=[.v (.int .i64 0),.v (.int .i64 0),.v (.int .i64 0),.v (.int .i64 0),.v (str []),.v (.slice none 0 0),.v (.int .i64 0),.v (.bool false)]
theorem zvr(t:Tran):(zah t).cells.length=8:=rfl
theorem zm3(c:Nat)(h1:1≤c)(h2:c≤3000000000):Sound Tryz.prog 283 [.t (.v (.slice none 0 0)),.i c] [] (fun r H'=>r= .ret (.ms 8 0 0 0)/\H'=[.cells (zaU zQ c)]):=by
 refine so Tryz.func283 ?_
 repeat' (first|refine wk ?_|exact wkc|intro hc|refine wk2 ?_ ?_|(apply TO.zga zag;(iterate 4 exact rfl))|(apply TO.ziA zag;(iterate 6 exact rfl))|(apply TO.zek zag (c:=c) (ik':=.i64);(iterate 6 exact rfl);kernel_rfl;exact rfl;exact rfl;omega;omega;exact rfl)|(apply TO.ziz zag;(iterate 6 exact rfl))|fail)
 exact zwff
theorem zln:Pure Tryz.prog 283 [.t (.v (.slice none 0 0)),.i 0] (.t (.v (.slice none 0 0))):=by
 refine so Tryz.func283 ?_
 repeat' (first|refine wk ?_|exact wkc|intro hc|refine wk2 ?_ ?_|(apply TO.zga zag;(iterate 4 exact rfl))|fail)
 exact wkr
abbrev lsQ (l:List Tran):T:=.sl 8 (l.map zah)
def csQ(l:List Tran):List T:=((l.map zah).map T.cells).flatten
theorem zmB(l:List Tran):(csQ l).length=l.length*8:=by
 have:=(zcd (sz:=8) (l.map zah) (fun e he=>by obtain⟨d,_,rfl⟩:=qa2.1 he;exact zvr d)).1
 rw[qaa]at this
 exact this
theorem zo8(a b:List Tran):csQ (a++b)=csQ a++csQ b:=by simp[csQ]
theorem atQ{ls:List (List Tran)}{k:Nat}(h:k<ls.length):(ls.map lsQ)[k]?=some (lsQ ls[k]):=by simp[h]
theorem zjW(ls:List (List Tran))(hl:ls.length≤1000000)(hn:ls.flatten.length≤3000000000):
  Pure Tryz.prog 231 [.t (.sl 1 (ls.map lsQ))] (.t (lsQ ls.flatten)):=by
 have hml:(ls.map lsQ).length=ls.length:=qaa _
 refine so Tryz.func231 ?_
 repeat' (first|refine wk ?_|exact wkc|intro hc|refine wk2 ?_ ?_|fail)
 refine TR.zal ls.length (fun _=>True) (fun k=>[(0,.t (.sl 1 (ls.map lsQ))),(3,.i ((ls.take k).flatten.length:Nat)),(9,.t (.sl 1 (ls.map lsQ))),(10,.i ls.length),(11,.i k)]) (fun _=>[]) trivial (fun k hlt _=>?_) (fun _=>?_) ⟨rfl,rfl,rfl,by rw[<-hml];rfl,rfl,trivial⟩
 ·obtain⟨f1,f2⟩:=zgb hlt
  have hx:=atQ hlt
  have hm2:(ls[k].map zah).length=ls[k].length:=qaa _
  exact zwbr
 ·rw[qae]
  by_cases h0:ls.flatten=[]
  ·rw[h0]
   have hg:=zln
   repeat' (first|refine wk ?_|exact wkc|intro hc|refine wk2 ?_ ?_|refine wv hg ?_|fail)
   refine TR.zal ls.length (fun _=>True) (fun k=>[(6,.t (.v (.slice none 0 0))),(25,.t (.sl 1 (ls.map lsQ))),(26,.i ls.length),(27,.i k)]) (fun k=>[]) trivial (fun k hlt _=>?_) (fun _=>?_) ⟨rfl,rfl,by rw[<-hml];rfl,rfl,trivial⟩ rfl
   ·have hx:=atQ hlt
    exact zwbb
   ·repeat' (first|refine wu ?_|exact wkc|intro hc|refine wk2 ?_ ?_|fail)
    exact wkr
  ·have h1:1≤ls.flatten.length:=qcg.2 h0
   repeat' (first|refine wk ?_|exact wkc|intro hc|refine wk2 ?_ ?_|(apply TO.zkX (tl:=(List.replicate ls.flatten.length zQ).flatten) (zm3 ls.flatten.length h1 hn);(iterate 3 exact rfl);exact Les.refl _;exact rfl)|fail)
   refine TR.zal ls.length (fun _=>True) (fun k=>[(6,.ms 8 0 0 (ls.take k).flatten.length),(25,.t (.sl 1 (ls.map lsQ))),(26,.i ls.length),(27,.i k)]) (fun k=>[.cells (mixC (csQ (ls.take k).flatten) zQ (ls.flatten.length-(ls.take k).flatten.length))]) trivial (fun k hlt _=>?_) (fun _=>?_) ⟨rfl,rfl,by rw[<-hml];rfl,rfl,trivial⟩
   ·obtain⟨f1,f2⟩:=zgb hlt
    have f3:=zp2 hlt
    have hx:=atQ hlt
    have hm2:(ls[k].map zah).length=ls[k].length:=qaa _
    have hfit:0+((ls.take k).flatten.length+(ls[k].map zah).length)*8≤(mixC (csQ (ls.take k).flatten) zQ (ls.flatten.length-(ls.take k).flatten.length)).length:=by
     rw[zhq,zmB,hm2]
     show _≤_+_*8
     omega
    have hsp:[Blk.cells (mixC (csQ (ls.take k).flatten) zQ (ls.flatten.length-(ls.take k).flatten.length))].set 0 (.cells (splice (mixC (csQ (ls.take k).flatten) zQ (ls.flatten.length-(ls.take k).flatten.length)) (0+(ls.take k).flatten.length*8) ((((ls[k].map zah).map T.cells).flatten).map .t)))=
      [Blk.cells (mixC (csQ (ls.take (k+1)).flatten) zQ (ls.flatten.length-(ls.take (k+1)).flatten.length))]:=by
     have e:=zcx (csQ (ls.take k).flatten) (csQ ls[k]) zQ (ls.flatten.length-(ls.take k).flatten.length) ls[k].length (0+(ls.take k).flatten.length*8) (by omega) (by rw[zmB];omega) (zmB _)
     refine congrArg (fun c=>[Blk.cells c]) (e.trans ?_)
     rw[f3,zo8,qaf]
     congr 1
     omega
    exact zwq
   ·rw[qae,qbz,zeD]
    repeat' (first|refine zab.exit ?_|fail)
    refine TR.freeze 6 8 0 ls.flatten.length (es:=ls.flatten.map zah) rfl rfl rfl (qaa _).symm (fun e he=>by obtain⟨d,_,rfl⟩:=qa2.1 he;exact zvr d) rfl rfl ?_
    repeat' (first|refine wu ?_|exact wkc|intro hc|refine wk2 ?_ ?_|fail)
    exact wkr
end Go.Proofs.YtpnnpgbaiobbjaaGreatDoor
