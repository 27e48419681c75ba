import Derived.Test.YtpnnpgbaiobbjaaGreatDoorPz
import Derived.Shelf.LaysM
import Derived.KernelRfl
import Derived.Test.YtpnnpgbaiobbjaaGreatDoorProg
import Derived.Shelf.Strings.OnBuilder
import Derived.Shelf.Strings.Repeat
import Derived.Shelf.Strconv.Itoa3
import Derived.Shelf.SlSorted.Search
import Derived.Test.YtpnnpgbaiobbjaaGreatDoorPk5
import Derived.Test.YtpnnpgbaiobbjaaGreatDoorPk10
import Derived.Test.YtpnnpgbaiobbjaaGreatDoorPk11
import Derived.Test.YtpnnpgbaiobbjaaGreatDoorPk12
import Derived.Test.YtpnnpgbaiobbjaaGreatDoorPk13
import Derived.Test.YtpnnpgbaiobbjaaGreatDoorPk14
import Derived.Test.YtpnnpgbaiobbjaaGreatDoorPk15
import Derived.Test.YtpnnpgbaiobbjaaGreatDoorPk16
import Derived.Test.YtpnnpgbaiobbjaaGreatDoorPk19
import Derived.Test.YtpnnpgbaiobbjaaGreatDoorPk20
set_option linter.unusedSimpArgs false
set_option linter.unusedVariables false
namespace Go.TL
open Go
section rules
variable {P:Program}{n:Nat}{env:Env}{H:Heap}{K:TK}{all:Array Oper}{rest:List Oper}{tab:Tab}
variable {d:Nat}{ty:TypeId}{pos:String}{aft:Array Edge}{q:Bool}
theorem TR.less{c:Code}(i:Nat){v v':SV}(hi:env.look i=some v)(hl:Le v v')(k:TR P n c ((i,v')::env) H K):TR P n c env H K:=by
 exact zwba
theorem TO.zuf(x sz:Nat){R:Nat}{e:TypeId}{ops:List Oper}(hx:env.look x=some (.rw R 0))(hH:H[R]?=some (.row e []))
  (k:TO q P n all ops ((x,.t (.sl sz []))::env) H K):TO q P n all ops env H K:=by
 intro φ m a h1 h2 h3 h4
 refine k φ m a h1 h2 ⟨h3.1,fun i v hv=>?_⟩ h4
 by_cases hi:x=i
 ·subst hi
  rw[Env.zal]at hv
  cases hv
  obtain⟨y,y1,y2⟩:=h3.2 x _ hx
  refine⟨y,y1,?_⟩
  cases y2 with
  | rw _ _ _ p hp hxs ho=>
    have hH1:m.H[R]?=some (.row e []):=by rw[h1];exact hH
    obtain⟨ad,cap,rfl,hc1,hc2,hc3,hc4⟩:=(ho 0 (by rw[hH1];rfl)).2 rfl
    cases ad with
    | none=>
      simp only at hc4
      subst hc4
      exact .t _ _ (.nil sz)
    | some a0=>
      obtain⟨rfl,_⟩:=hc4
      exact .t _ _ (.sl sz [] p.b 0 cap (fun _=>undef) (qaU _) (fun i e h=>by simp at h) (fun i j h=>by simp at h) (fun i j h=>by simp at h) (fun i j h=>by simp at h) (fun i e j c h=>by simp at h))
 ·rw[Env.zaj _ _ hi]at hv
  exact h3.2 i v hv
theorem TO.less(i:Nat){ops:List Oper}{v v':SV}(hi:env.look i=some v)(hl:Le v v')(k:TO q P n all ops ((i,v')::env) H K):TO q P n all ops env H K:=by
 exact zwba
theorem TO.shadow{ops:List Oper}{v x:SV}(k:TO q P n all ops ((d,v)::env) H K):TO q P n all ops ((d,v)::(d,x)::env) H K:=by
 intro φ m a h1 h2 h3 h4
 refine k φ m a h1 h2 ⟨h3.1,fun j w hw=>h3.2 j w ?_⟩ h4
 by_cases hj:d=j
 ·subst hj
  rw[Env.zal]at hw⊢;exact hw
 ·rw[Env.zaj _ _ hj]at hw
  rw[Env.zaj _ _ hj,Env.zaj _ _ hj];exact hw
theorem zpn{m:M}(hm:HRel m):Step m ⟨m.A,m.β++[⟨0,0,0⟩],m.H++[.dead],m.w⟩/\HRel ⟨m.A,m.β++[⟨0,0,0⟩],m.H++[.dead],m.w⟩:=by
 have hlen:=hm.len
 have pick:∀(i:Nat) q c,(m.β++[(⟨0,0,0⟩:Place)])[i]?=some q->(m.H++[Blk.dead])[i]?=some c->c.live=true->m.β[i]?=some q/\m.H[i]?=some c:=by
  intro i q c h1 h2 hl
  by_cases hi:i<m.H.length
  ·rw[qao (by rw[hlen];exact hi)]at h1
   rw[qao hi]at h2
   exact⟨h1,h2⟩
  ·rw[qax (by omega)]at h2
   cases hj:i-m.H.length with
   | zero=>rw[hj]at h2;cases h2;cases hl
   | succ j=>rw[hj]at h2;cases h2
 have own:∀b o,Own ⟨m.A,m.β++[⟨0,0,0⟩],m.H++[.dead],m.w⟩ b o->Own m b o:=by
  rintro b o ⟨i,q,c,h1,h2,h3,h4⟩
  exact⟨i,q,c,(pick i q c h1 h2 h3).1,(pick i q c h1 h2 h3).2,h3,h4⟩
 have s:Step m ⟨m.A,m.β++[⟨0,0,0⟩],m.H++[.dead],m.w⟩:=by
  refine⟨rfl,rfl,rfl,qae _,fun _ _ h=>h,fun _ _ h=>.inl h,fun b o h=>.inl (own b o h),fun _ _ _ _=>rfl,fun _ _ _ _ _=>rfl,fun _ _ _=>rfl,fun _ _ h=>h,fun _ L h=>⟨L,h⟩,fun _ _ _ h=>h,fun i q hq=>⟨q,?_,?_⟩⟩
  ·show(m.β++[_])[i]?=some q
   exact zwfh
  ·show zaU m.H[i]? (m.H++[Blk.dead])[i]? q q
   rw[qao (by rw[<-hlen];exact(qab.1 hq).1)]
   exact zaU.refl _ _
 refine⟨s,by simp[hlen],fun i q c h1 h2=>?_,fun i j q r c l hij h1 h2 h3 h4 hc hl=>?_,fun b o h hn=>hm.still b o h (own b o hn),hm.inA,fun i q c h1 h2 hc hq=>hm.inO i q c (pick i q c h1 h2 hc).1 (pick i q c h1 h2 hc).2 hc hq,s.glob hm⟩
 ·cases hlv:c.live with
  | false=>cases c <;> simp[Blk.live]at hlv;trivial
  | true=>exact(hm.blk i q c (pick i q c h1 h2 hlv).1 (pick i q c h1 h2 hlv).2).step hm s (fun o _ _=>⟨rfl,fun _=>rfl⟩) (fun _=>rfl)
 ·exact hm.apart i j q r c l hij (pick i q c h1 h2 hc).1 (pick i q c h1 h2 hc).2 (pick j r l h3 h4 hl).1 (pick j r l h3 h4 hl).2 hc hl
theorem TO.zsy{ops:List Oper}(k:TO false P n all ops env (H++[.dead]) K):TO false P n all ops env H K:=by
 intro φ m a h1 h2 h3 h4
 obtain⟨s,hm'⟩:=zpn h2
 exact TO.zee (m':=⟨m.A,m.β++[⟨0,0,0⟩],m.H++[.dead],m.w⟩) s (k φ ⟨m.A,m.β++[⟨0,0,0⟩],m.H++[.dead],m.w⟩ a (by rw[h1]) hm' (h3.step h2 s) (h4.step h2 s))
theorem TO.zsM{H1:Heap}{cargs:List SV}{v:SV}{f:Operand}{fid:FuncId}{caps:List SV}{args:Array Operand}{ts:Array TypeId}{vs:List SV}(hs:Sound P fid cargs H fun r H'=>r= .ret v/\H'=H1)(hd:Nat.ble (d+1) n=true)
  (hf:env.val f=some (.fn fid caps))(ha:env.vals args.toList=some vs)(hl:Les (vs++caps) cargs)(k:TO false P n all rest ((d,v)::env) H1 K):
  TO false P n all (⟨some d,.call { callee:=.value f,args:=args,argTypes:=ts },ty,pos,aft,none⟩::rest) env H K:=
 TO.ztL hs hd hf ha hl (fun u H' h=>by obtain⟨h,rfl⟩:=h;cases h;exact k) (fun u H' h=>by cases h.1)
end rules
def zfK(K:TK):TK:=fun e env H=>∃env1:Env,(∀i v,env1.look i=some v->∃u,env.look i=some u/\Le u v)/\K e env1 H
section rules
variable {P:Program}{n:Nat}{env:Env}{H:Heap}{K:TK}
theorem Post.weak{φ:Fm}{m:M}{e:Exit}{a:Act}{w:World}(h:Post φ m n (zfK K) e a w):Post φ m n K e a w:=by
 obtain⟨m2,env2,te,rfl,s,hm,he,hd,hx,env1,hle,hk⟩:=h
 exact⟨m2,env1,te,rfl,s,hm,⟨he.1,fun i v hv=>by
  obtain⟨u,hu,hl⟩:=hle i v hv
  obtain⟨x,x1,x2⟩:=he.2 i u hu
  exact⟨x,x1,hl m2 x x2⟩⟩,hd,hx,hk⟩
theorem TR.weak{c:Code}(h:TR P n c env H (zfK K)):TR P n c env H K:=
 fun φ m a h1 h2 h3 h4=>zaY (h φ m a h1 h2 h3 h4) fun _ _ _ hp=>hp.weak
theorem zfK.done{e:zcL}(h:K e env H):zfK K e env H:=⟨env,fun _ v hv=>⟨v,hv,Le.refl v⟩,h⟩
theorem zfK.own{e:zcL}(i:Nat){sz id:Nat}{es:List T}(hi:env.look i=some (.sl sz es id))(h:K e ((i,.t (.sl sz es))::env) H):zfK K e env H:=by
 refine⟨_,fun j v hv=>?_,h⟩
 by_cases hj:i=j
 ·subst hj
  rw[Env.zal]at hv
  cases hv
  exact⟨_,hi,Le.own _ _ _⟩
 ·rw[Env.zaj _ _ hj]at hv
  exact⟨v,hv,Le.refl v⟩
theorem zfK.ret(h:K .ret env H):zfK K .ret env H:=zfK.done h
theorem zfK.exit{i:Nat}(h:K (.exit i) env H):zfK K (.exit i) env H:=zfK.done h
variable {all:Array Oper}{rest:List Oper}{tab:Tab}{d:Nat}{ty:TypeId}{pos:String}{aft:Array Edge}
theorem TO.zdg{cargs:List SV}{sz m:Nat}{es:List T}{f:Operand}{fid:FuncId}{caps:List SV}{args:Array Operand}{ts:Array TypeId}{vs:List SV}
  (hs:Sound P fid cargs [] fun r H'=>r= .ret (.sl sz es 0)/\H'=[.tail m])(hd:Nat.ble (d+1) n=true)
  (hf:env.val f=some (.fn fid caps))(ha:env.vals args.toList=some vs)(hl:Les (vs++caps) cargs)(hu:unders 0 cargs=true)
  (k:TO false P n all rest ((d,.sl sz es H.length)::env) (H++[.tail m]) K):
  TO false P n all (⟨some d,.call { callee:=.value f,args:=args,argTypes:=ts },ty,pos,aft,none⟩::rest) env H K:=
 TO.zoV [] hs hd hf ha (by rw[zbe (N:=0) (fun j hj=>by omega) _ hu];exact hl) hu (zfU H) (by simp[SV.ren,names]) (by
  simp only[patch,qak,qay,Blk.ren]) k
end rules
section rules
variable {P:Program}{n:Nat}{env:Env}{H:Heap}{K:TK}{tab:Tab}
variable {all:Array Oper}{rest:List Oper}{d:Nat}{ty:TypeId}{pos:String}{aft:Array Edge}
end rules
section rules
variable {P:Program}{all:Array Oper}
def znO(P:Program)(n:Nat)(all:Array Oper)(full:Env)(G:List Heap):List Oper->List (SV×Bool)->List Heap->Prop
 | [],[],_=>True
 | o::l,(v,false)::t,hs=>(∀H∈G,∀env,TO false P n all [o] (zaq full (slotsOf all o)++env) H (NK (putE o.dst v (zaq full (slotsOf all o)++env)) H))/\znO P n all full G l t hs
 | o::l,(v,true)::t,H1::H2::hs=>(∀env,TO false P n all [o] (zaq full (slotsOf all o)++env) H1 (NK (putE o.dst v (zaq full (slotsOf all o)++env)) H2))/\znO P n all full G l t (H2::hs)
 | _,_,_=>False
theorem znO.get{n:Nat}{full:Env}{G:List Heap}:∀ {l:List Oper} {t:List (SV×Bool)} {hs:List Heap},znO P n all full G l t hs->l.length=t.length/\∀(i:Nat) o v b,l[i]?=some o->t[i]?=some (v,b)->
   (b=false->∀H∈G,∀env,TO false P n all [o] (zaq full (slotsOf all o)++env) H (NK (putE o.dst v (zaq full (slotsOf all o)++env)) H))/\
   (b=true->∃H1 H2,hs[effs t i]?=some H1/\hs[effs t i+1]?=some H2/\∀env,TO false P n all [o] (zaq full (slotsOf all o)++env) H1 (NK (putE o.dst v (zaq full (slotsOf all o)++env)) H2))
 | [],[],hs,_=>by simp
 | o::l,(v,false)::t,hs,h=>by
   obtain⟨h1,h2⟩:=h
   obtain⟨g1,g2⟩:=znO.get h2
   exact zwbc
 | o::l,(v,true)::t,H1::H2::hs,h=>by
   obtain⟨h1,h2⟩:=h
   obtain⟨g1,g2⟩:=znO.get h2
   exact zws
 | o::l,(v,true)::t,[],h=>by exact h.elim
 | o::l,(v,true)::t,[_],h=>by exact h.elim
 | [],_::_,_,h=>by exact h.elim
 | _::_,[],_,h=>by exact h.elim
end rules
end Go.TL
namespace Go.Proofs.YtpnnpgbaiobbjaaGreatDoor
open Go Go.TL
attribute [local irreducible] TR TO Then zam RetK Sound zab Kf GG zaX
theorem zp0:∀(l pre:List Ex),za5 (fun _ _=>Out.go) pre l= .go
 | [],_=>rfl
 | x::l,pre=>by simp[za5,zp0 l]
end Go.Proofs.YtpnnpgbaiobbjaaGreatDoor
namespace Go.TL
open Go
section rules
variable {P:Program}{all:Array Oper}
def zs6(g:Prop):List Oper->Prop
 | []=>g
 | _::_=>True
def zoD(P:Program)(n:Nat)(K:TK)(g:Prop)(all:Array Oper)(full:Env)(H0:Heap):List Oper->List (SV×Bool)->Prop
 | [],[]=>True
 | o::l,(v,_)::t=>(∀env,TO false P n all [o] (zaq full (slotsOf all o)++env) H0 (NKP K (zs6 g l) (putE o.dst v (zaq full (slotsOf all o)++env)) H0))/\zoD P n K g all full H0 l t
 | _,_=>False
theorem zoD.get{n:Nat}{K:TK}{g:Prop}{full:Env}{H0:Heap}:∀ {l:List Oper} {t:List (SV×Bool)},zoD P n K g all full H0 l t->l.length=t.length/\∀(i:Nat) o v b,l[i]?=some o->t[i]?=some (v,b)->
  ∀env,TO false P n all [o] (zaq full (slotsOf all o)++env) H0 (NKP K (zs6 g (l.drop (i+1))) (putE o.dst v (zaq full (slotsOf all o)++env)) H0)
 | [],[],_=>⟨rfl,fun i o v b h=>by simp at h⟩
 | [],_::_,h=>h.elim
 | _::_,[],h=>h.elim
 | o::l,(v,b)::t,h=>by
   obtain⟨h1,h2⟩:=h
   obtain⟨g1,g2⟩:=zoD.get h2
   refine⟨by simp[g1],fun i o' v' b' ho hv=>?_⟩
   cases i with
   | zero=>simp at ho hv;obtain⟨rfl,rfl⟩:=hv;subst ho;exact h1
   | succ i=>exact g2 i o' v' b' (by simpa using ho) (by simpa using hv)
theorem TR.zmz{g:Prop}{n:Nat}{env0 envF:Env}{H0:Heap}{K:TK}{id':Nat}{l:List Oper}(t:List (SV×Bool))(hm:P.follows .mixedOrders=true)(hB:mixB l.toArray (t.map (·.2))=true)
  (hp:zoD P n K g l.toArray (zaZ l.toArray (t.map (·.1)) env0) H0 l t)(hE:zbf (zaZ l.toArray (t.map (·.1)) env0)=some envF)(hne:0<l.length)(hK:g->K .normal envF H0):
  TR P n (.region id' l.toArray true) env0 H0 K:=by
 obtain⟨g1,g2⟩:=hp.get
 intro φ m a h1 h2 h3 h4
 let hs:=List.replicate (((t.map (·.2)).filter id).length+1) H0
 have hsg:∀(c:Nat) H,hs[c]?=some H->H=H0:=by
  intro c H h
  rw[qbV]at h
  split at h
  ·cases h;rfl
  ·cases h
 have hsi:∀c:Nat,c≤((t.map (·.2)).filter id).length->hs[c]?=some H0:=by
  intro c hc
  rw[qbV,if_pos (by omega)]
 have s0:Step m ⟨m.A,m.β,m.H,{ m.w with drawn:=m.w.drawn+1 }⟩/\HRel ⟨m.A,m.β,m.H,{ m.w with drawn:=m.w.drawn+1 }⟩:=zcD h2 ⟨rfl,rfl,rfl,qae _,fun _ _=>rfl⟩
 refine zba (wpIn_region_any hm ?_)
 refine zgL [] (G:=fun i=>zs6 g (l.drop (i+1))) (vs:=t.map (·.1)) (fl:=t.map (·.2)) (hs:=hs) (HF:=H0) (m0:=m) (fun t ht=>by simp at ht) hB (by simp[g1]) (by simp[g1]) ?_ ?_ (hsi _ (qae _)) (fun hg=>by rw[zaR hE]at hK;exact hK (by have:=hg (l.length-1) (by simp;omega);rw[qa1 (by omega)]at this;exact this)) l.toArray.size (Array.replicate l.toArray.size false)
  ⟨m.A,m.β,m.H,{ m.w with drawn:=m.w.drawn+1 }⟩ a (by simp) ?_ ?_ ?_ s0.1 s0.2 ?_ (h4.step h2 s0.1)
 ·intro i o v ho hv hb c H hc _ env
  obtain⟨⟨v',b⟩,hx,rfl⟩:∃x,t[i]?=some x/\x.1=v:=by simpa using hv
  rw[hsg c H hc]
  exact g2 i o v' b (by simpa using ho) hx env
 ·intro i o v ho hv hb
  obtain⟨⟨v',b⟩,hx,rfl⟩:∃x,t[i]?=some x/\x.1=v:=by simpa using hv
  have hlt:(((t.map (·.2)).take i).filter id).length<((t.map (·.2)).filter id).length:=by
   have hm:∀(fl':List Bool) (x:Nat),fl'.getD x false=true->((fl'.take x).filter id).length<(fl'.filter id).length:=by
    exact zwbn
   exact hm _ i hb
  exact⟨H0,H0,hsi _ (by omega),hsi _ (by omega),fun env=>g2 i o v' b (by simpa using ho) hx env⟩
 ·exact zwfl
 ·exact zwco
 ·refine⟨0,fun i hi=>⟨fun h=>by omega,fun h=>?_⟩,qaU _,by rw[hsi 0 (qaU _)];simp[h1],fun j h=>?_⟩
  all_goals
   rw[qaI]at h
   split at h <;> cases h
 ·exact zwh
end rules
end Go.TL
namespace Go.Proofs.YtpnnpgbaiobbjaaGreatDoor
open Go Go.Shelf Go.Proofs
def renF:Nat->Nat
 | 104=>323
 | 109=>248
 | 110=>179
 | 129=>285
 | 145=>322
 | 171=>48
 | 207=>338
 | 211=>334
 | 217=>339
 | 219=>337
 | 220=>333
 | 224=>341
 | 225=>340
 | 243=>102
 | 246=>156
 | 266=>343
 | 267=>342
 | 283=>233
 | 284=>234
 | 285=>235
 | 286=>236
 | 314=>344
 | 317=>284
 | 318=>286
 | 319=>287
 | 320=>288
 | 337=>315
 | 338=>316
 | 347=>345
 | 348=>346
 | 349=>347
 | 350=>348
 | 351=>349
 | 352=>350
 | 353=>351
 | 354=>352
 | 355=>353
 | 356=>354
 | 357=>355
 | 358=>356
 | 359=>357
 | 360=>358
 | 361=>359
 | 366=>361
 | n=>n
def renT:Nat->Nat
 | 22=>358
 | 24=>346
 | 25=>347
 | 27=>357
 | 28=>171
 | 29=>272
 | 31=>43
 | 32=>299
 | 33=>197
 | 37=>288
 | 41=>278
 | 45=>231
 | 46=>321
 | 47=>322
 | 51=>319
 | 52=>342
 | 53=>285
 | 54=>286
 | 55=>359
 | 59=>344
 | 60=>345
 | 69=>107
 | 73=>166
 | 80=>362
 | 81=>368
 | 83=>90
 | 84=>218
 | 101=>72
 | 102=>128
 | 104=>213
 | 111=>305
 | 112=>341
 | 114=>203
 | 127=>372
 | 131=>40
 | 146=>360
 | 151=>361
 | 164=>377
 | 171=>284
 | 172=>287
 | 173=>289
 | 174=>290
 | 211=>317
 | 212=>318
 | 213=>320
 | 229=>295
 | 232=>354
 | 233=>355
 | 238=>363
 | 239=>364
 | 240=>365
 | 241=>366
 | 242=>367
 | 243=>369
 | 244=>370
 | 245=>371
 | 246=>373
 | 247=>374
 | 248=>375
 | 249=>376
 | n=>n
def renG:Nat->Nat
 | 1=>3
 | 17=>0
 | 18=>1
 | 19=>2
 | n=>n
def ren:Ren:=⟨renF,renT,renG⟩
set_option maxRecDepth 100000 in
theorem ztt:Lays.n171 Tryz.prog ren:=by
 constructor <;> first|kernel_rfl|(intro w;kernel_rfl)
set_option maxRecDepth 100000 in
theorem zug:LaysM.n171 Tryz.prog ren:=by
 constructor <;> first|exact ztt|kernel_rfl|(intro w;kernel_rfl)
end Go.Proofs.YtpnnpgbaiobbjaaGreatDoor
namespace Go.Proofs.YtpnnpgbaiobbjaaGreatDoor
open Go Go.TL Go.Shelf
theorem zmg{w w':World}(h:RowKit.Below w.heap.size w w'):Keeps w w':=⟨h.os,h.tape,h.output,h.size,h.block⟩
theorem zot{f:FuncId}{args:List SV}{l:Str}(hc:Callable Tryz.prog f)
  (h:∀(m:M) (vs:Array Value),HRel m->m.H=[]->ARel m args vs->Calls Tryz.prog f vs m.w fun e w'=>e= .returned (str l)/\RowKit.Below m.w.heap.size m.w w'):Pure Tryz.prog f args (.s l):=by
 unfold Go.TL.Pure Go.TL.Sound
 refine⟨hc,fun m vs h1 h2 h3=>Calls.mono (h m vs h2 h1 h3) ?_⟩
 rintro e w' ⟨rfl,hb⟩
 obtain⟨st,hm⟩:=zcD h2 (zmg hb)
 exact⟨_,.ret (.s l),rfl,st,hm,.t _ _ (.v _),rfl,h1⟩
theorem zmf(n:Int)(h:-9223372036854775808≤n/\n≤9223372036854775807):Pure Tryz.prog 48 [.i n] (.s (Go.Lib.itoa n)):=by
 refine zot ⟨_,Tryz.func48,by kernel_rfl,rfl⟩ fun m vs hm _ hA=>?_
 obtain⟨g1,g2⟩:=hA
 match vs,g1,g2 with
 | ⟨[x]⟩,_,g2=>
   have hx:=(g2 0 _ x rfl rfl).v_eq
   subst hx
   have ht:Go.Lib.TabIs Tryz.prog m.w "internal/strconv.uint64pow10" .u64 Go.Lib.pow10Tab:=by
    obtain⟨_,e,f,hg⟩:=hm.glob gPow powA zrq
    unfold Go.Lib.TabIs World.var?
    rw[show Tryz.prog.globalNamed "internal/strconv.uint64pow10"=some gPow by kernel_rfl]
    simp only[Option.bind_some]
    rw[hg]
    kernel_rfl
   refine Calls.mono (Go.Proofs.Any.strconv_Itoa zug n h.1 h.2 m.w ht) ?_
   rintro e w' ⟨rfl,k,os,rfl⟩
   exact⟨rfl,Go.Proofs.below_grown_sl _ _ _ _ (qae _)⟩
end Go.Proofs.YtpnnpgbaiobbjaaGreatDoor
namespace Go.Proofs.YtpnnpgbaiobbjaaGreatDoor
open Go Go.TL
attribute [local irreducible] TR TO Then zam RetK Sound zab Kf GG zaX
theorem zl2{u:En}(h:(enT u).w≤100000000):zdK u.name/\(∀s∈u.tags,zdK s)/\u.tags.length≤100000000:=by
 rw[show enT u= .ag [.s u.name,.sl 1 (u.tags.map T.s)] from rfl,w_ag]at h
 simp only[qak,qay,qat,qaK,w_s]at h
 refine⟨by show _≤_;omega,fun s hs=>?_,?_⟩
 ·have h2:=zaw (f:=T.s) (sz:=1) hs
  rw[w_s]at h2
  show _≤_
  omega
 ·have h2:=zai T.s 1 u.tags
  omega
theorem znv{n:Nod}(h:(nodT n).w≤100000000):zdK n.name:=by
 rw[show nodT n= .ag (nodC n) from rfl,w_ag]at h
 simp only[nodC,qak,qay,qat,qaK,w_s]at h
 show _≤_
 omega
theorem zsv{n:Nod}(h:(nodT n).w≤90000000):zmP n/\(∀d∈zaI n,d.clock.length≤100000000)/\(zad (zaI n)).w≤100000000:=by
 have hw:=zej n
 have e:∀l:List Decl,(zad l).w=1+((l.map zaa).map T.w).sum:=fun l=>w_sl 3 _
 have h3:(zad (zaI n)).w≤(zad n.ins).w+(zad n.outs).w+(zad n.locals).w:=by
  rw[e,e,e,e]
  simp only[zaI,qaM,qan,qbL]
  omega
 have h4:(zad (zaI n)).w≤100000000:=by omega
 have l1:=zai zaa 3 n.ins
 have l2:=zai zaa 3 n.outs
 have l3:=zai zaa 3 n.locals
 have q:∀l:List Decl,(zad l).w=(T.sl 3 (l.map zaa)).w:=fun _=>rfl
 have q1:=q n.ins
 have q2:=q n.outs
 have q3:=q n.locals
 exact⟨⟨by omega,by omega,by omega⟩,fun d hd=>(zci h4 d hd).few,h4⟩
theorem zsg(l:List Str)(base:Str):∀(f n:Nat),n≤frs l base f n
 | 0,n=>qae _
 | f+1,n=>by
   unfold frs
   split
   ·have:=zsg l base f (n+1)
    omega
   ·exact qae _
theorem zkS(n:Nat)(h:n<10 ^ 18):(Go.Lib.itoa (n:Int)).length≤30:=by
 unfold Go.Lib.itoa
 rw[if_neg (by omega)]
 have hd:∀(m u:Nat),u<10 ^ m->(Go.Lib.decDigits u).length≤m+1:=by
  intro m
  induction m with
  | zero=>intro u h;rw[Go.Lib.decDigits,dif_pos (by simp at h;omega)];simp
  | succ m ih=>
    intro u h
    rw[Go.Lib.decDigits]
    split
    ·simp
    ·have:=ih (u / 10) (by rw[Nat.pow_succ]at h;omega)
     exact zwfo
 have:=hd 18 (n:Int).toNat (by simpa using h)
 omega
end Go.Proofs.YtpnnpgbaiobbjaaGreatDoor
namespace Go.TL
open Go
theorem LeB.ms{H:Heap}{id off len sz:Nat}{cs:List SV}{es:List T}(hH:H[id]?=some (.cells cs))(hcs:∀(j:Nat) c,((es.map T.cells).flatten.map SV.t)[j]?=some c->cs[off+j]?=some c)(hlen:len=es.length)(hsz:∀e∈es,e.cells.length=sz):LeB H (.ms sz id off len) (.t (.sl sz es)):=fun m x hH' hm hx=>by
 subst hlen
 obtain⟨l1,l2⟩:=zb8 es hsz
 cases hx with
 | ms _ _ _ _ cap p hp hn hc hh=>
   have hH1:m.H[id]?=some (.cells cs):=by rw[hH'];exact hH
   obtain⟨b1,b2,b3⟩:=hm.blk id p _ hp hH1
   have hex:∀j,∃y,j<es.length*sz->m.w.cell? ⟨p.b,p.lo+off+j,none⟩=some y/\y.oneCell'=true/\∀c,((es.map T.cells).flatten)[j]?=some c->TRel m.lent.A m.lent.w c y:=by
    intro j
    by_cases hj:j<es.length*sz
    ·have hc':((es.map T.cells).flatten)[j]?=some (((es.map T.cells).flatten)[j]'(by rw[l1];exact hj)):=qac _
     have h1:=hcs j _ (by rw[qaq,hc'];rfl)
     obtain⟨y,y1,y0,y2⟩:=b3 (off+j) _ h1
     refine⟨y,fun _=>⟨by rw[<-y1,qaZ],y0,fun c2 h2=>?_⟩⟩
     rw[hc']at h2
     cases h2
     cases y2 with
     | t _ _ h=>exact zfG h
    ·exact⟨undef,fun h=>absurd h hj⟩
   obtain⟨f,hf⟩:=qbn hex
   have hlt:∀q j,q<es.length->j<sz->q*sz+j<es.length*sz:=fun q j hq hj=>by
    exact zwek
   have hcm:es.length*sz≤cap*sz:=qaJ _ hc
   refine .t _ _ (.sl sz es p.b (p.lo+off) cap f hc (fun j e he=>hsz e (qas he)) (fun q j hq hj=>.inr ⟨id,p,_,hp,hH1,rfl,rfl,by omega,by have:=hlt q j hq hj;omega⟩) (fun q j hq hj=>(hf _ (hlt q j hq hj)).1) (fun q j hq hj=>(hf _ (hlt q j hq hj)).2.1) (fun q e j c he hc'=>?_))
   have hq:=(qab.1 he).1
   have hj:=(qab.1 hc').1
   rw[hsz e (qas he)]at hj
   exact(hf _ (hlt q j hq hj)).2.2 c (l2 q j e c he hc')
theorem LeB.ag{H:Heap}{cs:List SV}{ds:List T}(hl:cs.length=ds.length)(h:∀(i:Nat) c d,cs[i]?=some c->ds[i]?=some d->LeB H c (.t d)):LeB H (.ag cs) (.t (.ag ds)):=fun m x hH hm hx=>by
 cases hx with
 | ag _ arr hs h1 hr=>
   refine .t _ _ (.ag ds arr (by omega) h1 fun i d y hd hy=>?_)
   have hi:=(qab.1 hd).1
   have hc:cs[i]?=some (cs[i]'(by omega)):=qac _
   have:=h i _ d hc hd m y hH hm (hr i _ y hc hy)
   cases this with
   | t _ _ h=>exact h
section rules
variable {P:Program}{n:Nat}{env:Env}{H:Heap}{K:TK}{tab:Tab}
variable {all:Array Oper}{rest:List Oper}{d:Nat}{ty:TypeId}{pos:String}{aft:Array Edge}
end rules
section rules
variable {P:Program}{n:Nat}{env:Env}{H:Heap}{K:TK}{all:Array Oper}
theorem TO.forget{ops:List Oper}(id j:Nat){cs:List SV}{sz tid:Nat}{es:List T}{H':Heap}(hH:H[id]?=some (.cells cs))(hi:cs[j]?=some (.sl sz es tid))(hH':H.set id (.cells (cs.set j (.t (.sl sz es))))=H')
  (k:TO false P n all ops env H' K):TO false P n all ops env H K:=by
 intro φ m a h1 h2 h3 h4
 have hid:=(qab.1 hH).1
 have hjl:=(qab.1 hi).1
 have hH1:m.H[id]?=some (.cells cs):=by rw[h1];exact hH
 obtain⟨p,hp⟩:∃p,m.β[id]?=some p:=⟨_,qac (by rw[h2.len,h1];exact hid)⟩
 obtain⟨b1,b2,b3⟩:=h2.blk id p _ hp hH1
 obtain⟨s,hm⟩:=upd (m:=m) h2 (cs':=cs.set j (.t (.sl sz es))) (w':=m.w) hp hH1 rfl rfl rfl rfl (fun _ _=>rfl) (fun _ _=>rfl) (fun _=>rfl) (fun _=>rfl) (fun _ h=>h) (by simpa using b1) (by omega) (fun q c hc=>by
  by_cases hq:q=j
  ·exact zwce
  ·rw[qaz (by omega)]at hc
   exact b3 q c hc)
 refine TO.zee (m':=⟨m.A,m.β,m.H.set id (.cells (cs.set j (.t (.sl sz es)))),m.w⟩) s (k φ ⟨m.A,m.β,m.H.set id (.cells (cs.set j (.t (.sl sz es)))),m.w⟩ a ?_ hm (h3.step h2 s) h4)
 rw[<-hH',<-h1]
end rules
section rules
variable {P:Program}{n:Nat}{env:Env}{H:Heap}{K:TK}{tab:Tab}{q:Bool}{all:Array Oper}{rest:List Oper}{d:Nat}{ty:TypeId}{pos:String}{aft:Array Edge}
theorem TO.zs8{ops:List Oper}{v v':SV}(hl:Le v v')(k:TO q P n all ops ((d,v')::env) H K):TO q P n all ops ((d,v)::env) H K:=by
 intro φ m a h1 h2 h3 h4
 refine k φ m a h1 h2 ⟨h3.1,fun j w hw=>?_⟩ h4
 by_cases hj:d=j
 ·subst hj
  rw[Env.zal]at hw
  cases hw
  obtain⟨x,x1,x2⟩:=h3.2 d v (Env.zal ..)
  exact⟨x,x1,hl m x x2⟩
 ·rw[Env.zaj _ _ hj]at hw
  exact h3.2 j w (by rw[Env.zaj _ _ hj];exact hw)
theorem TO.zr8(hT:zau P tab){t:TypeId}{i:TyI}{fs:List (Nat×TypeId)}{fz:List (Nat×Nat)}{parts:Array (Nat×Operand)}{ps:List (Nat×SV)}{cs:List SV}{ts:List T}{v':SV}(hd:Nat.ble (d+1) n=true)
  (ht:tab.get t=some i)(hk:i.k= .struct fs)(hz:sizes tab fs=some fz)(hp:env.parts parts.toList=some ps)(hc:zfa fz (i.zero.map .t) ps=some cs)(hts:allT cs=some ts)(hl:Le (.t (.ag ts)) v')
  (k:TO q P n all rest ((d,v')::env) H K):TO q P n all (⟨some d,.build t parts,ty,pos,aft,none⟩::rest) env H K:=
 TO.zm4 hT hd ht hk hz hp hc hts (TO.zs8 hl k)
end rules
theorem zk7{α:Type}:∀(l:List Nat) (G bs x:List α),l.length≤bs.length->patch G l (bs++x)=patch G l bs++x
 | [],G,bs,x,_=>by simp[patch]
 | a::l,G,[],x,h=>by simp at h
 | a::l,G,b::bs,x,h=>by
   rw[qbj,patch,patch,zk7 l _ bs x (by simpa using h)]
section rules
variable {P:Program}{n:Nat}{env:Env}{H:Heap}{K:TK}{all:Array Oper}{rest:List Oper}
variable {d:Nat}{ty:TypeId}{pos:String}{aft:Array Edge}
theorem TO.zoW(N:Nat){Hc Hc1 H':Heap}{cargs:List SV}{sz m:Nat}{es:List T}{f:Operand}{fid:FuncId}{caps:List SV}{args:Array Operand}{ts:Array TypeId}{vs:List SV}
  (hs:Sound P fid cargs Hc fun r H'=>r= .ret (.sl sz es N)/\H'=Hc1++[.tail m])(hd:Nat.ble (d+1) n=true)(hf:env.val f=some (.fn fid caps))(ha:env.vals args.toList=some vs)(hl:Les (vs++caps) cargs)
  (hN:Nat.ble N H.length=true)(hc:H.take N=Hc)(hu:unders N cargs=true)(hb:zac N Hc=true)(h1:Hc1.length=N)(h2:zac N Hc1=true)
  (hH:zbf (Hc1++H.drop N++[.tail m])=some H')(k:TO false P n all rest ((d,.sl sz es H.length)::env) H' K):
  TO false P n all (⟨some d,.call { callee:=.value f,args:=args,argTypes:=ts },ty,pos,aft,none⟩::rest) env H K:=by
 have hN':=qah hN
 have hr:∀j,j<N->names (List.range N) H.length j=j:=fun j hj=>zdE hj
 have hlen:Hc.length=N:=by rw[<-hc];simp;omega
 refine TO.call (List.range N) hs hd hf ha (by rw[zbe hr _ hu];exact hl) (by rw[hlen];exact hu) (zdz hN' hc hb) (fun v Hc' h=>?_) (fun v Hc' h=>?_)
 ·obtain⟨g1,rfl⟩:=h
  cases g1
  rw[qan,zeX hr Hc1 h2,zk7 _ _ _ _ (by simp;omega),zdG h1 hN']
  have hn:names (List.range N) H.length N=H.length:=by rw[zfs (by simp)];simp
  simp only[SV.ren,qak,qay,Blk.ren,hn]
  rw[<-zaR hH]
  exact k
 ·cases h.1
theorem TO.zja(N:Nat){Hc Hc1 H':Heap}{cargs:List SV}{sz m:Nat}{es:List T}{f:Operand}{fid:FuncId}{caps:List SV}{args:Array Operand}{ts:Array TypeId}{vs:List SV}
  (hs:Sound P fid cargs Hc fun r H'=>r= .ret (.sl sz es N)/\H'=Hc1++[.tail m])(hd:Nat.ble (d+1) n=true)(hf:env.val f=some (.fn fid caps))(ha:env.vals args.toList=some vs)(hl:Les (vs++caps) cargs)
  (hN:Nat.ble N H.length=true)(hc:H.take N=Hc)(hu:unders N cargs=true)(hb:zac N Hc=true)(h1:Hc1.length=N)(h2:zac N Hc1=true)
  (hH:zbf (Hc1++H.drop N++[.tail m])=some H')(k:TO false P n all rest ((d,.t (.sl sz es))::env) H' K):
  TO false P n all (⟨some d,.call { callee:=.value f,args:=args,argTypes:=ts },ty,pos,aft,none⟩::rest) env H K:=
 TO.zoW N hs hd hf ha hl hN hc hu hb h1 h2 hH (TO.zs8 (Le.own _ _ _) k)
end rules
end Go.TL
namespace Go.Proofs.YtpnnpgbaiobbjaaGreatDoor
open Go Go.TL
attribute [local irreducible] TR TO Then zam RetK Sound zab Kf GG zaX
def mapN{σ α β:Type}(f:Nat->σ->α->σ×β):Nat->σ->List α->σ×List β
 | _,s,[]=>(s,[])
 | i,s,x::l=>((mapN f (i+1) (f i s x).1 l).1,(f i s x).2::(mapN f (i+1) (f i s x).1 l).2)
theorem zno{σ α β:Type}(f:Nat->σ->α->σ×β):∀(l k:List α) (i:Nat) (s:σ),mapN f i s (l++k)=((mapN f (i+l.length) (mapN f i s l).1 k).1,(mapN f i s l).2++(mapN f (i+l.length) (mapN f i s l).1 k).2)
 | [],k,i,s=>rfl
 | x::l,k,i,s=>by
   rw[qbj]
   simp only[mapN]
   rw[zno f l k,qap,show i+1+l.length=i+(l.length+1) by omega]
   rfl
theorem zcE{σ α β:Type}(f:Nat->σ->α->σ×β)(s:σ){l:List α}{j:Nat}(h:j<l.length):mapN f 0 s (l.take (j+1))=((f j (mapN f 0 s (l.take j)).1 l[j]).1,(mapN f 0 s (l.take j)).2++[(f j (mapN f 0 s (l.take j)).1 l[j]).2]):=by
 rw[zbQ h,zno]
 have e:0+(l.take j).length=j:=by rw[qaQ];omega
 rw[e]
 rfl
theorem zb0{σ α β:Type}(f:Nat->σ->α->σ×β):∀(l:List α) (i:Nat) (s:σ),(mapN f i s l).2.length=l.length
 | [],_,_=>rfl
 | x::l,i,s=>by unfold mapN;simp only[qap];rw[zb0 f l]
theorem zbZ{σ α β:Type}{f:Nat->σ->α->σ×β}{I:Nat->σ->Prop}{l:List α}(h:∀i s x,l[i]?=some x->I i s->I (i+1) (f i s x).1){s:σ}(h0:I 0 s):∀(j:Nat),j≤l.length->I j (mapN f 0 s (l.take j)).1
 | 0,_=>h0
 | j+1,hj=>by
   rw[zcE f s hj]
   exact h j _ _ (qac hj) (zbZ h h0 j (by omega))
theorem zgq{H:Heap}{b:Blk}{N:Nat}(h:H.length=N):Nat.ble N (H++[b]).length=true:=by simp[h,Nat.ble_eq]
theorem zd5{H:Heap}{b:Blk}{N:Nat}(h:H.length=N):(H++[b]).take N=H:=by subst h;simp
theorem zcU{H H1:Heap}{b:Blk}{N:Nat}(h:H.length=N):zbf (H1++(H++[b]).drop N)=some (H1++[b]):=by subst h;rw[za1];simp
theorem ztY{H:Heap}{b:Blk}{N:Nat}(h:H.length=N):(H++[b])[N]?=some b:=by subst h;simp
theorem ztZ{H:Heap}{b c:Blk}{N:Nat}(h:H.length=N):(H++[b]).set N c=H++[c]:=by subst h;simp
theorem zeh(k:Nat)(x:T):(SV.t x).under k=true:=rfl
mutual
theorem zf6 {k k':Nat} (h:k≤k'):∀s:SV,s.under k=true->s.under k'=true
 | .t _,_| .cp _ _,_| .any,_=>rfl
 | .sl _ _ id,hs| .ms _ id _ _,hs| .ref id _,hs| .tref _ _ id _,hs| .rw id _,hs| .mp id,hs| .yl id,hs=>by
   simp only[SV.under,qbe]at hs⊢
   omega
 | .ag cs,hs| .tup cs,hs| .fn _ cs,hs| .bnd _ cs,hs=>by
   simp only[SV.under]at hs⊢
   exact zeR h cs hs
 | .ifc _ x,hs=>by
   simp only[SV.under]at hs⊢
   exact zf6 h x hs
theorem zeR {k k':Nat} (h:k≤k'):∀l:List SV,unders k l=true->unders k' l=true
 | [],_=>rfl
 | x::l,hs=>by
   simp only[unders,qav]at hs⊢
   exact⟨zf6 h x hs.1,zeR h l hs.2⟩
end
theorem zi9{k k':Nat}(h:k≤k'):∀b:Blk,b.under k=true->b.under k'=true
 | .cells cs,hs=>zeR h cs hs
 | .tail _,_| .row _ _,_| .map _ _ _,_| .dead,_=>rfl
 | .loop _ _ _ _ env _ _ _,hs=>by
   simp only[Blk.under,qaw]at hs⊢
   exact fun x hx=>zf6 h _ (hs x hx)
theorem zeC{k k':Nat}(h:k≤k'):∀ {H:Heap},zac k H=true->zac k' H=true
 | [],_=>rfl
 | b::H,hs=>by
   simp only[zac,qav]at hs⊢
   exact⟨zi9 h b hs.1,zeC h hs.2⟩
theorem wkaM{G Q:Prop}(k:Q)(h:Hold Q->G:=by
  (intro k;apply TO.zoJ zah;(iterate 9 exact rfl);exact leB;exact k.p)):G:=h ⟨k⟩
abbrev chT (c:Ex×Ex):T:=.ag (exC c.1++exC c.2)
set_option maxHeartbeats 4000000 in
theorem zmp {σ:Type} (Hs:σ->Heap) (N:Nat) (hN:∀s,(Hs s).length=N) (hu:∀s,zac N (Hs s)=true) (fid:FuncId) (caps:List SV) (hcu:unders N caps=true) (g:Nat->σ->Tran->σ×(Str)) (I:Nat->σ->Prop) (l:List Tran) (hl:l.length≤1000000000)
  (hc:∀(i:Nat) (s:σ) (x:Tran),l[i]?=some x->I i s->Sound Tryz.prog fid (.i (i:Int):: .t (zag x)::caps) (Hs s) (fun r H'=>r= .ret (.t (T.s (g i s x).2))/\H'=Hs (g i s x).1))
  (hI:∀i s x,l[i]?=some x->I i s->I (i+1) (g i s x).1) (s0:σ) (h0:I 0 s0):
  Sound Tryz.prog 176 [.t (.sl 8 (l.map zag)),.fn fid caps] (Hs s0) (fun r H'=>r= .ret (.sl 1 ((mapN g 0 s0 l).2.map T.s) N)/\H'=Hs (mapN g 0 s0 l).1++[.tail l.length]):=by
 have hml:(l.map zag).length=l.length:=qaa _
 have hinv:=zbZ (f:=g) (l:=l) hI h0
 have hlen:=fun k=>zb0 g k 0 s0
 refine so Tryz.func176 ?_
 repeat' (first|refine wkt ?_|fail)
 refine TR.tail 1 5 rfl ?_
 rw[hN s0]
 refine TR.zak l.length (fun _=>True) (fun j=>[(1,.fn fid caps),(5,.sl 1 ((mapN g 0 s0 (l.take j)).2.map T.s) N),(8,.t (.sl 8 (l.map zag))),(9,.i l.length),(10,.i j)]) (fun j=>Hs (mapN g 0 s0 (l.take j)).1++[.tail (l.take j).length]) trivial (fun j hlt _=>?_) (fun _=>?_) ⟨rfl,rfl,rfl,by rw[<-hml];rfl,rfl,trivial⟩ rfl
 ·have hx:=zar zag hlt
  have hn:=zcE g s0 hlt
  have hat:l[j]?=some l[j]:=qac hlt
  have hi:=hinv j (qbi hlt)
  have hol:=hlen (l.take j)
  rw[<-hol]
  have hol2:=hlen (l.take (j+1))
  rw[hn]at hol2
  generalize mapN g 0 s0 (l.take j)=so at*
  obtain⟨s,o⟩:=so
  dsimp only at*
  have hcj:=hc j s l[j] hat hi
  clear hc hI hinv hat
  generalize g j s l[j]=gx at*
  obtain⟨s',y⟩:=gx
  dsimp only at*
  have hob:o.length≤1000000000:=by rw[hol,qaQ];omega
  have hom:(o.map T.s).length=o.length:=qaa _
  exact zwe
 ·exact zwj
set_option maxHeartbeats 4000000 in
theorem zhu {σ:Type} (Hs:σ->Heap) (N:Nat) (hN:∀s,(Hs s).length=N) (hu:∀s,zac N (Hs s)=true) (fid:FuncId) (caps:List SV) (hcu:unders N caps=true) (g:Nat->σ->Decl->σ×(Str)) (I:Nat->σ->Prop) (l:List Decl) (hl:l.length≤1000000000)
  (hc:∀(i:Nat) (s:σ) (x:Decl),l[i]?=some x->I i s->Sound Tryz.prog fid (.i (i:Int):: .t (zaa x)::caps) (Hs s) (fun r H'=>r= .ret (.t (T.s (g i s x).2))/\H'=Hs (g i s x).1))
  (hI:∀i s x,l[i]?=some x->I i s->I (i+1) (g i s x).1) (s0:σ) (h0:I 0 s0):
  Sound Tryz.prog 187 [.t (.sl 3 (l.map zaa)),.fn fid caps] (Hs s0) (fun r H'=>r= .ret (.sl 1 ((mapN g 0 s0 l).2.map T.s) N)/\H'=Hs (mapN g 0 s0 l).1++[.tail l.length]):=by
 have hml:(l.map zaa).length=l.length:=qaa _
 have hinv:=zbZ (f:=g) (l:=l) hI h0
 have hlen:=fun k=>zb0 g k 0 s0
 refine so Tryz.func187 ?_
 repeat' (first|refine wkt ?_|fail)
 refine TR.tail 1 5 rfl ?_
 rw[hN s0]
 refine TR.zak l.length (fun _=>True) (fun j=>[(1,.fn fid caps),(5,.sl 1 ((mapN g 0 s0 (l.take j)).2.map T.s) N),(8,.t (.sl 3 (l.map zaa))),(9,.i l.length),(10,.i j)]) (fun j=>Hs (mapN g 0 s0 (l.take j)).1++[.tail (l.take j).length]) trivial (fun j hlt _=>?_) (fun _=>?_) ⟨rfl,rfl,rfl,by rw[<-hml];rfl,rfl,trivial⟩ rfl
 ·have hx:=zar zaa hlt
  have hn:=zcE g s0 hlt
  have hat:l[j]?=some l[j]:=qac hlt
  have hi:=hinv j (qbi hlt)
  have hol:=hlen (l.take j)
  rw[<-hol]
  have hol2:=hlen (l.take (j+1))
  rw[hn]at hol2
  generalize mapN g 0 s0 (l.take j)=so at*
  obtain⟨s,o⟩:=so
  dsimp only at*
  have hcj:=hc j s l[j] hat hi
  clear hc hI hinv hat
  generalize g j s l[j]=gx at*
  obtain⟨s',y⟩:=gx
  dsimp only at*
  have hob:o.length≤1000000000:=by rw[hol,qaQ];omega
  have hom:(o.map T.s).length=o.length:=qaa _
  exact zwf
 ·exact zwj
set_option maxHeartbeats 4000000 in
theorem zmo {σ:Type} (Hs:σ->Heap) (N:Nat) (hN:∀s,(Hs s).length=N) (hu:∀s,zac N (Hs s)=true) (fid:FuncId) (caps:List SV) (hcu:unders N caps=true) (g:Nat->σ->Sta->σ×(Ex)) (I:Nat->σ->Prop) (l:List Sta) (hl:l.length≤1000000000)
  (hc:∀(i:Nat) (s:σ) (x:Sta),l[i]?=some x->I i s->Sound Tryz.prog fid (.i (i:Int):: .t (staT x)::caps) (Hs s) (fun r H'=>r= .ret (.t (exT (g i s x).2))/\H'=Hs (g i s x).1))
  (hI:∀i s x,l[i]?=some x->I i s->I (i+1) (g i s x).1) (s0:σ) (h0:I 0 s0):
  Sound Tryz.prog 249 [.t (.sl 6 (l.map staT)),.fn fid caps] (Hs s0) (fun r H'=>r= .ret (.sl 6 ((mapN g 0 s0 l).2.map exT) N)/\H'=Hs (mapN g 0 s0 l).1++[.tail l.length]):=by
 have hml:(l.map staT).length=l.length:=qaa _
 have hinv:=zbZ (f:=g) (l:=l) hI h0
 have hlen:=fun k=>zb0 g k 0 s0
 refine so Tryz.func249 ?_
 repeat' (first|refine wkt ?_|fail)
 refine TR.tail 6 5 rfl ?_
 rw[hN s0]
 refine TR.zak l.length (fun _=>True) (fun j=>[(1,.fn fid caps),(5,.sl 6 ((mapN g 0 s0 (l.take j)).2.map exT) N),(8,.t (.sl 6 (l.map staT))),(9,.i l.length),(10,.i j)]) (fun j=>Hs (mapN g 0 s0 (l.take j)).1++[.tail (l.take j).length]) trivial (fun j hlt _=>?_) (fun _=>?_) ⟨rfl,rfl,rfl,by rw[<-hml];rfl,rfl,trivial⟩ rfl
 ·have hx:=zar staT hlt
  have hn:=zcE g s0 hlt
  have hat:l[j]?=some l[j]:=qac hlt
  have hi:=hinv j (qbi hlt)
  have hol:=hlen (l.take j)
  rw[<-hol]
  have hol2:=hlen (l.take (j+1))
  rw[hn]at hol2
  generalize mapN g 0 s0 (l.take j)=so at*
  obtain⟨s,o⟩:=so
  dsimp only at*
  have hcj:=hc j s l[j] hat hi
  clear hc hI hinv hat
  generalize g j s l[j]=gx at*
  obtain⟨s',y⟩:=gx
  dsimp only at*
  have hob:o.length≤1000000000:=by rw[hol,qaQ];omega
  have hom:(o.map exT).length=o.length:=qaa _
  rw[<-hom]
  rw[zaz]at hcj
  rw[za6]at hx hcj
  repeat' (first|refine wkt ?_|refine wkaM ?_|refine zqo ?_|(apply TO.zaD N hcj;(iterate 3 exact rfl);exact Les.refl _;exact zgq (hN s);exact zd5 (hN s);exact hcu;exact hu s;exact zeh N _;exact hN s';exact hu s';exact zcU (hN s))|refine zqc ?_|refine zab.exit ?_|exact wkc|intro hc|refine wk2 ?_ ?_|refine wk ?_|fail)
  exact zwbg
 ·exact zwj
set_option maxHeartbeats 4000000 in
theorem zhw {σ:Type} (Hs:σ->Heap) (N:Nat) (hN:∀s,(Hs s).length=N) (hu:∀s,zac N (Hs s)=true) (fid:FuncId) (caps:List SV) (hcu:unders N caps=true) (g:Nat->σ->Tran->σ×(Ex×Ex)) (I:Nat->σ->Prop) (l:List Tran) (hl:l.length≤1000000000)
  (hc:∀(i:Nat) (s:σ) (x:Tran),l[i]?=some x->I i s->Sound Tryz.prog fid (.i (i:Int):: .t (zag x)::caps) (Hs s) (fun r H'=>r= .ret (.t (chT (g i s x).2))/\H'=Hs (g i s x).1))
  (hI:∀i s x,l[i]?=some x->I i s->I (i+1) (g i s x).1) (s0:σ) (h0:I 0 s0):
  Sound Tryz.prog 250 [.t (.sl 8 (l.map zag)),.fn fid caps] (Hs s0) (fun r H'=>r= .ret (.sl 12 ((mapN g 0 s0 l).2.map chT) N)/\H'=Hs (mapN g 0 s0 l).1++[.tail l.length]):=by
 have hml:(l.map zag).length=l.length:=qaa _
 have hinv:=zbZ (f:=g) (l:=l) hI h0
 have hlen:=fun k=>zb0 g k 0 s0
 refine so Tryz.func250 ?_
 repeat' (first|refine wkt ?_|fail)
 refine TR.tail 12 5 rfl ?_
 rw[hN s0]
 refine TR.zak l.length (fun _=>True) (fun j=>[(1,.fn fid caps),(5,.sl 12 ((mapN g 0 s0 (l.take j)).2.map chT) N),(8,.t (.sl 8 (l.map zag))),(9,.i l.length),(10,.i j)]) (fun j=>Hs (mapN g 0 s0 (l.take j)).1++[.tail (l.take j).length]) trivial (fun j hlt _=>?_) (fun _=>?_) ⟨rfl,rfl,rfl,by rw[<-hml];rfl,rfl,trivial⟩ rfl
 ·have hx:=zar zag hlt
  have hn:=zcE g s0 hlt
  have hat:l[j]?=some l[j]:=qac hlt
  have hi:=hinv j (qbi hlt)
  have hol:=hlen (l.take j)
  rw[<-hol]
  have hol2:=hlen (l.take (j+1))
  rw[hn]at hol2
  generalize mapN g 0 s0 (l.take j)=so at*
  obtain⟨s,o⟩:=so
  dsimp only at*
  have hcj:=hc j s l[j] hat hi
  clear hc hI hinv hat
  generalize g j s l[j]=gx at*
  obtain⟨s',y⟩:=gx
  dsimp only at*
  have hob:o.length≤1000000000:=by rw[hol,qaQ];omega
  have hom:(o.map chT).length=o.length:=qaa _
  exact zwe
 ·exact zwj
set_option maxHeartbeats 4000000 in
theorem zmk {σ:Type} (Hs:σ->Heap) (N:Nat) (hN:∀s,(Hs s).length=N) (hu:∀s,zac N (Hs s)=true) (fid:FuncId) (caps:List SV) (hcu:unders N caps=true) (g:Nat->σ->Decl->σ×(Ex)) (I:Nat->σ->Prop) (l:List Decl) (hl:l.length≤1000000000)
  (hc:∀(i:Nat) (s:σ) (x:Decl),l[i]?=some x->I i s->Sound Tryz.prog fid (.i (i:Int):: .t (zaa x)::caps) (Hs s) (fun r H'=>r= .ret (.t (exT (g i s x).2))/\H'=Hs (g i s x).1))
  (hI:∀i s x,l[i]?=some x->I i s->I (i+1) (g i s x).1) (s0:σ) (h0:I 0 s0):
  Sound Tryz.prog 197 [.t (.sl 3 (l.map zaa)),.fn fid caps] (Hs s0) (fun r H'=>r= .ret (.sl 6 ((mapN g 0 s0 l).2.map exT) N)/\H'=Hs (mapN g 0 s0 l).1++[.tail l.length]):=by
 have hml:(l.map zaa).length=l.length:=qaa _
 have hinv:=zbZ (f:=g) (l:=l) hI h0
 have hlen:=fun k=>zb0 g k 0 s0
 refine so Tryz.func197 ?_
 repeat' (first|refine wkt ?_|fail)
 refine TR.tail 6 5 rfl ?_
 rw[hN s0]
 refine TR.zak l.length (fun _=>True) (fun j=>[(1,.fn fid caps),(5,.sl 6 ((mapN g 0 s0 (l.take j)).2.map exT) N),(8,.t (.sl 3 (l.map zaa))),(9,.i l.length),(10,.i j)]) (fun j=>Hs (mapN g 0 s0 (l.take j)).1++[.tail (l.take j).length]) trivial (fun j hlt _=>?_) (fun _=>?_) ⟨rfl,rfl,rfl,by rw[<-hml];rfl,rfl,trivial⟩ rfl
 ·have hx:=zar zaa hlt
  have hn:=zcE g s0 hlt
  have hat:l[j]?=some l[j]:=qac hlt
  have hi:=hinv j (qbi hlt)
  have hol:=hlen (l.take j)
  rw[<-hol]
  have hol2:=hlen (l.take (j+1))
  rw[hn]at hol2
  generalize mapN g 0 s0 (l.take j)=so at*
  obtain⟨s,o⟩:=so
  dsimp only at*
  have hcj:=hc j s l[j] hat hi
  clear hc hI hinv hat
  generalize g j s l[j]=gx at*
  obtain⟨s',y⟩:=gx
  dsimp only at*
  have hob:o.length≤1000000000:=by rw[hol,qaQ];omega
  have hom:(o.map exT).length=o.length:=qaa _
  rw[<-hom]
  rw[zaz]at hcj
  change _=some (.ag [.s l[j].name,T.n l[j].ty,.sl 3 (l[j].clock.map onT)]:T)at hx
  repeat' (first|refine wkt ?_|refine wkaM ?_|refine zqo ?_|(apply TO.zaD N hcj;(iterate 3 exact rfl);exact Les.refl _;exact zgq (hN s);exact zd5 (hN s);exact hcu;exact hu s;exact zeh N _;exact hN s';exact hu s';exact zcU (hN s))|refine zqc ?_|refine zab.exit ?_|exact wkc|intro hc|refine wk2 ?_ ?_|refine wk ?_|fail)
  exact zwbg
 ·exact zwj
set_option maxHeartbeats 4000000 in
theorem zmj {σ:Type} (Hs:σ->Heap) (N:Nat) (hN:∀s,(Hs s).length=N) (hu:∀s,zac N (Hs s)=true) (fid:FuncId) (caps:List SV) (hcu:unders N caps=true) (g:Nat->σ->Decl->σ×(Decl)) (I:Nat->σ->Prop) (l:List Decl) (hl:l.length≤1000000000)
  (hc:∀(i:Nat) (s:σ) (x:Decl),l[i]?=some x->I i s->Sound Tryz.prog fid (.i (i:Int):: .t (zaa x)::caps) (Hs s) (fun r H'=>r= .ret (.t (zaa (g i s x).2))/\H'=Hs (g i s x).1))
  (hI:∀i s x,l[i]?=some x->I i s->I (i+1) (g i s x).1) (s0:σ) (h0:I 0 s0):
  Sound Tryz.prog 130 [.t (.sl 3 (l.map zaa)),.fn fid caps] (Hs s0) (fun r H'=>r= .ret (.sl 3 ((mapN g 0 s0 l).2.map zaa) N)/\H'=Hs (mapN g 0 s0 l).1++[.tail l.length]):=by
 have hml:(l.map zaa).length=l.length:=qaa _
 have hinv:=zbZ (f:=g) (l:=l) hI h0
 have hlen:=fun k=>zb0 g k 0 s0
 refine so Tryz.func130 ?_
 repeat' (first|refine wkt ?_|fail)
 refine TR.tail 3 5 rfl ?_
 rw[hN s0]
 refine TR.zak l.length (fun _=>True) (fun j=>[(1,.fn fid caps),(5,.sl 3 ((mapN g 0 s0 (l.take j)).2.map zaa) N),(8,.t (.sl 3 (l.map zaa))),(9,.i l.length),(10,.i j)]) (fun j=>Hs (mapN g 0 s0 (l.take j)).1++[.tail (l.take j).length]) trivial (fun j hlt _=>?_) (fun _=>?_) ⟨rfl,rfl,rfl,by rw[<-hml];rfl,rfl,trivial⟩ rfl
 ·have hx:=zar zaa hlt
  have hn:=zcE g s0 hlt
  have hat:l[j]?=some l[j]:=qac hlt
  have hi:=hinv j (qbi hlt)
  have hol:=hlen (l.take j)
  rw[<-hol]
  have hol2:=hlen (l.take (j+1))
  rw[hn]at hol2
  generalize mapN g 0 s0 (l.take j)=so at*
  obtain⟨s,o⟩:=so
  dsimp only at*
  have hcj:=hc j s l[j] hat hi
  clear hc hI hinv hat
  generalize g j s l[j]=gx at*
  obtain⟨s',y⟩:=gx
  dsimp only at*
  have hob:o.length≤1000000000:=by rw[hol,qaQ];omega
  have hom:(o.map zaa).length=o.length:=qaa _
  exact zwf
 ·exact zwj
set_option maxHeartbeats 4000000 in
theorem zml {σ:Type} (Hs:σ->Heap) (N:Nat) (hN:∀s,(Hs s).length=N) (hu:∀s,zac N (Hs s)=true) (fid:FuncId) (caps:List SV) (hcu:unders N caps=true) (g:Nat->σ->Ex->σ×(Ex)) (I:Nat->σ->Prop) (l:List Ex) (hl:l.length≤1000000000)
  (hc:∀(i:Nat) (s:σ) (x:Ex),l[i]?=some x->I i s->Sound Tryz.prog fid (.i (i:Int):: .t (exT x)::caps) (Hs s) (fun r H'=>r= .ret (.t (exT (g i s x).2))/\H'=Hs (g i s x).1))
  (hI:∀i s x,l[i]?=some x->I i s->I (i+1) (g i s x).1) (s0:σ) (h0:I 0 s0):
  Sound Tryz.prog 128 [.t (.sl 6 (l.map exT)),.fn fid caps] (Hs s0) (fun r H'=>r= .ret (.sl 6 ((mapN g 0 s0 l).2.map exT) N)/\H'=Hs (mapN g 0 s0 l).1++[.tail l.length]):=by
 have hml:(l.map exT).length=l.length:=qaa _
 have hinv:=zbZ (f:=g) (l:=l) hI h0
 have hlen:=fun k=>zb0 g k 0 s0
 refine so Tryz.func128 ?_
 repeat' (first|refine wkt ?_|fail)
 refine TR.tail 6 5 rfl ?_
 rw[hN s0]
 refine TR.zak l.length (fun _=>True) (fun j=>[(1,.fn fid caps),(5,.sl 6 ((mapN g 0 s0 (l.take j)).2.map exT) N),(8,.t (.sl 6 (l.map exT))),(9,.i l.length),(10,.i j)]) (fun j=>Hs (mapN g 0 s0 (l.take j)).1++[.tail (l.take j).length]) trivial (fun j hlt _=>?_) (fun _=>?_) ⟨rfl,rfl,rfl,by rw[<-hml];rfl,rfl,trivial⟩ rfl
 ·have hx:=zar exT hlt
  have hn:=zcE g s0 hlt
  have hat:l[j]?=some l[j]:=qac hlt
  have hi:=hinv j (qbi hlt)
  have hol:=hlen (l.take j)
  rw[<-hol]
  have hol2:=hlen (l.take (j+1))
  rw[hn]at hol2
  generalize mapN g 0 s0 (l.take j)=so at*
  obtain⟨s,o⟩:=so
  dsimp only at*
  have hcj:=hc j s l[j] hat hi
  clear hc hI hinv hat
  generalize g j s l[j]=gx at*
  obtain⟨s',y⟩:=gx
  dsimp only at*
  have hob:o.length≤1000000000:=by rw[hol,qaQ];omega
  have hom:(o.map exT).length=o.length:=qaa _
  rw[<-hom]
  rw[zaz]at hcj
  rw[zaz]at hx hcj
  repeat' (first|refine wkt ?_|refine wkaM ?_|refine zqo ?_|(apply TO.zaD N hcj;(iterate 3 exact rfl);exact Les.refl _;exact zgq (hN s);exact zd5 (hN s);exact hcu;exact hu s;exact zeh N _;exact hN s';exact hu s';exact zcU (hN s))|refine zqc ?_|refine zab.exit ?_|exact wkc|intro hc|refine wk2 ?_ ?_|refine wk ?_|fail)
  exact zwbg
 ·exact zwj
set_option maxHeartbeats 4000000 in
theorem zmq {σ:Type} (Hs:σ->Heap) (N:Nat) (hN:∀s,(Hs s).length=N) (hu:∀s,zac N (Hs s)=true) (fid:FuncId) (caps:List SV) (hcu:unders N caps=true) (g:Nat->σ->En->σ×(En)) (I:Nat->σ->Prop) (l:List En) (hl:l.length≤1000000000)
  (hc:∀(i:Nat) (s:σ) (x:En),l[i]?=some x->I i s->Sound Tryz.prog fid (.i (i:Int):: .t (enT x)::caps) (Hs s) (fun r H'=>r= .ret (.t (enT (g i s x).2))/\H'=Hs (g i s x).1))
  (hI:∀i s x,l[i]?=some x->I i s->I (i+1) (g i s x).1) (s0:σ) (h0:I 0 s0):
  Sound Tryz.prog 74 [.t (.sl 2 (l.map enT)),.fn fid caps] (Hs s0) (fun r H'=>r= .ret (.sl 2 ((mapN g 0 s0 l).2.map enT) N)/\H'=Hs (mapN g 0 s0 l).1++[.tail l.length]):=by
 have hml:(l.map enT).length=l.length:=qaa _
 have hinv:=zbZ (f:=g) (l:=l) hI h0
 have hlen:=fun k=>zb0 g k 0 s0
 refine so Tryz.func74 ?_
 repeat' (first|refine wkt ?_|fail)
 refine TR.tail 2 5 rfl ?_
 rw[hN s0]
 refine TR.zak l.length (fun _=>True) (fun j=>[(1,.fn fid caps),(5,.sl 2 ((mapN g 0 s0 (l.take j)).2.map enT) N),(8,.t (.sl 2 (l.map enT))),(9,.i l.length),(10,.i j)]) (fun j=>Hs (mapN g 0 s0 (l.take j)).1++[.tail (l.take j).length]) trivial (fun j hlt _=>?_) (fun _=>?_) ⟨rfl,rfl,rfl,by rw[<-hml];rfl,rfl,trivial⟩ rfl
 ·have hx:=zar enT hlt
  have hn:=zcE g s0 hlt
  have hat:l[j]?=some l[j]:=qac hlt
  have hi:=hinv j (qbi hlt)
  have hol:=hlen (l.take j)
  rw[<-hol]
  have hol2:=hlen (l.take (j+1))
  rw[hn]at hol2
  generalize mapN g 0 s0 (l.take j)=so at*
  obtain⟨s,o⟩:=so
  dsimp only at*
  have hcj:=hc j s l[j] hat hi
  clear hc hI hinv hat
  generalize g j s l[j]=gx at*
  obtain⟨s',y⟩:=gx
  dsimp only at*
  have hob:o.length≤1000000000:=by rw[hol,qaQ];omega
  have hom:(o.map enT).length=o.length:=qaa _
  rw[<-hom]
  skip
  change _=some (.ag [.s l[j].name,.sl 1 (l[j].tags.map T.s)]:T)at hx
  repeat' (first|refine wkt ?_|refine wkaM ?_|refine zqo ?_|(apply TO.zaD N hcj;(iterate 3 exact rfl);exact Les.refl _;exact zgq (hN s);exact zd5 (hN s);exact hcu;exact hu s;exact zeh N _;exact hN s';exact hu s';exact zcU (hN s))|refine zqc ?_|refine zab.exit ?_|exact wkc|intro hc|refine wk2 ?_ ?_|refine wk ?_|fail)
  exact zab.zat hlt trivial (by(try dsimp only);rw[hn,qan];exact⟨rfl,rfl,rfl,rfl,rfl,trivial⟩) (by(try dsimp only);rw[hn,<-hol2];simp)
 ·exact zwj
set_option maxHeartbeats 4000000 in
theorem zmm {σ:Type} (Hs:σ->Heap) (N:Nat) (hN:∀s,(Hs s).length=N) (hu:∀s,zac N (Hs s)=true) (fid:FuncId) (caps:List SV) (hcu:unders N caps=true) (g:Nat->σ->Nod->σ×(Nod)) (I:Nat->σ->Prop) (l:List Nod) (hl:l.length≤1000000000)
  (hc:∀(i:Nat) (s:σ) (x:Nod),l[i]?=some x->I i s->Sound Tryz.prog fid (.i (i:Int):: .t (nodT x)::caps) (Hs s) (fun r H'=>r= .ret (.t (nodT (g i s x).2))/\H'=Hs (g i s x).1))
  (hI:∀i s x,l[i]?=some x->I i s->I (i+1) (g i s x).1) (s0:σ) (h0:I 0 s0):
  Sound Tryz.prog 77 [.t (.sl 8 (l.map nodT)),.fn fid caps] (Hs s0) (fun r H'=>r= .ret (.sl 8 ((mapN g 0 s0 l).2.map nodT) N)/\H'=Hs (mapN g 0 s0 l).1++[.tail l.length]):=by
 have hml:(l.map nodT).length=l.length:=qaa _
 have hinv:=zbZ (f:=g) (l:=l) hI h0
 have hlen:=fun k=>zb0 g k 0 s0
 refine so Tryz.func77 ?_
 repeat' (first|refine wkt ?_|fail)
 refine TR.tail 8 5 rfl ?_
 rw[hN s0]
 refine TR.zak l.length (fun _=>True) (fun j=>[(1,.fn fid caps),(5,.sl 8 ((mapN g 0 s0 (l.take j)).2.map nodT) N),(8,.t (.sl 8 (l.map nodT))),(9,.i l.length),(10,.i j)]) (fun j=>Hs (mapN g 0 s0 (l.take j)).1++[.tail (l.take j).length]) trivial (fun j hlt _=>?_) (fun _=>?_) ⟨rfl,rfl,rfl,by rw[<-hml];rfl,rfl,trivial⟩ rfl
 ·have hx:=zar nodT hlt
  have hn:=zcE g s0 hlt
  have hat:l[j]?=some l[j]:=qac hlt
  have hi:=hinv j (qbi hlt)
  have hol:=hlen (l.take j)
  rw[<-hol]
  have hol2:=hlen (l.take (j+1))
  rw[hn]at hol2
  generalize mapN g 0 s0 (l.take j)=so at*
  obtain⟨s,o⟩:=so
  dsimp only at*
  have hcj:=hc j s l[j] hat hi
  clear hc hI hinv hat
  generalize g j s l[j]=gx at*
  obtain⟨s',y⟩:=gx
  dsimp only at*
  have hob:o.length≤1000000000:=by rw[hol,qaQ];omega
  have hom:(o.map nodT).length=o.length:=qaa _
  rw[<-hom]
  skip
  change _=some (.ag (nodC l[j]):T)at hx
  repeat' (first|refine wkt ?_|refine wkaM ?_|refine zqo ?_|(apply TO.zaD N hcj;(iterate 3 exact rfl);exact Les.refl _;exact zgq (hN s);exact zd5 (hN s);exact hcu;exact hu s;exact zeh N _;exact hN s';exact hu s';exact zcU (hN s))|refine zqc ?_|refine zab.exit ?_|exact wkc|intro hc|refine wk2 ?_ ?_|refine wk ?_|fail)
  exact zab.zat hlt trivial (by(try dsimp only);rw[hn,qan];exact⟨rfl,rfl,rfl,rfl,rfl,trivial⟩) (by(try dsimp only);rw[hn,<-hol2];simp)
 ·exact zwj
set_option maxHeartbeats 4000000 in
theorem zmn {σ:Type} (Hs:σ->Heap) (N:Nat) (hN:∀s,(Hs s).length=N) (hu:∀s,zac N (Hs s)=true) (fid:FuncId) (caps:List SV) (hcu:unders N caps=true) (g:Nat->σ->Equ->σ×(Equ)) (I:Nat->σ->Prop) (l:List Equ) (hl:l.length≤1000000000)
  (hc:∀(i:Nat) (s:σ) (x:Equ),l[i]?=some x->I i s->Sound Tryz.prog fid (.i (i:Int):: .t (equT x)::caps) (Hs s) (fun r H'=>r= .ret (.t (equT (g i s x).2))/\H'=Hs (g i s x).1))
  (hI:∀i s x,l[i]?=some x->I i s->I (i+1) (g i s x).1) (s0:σ) (h0:I 0 s0):
  Sound Tryz.prog 79 [.t (.sl 7 (l.map equT)),.fn fid caps] (Hs s0) (fun r H'=>r= .ret (.sl 7 ((mapN g 0 s0 l).2.map equT) N)/\H'=Hs (mapN g 0 s0 l).1++[.tail l.length]):=by
 have hml:(l.map equT).length=l.length:=qaa _
 have hinv:=zbZ (f:=g) (l:=l) hI h0
 have hlen:=fun k=>zb0 g k 0 s0
 refine so Tryz.func79 ?_
 repeat' (first|refine wkt ?_|fail)
 refine TR.tail 7 5 rfl ?_
 rw[hN s0]
 refine TR.zak l.length (fun _=>True) (fun j=>[(1,.fn fid caps),(5,.sl 7 ((mapN g 0 s0 (l.take j)).2.map equT) N),(8,.t (.sl 7 (l.map equT))),(9,.i l.length),(10,.i j)]) (fun j=>Hs (mapN g 0 s0 (l.take j)).1++[.tail (l.take j).length]) trivial (fun j hlt _=>?_) (fun _=>?_) ⟨rfl,rfl,rfl,by rw[<-hml];rfl,rfl,trivial⟩ rfl
 ·have hx:=zar equT hlt
  have hn:=zcE g s0 hlt
  have hat:l[j]?=some l[j]:=qac hlt
  have hi:=hinv j (qbi hlt)
  have hol:=hlen (l.take j)
  rw[<-hol]
  have hol2:=hlen (l.take (j+1))
  rw[hn]at hol2
  generalize mapN g 0 s0 (l.take j)=so at*
  obtain⟨s,o⟩:=so
  dsimp only at*
  have hcj:=hc j s l[j] hat hi
  clear hc hI hinv hat
  generalize g j s l[j]=gx at*
  obtain⟨s',y⟩:=gx
  dsimp only at*
  have hob:o.length≤1000000000:=by rw[hol,qaQ];omega
  have hom:(o.map equT).length=o.length:=qaa _
  rw[<-hom]
  skip
  change _=some (.ag (.sl 1 (l[j].left.map T.s)::exC l[j].right):T)at hx
  repeat' (first|refine wkt ?_|refine wkaM ?_|refine zqo ?_|(apply TO.zaD N hcj;(iterate 3 exact rfl);exact Les.refl _;exact zgq (hN s);exact zd5 (hN s);exact hcu;exact hu s;exact zeh N _;exact hN s';exact hu s';exact zcU (hN s))|refine zqc ?_|refine zab.exit ?_|exact wkc|intro hc|refine wk2 ?_ ?_|refine wk ?_|fail)
  exact zab.zat hlt trivial (by(try dsimp only);rw[hn,qan];exact⟨rfl,rfl,rfl,rfl,rfl,trivial⟩) (by(try dsimp only);rw[hn,<-hol2];simp)
 ·exact zwj
end Go.Proofs.YtpnnpgbaiobbjaaGreatDoor
