import Derived.Shelf.LaysM
import Derived.Shelf.Strings.OnBuilder
import Derived.Shelf.Strings.Repeat
import Derived.Shelf.Strconv.Itoa3
import Derived.Shelf.SlSorted.Search
import Derived.Test.YtpnnpgbaiobbjaaGreatDoorAk17
set_option linter.all false
namespace Go.Proofs.YtpnnpgbaiobbjaaGreatDoor
open Go Go.TL
attribute [local irreducible] TR TO Then zao RetK Sound zab Kf GG zaZ
theorem zau{α β:Type}(f:β->α->β)(a:β){l:List α}{j:Nat}(h:j<l.length):(l.take (j+1)).foldl f a=f ((l.take j).foldl f a) l[j]:=by rw[zb0 h,qbm];rfl
theorem zbj{α:Type}{f:List Str->α->List Str}:∀ {l:List α} {a:List Str},zaD a->(∀a x,x∈l->zaD a->zaD (f a x))->zaD (l.foldl f a)
 | [],_,h,_=>h
 | x::l,a,h,hf=>zbj (l:=l) (hf a x (qas ..) h) fun a y hy=>hf a y (qar _ hy)
theorem zdo{α:Type}{f:List Str->α->List Str}{l:List α}{a:List Str}(h:zaD a)(hf:∀a x,x∈l->zaD a->zaD (f a x))(j:Nat):zaD ((l.take j).foldl f a):=zbj h fun a x hx=>hf a x (qaR hx)
abbrev zd7 (s:Str):Prop:=s.length≤1000000000
structure ztq (d:Decl):Prop where
 name:zd7 d.name
 ck:∀o∈d.clock,zd7 o.name
 few:d.clock.length≤100000000
theorem zcx{l:List Decl}(h:(zac l).w≤100000000):∀d∈l,ztq d:=fun d hd=>by
 have h1:=za2 hd
 refine⟨by show _≤_;omega,fun o ho=>?_,?_⟩
 ·have h2:=zav (f:=onT) (sz:=3) ho
  rw[show onT o= .ag [.s o.name,T.n o.t,T.n o.tag] from rfl,w_ag]at h2
  simp only[qaj,qay,qao,qaI,w_s]at h2
  show _≤_
  omega
 ·have h2:=zai onT 3 d.clock
  omega
theorem zex{a:List Str}{ds:List Decl}(h:zaD a)(hd:∀d∈ds,ztq d):zaD (za1 a ds):=zbj h fun a d hh ha=>zbj (ha.ins (hd d hh).name) fun a o ho ha=>ha.ins ((hd d hh).ck o ho)
def zpx(e:Ex):Prop:=∀x∈flat e,zd7 x.name
theorem zcy{e:Ex}(h:(exT e).w≤1000000000):zpx e:=fun x hx=>qaE (flat_nameF _ e (qag _) x hx) h
where
 flat_nameF:∀(m:Nat) (e:Ex),wEx e≤m->∀x∈flat e,x.name.length≤(exT e).w
 | 0,e,h=>by have:=zcn e;omega
 | m+1,e,h=>by
   intro x hx
   have he:(exT e).w=(T.ag (exC e)).w:=by rw[zay]
   have h1:e.name.length+(T.sl 6 (e.args.map exT)).w≤(exT e).w:=by
    exact zwdw
   rw[zcD]at hx
   rcases qbe.1 hx with rfl|hx
   ·omega
   ·unfold flats at hx
    obtain⟨l,hl,hxl⟩:=qcd.1 hx
    obtain⟨y,hy,rfl⟩:=qa4.1 hl
    have:=flat_nameF m y (by have:=zbP hy;omega) x hxl
    have:=zav (f:=exT) (sz:=6) hy
    omega
theorem ok_one{a:List Str}{x:Ex}(h:zaD a)(hx:zd7 x.name):zaD (oneL a x):=by
 unfold oneL
 split
 ·exact h.ins hx
 ·exact h
theorem zgM{l:List Auto}{x:Auto}{s:Sta}(hx:x∈l)(hs:s∈x.states):s.name.length+(zac s.locals).w+(T.sl 7 (s.eqs.map equT)).w+(T.sl 1 (s.autos.map zae)).w+(T.sl 8 (s.unl.map zah)).w+(T.sl 8 (s.unt.map zah)).w<(T.sl 1 (l.map zae)).w:=by
 have h1:=zav (f:=zae) (sz:=1) hx
 have h2:=zbJ x
 have h3:=zav (f:=staT) (sz:=6) hs
 rw[za8,w_ag]at h3
 simp only[qaj,qay,qao,qaI,w_s]at h3
 have h4:(zac s.locals).w=(T.sl 3 (s.locals.map zaa)).w:=rfl
 omega
theorem zjc{l:List Equ}{q:Equ}(hq:q∈l):(∀s∈q.left,s.length<(T.sl 7 (l.map equT)).w)/\(exT q.right).w<(T.sl 7 (l.map equT)).w/\q.left.length<(T.sl 7 (l.map equT)).w:=by
 have h1:=zav (f:=equT) (sz:=7) hq
 rw[show equT q= .ag (.sl 1 (q.left.map T.s)::exC q.right) from rfl,w_ag,qaj,qao]at h1
 refine⟨fun s hs=>?_,?_,?_⟩
 ·have h2:=zav (f:=T.s) (sz:=1) hs
  rw[w_s]at h2
  omega
 ·rw[zay,w_ag];omega
 ·have h2:=zai T.s 1 q.left
  omega
theorem zkn{l:List Tran}{t:Tran}(ht:t∈l):(exT t.cond).w<(T.sl 8 (l.map zah)).w:=by
 have h1:=zav (f:=zah) (sz:=8) ht
 rw[show zah t= .ag [T.n t.cond.kind,T.n t.cond.op,T.n t.cond.t,T.n t.cond.v,.s t.cond.name,.sl 6 (t.cond.args.map exT),T.n t.to,.b t.resume] from rfl,w_ag]at h1
 simp only[qaj,qay,qao,qaI]at h1
 rw[zay,w_ag]
 exact zwez
theorem zlm{qs:List Equ}(hq:(T.sl 7 (qs.map equT)).w≤100000000):∀q∈qs,∀s∈q.left,zd7 s:=fun q hh s hs=>by
 have:=(zjc hh).1 s hs
 show _≤_
 omega
theorem zrA:∀(l pre:List Ex),zbc (fun _ _=>Out.go) pre l= .go
 | [],_=>rfl
 | x::l,pre=>by simp[zbc,zrA l]
end Go.Proofs.YtpnnpgbaiobbjaaGreatDoor
namespace Go.TL
open Go
section rules
variable {P:Program}{all:Array Oper}
def zuI(g:Prop):List Oper->Prop
 | []=>g
 | _::_=>True
def zpv(P:Program)(n:Nat)(K:TK)(g:Prop)(all:Array Oper)(full:Env)(H0:Heap):List Oper->List (SV×Bool)->Prop
 | [],[]=>True
 | o::l,(v,_)::t=>(∀env,TO false P n all [o] (zas full (slotsOf all o)++env) H0 (NKP K (zuI g l) (putE o.dst v (zas full (slotsOf all o)++env)) H0))/\zpv P n K g all full H0 l t
 | _,_=>False
theorem zpv.get{n:Nat}{K:TK}{g:Prop}{full:Env}{H0:Heap}:∀ {l:List Oper} {t:List (SV×Bool)},zpv P n K g all full H0 l t->l.length=t.length/\∀(i:Nat) o v b,l[i]?=some o->t[i]?=some (v,b)->
  ∀env,TO false P n all [o] (zas full (slotsOf all o)++env) H0 (NKP K (zuI g (l.drop (i+1))) (putE o.dst v (zas full (slotsOf all o)++env)) H0)
 | [],[],_=>⟨rfl,fun i o v b h=>by simp at h⟩
 | [],_::_,h=>h.elim
 | _::_,[],h=>h.elim
 | o::l,(v,b)::t,h=>by
   obtain⟨h1,h2⟩:=h
   obtain⟨g1,g2⟩:=zpv.get h2
   refine⟨by simp[g1],fun i o' v' b' ho hv=>?_⟩
   cases i with
   | zero=>simp at ho hv;obtain⟨rfl,rfl⟩:=hv;subst ho;exact h1
   | succ i=>exact g2 i o' v' b' (by simpa using ho) (by simpa using hv)
theorem TR.zm3{g:Prop}{n:Nat}{env0 envF:Env}{H0:Heap}{K:TK}{id':Nat}{l:List Oper}(t:List (SV×Bool))(hm:P.follows .mixedOrders=true)(hB:mixB l.toArray (t.map (·.2))=true)
  (hp:zpv P n K g l.toArray (za9 l.toArray (t.map (·.1)) env0) H0 l t)(hE:zbx (za9 l.toArray (t.map (·.1)) env0)=some envF)(hne:0<l.length)(hK:g->K .normal envF H0):
  TR P n (.region id' l.toArray true) env0 H0 K:=by
 obtain⟨g1,g2⟩:=hp.get
 intro φ m a h1 h2 h3 h4
 let hs:=List.replicate (((t.map (·.2)).filter id).length+1) H0
 have hsg:∀(c:Nat) H,hs[c]?=some H->H=H0:=by
  intro c H h
  rw[qb4]at h
  split at h
  ·cases h;rfl
  ·cases h
 have hsi:∀c:Nat,c≤((t.map (·.2)).filter id).length->hs[c]?=some H0:=by
  intro c hc
  rw[qb4,if_pos (by omega)]
 have s0:Step m ⟨m.A,m.β,m.H,{ m.w with drawn:=m.w.drawn+1 }⟩/\HRel ⟨m.A,m.β,m.H,{ m.w with drawn:=m.w.drawn+1 }⟩:=zcT h2 ⟨rfl,rfl,rfl,qag _,fun _ _=>rfl⟩
 refine zbp (wpIn_region_any hm ?_)
 refine zg1 [] (G:=fun i=>zuI g (l.drop (i+1))) (vs:=t.map (·.1)) (fl:=t.map (·.2)) (hs:=hs) (HF:=H0) (m0:=m) (fun t ht=>by simp at ht) hB (by simp[g1]) (by simp[g1]) ?_ ?_ (hsi _ (qag _)) (fun hg=>by rw[zaV hE]at hK;exact hK (by have:=hg (l.length-1) (by simp;omega);rw[qa7 (by omega)]at this;exact this)) l.toArray.size (Array.replicate l.toArray.size false)
  ⟨m.A,m.β,m.H,{ m.w with drawn:=m.w.drawn+1 }⟩ a (by simp) ?_ ?_ ?_ s0.1 s0.2 ?_ (h4.step h2 s0.1)
 ·intro i o v ho hv hb c H hc _ env
  obtain⟨⟨v',b⟩,hx,rfl⟩:∃x,t[i]?=some x/\x.1=v:=by simpa using hv
  rw[hsg c H hc]
  exact g2 i o v' b (by simpa using ho) hx env
 ·intro i o v ho hv hb
  obtain⟨⟨v',b⟩,hx,rfl⟩:∃x,t[i]?=some x/\x.1=v:=by simpa using hv
  have hlt:(((t.map (·.2)).take i).filter id).length<((t.map (·.2)).filter id).length:=by
   have hm:∀(fl':List Bool) (x:Nat),fl'.getD x false=true->((fl'.take x).filter id).length<(fl'.filter id).length:=by
    exact zwbk
   exact hm _ i hb
  exact⟨H0,H0,hsi _ (by omega),hsi _ (by omega),fun env=>g2 i o v' b (by simpa using ho) hx env⟩
 ·exact zwfe
 ·exact zwci
 ·refine⟨0,fun i hi=>⟨fun h=>by omega,fun h=>?_⟩,qaK _,by rw[hsi 0 (qaK _)];simp[h1],fun j h=>?_⟩
  all_goals
   rw[qaN]at h
   split at h <;> cases h
 ·exact zwh
end rules
end Go.TL
namespace Go.Proofs.YtpnnpgbaiobbjaaGreatDoor
open Go Go.Shelf Go.Proofs
def renF:Nat->Nat
 | 104=>323
 | 109=>248
 | 110=>179
 | 129=>285
 | 145=>322
 | 171=>48
 | 207=>338
 | 211=>334
 | 217=>339
 | 219=>337
 | 220=>333
 | 224=>341
 | 225=>340
 | 243=>102
 | 246=>156
 | 266=>343
 | 267=>342
 | 283=>233
 | 284=>234
 | 285=>235
 | 286=>236
 | 314=>344
 | 317=>284
 | 318=>286
 | 319=>287
 | 320=>288
 | 337=>315
 | 338=>316
 | 347=>345
 | 348=>346
 | 349=>347
 | 350=>348
 | 351=>349
 | 352=>350
 | 353=>351
 | 354=>352
 | 355=>353
 | 356=>354
 | 357=>355
 | 358=>356
 | 359=>357
 | 360=>358
 | 361=>359
 | 366=>361
 | n=>n
def renT:Nat->Nat
 | 22=>358
 | 24=>346
 | 25=>347
 | 27=>357
 | 28=>171
 | 29=>272
 | 31=>43
 | 32=>299
 | 33=>197
 | 37=>288
 | 41=>278
 | 45=>231
 | 46=>321
 | 47=>322
 | 51=>319
 | 52=>342
 | 53=>285
 | 54=>286
 | 55=>359
 | 59=>344
 | 60=>345
 | 69=>107
 | 73=>166
 | 80=>362
 | 81=>368
 | 83=>90
 | 84=>218
 | 101=>72
 | 102=>128
 | 104=>213
 | 111=>305
 | 112=>341
 | 114=>203
 | 127=>372
 | 131=>40
 | 146=>360
 | 151=>361
 | 164=>377
 | 171=>284
 | 172=>287
 | 173=>289
 | 174=>290
 | 211=>317
 | 212=>318
 | 213=>320
 | 229=>295
 | 232=>354
 | 233=>355
 | 238=>363
 | 239=>364
 | 240=>365
 | 241=>366
 | 242=>367
 | 243=>369
 | 244=>370
 | 245=>371
 | 246=>373
 | 247=>374
 | 248=>375
 | 249=>376
 | n=>n
def renG:Nat->Nat
 | 1=>3
 | 17=>0
 | 18=>1
 | 19=>2
 | n=>n
def ren:Ren:=⟨renF,renT,renG⟩
set_option maxRecDepth 100000 in
theorem zu6:Lays.n171 Tryz.prog ren:=by
 constructor <;> first|kernel_rfl|(intro w;kernel_rfl)
set_option maxRecDepth 100000 in
theorem zvV:LaysM.n171 Tryz.prog ren:=by
 constructor <;> first|exact zu6|kernel_rfl|(intro w;kernel_rfl)
end Go.Proofs.YtpnnpgbaiobbjaaGreatDoor
namespace Go.Proofs.YtpnnpgbaiobbjaaGreatDoor
open Go Go.TL Go.Shelf
theorem zmK{w w':World}(h:RowKit.Below w.heap.size w w'):Keeps w w':=⟨h.os,h.tape,h.output,h.size,h.block⟩
theorem zpk{f:FuncId}{args:List SV}{l:Str}(hc:Callable Tryz.prog f)
  (h:∀(m:M) (vs:Array Value),HRel m->m.H=[]->ARel m args vs->Calls Tryz.prog f vs m.w fun e w'=>e= .returned (str l)/\RowKit.Below m.w.heap.size m.w w'):Pure Tryz.prog f args (.s l):=by
 unfold Go.TL.Pure Go.TL.Sound
 refine⟨hc,fun m vs h1 h2 h3=>Calls.mono (h m vs h2 h1 h3) ?_⟩
 rintro e w' ⟨rfl,hb⟩
 obtain⟨st,hm⟩:=zcT h2 (zmK hb)
 exact⟨_,.ret (.s l),rfl,st,hm,.t _ _ (.v _),rfl,h1⟩
theorem zmJ(n:Int)(h:-9223372036854775808≤n/\n≤9223372036854775807):Pure Tryz.prog 48 [.i n] (.s (Go.Lib.itoa n)):=by
 refine zpk ⟨_,Tryz.func48,by kernel_rfl,rfl⟩ fun m vs hm _ hA=>?_
 obtain⟨g1,g2⟩:=hA
 match vs,g1,g2 with
 | ⟨[x]⟩,_,g2=>
   have hx:=(g2 0 _ x rfl rfl).v_eq
   subst hx
   have ht:Go.Lib.TabIs Tryz.prog m.w "internal/strconv.uint64pow10" .u64 Go.Lib.pow10Tab:=by
    obtain⟨_,e,f,hg⟩:=hm.glob gPow powA zsM
    unfold Go.Lib.TabIs World.var?
    rw[show Tryz.prog.globalNamed "internal/strconv.uint64pow10"=some gPow by kernel_rfl]
    simp only[Option.bind_some]
    rw[hg]
    kernel_rfl
   refine Calls.mono (Go.Proofs.Any.strconv_Itoa zvV n h.1 h.2 m.w ht) ?_
   rintro e w' ⟨rfl,k,os,rfl⟩
   exact⟨rfl,Go.Proofs.below_grown_sl _ _ _ _ (qag _)⟩
end Go.Proofs.YtpnnpgbaiobbjaaGreatDoor
namespace Go.Proofs.YtpnnpgbaiobbjaaGreatDoor
open Go Go.TL
attribute [local irreducible] TR TO Then zao RetK Sound zab Kf GG zaZ
theorem zhB{u:En}(h:(enT u).w≤100000000):zd7 u.name/\(∀s∈u.tags,zd7 s)/\u.tags.length≤100000000:=by
 rw[show enT u= .ag [.s u.name,.sl 1 (u.tags.map T.s)] from rfl,w_ag]at h
 simp only[qaj,qay,qao,qaI,w_s]at h
 refine⟨by show _≤_;omega,fun s hs=>?_,?_⟩
 ·have h2:=zav (f:=T.s) (sz:=1) hs
  rw[w_s]at h2
  show _≤_
  omega
 ·have h2:=zai T.s 1 u.tags
  omega
theorem zod{n:Nod}(h:(nodT n).w≤100000000):zd7 n.name:=by
 rw[show nodT n= .ag (nodC n) from rfl,w_ag]at h
 simp only[nodC,qaj,qay,qao,qaI,w_s]at h
 show _≤_
 omega
theorem zt2{n:Nod}(h:(nodT n).w≤90000000):znq n/\(∀d∈zaB n,d.clock.length≤100000000)/\(zac (zaB n)).w≤100000000:=by
 have hw:=zdJ n
 have e:∀l:List Decl,(zac l).w=1+((l.map zaa).map T.w).sum:=fun l=>w_sl 3 _
 have h3:(zac (zaB n)).w≤(zac n.ins).w+(zac n.outs).w+(zac n.locals).w:=by
  rw[e,e,e,e]
  simp only[zaB,qaQ,qal,qbB]
  omega
 have h4:(zac (zaB n)).w≤100000000:=by omega
 have l1:=zai zaa 3 n.ins
 have l2:=zai zaa 3 n.outs
 have l3:=zai zaa 3 n.locals
 have q:∀l:List Decl,(zac l).w=(T.sl 3 (l.map zaa)).w:=fun _=>rfl
 have q1:=q n.ins
 have q2:=q n.outs
 have q3:=q n.locals
 exact⟨⟨by omega,by omega,by omega⟩,fun d hd=>(zcx h4 d hd).few,h4⟩
theorem ztD(l:List Str)(base:Str):∀(f n:Nat),n≤frs l base f n
 | 0,n=>qag _
 | f+1,n=>by
   unfold frs
   split
   ·have:=ztD l base f (n+1)
    omega
   ·exact qag _
theorem zle(n:Nat)(h:n<10 ^ 18):(Go.Lib.itoa (n:Int)).length≤30:=by
 unfold Go.Lib.itoa
 rw[if_neg (by omega)]
 have hd:∀(m u:Nat),u<10 ^ m->(Go.Lib.decDigits u).length≤m+1:=by
  intro m
  induction m with
  | zero=>intro u h;rw[Go.Lib.decDigits,dif_pos (by simp at h;omega)];simp
  | succ m ih=>
    intro u h
    rw[Go.Lib.decDigits]
    split
    ·simp
    ·have:=ih (u / 10) (by rw[Nat.pow_succ]at h;omega)
     exact zwfh
 have:=hd 18 (n:Int).toNat (by simpa using h)
 omega
end Go.Proofs.YtpnnpgbaiobbjaaGreatDoor
namespace Go.TL
open Go
section rules
variable {P:Program}{n:Nat}{env:Env}{H:Heap}{K:TK}{tab:Tab}{q:Bool}{all:Array Oper}{rest:List Oper}{d:Nat}{ty:TypeId}{pos:String}{aft:Array Edge}
theorem TO.zuK{ops:List Oper}{v v':SV}(hl:Le v v')(k:TO q P n all ops ((d,v')::env) H K):TO q P n all ops ((d,v)::env) H K:=by
 intro φ m a h1 h2 h3 h4
 refine k φ m a h1 h2 ⟨h3.1,fun j w hw=>?_⟩ h4
 by_cases hj:d=j
 ·subst hj
  rw[Env.zan]at hw
  cases hw
  obtain⟨x,x1,x2⟩:=h3.2 d v (Env.zan ..)
  exact⟨x,x1,hl m x x2⟩
 ·rw[Env.zak _ _ hj]at hw
  exact h3.2 j w (by rw[Env.zak _ _ hj];exact hw)
theorem TO.znI(hT:zaA P tab){t:TypeId}{i:TyI}{fs:List (Nat×TypeId)}{fz:List (Nat×Nat)}{parts:Array (Nat×Operand)}{ps:List (Nat×SV)}{cs:List SV}{ts:List T}{v':SV}(hd:Nat.ble (d+1) n=true)
  (ht:tab.get t=some i)(hk:i.k= .struct fs)(hz:sizes tab fs=some fz)(hp:env.parts parts.toList=some ps)(hc:zfx fz (i.zero.map .t) ps=some cs)(hts:allT cs=some ts)(hl:Le (.t (.ag ts)) v')
  (k:TO q P n all rest ((d,v')::env) H K):TO q P n all (⟨some d,.build t parts,ty,pos,aft,none⟩::rest) env H K:=
 TO.znJ hT hd ht hk hz hp hc hts (TO.zuK hl k)
end rules
theorem zly{α:Type}:∀(l:List Nat) (G bs x:List α),l.length≤bs.length->patch G l (bs++x)=patch G l bs++x
 | [],G,bs,x,_=>by simp[patch]
 | a::l,G,[],x,h=>by simp at h
 | a::l,G,b::bs,x,h=>by
   rw[qbt,patch,patch,zly l _ bs x (by simpa using h)]
section rules
variable {P:Program}{n:Nat}{env:Env}{H:Heap}{K:TK}{all:Array Oper}{rest:List Oper}
variable {d:Nat}{ty:TypeId}{pos:String}{aft:Array Edge}
theorem TO.zpO(N:Nat){Hc Hc1 H':Heap}{cargs:List SV}{sz m:Nat}{es:List T}{f:Operand}{fid:FuncId}{caps:List SV}{args:Array Operand}{ts:Array TypeId}{vs:List SV}
  (hs:Sound P fid cargs Hc fun r H'=>r= .ret (.sl sz es N)/\H'=Hc1++[.tail m])(hd:Nat.ble (d+1) n=true)(hf:env.val f=some (.fn fid caps))(ha:env.vals args.toList=some vs)(hl:Les (vs++caps) cargs)
  (hN:Nat.ble N H.length=true)(hc:H.take N=Hc)(hu:unders N cargs=true)(hb:zad N Hc=true)(h1:Hc1.length=N)(h2:zad N Hc1=true)
  (hH:zbx (Hc1++H.drop N++[.tail m])=some H')(k:TO false P n all rest ((d,.sl sz es H.length)::env) H' K):
  TO false P n all (⟨some d,.call { callee:=.value f,args:=args,argTypes:=ts },ty,pos,aft,none⟩::rest) env H K:=by
 have hN':=qai hN
 have hr:∀j,j<N->names (List.range N) H.length j=j:=fun j hj=>zd1 hj
 have hlen:Hc.length=N:=by rw[<-hc];simp;omega
 refine TO.call (List.range N) hs hd hf ha (by rw[zbn hr _ hu];exact hl) (by rw[hlen];exact hu) (zdV hN' hc hb) (fun v Hc' h=>?_) (fun v Hc' h=>?_)
 ·obtain⟨g1,rfl⟩:=h
  cases g1
  rw[qal,zfh hr Hc1 h2,zly _ _ _ _ (by simp;omega),zd3 h1 hN']
  have hn:names (List.range N) H.length N=H.length:=by rw[zfN (by simp)];simp
  simp only[SV.ren,qaj,qay,Blk.ren,hn]
  rw[<-zaV hH]
  exact k
 ·cases h.1
theorem TO.zjG(N:Nat){Hc Hc1 H':Heap}{cargs:List SV}{sz m:Nat}{es:List T}{f:Operand}{fid:FuncId}{caps:List SV}{args:Array Operand}{ts:Array TypeId}{vs:List SV}
  (hs:Sound P fid cargs Hc fun r H'=>r= .ret (.sl sz es N)/\H'=Hc1++[.tail m])(hd:Nat.ble (d+1) n=true)(hf:env.val f=some (.fn fid caps))(ha:env.vals args.toList=some vs)(hl:Les (vs++caps) cargs)
  (hN:Nat.ble N H.length=true)(hc:H.take N=Hc)(hu:unders N cargs=true)(hb:zad N Hc=true)(h1:Hc1.length=N)(h2:zad N Hc1=true)
  (hH:zbx (Hc1++H.drop N++[.tail m])=some H')(k:TO false P n all rest ((d,.t (.sl sz es))::env) H' K):
  TO false P n all (⟨some d,.call { callee:=.value f,args:=args,argTypes:=ts },ty,pos,aft,none⟩::rest) env H K:=
 TO.zpO N hs hd hf ha hl hN hc hu hb h1 h2 hH (TO.zuK (Le.own _ _ _) k)
end rules
end Go.TL
namespace Go.Proofs.YtpnnpgbaiobbjaaGreatDoor
open Go Go.TL
attribute [local irreducible] TR TO Then zao RetK Sound zab Kf GG zaZ
def mapN{σ α β:Type}(f:Nat->σ->α->σ×β):Nat->σ->List α->σ×List β
 | _,s,[]=>(s,[])
 | i,s,x::l=>((mapN f (i+1) (f i s x).1 l).1,(f i s x).2::(mapN f (i+1) (f i s x).1 l).2)
theorem zn4{σ α β:Type}(f:Nat->σ->α->σ×β):∀(l k:List α) (i:Nat) (s:σ),mapN f i s (l++k)=((mapN f (i+l.length) (mapN f i s l).1 k).1,(mapN f i s l).2++(mapN f (i+l.length) (mapN f i s l).1 k).2)
 | [],k,i,s=>rfl
 | x::l,k,i,s=>by
   rw[qbt]
   simp only[mapN]
   rw[zn4 f l k,qam,show i+1+l.length=i+(l.length+1) by omega]
   rfl
theorem zcV{σ α β:Type}(f:Nat->σ->α->σ×β)(s:σ){l:List α}{j:Nat}(h:j<l.length):mapN f 0 s (l.take (j+1))=((f j (mapN f 0 s (l.take j)).1 l[j]).1,(mapN f 0 s (l.take j)).2++[(f j (mapN f 0 s (l.take j)).1 l[j]).2]):=by
 rw[zb0 h,zn4]
 have e:0+(l.take j).length=j:=by rw[qaV];omega
 rw[e]
 rfl
theorem zb9{σ α β:Type}(f:Nat->σ->α->σ×β):∀(l:List α) (i:Nat) (s:σ),(mapN f i s l).2.length=l.length
 | [],_,_=>rfl
 | x::l,i,s=>by unfold mapN;simp only[qam];rw[zb9 f l]
theorem zb8{σ α β:Type}{f:Nat->σ->α->σ×β}{I:Nat->σ->Prop}{l:List α}(h:∀i s x,l[i]?=some x->I i s->I (i+1) (f i s x).1){s:σ}(h0:I 0 s):∀(j:Nat),j≤l.length->I j (mapN f 0 s (l.take j)).1
 | 0,_=>h0
 | j+1,hj=>by
   rw[zcV f s hj]
   exact h j _ _ (qac hj) (zb8 h h0 j (by omega))
theorem zgG{H:Heap}{b:Blk}{N:Nat}(h:H.length=N):Nat.ble N (H++[b]).length=true:=by simp[h,Nat.ble_eq]
theorem zer{H:Heap}{b:Blk}{N:Nat}(h:H.length=N):(H++[b]).take N=H:=by subst h;simp
theorem zc8{H H1:Heap}{b:Blk}{N:Nat}(h:H.length=N):zbx (H1++(H++[b]).drop N)=some (H1++[b]):=by subst h;rw[za6];simp
theorem zvz{H:Heap}{b:Blk}{N:Nat}(h:H.length=N):(H++[b])[N]?=some b:=by subst h;simp
theorem zvA{H:Heap}{b c:Blk}{N:Nat}(h:H.length=N):(H++[b]).set N c=H++[c]:=by subst h;simp
theorem zeA(k:Nat)(x:T):(SV.t x).under k=true:=rfl
mutual
theorem zgk {k k':Nat} (h:k≤k'):∀s:SV,s.under k=true->s.under k'=true
 | .t _,_| .cp _ _,_| .any,_=>rfl
 | .sl _ _ id,hs| .ms _ id _ _,hs| .ref id _,hs| .tref _ _ id _,hs| .rw id _,hs| .mp id,hs| .yl id,hs=>by
   simp only[SV.under,qbo]at hs⊢
   omega
 | .ag cs,hs| .tup cs,hs| .fn _ cs,hs| .bnd _ cs,hs=>by
   simp only[SV.under]at hs⊢
   exact zfe h cs hs
 | .ifc _ x,hs=>by
   simp only[SV.under]at hs⊢
   exact zgk h x hs
theorem zfe {k k':Nat} (h:k≤k'):∀l:List SV,unders k l=true->unders k' l=true
 | [],_=>rfl
 | x::l,hs=>by
   simp only[unders,qaz]at hs⊢
   exact⟨zgk h x hs.1,zfe h l hs.2⟩
end
theorem zjF{k k':Nat}(h:k≤k'):∀b:Blk,b.under k=true->b.under k'=true
 | .cells cs,hs=>zfe h cs hs
 | .tail _,_| .row _ _,_| .map _ _ _,_| .dead,_=>rfl
 | .loop _ _ _ _ env _ _ _,hs=>by
   simp only[Blk.under,qaB]at hs⊢
   exact fun x hx=>zgk h _ (hs x hx)
theorem zeW{k k':Nat}(h:k≤k'):∀ {H:Heap},zad k H=true->zad k' H=true
 | [],_=>rfl
 | b::H,hs=>by
   simp only[zad,qaz]at hs⊢
   exact⟨zjF h b hs.1,zeW h hs.2⟩
theorem wkaM{G Q:Prop}(k:Q)(h:Hold Q->G:=by
  (intro k;apply TO.zpC zag;(iterate 9 exact rfl);exact leB;exact k.p)):G:=h ⟨k⟩
abbrev chT (c:Ex×Ex):T:=.ag (exC c.1++exC c.2)
set_option maxHeartbeats 4000000 in
theorem zmT {σ:Type} (Hs:σ->Heap) (N:Nat) (hN:∀s,(Hs s).length=N) (hu:∀s,zad N (Hs s)=true) (fid:FuncId) (caps:List SV) (hcu:unders N caps=true) (g:Nat->σ->Tran->σ×(Str)) (I:Nat->σ->Prop) (l:List Tran) (hl:l.length≤1000000000)
  (hc:∀(i:Nat) (s:σ) (x:Tran),l[i]?=some x->I i s->Sound Tryz.prog fid (.i (i:Int):: .t (zah x)::caps) (Hs s) (fun r H'=>r= .ret (.t (T.s (g i s x).2))/\H'=Hs (g i s x).1))
  (hI:∀i s x,l[i]?=some x->I i s->I (i+1) (g i s x).1) (s0:σ) (h0:I 0 s0):
  Sound Tryz.prog 176 [.t (.sl 8 (l.map zah)),.fn fid caps] (Hs s0) (fun r H'=>r= .ret (.sl 1 ((mapN g 0 s0 l).2.map T.s) N)/\H'=Hs (mapN g 0 s0 l).1++[.tail l.length]):=by
 have hml:(l.map zah).length=l.length:=qaa _
 have hinv:=zb8 (f:=g) (l:=l) hI h0
 have hlen:=fun k=>zb9 g k 0 s0
 refine so Tryz.func176 ?_
 repeat' (first|refine wkt ?_|fail)
 refine TR.tail 1 5 rfl ?_
 rw[hN s0]
 refine TR.zal l.length (fun _=>True) (fun j=>[(1,.fn fid caps),(5,.sl 1 ((mapN g 0 s0 (l.take j)).2.map T.s) N),(8,.t (.sl 8 (l.map zah))),(9,.i l.length),(10,.i j)]) (fun j=>Hs (mapN g 0 s0 (l.take j)).1++[.tail (l.take j).length]) trivial (fun j hlt _=>?_) (fun _=>?_) ⟨rfl,rfl,rfl,by rw[<-hml];rfl,rfl,trivial⟩ rfl
 ·have hx:=zar zah hlt
  have hn:=zcV g s0 hlt
  have hat:l[j]?=some l[j]:=qac hlt
  have hi:=hinv j (qbs hlt)
  have hol:=hlen (l.take j)
  rw[<-hol]
  have hol2:=hlen (l.take (j+1))
  rw[hn]at hol2
  generalize mapN g 0 s0 (l.take j)=so at*
  obtain⟨s,o⟩:=so
  dsimp only at*
  have hcj:=hc j s l[j] hat hi
  clear hc hI hinv hat
  generalize g j s l[j]=gx at*
  obtain⟨s',y⟩:=gx
  dsimp only at*
  have hob:o.length≤1000000000:=by rw[hol,qaV];omega
  have hom:(o.map T.s).length=o.length:=qaa _
  exact zwe
 ·exact zwj
set_option maxHeartbeats 4000000 in
theorem zhT {σ:Type} (Hs:σ->Heap) (N:Nat) (hN:∀s,(Hs s).length=N) (hu:∀s,zad N (Hs s)=true) (fid:FuncId) (caps:List SV) (hcu:unders N caps=true) (g:Nat->σ->Decl->σ×(Str)) (I:Nat->σ->Prop) (l:List Decl) (hl:l.length≤1000000000)
  (hc:∀(i:Nat) (s:σ) (x:Decl),l[i]?=some x->I i s->Sound Tryz.prog fid (.i (i:Int):: .t (zaa x)::caps) (Hs s) (fun r H'=>r= .ret (.t (T.s (g i s x).2))/\H'=Hs (g i s x).1))
  (hI:∀i s x,l[i]?=some x->I i s->I (i+1) (g i s x).1) (s0:σ) (h0:I 0 s0):
  Sound Tryz.prog 187 [.t (.sl 3 (l.map zaa)),.fn fid caps] (Hs s0) (fun r H'=>r= .ret (.sl 1 ((mapN g 0 s0 l).2.map T.s) N)/\H'=Hs (mapN g 0 s0 l).1++[.tail l.length]):=by
 have hml:(l.map zaa).length=l.length:=qaa _
 have hinv:=zb8 (f:=g) (l:=l) hI h0
 have hlen:=fun k=>zb9 g k 0 s0
 refine so Tryz.func187 ?_
 repeat' (first|refine wkt ?_|fail)
 refine TR.tail 1 5 rfl ?_
 rw[hN s0]
 refine TR.zal l.length (fun _=>True) (fun j=>[(1,.fn fid caps),(5,.sl 1 ((mapN g 0 s0 (l.take j)).2.map T.s) N),(8,.t (.sl 3 (l.map zaa))),(9,.i l.length),(10,.i j)]) (fun j=>Hs (mapN g 0 s0 (l.take j)).1++[.tail (l.take j).length]) trivial (fun j hlt _=>?_) (fun _=>?_) ⟨rfl,rfl,rfl,by rw[<-hml];rfl,rfl,trivial⟩ rfl
 ·have hx:=zar zaa hlt
  have hn:=zcV g s0 hlt
  have hat:l[j]?=some l[j]:=qac hlt
  have hi:=hinv j (qbs hlt)
  have hol:=hlen (l.take j)
  rw[<-hol]
  have hol2:=hlen (l.take (j+1))
  rw[hn]at hol2
  generalize mapN g 0 s0 (l.take j)=so at*
  obtain⟨s,o⟩:=so
  dsimp only at*
  have hcj:=hc j s l[j] hat hi
  clear hc hI hinv hat
  generalize g j s l[j]=gx at*
  obtain⟨s',y⟩:=gx
  dsimp only at*
  have hob:o.length≤1000000000:=by rw[hol,qaV];omega
  have hom:(o.map T.s).length=o.length:=qaa _
  exact zwf
 ·exact zwj
set_option maxHeartbeats 4000000 in
theorem zmS {σ:Type} (Hs:σ->Heap) (N:Nat) (hN:∀s,(Hs s).length=N) (hu:∀s,zad N (Hs s)=true) (fid:FuncId) (caps:List SV) (hcu:unders N caps=true) (g:Nat->σ->Sta->σ×(Ex)) (I:Nat->σ->Prop) (l:List Sta) (hl:l.length≤1000000000)
  (hc:∀(i:Nat) (s:σ) (x:Sta),l[i]?=some x->I i s->Sound Tryz.prog fid (.i (i:Int):: .t (staT x)::caps) (Hs s) (fun r H'=>r= .ret (.t (exT (g i s x).2))/\H'=Hs (g i s x).1))
  (hI:∀i s x,l[i]?=some x->I i s->I (i+1) (g i s x).1) (s0:σ) (h0:I 0 s0):
  Sound Tryz.prog 249 [.t (.sl 6 (l.map staT)),.fn fid caps] (Hs s0) (fun r H'=>r= .ret (.sl 6 ((mapN g 0 s0 l).2.map exT) N)/\H'=Hs (mapN g 0 s0 l).1++[.tail l.length]):=by
 have hml:(l.map staT).length=l.length:=qaa _
 have hinv:=zb8 (f:=g) (l:=l) hI h0
 have hlen:=fun k=>zb9 g k 0 s0
 refine so Tryz.func249 ?_
 repeat' (first|refine wkt ?_|fail)
 refine TR.tail 6 5 rfl ?_
 rw[hN s0]
 refine TR.zal l.length (fun _=>True) (fun j=>[(1,.fn fid caps),(5,.sl 6 ((mapN g 0 s0 (l.take j)).2.map exT) N),(8,.t (.sl 6 (l.map staT))),(9,.i l.length),(10,.i j)]) (fun j=>Hs (mapN g 0 s0 (l.take j)).1++[.tail (l.take j).length]) trivial (fun j hlt _=>?_) (fun _=>?_) ⟨rfl,rfl,rfl,by rw[<-hml];rfl,rfl,trivial⟩ rfl
 ·have hx:=zar staT hlt
  have hn:=zcV g s0 hlt
  have hat:l[j]?=some l[j]:=qac hlt
  have hi:=hinv j (qbs hlt)
  have hol:=hlen (l.take j)
  rw[<-hol]
  have hol2:=hlen (l.take (j+1))
  rw[hn]at hol2
  generalize mapN g 0 s0 (l.take j)=so at*
  obtain⟨s,o⟩:=so
  dsimp only at*
  have hcj:=hc j s l[j] hat hi
  clear hc hI hinv hat
  generalize g j s l[j]=gx at*
  obtain⟨s',y⟩:=gx
  dsimp only at*
  have hob:o.length≤1000000000:=by rw[hol,qaV];omega
  have hom:(o.map exT).length=o.length:=qaa _
  rw[<-hom]
  rw[zay]at hcj
  rw[za8]at hx hcj
  repeat' (first|refine wkt ?_|refine wkaM ?_|refine zqp ?_|(apply TO.zaE N hcj;(iterate 3 exact rfl);exact Les.refl _;exact zgG (hN s);exact zer (hN s);exact hcu;exact hu s;exact zeA N _;exact hN s';exact hu s';exact zc8 (hN s))|refine zqc ?_|refine zab.exit ?_|exact wkc|intro hc|refine wk2 ?_ ?_|refine wk ?_|fail)
  exact zwbf
 ·exact zwj
set_option maxHeartbeats 4000000 in
theorem zhV {σ:Type} (Hs:σ->Heap) (N:Nat) (hN:∀s,(Hs s).length=N) (hu:∀s,zad N (Hs s)=true) (fid:FuncId) (caps:List SV) (hcu:unders N caps=true) (g:Nat->σ->Tran->σ×(Ex×Ex)) (I:Nat->σ->Prop) (l:List Tran) (hl:l.length≤1000000000)
  (hc:∀(i:Nat) (s:σ) (x:Tran),l[i]?=some x->I i s->Sound Tryz.prog fid (.i (i:Int):: .t (zah x)::caps) (Hs s) (fun r H'=>r= .ret (.t (chT (g i s x).2))/\H'=Hs (g i s x).1))
  (hI:∀i s x,l[i]?=some x->I i s->I (i+1) (g i s x).1) (s0:σ) (h0:I 0 s0):
  Sound Tryz.prog 250 [.t (.sl 8 (l.map zah)),.fn fid caps] (Hs s0) (fun r H'=>r= .ret (.sl 12 ((mapN g 0 s0 l).2.map chT) N)/\H'=Hs (mapN g 0 s0 l).1++[.tail l.length]):=by
 have hml:(l.map zah).length=l.length:=qaa _
 have hinv:=zb8 (f:=g) (l:=l) hI h0
 have hlen:=fun k=>zb9 g k 0 s0
 refine so Tryz.func250 ?_
 repeat' (first|refine wkt ?_|fail)
 refine TR.tail 12 5 rfl ?_
 rw[hN s0]
 refine TR.zal l.length (fun _=>True) (fun j=>[(1,.fn fid caps),(5,.sl 12 ((mapN g 0 s0 (l.take j)).2.map chT) N),(8,.t (.sl 8 (l.map zah))),(9,.i l.length),(10,.i j)]) (fun j=>Hs (mapN g 0 s0 (l.take j)).1++[.tail (l.take j).length]) trivial (fun j hlt _=>?_) (fun _=>?_) ⟨rfl,rfl,rfl,by rw[<-hml];rfl,rfl,trivial⟩ rfl
 ·have hx:=zar zah hlt
  have hn:=zcV g s0 hlt
  have hat:l[j]?=some l[j]:=qac hlt
  have hi:=hinv j (qbs hlt)
  have hol:=hlen (l.take j)
  rw[<-hol]
  have hol2:=hlen (l.take (j+1))
  rw[hn]at hol2
  generalize mapN g 0 s0 (l.take j)=so at*
  obtain⟨s,o⟩:=so
  dsimp only at*
  have hcj:=hc j s l[j] hat hi
  clear hc hI hinv hat
  generalize g j s l[j]=gx at*
  obtain⟨s',y⟩:=gx
  dsimp only at*
  have hob:o.length≤1000000000:=by rw[hol,qaV];omega
  have hom:(o.map chT).length=o.length:=qaa _
  exact zwe
 ·exact zwj
set_option maxHeartbeats 4000000 in
theorem zmO {σ:Type} (Hs:σ->Heap) (N:Nat) (hN:∀s,(Hs s).length=N) (hu:∀s,zad N (Hs s)=true) (fid:FuncId) (caps:List SV) (hcu:unders N caps=true) (g:Nat->σ->Decl->σ×(Ex)) (I:Nat->σ->Prop) (l:List Decl) (hl:l.length≤1000000000)
  (hc:∀(i:Nat) (s:σ) (x:Decl),l[i]?=some x->I i s->Sound Tryz.prog fid (.i (i:Int):: .t (zaa x)::caps) (Hs s) (fun r H'=>r= .ret (.t (exT (g i s x).2))/\H'=Hs (g i s x).1))
  (hI:∀i s x,l[i]?=some x->I i s->I (i+1) (g i s x).1) (s0:σ) (h0:I 0 s0):
  Sound Tryz.prog 197 [.t (.sl 3 (l.map zaa)),.fn fid caps] (Hs s0) (fun r H'=>r= .ret (.sl 6 ((mapN g 0 s0 l).2.map exT) N)/\H'=Hs (mapN g 0 s0 l).1++[.tail l.length]):=by
 have hml:(l.map zaa).length=l.length:=qaa _
 have hinv:=zb8 (f:=g) (l:=l) hI h0
 have hlen:=fun k=>zb9 g k 0 s0
 refine so Tryz.func197 ?_
 repeat' (first|refine wkt ?_|fail)
 refine TR.tail 6 5 rfl ?_
 rw[hN s0]
 refine TR.zal l.length (fun _=>True) (fun j=>[(1,.fn fid caps),(5,.sl 6 ((mapN g 0 s0 (l.take j)).2.map exT) N),(8,.t (.sl 3 (l.map zaa))),(9,.i l.length),(10,.i j)]) (fun j=>Hs (mapN g 0 s0 (l.take j)).1++[.tail (l.take j).length]) trivial (fun j hlt _=>?_) (fun _=>?_) ⟨rfl,rfl,rfl,by rw[<-hml];rfl,rfl,trivial⟩ rfl
 ·have hx:=zar zaa hlt
  have hn:=zcV g s0 hlt
  have hat:l[j]?=some l[j]:=qac hlt
  have hi:=hinv j (qbs hlt)
  have hol:=hlen (l.take j)
  rw[<-hol]
  have hol2:=hlen (l.take (j+1))
  rw[hn]at hol2
  generalize mapN g 0 s0 (l.take j)=so at*
  obtain⟨s,o⟩:=so
  dsimp only at*
  have hcj:=hc j s l[j] hat hi
  clear hc hI hinv hat
  generalize g j s l[j]=gx at*
  obtain⟨s',y⟩:=gx
  dsimp only at*
  have hob:o.length≤1000000000:=by rw[hol,qaV];omega
  have hom:(o.map exT).length=o.length:=qaa _
  rw[<-hom]
  rw[zay]at hcj
  change _=some (.ag [.s l[j].name,T.n l[j].ty,.sl 3 (l[j].clock.map onT)]:T)at hx
  repeat' (first|refine wkt ?_|refine wkaM ?_|refine zqp ?_|(apply TO.zaE N hcj;(iterate 3 exact rfl);exact Les.refl _;exact zgG (hN s);exact zer (hN s);exact hcu;exact hu s;exact zeA N _;exact hN s';exact hu s';exact zc8 (hN s))|refine zqc ?_|refine zab.exit ?_|exact wkc|intro hc|refine wk2 ?_ ?_|refine wk ?_|fail)
  exact zwbf
 ·exact zwj
set_option maxHeartbeats 4000000 in
theorem zmN {σ:Type} (Hs:σ->Heap) (N:Nat) (hN:∀s,(Hs s).length=N) (hu:∀s,zad N (Hs s)=true) (fid:FuncId) (caps:List SV) (hcu:unders N caps=true) (g:Nat->σ->Decl->σ×(Decl)) (I:Nat->σ->Prop) (l:List Decl) (hl:l.length≤1000000000)
  (hc:∀(i:Nat) (s:σ) (x:Decl),l[i]?=some x->I i s->Sound Tryz.prog fid (.i (i:Int):: .t (zaa x)::caps) (Hs s) (fun r H'=>r= .ret (.t (zaa (g i s x).2))/\H'=Hs (g i s x).1))
  (hI:∀i s x,l[i]?=some x->I i s->I (i+1) (g i s x).1) (s0:σ) (h0:I 0 s0):
  Sound Tryz.prog 130 [.t (.sl 3 (l.map zaa)),.fn fid caps] (Hs s0) (fun r H'=>r= .ret (.sl 3 ((mapN g 0 s0 l).2.map zaa) N)/\H'=Hs (mapN g 0 s0 l).1++[.tail l.length]):=by
 have hml:(l.map zaa).length=l.length:=qaa _
 have hinv:=zb8 (f:=g) (l:=l) hI h0
 have hlen:=fun k=>zb9 g k 0 s0
 refine so Tryz.func130 ?_
 repeat' (first|refine wkt ?_|fail)
 refine TR.tail 3 5 rfl ?_
 rw[hN s0]
 refine TR.zal l.length (fun _=>True) (fun j=>[(1,.fn fid caps),(5,.sl 3 ((mapN g 0 s0 (l.take j)).2.map zaa) N),(8,.t (.sl 3 (l.map zaa))),(9,.i l.length),(10,.i j)]) (fun j=>Hs (mapN g 0 s0 (l.take j)).1++[.tail (l.take j).length]) trivial (fun j hlt _=>?_) (fun _=>?_) ⟨rfl,rfl,rfl,by rw[<-hml];rfl,rfl,trivial⟩ rfl
 ·have hx:=zar zaa hlt
  have hn:=zcV g s0 hlt
  have hat:l[j]?=some l[j]:=qac hlt
  have hi:=hinv j (qbs hlt)
  have hol:=hlen (l.take j)
  rw[<-hol]
  have hol2:=hlen (l.take (j+1))
  rw[hn]at hol2
  generalize mapN g 0 s0 (l.take j)=so at*
  obtain⟨s,o⟩:=so
  dsimp only at*
  have hcj:=hc j s l[j] hat hi
  clear hc hI hinv hat
  generalize g j s l[j]=gx at*
  obtain⟨s',y⟩:=gx
  dsimp only at*
  have hob:o.length≤1000000000:=by rw[hol,qaV];omega
  have hom:(o.map zaa).length=o.length:=qaa _
  exact zwf
 ·exact zwj
set_option maxHeartbeats 4000000 in
theorem zmP {σ:Type} (Hs:σ->Heap) (N:Nat) (hN:∀s,(Hs s).length=N) (hu:∀s,zad N (Hs s)=true) (fid:FuncId) (caps:List SV) (hcu:unders N caps=true) (g:Nat->σ->Ex->σ×(Ex)) (I:Nat->σ->Prop) (l:List Ex) (hl:l.length≤1000000000)
  (hc:∀(i:Nat) (s:σ) (x:Ex),l[i]?=some x->I i s->Sound Tryz.prog fid (.i (i:Int):: .t (exT x)::caps) (Hs s) (fun r H'=>r= .ret (.t (exT (g i s x).2))/\H'=Hs (g i s x).1))
  (hI:∀i s x,l[i]?=some x->I i s->I (i+1) (g i s x).1) (s0:σ) (h0:I 0 s0):
  Sound Tryz.prog 128 [.t (.sl 6 (l.map exT)),.fn fid caps] (Hs s0) (fun r H'=>r= .ret (.sl 6 ((mapN g 0 s0 l).2.map exT) N)/\H'=Hs (mapN g 0 s0 l).1++[.tail l.length]):=by
 have hml:(l.map exT).length=l.length:=qaa _
 have hinv:=zb8 (f:=g) (l:=l) hI h0
 have hlen:=fun k=>zb9 g k 0 s0
 refine so Tryz.func128 ?_
 repeat' (first|refine wkt ?_|fail)
 refine TR.tail 6 5 rfl ?_
 rw[hN s0]
 refine TR.zal l.length (fun _=>True) (fun j=>[(1,.fn fid caps),(5,.sl 6 ((mapN g 0 s0 (l.take j)).2.map exT) N),(8,.t (.sl 6 (l.map exT))),(9,.i l.length),(10,.i j)]) (fun j=>Hs (mapN g 0 s0 (l.take j)).1++[.tail (l.take j).length]) trivial (fun j hlt _=>?_) (fun _=>?_) ⟨rfl,rfl,rfl,by rw[<-hml];rfl,rfl,trivial⟩ rfl
 ·have hx:=zar exT hlt
  have hn:=zcV g s0 hlt
  have hat:l[j]?=some l[j]:=qac hlt
  have hi:=hinv j (qbs hlt)
  have hol:=hlen (l.take j)
  rw[<-hol]
  have hol2:=hlen (l.take (j+1))
  rw[hn]at hol2
  generalize mapN g 0 s0 (l.take j)=so at*
  obtain⟨s,o⟩:=so
  dsimp only at*
  have hcj:=hc j s l[j] hat hi
  clear hc hI hinv hat
  generalize g j s l[j]=gx at*
  obtain⟨s',y⟩:=gx
  dsimp only at*
  have hob:o.length≤1000000000:=by rw[hol,qaV];omega
  have hom:(o.map exT).length=o.length:=qaa _
  rw[<-hom]
  rw[zay]at hcj
  rw[zay]at hx hcj
  repeat' (first|refine wkt ?_|refine wkaM ?_|refine zqp ?_|(apply TO.zaE N hcj;(iterate 3 exact rfl);exact Les.refl _;exact zgG (hN s);exact zer (hN s);exact hcu;exact hu s;exact zeA N _;exact hN s';exact hu s';exact zc8 (hN s))|refine zqc ?_|refine zab.exit ?_|exact wkc|intro hc|refine wk2 ?_ ?_|refine wk ?_|fail)
  exact zwbf
 ·exact zwj
set_option maxHeartbeats 4000000 in
theorem zmU {σ:Type} (Hs:σ->Heap) (N:Nat) (hN:∀s,(Hs s).length=N) (hu:∀s,zad N (Hs s)=true) (fid:FuncId) (caps:List SV) (hcu:unders N caps=true) (g:Nat->σ->En->σ×(En)) (I:Nat->σ->Prop) (l:List En) (hl:l.length≤1000000000)
  (hc:∀(i:Nat) (s:σ) (x:En),l[i]?=some x->I i s->Sound Tryz.prog fid (.i (i:Int):: .t (enT x)::caps) (Hs s) (fun r H'=>r= .ret (.t (enT (g i s x).2))/\H'=Hs (g i s x).1))
  (hI:∀i s x,l[i]?=some x->I i s->I (i+1) (g i s x).1) (s0:σ) (h0:I 0 s0):
  Sound Tryz.prog 74 [.t (.sl 2 (l.map enT)),.fn fid caps] (Hs s0) (fun r H'=>r= .ret (.sl 2 ((mapN g 0 s0 l).2.map enT) N)/\H'=Hs (mapN g 0 s0 l).1++[.tail l.length]):=by
 have hml:(l.map enT).length=l.length:=qaa _
 have hinv:=zb8 (f:=g) (l:=l) hI h0
 have hlen:=fun k=>zb9 g k 0 s0
 refine so Tryz.func74 ?_
 repeat' (first|refine wkt ?_|fail)
 refine TR.tail 2 5 rfl ?_
 rw[hN s0]
 refine TR.zal l.length (fun _=>True) (fun j=>[(1,.fn fid caps),(5,.sl 2 ((mapN g 0 s0 (l.take j)).2.map enT) N),(8,.t (.sl 2 (l.map enT))),(9,.i l.length),(10,.i j)]) (fun j=>Hs (mapN g 0 s0 (l.take j)).1++[.tail (l.take j).length]) trivial (fun j hlt _=>?_) (fun _=>?_) ⟨rfl,rfl,rfl,by rw[<-hml];rfl,rfl,trivial⟩ rfl
 ·have hx:=zar enT hlt
  have hn:=zcV g s0 hlt
  have hat:l[j]?=some l[j]:=qac hlt
  have hi:=hinv j (qbs hlt)
  have hol:=hlen (l.take j)
  rw[<-hol]
  have hol2:=hlen (l.take (j+1))
  rw[hn]at hol2
  generalize mapN g 0 s0 (l.take j)=so at*
  obtain⟨s,o⟩:=so
  dsimp only at*
  have hcj:=hc j s l[j] hat hi
  clear hc hI hinv hat
  generalize g j s l[j]=gx at*
  obtain⟨s',y⟩:=gx
  dsimp only at*
  have hob:o.length≤1000000000:=by rw[hol,qaV];omega
  have hom:(o.map enT).length=o.length:=qaa _
  rw[<-hom]
  skip
  change _=some (.ag [.s l[j].name,.sl 1 (l[j].tags.map T.s)]:T)at hx
  repeat' (first|refine wkt ?_|refine wkaM ?_|refine zqp ?_|(apply TO.zaE N hcj;(iterate 3 exact rfl);exact Les.refl _;exact zgG (hN s);exact zer (hN s);exact hcu;exact hu s;exact zeA N _;exact hN s';exact hu s';exact zc8 (hN s))|refine zqc ?_|refine zab.exit ?_|exact wkc|intro hc|refine wk2 ?_ ?_|refine wk ?_|fail)
  exact zab.zat hlt trivial (by(try dsimp only);rw[hn,qal];exact⟨rfl,rfl,rfl,rfl,rfl,trivial⟩) (by(try dsimp only);rw[hn,<-hol2];simp)
 ·exact zwj
set_option maxHeartbeats 4000000 in
theorem zmQ {σ:Type} (Hs:σ->Heap) (N:Nat) (hN:∀s,(Hs s).length=N) (hu:∀s,zad N (Hs s)=true) (fid:FuncId) (caps:List SV) (hcu:unders N caps=true) (g:Nat->σ->Nod->σ×(Nod)) (I:Nat->σ->Prop) (l:List Nod) (hl:l.length≤1000000000)
  (hc:∀(i:Nat) (s:σ) (x:Nod),l[i]?=some x->I i s->Sound Tryz.prog fid (.i (i:Int):: .t (nodT x)::caps) (Hs s) (fun r H'=>r= .ret (.t (nodT (g i s x).2))/\H'=Hs (g i s x).1))
  (hI:∀i s x,l[i]?=some x->I i s->I (i+1) (g i s x).1) (s0:σ) (h0:I 0 s0):
  Sound Tryz.prog 77 [.t (.sl 8 (l.map nodT)),.fn fid caps] (Hs s0) (fun r H'=>r= .ret (.sl 8 ((mapN g 0 s0 l).2.map nodT) N)/\H'=Hs (mapN g 0 s0 l).1++[.tail l.length]):=by
 have hml:(l.map nodT).length=l.length:=qaa _
 have hinv:=zb8 (f:=g) (l:=l) hI h0
 have hlen:=fun k=>zb9 g k 0 s0
 refine so Tryz.func77 ?_
 repeat' (first|refine wkt ?_|fail)
 refine TR.tail 8 5 rfl ?_
 rw[hN s0]
 refine TR.zal l.length (fun _=>True) (fun j=>[(1,.fn fid caps),(5,.sl 8 ((mapN g 0 s0 (l.take j)).2.map nodT) N),(8,.t (.sl 8 (l.map nodT))),(9,.i l.length),(10,.i j)]) (fun j=>Hs (mapN g 0 s0 (l.take j)).1++[.tail (l.take j).length]) trivial (fun j hlt _=>?_) (fun _=>?_) ⟨rfl,rfl,rfl,by rw[<-hml];rfl,rfl,trivial⟩ rfl
 ·have hx:=zar nodT hlt
  have hn:=zcV g s0 hlt
  have hat:l[j]?=some l[j]:=qac hlt
  have hi:=hinv j (qbs hlt)
  have hol:=hlen (l.take j)
  rw[<-hol]
  have hol2:=hlen (l.take (j+1))
  rw[hn]at hol2
  generalize mapN g 0 s0 (l.take j)=so at*
  obtain⟨s,o⟩:=so
  dsimp only at*
  have hcj:=hc j s l[j] hat hi
  clear hc hI hinv hat
  generalize g j s l[j]=gx at*
  obtain⟨s',y⟩:=gx
  dsimp only at*
  have hob:o.length≤1000000000:=by rw[hol,qaV];omega
  have hom:(o.map nodT).length=o.length:=qaa _
  rw[<-hom]
  skip
  change _=some (.ag (nodC l[j]):T)at hx
  repeat' (first|refine wkt ?_|refine wkaM ?_|refine zqp ?_|(apply TO.zaE N hcj;(iterate 3 exact rfl);exact Les.refl _;exact zgG (hN s);exact zer (hN s);exact hcu;exact hu s;exact zeA N _;exact hN s';exact hu s';exact zc8 (hN s))|refine zqc ?_|refine zab.exit ?_|exact wkc|intro hc|refine wk2 ?_ ?_|refine wk ?_|fail)
  exact zab.zat hlt trivial (by(try dsimp only);rw[hn,qal];exact⟨rfl,rfl,rfl,rfl,rfl,trivial⟩) (by(try dsimp only);rw[hn,<-hol2];simp)
 ·exact zwj
set_option maxHeartbeats 4000000 in
theorem zmR {σ:Type} (Hs:σ->Heap) (N:Nat) (hN:∀s,(Hs s).length=N) (hu:∀s,zad N (Hs s)=true) (fid:FuncId) (caps:List SV) (hcu:unders N caps=true) (g:Nat->σ->Equ->σ×(Equ)) (I:Nat->σ->Prop) (l:List Equ) (hl:l.length≤1000000000)
  (hc:∀(i:Nat) (s:σ) (x:Equ),l[i]?=some x->I i s->Sound Tryz.prog fid (.i (i:Int):: .t (equT x)::caps) (Hs s) (fun r H'=>r= .ret (.t (equT (g i s x).2))/\H'=Hs (g i s x).1))
  (hI:∀i s x,l[i]?=some x->I i s->I (i+1) (g i s x).1) (s0:σ) (h0:I 0 s0):
  Sound Tryz.prog 79 [.t (.sl 7 (l.map equT)),.fn fid caps] (Hs s0) (fun r H'=>r= .ret (.sl 7 ((mapN g 0 s0 l).2.map equT) N)/\H'=Hs (mapN g 0 s0 l).1++[.tail l.length]):=by
 have hml:(l.map equT).length=l.length:=qaa _
 have hinv:=zb8 (f:=g) (l:=l) hI h0
 have hlen:=fun k=>zb9 g k 0 s0
 refine so Tryz.func79 ?_
 repeat' (first|refine wkt ?_|fail)
 refine TR.tail 7 5 rfl ?_
 rw[hN s0]
 refine TR.zal l.length (fun _=>True) (fun j=>[(1,.fn fid caps),(5,.sl 7 ((mapN g 0 s0 (l.take j)).2.map equT) N),(8,.t (.sl 7 (l.map equT))),(9,.i l.length),(10,.i j)]) (fun j=>Hs (mapN g 0 s0 (l.take j)).1++[.tail (l.take j).length]) trivial (fun j hlt _=>?_) (fun _=>?_) ⟨rfl,rfl,rfl,by rw[<-hml];rfl,rfl,trivial⟩ rfl
 ·have hx:=zar equT hlt
  have hn:=zcV g s0 hlt
  have hat:l[j]?=some l[j]:=qac hlt
  have hi:=hinv j (qbs hlt)
  have hol:=hlen (l.take j)
  rw[<-hol]
  have hol2:=hlen (l.take (j+1))
  rw[hn]at hol2
  generalize mapN g 0 s0 (l.take j)=so at*
  obtain⟨s,o⟩:=so
  dsimp only at*
  have hcj:=hc j s l[j] hat hi
  clear hc hI hinv hat
  generalize g j s l[j]=gx at*
  obtain⟨s',y⟩:=gx
  dsimp only at*
  have hob:o.length≤1000000000:=by rw[hol,qaV];omega
  have hom:(o.map equT).length=o.length:=qaa _
  rw[<-hom]
  skip
  change _=some (.ag (.sl 1 (l[j].left.map T.s)::exC l[j].right):T)at hx
  repeat' (first|refine wkt ?_|refine wkaM ?_|refine zqp ?_|(apply TO.zaE N hcj;(iterate 3 exact rfl);exact Les.refl _;exact zgG (hN s);exact zer (hN s);exact hcu;exact hu s;exact zeA N _;exact hN s';exact hu s';exact zc8 (hN s))|refine zqc ?_|refine zab.exit ?_|exact wkc|intro hc|refine wk2 ?_ ?_|refine wk ?_|fail)
  exact zab.zat hlt trivial (by(try dsimp only);rw[hn,qal];exact⟨rfl,rfl,rfl,rfl,rfl,trivial⟩) (by(try dsimp only);rw[hn,<-hol2];simp)
 ·exact zwj
end Go.Proofs.YtpnnpgbaiobbjaaGreatDoor
