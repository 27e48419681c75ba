import Derived.Lib.ItoaNum
import Derived.Test.YtpnnpgbaiobbjaaGreatDoorAk16
set_option linter.all false
namespace Go.TL
open Go
section rules
variable {P:Program}{n:Nat}{env:Env}{H:Heap}{K:TK}{all:Array Oper}{rest:List Oper}{tab:Tab}
variable {d:Nat}{ty:TypeId}{pos:String}{aft:Array Edge}{q:Bool}
theorem TR.less{c:Code}(i:Nat){v v':SV}(hi:env.look i=some v)(hl:Le v v')(k:TR P n c ((i,v')::env) H K):TR P n c env H K:=by
 exact zwz
theorem TO.zvU(x sz:Nat){R:Nat}{e:TypeId}{ops:List Oper}(hx:env.look x=some (.rw R 0))(hH:H[R]?=some (.row e []))
  (k:TO q P n all ops ((x,.t (.sl sz []))::env) H K):TO q P n all ops env H K:=by
 intro φ m a h1 h2 h3 h4
 refine k φ m a h1 h2 ⟨h3.1,fun i v hv=>?_⟩ h4
 by_cases hi:x=i
 ·subst hi
  rw[Env.zan]at hv
  cases hv
  obtain⟨y,y1,y2⟩:=h3.2 x _ hx
  refine⟨y,y1,?_⟩
  cases y2 with
  | rw _ _ _ p hp hxs ho=>
    have hH1:m.H[R]?=some (.row e []):=by rw[h1];exact hH
    obtain⟨ad,cap,rfl,hc1,hc2,hc3,hc4⟩:=(ho 0 (by rw[hH1];rfl)).2 rfl
    cases ad with
    | none=>
      simp only at hc4
      subst hc4
      exact .t _ _ (.nil sz)
    | some a0=>
      obtain⟨rfl,_⟩:=hc4
      exact .t _ _ (.sl sz [] p.b 0 cap (fun _=>undef) (qaK _) (fun i e h=>by simp at h) (fun i j h=>by simp at h) (fun i j h=>by simp at h) (fun i j h=>by simp at h) (fun i e j c h=>by simp at h))
 ·rw[Env.zak _ _ hi]at hv
  exact h3.2 i v hv
theorem TO.less(i:Nat){ops:List Oper}{v v':SV}(hi:env.look i=some v)(hl:Le v v')(k:TO q P n all ops ((i,v')::env) H K):TO q P n all ops env H K:=by
 exact zwz
theorem TO.shadow{ops:List Oper}{v x:SV}(k:TO q P n all ops ((d,v)::env) H K):TO q P n all ops ((d,v)::(d,x)::env) H K:=by
 intro φ m a h1 h2 h3 h4
 refine k φ m a h1 h2 ⟨h3.1,fun j w hw=>h3.2 j w ?_⟩ h4
 by_cases hj:d=j
 ·subst hj
  rw[Env.zan]at hw⊢;exact hw
 ·rw[Env.zak _ _ hj]at hw
  rw[Env.zak _ _ hj,Env.zak _ _ hj];exact hw
theorem zqO{m:M}(hm:HRel m):Step m ⟨m.A,m.β++[⟨0,0,0⟩],m.H++[.dead],m.w⟩/\HRel ⟨m.A,m.β++[⟨0,0,0⟩],m.H++[.dead],m.w⟩:=by
 have hlen:=hm.len
 have pick:∀(i:Nat) q c,(m.β++[(⟨0,0,0⟩:Place)])[i]?=some q->(m.H++[Blk.dead])[i]?=some c->c.live=true->m.β[i]?=some q/\m.H[i]?=some c:=by
  intro i q c h1 h2 hl
  by_cases hi:i<m.H.length
  ·rw[qaq (by rw[hlen];exact hi)]at h1
   rw[qaq hi]at h2
   exact⟨h1,h2⟩
  ·rw[qax (by omega)]at h2
   cases hj:i-m.H.length with
   | zero=>rw[hj]at h2;cases h2;cases hl
   | succ j=>rw[hj]at h2;cases h2
 have own:∀b o,Own ⟨m.A,m.β++[⟨0,0,0⟩],m.H++[.dead],m.w⟩ b o->Own m b o:=by
  rintro b o ⟨i,q,c,h1,h2,h3,h4⟩
  exact⟨i,q,c,(pick i q c h1 h2 h3).1,(pick i q c h1 h2 h3).2,h3,h4⟩
 have s:Step m ⟨m.A,m.β++[⟨0,0,0⟩],m.H++[.dead],m.w⟩:=by
  refine⟨rfl,rfl,rfl,qag _,fun _ _ h=>h,fun _ _ h=>.inl h,fun b o h=>.inl (own b o h),fun _ _ _ _=>rfl,fun _ _ _ _ _=>rfl,fun _ _ _=>rfl,fun _ _ h=>h,fun _ L h=>⟨L,h⟩,fun _ _ _ h=>h,fun i q hq=>⟨q,?_,?_⟩⟩
  ·show(m.β++[_])[i]?=some q
   exact zwfa
  ·show zaY m.H[i]? (m.H++[Blk.dead])[i]? q q
   rw[qaq (by rw[<-hlen];exact(qab.1 hq).1)]
   exact zaY.refl _ _
 refine⟨s,by simp[hlen],fun i q c h1 h2=>?_,fun i j q r c l hij h1 h2 h3 h4 hc hl=>?_,fun b o h hn=>hm.still b o h (own b o hn),hm.inA,fun i q c h1 h2 hc hq=>hm.inO i q c (pick i q c h1 h2 hc).1 (pick i q c h1 h2 hc).2 hc hq,s.glob hm⟩
 ·cases hlv:c.live with
  | false=>cases c <;> simp[Blk.live]at hlv;trivial
  | true=>exact(hm.blk i q c (pick i q c h1 h2 hlv).1 (pick i q c h1 h2 hlv).2).step hm s (fun o _ _=>⟨rfl,fun _=>rfl⟩) (fun _=>rfl)
 ·exact hm.apart i j q r c l hij (pick i q c h1 h2 hc).1 (pick i q c h1 h2 hc).2 (pick j r l h3 h4 hl).1 (pick j r l h3 h4 hl).2 hc hl
theorem TO.zt6{ops:List Oper}(k:TO false P n all ops env (H++[.dead]) K):TO false P n all ops env H K:=by
 intro φ m a h1 h2 h3 h4
 obtain⟨s,hm'⟩:=zqO h2
 exact TO.zeT (m':=⟨m.A,m.β++[⟨0,0,0⟩],m.H++[.dead],m.w⟩) s (k φ ⟨m.A,m.β++[⟨0,0,0⟩],m.H++[.dead],m.w⟩ a (by rw[h1]) hm' (h3.step h2 s) (h4.step h2 s))
theorem TO.zum{H1:Heap}{cargs:List SV}{v:SV}{f:Operand}{fid:FuncId}{caps:List SV}{args:Array Operand}{ts:Array TypeId}{vs:List SV}(hs:Sound P fid cargs H fun r H'=>r= .ret v/\H'=H1)(hd:Nat.ble (d+1) n=true)
  (hf:env.val f=some (.fn fid caps))(ha:env.vals args.toList=some vs)(hl:Les (vs++caps) cargs)(k:TO false P n all rest ((d,v)::env) H1 K):
  TO false P n all (⟨some d,.call { callee:=.value f,args:=args,argTypes:=ts },ty,pos,aft,none⟩::rest) env H K:=
 TO.zvp hs hd hf ha hl (fun u H' h=>by obtain⟨h,rfl⟩:=h;cases h;exact k) (fun u H' h=>by cases h.1)
end rules
def zpy(K:TK):TK:=fun e env H=>∃env1:Env,(∀i v,env1.look i=some v->∃u,env.look i=some u/\Le u v)/\K e env1 H
section rules
variable {P:Program}{n:Nat}{env:Env}{H:Heap}{K:TK}
theorem Post.weak{φ:Fm}{m:M}{e:Exit}{a:Act}{w:World}(h:Post φ m n (zpy K) e a w):Post φ m n K e a w:=by
 obtain⟨m2,env2,te,rfl,s,hm,he,hd,hx,env1,hle,hk⟩:=h
 exact⟨m2,env1,te,rfl,s,hm,⟨he.1,fun i v hv=>by
  obtain⟨u,hu,hl⟩:=hle i v hv
  obtain⟨x,x1,x2⟩:=he.2 i u hu
  exact⟨x,x1,hl m2 x x2⟩⟩,hd,hx,hk⟩
theorem TR.weak{c:Code}(h:TR P n c env H (zpy K)):TR P n c env H K:=
 fun φ m a h1 h2 h3 h4=>za4 (h φ m a h1 h2 h3 h4) fun _ _ _ hp=>hp.weak
theorem zpy.done{e:zdL}(h:K e env H):zpy K e env H:=⟨env,fun _ v hv=>⟨v,hv,Le.refl v⟩,h⟩
variable {all:Array Oper}{rest:List Oper}{tab:Tab}{d:Nat}{ty:TypeId}{pos:String}{aft:Array Edge}
theorem TO.zdv{cargs:List SV}{sz m:Nat}{es:List T}{f:Operand}{fid:FuncId}{caps:List SV}{args:Array Operand}{ts:Array TypeId}{vs:List SV}
  (hs:Sound P fid cargs [] fun r H'=>r= .ret (.sl sz es 0)/\H'=[.tail m])(hd:Nat.ble (d+1) n=true)
  (hf:env.val f=some (.fn fid caps))(ha:env.vals args.toList=some vs)(hl:Les (vs++caps) cargs)(hu:unders 0 cargs=true)
  (k:TO false P n all rest ((d,.sl sz es H.length)::env) (H++[.tail m]) K):
  TO false P n all (⟨some d,.call { callee:=.value f,args:=args,argTypes:=ts },ty,pos,aft,none⟩::rest) env H K:=
 TO.zpN [] hs hd hf ha (by rw[zbn (N:=0) (fun j hj=>by omega) _ hu];exact hl) hu (zgd H) (by simp[SV.ren,names]) (by
  simp only[patch,qaj,qay,Blk.ren]) k
end rules
section rules
variable {P:Program}{n:Nat}{env:Env}{H:Heap}{K:TK}{tab:Tab}
variable {all:Array Oper}{rest:List Oper}{d:Nat}{ty:TypeId}{pos:String}{aft:Array Edge}
end rules
section rules
variable {P:Program}{all:Array Oper}
def zoE(P:Program)(n:Nat)(all:Array Oper)(full:Env)(G:List Heap):List Oper->List (SV×Bool)->List Heap->Prop
 | [],[],_=>True
 | o::l,(v,false)::t,hs=>(∀H∈G,∀env,TO false P n all [o] (zas full (slotsOf all o)++env) H (NK (putE o.dst v (zas full (slotsOf all o)++env)) H))/\zoE P n all full G l t hs
 | o::l,(v,true)::t,H1::H2::hs=>(∀env,TO false P n all [o] (zas full (slotsOf all o)++env) H1 (NK (putE o.dst v (zas full (slotsOf all o)++env)) H2))/\zoE P n all full G l t (H2::hs)
 | _,_,_=>False
theorem zoE.get{n:Nat}{full:Env}{G:List Heap}:∀ {l:List Oper} {t:List (SV×Bool)} {hs:List Heap},zoE P n all full G l t hs->l.length=t.length/\∀(i:Nat) o v b,l[i]?=some o->t[i]?=some (v,b)->
   (b=false->∀H∈G,∀env,TO false P n all [o] (zas full (slotsOf all o)++env) H (NK (putE o.dst v (zas full (slotsOf all o)++env)) H))/\
   (b=true->∃H1 H2,hs[effs t i]?=some H1/\hs[effs t i+1]?=some H2/\∀env,TO false P n all [o] (zas full (slotsOf all o)++env) H1 (NK (putE o.dst v (zas full (slotsOf all o)++env)) H2))
 | [],[],hs,_=>by simp
 | o::l,(v,false)::t,hs,h=>by
   obtain⟨h1,h2⟩:=h
   obtain⟨g1,g2⟩:=zoE.get h2
   exact zwbb
 | o::l,(v,true)::t,H1::H2::hs,h=>by
   obtain⟨h1,h2⟩:=h
   obtain⟨g1,g2⟩:=zoE.get h2
   exact zwr
 | o::l,(v,true)::t,[],h=>by exact h.elim
 | o::l,(v,true)::t,[_],h=>by exact h.elim
 | [],_::_,_,h=>by exact h.elim
 | _::_,[],_,h=>by exact h.elim
end rules
end Go.TL
namespace Go.Proofs.YtpnnpgbaiobbjaaGreatDoor
open Go Go.TL
attribute [local irreducible] TR TO Then zao RetK Sound zab Kf GG zaZ
def za1(a:List Str)(ds:List Decl):List Str:=ds.foldl (fun a d=>d.clock.foldl (fun a o=>ins a o.name) (ins a d.name)) a
def lhsL(a:List Str)(qs:List Equ):List Str:=qs.foldl (fun a q=>q.left.foldl ins a) a
def zfc:Nat->List Str->List Equ->List Auto->List Str
 | 0,a,_,_=>a
 | m+1,a,qs,l=>l.foldl (fun a x=>x.states.foldl (fun a s=>zfc m (za1 (ins a s.name) s.locals) s.eqs s.autos) a) (lhsL a qs)
def zlf(k:Int):Bool:=decide (k≠1/\k≠3/\k≠4/\k≠5/\k≠6/\k≠7/\k≠11)
def oneL(a:List Str)(x:Ex):List Str:=if zlf x.kind.1=true then ins a x.name else a
def zqA(a:List Str)(e:Ex):List Str:=(flat e).foldl oneL a
def zhE:Nat->List Str->List Equ->List Auto->List Str
 | 0,a,_,_=>a
 | m+1,a,qs,l=>l.foldl (fun a x=>x.states.foldl (fun a s=>(s.unl++s.unt).foldl (fun a t=>zqA a t.cond) (zhE m a s.eqs s.autos)) a) (qs.foldl (fun a q=>zqA a q.right) a)
def znU(m:Nat)(a:List Str)(n:Nod):List Str:=(n.assume++n.ensure).foldl zqA (zhE m a n.eqs n.autos)
def zmW(m:Nat)(a:List Str)(n:Nod):List Str:=znU m (zfc m (za1 (ins a n.name) (zaB n)) n.eqs n.autos) n
def ziD(a:List Str)(u:En):List Str:=u.tags.foldl ins (ins a u.name)
def zvE(m:Nat)(p:Prog):List Str:=p.nodes.foldl (zmW m) (p.enums.foldl ziD [])
theorem zcm(a:List Str)(s:Str):a ⊆ ins a s:=fun x hx=>by
 unfold ins
 split
 ·exact hx
 ·exact qby _ hx
theorem zq8(a:List Str)(s:Str):s∈ins a s:=by
 unfold ins
 split
 ·assumption
 ·simp
theorem sub_fold{α:Type}{f:List Str->α->List Str}:∀ {l:List α} {a:List Str},(∀a x,x∈l->a ⊆ f a x)->a ⊆ l.foldl f a
 | [],a,_=>fun _ h=>h
 | x::l,a,h=>fun s hs=>sub_fold (l:=l) (a:=f a x) (fun a y hy=>h a y (qar _ hy)) (h a x (qas ..) hs)
theorem zn7{α:Type}{f:List Str->α->List Str}{s:Str}{x:α}:∀ {l:List α} {a:List Str},x∈l->(∀a x,x∈l->a ⊆ f a x)->(∀a,s∈f a x)->s∈l.foldl f a
 | y::l,a,hx,h,hm=>by
   rw[qaU]
   rcases qbe.1 hx with rfl|hx
   ·exact sub_fold (fun a y hy=>h a y (qar _ hy)) (hm a)
   ·exact zn7 hx (fun a y hy=>h a y (qar _ hy)) hm
theorem sub_one(a:List Str)(x:Ex):a ⊆ oneL a x:=by
 unfold oneL
 split
 ·exact zcm a x.name
 ·exact fun _ h=>h
theorem zhd(a:List Str)(e:Ex):a ⊆ zqA a e:=sub_fold fun a x _=>sub_one a x
theorem zgi(a:List Str)(ds:List Decl):a ⊆ za1 a ds:=sub_fold fun a d _=>fun s hs=>sub_fold (fun a o _=>zcm a _) (zcm a d.name hs)
theorem zgj:∀(m:Nat) (a:List Str) (qs:List Equ) (l:List Auto),a ⊆ zfc m a qs l
 | 0,a,_,_=>fun _ h=>h
 | m+1,a,qs,l=>fun s hs=>by
   unfold zfc
   refine sub_fold (fun a x _=>sub_fold fun a s _=>fun t ht=>zgj m _ _ _ (zgi _ _ (zcm a _ ht))) ?_
   exact sub_fold (fun a q _=>sub_fold fun a s _=>zcm a s) hs
theorem zim:∀(m:Nat) (a:List Str) (qs:List Equ) (l:List Auto),a ⊆ zhE m a qs l
 | 0,a,_,_=>fun _ h=>h
 | m+1,a,qs,l=>fun s hs=>by
   unfold zhE
   refine sub_fold (fun a x _=>sub_fold fun a s _=>fun t ht=>sub_fold (fun a t _=>zhd a _) (zim m _ _ _ ht)) ?_
   exact sub_fold (fun a q _=>zhd a _) hs
theorem ztf(m:Nat)(a:List Str)(n:Nod):a ⊆ zmW m a n:=fun s hs=>by
 unfold zmW znU
 exact sub_fold (fun a e _=>zhd a e) (zim m _ _ _ (zgj m _ _ _ (zgi _ _ (zcm a _ hs))))
def valD(s:Str):Nat:=s.foldl (fun a c=>10*a+(c.toNat-48)) 0
theorem znl:∀(m u:Nat),u≤m->valD (Go.Lib.decDigits u)=u
 | m,u,h=>by
   have hd:∀k:Nat,k<10->(UInt8.ofNat (48+k)).toNat-48=k:=by
    intro k hk
    have:k=0\/k=1\/k=2\/k=3\/k=4\/k=5\/k=6\/k=7\/k=8\/k=9:=by omega
    rcases this with rfl|rfl|rfl|rfl|rfl|rfl|rfl|rfl|rfl|rfl <;> rfl
   rw[Go.Lib.decDigits]
   split
   ·rename_i hu
    simp[valD]
    omega
   ·cases m with
    | zero=>omega
    | succ m=>
      have ih:=znl m (u / 10) (by omega)
      unfold valD at ih⊢
      rw[qbm,ih]
      simp only[qaU,qcL,hd _ (Nat.mod_lt _ (by decide:0<10))]
      omega
def zgf(base:Str)(n:Nat):Str:=base++[95]++Go.Lib.itoa (n:Int)
theorem zre{base:Str}{n k:Nat}(h:zgf base n=zgf base k):n=k:=by
 have h1:Go.Lib.itoa (n:Int)=Go.Lib.itoa (k:Int):=List.append_cancel_left h
 unfold Go.Lib.itoa at h1
 rw[if_neg (by omega),if_neg (by omega)]at h1
 have h2:=congrArg valD h1
 rw[znl _ _ (qag _),znl _ _ (qag _)]at h2
 omega
def frs(l:List Str)(base:Str):Nat->Nat->Nat
 | 0,n=>n
 | f+1,n=>if zgf base n∈l then frs l base f (n+1) else n
theorem zqL(l:List Str)(base:Str):∀(f n:Nat),(zgf base (frs l base f n) ∉ l/\frs l base f n<n+f/\∀i,n≤i->i<frs l base f n->zgf base i∈l)\/∀i,n≤i->i<n+f->zgf base i∈l
 | 0,n=>.inr fun i h1 h2=>by omega
 | f+1,n=>by
   unfold frs
   split
   ·rename_i hm
    rcases zqL l base f (n+1)with ⟨h1,h2,h3⟩|h
    ·refine .inl ⟨h1,by omega,fun i q1 q2=>?_⟩
     by_cases hi:i=n
     ·rw[hi];exact hm
     ·exact h3 i (by omega) q2
    ·refine .inr fun i q1 q2=>?_
     by_cases hi:i=n
     ·rw[hi];exact hm
     ·exact h i (by omega) (by omega)
   ·rename_i hm
    exact .inl ⟨hm,by omega,fun i q1 q2=>by omega⟩
theorem zqM(l:List Str)(base:Str)(n:Nat):zgf base (frs l base (l.length+1) n) ∉ l/\frs l base (l.length+1) n<n+(l.length+1)/\∀i,n≤i->i<frs l base (l.length+1) n->zgf base i∈l:=by
 rcases zqL l base (l.length+1) n with h|h
 ·exact h
 ·exfalso
  have h1:((List.range (l.length+1)).map fun i=>zgf base (n+i)).Nodup:=by
   refine List.Pairwise.map _ (fun a b (hab:a≠b)=>?_) qcC
   intro he
   have:=zre he
   omega
  have h2:=h1.length_le_of_subset (l₂:=l) (by
   intro x hx
   obtain⟨i,hi,rfl⟩:=qa4.1 hx
   have:=List.mem_range.1 hi
   exact h (n+i) (by omega) (by omega))
  simp at h2
  omega
def zaQ(l:List Str)(base:Str):Str:=zgf base (frs l base (l.length+1) 1)
theorem zk5(l:List Str)(base:Str):zaQ l base ∉ l:=(zqM l base 1).1
end Go.Proofs.YtpnnpgbaiobbjaaGreatDoor
namespace Go.Proofs.YtpnnpgbaiobbjaaGreatDoor
open Go Go.TL
attribute [local irreducible] TR TO Then zao RetK Sound zab Kf GG zaZ
structure Lv where
 own:List Str
 done:List Str
 defs:List Str
structure Lv.ok (a:Lv):Prop where
 own:zaD a.own
 done:zaD a.done
inductive Ch where
 | one (a:Lv)
 | c1 (i:List Str) (a:Lv)
 | c2 (i:List Str) (a b:Lv)
 | c3 (i:List Str) (a b c:Lv)
 | c4 (i:List Str) (a b c d:Lv)
abbrev nilP:SV:=.t (.v (.pointer none))
abbrev nilM:SV:=.t (.v (.map none))
abbrev nilS:SV:=.t (.v (.slice none 0 0))
abbrev rowB (l:List Str):Blk:=.row 9 (l.map T.s)
abbrev nmB (up:SV)(b:Nat)(inp:SV)(a:Lv):Blk:=.cells [up,.mp b,.mp (b+1),inp,.rw (b+3) (a.defs.map T.s).length]
abbrev lkB (p:Prog)(n q:Int):Blk:=.cells [.t (.sl 2 (p.enums.map enT)),.t (zaC p.nodes),.i n,.i q,.mp 1]
namespace Ch
def vis0:Ch->List Str
 | one _=>[]|c1 _ _=>[]|c2 _ a _=>a.own|c3 _ a b _=>a.own++b.own|c4 _ a b c _=>a.own++b.own++c.own
def top:Ch->Lv
 | one a=>a|c1 _ a=>a|c2 _ _ b=>b|c3 _ _ _ c=>c|c4 _ _ _ _ d=>d
def low:Ch->List Str
 | one _=>[]|c1 i _=>i|c2 i a _=>i++a.done|c3 i a b _=>i++a.done++b.done|c4 i a b c _=>i++a.done++b.done++c.done
def set:Ch->Lv->Ch
 | one _,x=>one x|c1 i _,x=>c1 i x|c2 i a _,x=>c2 i a x|c3 i a b _,x=>c3 i a b x|c4 i a b c _,x=>c4 i a b c x
def vis(h:Ch):List Str:=h.vis0++h.top.own
def id:Ch->Nat
 | one _=>4|c1 .. =>4|c2 .. =>9|c3 .. =>13|c4 .. =>17
def N:Ch->Nat
 | one _=>5|c1 .. =>7|c2 .. =>11|c3 .. =>15|c4 .. =>19
def heap:Ch->Heap
 | one a=>[setB a.own,setB a.done,.cells [nilP,.mp 2,.mp 3,nilM,nilS]]
 | c1 i a=>[setB a.own,setB a.done,nmB nilP 2 (.mp 6) a,rowB a.defs,setB i]
 | c2 i a b=>[setB a.own,setB a.done,nmB nilP 2 (.mp 6) a,rowB a.defs,setB i,setB b.own,setB b.done,nmB (.ref 4 0) 7 nilM b,rowB b.defs]
 | c3 i a b c=>[setB a.own,setB a.done,nmB nilP 2 (.mp 6) a,rowB a.defs,setB i,setB b.own,setB b.done,nmB (.ref 4 0) 7 nilM b,rowB b.defs,setB c.own,setB c.done,nmB (.ref 9 0) 11 nilM c,rowB c.defs]
 | c4 i a b c d=>[setB a.own,setB a.done,nmB nilP 2 (.mp 6) a,rowB a.defs,setB i,setB b.own,setB b.done,nmB (.ref 4 0) 7 nilM b,rowB b.defs,setB c.own,setB c.done,nmB (.ref 9 0) 11 nilM c,rowB c.defs,setB d.own,setB d.done,nmB (.ref 13 0) 15 nilM d,rowB d.defs]
def ok:Ch->Prop
 | one a=>a.ok|c1 i a=>zaD i/\a.ok|c2 i a b=>zaD i/\a.ok/\b.ok|c3 i a b c=>zaD i/\a.ok/\b.ok/\c.ok|c4 i a b c d=>zaD i/\a.ok/\b.ok/\c.ok/\d.ok
end Ch
def Ch.push:Ch->Lv->Ch
 | .c1 i a,x=>.c2 i a x| .c2 i a b,x=>.c3 i a b x| .c3 i a b c,x=>.c4 i a b c x|h,_=>h
theorem Ch.lt{P:Ch->Prop}(k:∀h,let g:=h;P g):∀h,P h:=k
abbrev full (p:Prog)(n q:Int)(seen:List (Int×Str×Int))(h:Ch):Heap:=lkB p n q::zbS seen::h.heap
theorem retV{rs:List ResultVar}{env:Env}{H:Heap}{v v':SV}(hr:zcc tab env H rs=some [v'])(hv:v'=v)(hu:v.under H.length=true)(hb:zad H.length H=true):
  RetK tab rs H.length (fun r H'=>r= .ret v/\H'=H) .ret env H:=RetK.at H.length hr (by subst hv;exact Le.refl _) (qag _) rfl hu hb ⟨rfl,rfl⟩
theorem bsv{a b:Bool}(h:a=b):SV.b a=SV.b b:=by rw[h]
theorem zpm(p:Prog)(n q:Int)(seen:List (Int×Str×Int))(h:Ch)(hk:h.ok)(nm:Str)(hs:nm.length≤1000000000):
  Sound Tryz.prog 237 [.ref h.id 0,.s nm] (full p n q seen h) (fun r H'=>r= .ret (.b (decide (nm∈h.vis)))/\H'=full p n q seen h):=by
 cases h
 all_goals
  first
  | have a1:=hk.own
  | have a1:=hk.2.own
  | have a1:=hk.2.1.own;have b1:=hk.2.2.own
  | have a1:=hk.2.1.own;have b1:=hk.2.2.1.own;have c1:=hk.2.2.2.own
  | have a1:=hk.2.1.own;have b1:=hk.2.2.1.own;have c1:=hk.2.2.2.1.own;have d1:=hk.2.2.2.2.own
  simp only[full,Ch.heap,Ch.id,Ch.vis,Ch.vis0,Ch.top]
  refine so Tryz.func237 ?_
  repeat' (first|refine wkt ?_|refine wka ?_|refine wk ?_|exact wkc|intro hc|refine wk2 ?_ ?_|(apply TO.zgK;(iterate 4 exact rfl);assumption;assumption)|(apply TO.zjn;(iterate 3 exact rfl);assumption)|(apply TO.zeL zag;(iterate 5 exact rfl))|(apply TO.zeK zag;(iterate 4 exact rfl))|refine TR.loop ?_|refine Then.normal ?_|refine Then.exit ?_|refine Then.ret ?_|fail)
  all_goals exact retV rfl (bsv (by simp_all)) rfl rfl
theorem zjK(p:Prog)(n q:Int)(seen:List (Int×Str×Int))(h:Ch)(hk:h.ok)(nm:Str)(hs:nm.length≤1000000000):
  Sound Tryz.prog 238 [.ref h.id 0,.s nm] (full p n q seen h) (fun r H'=>r= .ret (.b (decide (nm∈h.low\/nm∈h.top.done)))/\H'=full p n q seen h):=by
 cases h
 all_goals
  first
  | have a1:=hk.done
  | have a1:=hk.2.done
  | have a1:=hk.2.1.done;have b1:=hk.2.2.done
  | have a1:=hk.2.1.done;have b1:=hk.2.2.1.done;have c1:=hk.2.2.2.done
  | have a1:=hk.2.1.done;have b1:=hk.2.2.1.done;have c1:=hk.2.2.2.1.done;have d1:=hk.2.2.2.2.done
  have i1:=hk.1
  simp only[full,Ch.heap,Ch.id,Ch.low,Ch.top]
  refine so Tryz.func238 ?_
  repeat' (first|refine wkt ?_|refine wka ?_|refine wk ?_|exact wkc|intro hc|refine wk2 ?_ ?_|(apply TO.zgK;(iterate 4 exact rfl);assumption;assumption)|(apply TO.zjn;(iterate 3 exact rfl);assumption)|(apply TO.zeL zag;(iterate 5 exact rfl))|(apply TO.zeK zag;(iterate 4 exact rfl))|refine TR.loop ?_|refine Then.normal ?_|refine Then.exit ?_|refine Then.ret ?_|fail)
  all_goals exact retV rfl (bsv (by simp_all)) rfl rfl
end Go.Proofs.YtpnnpgbaiobbjaaGreatDoor
namespace Go.TL
open Go
def ziw(K:TK):TK
 | .panic v,env,H=>K (.panic v) env (List.replicate H.length .dead)
 | e,env,H=>K e env H
section rules
variable {P:Program}{n:Nat}{env:Env}{H:Heap}{K:TK}
theorem Post.dead{φ:Fm}{m:M}{e:Exit}{a:Act}{w:World}(h:Post φ m n (ziw K) e a w):Post φ m n K e a w:=by
 obtain⟨m2,env2,te,rfl,s,hm,he,hd,hx,hk⟩:=h
 cases te with
 | normal=>exact⟨m2,env2,.normal,rfl,s,hm,he,hd,hx,hk⟩
 | exit i=>exact⟨m2,env2,.exit i,rfl,s,hm,he,hd,hx,hk⟩
 | ret=>exact⟨m2,env2,.ret,rfl,s,hm,he,hd,hx,hk⟩
 | panic v=>
   obtain⟨s1,hm1⟩:=zp3 hm
   refine⟨⟨m2.A,m2.β,m2.H.map fun _=>.dead,m2.w⟩,env2,.panic v,rfl,s.trans s1,hm1,he.step hm s1,hd,?_,?_⟩
   ·cases e with
    | panic ch=>obtain⟨x,x1,x2⟩:=hx;exact⟨x,x1,s1.srel hm x2⟩
    | _=>simp[zbr]at hx
   ·show K (.panic v) env2 (m2.H.map fun _=>Blk.dead)
    rw[List.map_const'];exact hk
theorem TR.dead{c:Code}(h:TR P n c env H (ziw K)):TR P n c env H K:=
 fun φ m a h1 h2 h3 h4=>za4 (h φ m a h1 h2 h3 h4) fun _ _ _ hp=>hp.dead
theorem ziw.errP{tab:Tab}{rs:List ResultVar}{N:Nat}{c:Int}{v pv:SV}{H1:Heap}(hc:c≠0)(hN:N≤H.length)(hu:∀k,pv.under k=true):ziw (RetK tab rs N (Err0 c v pv H1 N)) (.panic pv) env H:=
 RetK.errP (tab:=tab) (rs:=rs) (N:=N) (env:=env) (H:=List.replicate H.length .dead) hc (by simpa using hN) (hu _) (by rw[qb7];exact zco _ _)
end rules
end Go.TL
namespace Go.Proofs.YtpnnpgbaiobbjaaGreatDoor
open Go Go.TL
attribute [local irreducible] TR TO Then zao RetK Sound zab Kf GG zaZ
abbrev zci (n q c:Int):SV:=.ifc 157 (.t (.ag [T.i n,T.i q,T.i c]))
theorem zsY(p:Prog)(n q:Int)(seen:List (Int×Str×Int))(e:Int):Sound Tryz.prog 157 [.ref 0 0,.b true,.i e] [lkB p n q,zbS seen] (fun r H'=>r= .ret (.tup [])/\H'=[lkB p n q,zbS seen]):=by
 refine so Tryz.func157 ?_
 repeat' (first|refine wu ?_|exact wkc|intro hc|refine wk2 ?_ ?_|fail)
 exact RetK.ziH 2 (vs:=[]) rfl (Le.refl _) rfl rfl rfl rfl rfl ⟨rfl,rfl⟩
theorem zsX(p:Prog)(n q:Int)(seen:List (Int×Str×Int))(e:Int)(he:e≠0):Sound Tryz.prog 157 [.ref 0 0,.b false,.i e] [lkB p n q,zbS seen] (Err e (.tup []) (zci n q e) [lkB p n q,zbS seen]):=by
 refine Sound.err rfl (fun _=>rfl) ?_
 refine so Tryz.func157 ?_
 repeat' (first|refine wu ?_|exact wkc|intro hc|refine wk2 ?_ ?_|(apply TO.makeInterface;exact rfl;kernel_rfl;exact rfl)|(apply TO.panic;exact rfl)|fail)
 exact RetK.errP he rfl rfl rfl
theorem Ch.len(h:Ch)(p:Prog)(n q:Int)(seen:List (Int×Str×Int)):(full p n q seen h).length=h.N:=by cases h <;> rfl
theorem Ch.under(h:Ch)(p:Prog)(n q:Int)(seen:List (Int×Str×Int)):zad h.N (full p n q seen h)=true:=by cases h <;> rfl
theorem Ch.tk(h:Ch)(p:Prog)(n q:Int)(seen:List (Int×Str×Int)):(full p n q seen h).take h.N=full p n q seen h:=qaX (by rw[Ch.len];exact qag _)
theorem Ch.tkl(h:Ch)(p:Prog)(n q:Int)(seen:List (Int×Str×Int)):(full p n q seen h).take (full p n q seen h).length=full p n q seen h:=qaX (qag _)
theorem Ch.und(h:Ch)(p:Prog)(n q:Int)(seen:List (Int×Str×Int)):zad (full p n q seen h).length (full p n q seen h)=true:=by rw[Ch.len];exact Ch.under h p n q seen
theorem Ch.ble(h:Ch)(p:Prog)(n q:Int)(seen:List (Int×Str×Int)):Nat.ble (full p n q seen h).length (full p n q seen h).length=true:=by simp
section
variable {n:Nat}{env:Env}{K:TK}{all:Array Oper}{rest:List Oper}{d:Nat}{ty:TypeId}{pos:String}{aft:Array Edge}{p:Prog}{a q e:Int}{seen:List (Int×Str×Int)}{H Hr:Heap}{args:Array Operand}{ts:Array TypeId}
theorem TO.zvK(hd:Nat.ble (d+1) n=true)(ha:env.vals args.toList=some [.ref 0 0,.b true,.i e])(h1:H=lkB p a q::zbS seen::Hr)(k:TO false Tryz.prog n all rest ((d,.tup [])::env) H K):
  TO false Tryz.prog n all (⟨some d,.call { callee:=.value (.func 157),args:=args,argTypes:=ts },ty,pos,aft,none⟩::rest) env H K:=by
 subst h1
 exact TO.zaE 2 (zsY p a q seen e) hd rfl ha ⟨Le.refl _,Le.refl _,Le.refl _,trivial⟩ (by simp) rfl rfl rfl rfl rfl rfl (by simp[za6]) k
theorem TO.ztF(hd:Nat.ble (d+1) n=true)(ha:env.vals args.toList=some [.ref 0 0,.b false,.i e])(h1:H=lkB p a q::zbS seen::Hr)(he:e≠0)(k:K (.panic (zci a q e)) env (.dead:: .dead::Hr)):
  TO false Tryz.prog n all (⟨some d,.call { callee:=.value (.func 157),args:=args,argTypes:=ts },ty,pos,aft,none⟩::rest) env H K:=by
 subst h1
 exact TO.zkH 2 (zsX p a q seen e he) hd rfl ha ⟨Le.refl _,Le.refl _,Le.refl _,trivial⟩ (by simp) rfl rfl rfl rfl rfl rfl rfl (by simp[za6];rfl) (fun h=>absurd h he) (fun _=>k)
theorem TO.znN(N:Nat){Hc:Heap}{cargs:List SV}{b:Bool}{f:Operand}{fid:FuncId}{caps:List SV}{vs:List SV}
  (hs:Sound Tryz.prog fid cargs Hc fun r H'=>r= .ret (.b b)/\H'=Hc)(hd:Nat.ble (d+1) n=true)(hf:env.val f=some (.fn fid caps))(ha:env.vals args.toList=some vs)(hl:Les (vs++caps) cargs)
  (hN:N≤H.length)(hc:H.take N=Hc)(hu:unders N cargs=true)(hb:zad N Hc=true)
  (k1:b=true->TO false Tryz.prog n all rest ((d,.b true)::env) H K)(k2:b=false->TO false Tryz.prog n all rest ((d,.b false)::env) H K):
  TO false Tryz.prog n all (⟨some d,.call { callee:=.value f,args:=args,argTypes:=ts },ty,pos,aft,none⟩::rest) env H K:=by
 have hl1:Hc.length=N:=by rw[<-hc];simp;omega
 refine TO.zaE N hs hd hf ha hl (by simpa using hN) hc hu hb rfl hl1 hb (H':=H) (by rw[<-hc,qaS,za6]) ?_
 cases b
 ·exact k2 rfl
 ·exact k1 rfl
theorem TO.sees{h:Ch}{nm:Str}(hk:h.ok)(hd:Nat.ble (d+1) n=true)(ha:env.vals args.toList=some [.ref h.id 0,.s nm])(hH:H.take h.N=full p a q seen h)(hs:nm.length≤1000000000)
  (k1:nm∈h.vis->TO false Tryz.prog n all rest ((d,.b true)::env) H K)(k2:nm ∉ h.vis->TO false Tryz.prog n all rest ((d,.b false)::env) H K):
  TO false Tryz.prog n all (⟨some d,.call { callee:=.value (.func 237),args:=args,argTypes:=ts },ty,pos,aft,none⟩::rest) env H K:=by
 have hN:h.N≤H.length:=by have:=congrArg List.length hH;rw[Ch.len]at this;simp at this;omega
 refine TO.znN h.N (zpm p a q seen h hk nm hs) hd rfl ha ⟨Le.refl _,Le.refl _,trivial⟩ hN hH ?_ (Ch.under h p a q seen) (fun hb=>k1 (by simpa using hb)) (fun hb=>k2 (by simpa using hb))
 cases h <;> rfl
theorem TO.defined{h:Ch}{nm:Str}(hk:h.ok)(hd:Nat.ble (d+1) n=true)(ha:env.vals args.toList=some [.ref h.id 0,.s nm])(hH:H.take h.N=full p a q seen h)(hs:nm.length≤1000000000)
  (k1:(nm∈h.low\/nm∈h.top.done)->TO false Tryz.prog n all rest ((d,.b true)::env) H K)(k2:¬(nm∈h.low\/nm∈h.top.done)->TO false Tryz.prog n all rest ((d,.b false)::env) H K):
  TO false Tryz.prog n all (⟨some d,.call { callee:=.value (.func 238),args:=args,argTypes:=ts },ty,pos,aft,none⟩::rest) env H K:=by
 have hN:h.N≤H.length:=by have:=congrArg List.length hH;rw[Ch.len]at this;simp at this;omega
 refine TO.znN h.N (zjK p a q seen h hk nm hs) hd rfl ha ⟨Le.refl _,Le.refl _,trivial⟩ hN hH ?_ (Ch.under h p a q seen) (fun hb=>k1 (by simpa using hb)) (fun hb=>k2 (by simpa using hb))
 cases h <;> rfl
end
theorem wms{G Q:Prop}(k:Q)(h:Hold Q->G:=by
  intro k
  first
  | (apply Go.Proofs.YtpnnpgbaiobbjaaGreatDoor.TO.zvK;(iterate 3 exact rfl);exact k.p)
  | (apply Go.Proofs.YtpnnpgbaiobbjaaGreatDoor.TO.ztF;(iterate 3 exact rfl);decide;exact k.p)
  | (apply Go.Proofs.YtpnnpgbaiobbjaaGreatDoor.TO.ztF;(iterate 3 exact rfl);assumption;exact k.p)):G:=h ⟨k⟩
abbrev SS (f:FuncId)(args:List SV)(p:Prog)(n q:Int)(seen:List (Int×Str×Int))(h h':Ch)(c:Int):Prop:=Sound Tryz.prog f (.ref 0 0::args) (full p n q seen h) (Err c (.tup []) (zci n q c) (full p n q seen h'))
theorem retS{rs:List ResultVar}{env:Env}{H H1:Heap}{n q c c':Int}{N:Nat}{v:SV}(h0:c'≠0)(hc:c'=c)(hN:N≤H.length):
  ziw (RetK tab rs N (Err0 c v (zci n q c) H1 N)) (.panic (zci n q c')) env H:=by
 subst hc;exact ziw.errP h0 hN (fun _=>rfl)
theorem zlD{env:Env}{H H1:Heap}{n q c:Int}{N:Nat}(hc:c=0)(hN:Nat.ble N H1.length=true)(hk:Nat.ble H1.length H.length=true)(ht:H.take H1.length=H1)(hb:zad H1.length H1=true):
  ziw (RetK tab [] N (Err0 c (.tup []) (zci n q c) H1 N)) .normal env H:=RetK.errN (vs:=[]) hc rfl (Le.refl _) hN hk rfl ht hb
def zlF(vis:List Str)(l:List Decl):Int:=zaf (fun d=>zaf (fun o:OnC=>if o.name∈vis then 0 else 6) d.clock) l
theorem za2{l:List Decl}{d:Decl}(h:d∈l):d.name.length<(zac l).w/\(T.sl 3 (d.clock.map onT)).w<(zac l).w:=by
 have:=zav (f:=zaa) (sz:=3) h
 rw[show zaa d= .ag (zeR d) from rfl,w_ag]at this
 simp only[zeR,qaj,qay,qao,qaI,w_s]at this
 have h2:(zac l).w=(T.sl 3 (l.map zaa)).w:=rfl
 omega
theorem zrf{l:List OnC}{o:OnC}(h:o∈l):o.name.length<(T.sl 3 (l.map onT)).w:=by
 have:=zav (f:=onT) (sz:=3) h
 rw[onT,w_ag]at this
 simp only[qaj,qay,qao,qaI,w_s]at this
 omega
theorem zif(p:Prog)(n q:Int)(seen:List (Int×Str×Int))(h:Ch)(hk:h.ok)(l:List Decl)(hw:(zac l).w≤1000000000):SS 160 [.ref h.id 0,.t (zac l)] p n q seen h h (zlF h.vis l):=by
 have hml:(l.map zaa).length=l.length:=qaa _
 have hlb:l.length≤1000000000:=qaE (qbs (zai zaa 3 l)) hw
 unfold zlF
 refine Sound.err rfl (fun _=>rfl) ?_
 refine so Tryz.func160 ?_
 refine TR.dead ?_
 repeat' (first|refine wu ?_|exact wkc|intro hc|refine wk2 ?_ ?_|fail)
 refine TR.zal l.length (fun k=>zaf (fun d=>zaf (fun o:OnC=>if o.name∈h.vis then 0 else 6) d.clock) (l.take k)=0) (fun k=>[(0,.ref 0 0),(1,.ref h.id 0),(10,.t (zac l)),(11,.i (l.map zaa).length),(12,.i k)]) (fun _=>full p n q seen h) rfl (fun k hlt ha=>?_) (fun ha=>?_)
 ·have hx:=zcQ hlt
  have g1:=zaF (f:=fun d=>zaf (fun o:OnC=>if o.name∈h.vis then 0 else 6) d.clock) hlt ha
  have g2:=zaq (f:=fun d=>zaf (fun o:OnC=>if o.name∈h.vis then 0 else 6) d.clock) hlt ha
  have hwx:=(za2 (qad hlt)).2
  generalize l[k]=x at*
  have hlc:=zai onT 3 x.clock
  have hmo:(x.clock.map onT).length=x.clock.length:=qaa _
  unfold zeR at hx
  repeat' (first|refine wu ?_|exact wkc|intro hc|refine wk2 ?_ ?_|fail)
  refine TR.zal x.clock.length (fun j=>zaf (fun o:OnC=>if o.name∈h.vis then 0 else 6) (x.clock.take j)=0) (fun j=>[(0,.ref 0 0),(1,.ref h.id 0),(10,.t (zac l)),(11,.i (l.map zaa).length),(12,.i k),(17,.t (.sl 3 (x.clock.map onT))),(18,.i (x.clock.map onT).length),(19,.i j)]) (fun _=>full p n q seen h) rfl (fun j hlt2 ha2=>?_) (fun ha2=>?_)
  ·have hx2:=zvl hlt2
   have f1:=zaF (f:=fun o:OnC=>if o.name∈h.vis then 0 else 6) hlt2 ha2
   have f2:=zaq (f:=fun o:OnC=>if o.name∈h.vis then 0 else 6) hlt2 ha2
   have hno:x.clock[j].name.length≤1000000000:=by have:=zrf (qad hlt2);omega
   generalize x.clock[j]=o at*
   repeat' (first|refine wkt ?_|refine wka ?_|refine wkD ?_|refine wk ?_|exact wkc|intro hc|refine wk2 ?_ ?_|(apply TO.zgK;(iterate 4 exact rfl);assumption;assumption)|(apply TO.zjn;(iterate 3 exact rfl);assumption)|(apply TO.zok;(iterate 4 exact rfl);assumption;assumption;exact rfl)|refine wms ?_|(apply TO.sees hk;exact rfl;exact rfl;(first|exact rfl|exact Ch.tk _ _ _ _ _);assumption)|(apply TO.defined hk;exact rfl;exact rfl;(first|exact rfl|exact Ch.tk _ _ _ _ _);assumption)|fail)
   ·exact zab.zat hlt2 (f2 (by rw[if_pos hc]))
   ·((repeat' (first|refine zab.panic ?_|refine wk ?_|fail));apply retS;(first|assumption|decide);(clear hx;first|grind|grind [orE]);(first|exact leB|exact Nat.le_refl _|(simp[Ch.len];done)|(simp[Ch.len];omega)))
  ·have e1:=zaH ha2
   refine wk ?_
   repeat' (first|refine wu ?_|exact wkc|intro hc|refine wk2 ?_ ?_|fail)
   exact zab.zat hlt (g2 e1)
 ·exact zwbs
end Go.Proofs.YtpnnpgbaiobbjaaGreatDoor
