import Derived.Test.YtddaclniamlmbaaGreatDoorPk20
import Derived.Test.YtddaclniamlmbaaGreatDoorPk22
set_option linter.unusedSimpArgs false
set_option linter.unusedVariables false
namespace Go.TL
open Go
def DeadK(K:TK):TK
 | .panic v,env,H=>K (.panic v) env (List.replicate H.length .dead)
 | e,env,H=>K e env H
section rules
variable {P:Program}{n:Nat}{env:Env}{H:Heap}{K:TK}
theorem Post.dead{φ:Fm}{m:M}{e:Exit}{a:Act}{w:World}(h:Post φ m n (DeadK K) e a w):Post φ m n K e a w:=by
 obtain⟨m2,env2,te,rfl,s,hm,he,hd,hx,hk⟩:=h
 cases te with
 | normal=>exact⟨m2,env2,.normal,rfl,s,hm,he,hd,hx,hk⟩
 | exit i=>exact⟨m2,env2,.exit i,rfl,s,hm,he,hd,hx,hk⟩
 | ret=>exact⟨m2,env2,.ret,rfl,s,hm,he,hd,hx,hk⟩
 | panic v=>
   obtain⟨s1,hm1⟩:=dead_ok hm
   refine⟨⟨m2.A,m2.β,m2.H.map fun _=>.dead,m2.w⟩,env2,.panic v,rfl,s.trans s1,hm1,he.step hm s1,hd,?_,?_⟩
   ·cases e with
    | panic ch=>obtain⟨x,x1,x2⟩:=hx;exact⟨x,x1,s1.srel hm x2⟩
    | _=>simp[ExRel]at hx
   ·show K (.panic v) env2 (m2.H.map fun _=>Blk.dead)
    rw[List.map_const'];exact hk
theorem TR.dead{c:Code}(h:TR P n c env H (DeadK K)):TR P n c env H K:=
 fun φ m a h1 h2 h3 h4=>wpr_mono (h φ m a h1 h2 h3 h4) fun _ _ _ hp=>hp.dead
theorem DeadK.normal(h:K .normal env H):DeadK K .normal env H:=h
theorem DeadK.ret(h:K .ret env H):DeadK K .ret env H:=h
theorem DeadK.errP{tab:Tab}{rs:List ResultVar}{N:Nat}{c:Int}{v pv:SV}{H1:Heap}(hc:c≠0)(hN:N≤H.length)(hu:∀k,pv.under k=true):DeadK (RetK tab rs N (Err0 c v pv H1 N)) (.panic pv) env H:=
 RetK.errP (tab:=tab) (rs:=rs) (N:=N) (env:=env) (H:=List.replicate H.length .dead) hc (by simpa using hN) (hu _) (by rw[List.length_replicate];exact blksUnder_dead _ _)
end rules
end Go.TL
namespace Go.Proofs.YtddaclniamlmbaaGreatDoor
open Go Go.TL
attribute [local irreducible] TR TO Then InBlock RetK Sound LoopK Kf GG ThenL
abbrev failS (n q c:Int):SV:=.ifc 113 (.t (.ag [T.i n,T.i q,T.i c]))
theorem mustS_ok(p:Prog)(n q:Int)(seen:List (Int×Str×Int))(e:Int):Sound Tryz.prog 136 [.ref 0 0,.b true,.i e] [lkB p n q,seenB seen] (fun r H'=>r= .ret (.tup [])/\H'=[lkB p n q,seenB seen]):=by
 refine so Tryz.func136 ?_
 repeat' (first|refine wu ?_|exact wkc|intro hc|refine wk2 ?_ ?_|fail)
 exact RetK.keepN 2 (vs:=[]) rfl (Le.refl _) rfl rfl rfl rfl rfl ⟨rfl,rfl⟩
theorem mustS_no(p:Prog)(n q:Int)(seen:List (Int×Str×Int))(e:Int)(he:e≠0):Sound Tryz.prog 136 [.ref 0 0,.b false,.i e] [lkB p n q,seenB seen] (Err e (.tup []) (failS n q e) [lkB p n q,seenB seen]):=by
 refine Sound.err rfl (fun _=>rfl) ?_
 refine so Tryz.func136 ?_
 repeat' (first|refine wu ?_|exact wkc|intro hc|refine wk2 ?_ ?_|(apply TO.makeInterface;exact rfl;kernel_rfl;exact rfl)|(apply TO.panic;exact rfl)|fail)
 exact RetK.errP he rfl rfl rfl
theorem Ch.len(h:Ch)(p:Prog)(n q:Int)(seen:List (Int×Str×Int)):(full p n q seen h).length=h.N:=by cases h <;> rfl
theorem Ch.under(h:Ch)(p:Prog)(n q:Int)(seen:List (Int×Str×Int)):blksUnder h.N (full p n q seen h)=true:=by cases h <;> rfl
theorem Ch.ge(h:Ch):5≤h.N:=by cases h <;> simp[Ch.N]
theorem Ch.tk(h:Ch)(p:Prog)(n q:Int)(seen:List (Int×Str×Int)):(full p n q seen h).take h.N=full p n q seen h:=List.take_of_length_le (by rw[Ch.len];exact Nat.le_refl _)
theorem Ch.tkl(h:Ch)(p:Prog)(n q:Int)(seen:List (Int×Str×Int)):(full p n q seen h).take (full p n q seen h).length=full p n q seen h:=List.take_of_length_le (Nat.le_refl _)
theorem Ch.und(h:Ch)(p:Prog)(n q:Int)(seen:List (Int×Str×Int)):blksUnder (full p n q seen h).length (full p n q seen h)=true:=by rw[Ch.len];exact Ch.under h p n q seen
theorem Ch.ble(h:Ch)(p:Prog)(n q:Int)(seen:List (Int×Str×Int)):Nat.ble (full p n q seen h).length (full p n q seen h).length=true:=by simp
section
variable {n:Nat}{env:Env}{K:TK}{all:Array Oper}{rest:List Oper}{d:Nat}{ty:TypeId}{pos:String}{aft:Array Edge}{p:Prog}{a q e:Int}{seen:List (Int×Str×Int)}{H Hr:Heap}{args:Array Operand}{ts:Array TypeId}
theorem TO.mustST(hd:Nat.ble (d+1) n=true)(ha:env.vals args.toList=some [.ref 0 0,.b true,.i e])(h1:H=lkB p a q::seenB seen::Hr)(k:TO false Tryz.prog n all rest ((d,.tup [])::env) H K):
  TO false Tryz.prog n all (⟨some d,.call { callee:=.value (.func 136),args:=args,argTypes:=ts },ty,pos,aft,none⟩::rest) env H K:=by
 subst h1
 exact TO.callD 2 (mustS_ok p a q seen e) hd rfl ha ⟨Le.refl _,Le.refl _,Le.refl _,trivial⟩ (by simp) rfl rfl rfl rfl rfl rfl (by simp[forceL_self]) k
theorem TO.mustSF(hd:Nat.ble (d+1) n=true)(ha:env.vals args.toList=some [.ref 0 0,.b false,.i e])(h1:H=lkB p a q::seenB seen::Hr)(he:e≠0)(k:K (.panic (failS a q e)) env (.dead:: .dead::Hr)):
  TO false Tryz.prog n all (⟨some d,.call { callee:=.value (.func 136),args:=args,argTypes:=ts },ty,pos,aft,none⟩::rest) env H K:=by
 subst h1
 exact TO.callEN 2 (mustS_no p a q seen e he) hd rfl ha ⟨Le.refl _,Le.refl _,Le.refl _,trivial⟩ (by simp) rfl rfl rfl rfl rfl rfl rfl (by simp[forceL_self];rfl) (fun h=>absurd h he) (fun _=>k)
theorem TO.callDb(N:Nat){Hc:Heap}{cargs:List SV}{b:Bool}{f:Operand}{fid:FuncId}{caps:List SV}{vs:List SV}
  (hs:Sound Tryz.prog fid cargs Hc fun r H'=>r= .ret (.b b)/\H'=Hc)(hd:Nat.ble (d+1) n=true)(hf:env.val f=some (.fn fid caps))(ha:env.vals args.toList=some vs)(hl:Les (vs++caps) cargs)
  (hN:N≤H.length)(hc:H.take N=Hc)(hu:unders N cargs=true)(hb:blksUnder N Hc=true)
  (k1:b=true->TO false Tryz.prog n all rest ((d,.b true)::env) H K)(k2:b=false->TO false Tryz.prog n all rest ((d,.b false)::env) H K):
  TO false Tryz.prog n all (⟨some d,.call { callee:=.value f,args:=args,argTypes:=ts },ty,pos,aft,none⟩::rest) env H K:=by
 have hl1:Hc.length=N:=by rw[<-hc];simp;omega
 refine TO.callD N hs hd hf ha hl (by simpa using hN) hc hu hb rfl hl1 hb (H':=H) (by rw[<-hc,List.take_append_drop,forceL_self]) ?_
 cases b
 ·exact k2 rfl
 ·exact k1 rfl
theorem TO.sees{h:Ch}{nm:Str}(hk:h.ok)(hd:Nat.ble (d+1) n=true)(ha:env.vals args.toList=some [.ref h.id 0,.s nm])(hH:H.take h.N=full p a q seen h)(hs:nm.length≤1000000000)
  (k1:nm∈h.vis->TO false Tryz.prog n all rest ((d,.b true)::env) H K)(k2:nm ∉ h.vis->TO false Tryz.prog n all rest ((d,.b false)::env) H K):
  TO false Tryz.prog n all (⟨some d,.call { callee:=.value (.func 203),args:=args,argTypes:=ts },ty,pos,aft,none⟩::rest) env H K:=by
 have hN:h.N≤H.length:=by have:=congrArg List.length hH;rw[Ch.len]at this;simp at this;omega
 refine TO.callDb h.N (sees_sound p a q seen h hk nm hs) hd rfl ha ⟨Le.refl _,Le.refl _,trivial⟩ hN hH ?_ (Ch.under h p a q seen) (fun hb=>k1 (by simpa using hb)) (fun hb=>k2 (by simpa using hb))
 cases h <;> rfl
theorem TO.defined{h:Ch}{nm:Str}(hk:h.ok)(hd:Nat.ble (d+1) n=true)(ha:env.vals args.toList=some [.ref h.id 0,.s nm])(hH:H.take h.N=full p a q seen h)(hs:nm.length≤1000000000)
  (k1:(nm∈h.low\/nm∈h.top.done)->TO false Tryz.prog n all rest ((d,.b true)::env) H K)(k2:¬(nm∈h.low\/nm∈h.top.done)->TO false Tryz.prog n all rest ((d,.b false)::env) H K):
  TO false Tryz.prog n all (⟨some d,.call { callee:=.value (.func 204),args:=args,argTypes:=ts },ty,pos,aft,none⟩::rest) env H K:=by
 have hN:h.N≤H.length:=by have:=congrArg List.length hH;rw[Ch.len]at this;simp at this;omega
 refine TO.callDb h.N (defined_sound p a q seen h hk nm hs) hd rfl ha ⟨Le.refl _,Le.refl _,trivial⟩ hN hH ?_ (Ch.under h p a q seen) (fun hb=>k1 (by simpa using hb)) (fun hb=>k2 (by simpa using hb))
 cases h <;> rfl
end
theorem wms{G Q:Prop}(k:Q)(h:Hold Q->G:=by
  intro k
  first
  | (apply Go.Proofs.YtddaclniamlmbaaGreatDoor.TO.mustST;exact rfl;exact rfl;exact rfl;exact k.p)
  | (apply Go.Proofs.YtddaclniamlmbaaGreatDoor.TO.mustSF;exact rfl;exact rfl;exact rfl;decide;exact k.p)
  | (apply Go.Proofs.YtddaclniamlmbaaGreatDoor.TO.mustSF;exact rfl;exact rfl;exact rfl;assumption;exact k.p)):G:=h ⟨k⟩
abbrev SS (f:FuncId)(args:List SV)(p:Prog)(n q:Int)(seen:List (Int×Str×Int))(h h':Ch)(c:Int):Prop:=Sound Tryz.prog f (.ref 0 0::args) (full p n q seen h) (Err c (.tup []) (failS n q c) (full p n q seen h'))
theorem retS{rs:List ResultVar}{env:Env}{H H1:Heap}{n q c c':Int}{N:Nat}{v:SV}(h0:c'≠0)(hc:c'=c)(hN:N≤H.length):
  DeadK (RetK tab rs N (Err0 c v (failS n q c) H1 N)) (.panic (failS n q c')) env H:=by
 subst hc;exact DeadK.errP h0 hN (fun _=>rfl)
theorem retSN{env:Env}{H H1:Heap}{n q c:Int}{N:Nat}(hc:c=0)(hN:Nat.ble N H1.length=true)(hk:Nat.ble H1.length H.length=true)(ht:H.take H1.length=H1)(hb:blksUnder H1.length H1=true):
  DeadK (RetK tab [] N (Err0 c (.tup []) (failS n q c) H1 N)) .normal env H:=RetK.errN (vs:=[]) hc rfl (Le.refl _) hN hk rfl ht hb
def samplE(vis:List Str)(l:List Decl):Int:=firstE (fun d=>firstE (fun o:OnC=>if o.name∈vis then 0 else 6) d.clock) l
theorem name_decl{l:List Decl}{d:Decl}(h:d∈l):d.name.length<(declsT l).w/\(T.sl 3 (d.clock.map onT)).w<(declsT l).w:=by
 have:=w_inM (f:=declT) (sz:=3) h
 rw[show declT d= .ag (declC d) from rfl,w_ag]at this
 simp only[declC,List.map_cons,List.map_nil,List.sum_cons,List.sum_nil,w_s]at this
 have h2:(declsT l).w=(T.sl 3 (l.map declT)).w:=rfl
 omega
theorem name_on{l:List OnC}{o:OnC}(h:o∈l):o.name.length<(T.sl 3 (l.map onT)).w:=by
 have:=w_inM (f:=onT) (sz:=3) h
 rw[onT,w_ag]at this
 simp only[List.map_cons,List.map_nil,List.sum_cons,List.sum_nil,w_s]at this
 omega
theorem sampl_sound(p:Prog)(n q:Int)(seen:List (Int×Str×Int))(h:Ch)(hk:h.ok)(l:List Decl)(hw:(declsT l).w≤1000000000):SS 139 [.ref h.id 0,.t (declsT l)] p n q seen h h (samplE h.vis l):=by
 have hml:(l.map declT).length=l.length:=List.length_map _
 have hlb:l.length≤1000000000:=Nat.le_trans (Nat.le_of_lt (w_lenM declT 3 l)) hw
 unfold samplE
 refine Sound.err rfl (fun _=>rfl) ?_
 refine so Tryz.func139 ?_
 refine TR.dead ?_
 repeat' (first|refine wu ?_|exact wkc|intro hc|refine wk2 ?_ ?_|fail)
 refine TR.loopN l.length (fun k=>firstE (fun d=>firstE (fun o:OnC=>if o.name∈h.vis then 0 else 6) d.clock) (l.take k)=0) (fun k=>[(0,.ref 0 0),(1,.ref h.id 0),(10,.t (declsT l)),(11,.i (l.map declT).length),(12,.i k)]) (fun _=>full p n q seen h) rfl (fun k hlt ha=>?_) (fun ha=>?_)
 ·have hx:=at_decl hlt
  have g1:=firstE_at (f:=fun d=>firstE (fun o:OnC=>if o.name∈h.vis then 0 else 6) d.clock) hlt ha
  have g2:=firstE_next (f:=fun d=>firstE (fun o:OnC=>if o.name∈h.vis then 0 else 6) d.clock) hlt ha
  have hwx:=(name_decl (List.getElem_mem hlt)).2
  generalize l[k]=x at*
  have hlc:=w_lenM onT 3 x.clock
  have hmo:(x.clock.map onT).length=x.clock.length:=List.length_map _
  unfold declC at hx
  repeat' (first|refine wu ?_|exact wkc|intro hc|refine wk2 ?_ ?_|fail)
  refine TR.loopN x.clock.length (fun j=>firstE (fun o:OnC=>if o.name∈h.vis then 0 else 6) (x.clock.take j)=0) (fun j=>[(0,.ref 0 0),(1,.ref h.id 0),(10,.t (declsT l)),(11,.i (l.map declT).length),(12,.i k),(17,.t (.sl 3 (x.clock.map onT))),(18,.i (x.clock.map onT).length),(19,.i j)]) (fun _=>full p n q seen h) rfl (fun j hlt2 ha2=>?_) (fun ha2=>?_)
  ·have hx2:=at_on hlt2
   have f1:=firstE_at (f:=fun o:OnC=>if o.name∈h.vis then 0 else 6) hlt2 ha2
   have f2:=firstE_next (f:=fun o:OnC=>if o.name∈h.vis then 0 else 6) hlt2 ha2
   have hno:x.clock[j].name.length≤1000000000:=by have:=name_on (List.getElem_mem hlt2);omega
   generalize x.clock[j]=o at*
   repeat' (first|refine wkt ?_|refine wka ?_|refine wkD ?_|refine wk ?_|exact wkc|intro hc|refine wk2 ?_ ?_|(apply TO.setGet;exact rfl;exact rfl;exact rfl;exact rfl;assumption;assumption)|(apply TO.nilGet;exact rfl;exact rfl;exact rfl;assumption)|(apply TO.setPut;exact rfl;exact rfl;exact rfl;exact rfl;assumption;assumption;exact rfl)|refine wms ?_|(apply TO.sees hk;exact rfl;exact rfl;(first|exact rfl|exact Ch.tk _ _ _ _ _);assumption)|(apply TO.defined hk;exact rfl;exact rfl;(first|exact rfl|exact Ch.tk _ _ _ _ _);assumption)|fail|fail)
   ·exact LoopK.nextN hlt2 (f2 (by rw[if_pos hc]))
   ·((repeat' (first|refine LoopK.panic ?_|refine wk ?_|fail));apply retS;(first|assumption|decide);(clear hx;first|grind|grind [orE]);(first|exact Nat.le_of_ble_eq_true rfl|exact Nat.le_refl _|(simp[Ch.len];done)|(simp[Ch.len];omega)))
  ·have e1:=firstE_all ha2
   refine wk ?_
   repeat' (first|refine wu ?_|exact wkc|intro hc|refine wk2 ?_ ?_|fail)
   exact LoopK.nextN hlt (g2 e1)
 ·have e1:=firstE_all ha
  repeat' (first|refine wu ?_|exact wkc|intro hc|refine wk2 ?_ ?_|fail)
  exact retSN e1 (Ch.ble _ _ _ _ _) (Ch.ble _ _ _ _ _) (Ch.tkl _ _ _ _ _) (Ch.und _ _ _ _ _)
theorem foldl_at{α β:Type}(f:β->α->β)(a:β){l:List α}{j:Nat}(h:j<l.length):(l.take (j+1)).foldl f a=f ((l.take j).foldl f a) l[j]:=by rw[take_at h,List.foldl_append];rfl
theorem ok_fold{α:Type}{f:List Str->α->List Str}:∀ {l:List α} {a:List Str},SetOk a->(∀a x,x∈l->SetOk a->SetOk (f a x))->SetOk (l.foldl f a)
 | [],_,h,_=>h
 | x::l,a,h,hf=>ok_fold (l:=l) (hf a x (List.mem_cons_self ..) h) fun a y hy=>hf a y (List.mem_cons_of_mem _ hy)
theorem ok_take{α:Type}{f:List Str->α->List Str}{l:List α}{a:List Str}(h:SetOk a)(hf:∀a x,x∈l->SetOk a->SetOk (f a x))(j:Nat):SetOk ((l.take j).foldl f a):=ok_fold h fun a x hx=>hf a x (List.mem_of_mem_take hx)
abbrev ShortS (s:Str):Prop:=s.length≤1000000000
structure ShortD (d:Decl):Prop where
 name:ShortS d.name
 ck:∀o∈d.clock,ShortS o.name
 few:d.clock.length≤100000000
theorem shortD_of{l:List Decl}(h:(declsT l).w≤100000000):∀d∈l,ShortD d:=fun d hd=>by
 have h1:=name_decl hd
 refine⟨by show _≤_;omega,fun o ho=>?_,?_⟩
 ·have h2:=w_inM (f:=onT) (sz:=3) ho
  rw[show onT o= .ag [.s o.name,T.n o.t,T.n o.tag] from rfl,w_ag]at h2
  simp only[List.map_cons,List.map_nil,List.sum_cons,List.sum_nil,w_s]at h2
  show _≤_
  omega
 ·have h2:=w_lenM onT 3 d.clock
  omega
theorem ok_gather{a:List Str}{ds:List Decl}(h:SetOk a)(hd:∀d∈ds,ShortD d):SetOk (gatherL a ds):=ok_fold h fun a d hh ha=>ok_fold (ha.ins (hd d hh).name) fun a o ho ha=>ha.ins ((hd d hh).ck o ho)
theorem ok_lhs{a:List Str}{qs:List Equ}(h:SetOk a)(hq:∀q∈qs,∀s∈q.left,ShortS s):SetOk (lhsL a qs):=ok_fold h fun a q hh ha=>ok_fold ha fun a s hs ha=>ha.ins (hq q hh s hs)
def ShortE(e:Ex):Prop:=∀x∈flat e,ShortS x.name
theorem shortE_of{e:Ex}(h:(exT e).w≤1000000000):ShortE e:=fun x hx=>Nat.le_trans (flat_nameF _ e (Nat.le_refl _) x hx) h
where
 flat_nameF:∀(m:Nat) (e:Ex),wEx e≤m->∀x∈flat e,x.name.length≤(exT e).w
 | 0,e,h=>by have:=wEx_pos e;omega
 | m+1,e,h=>by
   intro x hx
   have he:(exT e).w=(T.ag (exC e)).w:=by rw[exT_eq]
   have h1:e.name.length+(T.sl 6 (e.args.map exT)).w≤(exT e).w:=by
    rw[he,w_ag];simp only[exC,List.map_cons,List.map_nil,List.sum_cons,List.sum_nil,w_s];omega
   rw[flat_eq]at hx
   rcases List.mem_cons.1 hx with rfl|hx
   ·omega
   ·unfold flats at hx
    obtain⟨l,hl,hxl⟩:=List.mem_flatten.1 hx
    obtain⟨y,hy,rfl⟩:=List.mem_map.1 hl
    have:=flat_nameF m y (by have:=wEx_arg hy;omega) x hxl
    have:=w_inM (f:=exT) (sz:=6) hy
    omega
theorem ok_one{a:List Str}{x:Ex}(h:SetOk a)(hx:ShortS x.name):SetOk (oneL a x):=by
 unfold oneL
 split
 ·exact h.ins hx
 ·exact h
theorem ok_expr{a:List Str}{e:Ex}(h:SetOk a)(he:ShortE e):SetOk (exprL a e):=ok_fold h fun a x hx ha=>ok_one ha (he x hx)
theorem sta_in{l:List Auto}{x:Auto}{s:Sta}(hx:x∈l)(hs:s∈x.states):s.name.length+(declsT s.locals).w+(T.sl 7 (s.eqs.map equT)).w+(T.sl 1 (s.autos.map autoT)).w+(T.sl 8 (s.unl.map tranT)).w+(T.sl 8 (s.unt.map tranT)).w<(T.sl 1 (l.map autoT)).w:=by
 have h1:=w_inM (f:=autoT) (sz:=1) hx
 have h2:=w_auto x
 have h3:=w_inM (f:=staT) (sz:=6) hs
 rw[staT_eq,w_ag]at h3
 simp only[List.map_cons,List.map_nil,List.sum_cons,List.sum_nil,w_s]at h3
 have h4:(declsT s.locals).w=(T.sl 3 (s.locals.map declT)).w:=rfl
 omega
theorem equ_in{l:List Equ}{q:Equ}(hq:q∈l):(∀s∈q.left,s.length<(T.sl 7 (l.map equT)).w)/\(exT q.right).w<(T.sl 7 (l.map equT)).w/\q.left.length<(T.sl 7 (l.map equT)).w:=by
 have h1:=w_inM (f:=equT) (sz:=7) hq
 rw[show equT q= .ag (.sl 1 (q.left.map T.s)::exC q.right) from rfl,w_ag,List.map_cons,List.sum_cons]at h1
 refine⟨fun s hs=>?_,?_,?_⟩
 ·have h2:=w_inM (f:=T.s) (sz:=1) hs
  rw[w_s]at h2
  omega
 ·rw[exT_eq,w_ag];omega
 ·have h2:=w_lenM T.s 1 q.left
  omega
theorem tran_in{l:List Tran}{t:Tran}(ht:t∈l):(exT t.cond).w<(T.sl 8 (l.map tranT)).w:=by
 have h1:=w_inM (f:=tranT) (sz:=8) ht
 rw[show tranT t= .ag [T.n t.cond.kind,T.n t.cond.op,T.n t.cond.t,T.n t.cond.v,.s t.cond.name,.sl 6 (t.cond.args.map exT),T.n t.to,.b t.resume] from rfl,w_ag]at h1
 simp only[List.map_cons,List.map_nil,List.sum_cons,List.sum_nil]at h1
 rw[exT_eq,w_ag]
 simp only[exC,List.map_cons,List.map_nil,List.sum_cons,List.sum_nil]
 omega
theorem lhs_short{qs:List Equ}(hq:(T.sl 7 (qs.map equT)).w≤100000000):∀q∈qs,∀s∈q.left,ShortS s:=fun q hh s hs=>by
 have:=(equ_in hh).1 s hs
 show _≤_
 omega
theorem ok_states:∀(m:Nat) (a:List Str) (qs:List Equ) (l:List Auto),SetOk a->(T.sl 7 (qs.map equT)).w≤100000000->(T.sl 1 (l.map autoT)).w≤100000000->SetOk (statesL m a qs l)
 | 0,a,_,_,h,_,_=>h
 | m+1,a,qs,l,h,hq,hl=>by
   unfold statesL
   refine ok_fold (ok_lhs h (lhs_short hq)) fun a x hx ha=>ok_fold ha fun a s hs ha=>?_
   have h1:=sta_in hx hs
   exact ok_states m _ _ _ (ok_gather (ha.ins (by omega)) (shortD_of (by omega))) (by omega) (by omega)
theorem ok_exprs:∀(m:Nat) (a:List Str) (qs:List Equ) (l:List Auto),SetOk a->(T.sl 7 (qs.map equT)).w≤100000000->(T.sl 1 (l.map autoT)).w≤100000000->SetOk (exprsL m a qs l)
 | 0,a,_,_,h,_,_=>h
 | m+1,a,qs,l,h,hq,hl=>by
   unfold exprsL
   refine ok_fold (ok_fold h fun a q hh ha=>ok_expr ha (shortE_of (by have:=(equ_in hh).2.1;omega))) fun a x hx ha=>ok_fold ha fun a s hs ha=>?_
   have h1:=sta_in hx hs
   refine ok_fold (ok_exprs m _ _ _ ha (by omega) (by omega)) fun a t ht ha=>ok_expr ha (shortE_of ?_)
   rcases List.mem_append.1 ht with ht|ht
   ·have:=tran_in ht;omega
   ·have:=tran_in ht;omega
set_option maxHeartbeats 4000000 in
theorem gather_sound (a:List Str) (ha:SetOk a) (ds:List Decl) (hl:(declsT ds).w≤100000000):Sound Tryz.prog 78 [.mp 0,.t (declsT ds)] [setB a] (fun r H'=>r= .ret (.tup [])/\H'=[setB (gatherL a ds)]):=by
 have hd:=shortD_of hl
 have hml:(ds.map declT).length=ds.length:=List.length_map _
 have hlb:ds.length≤100000000:=by
  have h1:=w_lenM declT 3 ds
  have h2:(declsT ds).w=(T.sl 3 (ds.map declT)).w:=rfl
  omega
 unfold gatherL
 obtain⟨f,hf⟩:∃f:List Str->Decl->List Str,f=fun a d=>d.clock.foldl (fun a o=>ins a o.name) (ins a d.name):=⟨_,rfl⟩
 rw[<-hf]
 have hok:=ok_take (f:=f) (l:=ds) ha (fun a d hh ha=>by rw[hf];exact ok_fold (ha.ins (hd d hh).name) fun a o ho ha=>ha.ins ((hd d hh).ck o ho))
 refine so Tryz.func78 ?_
 repeat' (first|refine wkt ?_|fail)
 refine TR.loopN ds.length (fun _=>True) (fun j=>[(0,.mp 0),(8,.t (declsT ds)),(9,.i ds.length),(10,.i j)]) (fun j=>[setB ((ds.take j).foldl f a)]) trivial (fun j hlt _=>?_) (fun _=>?_) ⟨rfl,rfl,by rw[<-hml];rfl,rfl,trivial⟩ rfl
 ·have hx:=at_map declT hlt
  have hn:=foldl_at f a hlt
  have hdd:=hd _ (List.getElem_mem hlt)
  have hk:=hok j
  generalize (ds.take j).foldl f a=acc at*
  have hfe:f acc ds[j]=ds[j].clock.foldl (fun a o=>ins a o.name) (ins acc ds[j].name):=by rw[hf]
  rw[hfe]at hn
  have hok2:=ok_take (f:=fun a (o:OnC)=>ins a o.name) (l:=ds[j].clock) (hk.ins hdd.name) (fun a o ho ha=>ha.ins (hdd.ck o ho))
  have hnm:=hdd.name
  have hck:=hdd.ck
  have hfew:=hdd.few
  clear hfe hdd
  generalize ds[j]=d at*
  obtain⟨nm,ty,ck⟩:=d
  dsimp only[declT]at hx hn hok2 hnm hck hfew
  have hmc:(ck.map onT).length=ck.length:=List.length_map _
  repeat' (first|refine wkt ?_|(apply TO.indexAddr tabOk;(iterate 8 exact rfl);omega;exact hx)|(apply TO.setPut;exact rfl;exact rfl;exact rfl;exact rfl;exact hk;exact hnm;exact rfl)|refine LoopK.exit ?_|exact wkc|intro hc|refine wk2 ?_ ?_|fail)
  refine TR.loopN ck.length (fun _=>True) (fun k=>[(0,.mp 0),(8,.t (declsT ds)),(9,.i ds.length),(10,.i j),(18,.t (.sl 3 (ck.map onT))),(19,.i ck.length),(20,.i k)]) (fun k=>[setB ((ck.take k).foldl (fun a o=>ins a o.name) (ins acc nm))]) trivial (fun k hlk _=>?_) (fun _=>?_) ⟨rfl,rfl,rfl,rfl,rfl,by rw[<-hmc];rfl,rfl,trivial⟩ rfl
  ·have hy:=at_map onT hlk
   have hn2:=foldl_at (fun a (o:OnC)=>ins a o.name) (ins acc nm) hlk
   have hk2:=hok2 k
   have hs2:=hck _ (List.getElem_mem hlk)
   generalize (ck.take k).foldl (fun a (o:OnC)=>ins a o.name) (ins acc nm)=acc2 at*
   generalize ck[k]=o at*
   obtain⟨onm,ot,otg⟩:=o
   dsimp only[onT]at hy hs2 hn2
   repeat' (first|refine wkt ?_|(apply TO.indexAddr tabOk;(iterate 8 exact rfl);omega;exact hy)|(apply TO.setPut;exact rfl;exact rfl;exact rfl;exact rfl;exact hk2;exact hs2;exact rfl)|refine LoopK.exit ?_|exact wkc|intro hc|refine wk2 ?_ ?_|refine wk ?_|fail)
   exact LoopK.nextN hlk trivial (by(try dsimp only);exact⟨rfl,rfl,rfl,rfl,rfl,rfl,rfl,trivial⟩) (by(try dsimp only);rw[hn2])
  ·rw[List.take_length,<-hn]
   repeat' (first|refine wkt ?_|refine LoopK.exit ?_|exact wkc|intro hc|refine wk2 ?_ ?_|refine wk ?_|fail)
   exact LoopK.nextN hlt trivial (by(try dsimp only);exact⟨rfl,rfl,rfl,rfl,trivial⟩) rfl
 ·rw[List.take_length]
  repeat' (first|refine wu ?_|exact wkc|intro hc|refine wk2 ?_ ?_|fail)
  exact RetK.keepN 1 rfl (Le.refl _) rfl rfl rfl rfl rfl ⟨rfl,rfl⟩
set_option maxHeartbeats 8000000 in
theorem states_sound:∀(m:Nat) (a:List Str) (qs:List Equ) (l:List Auto),SetOk a->(T.sl 7 (qs.map equT)).w≤100000000->(T.sl 1 (l.map autoT)).w≤100000000->(T.sl 1 (l.map autoT)).w≤m->
  Sound Tryz.prog 79 [.mp 0,.t (.sl 7 (qs.map equT)),.t (.sl 1 (l.map autoT))] [setB a] (fun r H'=>r= .ret (.tup [])/\H'=[setB (statesL m a qs l)])
 | 0,_,_,l,_,_,_,hm=>by have:=w_pos (T.sl 1 (l.map autoT));omega
 | m+1,a,qs,l,ha,hq,hl,hm=>by
   have ih:=states_sound m
   have hmq:(qs.map equT).length=qs.length:=List.length_map _
   have hml:(l.map autoT).length=l.length:=List.length_map _
   have hqb:=w_lenM equT 7 qs
   have hlb:=w_lenM autoT 1 l
   have hsh:=lhs_short hq
   have hqi:=fun q hh=>(equ_in (l:=qs) (q:=q) hh).2.2
   unfold statesL lhsL
   obtain⟨f,hf⟩:∃f:List Str->Equ->List Str,f=fun a q=>q.left.foldl ins a:=⟨_,rfl⟩
   obtain⟨g,hg⟩:∃g:List Str->Auto->List Str,g=fun a x=>x.states.foldl (fun a s=>statesL m (gatherL (ins a s.name) s.locals) s.eqs s.autos) a:=⟨_,rfl⟩
   rw[<-hf,<-hg]
   have hok:=ok_take (f:=f) (l:=qs) ha (fun a q hh ha=>by rw[hf];exact ok_fold ha fun a s hs ha=>ha.ins (hsh q hh s hs))
   have hokS:∀x∈l,∀s∈x.states,∀a,SetOk a->SetOk (statesL m (gatherL (ins a s.name) s.locals) s.eqs s.autos):=fun x hx s hs a ha=>by
    have h1:=sta_in hx hs
    exact ok_states m _ _ _ (ok_gather (ha.ins (by omega)) (shortD_of (by omega))) (by omega) (by omega)
   have hok1:=hok qs.length
   rw[List.take_length]at hok1
   have hokA:=ok_take (f:=g) (l:=l) hok1 (fun a x hx ha=>by rw[hg];exact ok_fold ha fun a s hs ha=>hokS x hx s hs a ha)
   refine so Tryz.func79 ?_
   repeat' (first|refine wkt ?_|fail)
   refine TR.loopN qs.length (fun _=>True) (fun j=>[(0,.mp 0),(2,.t (.sl 1 (l.map autoT))),(14,.t (.sl 7 (qs.map equT))),(15,.i qs.length),(16,.i j)]) (fun j=>[setB ((qs.take j).foldl f a)]) trivial (fun j hlt _=>?_) (fun _=>?_) ⟨rfl,rfl,rfl,by rw[<-hmq];rfl,rfl,trivial⟩ rfl
   ·have hx:(qs.map equT)[j]?=some (.ag [T.sl 1 (qs[j].left.map T.s),T.n qs[j].right.kind,T.n qs[j].right.op,T.n qs[j].right.t,T.n qs[j].right.v,T.s qs[j].right.name,T.sl 6 (qs[j].right.args.map exT)]):=at_map equT hlt
    have hn:=foldl_at f a hlt
    have hk:=hok j
    have hss:=hsh _ (List.getElem_mem hlt)
    have hlen:=hqi _ (List.getElem_mem hlt)
    generalize (qs.take j).foldl f a=acc at*
    have hfe:f acc qs[j]=qs[j].left.foldl ins acc:=by rw[hf]
    rw[hfe]at hn
    have hok2:=ok_take (f:=ins) (l:=qs[j].left) hk (fun a s hs ha=>ha.ins (hss s hs))
    have hmc:(qs[j].left.map T.s).length=qs[j].left.length:=List.length_map _
    clear hfe ih hokA hokS hok
    generalize qs[j]=q at*
    repeat' (first|refine wkt ?_|(apply TO.indexAddr tabOk;(iterate 8 exact rfl);omega;exact hx)|refine LoopK.exit ?_|exact wkc|intro hc|refine wk2 ?_ ?_|fail)
    refine TR.loopN q.left.length (fun _=>True) (fun k=>[(0,.mp 0),(2,.t (.sl 1 (l.map autoT))),(14,.t (.sl 7 (qs.map equT))),(15,.i qs.length),(16,.i j),(21,.t (.sl 1 (q.left.map T.s))),(22,.i q.left.length),(23,.i k)]) (fun k=>[setB ((q.left.take k).foldl ins acc)]) trivial (fun k hlk _=>?_) (fun _=>?_) ⟨rfl,rfl,rfl,rfl,rfl,rfl,by rw[<-hmc];rfl,rfl,trivial⟩ rfl
    ·have hy:=at_map T.s hlk
     have hn2:=foldl_at ins acc hlk
     have hk2:=hok2 k
     have hs2:=hss _ (List.getElem_mem hlk)
     generalize (q.left.take k).foldl ins acc=acc2 at*
     generalize q.left[k]=s at*
     repeat' (first|refine wkt ?_|(apply TO.indexAddr tabOk;(iterate 8 exact rfl);omega;exact hy)|(apply TO.setPut;exact rfl;exact rfl;exact rfl;exact rfl;exact hk2;exact hs2;exact rfl)|refine LoopK.exit ?_|exact wkc|intro hc|refine wk2 ?_ ?_|refine wk ?_|fail)
     exact LoopK.nextN hlk trivial (by(try dsimp only);exact⟨rfl,rfl,rfl,rfl,rfl,rfl,rfl,rfl,trivial⟩) (by(try dsimp only);rw[hn2])
    ·rw[List.take_length,<-hn]
     repeat' (first|refine wkt ?_|refine LoopK.exit ?_|exact wkc|intro hc|refine wk2 ?_ ?_|refine wk ?_|fail)
     exact LoopK.nextN hlt trivial (by(try dsimp only);exact⟨rfl,rfl,rfl,rfl,rfl,trivial⟩) rfl
   rw[List.take_length]
   clear hok hqi hsh
   generalize qs.foldl f a=a1 at*
   repeat' (first|refine wkt ?_|refine LoopK.exit ?_|exact wkc|intro hc|refine wk2 ?_ ?_|fail)
   refine TR.loopN l.length (fun _=>True) (fun j=>[(0,.mp 0),(31,.t (.sl 1 (l.map autoT))),(32,.i l.length),(33,.i j)]) (fun j=>[setB ((l.take j).foldl g a1)]) trivial (fun j hlt _=>?_) (fun _=>?_) ⟨rfl,rfl,by rw[<-hml];rfl,rfl,trivial⟩ rfl
   ·have hx:=at_map autoT hlt
    rw[autoT_eq]at hx
    have hn:=foldl_at g a1 hlt
    have hk:=hokA j
    have hoS:=hokS _ (List.getElem_mem hlt)
    have hsi:=fun s hs=>sta_in (List.getElem_mem hlt) (s:=s) hs
    have hsb:l[j].states.length≤100000000:=by
     have h1:=w_inM (f:=autoT) (sz:=1) (List.getElem_mem hlt)
     have h2:=w_auto l[j]
     have h3:=w_lenM staT 6 l[j].states
     omega
    generalize (l.take j).foldl g a1=acc at*
    have hge:g acc l[j]=l[j].states.foldl (fun a s=>statesL m (gatherL (ins a s.name) s.locals) s.eqs s.autos) acc:=by rw[hg]
    rw[hge]at hn
    have hok2:=ok_take (f:=fun a (s:Sta)=>statesL m (gatherL (ins a s.name) s.locals) s.eqs s.autos) (l:=l[j].states) hk (fun a s hs ha=>hoS s hs a ha)
    clear hge hokA hokS
    generalize l[j]=x at*
    obtain⟨sts⟩:=x
    simp only[Auto.states]at hx hn hoS hsi hok2 hsb
    have hmc:(sts.map staT).length=sts.length:=List.length_map _
    repeat' (first|refine wkt ?_|(apply TO.indexAddr tabOk;(iterate 8 exact rfl);omega;exact hx)|refine LoopK.exit ?_|exact wkc|intro hc|refine wk2 ?_ ?_|fail)
    refine TR.loopN sts.length (fun _=>True) (fun k=>[(0,.mp 0),(31,.t (.sl 1 (l.map autoT))),(32,.i l.length),(33,.i j),(38,.t (.sl 6 (sts.map staT))),(39,.i sts.length),(40,.i k)]) (fun k=>[setB ((sts.take k).foldl (fun a s=>statesL m (gatherL (ins a s.name) s.locals) s.eqs s.autos) acc)]) trivial (fun k hlk _=>?_) (fun _=>?_) ⟨rfl,rfl,rfl,rfl,rfl,by rw[<-hmc];rfl,rfl,trivial⟩ rfl
    ·have hy:=at_map staT hlk
     rw[staT_eq]at hy
     have hn2:=foldl_at (fun a (s:Sta)=>statesL m (gatherL (ins a s.name) s.locals) s.eqs s.autos) acc hlk
     have hk2:=hok2 k
     have hw:=hsi _ (List.getElem_mem hlk)
     generalize (sts.take k).foldl (fun a (s:Sta)=>statesL m (gatherL (ins a s.name) s.locals) s.eqs s.autos) acc=acc2 at*
     have hs2:ShortS sts[k].name:=by show _≤_;omega
     have c1:=gather_sound (ins acc2 sts[k].name) (hk2.ins hs2) sts[k].locals (by omega)
     have c2:=ih (gatherL (ins acc2 sts[k].name) sts[k].locals) sts[k].eqs sts[k].autos (ok_gather (hk2.ins hs2) (shortD_of (by omega))) (by omega) (by omega) (by omega)
     generalize statesL m (gatherL (ins acc2 sts[k].name) sts[k].locals) sts[k].eqs sts[k].autos=a3 at*
     generalize sts[k]=s at*
     repeat' (first|refine wkt ?_|(apply TO.indexAddr tabOk;(iterate 8 exact rfl);omega;exact hy)|(apply TO.setPut;exact rfl;exact rfl;exact rfl;exact rfl;exact hk2;exact hs2;exact rfl)|(apply TO.callD 1 c1;exact rfl;exact rfl;exact rfl;exact Les.refl _;exact rfl;exact rfl;exact rfl;exact rfl;exact rfl;exact rfl;exact rfl;exact rfl)|(apply TO.callD 1 c2;exact rfl;exact rfl;exact rfl;exact Les.refl _;exact rfl;exact rfl;exact rfl;exact rfl;exact rfl;exact rfl;exact rfl;exact rfl)|refine LoopK.exit ?_|exact wkc|intro hc|refine wk2 ?_ ?_|refine wk ?_|fail)
     exact LoopK.nextN hlk trivial (by(try dsimp only);exact⟨rfl,rfl,rfl,rfl,rfl,rfl,rfl,trivial⟩) (by(try dsimp only);rw[hn2])
    ·rw[List.take_length,<-hn]
     repeat' (first|refine wkt ?_|refine LoopK.exit ?_|exact wkc|intro hc|refine wk2 ?_ ?_|refine wk ?_|fail)
     exact LoopK.nextN hlt trivial (by(try dsimp only);exact⟨rfl,rfl,rfl,rfl,trivial⟩) rfl
   ·rw[List.take_length]
    repeat' (first|refine wu ?_|exact wkc|intro hc|refine wk2 ?_ ?_|fail)
    exact RetK.keepN 1 rfl (Le.refl _) rfl rfl rfl rfl rfl ⟨rfl,rfl⟩
end Go.Proofs.YtddaclniamlmbaaGreatDoor
