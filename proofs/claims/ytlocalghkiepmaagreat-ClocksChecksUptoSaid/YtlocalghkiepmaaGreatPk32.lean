import Derived.Test.YtlocalghkiepmaaGreatPk2
import Derived.Test.YtlocalghkiepmaaGreatPk5
import Derived.Test.YtlocalghkiepmaaGreatPk13
import Derived.Test.YtlocalghkiepmaaGreatPk23
import Derived.Test.YtlocalghkiepmaaGreatPk31
set_option linter.unusedSimpArgs false
set_option linter.unusedVariables false
namespace Go.TL
open Go
def WeakK(K:TK):TK:=fun e env H=>∃env1:Env,(∀i v,env1.look i=some v->∃u,env.look i=some u/\Le u v)/\K e env1 H
section rules
variable {P:Program}{n:Nat}{env:Env}{H:Heap}{K:TK}
theorem Post.weak{φ:Fm}{m:M}{e:Exit}{a:Act}{w:World}(h:Post φ m n (WeakK K) e a w):Post φ m n K e a w:=by
 obtain⟨m2,env2,te,rfl,s,hm,he,hd,hx,env1,hle,hk⟩:=h
 exact⟨m2,env1,te,rfl,s,hm,⟨he.1,fun i v hv=>by
  obtain⟨u,hu,hl⟩:=hle i v hv
  obtain⟨x,x1,x2⟩:=he.2 i u hu
  exact⟨x,x1,hl m2 x x2⟩⟩,hd,hx,hk⟩
theorem TR.weak{c:Code}(h:TR P n c env H (WeakK K)):TR P n c env H K:=
 fun φ m a h1 h2 h3 h4=>wpr_mono (h φ m a h1 h2 h3 h4) fun _ _ _ hp=>hp.weak
theorem WeakK.done{e:TExit}(h:K e env H):WeakK K e env H:=⟨env,fun _ v hv=>⟨v,hv,Le.refl v⟩,h⟩
theorem WeakK.own{e:TExit}(i:Nat){sz id:Nat}{es:List T}(hi:env.look i=some (.sl sz es id))(h:K e ((i,.t (.sl sz es))::env) H):WeakK K e env H:=by
 refine⟨_,fun j v hv=>?_,h⟩
 by_cases hj:i=j
 ·subst hj
  rw[Env.look_cons_same]at hv
  cases hv
  exact⟨_,hi,Le.own _ _ _⟩
 ·rw[Env.look_cons_other _ _ hj]at hv
  exact⟨v,hv,Le.refl v⟩
theorem WeakK.ret(h:K .ret env H):WeakK K .ret env H:=WeakK.done h
theorem WeakK.exit{i:Nat}(h:K (.exit i) env H):WeakK K (.exit i) env H:=WeakK.done h
variable {all:Array Oper}{rest:List Oper}{tab:Tab}{d:Nat}{ty:TypeId}{pos:String}{aft:Array Edge}
theorem TO.append0(hT:TabOk P tab){t t' e:TypeId}{i i' ie:TyI}{sz id:Nat}{ys:List T}{x y:Operand}{vy:SV}{H':Heap}(hd:Nat.ble (d+1) n=true)(ht:tab.get t=some i)(hk:i.k= .slice e)(ht':tab.get t'=some i')(hk':i'.k= .slice e)
  (he:tab.get e=some ie)(hs:ie.size=sz)(hpos:Nat.ble 1 sz=true)(hx:env.val x=some (.sl sz [] id))(hH:H[id]?=some (.tail 0))(hy:env.val y=some vy)(hvy:vy.elems sz=some ys)
  (hby:Nat.ble ie.bytes 4096=true)(hb1:ys.length≤10000000000)(hH':H.set id (.tail ys.length)=H')
  (k:TO false P n all rest ((d,.sl sz ys id)::env) H' K):TO false P n all (⟨some d,.call { callee:=.builtin .append,args:=#[x,y],argTypes:=#[t,t'] },ty,pos,aft,none⟩::rest) env H K:=
 TO.appendB (es:=[]) hT hd ht hk ht' hk' he hs hpos hx hH hy hvy hby (by simpa using hb1) (by rw[<-hH'];simp) k
theorem TO.callTl{cargs:List SV}{sz m:Nat}{es:List T}{f:Operand}{fid:FuncId}{caps:List SV}{args:Array Operand}{ts:Array TypeId}{vs:List SV}
  (hs:Sound P fid cargs [] fun r H'=>r= .ret (.sl sz es 0)/\H'=[.tail m])(hd:Nat.ble (d+1) n=true)
  (hf:env.val f=some (.fn fid caps))(ha:env.vals args.toList=some vs)(hl:Les (vs++caps) cargs)(hu:unders 0 cargs=true)
  (k:TO false P n all rest ((d,.sl sz es H.length)::env) (H++[.tail m]) K):
  TO false P n all (⟨some d,.call { callee:=.value f,args:=args,argTypes:=ts },ty,pos,aft,none⟩::rest) env H K:=
 TO.call1 [] hs hd hf ha (by rw[rens_under (N:=0) (fun j hj=>by omega) _ hu];exact hl) hu (hands_none H) (by simp[SV.ren,names]) (by
  simp only[patch,List.map_cons,List.map_nil,Blk.ren]) k
end rules
end Go.TL
namespace Go.TL
open Go
theorem TO.tail{P:Program}{n:Nat}{env:Env}{K:TK}{all:Array Oper}{ops:List Oper}{H:Heap}(sz i:Nat)(hi:env.look i=some (.t (.v (.slice none 0 0))))(k:TO false P n all ops ((i,.sl sz [] H.length)::env) (H++[.tail 0]) K):TO false P n all ops env H K:=by
 intro φ m a h1 h2 h3 h4
 obtain⟨x,hx1,hx2⟩:=h3.2 i _ hi
 have:=hx2.v_eq
 subst this
 obtain⟨s,hm'⟩:=grow_tail h2
 refine wpListIn_mono (fun _ _ _ hp=>hp.step s) (fun _ _=>Post.not_outgrown) _ _ _ (k φ ⟨m.A,m.β++[⟨0,0,0⟩],m.H++[.tail 0],m.w⟩ a (by rw[h1]) hm' ⟨h3.1,fun j v hv=>?_⟩ h4)
 by_cases hj:i=j
 ·subst hj
  rw[Env.look_cons_same]at hv
  cases hv
  exact⟨_,hx1,h1 ▸ nil_tail h2 sz⟩
 ·rw[Env.look_cons_other _ _ hj]at hv
  exact(h3.step h2 s).2 j v hv
end Go.TL
set_option linter.unusedVariables false
set_option linter.unusedSimpArgs false
namespace Go.Proofs.YtlocalghkiepmaaGreat
open Go Go.TL
attribute [local irreducible] TR TO Then InBlock RetK Sound LoopK Kf GG ThenL
theorem longerR_sound(ck:List OnC)(hck:ck.length≤1000000000)(o:OnC):Pure Tryz.prog 99 [.t (onsT ck),.t (onT o)] (.t (onsT (ck++[o]))):=by
 have hma:(ck++[o]).map onT=ck.map onT++[.ag [.s o.name,T.n o.t,T.n o.tag]]:=by simp[onT]
 have m1:(ck.map onT).length=ck.length:=List.length_map _
 show Pure _ _ [.t (.sl 3 (ck.map onT)),.t (.ag [.s o.name,T.n o.t,T.n o.tag])] _
 rw[onsT,hma]
 refine Sound.of tabOk Tryz.func99 (by kernel_rfl) rfl rfl ?_
 repeat' (first|refine wkt ?_|fail)
 refine TO.tail 3 6 rfl ?_
 apply TO.append0 tabOk;iterate 13 exact rfl
 ·simp only[List.length_map];omega
 ·exact rfl
 repeat' (first|refine wkt ?_|refine wk ?_|exact wkc|intro hc|refine wk2 ?_ ?_|fail)
 exact wkr
theorem smallZ{vars:List Decl}(hk:∀d∈vars,SmallK d.clock)(nm:Str):SmallK (findZ vars nm).clock:=by
 unfold findZ
 cases h:findD vars nm with
 | none=>exact SmallK.nil
 | some d=>exact hk d (findD_mem h).1
set_option maxHeartbeats 8000000 in
theorem fitsKR_sound (vars:List Decl) (hl:vars.length≤1000000000) (hk:∀d∈vars,SmallK d.clock):∀(m:Nat) (e:Ex),wEx e≤m->wEx e≤1000000000->(∀x∈flat e,x.name.length≤1000000000)->(∀x∈flat e,oneX x=0)->∀ck,SmallK ck->ck.length≤4->
  Pure Tryz.prog 58 [.t (declsT vars),.t (.ag (exC e)),.t (onsT ck)] (.i (fitsR vars m e ck)):=by
 intro m
 induction m with
 | zero=>intro e he;have:=wEx_pos e;omega
 | succ m ih0=>
   intro e he hb hn ho1 ck hck hc4
   have hself:=hn e (flat_mem.2 (.inl rfl))
   have hone:=ho1 e (flat_mem.2 (.inl rfl))
   have ih:∀a∈e.args,∀ck,SmallK ck->ck.length≤4->Pure Tryz.prog 58 [.t (declsT vars),.t (.ag (exC a)),.t (onsT ck)] (.i (fitsR vars m a ck)):=fun a ha=>ih0 a (by have:=wEx_arg ha;omega) (by have:=wEx_arg ha;omega) (fun x hx=>hn x (flat_sub ha x hx)) (fun x hx=>ho1 x (flat_sub ha x hx))
   clear ih0
   have hf:=findKR_sound vars hl e.name
   have hsz:=smallZ hk e.name
   have hdc:=findZ_clock vars e.name
   generalize findZ vars e.name=d at*
   generalize (findD vars e.name).isSome=fo at*
   have hs:=sameKR_sound d.clock ck hsz hck
   rw[show declT d= .ag [.s d.name,T.n d.ty,.sl 3 (d.clock.map onT)] from rfl]at hf
   have hck1:=hck.1
   have hml:(e.args.map exT).length=e.args.length:=List.length_map _
   have mck:(ck.map onT).length=ck.length:=List.length_map _
   have hal:e.args.length≤1000000000:=by
    have:∀l:List Ex,l.length≤(l.map wEx).sum:=fun l=>by
     induction l with
     | nil=>simp
     | cons y l ih=>have:=wEx_pos y;simp;omega
    have h2:=wEx_eq e
    have:=this e.args
    omega
   rw[fitsR]
   unfold headR
   rw[<-hdc]
   clear hdc
   have hcx:exC e=[T.n e.kind,T.n e.op,T.n e.t,T.n e.v,.s e.name,.sl 6 (e.args.map exT)]:=rfl
   rw[hcx]at*
   by_cases h2:e.kind.1=2
   ·rw[if_pos h2,if_pos h2]
    clear ih
    by_cases hq:d.clock=ck
    ·rw[decide_eq_true hq]at hs
     rw[if_pos hq]
     refine Sound.of tabOk Tryz.func58 (by kernel_rfl) rfl rfl ?_
     repeat' (first|refine wkt ?_|refine wka ?_|refine wk ?_|exact wkc|intro hc|refine wk2 ?_ ?_|refine wv hf ?_|refine wv hs ?_|fail)
     exact wkr
    ·rw[decide_eq_false hq]at hs
     rw[if_neg hq]
     refine Sound.of tabOk Tryz.func58 (by kernel_rfl) rfl rfl ?_
     repeat' (first|refine wkt ?_|refine wka ?_|refine wk ?_|exact wkc|intro hc|refine wk2 ?_ ?_|refine wv hf ?_|refine wv hs ?_|fail)
     exact wkr
   rw[if_neg h2,if_neg h2]
   by_cases h8:e.kind.1=8
   ·rw[if_pos h8,if_pos h8]
    clear hs
    obtain⟨a,hargs⟩:∃a,e.args=[a]:=List.length_eq_one_iff.1 (arity_one hone h8)
    rcases List.eq_nil_or_concat ck with h|⟨c0,o,h⟩
    ·subst h
     clear ih
     refine Sound.of tabOk Tryz.func58 (by kernel_rfl) rfl rfl ?_
     repeat' (first|refine wkt ?_|refine wka ?_|refine rg [.i (-1),.b true,.b true,.t (.v undef),.t (.v undef),.t (.v undef),.t (.v undef),.t (.v undef),.t (.v undef),.t (.v undef),.t (.v undef),.t (.v undef),.t (.v undef),.t (.v undef),.t (.v undef),.b true,.b true,.t (.v undef),.t (.v undef),.t (.v undef),.t (.v undef),.t (.v undef),.t (.v undef),.t (.v undef),.b true] ?_ ?_|refine wv hf ?_|exact trivial|exact And.intro rfl rfl|refine And.intro (fun H env=>?_) ?_|refine wk ?_|exact wkc|intro hc|refine wk2 ?_ ?_|fail)
     exact wkr
    have hcc:ck=c0++[o]:=by simpa using h
    obtain⟨k0,hk0⟩:∃k0,k0=c0.length:=⟨_,rfl⟩
    have hlk:ck.length=k0+1:=by rw[hcc,hk0];simp
    have htk:ck.take k0=c0:=by rw[hcc,hk0];simp
    have hlast:(ck.map onT)[k0]?=some (.ag [.s o.name,T.n o.t,T.n o.tag]):=by rw[hcc,hk0];simp[onT]
    have hnv:(((ck.map onT).length:Int)-1)=(k0:Int):=by omega
    have hno:o.name.length≤1000000000:=hck.2 o (by rw[hcc];simp)
    have hgl:ck.getLast? =some o:=by rw[hcc];simp
    have hdl:ck.dropLast=c0:=by rw[hcc];simp
    have hi:=ih a (by rw[hargs];simp) (ck.take k0) (hck.take k0) (by simp;omega)
    have hs:=sameKR_sound d.clock (ck.take k0) hsz (hck.take k0)
    rw[htk,<-htk,show onsT (ck.take k0)= .sl 3 ((ck.map onT).take k0) by rw[onsT,List.map_take],htk]at hs hi
    rw[hgl,hdl,show e.args.headD e=a by rw[hargs];rfl]
    have hax:(e.args.map exT)[0]?=some (.ag [T.n a.kind,T.n a.op,T.n a.t,T.n a.v,.s a.name,.sl 6 (a.args.map exT)]):=by rw[hargs];simp[exT_eq,exC]
    clear ih hgl hdl
    generalize fitsR vars m a c0=r at*
    unfold exC at hi
    by_cases ho:o=onOf e
    ·have hne:(!decide (o=onOf e))=false:=by rw[ho];simp
     by_cases hq:d.clock=c0
     ·rw[decide_eq_true hq]at hs
      rw[if_pos ⟨by rw[ho],hq⟩,show orE 0 r=r from rfl]
      refine Sound.of tabOk Tryz.func58 (by kernel_rfl) rfl rfl ?_
      repeat' (first|refine wkt ?_|refine wka ?_|refine wv hf ?_|exact wkc|intro hc|refine wk2 ?_ ?_|(apply Go.TL.TO.sub64;exact rfl;exact rfl;exact rfl;omega;omega)|fail)
      rw[hnv]
      repeat' (first|refine wkt ?_|refine wka ?_|refine rg [.i k0,.b false,.b false,.t (onsT ck),.i k0,.cp [.s o.name,T.n o.t,T.n o.tag] 0,.t (.ag [.s o.name,T.n o.t,T.n o.tag]),.cp [T.n e.kind,T.n e.op,T.n e.t,T.n e.v,.s e.name,.sl 6 (e.args.map exT)] 4,.s e.name,.cp [T.n e.kind,T.n e.op,T.n e.t,T.n e.v,.s e.name,.sl 6 (e.args.map exT)] 2,.t (T.n e.t),.cp [T.n e.kind,T.n e.op,T.n e.t,T.n e.v,.s e.name,.sl 6 (e.args.map exT)] 3,.t (T.n e.v),.t (.ag [.s e.name,T.n e.t,T.n e.v]),.b false,.b false,.b false,.cp [.s d.name,T.n d.ty,.sl 3 (d.clock.map onT)] 2,.t (onsT d.clock),.t (onsT ck),.i k0,.t (.sl 3 ((ck.map onT).take k0)),.b true,.b false,.b false] ?_ ?_|refine rg [.t (declsT vars),.cp [T.n e.kind,T.n e.op,T.n e.t,T.n e.v,.s e.name,.sl 6 (e.args.map exT)] 5,.t (.sl 6 (e.args.map exT)),.cp [T.n a.kind,T.n a.op,T.n a.t,T.n a.v,.s a.name,.sl 6 (a.args.map exT)] 0,.t (.ag [T.n a.kind,T.n a.op,T.n a.t,T.n a.v,.s a.name,.sl 6 (a.args.map exT)]),.t (onsT ck),.i k0,.t (.sl 3 ((ck.map onT).take k0)),.i r,.i r] ?_ ?_|refine wv hs ?_|refine wv hi ?_|(apply TO.neOnV (b:=onOf e);exact rfl;exact rfl;exact rfl;assumption;assumption;(first|exact hne|exact rfl))|exact trivial|exact And.intro rfl rfl|refine And.intro (fun H env=>?_) ?_|refine wk ?_|exact wkc|intro hc|refine wk2 ?_ ?_|fail)
      exact wkr
     ·rw[decide_eq_false hq]at hs
      rw[if_neg (fun h=>hq h.2),show orE 11 r=11 from rfl]
      clear hi
      refine Sound.of tabOk Tryz.func58 (by kernel_rfl) rfl rfl ?_
      repeat' (first|refine wkt ?_|refine wka ?_|refine wv hf ?_|exact wkc|intro hc|refine wk2 ?_ ?_|(apply Go.TL.TO.sub64;exact rfl;exact rfl;exact rfl;omega;omega)|fail)
      rw[hnv]
      repeat' (first|refine wkt ?_|refine wka ?_|refine rg [.i k0,.b false,.b false,.t (onsT ck),.i k0,.cp [.s o.name,T.n o.t,T.n o.tag] 0,.t (.ag [.s o.name,T.n o.t,T.n o.tag]),.cp [T.n e.kind,T.n e.op,T.n e.t,T.n e.v,.s e.name,.sl 6 (e.args.map exT)] 4,.s e.name,.cp [T.n e.kind,T.n e.op,T.n e.t,T.n e.v,.s e.name,.sl 6 (e.args.map exT)] 2,.t (T.n e.t),.cp [T.n e.kind,T.n e.op,T.n e.t,T.n e.v,.s e.name,.sl 6 (e.args.map exT)] 3,.t (T.n e.v),.t (.ag [.s e.name,T.n e.t,T.n e.v]),.b false,.b false,.b false,.cp [.s d.name,T.n d.ty,.sl 3 (d.clock.map onT)] 2,.t (onsT d.clock),.t (onsT ck),.i k0,.t (.sl 3 ((ck.map onT).take k0)),.b false,.b true,.b true] ?_ ?_|refine wv hs ?_|(apply TO.neOnV (b:=onOf e);exact rfl;exact rfl;exact rfl;assumption;assumption;(first|exact hne|exact rfl))|exact trivial|exact And.intro rfl rfl|refine And.intro (fun H env=>?_) ?_|refine wk ?_|exact wkc|intro hc|refine wk2 ?_ ?_|fail)
      exact wkr
    ·have hne:(!decide (o=onOf e))=true:=by simp[ho]
     rw[if_neg (fun h=>ho (Option.some.inj h.1)),show orE 11 r=11 from rfl]
     clear hi
     refine Sound.of tabOk Tryz.func58 (by kernel_rfl) rfl rfl ?_
     repeat' (first|refine wkt ?_|refine wka ?_|refine wv hf ?_|exact wkc|intro hc|refine wk2 ?_ ?_|(apply Go.TL.TO.sub64;exact rfl;exact rfl;exact rfl;omega;omega)|fail)
     rw[hnv]
     repeat' (first|refine wkt ?_|refine wka ?_|refine rg [.i k0,.b false,.b false,.t (onsT ck),.i k0,.cp [.s o.name,T.n o.t,T.n o.tag] 0,.t (.ag [.s o.name,T.n o.t,T.n o.tag]),.cp [T.n e.kind,T.n e.op,T.n e.t,T.n e.v,.s e.name,.sl 6 (e.args.map exT)] 4,.s e.name,.cp [T.n e.kind,T.n e.op,T.n e.t,T.n e.v,.s e.name,.sl 6 (e.args.map exT)] 2,.t (T.n e.t),.cp [T.n e.kind,T.n e.op,T.n e.t,T.n e.v,.s e.name,.sl 6 (e.args.map exT)] 3,.t (T.n e.v),.t (.ag [.s e.name,T.n e.t,T.n e.v]),.b true,.b true,.b true,.t (.v undef),.t (.v undef),.t (.v undef),.t (.v undef),.t (.v undef),.t (.v undef),.t (.v undef),.b true] ?_ ?_|(apply TO.neOnV (b:=onOf e);exact rfl;exact rfl;exact rfl;assumption;assumption;(first|exact hne|exact rfl))|exact trivial|exact And.intro rfl rfl|refine And.intro (fun H env=>?_) ?_|refine wk ?_|exact wkc|intro hc|refine wk2 ?_ ?_|fail)
     exact wkr
   rw[if_neg h8,if_neg h8]
   by_cases hbad:e.kind.1=9/\¬(d.clock=ck/\ck.length≠4)
   ·obtain⟨h9,hbad⟩:=hbad
    rw[if_pos h9]
    clear ih
    by_cases hq:d.clock=ck
    ·have h4:ck.length=4:=Classical.byContradiction fun h=>hbad ⟨hq,h⟩
     rw[decide_eq_true hq]at hs
     rw[if_pos hq,if_pos h4]
     refine Sound.of tabOk Tryz.func58 (by kernel_rfl) rfl rfl ?_
     repeat' (first|refine wkt ?_|refine wka ?_|refine wk ?_|exact wkc|intro hc|refine wk2 ?_ ?_|refine wv hf ?_|refine wv hs ?_|fail)
     exact wkr
    ·rw[decide_eq_false hq]at hs
     rw[if_neg hq]
     refine Sound.of tabOk Tryz.func58 (by kernel_rfl) rfl rfl ?_
     repeat' (first|refine wkt ?_|refine wka ?_|refine wk ?_|exact wkc|intro hc|refine wk2 ?_ ?_|refine wv hf ?_|refine wv hs ?_|fail)
     exact wkr
   have hgo:e.kind.1=9->d.clock=ck/\ck.length<4:=fun h=>by
    have:=Classical.byContradiction fun hh=>hbad ⟨h,hh⟩
    exact⟨this.1,by omega⟩
   have hhead:(if e.kind.1=9 then if d.clock=ck then if ck.length=4 then(3:Int) else 0 else 11 else 0)=0:=by
    split
    ·rename_i h9
     obtain⟨q1,q2⟩:=hgo h9
     rw[if_pos q1,if_neg (by omega)]
    ·rfl
   rw[hhead,show orE 0 (argsG (fun i a=>fitsR vars m a (underX e ck i)) 0 e.args)=argsG (fun i a=>fitsR vars m a (underX e ck i)) 0 e.args from rfl]
   clear hhead hbad
   have hus:∀j,SmallK (underX e ck j)/\(underX e ck j).length≤4:=fun j=>by
    unfold underX
    rw[if_neg h8]
    split
    ·rename_i h9
     have:=(hgo h9).2
     refine⟨⟨by simp;omega,fun o ho=>?_⟩,by simp;omega⟩
     simp at ho
     rcases ho with ho|rfl
     ·exact hck.2 o ho
     ·exact hself
    ·exact⟨hck,hc4⟩
   have hlo:=fun k:Nat=>longerR_sound ck (by omega) ⟨e.name,e.t,nI k⟩
   by_cases h9:e.kind.1=9
   obtain⟨q1,q2⟩:=hgo h9
   rw[decide_eq_true q1]at hs
   refine Sound.of tabOk Tryz.func58 (by kernel_rfl) rfl rfl ?_
   repeat' (first|refine wkt ?_|refine wka ?_|refine wk ?_|exact wkc|intro hc|refine wk2 ?_ ?_|refine wv hf ?_|refine wv hs ?_|fail)
   rotate_left
   clear hs
   refine Sound.of tabOk Tryz.func58 (by kernel_rfl) rfl rfl ?_
   repeat' (first|refine wkt ?_|refine wka ?_|refine wk ?_|exact wkc|intro hc|refine wk2 ?_ ?_|refine wv hf ?_|fail)
   all_goals
    refine TR.loopN e.args.length (fun k=>argsG (fun i a=>fitsR vars m a (underX e ck i)) 0 (e.args.take k)=0) (fun k=>[(0,.t (declsT vars)),(2,.t (onsT ck)),(4,.cp [T.n e.kind,T.n e.op,T.n e.t,T.n e.v,.s e.name,.sl 6 (e.args.map exT)] 0),(10,.i k)]) (fun _=>[]) rfl (fun k hlt ha=>?_) (fun ha=>?_)
    ·have hx:=at_exT hlt
     have g1:=argsG_at (f:=fun i a=>fitsR vars m a (underX e ck i)) hlt ha
     have g2:=argsG_next (f:=fun i a=>fitsR vars m a (underX e ck i)) hlt ha
     have hi:=ih _ (List.getElem_mem hlt) (underX e ck k) (hus k).1 (hus k).2
     have hlo:=hlo k
     rw[show onT ⟨e.name,e.t,nI k⟩= .ag [.s e.name,T.n e.t,T.i k] from by show T.ag [.s e.name,T.n e.t,T.i (nI k).1]=_;rw[nI_val (by omega)]]at hlo
     have hun:underX e ck k=if e.kind.1=9 then ck++[⟨e.name,e.t,nI k⟩] else ck:=by unfold underX;rw[if_neg h8]
     first
     | rw[if_pos h9]at hun
     | rw[if_neg h9]at hun
     rw[hun]at hi g1 g2
     generalize fitsR vars m e.args[k] _=r at*
     generalize e.args[k]=a at*
     unfold exC at hx hi
     repeat' (first|refine wkt ?_|refine wka ?_|refine wk ?_|exact wkc|intro hc|refine wk2 ?_ ?_|refine wv hi ?_|refine wv hlo ?_|fail)
     all_goals first
      | exact LoopK.nextN hlt (g2 (by omega))
      | (rw[g1 (by omega)];(repeat' (first|refine LoopK.ret ?_|refine wk ?_|fail));exact wkr)
    ·rw[List.take_length]at ha
     rw[ha]
     repeat' (first|refine wkt ?_|refine wk ?_|exact wkc|intro hc|refine wk2 ?_ ?_|fail)
     exact wkr
end Go.Proofs.YtlocalghkiepmaaGreat
namespace Go.Proofs.YtlocalghkiepmaaGreat
open Go Go.TL
attribute [local irreducible] TR TO Then InBlock RetK Sound LoopK Kf GG ThenL
set_option maxHeartbeats 2000000 in
theorem fitsP_sound (p:Prog) (hp:SmallP p) (hq:∀n∈p.nodes,∀d∈varsL n,SmallK d.clock) (node:I64) (e:Ex) (he:wEx e≤1000000000) (hn:∀x∈flat e,x.name.length≤1000000000) (ck:List OnC) (hck:SmallK ck):
  Pure Tryz.prog 19 [.t (.ag (progC p)),.i node.1,.t (.ag (exC e)),.t (onsT ck)] (.i (fitsP p node e ck)):=by
 have hml:(p.nodes.map nodT).length=p.nodes.length:=List.length_map _
 have mck:(ck.map onT).length=ck.length:=List.length_map _
 have hb:=hp.nodes
 have hck1:=hck.1
 have hcx:=exprX_sound p.enums e he
 unfold fitsP
 by_cases h2:node.1<0\/(p.nodes.length:Int)≤node.1
 ·rw[if_pos h2]
  clear hcx
  unfold progC exC
  refine Sound.of tabOk Tryz.func19 (by kernel_rfl) rfl rfl ?_
  repeat' (first|refine wkt ?_|refine wk ?_|exact wkc|intro hc|refine wk2 ?_ ?_|fail|fail)
  all_goals first
   | exact wkr
   | (exfalso;omega)
 rw[if_neg h2]
 rw[exT_eq]at hcx
 by_cases hx:exprX p.enums e≠0
 ·rw[if_pos hx]
  generalize exprX p.enums e=c at hx hcx⊢
  unfold progC exC at*
  refine Sound.of tabOk Tryz.func19 (by kernel_rfl) rfl rfl ?_
  repeat' (first|refine wkt ?_|refine wk ?_|exact wkc|intro hc|refine wk2 ?_ ?_|refine wv hcx ?_|fail)
  all_goals first
   | exact wkr
   | (exfalso;omega)
 rw[if_neg hx]
 have hx0:exprX p.enums e=0:=Classical.byContradiction hx
 rw[hx0]at hcx
 obtain⟨k,hk,hkn⟩:∃k:Nat,k<p.nodes.length/\node.1=(k:Int):=⟨node.1.toNat,by omega,by omega⟩
 have hnt:node.1.toNat=k:=by omega
 rw[hnt,List.getElem?_eq_getElem hk]
 have hat:(p.nodes.map nodT)[node.1.toNat]?=some (.ag (nodC p.nodes[k])):=by rw[hnt];exact at_nod hk
 have hN:=hp.each p.nodes[k] (List.getElem_mem hk)
 have hv:=vars_sound p.nodes[k] hN (hp.clocks _ (List.getElem_mem hk))
 have hqk:=hq _ (List.getElem_mem hk)
 have hvl:(varsL p.nodes[k]).length≤1000000000:=by have:=hN.ins;have:=hN.outs;have:=hN.locals;simp[varsL];omega
 generalize p.nodes[k]=n at*
 simp only[]
 have hnm:=namesE_sound e he
 have hnl:(namesX [] e).length≤1000000000:=by have:=foldN_len (flat e) [];rw[flat_len]at this;simpa [namesX]using Nat.le_trans this (by simpa using he)
 have hfi:=fun(h4:ck.length≤4)=>fits_sound (varsL n) hvl hqk _ e (Nat.le_refl _) he hn ck hck
 have hfd:=fun s=>findK_sound (varsL n) hvl s
 generalize namesX [] e=ns at*
 generalize varsL n=vars at*
 have mns:(ns.map T.s).length=ns.length:=List.length_map _
 generalize fitsX (varsL n) e ck=z at*
 unfold progC exC nodC at*
 refine Sound.of tabOk Tryz.func19 (by kernel_rfl) rfl rfl ?_
 repeat' (first|refine wkt ?_|refine wka ?_|refine wv hcx ?_|refine wv hv ?_|refine wv hnm ?_|refine wk ?_|exact wkc|intro hc|refine wk2 ?_ ?_|fail)
 refine TR.loopN ns.length (fun j=>firstE (fun s=>if(findD vars s).isSome=true then(0:Int) else 6) (ns.take j)=0) (fun j=>[(3,.t (onsT ck)),(6,.cp [T.n e.kind,T.n e.op,T.n e.t,T.n e.v,.s e.name,.sl 6 (e.args.map exT)] 0),(10,.cp [declsT vars] 0),(39,.t (.sl 1 (ns.map T.s))),(40,.i (ns.map T.s).length),(41,.i j)]) (fun _=>[]) rfl (fun j hlt ha=>?_) (fun ha=>?_)
 ·have hx:=at_s hlt
  have g1:=firstE_at (f:=fun s=>if(findD vars s).isSome=true then(0:Int) else 6) hlt ha
  have g2:=firstE_next (f:=fun s=>if(findD vars s).isSome=true then(0:Int) else 6) hlt ha
  have hf:=hfd ns[j]
  generalize ns[j]=s at*
  rw[show declT (findZ vars s)= .ag [.s (findZ vars s).name,T.n (findZ vars s).ty,.sl 3 ((findZ vars s).clock.map onT)] from rfl]at hf
  cases hi:(findD vars s).isSome with
  | true=>
    rw[hi]at hf
    repeat' (first|refine wkt ?_|refine wka ?_|refine wk ?_|exact wkc|intro hc|refine wk2 ?_ ?_|refine wv hf ?_|fail)
    exact LoopK.nextN hlt (g2 (by rw[if_pos hi]))
  | false=>
    rw[hi]at hf
    have h6:=g1 (by rw[if_neg (by simp[hi])];decide)
    rw[if_neg (show ¬(findD vars s).isSome=true by simp[hi])]at h6
    rw[h6,if_pos (by decide)]
    repeat' (first|refine wkt ?_|refine wka ?_|refine wk ?_|exact wkc|intro hc|refine wk2 ?_ ?_|refine wv hf ?_|fail)
    exact wkr
 ·rw[List.take_length]at ha
  rw[ha,if_neg (by decide)]
  by_cases h4:4<ck.length
  ·rw[if_pos h4]
   clear hfi
   repeat' (first|refine wkt ?_|refine wk ?_|exact wkc|intro hc|refine wk2 ?_ ?_|fail)
   exact wkr
  ·rw[if_neg h4]
   have hfi:=hfi (by omega)
   repeat' (first|refine wkt ?_|refine wk ?_|exact wkc|intro hc|refine wk2 ?_ ?_|refine wv hfi ?_|fail)
   exact wkr
theorem clkP_sound(p:Prog)(hp:SmallP p)(node:I64)(nm:Str):
  Pure Tryz.prog 21 [.t (.ag (progC p)),.i node.1,.s nm] (.tup [.t (onsT (clkP p node nm).1),.i (clkP p node nm).2]):=by
 have hml:(p.nodes.map nodT).length=p.nodes.length:=List.length_map _
 have hb:=hp.nodes
 unfold clkP
 by_cases h2:node.1<0\/(p.nodes.length:Int)≤node.1
 ·rw[if_pos h2]
  unfold progC
  refine Sound.of tabOk Tryz.func21 (by kernel_rfl) rfl rfl ?_
  repeat' (first|refine wkt ?_|refine wk ?_|exact wkc|intro hc|refine wk2 ?_ ?_|fail|fail)
  all_goals first
   | exact wkr
   | (exfalso;omega)
 rw[if_neg h2]
 obtain⟨k,hk,hkn⟩:∃k:Nat,k<p.nodes.length/\node.1=(k:Int):=⟨node.1.toNat,by omega,by omega⟩
 have hnt:node.1.toNat=k:=by omega
 rw[hnt,List.getElem?_eq_getElem hk]
 have hat:(p.nodes.map nodT)[node.1.toNat]?=some (.ag (nodC p.nodes[k])):=by rw[hnt];exact at_nod hk
 have hN:=hp.each p.nodes[k] (List.getElem_mem hk)
 have hv:=vars_sound p.nodes[k] hN (hp.clocks _ (List.getElem_mem hk))
 have hcl:=hp.clocks _ (List.getElem_mem hk)
 have hvl:(varsL p.nodes[k]).length≤1000000000:=by have:=hN.ins;have:=hN.outs;have:=hN.locals;simp[varsL];omega
 generalize p.nodes[k]=n at*
 simp only[]
 have hf:=findK_sound (varsL n) hvl nm
 unfold findZ at hf
 cases hd:findD (varsL n) nm with
 | none=>
   rw[hd]at hf
   generalize varsL n=vars at*
   unfold progC nodC at*
   refine Sound.of tabOk Tryz.func21 (by kernel_rfl) rfl rfl ?_
   repeat' (first|refine wkt ?_|refine wka ?_|refine wk ?_|exact wkc|intro hc|refine wk2 ?_ ?_|refine wv hv ?_|refine wv hf ?_|fail)
   all_goals first
    | exact wkr
    | (exfalso;omega)
 | some d=>
   rw[hd]at hf
   simp only[Option.getD_some,Option.isSome_some]at hf⊢
   have hcs:=clone_sound (d.clock.map onT) (by rw[List.length_map];have:=hcl d (findD_mem hd).1;omega)
   rw[show declT d= .ag [.s d.name,T.n d.ty,.sl 3 (d.clock.map onT)] from rfl]at hf
   generalize varsL n=vars at*
   unfold progC nodC at*
   refine Sound.of tabOk Tryz.func21 (by kernel_rfl) rfl rfl ?_
   repeat' (first|refine wkt ?_|refine wka ?_|refine wk ?_|exact wkc|intro hc|refine wk2 ?_ ?_|refine wv hv ?_|refine wv hf ?_|refine wv hcs ?_|fail)
   all_goals first
    | exact wkr
    | (exfalso;omega)
end Go.Proofs.YtlocalghkiepmaaGreat
namespace Go.TL
open Go
section rules
variable {P:Program}{n:Nat}{env:Env}{H:Heap}{K:TK}{all:Array Oper}{rest:List Oper}{tab:Tab}{q:Bool}{d:Nat}{ty:TypeId}{pos:String}{aft:Array Edge}
theorem Fit.array{t:TypeId}{i:TyI}{c:Nat}{e:TypeId}(h:Fit P t i)(hk:i.k= .array c e):P.underlying t=some (.array c e):=by
 obtain⟨d,ti,z,h1,h2,h3,_⟩:=h.ex
 rw[hk]at h3
 cases d <;> simp[TK'.fits]at h3
 obtain⟨rfl,rfl⟩:=h3
 exact h1
theorem TO.buildA(hT:TabOk P tab){t e:TypeId}{i ie:TyI}{c:Nat}{parts:Array (Nat×Operand)}{ps:List (Nat×SV)}{cs:List SV}{ts:List T}(hd:Nat.ble (d+1) n=true)
  (ht:tab.get t=some i)(hk:i.k= .array c e)(he:tab.get e=some ie)(hs:ie.size=1)(hp:env.parts parts.toList=some ps)(hc:fillSV ((List.range c).map fun j=>(j,1)) (i.zero.map .t) ps=some cs)(hts:allT cs=some ts)
  (k:TO q P n all rest ((d,.t (.ag ts))::env) H K):TO q P n all (⟨some d,.build t parts,ty,pos,aft,none⟩::rest) env H K:=
 TO.op hd (fun m ac h1 h2 h3=>by
  obtain⟨z,hz1,hz2,hz3,_⟩:=(hT t i ht).zero
  obtain⟨q1,q0,q2⟩:=zero_rel (A:=m.A) (w:=m.w) _ _ hz2
  obtain⟨p1,p2⟩:=h3.parts parts.toList ps hp
  obtain⟨arr,r1,r2,r3,r4⟩:=fill_ok (m:=m) ((List.range c).map fun j=>(j,1)) (fun j=>some (j*1,1)) (fun j a ha=>by
   rw[List.getElem?_map]at ha
   cases hq:(List.range c)[j]? with
   | none=>rw[hq]at ha;cases ha
   | some x=>
     rw[hq]at ha;cases ha
     rw[List.getElem?_range]at hq
     ·cases hq;simp
     ·exact Classical.byContradiction fun hh=>by rw[List.getElem?_eq_none (by simp;omega)]at hq;cases hq) ps _ (i.zero.map .t) cs z.cells p1 p2 hc (by simp[q1]) (fun j y hy=>q0 j y (by simpa using hy)) (fun j c y hj hy=>by
   rw[List.getElem?_map]at hj
   cases hq:i.zero[j]? with
   | none=>rw[hq]at hj;cases hj
   | some u=>rw[hq]at hj;cases hj;exact .t _ _ (q2 j u y hq (by simpa using hy)))
  obtain⟨a1,a2⟩:=allT_rel (m:=m) hts
  refine⟨.agg arr,fun w' _=>?_,.t _ _ (.ag _ _ (by omega) r3 fun j t y hj hy=>?_)⟩
  ·have hu:=(hT t i ht).array hk
   simp only[Nat.mul_one]at r1
   simp[execOp,Instr.build,hz1,underlying,hu,(hT e ie he).sizeOf,hs,r1]
  ·obtain⟨c,hc1,hc2⟩:=a2 j t hj
   exact hc2 y (r4 j c y hc1 hy)) k
theorem TO.indexA(hT:TabOk P tab){t e:TypeId}{i ie:TyI}{c j:Nat}{x y:Operand}{ts:List T}{v:T}{ik:IntKind}(hd:Nat.ble (d+1) n=true)
  (ht:tab.get t=some i)(hk:i.k= .array c e)(he:tab.get e=some ie)(ha:ie.k.agg=false)(hs:ie.size=1)(hx:env.val x=some (.t (.ag ts)))(hy:env.val y=some (.t (.v (.int ik (j:Int)))))(hv:ts[j]?=some v)(hl:Nat.blt j c=true)
  (k:TO q P n all rest ((d,.t v)::env) H K):TO q P n all (⟨some d,.index t x y,ty,pos,aft,none⟩::rest) env H K:=
 TO.op hd (fun m ac h1 h2 h3=>by
  have hlt:j<c:=by have h0:=hl;simp[Nat.blt]at h0;omega
  have hr:=h3.val hx
  generalize hq:ac.eval x=z at hr
  cases hr with
  | t _ _ hr=>
    cases hr with
    | ag _ arr hsz h1' hr=>
      have hjl:=(List.getElem?_eq_some_iff.1 hv).1
      obtain⟨w0,hw0⟩:∃w0,arr[j]?=some w0:=⟨_,Array.getElem?_eq_getElem (by omega)⟩
      refine⟨w0,fun w' _=>?_,.t _ _ (hr j v w0 hv hw0)⟩
      have hu:=(hT t i ht).array hk
      simp[execOp,Instr.index,asIntOf,hq,(h3.val hy).v_eq,underlying,hu,hlt,(hT e ie he).sizeOf,hs,part,(hT e ie he).isAgg,ha,hw0]) k
end rules
end Go.TL
namespace Go.Proofs.YtlocalghkiepmaaGreat
open Go Go.TL
attribute [local irreducible] TR TO Then InBlock RetK Sound LoopK Kf GG ThenL
def okAt(vars:List Decl)(pre:List OnC)(o:OnC):Bool:=match findD vars o.name with|some x=>decide (x.ty.1=o.t.1) && decide (x.clock=pre)|none=>false
theorem clkOk_step{vars:List Decl}{l:List OnC}{j:Nat}(h:j<l.length):clkOk vars (l.take j) (l.drop j)=(okAt vars (l.take j) l[j] && clkOk vars (l.take (j+1)) (l.drop (j+1))):=by
 rw[List.drop_eq_getElem_cons h,clkOk,List.take_succ_eq_append_getElem h];rfl
theorem declsOk_step{vars l:List Decl}{k:Nat}(h:k<l.length):declsOk vars (l.drop k)=(clkOk vars [] l[k].clock && declsOk vars (l.drop (k+1))):=by
 rw[List.drop_eq_getElem_cons h];rfl
set_option maxHeartbeats 2000000 in
theorem decls_sound (vars:List Decl) (hl:vars.length≤1000000000) (hk:∀d∈vars,SmallK d.clock) (l:List Decl) (hll:l.length≤1000000000) (hkl:∀d∈l,SmallK d.clock):
  Pure Tryz.prog 87 [chkT vars,.t (declsT l)] (.b (declsOk vars l)):=by
 have hml:(l.map declT).length=l.length:=List.length_map _
 refine Sound.of tabOk Tryz.func87 (by kernel_rfl) rfl rfl ?_
 repeat' (first|refine wkt ?_|refine wk ?_|exact wkc|intro hc|refine wk2 ?_ ?_|fail)
 refine TR.loopN l.length (fun k=>declsOk vars l=declsOk vars (l.drop k)) (fun k=>[(2,.cp [declsT vars] 0),(11,.t (declsT l)),(12,.i (l.map declT).length),(13,.i k)]) (fun _=>[]) rfl (fun k hlt ha=>?_) (fun ha=>?_)
 ·have hx:=at_decl hlt
  have hkd:=hkl _ (List.getElem_mem hlt)
  rw[declsOk_step hlt]at ha
  generalize l[k]=d at*
  have hkd1:=hkd.1
  have hmd:(d.clock.map onT).length=d.clock.length:=List.length_map _
  unfold declC at hx
  repeat' (first|refine wkt ?_|refine wka ?_|refine wk ?_|exact wkc|intro hc|refine wk2 ?_ ?_|fail|fail)
  refine TR.loopN d.clock.length (fun j=>clkOk vars [] d.clock=clkOk vars (d.clock.take j) (d.clock.drop j)) (fun j=>[(2,.cp [declsT vars] 0),(6,.cp [.s d.name,T.n d.ty,.sl 3 (d.clock.map onT)] 0),(11,.t (declsT l)),(12,.i (l.map declT).length),(13,.i k),(18,.t (onsT d.clock)),(19,.i (d.clock.map onT).length),(20,.i j)]) (fun _=>[]) rfl (fun j hlt2 ha2=>?_) (fun ha2=>?_)
  ·have hx2:=at_on hlt2
   rw[clkOk_step hlt2]at ha2
   generalize d.clock[j]=o at*
   have hf:=findK_sound vars hl o.name
   unfold okAt at ha2
   unfold findZ at hf
   cases hfo:findD vars o.name with
   | none=>
     rw[hfo]at hf ha2
     rw[ha,ha2]
     repeat' (first|refine wkt ?_|refine wka ?_|refine rg [.b false,.b true,.b true,.t (.v undef),.t (.v undef),.t (.v undef),.t (.v undef),.t (.v undef),.b true,.b true,.t (.v undef),.t (.v undef),.t (.v undef),.t (.v undef),.t (.v undef),.t (.v undef),.t (.v undef),.t (.v undef),.b true] ?_ ?_|refine wv hf ?_|exact trivial|exact And.intro rfl rfl|refine And.intro (fun H env=>?_) ?_|refine wk ?_|exact wkc|intro hc|refine wk2 ?_ ?_|fail)
     exact wkr
   | some x=>
     rw[hfo]at hf ha2
     simp only[Option.getD_some,Option.isSome_some]at hf ha2
     rw[show declT x= .ag [.s x.name,T.n x.ty,.sl 3 (x.clock.map onT)] from rfl]at hf
     by_cases ht:x.ty.1=o.t.1
     ·have hs:=sameK_sound x.clock (d.clock.take j) (hk x (findD_mem hfo).1) (hkd.take j)
      rw[show onsT (d.clock.take j)= .sl 3 ((d.clock.map onT).take j) by rw[onsT,List.map_take]]at hs
      by_cases hq:x.clock=d.clock.take j
      ·rw[decide_eq_true hq]at hs ha2
       rw[decide_eq_true ht]at ha2
       repeat' (first|refine wkt ?_|refine wka ?_|refine rg [.b true,.b false,.b false,.cp [.s x.name,T.n x.ty,.sl 3 (x.clock.map onT)] 1,.t (T.n x.ty),.cp [.s o.name,T.n o.t,T.n o.tag] 1,.t (T.n o.t),.b false,.b false,.b false,.cp [.s x.name,T.n x.ty,.sl 3 (x.clock.map onT)] 2,.t (onsT x.clock),.cp [.s d.name,T.n d.ty,.sl 3 (d.clock.map onT)] 2,.t (onsT d.clock),.i j,.t (.sl 3 ((d.clock.map onT).take j)),.b true,.b false,.b false] ?_ ?_|refine wv hf ?_|refine wv hs ?_|exact trivial|exact And.intro rfl rfl|refine And.intro (fun H env=>?_) ?_|refine wk ?_|exact wkc|intro hc|refine wk2 ?_ ?_|fail)
       exact LoopK.nextN hlt2 ha2
      ·rw[decide_eq_false hq]at hs ha2
       rw[Bool.and_false,Bool.false_and]at ha2
       rw[ha,ha2]
       repeat' (first|refine wkt ?_|refine wka ?_|refine rg [.b true,.b false,.b false,.cp [.s x.name,T.n x.ty,.sl 3 (x.clock.map onT)] 1,.t (T.n x.ty),.cp [.s o.name,T.n o.t,T.n o.tag] 1,.t (T.n o.t),.b false,.b false,.b false,.cp [.s x.name,T.n x.ty,.sl 3 (x.clock.map onT)] 2,.t (onsT x.clock),.cp [.s d.name,T.n d.ty,.sl 3 (d.clock.map onT)] 2,.t (onsT d.clock),.i j,.t (.sl 3 ((d.clock.map onT).take j)),.b false,.b true,.b true] ?_ ?_|refine wv hf ?_|refine wv hs ?_|exact trivial|exact And.intro rfl rfl|refine And.intro (fun H env=>?_) ?_|refine wk ?_|exact wkc|intro hc|refine wk2 ?_ ?_|fail)
       exact wkr
     ·rw[decide_eq_false ht]at ha2
      rw[ha,ha2]
      repeat' (first|refine wkt ?_|refine wka ?_|refine rg [.b true,.b false,.b false,.cp [.s x.name,T.n x.ty,.sl 3 (x.clock.map onT)] 1,.t (T.n x.ty),.cp [.s o.name,T.n o.t,T.n o.tag] 1,.t (T.n o.t),.b true,.b true,.b true,.t (.v undef),.t (.v undef),.t (.v undef),.t (.v undef),.t (.v undef),.t (.v undef),.t (.v undef),.t (.v undef),.b true] ?_ ?_|refine wv hf ?_|exact trivial|exact And.intro rfl rfl|refine And.intro (fun H env=>?_) ?_|refine wk ?_|exact wkc|intro hc|refine wk2 ?_ ?_|fail)
      exact wkr
  ·rw[List.take_length,List.drop_of_length_le (Nat.le_refl _)]at ha2
   rw[ha2]at ha
   repeat' (first|refine wkt ?_|refine wk ?_|exact wkc|intro hc|refine wk2 ?_ ?_|fail)
   exact LoopK.nextN hlt ha
 ·rw[ha,List.drop_of_length_le (Nat.le_refl _)]
  repeat' (first|refine wkt ?_|refine wk ?_|exact wkc|intro hc|refine wk2 ?_ ?_|fail)
  exact wkr
set_option maxHeartbeats 2000000 in
theorem equK_sound (vars:List Decl) (hl:vars.length≤1000000000) (hk:∀d∈vars,SmallK d.clock) (u:Equ) (hu:u.left≠ []) (hul:u.left.length≤1000000000) (he:wEx u.right≤1000000000) (hn:∀x∈flat u.right,x.name.length≤1000000000):
  Pure Tryz.prog 88 [chkT vars,.t (.ag (equC u))] (.i (eqClk vars u)):=by
 have hml:(u.left.map T.s).length=u.left.length:=List.length_map _
 obtain⟨s0,ls,hls⟩:∃s0 ls,u.left=s0::ls:=by
  cases h:u.left with
  | nil=>exact absurd h hu
  | cons a b=>exact⟨a,b,rfl⟩
 have h0:(u.left.map T.s)[0]?=some (T.s s0):=by rw[hls];rfl
 have hf:=findK_sound vars hl s0
 have hdc:=findZ_clock vars s0
 have hsz:SmallK (findZ vars s0).clock:=by
  unfold findZ
  cases h:findD vars s0 with
  | none=>exact SmallK.nil
  | some d=>exact hk d (findD_mem h).1
 generalize findZ vars s0=d at*
 generalize (findD vars s0).isSome=fo at*
 rw[show declT d= .ag [.s d.name,T.n d.ty,.sl 3 (d.clock.map onT)] from rfl]at hf
 have hfi:=fits_sound vars hl hk _ u.right (Nat.le_refl _) he hn d.clock hsz
 have hon:=fun s=>on_sound vars hl hk s d.clock hsz
 unfold eqClk
 rw[show u.left.headD []=s0 by rw[hls];rfl,<-hdc]
 generalize fitsX vars u.right d.clock=z at*
 unfold equC
 unfold exC at*
 generalize u.left=L at*
 refine Sound.of tabOk Tryz.func88 (by kernel_rfl) rfl rfl ?_
 repeat' (first|refine wkt ?_|fail)
 refine TR.regionM (envF:=?envF) (HF:=[.cells [.s d.name,.t (T.n d.ty),.t (onsT d.clock)]]) [(chkT vars,false),(.cp [.sl 1 (L.map T.s),T.n u.right.kind,T.n u.right.op,T.n u.right.t,T.n u.right.v,.s u.right.name,.sl 6 (u.right.args.map exT)] 0,false),(.t (.sl 1 (L.map T.s)),false),(.cp [.s s0] 0,false),(.s s0,false),(.tup [.t (.ag [.s d.name,T.n d.ty,.sl 3 (d.clock.map onT)]),.b fo],false),(.tup [.t (.ag [.s d.name,T.n d.ty,.sl 3 (d.clock.map onT)]),.b fo],false),(.t (.ag [.s d.name,T.n d.ty,.sl 3 (d.clock.map onT)]),false),(.b fo,false),(.ref 0 0,true),(.any,true),(.b fo,false)] [[],[.cells [.s [],.i 0,.t (.v (.slice none 0 0))]],[.cells [.s d.name,.t (T.n d.ty),.t (onsT d.clock)]]] hmix ?hB ?h0 ?hp ?hF ?hE ?hK
 case hB=>(dsimp only[List.map];decide +kernel)
 case h0=>exact rfl
 case hF=>exact rfl
 case hE=>exact rfl
 case hp=>
  repeat' (first|refine wkt ?_|refine wv hf ?_|exact trivial|exact And.intro rfl rfl|refine And.intro (fun H env=>?_) ?_|refine And.intro (fun env=>?_) ?_|refine wk ?_|fail)
  done
 case hK=>
  repeat' (first|refine wkt ?_|refine wk ?_|exact wkc|intro hc|refine wk2 ?_ ?_|fail)
  refine TR.loopN L.length (fun k=>(L.take k).all (fun s=>onX vars s d.clock)=true) (fun k=>[(2,.cp [declsT vars] 0),(3,.cp [.sl 1 (L.map T.s),T.n u.right.kind,T.n u.right.op,T.n u.right.t,T.n u.right.v,.s u.right.name,.sl 6 (u.right.args.map exT)] 0),(5,.ref 0 0),(19,.t (.sl 1 (L.map T.s))),(20,.i (L.map T.s).length),(21,.i k)]) (fun _=>[.cells [.s d.name,.t (T.n d.ty),.t (onsT d.clock)]]) rfl (fun k hlt ha=>?_) (fun ha=>?_)
  ·have hx:=at_s hlt
   have htk:=take_at hlt
   have hno:=hon L[k]
   have hmem:=List.getElem_mem hlt
   generalize L[k]=s at*
   cases hq:onX vars s d.clock with
   | true=>
     rw[hq]at hno
     repeat' (first|refine wkt ?_|refine wka ?_|refine wk ?_|exact wkc|intro hc|refine wk2 ?_ ?_|refine wv hno ?_|fail)
     refine LoopK.nextN hlt ?_
     rw[htk,List.all_append,ha]
     simp[hq]
   | false=>
     rw[hq]at hno
     rw[if_neg (fun h=>by rw[List.all_eq_true]at h;have:=h s hmem;rw[hq]at this;cases this)]
     repeat' (first|refine wkt ?_|refine wka ?_|refine wk ?_|exact wkc|intro hc|refine wk2 ?_ ?_|refine wv hno ?_|fail)
     exact wkr
  ·rw[List.take_length]at ha
   rw[if_pos ha]
   repeat' (first|refine wkt ?_|refine wk ?_|exact wkc|intro hc|refine wk2 ?_ ?_|refine wv hfi ?_|fail)
   exact wkr
end Go.Proofs.YtlocalghkiepmaaGreat
