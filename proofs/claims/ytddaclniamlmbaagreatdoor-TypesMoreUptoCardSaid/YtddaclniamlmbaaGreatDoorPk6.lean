import Derived.Test.YtddaclniamlmbaaGreatDoorPk5
set_option linter.unusedSimpArgs false
set_option linter.unusedVariables false
namespace Go.TL
open Go
def Le(s c:SV):Prop:=∀(m:M) (x:Value),SRel m s x->SRel m c x
theorem Le.refl(s:SV):Le s s:=fun _ _ h=>h
theorem Le.trans{a b c:SV}(h:Le a b)(k:Le b c):Le a c:=fun m x hx=>k m x (h m x hx)
theorem Le.own(sz:Nat)(es:List T)(id:Nat):Le (.sl sz es id) (.t (.sl sz es)):=fun m x h=>.t _ _ (h.elems (sz:=sz) (es:=es) (by simp[SV.elems]))
theorem Le.nil(sz:Nat):Le (.t (.v (.slice none 0 0))) (.t (.sl sz [])):=fun m x h=>by have:=h.v_eq;subst this;exact .t _ _ (.nil sz)
theorem Le.any(s:SV):Le s .any:=fun _ x _=>.any x
theorem Le.toT{s:SV}{t:T}(h:s.toT=some t):Le s (.t t):=fun _ _ hx=>.t _ _ (hx.toT h)
inductive TLe:T->T->Prop
 | refl (t:T):TLe t t
 | nil (sz:Nat):TLe (.v (.slice none 0 0)) (.sl sz [])
 | ag (cs ds:List T) (h:cs.length=ds.length) (hl:∀(i:Nat) c d,cs[i]?=some c->ds[i]?=some d->TLe c d):TLe (.ag cs) (.ag ds)
theorem TLe.rel{A:Foot}{w:World}{a b:T}(h:TLe a b):∀x,TRel A w a x->TRel A w b x:=by
 induction h with
 | refl t=>exact fun _ h=>h
 | nil sz=>intro x h;cases h;exact .nil sz
 | ag cs ds hl _ ih=>
   intro x h
   cases h with
   | ag _ arr hs h1 hr=>
     refine .ag _ _ (by omega) h1 fun i d y hd hy=>?_
     have hi:=(List.getElem?_eq_some_iff.1 hd).1
     have hc:cs[i]?=some (cs[i]'(by omega)):=List.getElem?_eq_getElem _
     exact ih i _ d hc hd y (hr i _ y hc hy)
theorem Le.tree{s:SV}{t u:T}(h:s.toT=some t)(k:TLe t u):Le s (.t u):=fun _ _ hx=>.t _ _ (k.rel _ (hx.toT h))
def Les:List SV->List SV->Prop
 | [],[]=>True
 | a::aas,b::bs=>Le a b/\Les aas bs
 | _,_=>False
theorem Les.get:∀ {aas bs:List SV},Les aas bs->aas.length=bs.length/\∀(i:Nat) a b,aas[i]?=some a->bs[i]?=some b->Le a b
 | [],[],_=>by simp
 | [],_::_,h=>by cases h
 | _::_,[],h=>by cases h
 | a::aas,b::bs,h=>by
   obtain⟨g1,g2⟩:=Les.get h.2
   refine⟨by simp[g1],fun i x y hx hy=>?_⟩
   cases i with
   | zero=>simp at hx hy;subst hx;subst hy;exact h.1
   | succ i=>exact g2 i x y (by simpa using hx) (by simpa using hy)
theorem Les.refl:∀(aas:List SV),Les aas aas
 | []=>trivial
 | a::aas=>⟨Le.refl a,Les.refl aas⟩
theorem Le.tup{aas bs:List SV}(h:Les aas bs):Le (.tup aas) (.tup bs):=fun m x hx=>by
 cases hx with
 | tup _ arr hs hr=>
   obtain⟨g1,g2⟩:=h.get
   refine .tup _ _ (by omega) fun i b y hb hy=>?_
   have hi:=(List.getElem?_eq_some_iff.1 hb).1
   have ha:aas[i]?=some (aas[i]'(by omega)):=List.getElem?_eq_getElem _
   exact g2 i _ b ha hb m y (hr i _ y ha hy)
theorem ARel.le{m:M}{aas bs:List SV}{vs:Array Value}(h:ARel m aas vs)(k:Les aas bs):ARel m bs vs:=by
 obtain⟨g1,g2⟩:=k.get
 refine⟨by rw[h.1,g1],fun i b x hb hx=>?_⟩
 have hi:=(List.getElem?_eq_some_iff.1 hb).1
 have ha:aas[i]?=some (aas[i]'(by omega)):=List.getElem?_eq_getElem _
 exact g2 i _ b ha hb m x (h.2 i _ x ha hx)
def Env.vals(env:Env):List Operand->Option (List SV)
 | []=>some []
 | x::r=>match env.val x,Env.vals env r with
   | some v,some l=>some (v::l)
   | _,_=>none
theorem ERel.vals{n:Nat}{env:Env}{m:M}{ac:Act}(g:ERel m n env ac.tmps):∀(l:List Operand) (vs:List SV),env.vals l=some vs->vs.length=l.length/\∀(i:Nat) s x,vs[i]?=some s->(l.map ac.eval)[i]?=some x->SRel m s x
 | [],vs,h=>by simp[Env.vals]at h;subst h;simp
 | x::r,vs,h=>by
   simp only[Env.vals]at h
   cases hx:env.val x with
   | none=>rw[hx]at h;cases h
   | some v=>
     rw[hx]at h
     cases hr:env.vals r with
     | none=>rw[hr]at h;cases h
     | some l=>
       rw[hr]at h;cases h
       obtain⟨g1,g2⟩:=ERel.vals g r l hr
       refine⟨by simp[g1],fun i s y hs hy=>?_⟩
       cases i with
       | zero=>simp at hs hy;subst hs;subst hy;exact g.val hx
       | succ i=>exact g2 i s y (by simpa using hs) (by simpa using hy)
section rules
variable {P:Program}{n:Nat}{env:Env}{H:Heap}{K:TK}{all:Array Oper}{rest:List Oper}{tab:Tab}
variable {d:Nat}{ty:TypeId}{pos:String}{aft:Array Edge}
theorem ARel_of{m:M}{ac:Act}(g:ERel m n env ac.tmps){f:Operand}{fid:FuncId}{caps:List SV}{args:Array Operand}{vs:List SV}(hf:env.val f=some (.fn fid caps))(ha:env.vals args.toList=some vs):
  ∃arr,ac.eval f= .func (.func fid) #[] arr/\ARel m (vs++caps) (args.map ac.eval++arr):=by
 have h:=g.val hf
 generalize hq:ac.eval f=z at h
 cases h with
 | fn _ _ arr hs hr=>
   obtain⟨g1,g2⟩:=g.vals _ _ ha
   refine⟨arr,rfl,by simp[g1,hs],fun i s x hs' hx=>?_⟩
   by_cases hi:i<vs.length
   ·rw[List.getElem?_append_left hi]at hs'
    rw[Array.getElem?_append_left (by simp at g1⊢;omega)]at hx
    exact g2 i s x hs' (by simpa using hx)
   ·rw[List.getElem?_append_right (by omega)]at hs'
    rw[Array.getElem?_append_right (by simp at g1⊢;omega)]at hx
    exact hr _ s x hs' (by simpa [g1]using hx)
theorem call_exec{ac:Act}{f:Operand}{fid:FuncId}{arr:Array Value}{args:Array Operand}{ts:Array TypeId}{w:World}{dd:Option Tmp}(hf:ac.eval f= .func (.func fid) #[] arr)(hc:Callable P fid):
  (execOp ac.eval ⟨dd,.call { callee:=.value f,args:=args,argTypes:=ts },ty,pos,aft,none⟩).run P w= .ok (.enter fid (args.map ac.eval++arr)) w:=by
 obtain⟨fn,h1,h2,h3⟩:=hc
 have h2':¬fn.name= "runtime.NumGoroutine":=by simpa using h2
 have h3':¬fn.body=none:=by intro e;simp[e]at h3
 simp[execOp,resolve,hf,Deferred.ofValue,invoke,callFunc,h1,h2',h3']
theorem TO.call(l:List Nat){Hc:Heap}{cargs:List SV}{R:Res->Heap->Prop}{f:Operand}{fid:FuncId}{caps:List SV}{args:Array Operand}{ts:Array TypeId}{vs:List SV}(hs:Sound P fid cargs Hc R)(hd:Nat.ble (d+1) n=true)
  (hf:env.val f=some (.fn fid caps))(ha:env.vals args.toList=some vs)(hl:Les (vs++caps) (rens (names l H.length) cargs))(hu:unders Hc.length cargs=true)(hh:Hands H l Hc)
  (k:∀v Hc',R (.ret v) Hc'->TO false P n all rest ((d,v.ren (names l H.length))::env) (patch H l (Hc'.map (Blk.ren (names l H.length)))) K)
  (kp:∀v Hc',R (.panic v) Hc'->K (.panic (v.ren (names l H.length))) env (patch H l (Hc'.map (Blk.ren (names l H.length))))):
  TO false P n all (⟨some d,.call { callee:=.value f,args:=args,argTypes:=ts },ty,pos,aft,none⟩::rest) env H K:=by
 intro φ m ac h1 h2 h3 h4
 subst h1
 obtain⟨arr,hq,har⟩:=ARel_of h3 hf ha
 have lies:=lies_cut h2 hh
 have harc:ARel (cutM m l Hc) cargs (args.map ac.eval++arr):=by
  have h5:=har.le hl
  refine⟨by rw[h5.1,rens_eq];simp,fun i s x hs' hx=>lies.srel_down (h5.2 i _ x (by rw[rens_eq,List.getElem?_map,hs'];rfl) hx) (unders_get hu i s hs')⟩
 have hcall:=hs.2 (cutM m l Hc) _ rfl (lies.hrel h2) harc
 refine wpListIn_plain rfl fun K' hK=>?_
 unfold Oper.wpIn
 refine⟨fun _ _=>trivial,?_⟩
 rw[semAt_val (call_exec hq hs.1) (by intro d e;cases e)]
 simp only[Oper.uponIn]
 refine⟨fun h=>by simp[Fence.wide]at h,calls_fr (Calls.mono hcall ?_)⟩
 rintro e w' ⟨mc',r,rfl,s,hmc,hr,hR⟩
 obtain⟨st,hb⟩:=back_ok h2 hh s hmc
 have hlc:l.length≤mc'.H.length:=by
  rw[<-hmc.len]
  by_cases h0:l.length=0
  ·omega
  ·have hlt:l.length-1<(cutM m l Hc).β.length:=by simp[cutM];omega
   obtain⟨p',hp',_⟩:=s.ids (l.length-1) _ (List.getElem?_eq_getElem hlt)
   have:=(List.getElem?_eq_some_iff.1 hp').1
   omega
 cases r with
 | ret v=>
   cases e with
   | returned x=>
     exact hK _ _ (TO.step' (m':=back m mc' l) st (k v mc'.H hR φ (back m mc' l) _ rfl hb ((h3.step h2 st).put d (Nat.le_of_ble_eq_true hd) (back_srel h2 hh hmc hlc hr)) (by simpa [Act.put]using h4.step h2 st)))
   | _=>simp[ResRel]at hr
 | panic v=>
   cases e with
   | panicked ch=>
     obtain⟨x,rfl,hx⟩:=hr
     exact⟨back m mc' l,env,.panic (v.ren (names l m.H.length)),rfl,st,hb,h3.step h2 st,h4.step h2 st,⟨x,rfl,back_srel h2 hh hmc hlc hx⟩,kp v mc'.H hR⟩
   | _=>simp[ResRel]at hr
abbrev Pure (P:Program)(f:FuncId)(args:List SV)(v:SV):Prop:=Sound P f args [] fun r H'=>r= .ret v/\H'=[]
theorem hands_nil(H:Heap):Hands H [] []:=⟨List.nodup_nil,by simp,rfl,by simp,by simp⟩
theorem TO.callP{cargs:List SV}{v v':SV}{f:Operand}{fid:FuncId}{caps:List SV}{args:Array Operand}{ts:Array TypeId}{vs:List SV}(hs:Pure P fid cargs v)(hd:Nat.ble (d+1) n=true)
  (hf:env.val f=some (.fn fid caps))(ha:env.vals args.toList=some vs)(hl:Les (vs++caps) (rens (names [] H.length) cargs))(hu:unders 0 cargs=true)(hv:v.ren (names [] H.length)=v')
  (k:TO false P n all rest ((d,v')::env) H K):
  TO false P n all (⟨some d,.call { callee:=.value f,args:=args,argTypes:=ts },ty,pos,aft,none⟩::rest) env H K:=
 TO.call [] hs hd hf ha hl hu (hands_nil H) (fun u Hc' h=>by
  obtain⟨h1,rfl⟩:=h
  cases h1
  rw[hv]
  simp only[patch,List.map_nil,List.append_nil]
  exact k) (fun u Hc' h=>by cases h.1)
end rules
mutual
theorem ren_id:∀(v:SV),v.ren id=v
 | .t u=>rfl
 | .sl sz es i=>rfl
 | .ms sz i off len=>rfl
 | .cp cs off=>rfl
 | .ref i off=>rfl
 | .tref e n i off=>rfl
 | .rw i len=>rfl
 | .mp i=>rfl
 | .yl i=>rfl
 | .ag cs=>by simp[SV.ren,rens_id cs]
 | .tup cs=>by simp[SV.ren,rens_id cs]
 | .fn f cs=>by simp[SV.ren,rens_id cs]
 | .bnd f cs=>by simp[SV.ren,rens_id cs]
 | .ifc ty x=>by simp[SV.ren,ren_id x]
 | .any=>rfl
theorem rens_id:∀(cs:List SV),rens id cs=cs
 | []=>rfl
 | c::cs=>by simp[rens,ren_id c,rens_id cs]
end
theorem Blk.ren_id(b:Blk):b.ren id=b:=by
 have key:∀env:List (Nat×SV),(env.map fun x=>(x.1,x.2.ren id))=env:=by
  intro env
  induction env with
  | nil=>rfl
  | cons x r ih=>simp[Go.TL.ren_id,ih]
 cases b <;> simp[Blk.ren,rens_id,key]
def blksUnder(k:Nat):Heap->Bool
 | []=>true
 | b::r=>b.under k && blksUnder k r
theorem blksUnder_get{k:Nat}:∀ {H:Heap},blksUnder k H=true->∀(i:Nat) b,H[i]?=some b->b.under k=true
 | [],_,i,b,h=>by simp at h
 | a::H,hb,i,b,h=>by
   simp only[blksUnder,Bool.and_eq_true]at hb
   cases i with
   | zero=>simp at h;subst h;exact hb.1
   | succ i=>exact blksUnder_get hb.2 i b (by simpa using h)
def M.cut(m:M)(k:Nat):M:=⟨m.A,m.β.take k,m.H.take k,m.w⟩
theorem cut_lies{m:M}(hm:HRel m){k:Nat}(hk:k≤m.H.length)(hb:blksUnder k (m.H.take k)=true):Lies (m.cut k) m id where
 A:=rfl
 w:=rfl
 len:=by simp[M.cut,hm.len]
 β:=fun j p hp=>by
  simp only[M.cut,List.getElem?_take]at hp
  split at hp
  ·exact hp
  ·cases hp
 H:=fun j b h=>by
  simp only[M.cut,List.getElem?_take]at h
  split at h
  ·rw[Blk.ren_id];exact h
  ·cases h
 inj:=fun i j _ _ e=>e
 below:=fun j b h=>by
  have:(m.cut k).H.length=k:=by simp[M.cut];omega
  rw[this]
  exact blksUnder_get hb j b h
theorem cut_ok{m0 m:M}(hm:HRel m)(s:Step m0 m){k:Nat}(hk:k≤m.H.length)(h0:m0.β.length≤k)(hb:blksUnder k (m.H.take k)=true):Step m0 (m.cut k)/\HRel (m.cut k)/\∀v x,v.under k=true->SRel m v x->SRel (m.cut k) v x:=by
 have lies:=cut_lies hm hk hb
 have hl:(m.cut k).H.length=k:=by simp[M.cut];omega
 refine⟨⟨s.os,s.tape,s.output,s.size,s.more,s.fromA,fun b o h=>s.fromO b o (lies.own h),s.cell,s.frozen,s.block,s.shape,s.loop,s.isSome,fun i p hp=>?_⟩,lies.hrel hm,fun v x hv h=>lies.srel_down (by rw[ren_id];exact h) (by rw[hl];exact hv)⟩
 obtain⟨p',hp',h⟩:=s.ids i p hp
 have hi:=(List.getElem?_eq_some_iff.1 hp).1
 refine⟨p',by simp only[M.cut];rw[List.getElem?_take,if_pos (by omega)];exact hp',?_⟩
 have:(m.cut k).H[i]?=m.H[i]? :=by simp only[M.cut];rw[List.getElem?_take,if_pos (by omega)]
 rw[this];exact h
def resOf(tab:Tab)(env:Env)(H:Heap):ResultVar->Option SV
 | .tmp t=>env.look t
 | .cell a ty=>match env.look a,tab.get ty with
   | some (.ref id off),some i=>match H[id]? with
     | some (.cells cs)=>bif i.k.agg then(bif Nat.ble (off+i.size) cs.length then some (.ag ((cs.drop off).take i.size)) else none) else cs[off]?
     | _=>none
   | _,_=>none
def resAll(tab:Tab)(env:Env)(H:Heap):List ResultVar->Option (List SV)
 | []=>some []
 | r::rs=>match resOf tab env H r,resAll tab env H rs with
   | some v,some l=>some (v::l)
   | _,_=>none
def pack:List SV->SV
 | [v]=>v
 | vs=>.tup vs
def RetK(tab:Tab)(rs:List ResultVar)(N:Nat)(R:Res->Heap->Prop):TK
 | .normal,env,H=>∃vs v k,resAll tab env H rs=some vs/\Le (pack vs) v/\N≤k/\k≤H.length/\v.under k=true/\blksUnder k (H.take k)=true/\R (.ret v) (H.take k)
 | .ret,env,H=>∃vs v k,resAll tab env H rs=some vs/\Le (pack vs) v/\N≤k/\k≤H.length/\v.under k=true/\blksUnder k (H.take k)=true/\R (.ret v) (H.take k)
 | .panic u,env,H=>∃v k,Le u v/\N≤k/\k≤H.length/\v.under k=true/\blksUnder k (H.take k)=true/\R (.panic v) (H.take k)
 | .exit _,_,_=>False
def argEnv:Nat->List SV->Env
 | _,[]=>[]
 | i,v::r=>(i,v)::argEnv (i+1) r
theorem argEnv_look:∀(l:List SV) (k i:Nat) (v:SV),(argEnv k l).look i=some v->k≤i/\l[i-k]?=some v
 | [],k,i,v,h=>by simp[argEnv,Env.look]at h
 | a::l,k,i,v,h=>by
   by_cases hk:k=i
   ·subst hk
    rw[argEnv,Env.look_cons_same]at h
    cases h
    simp
   ·rw[argEnv,Env.look_cons_other _ _ hk]at h
    obtain⟨h1,h2⟩:=argEnv_look l (k+1) i v h
    refine⟨by omega,?_⟩
    rw[show i-k=(i-(k+1))+1 from by omega];exact h2
def resSem(tmps:Array Value):ResultVar->Sem Value
 | .tmp t=>pure (tmps.getD t undef)
 | .cell a t=>do loadVar t (<-asAddr (tmps.getD a undef))
theorem resOf_run{P:Program}{tab:Tab}(hT:TabOk P tab){m:M}(hm:HRel m){n:Nat}{env:Env}{tmps:Array Value}(he:ERel m n env tmps){r:ResultVar}{v:SV}(h:resOf tab env m.H r=some v):
  ∃x,(resSem tmps r).run P m.w= .ok x m.w/\SRel m v x:=by
 cases r with
 | tmp t=>
   obtain⟨x,h1,h2⟩:=he.2 t v h
   exact⟨x,by simp[resSem,Array.getD_eq_getD_getElem?,h1],h2⟩
 | cell a ty=>
   simp only[resOf]at h
   split at h
   ·rename_i id off i hl ht
    split at h
    ·rename_i cs hH
     obtain⟨x,h1,h2⟩:=he.2 a _ hl
     cases h2 with
     | ref _ _ p hp hn=>
       have hb:=hm.blk id p _ hp hH
       have hx:tmps.getD a undef= .pointer (some ⟨p.b,p.lo+off,none⟩):=by simp[Array.getD_eq_getD_getElem?,h1]
       cases hk:i.k.agg with
       | false=>
         rw[hk]at h
         simp only[cond_false]at h
         obtain⟨y,y1,y0,y2⟩:=hb.2.2 off v h
         refine⟨y,?_,y2⟩
         simp[resSem,hx,asAddr,loadVar,(hT ty i ht).isAgg,hk,y1]
       | true=>
         rw[hk]at h
         simp only[cond_true]at h
         cases hle:Nat.ble (off+i.size) cs.length with
         | false=>rw[hle]at h;cases h
         | true=>
           rw[hle]at h
           simp only[cond_true,Option.some.injEq]at h
           subst h
           have hc:=Nat.le_of_ble_eq_true hle
           have hex:∀j,∃y,j<i.size->m.w.cell? ⟨p.b,p.lo+off+j,none⟩=some y/\y.oneCell'=true/\∀c,cs[off+j]?=some c->SRel m c y:=by
            intro j
            by_cases hj:j<i.size
            ·have hlt:off+j<cs.length:=by omega
             obtain⟨y,hy1,hy0,hy2⟩:=hb.2.2 (off+j) cs[off+j] (List.getElem?_eq_getElem hlt)
             exact⟨y,fun _=>⟨by rw[Nat.add_assoc];exact hy1,hy0,fun c hc=>by rw[List.getElem?_eq_getElem hlt]at hc;cases hc;exact hy2⟩⟩
            ·exact⟨undef,fun h=>absurd h hj⟩
           obtain⟨f,hf⟩:=Classical.axiomOfChoice hex
           refine⟨.agg ((List.range i.size).map f).toArray,?_,.ag _ _ (by simp;omega) (fun j y hy=>?_) fun j c y hc' hy=>?_⟩
           ·have:=loadAt_agg hT ht hk (w:=m.w) (fun j hj=>(hf j hj).1)
            simp[Instr.loadAt,Instr.sureAddr]at this
            simp[resSem,hx,asAddr,this]
           ·simp at hy
            obtain⟨r,hr',rfl⟩:=hy
            have:=List.mem_of_getElem? hr'
            simp at this
            exact(hf r this).2.1
           ·rw[List.getElem?_take]at hc'
            split at hc'
            ·rename_i hj
             rw[List.getElem?_drop]at hc'
             simp[hj]at hy
             subst hy
             exact(hf j hj).2.2 c hc'
            ·cases hc'
    ·cases h
   ·cases h
theorem resAll_run{P:Program}{tab:Tab}(hT:TabOk P tab){m:M}(hm:HRel m){n:Nat}{env:Env}{tmps:Array Value}(he:ERel m n env tmps):∀(rs:List ResultVar) (vs:List SV),resAll tab env m.H rs=some vs->
  ∃xs:List Value,(rs.mapM (resSem tmps)).run P m.w= .ok xs m.w/\xs.length=vs.length/\∀(i:Nat) v x,vs[i]?=some v->xs[i]?=some x->SRel m v x
 | [],vs,h=>by simp[resAll]at h;subst h;exact⟨[],rfl,rfl,by simp⟩
 | r::rs,vs,h=>by
   simp only[resAll]at h
   cases h1:resOf tab env m.H r with
   | none=>rw[h1]at h;cases h
   | some v=>
     rw[h1]at h
     cases h2:resAll tab env m.H rs with
     | none=>rw[h2]at h;cases h
     | some l=>
       rw[h2]at h;cases h
       obtain⟨x,hx1,hx2⟩:=resOf_run hT hm he h1
       obtain⟨xs,g1,g2,g3⟩:=resAll_run hT hm he rs l h2
       refine⟨x::xs,?_,by simp[g2],fun i v' x' hv hx=>?_⟩
       ·rw[List.mapM_cons]
        simp only[Sem.run_bind,hx1,Result.andThen_ok,g1,Sem.run_pure]
       ·cases i with
        | zero=>simp at hv hx;subst hv;subst hx;exact hx2
        | succ i=>exact g3 i v' x' (by simpa using hv) (by simpa using hx)
theorem results_run{P:Program}{tab:Tab}(hT:TabOk P tab){m:M}(hm:HRel m){n:Nat}{env:Env}{tmps:Array Value}(he:ERel m n env tmps){fn:Func}{vs:List SV}(h:resAll tab env m.H fn.results.toList=some vs):
  ∃x,(results fn tmps).run P m.w= .ok x m.w/\SRel m (pack vs) x:=by
 obtain⟨xs,g1,g2,g3⟩:=resAll_run hT hm he _ _ h
 have hr:(results fn tmps).run P m.w= .ok (if h:xs.toArray.size=1 then xs.toArray[0] else .tuple xs.toArray) m.w:=by
  have hu:results fn tmps=(do
    let vs <-fn.results.mapM (resSem tmps)
    pure (if h:vs.size=1 then vs[0] else .tuple vs):Sem Value):=by
   unfold results
   congr 1
  rw[hu,Array.mapM_eq_mapM_toList]
  simp only[Sem.run_bind,Sem.run_map,map_eq_pure_bind,g1]
  rfl
 refine⟨_,hr,?_⟩
 match vs,xs,g2,g3 with
 | [v],[x],_,g3=>exact g3 0 v x rfl rfl
 | [],[],_,g3=>exact .tup _ _ rfl (by simp)
 | v1::v2::vs,x1::x2::xs,g2,g3=>exact .tup _ _ (by simpa using g2) (fun i c y hc hy=>g3 i c y hc (by simpa using hy))
structure Shut (s0:Nat) (w w':World):Prop where
 os:w'.os=w.os
 tape:w'.tape=w.tape
 output:w'.output=w.output
 size:w'.heap.size=w.heap.size
 heap:∀b,w'.heap[b]?=w.heap[b]? \/(s0≤b/\∃x y,w.heap[b]?=some (.deferred x)/\w'.heap[b]?=some (.deferred y))
theorem Shut.refl(s0:Nat)(w:World):Shut s0 w w:=⟨rfl,rfl,rfl,rfl,fun _=>.inl rfl⟩
theorem Shut.put{s0:Nat}{w w':World}(h:Shut s0 w w'){k:Nat}(hk:s0≤k){x:Option (List Deferred)}(h0:w'.heap[k]?=some (.deferred x))(y:Option (List Deferred)):Shut s0 w (w'.putObj k (.deferred y)):=by
 have hlt:=(Array.getElem?_eq_some_iff.1 h0).1
 refine⟨h.os,h.tape,h.output,by rw[World.putObj_size];exact h.size,fun b=>?_⟩
 by_cases hb:b=k
 ·subst hb
  refine .inr ⟨hk,?_⟩
  rcases h.heap b with g|⟨_,x',y',g1,g2⟩
  ·exact⟨x,y,by rw[<-g];exact h0,World.putObj_heap_same hlt⟩
  ·exact⟨x',y,g1,World.putObj_heap_same hlt⟩
 ·rw[World.putObj_heap_other hb];exact h.heap b
section shut
variable {s0:Nat}{w w':World}(h:Shut s0 w w')
include h
theorem Shut.cell(b o:Nat):w'.cell? ⟨b,o,none⟩=w.cell? ⟨b,o,none⟩:=by
 rcases h.heap b with g|⟨_,x,y,g1,g2⟩
 ·simp[World.cell?,g]
 ·simp[World.cell?,g1,g2]
theorem Shut.frozen(b o:Nat):w'.frozen? ⟨b,o,none⟩=w.frozen? ⟨b,o,none⟩:=by
 rcases h.heap b with g|⟨_,x,y,g1,g2⟩
 ·simp[World.frozen?,g]
 ·simp[World.frozen?,g1,g2]
theorem Shut.shape(b:Nat):w'.shape? b=w.shape? b:=by
 rcases h.heap b with g|⟨_,x,y,g1,g2⟩
 ·simp[World.shape?,g]
 ·simp[World.shape?,g1,g2]
end shut
theorem Shut.trel{A:Foot}{s0:Nat}{w w':World}(h:Shut s0 w w'){t:T}{x:Value}(hr:TRel A w t x):TRel A w' t x:=hr.mono (fun _ _ h=>h) (fun b o _=>h.cell b o)
theorem Shut.srel{m:M}{s0:Nat}{w':World}(hs:Shut s0 m.w w'){v:SV}{x:Value}(h:SRel m v x):SRel ⟨m.A,m.β,m.H,w'⟩ v x:=by
 induction h with
 | t t x h=>exact .t t x (hs.trel h)
 | sl sz es id x p h hp ho=>exact .sl sz es id x p (hs.trel h) hp ho
 | rw id len x p hp hx ho=>exact .rw id len x p hp hx ho
 | tref e n id off p hp hn h0 h=>exact .tref e n id off p hp hn h0 (by rw[<-hs.shape]at h;exact h)
 | ms sz id off len cap p hp hn hc hh=>exact .ms sz id off len cap p hp hn hc hh
 | cp cs off b o f h1 hA hw h=>exact .cp cs off b o f h1 hA (fun j hj=>by show w'.cell? _=_;rw[hs.cell];exact hw j hj) (fun j c hc=>hs.trel (h j c hc))
 | ref id off p hp hn=>exact .ref id off p hp hn
 | mp id p hp hn=>exact .mp id p hp hn
 | yl id p hp hn=>exact .yl id p hp hn
 | ag cs arr hs h1 _ ih=>exact .ag cs arr hs h1 ih
 | tup cs arr hs _ ih=>exact .tup cs arr hs ih
 | fn f cs arr hs _ ih=>exact .fn f cs arr hs ih
 | bnd f cs arr hs _ ih=>exact .bnd f cs arr hs ih
 | ifc ty s x _ ih=>exact .ifc ty s x ih
 | any x=>exact .any x
theorem Shut.ok{m0 m:M}(hm:HRel m)(s:Step m0 m){w':World}(h:Shut m0.w.heap.size m.w w'):Step m0 ⟨m.A,m.β,m.H,w'⟩/\HRel ⟨m.A,m.β,m.H,w'⟩:=by
 refine⟨⟨h.os.trans s.os,h.tape.trans s.tape,h.output.trans s.output,by show _≤w'.heap.size;rw[h.size];exact s.size,s.more,s.fromA,s.fromO,fun b o hb hn=>by show w'.cell? _=_;rw[h.cell];exact s.cell b o hb hn,
  fun b o hb hn hc=>by show w'.frozen? _=_;rw[h.frozen];exact s.frozen b o hb hn hc,fun b hb hn=>?_,fun b sh hs=>by show w'.shape? _=_;rw[h.shape];exact s.shape b sh hs,fun b L hL=>?_,fun b o hb hc=>by show(w'.cell? _).isSome=true;rw[h.cell];exact s.isSome b o hb hc,s.ids⟩,?_⟩
 ·rcases h.heap b with g|⟨g,_⟩
  ·show w'.heap[b]?=_;rw[g];exact s.block b hb hn
  ·omega
 ·obtain⟨L',hL'⟩:=s.loop b L hL
  rcases h.heap b with g|⟨_,x,y,g1,g2⟩
  ·exact⟨L',by show w'.heap[b]?=_;rw[g];exact hL'⟩
  ·rw[g1]at hL';cases hL'
 ·refine⟨hm.len,fun i p k h1 h2=>?_,hm.apart,hm.still,fun b o hA=>by show b<w'.heap.size;rw[h.size];exact hm.inA b o hA,fun i p k h1 h2 h3 h4=>by show p.b<w'.heap.size;rw[h.size];exact hm.inO i p k h1 h2 h3 h4,fun b cs hg=>by
  obtain⟨g1,e,f,g2⟩:=hm.glob b cs hg
  refine⟨g1,e,f,?_⟩
  rcases h.heap b with g|⟨_,x,y,g3,g4⟩
  ·show w'.heap[b]?=_;rw[g];exact g2
  ·rw[g3]at g2;cases g2⟩
  have hb:=hm.blk i p k h1 h2
  have keep:∀o,m.w.heap[p.b]?=some o->(∀x,o≠ .deferred x)->w'.heap[p.b]?=some o:=by
   intro o ho hno
   rcases h.heap p.b with g|⟨_,x,y,g1,g2⟩
   ·rw[g];exact ho
   ·rw[g1]at ho;cases ho;exact absurd rfl (hno x)
  cases k with
  | cells cs=>
    obtain⟨b1,b2,b3⟩:=hb
    refine⟨b1,fun o ho ho'=>?_,fun j c hc=>?_⟩
    ·have:=b2 o ho ho'
     unfold Free at this⊢
     show(w'.cell? _).isSome=true/\w'.frozen? _=false
     rw[h.cell,h.frozen];exact this
    ·obtain⟨y,y1,y0,y2⟩:=b3 j c hc
     exact⟨y,by show w'.cell? _=_;rw[h.cell];exact y1,y0,h.srel y2⟩
  | tail n=>
    intro o ho ho'
    have:=hb o ho ho'
    unfold Free at this⊢
    show(w'.cell? _).isSome=true/\w'.frozen? _=false
    rw[h.cell,h.frozen];exact this
  | row e cs=>
    obtain⟨b1,b2,b3⟩:=hb
    refine⟨⟨b1.1,b1.2.1,fun hp=>by show w'.shape? _=_;rw[h.shape];exact b1.2.2 hp⟩,fun o ho ho'=>?_,fun j c hc=>?_⟩
    ·have:=b2 o ho ho'
     unfold Free at this⊢
     show(w'.cell? _).isSome=true/\w'.frozen? _=false
     rw[h.cell,h.frozen];exact this
    ·obtain⟨y,y1,y0,y2⟩:=b3 j c hc
     exact⟨y,by show w'.cell? _=_;rw[h.cell];exact y1,y0,h.trel y2⟩
  | map kt vt es=>
    obtain⟨b1,b2,a,clock,b3,b4,b5⟩:=hb
    exact⟨b1,b2,a,clock,keep _ b3 (by intro x e;cases e),b4,fun i k t e he ha=>⟨(b5 i k t e he ha).1,h.trel (b5 i k t e he ha).2.1,(b5 i k t e he ha).2.2⟩⟩
  | loop fn st pe n env ps aas bo=>
    obtain⟨b1,b2,L,b3,b4,b5⟩:=hb
    exact⟨b1,b2,L,keep _ b3 (by intro x e;cases e),b4,b5.1,fun i v hv=>let ⟨x,x1,x2⟩:=b5.2 i v hv;⟨x,x1,h.srel x2⟩⟩
  | dead=>trivial
theorem leaves_marks{P:Program}{F:Fence}{N:Nat}{fn:Func}{tmps:Array Value}{R:Ending->World->Prop}{s0:Nat}{u:FrameMode}(hu:u≠ .run){ds:List Deferred}{w0:World}:∀(ks:List Nat) (w:World),Shut s0 w0 w->ks.Nodup->(∀k∈ks,s0≤k/\w.heap[k]?=some (.deferred (some [])))->
  (∀w',Shut s0 w0 w'->(∀b,b ∉ ks->w'.heap[b]?=w.heap[b]?)->LeavesInM F N P fn tmps R ds u w')->LeavesInM F N P fn tmps R (ks.map mark++ds) u w
 | [],w,hs,_,_,h=>h w hs fun _ _=>rfl
 | k::ks,w,hs,hn,hk,h=>by
   obtain⟨hk1,hk2⟩:=hk k List.mem_cons_self
   have hn':=List.nodup_cons.1 hn
   refine⟨hu,.inl ⟨k,_,rfl,run_takeDeferred hk2,?_⟩⟩
   refine leaves_marks hu ks _ (hs.put hk1 hk2 none) hn'.2 (fun k' hk'=>?_) (fun w' q1 q2=>h w' q1 fun b hb=>by
    rw[q2 b fun hb'=>hb (List.mem_cons_of_mem _ hb'),World.putObj_heap_other (fun e=>hb (by rw[e];exact List.mem_cons_self))])
   obtain⟨g1,g2⟩:=hk k' (List.mem_cons_of_mem _ hk')
   exact⟨g1,by rw[World.putObj_heap_other (by intro e;subst e;exact hn'.1 hk')];exact g2⟩
theorem calls_of_wpr{P:Program}{f:FuncId}{fn:Func}{c:Code}{args:Array Value}{w:World}{R:Ending->World->Prop}(hf:P.funcs[f]?=some fn)(hb:fn.body=some c)
  (h:Code.wpr P none c (bodyPostM (Fr none) 0 P fn R) { tmps:=args++Array.replicate (fn.ntmps-args.size) undef,defers:=[] } w):Calls P f args w R:=by
 refine calls_of_fr (r:=none) ⟨trivial,fun cs hr=>?_⟩
 let b:Frame:={ (default:Frame)with fn:=f,kind:=.normal,roundOf:=none }
 have henter:Frame.enter P f args .normal=b.atR { tmps:=args++Array.replicate (fn.ntmps-args.size) undef,defers:=[] } [.code c]:=by
  simp[Frame.enter,Frame.atR,hf,hb,b]
 obtain⟨e,a',w',hq,harr⟩:=h b [] cs rfl (by simp[b,hf])
 rw[<-henter]at harr
 have wide:∀ {m m':Machine},StepsIn (fun _=>True) P m m'->StepsIn (Machine.fenced P (Fr none)) P m m':=fun h=>stepsIn_wide.2 (steps_iff.2 h)
 cases e with
 | normal=>
   obtain⟨e',w'',fr',hR,hs,hfn,hl⟩:=leaves_stepsInM a'.defers .returning w' { b.atR a' []with mode:=.returning } cs rfl rfl rfl hf rfl trivial hr hq
   exact⟨e',w'',fr',hR,ComesIn.of_steps (wide (StepsIn.trans harr (.one trivial (stepR_end rfl)))) hs,hfn,hl⟩
 | ret=>
   obtain⟨todo,hs₀⟩:=harr.1 rfl
   obtain⟨e',w'',fr',hR,hs,hfn,hl⟩:=leaves_stepsInM a'.defers .returning w' { b.atR a' todo with mode:=.returning } cs rfl rfl rfl hf rfl trivial hr hq
   exact⟨e',w'',fr',hR,ComesIn.of_steps (wide hs₀) hs,hfn,hl⟩
 | panic chain=>
   obtain⟨todo,hs₀⟩:=harr
   obtain⟨e',w'',fr',hR,hs,hfn,hl⟩:=leaves_stepsInM a'.defers (.panicking chain) w' { b.atR a' todo with mode:=.panicking chain } cs rfl rfl rfl hf rfl trivial hr hq
   exact⟨e',w'',fr',hR,ComesIn.of_steps (wide hs₀) hs,hfn,hl⟩
 | exit id=>exact hq.elim
 | goto l=>exact hq.elim
 | outgrown=>exact⟨.outgrown,w',b,hq,harr.resolve_left (by simp[b]),rfl,trivial⟩
theorem post_body{P:Program}{tab:Tab}(hT:TabOk P tab){fn:Func}{H:Heap}{R:Res->Heap->Prop}{m:M}(h1:m.H=H)(h2:HRel m){s0:Nat}(hs0:s0=m.w.heap.size){e:Exit}{a':Act}{w':World}
  (hp:Post ⟨none,s0,[]⟩ m fn.ntmps (RetK tab fn.results.toList H.length R) e a' w'):bodyPostM (Fr none) 0 P fn (fun e w'=>∃(m':M) (r:Res),m'.w=w'/\Step m m'/\HRel m'/\ResRel m' r e/\R r m'.H) e a' w':=by
 subst hs0
 obtain⟨m',env,te,rfl,s,hm',he,⟨⟨ks,hd,_,hnd,hks⟩,_,_⟩,hx,hK⟩:=hp
 simp only[List.append_nil]at hd
 have fin:∀vs v k,resAll tab env m'.H fn.results.toList=some vs->Le (pack vs) v->H.length≤k->k≤m'.H.length->v.under k=true->blksUnder k (m'.H.take k)=true->R (.ret v) (m'.H.take k)->
   ∀w'',Shut m.w.heap.size m'.w w''->∃v,(results fn a'.tmps).run P w''= .ok v w''/\∃(m2:M) (r:Res),m2.w=w''/\Step m m2/\HRel m2/\ResRel m2 r (.returned v)/\R r m2.H:=by
  intro vs v k g1 g2 g3 g4 g5 g6 g7 w'' hsh
  obtain⟨s2,hm2⟩:=hsh.ok hm' s
  have he2:ERel ⟨m'.A,m'.β,m'.H,w''⟩ fn.ntmps env a'.tmps:=⟨he.1,fun i v hv=>let ⟨x,x1,x2⟩:=he.2 i v hv;⟨x,x1,hsh.srel x2⟩⟩
  obtain⟨x,hr,hp⟩:=results_run hT hm2 he2 g1
  obtain⟨c1,c2,c3⟩:=cut_ok hm2 s2 g4 (by rw[h2.len,h1];exact g3) g6
  exact⟨x,hr,_,.ret v,rfl,c1,c2,c3 _ _ g5 (g2 _ _ hp),g7⟩
 have out:∀(u:FrameMode) (R:Ending->World->Prop),u≠ .run->(∀w'',Shut m.w.heap.size m'.w w''->LeavesIn (Fr none) 0 P fn a'.tmps R [] u w'')->LeavesInM (Fr none) 0 P fn a'.tmps R a'.defers u m'.w:=by
  intro u R hu h
  rw[hd,<-List.append_nil (ks.map mark)]
  exact leaves_marks hu ks m'.w (.refl _ _) hnd hks fun w'' hw _=>h w'' hw
 cases te with
 | normal=>
   cases e <;> simp[ExRel]at hx
   obtain⟨vs,v,k,g1,g2,g3,g4,g5,g6,g7⟩:=hK
   exact out .returning _ (by simp) fun w'' hw=>fin vs v k g1 g2 g3 g4 g5 g6 g7 w'' hw
 | ret=>
   cases e <;> simp[ExRel]at hx
   obtain⟨vs,v,k,g1,g2,g3,g4,g5,g6,g7⟩:=hK
   exact out .returning _ (by simp) fun w'' hw=>fin vs v k g1 g2 g3 g4 g5 g6 g7 w'' hw
 | panic u=>
   cases e with
   | panic ch=>
     obtain⟨x,rfl,hux⟩:=hx
     obtain⟨v,k,g2,g3,g4,g5,g6,g7⟩:=hK
     refine out (.panicking _) _ (by simp) fun w'' hw=>?_
     obtain⟨s2,hm2⟩:=hw.ok hm' s
     obtain⟨c1,c2,c3⟩:=cut_ok hm2 s2 g4 (by rw[h2.len,h1];exact g3) g6
     exact⟨_,.panic v,rfl,c1,c2,⟨x,rfl,c3 _ _ g5 (g2 _ _ (hw.srel hux))⟩,g7⟩
   | _=>simp[ExRel]at hx
 | exit i=>exact hK.elim
theorem Sound.of{P:Program}{tab:Tab}(hT:TabOk P tab){f:FuncId}{fn:Func}{c:Code}{args:List SV}{H:Heap}{R:Res->Heap->Prop}(hf:P.funcs[f]?=some fn)(hn:(fn.name == "runtime.NumGoroutine")=false)(hb:fn.body=some c)
  (ha:Nat.ble args.length fn.ntmps=true)(h:TR P fn.ntmps c (argEnv 0 args) H (RetK tab fn.results.toList H.length R)):Sound P f args H R:=by
 refine⟨⟨fn,hf,hn,by rw[hb];rfl⟩,fun m vs h1 h2 h3=>?_⟩
 have hal:=Nat.le_of_ble_eq_true ha
 refine calls_of_wpr hf hb (wpr_mono (h ⟨none,m.w.heap.size,[]⟩ m _ h1 h2 ⟨by simp[h3.1];omega,fun i v hv=>?_⟩ ⟨⟨[],rfl,fun _=>rfl,List.nodup_nil,by simp⟩,Nat.le_refl _,fun l h=>by cases h⟩) ?_)
 ·obtain⟨g1,g2⟩:=argEnv_look _ _ _ _ hv
  have hi:=(List.getElem?_eq_some_iff.1 g2).1
  have hvi:vs[i]?=some (vs[i]'(by rw[h3.1];omega)):=Array.getElem?_eq_getElem _
  exact⟨_,by rw[Array.getElem?_append_left (by rw[h3.1];omega)];exact hvi,h3.2 i v _ (by simpa using g2) hvi⟩
 ·intro e a' w' hp
  exact post_body hT h1 h2 rfl hp
theorem Sound.mono{P:Program}{f:FuncId}{args:List SV}{H:Heap}{R R':Res->Heap->Prop}(h:Sound P f args H R)(hr:∀r H',R r H'->R' r H'):Sound P f args H R':=
 ⟨h.1,fun m vs h1 h2 h3=>(h.2 m vs h1 h2 h3).mono fun e w' ⟨m',r,g1,g2,g3,g4,g5⟩=>⟨m',r,g1,g2,g3,g4,hr _ _ g5⟩⟩
end Go.TL
