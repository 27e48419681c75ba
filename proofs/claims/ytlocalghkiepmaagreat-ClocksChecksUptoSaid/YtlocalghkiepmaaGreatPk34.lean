import Derived.Test.YtlocalghkiepmaaGreatPk12
import Derived.Test.YtlocalghkiepmaaGreatPk18
import Derived.Test.YtlocalghkiepmaaGreatPk23
import Derived.Test.YtlocalghkiepmaaGreatPk26
import Derived.Test.YtlocalghkiepmaaGreatPk29
import Derived.Test.YtlocalghkiepmaaGreatPk30
import Derived.Test.YtlocalghkiepmaaGreatPk32
import Derived.Test.YtlocalghkiepmaaGreatPk33
set_option linter.unusedSimpArgs false
set_option linter.unusedVariables false
namespace Go.Proofs.YtlocalghkiepmaaGreat
open Go Go.TL
attribute [local irreducible] TR TO Then InBlock RetK Sound LoopK Kf GG ThenL
mutual
def flatS:Ex->List Ex
 | .mk k o t v n l=>.mk k o t v n l::flatsS l
def flatsS:List Ex->List Ex
 | []=>[]
 | a::l=>flatS a++flatsS l
end
mutual
def depS:Ex->Int
 | .mk _ _ _ _ _ l=>depsS l 0+1
def depsS:List Ex->Int->Int
 | [],a=>a
 | x::l,a=>depsS l (max a (depS x))
end
mutual
def resS (w:Plc):Ex->Bool->List Int×Int
 | .mk k o t v n l,b=>if(heads (ressS w l)).2≠0 then([],(heads (ressS w l)).2) else kindT w (.mk k o t v n l) (heads (ressS w l)).1 b
def ressS (w:Plc):List Ex->List (List Int×Int)
 | []=>[]
 | a::l=>resS w a true::ressS w l
end
theorem both_S:∀(m:Nat) (e:Ex),wEx e≤m->flat e=flatS e/\exDepth e=depS e/\∀w b,resT w b e=resS w e b
 | 0,e,h=>by have:=wEx_pos e;omega
 | m+1,.mk k o t v n l,h=>by
   have ih:∀a∈l,flat a=flatS a/\exDepth a=depS a/\∀w b,resT w b a=resS w a b:=fun a ha=>both_S m a (by have:=wEx_arg (e:=.mk k o t v n l) (x:=a) ha;omega)
   have h1:∀l:List Ex,(∀a∈l,flat a=flatS a)->flats l=flatsS l:=by
    intro l
    induction l with
    | nil=>intro _;rfl
    | cons a l ih=>intro h;rw[flatsS,<-ih fun b hb=>h b (by simp[hb]),<-h a (by simp)];simp[flats]
   have h2:∀(l:List Ex) (x:Int),(∀a∈l,exDepth a=depS a)->(l.map exDepth).foldl max x=depsS l x:=by
    intro l
    induction l with
    | nil=>intro x _;rfl
    | cons a l ih=>intro x h;rw[depsS,List.map_cons,List.foldl_cons,ih _ fun b hb=>h b (by simp[hb]),h a (by simp)]
   have h3:∀(w:Plc) (l:List Ex),(∀a∈l,∀b,resT w b a=resS w a b)->l.map (resT w true)=ressS w l:=by
    intro w l
    induction l with
    | nil=>intro _;rfl
    | cons a l ih=>intro h;rw[ressS,List.map_cons,ih fun b hb=>h b (by simp[hb]),h a (by simp)]
   refine⟨?_,?_,fun w b=>?_⟩
   ·rw[flat_eq,flatS];exact congrArg _ (h1 l fun a ha=>(ih a ha).1)
   ·rw[exDepth_eq,depS];exact congrArg (·+1) (h2 l 0 fun a ha=>(ih a ha).2.1)
   ·rw[resT_eq,resS,<-h3 w l fun a ha=>(ih a ha).2.2 w];rfl
theorem flat_S(e:Ex):flat e=flatS e:=(both_S _ e (Nat.le_refl _)).1
theorem dep_S(e:Ex):exDepth e=depS e:=(both_S _ e (Nat.le_refl _)).2.1
theorem res_S(w:Plc)(b:Bool)(e:Ex):resT w b e=resS w e b:=(both_S _ e (Nat.le_refl _)).2.2 w b
theorem wEx_S(e:Ex):wEx e=(flatS e).length:=by rw[<-flat_S,flat_len]
theorem flats_S(l:List Ex):flats l=flatsS l:=by
 induction l with
 | nil=>rfl
 | cons a l ih=>rw[flatsS,<-ih,<-flat_S];simp[flats]
def kA:Ex:=.mk (i64 2) (i64 0) (i64 0) (i64 0) [97] []
def kY:Ex:=.mk (i64 2) (i64 0) (i64 0) (i64 0) [121] []
def kZ:Ex:=.mk (i64 2) (i64 0) (i64 0) (i64 0) [122] []
def kWhen:Ex:=.mk (i64 8) (i64 0) (i64 1) (i64 1) [99] [kA]
def kConst:Ex:=.mk (i64 1) (i64 0) (i64 2) (i64 0) [] []
def kMerge(b:Bool):Ex:=.mk (i64 9) (i64 0) (i64 1) (i64 0) [99] [kZ,if b=true then kA else kY]
def kN(b:Bool):Nod:=⟨[102],[⟨[99],i64 1,[]⟩,⟨[97],i64 2,[]⟩],[⟨[120],i64 2,[]⟩],[⟨[121],i64 2,[⟨[99],i64 1,i64 1⟩]⟩,⟨[122],i64 2,[⟨[99],i64 1,i64 0⟩]⟩],
 [⟨[[121]],kWhen⟩,⟨[[122]],kConst⟩,⟨[[120]],kMerge b⟩],[],[],[]⟩
def kP(b:Bool):Prog:=⟨[],[kN b]⟩
set_option maxRecDepth 20000 in
theorem kshape (b:Bool):shapeX (kP b)=((0,0),0):=by
 delta shapeX nodeX equE tailE exprX checkX
 simp only[flat_S,dep_S,wEx_S]
 cases b <;> decide +kernel
set_option maxRecDepth 20000 in
theorem kscope (b:Bool):scopeX (kP b)=((0,0),0):=by
 unfold scopeX
 rw[kshape]
 delta nodF nodeT' nodeS equS claimE exprS
 simp only[flats_S]
 cases b <;> decide +kernel
set_option maxRecDepth 20000 in
theorem ktypes (b:Bool):typesX (kP b)=((0,0),0):=by
 unfold typesX
 rw[kscope]
 show tyNods (kP b) [(kN b,0)]=_
 unfold tyNods
 delta nodG nodeTy eqnT restTy condT
 simp only[res_S]
 cases b <;> decide +kernel
set_option maxRecDepth 20000 in
theorem kclocks:clocksX (kP false)=((0,0),0)/\clocksX (kP true)=((0,2),11):=by
 delta clocksX
 rw[ktypes,ktypes]
 constructor
 all_goals
  show clkNods 0 [kN _]=_
  unfold clkNods
  delta nodeK eqClk fitsX
  simp only[wEx_S]
  decide +kernel
abbrev kCk:List OnC:=[⟨[99],i64 1,i64 1⟩]
theorem kof:clkP (kP false) (i64 0) [121]=(kCk,0):=by decide +kernel
set_option maxRecDepth 20000 in
theorem kfits:fitsP (kP false) (i64 0) kY kCk=0/\fitsP (kP false) (i64 0) kY []=11:=by
 delta fitsP exprX checkX namesX fitsX
 simp only[flat_S,dep_S,wEx_S]
 constructor <;> decide +kernel
end Go.Proofs.YtlocalghkiepmaaGreat
namespace Go.TL
open Go
section rules
variable {P:Program}{n:Nat}{env:Env}{H:Heap}{K:TK}{all:Array Oper}{rest:List Oper}{tab:Tab}{q:Bool}{d:Nat}{ty:TypeId}{pos:String}{aft:Array Edge}
theorem TO.buildSliceM(hT:TabOk P tab){t e:TypeId}{i ie:TyI}{len sz:Nat}{parts:Array (Nat×Operand)}{ps:List (Nat×SV)}{es:List T}(hd:Nat.ble (d+1) n=true)(ht:tab.get t=some i)(hk:i.k= .slice e)(he:tab.get e=some ie)(hs:ie.size=sz)
  (hp:env.parts parts.toList=some ps)(hes:elemsOf sz 0 ps=some es)(hlen:Nat.beq len es.length=true)(hsz:∀t∈es,t.cells.length=sz)(hsm:Nat.ble (len*sz) 16777216=true)(hpos:Nat.ble 1 sz=true)
  (k:TO false P n all rest ((d,.ms sz H.length 0 len)::env) (H++[.cells ((es.map T.cells).flatten.map .t)]) K):TO false P n all (⟨some d,.buildSlice t len parts,ty,pos,aft,none⟩::rest) env H K:=
 TO.eff hd (fun m ac h1 h2 h3=>by
  subst h1
  have hlen':=Nat.eq_of_beq_eq_true hlen
  have hsm':=Nat.le_of_ble_eq_true hsm
  obtain⟨e1,e2⟩:=elemsOf_get hes
  obtain⟨p1,p2⟩:=h3.parts parts.toList ps hp
  obtain⟨z,hz1,hz2,_,_⟩:=(hT e ie he).zero
  have hzl:z.cells.size=sz:=by
   have:=(zero_rel (A:=m.A) (w:=m.w) _ _ hz2).1
   have h2:=(hT e ie he).len
   simp at this;omega
  have hval:∀(i:Nat) p,(parts.toList.map fun x=>(x.1,ac.eval x.2))[i]?=some p->∃t,es[i]?=some t/\p.1=0+i/\p.2.cells.size=sz/\(∀(j:Nat) y,p.2.cells[j]?=some y->y.oneCell'=true)/\∀(j:Nat) c y,t.cells[j]?=some c->p.2.cells[j]?=some y->TRel m.A m.w c y:=by
   intro i p hpi
   have hi:=(List.getElem?_eq_some_iff.1 hpi).1
   have hps:ps[i]?=some (ps[i]'(by omega)):=List.getElem?_eq_getElem _
   obtain⟨t,q1,q2,q3,q4,q5⟩:=e2 i _ hps
   obtain⟨r1,r2⟩:=p2 i _ p hps hpi
   obtain⟨c1,c2,c3⟩:=(r2.toT q3).cells q5
   exact⟨t,q1,by rw[<-r1];exact q2,by rw[c1];exact hsz t (List.mem_of_getElem? q1),c2,c3⟩
  obtain⟨z0,hz0⟩:∃z0:Array Value,z0=if len*sz=0 then #[] else z.cells:=⟨_,rfl⟩
  obtain⟨arr,g1,g2,_,g4⟩:=fill_seq (sz:=sz) (fun i=>some (i*sz,sz)) (fun _=>rfl) (parts.toList.map fun x=>(x.1,ac.eval x.2)) 0 ((Array.range (len*sz)).map (fun j=>z0[j % z0.size]!)) (fun i p hpi=>by
   obtain⟨t,_,h5,h6,_⟩:=hval i p hpi
   exact⟨h5,h6⟩) (by
   simp
   have h1:parts.size=len:=by simp at p1;omega
   rw[h1];exact Nat.le_refl _)
  have g2':arr.size=len*sz:=by rw[g2];simp
  have hp':=Nat.le_of_ble_eq_true hpos
  obtain⟨l1,l2⟩:=flat_cells es hsz
  have hpl:parts.size=len:=by simp at p1;omega
  have split:∀q,q<len*sz->∃i j t p,q=i*sz+j/\j<sz/\es[i]?=some t/\(parts.toList.map fun x=>(x.1,ac.eval x.2))[i]?=some p/\arr[q]?=p.2.cells[j]? /\(∀(j:Nat) y,p.2.cells[j]?=some y->y.oneCell'=true)/\∀(j:Nat) c y,t.cells[j]?=some c->p.2.cells[j]?=some y->TRel m.A m.w c y:=by
   intro q hq
   have hj:q % sz<sz:=Nat.mod_lt _ hp'
   have hqs:q=q / sz*sz+q % sz:=by rw[Nat.mul_comm];exact(Nat.div_add_mod q sz).symm
   have hi:q / sz<len:=Nat.div_lt_of_lt_mul (by rw[Nat.mul_comm];exact hq)
   obtain⟨p,hpi⟩:∃p,(parts.toList.map fun x=>(x.1,ac.eval x.2))[q / sz]?=some p:=⟨_,List.getElem?_eq_getElem (by simp;omega)⟩
   obtain⟨t,h4,_,_,h7,h8⟩:=hval _ p hpi
   have:=g4 _ p hpi _ hj
   rw[Nat.zero_add,<-hqs]at this
   exact⟨_,_,t,p,hqs,hj,h4,hpi,this,h7,h8⟩
  obtain⟨s,hm'⟩:=grow_cells h2 ((es.map T.cells).flatten.map .t) arr e (by rw[List.length_map,l1,g2'];exact Nat.mul_le_mul_right _ (by omega)) (fun q y hy=>by
   have hq:=(Array.getElem?_eq_some_iff.1 hy).1
   obtain⟨i,j,t,p,_,_,_,_,h5,h7,_⟩:=split q (by omega)
   exact h7 j y (by rw[<-h5];exact hy)) (fun q c y hc hy=>by
   have hq:=(Array.getElem?_eq_some_iff.1 hy).1
   obtain⟨i,j,t,p,hqs,hj,h4,_,h5,_,h8⟩:=split q (by omega)
   have htl:=hsz t (List.mem_of_getElem? h4)
   have hcc:t.cells[j]?=some (t.cells[j]'(by omega)):=List.getElem?_eq_getElem _
   have:=l2 i j t _ h4 hcc
   rw[<-hqs]at this
   rw[List.getElem?_map,this]at hc
   cases hc
   exact .t _ _ (h8 j _ y hcc (by rw[<-h5];exact hy)))
  refine⟨.slice (some ⟨m.w.heap.size,0,none⟩) len len,⟨m.A,m.β++[⟨m.w.heap.size,0,arr.size⟩],m.H++[.cells ((es.map T.cells).flatten.map .t)],m.w.alloc (.cells arr e)⟩,?_,s,hm',rfl,?_⟩
  ·have hrun:(Instr.buildSlice t len (parts.map fun(i,x)=>(i,ac.eval x))).run P m.w= .ok (.slice (some ⟨m.w.heap.size,0,none⟩) len len) (m.w.alloc (.cells arr e)):=by
    have hbig:¬len*sz > 2 ^ 24:=by omega
    have hfl:(parts.map fun(x:Nat×Operand)=>(x.1,ac.eval x.2)).toList=parts.toList.map fun x=>(x.1,ac.eval x.2):=by simp
    unfold Instr.buildSlice
    by_cases h0:len*sz=0
    ·simp only[h0,if_true]at hz0
     subst hz0
     simp only[Sem.run_bind,underlying,run_program,Result.andThen_ok,(hT t i ht).slice hk,Sem.run_pure,(hT e ie he).sizeOf,hs,if_neg hbig,if_pos h0]
     rw[h0]at g1⊢
     rw[hfl,g1]
     simp[newRow]
    ·simp only[if_neg h0]at hz0
     subst hz0
     simp only[Sem.run_bind,underlying,run_program,Result.andThen_ok,(hT t i ht).slice hk,Sem.run_pure,(hT e ie he).sizeOf,hs,if_neg hbig,if_neg h0,hz1]
     rw[hfl,g1]
     simp[newRow]
   simp only[execOp,Sem.run_bind,hrun];rfl
  ·refine .ms sz m.H.length 0 len len ⟨m.w.heap.size,0,arr.size⟩ (by simp[h2.len]) (by intro q;simp[tlOf]) (Nat.le_refl _) ?_
   show 0+0+len*sz=arr.size
   omega) k
theorem TO.freezeC{ops:List Oper}(bid j0 sz id len:Nat){bs:List SV}{cs:List SV}{es:List T}{H':Heap}(hne:Nat.beq bid id=false)(hB:H[bid]?=some (.cells bs))(hj0:bs[j0]?=some (.ms sz id 0 len))(hH:H[id]?=some (.cells cs))(hcl:es.length*sz≤cs.length)(hcs:∀(j:Nat) c,((es.map T.cells).flatten.map SV.t)[j]?=some c->cs[j]?=some c)(hlen:len=es.length)(hsz:∀e∈es,e.cells.length=sz)
  (hpos:Nat.ble 1 sz=true)(hH':(H.set id .dead).set bid (.cells (bs.set j0 (.t (.sl sz es))))=H')(k:TO false P n all ops env H' K):TO false P n all ops env H K:=by
 intro φ m a h1 h2 h3 h4
 have hp':=Nat.le_of_ble_eq_true hpos
 subst hlen
 have hne':bid≠id:=fun h=>by subst h;simp at hne
 have hB1:m.H[bid]?=some (.cells bs):=by rw[h1];exact hB
 obtain⟨pb,hpb⟩:∃pb,m.β[bid]?=some pb:=⟨_,List.getElem?_eq_getElem (by have:=(List.getElem?_eq_some_iff.1 hB1).1;have:=h2.len;omega)⟩
 obtain⟨w1,w2,w3⟩:=h2.blk bid pb _ hpb hB1
 obtain⟨x,hx1,hx0,hx2⟩:=w3 j0 _ hj0
 obtain⟨l1,l2⟩:=flat_cells es hsz
 cases hx2 with
 | ms _ _ _ _ cap p hp hn hc hh=>
   have hH1:m.H[id]?=some (.cells cs):=by rw[h1];exact hH
   obtain⟨b1,b2,b3⟩:=h2.blk id p _ hp hH1
   have hex:∀j,∃y,j<cs.length->m.w.cell? ⟨p.b,p.lo+j,none⟩=some y/\y.oneCell'=true/\∀c,cs[j]?=some c->SRel m c y:=by
    intro j
    by_cases hj:j<cs.length
    ·obtain⟨y,hy1,hy0,hy2⟩:=b3 j cs[j] (List.getElem?_eq_getElem hj)
     exact⟨y,fun _=>⟨hy1,hy0,fun c hc=>by rw[List.getElem?_eq_getElem hj]at hc;cases hc;exact hy2⟩⟩
    ·exact⟨undef,fun h=>absurd h hj⟩
   let f:Nat->Value:=fun j=>Classical.choose (hex j)
   have hf:=fun j=>Classical.choose_spec (hex j)
   obtain⟨s,hm'⟩:=mv_step h2 (k1:=.dead) (p':=p) (A':=fun b o=>m.A b o\/(b=p.b/\p.lo≤o/\o<p.lo+cs.length)) (w':=m.w) hp hH1 rfl rfl rfl rfl (Nat.le_refl _) (fun _ _ _ _=>rfl) (fun _ _ _ _ _=>rfl) (fun _ _ _=>rfl) (fun _ _ _ h=>h) (fun _ _ h=>h)
    (fun _ _ h=>.inl h) (fun b o h=>by
      rcases h with h|h
      ·exact .inl h
      ·exact .inr (.inl (by omega))) (fun h=>by cases h) (fun h=>by cases h) (fun o q1 q2=>(b2 o q1 q2).1) ⟨rfl,fun n'=>by simp[tlOf]⟩ (fun _=>trivial)
   have hlt:∀q j,q<es.length->j<sz->q*sz+j<cs.length:=fun q j hq hj=>by
    have:=Nat.mul_le_mul_right sz (show q+1≤es.length from hq)
    rw[Nat.succ_mul]at this
    omega
   have hr:SRel ⟨fun b o=>m.A b o\/(b=p.b/\p.lo≤o/\o<p.lo+cs.length),m.β.set id p,m.H.set id .dead,m.w⟩ (.t (.sl sz es)) (.slice (some ⟨p.b,p.lo+0,none⟩) es.length cap):=by
    refine .t _ _ (.sl sz es p.b (p.lo+0) cap f hc (fun j e he=>hsz e (List.mem_of_getElem? he)) (fun q j hq hj=>.inr ⟨rfl,by omega,by have:=hlt q j hq hj;omega⟩) (fun q j hq hj=>(hf _ (hlt q j hq hj)).1) (fun q j hq hj=>(hf _ (hlt q j hq hj)).2.1) (fun q e j c he hc'=>?_))
    have hq:=(List.getElem?_eq_some_iff.1 he).1
    have hj:=(List.getElem?_eq_some_iff.1 hc').1
    rw[hsz e (List.mem_of_getElem? he)]at hj
    have hcc:cs[q*sz+j]?=some (.t c):=hcs _ _ (by rw[List.getElem?_map,l2 q j e c he hc'];rfl)
    have:=(hf _ (hlt q j hq hj)).2.2 _ hcc
    cases this with
    | t _ _ h=>exact s.trel h2 h
   have hB2:(m.H.set id .dead)[bid]?=some (.cells bs):=by rw[List.getElem?_set_ne (fun h=>hne' h.symm)];exact hB1
   have hpb2:(m.β.set id p)[bid]?=some pb:=by rw[List.getElem?_set_ne (fun h=>hne' h.symm)];exact hpb
   have hjl:=(List.getElem?_eq_some_iff.1 hj0).1
   obtain⟨s2,hm2⟩:=upd hm' (cs':=bs.set j0 (.t (.sl sz es))) (w':=m.w) hpb2 hB2 rfl rfl rfl rfl (fun _ _=>rfl) (fun _ _=>rfl) (fun _=>rfl) (fun _=>rfl) (fun _ h=>h) (by rw[List.length_set];exact w1) (by omega) (fun j c hc=>by
    by_cases hj:j=j0
    ·subst hj
     rw[List.getElem?_set_self hjl]at hc
     cases hc
     exact⟨_,hx1,hx0,hr⟩
    ·rw[List.getElem?_set_ne (fun h=>hj h.symm)]at hc
     obtain⟨y,y1,y2,y3⟩:=w3 j c hc
     exact⟨y,y1,y2,s.srel h2 y3⟩)
   have st:=s.trans s2
   exact TO.step' (m':=⟨fun b o=>m.A b o\/(b=p.b/\p.lo≤o/\o<p.lo+cs.length),m.β.set id p,(m.H.set id .dead).set bid (.cells (bs.set j0 (.t (.sl sz es)))),m.w⟩) st (k φ ⟨fun b o=>m.A b o\/(b=p.b/\p.lo≤o/\o<p.lo+cs.length),m.β.set id p,(m.H.set id .dead).set bid (.cells (bs.set j0 (.t (.sl sz es)))),m.w⟩ a (by show _=H';rw[<-hH',h1]) hm2 (h3.step h2 st) (h4.step h2 st))
end rules
end Go.TL
namespace Go.Proofs.YtlocalghkiepmaaGreat
open Go Go.TL
attribute [local irreducible] TR TO Then InBlock RetK Sound LoopK Kf GG ThenL
theorem var12_sound(s:Str):Pure Tryz.prog 46 [.s s] (.t (.ag [T.i 2,T.i 0,T.i 0,T.i 0,T.s s,.sl 6 []])):=by
 refine Sound.of tabOk Tryz.func46 (by kernel_rfl) rfl rfl ?_
 repeat' (first|refine wkt ?_|refine wk ?_|exact wkc|intro hc|refine wk2 ?_ ?_|fail|fail)
 refine RetK.pure rfl (Le.treeS rfl ?_) rfl
 repeat' (first|exact trivial|exact TLs.refl _|exact TLs.nil _|refine TLs.agL ?_|refine TLs.slL ?_|refine And.intro ?_ ?_|fail)
abbrev vT (c:UInt8):T:=.ag [T.i 2,T.i 0,T.i 0,T.i 0,T.s [c],.sl 6 []]
abbrev ndT (c:UInt8):T:=.ag [T.s [102],.sl 3 [.ag [T.s [99],T.i 1,.sl 3 []],.ag [T.s [97],T.i 2,.sl 3 []]],.sl 3 [.ag [T.s [120],T.i 2,.sl 3 []]],
 .sl 3 [.ag [T.s [121],T.i 2,.sl 3 [.ag [T.s [99],T.i 1,T.i 1]]],.ag [T.s [122],T.i 2,.sl 3 [.ag [T.s [99],T.i 1,T.i 0]]]],
 .sl 7 [.ag [.sl 1 [T.s [121]],T.i 8,T.i 0,T.i 1,T.i 1,T.s [99],.sl 6 [vT 97]],.ag [.sl 1 [T.s [122]],T.i 1,T.i 0,T.i 2,T.i 0,T.s [],.sl 6 []],.ag [.sl 1 [T.s [120]],T.i 9,T.i 0,T.i 1,T.i 0,T.s [99],.sl 6 [vT 122,vT c]]],.sl 1 [],.sl 6 [],.sl 6 []]
theorem kP_T(b:Bool):T.ag (progC (kP b))= .ag [.sl 2 [],.sl 8 [ndT (if b=true then 97 else 121)]]:=by
 have hA:exT kA=vT 97:=by rw[exT_eq];rfl
 have hY:exT kY=vT 121:=by rw[exT_eq];rfl
 have hZ:exT kZ=vT 122:=by rw[exT_eq];rfl
 cases b <;> simp[progC,kP,nodesT,nodT,kN,equT,exC,kWhen,kConst,kMerge,Ex.kind,Ex.op,Ex.t,Ex.v,Ex.name,Ex.args,declT,onT,hA,hY,hZ,i64]
theorem example_sound(b:Bool):Pure Tryz.prog 45 [.b b] (.t (.ag (progC (kP b)))):=by
 have v1:=var12_sound [97]
 have v2:=var12_sound [121]
 have v3:=var12_sound [122]
 rw[kP_T]
 cases b
 ·refine Sound.of tabOk Tryz.func45 (by kernel_rfl) rfl rfl ?_
  refine wk ?_
  repeat' (first|refine wkt ?_|refine wka ?_|refine wv v1 ?_|fail)
  refine wv v3 ?_
  refine wv v2 ?_
  refine wkt ?_
  refine wkt ?_
  repeat' (first|refine wk ?_|exact wkc|intro hc|refine wk2 ?_ ?_|fail)
  refine RetK.pure rfl (Le.treeS rfl ?_) rfl
  repeat' (first|exact trivial|exact TLs.refl _|exact TLs.nil _|refine TLs.agL ?_|refine TLs.slL ?_|refine And.intro ?_ ?_|fail)
 ·refine Sound.of tabOk Tryz.func45 (by kernel_rfl) rfl rfl ?_
  refine wk ?_
  repeat' (first|refine wkt ?_|refine wka ?_|refine wv v1 ?_|fail)
  refine wv v3 ?_
  refine wv v2 ?_
  apply TO.buildSliceM tabOk;iterate 8 exact rfl
  ·intro t ht
   simp at ht
   rcases ht with rfl|rfl <;> rfl
  ·exact rfl
  ·exact rfl
  repeat' (first|refine wkt ?_|(apply TO.alloc tabOk;exact rfl;exact rfl;exact rfl)|(apply TO.store tabOk;exact rfl;exact rfl;exact rfl;exact rfl;exact rfl;exact rfl;exact Nat.le_of_ble_eq_true rfl;exact rfl;exact Nat.le_of_ble_eq_true rfl;exact rfl)|exact wkc|intro hc|refine wk2 ?_ ?_|fail)
  refine TR.regionM (envF:=?envF) (HF:=[.cells [nilS,nilS],.cells [.i 2,.i 0,.i 0,.i 0,.s [122],.t (.sl 6 []),.i 2,.i 0,.i 0,.i 0,.s [97],.t (.sl 6 [])],.cells [.i 9,.i 0,.i 1,.i 0,.s [99],.ms 6 1 0 2]]) [(.ref 2 5,false),(.ms 6 1 0 2,true),(.t (vT 97),false),(.ref 1 6,false),(.any,true)] [[.cells [nilS,nilS],.cells [.i 2,.i 0,.i 0,.i 0,.s [122],.t (.sl 6 []),.i 2,.i 0,.i 0,.i 0,.s [121],.t (.sl 6 [])],.cells [.i 9,.i 0,.i 1,.i 0,.s [99],.ms 6 1 0 2]],[.cells [nilS,nilS],.cells [.i 2,.i 0,.i 0,.i 0,.s [122],.t (.sl 6 []),.i 2,.i 0,.i 0,.i 0,.s [121],.t (.sl 6 [])],.cells [.i 9,.i 0,.i 1,.i 0,.s [99],.ms 6 1 0 2]],[.cells [nilS,nilS],.cells [.i 2,.i 0,.i 0,.i 0,.s [122],.t (.sl 6 []),.i 2,.i 0,.i 0,.i 0,.s [97],.t (.sl 6 [])],.cells [.i 9,.i 0,.i 1,.i 0,.s [99],.ms 6 1 0 2]]] hmix ?hB ?h0 ?hp ?hF ?hE ?hK
  case hB=>(dsimp only[List.map];decide +kernel)
  case h0=>exact rfl
  case hF=>exact rfl
  case hE=>exact rfl
  case hp=>
   repeat' (first|refine wkt ?_|refine wv v1 ?_|(apply TO.indexAddr_ms tabOk;exact rfl;exact rfl;exact rfl;exact rfl;exact rfl;exact rfl;exact rfl;decide;decide)|exact trivial|exact And.intro rfl rfl|refine And.intro (fun H env=>?_) ?_|refine And.intro (fun env=>?_) ?_|refine wk ?_|fail)
   done
  case hK=>
   refine wkt ?_
   refine TO.freezeC 2 5 6 1 2 (es:=[vT 122,vT 97]) rfl rfl rfl rfl (by decide) (fun j c hj=>hj) rfl ?_ rfl rfl ?_
   ·intro e he
    simp at he
    rcases he with rfl|rfl <;> rfl
   repeat' (first|refine wk ?_|exact wkc|intro hc|refine wk2 ?_ ?_|fail)
   refine RetK.pure rfl (Le.treeS rfl ?_) rfl
   repeat' (first|exact trivial|exact TLs.refl _|exact TLs.nil _|refine TLs.agL ?_|refine TLs.slL ?_|refine And.intro ?_ ?_|fail)
theorem kP_w(b:Bool):(T.ag (progC (kP b))).w≤100000000:=by
 rw[kP_T]
 cases b <;> (simp[w_ag,w_sl,T.w];decide +kernel)
theorem awake12_sound:Pure Tryz.prog 15 [] (.b true):=by
 have x0:=example_sound false
 have x1:=example_sound true
 have c0:=clocksX_sound (kP false) (kP_w false)
 have c1:=clocksX_sound (kP true) (kP_w true)
 rw[kclocks.1]at c0
 rw[kclocks.2]at c1
 obtain⟨hP,hln,_⟩:=smallP_of (kP_w false)
 have c2:=clkP_sound (kP false) hP (i64 0) [121]
 rw[kof]at c2
 have hq:∀n∈(kP false).nodes,∀d∈varsL n,SmallK d.clock:=fun n hn=>smallK_of (hln n hn)
 have hk:SmallK kCk:=⟨by decide,fun o ho=>by simp at ho;subst ho;decide⟩
 have hw:wEx kY≤1000000000:=by rw[show wEx kY=1 from wEx_leaf _ _ _ _ _];decide
 have hn:∀x∈flat kY,x.name.length≤1000000000:=fun x hx=>by
  rw[show flat kY=[kY] from flat_leaf _ _ _ _ _]at hx
  simp at hx;subst hx;decide
 have c3:=fitsP_sound (kP false) hP hq (i64 0) kY hw hn kCk hk
 have c4:=fitsP_sound (kP false) hP hq (i64 0) kY hw hn [] SmallK.nil
 rw[kfits.1]at c3
 rw[kfits.2]at c4
 have c5:=within_sound kCk [] hk SmallK.nil
 have c6:=sameK_sound kCk [] hk SmallK.nil
 rw[within_nil]at c5
 rw[show decide (kCk=[])=false from rfl]at c6
 have v:=var12_sound [121]
 rw[show exC kY=[T.i 2,T.i 0,T.i 0,T.i 0,T.s [121],.sl 6 []] from rfl]at c3 c4
 dsimp only at c0 c1 c2 c3 c4
 rw[show progC (kP false)=[.sl 2 [],nodesT (kP false).nodes] from rfl]at x0 c0 c2 c3 c4
 rw[show progC (kP true)=[.sl 2 [],nodesT (kP true).nodes] from rfl]at x1 c1
 generalize nodesT (kP false).nodes=n0 at*
 generalize nodesT (kP true).nodes=n1 at*
 clear hP hln hq hn
 refine Sound.of tabOk Tryz.func15 (by kernel_rfl) rfl rfl ?_
 repeat' (first|refine wEqW ?_|refine wkt ?_|refine wka ?_|refine wv x0 ?_|refine wv x1 ?_|refine wv c0 ?_|refine wv c1 ?_|refine wv c2 ?_|refine wv v ?_|refine wv c3 ?_|refine wv c4 ?_|refine wv c5 ?_|refine wv c6 ?_|refine wk ?_|exact wkc|intro hc|refine wk2 ?_ ?_|fail)
 exact wkr
theorem weigh_sound':∀(m:Nat) (e:Ex),wEx e≤m->∀(q:Nat),1≤q->q≤1000000->Pure Tryz.prog 18 [.t (.ag (exC e)),.i q] (.i (min (wEx e) q:Nat)):=by
 intro m
 induction m with
 | zero=>intro e he;have:=wEx_pos e;omega
 | succ m ih0=>
   intro e he q hq1 hq2
   have hw:=wEx_eq e
   have ih:∀x∈e.args,∀(q:Nat),1≤q->q≤1000000->Pure Tryz.prog 18 [.t (.ag (exC x)),.i q] (.i (min (wEx x) q:Nat)):=fun x hx q h1 h2=>ih0 x (by have:=wEx_arg hx;omega) q h1 h2
   clear ih0
   rw[hw]
   generalize hL:e.args=L at ih⊢
   have hml:(L.map exT).length=L.length:=List.length_map _
   unfold exC
   rw[hL]
   refine Sound.of tabOk Tryz.func18 (by kernel_rfl) rfl rfl ?_
   repeat' (first|refine wkt ?_|refine wk ?_|exact wkc|intro hc|refine wk2 ?_ ?_|fail)
   refine TR.loopN L.length (fun k=>k<1+((L.take k).map wEx).sum) (fun k=>[(1,.i q),(2,.cp [T.n e.kind,T.n e.op,T.n e.t,T.n e.v,.s e.name,.sl 6 (L.map exT)] 0),(5,.i (min (1+((L.take k).map wEx).sum) q:Nat)),(6,.i k)]) (fun _=>[]) (by simp) (fun k hlt hk=>?_) (fun hk=>?_) ⟨rfl,rfl,by rw[show min (1+((L.take 0).map wEx).sum) q=1 from by simp;omega];rfl,rfl,trivial⟩
   ·have hx:=at_exT hlt
    have htk:((L.take (k+1)).map wEx).sum=((L.take k).map wEx).sum+wEx L[k]:=by rw[take_at hlt,List.map_append,List.sum_append];simp
    have hle:((L.take k).map wEx).sum≤(L.map wEx).sum:=by
     conv=>rhs;rw[<-List.take_append_drop k L]
     rw[List.map_append,List.sum_append];omega
    have hwp:=wEx_pos L[k]
    have hi:=ih L[k] (List.getElem_mem hlt)
    generalize L[k]=x at hx htk hwp hi
    generalize hS:((L.take k).map wEx).sum=S at*
    generalize hT:(L.map wEx).sum=W at*
    unfold exC at hx hi
    by_cases hc0:1+S<q
    ·have hn:min (1+S) q=1+S:=by omega
     rw[hn]
     have hi2:=hi (q-(1+S)) (by omega) (by omega)
     rw[show((q-(1+S):Nat):Int)=(q:Int)-((1+S:Nat):Int) from by omega]at hi2
     have hr:((1+S:Nat):Int)+((min (wEx x) (q-(1+S)):Nat):Int)=((min (1+(S+wEx x)) q:Nat):Int):=by omega
     generalize min (wEx x) (q-(1+S))=z at hi2 hr
     have hz:z≤1000000:=by omega
     repeat' (first|refine wkt ?_|refine wk ?_|exact wkc|intro hc|refine wk2 ?_ ?_|refine wv hi2 ?_|fail)
     exact LoopK.nextN hlt (by rw[htk];omega) ⟨rfl,rfl,by rw[htk,<-hr];rfl,rfl,trivial⟩
    ·have hn:min (1+S) q=q:=by omega
     rw[hn,show min (1+W) q=q from by omega]
     repeat' (first|refine wkt ?_|refine wk ?_|exact wkc|intro hc|refine wk2 ?_ ?_|fail|fail)
     all_goals first
      | (exfalso;omega)
      | (refine RetK.pure rfl (Le.of_eq ?_) rfl;refine congrArg (fun z=>SV.t (T.v (Value.int IntKind.i64 z))) ?_;omega)
   ·rw[List.take_length]
    repeat' (first|refine wkt ?_|refine wk ?_|exact wkc|intro hc|refine wk2 ?_ ?_|fail)
    all_goals first
     | (exfalso;omega)
     | (refine RetK.pure rfl (Le.of_eq ?_) rfl;refine congrArg (fun z=>SV.t (T.v (Value.int IntKind.i64 z))) ?_;omega)
end Go.Proofs.YtlocalghkiepmaaGreat
namespace Go.TL
open Go
def FinK(id:Nat)(EF:Env)(GF:Heap)(K:TK):TK
 | .exit i,env,H=>i=id/\env.sub EF/\H=GF
 | e,env,H=>K e env H
theorem TR.fin{P:Program}{n id:Nat}{env EF:Env}{H GF:Heap}{K:TK}{c:Code}(h:TR P n c env H (FinK id EF GF K))(fin:K (.exit id) EF GF):TR P n c env H K:=
 TR.weak (TR.mono h fun te env H hk=>by
  cases te with
  | exit i=>
    obtain⟨rfl,h1,rfl⟩:=hk
    exact⟨EF,fun i v hv=>⟨v,Env.sub_look h1 i v hv,Le.refl v⟩,fin⟩
  | _=>exact WeakK.done hk)
section
variable {P:Program}{n:Nat}{env:Env}{K:TK}{all:Array Oper}{rest:List Oper}{d:Nat}{ty:TypeId}{pos:String}{aft:Array Edge}{H:Heap}{q:Bool}
theorem TO.quoN{t t':TypeId}{x y:Operand}{a b:Nat}(hd:Nat.ble (d+1) n=true)(hx:env.val x=some (.i a))(hy:env.val y=some (.i b))(hb:0<b)(ha:a≤1000000000000)
  (k:TO q P n all rest ((d,.i (a / b:Nat))::env) H K):TO q P n all (⟨some d,.binOp .quo t x y t',ty,pos,aft,none⟩::rest) env H K:=
 TO.bquo hd hx hy (by omega) (by
  have h2:a / b≤a:=Nat.div_le_self a b
  rw[show((a:Int).tdiv b)=((a / b:Nat):Int) from by rw[Int.ofNat_tdiv]]
  generalize a / b=c at*
  rw[wrap_in (by omega) (by omega)];exact k)
end
end Go.TL
set_option linter.unusedVariables false
set_option linter.unusedSimpArgs false
namespace Go.Proofs.YtlocalghkiepmaaGreat
open Go Go.TL
attribute [local irreducible] TR TO Then InBlock RetK Sound LoopK Kf GG ThenL
def wgs{α:Type}(g:Nat->α->Nat)(q:Nat):List α->Nat->Nat
 | [],n=>n
 | x::l,n=>if n<q then wgs g q l (g n x) else n
theorem wgs_stop{α:Type}{g:Nat->α->Nat}{q n:Nat}(h:¬n<q):∀(l:List α),wgs g q l n=n
 | []=>rfl
 | x::l=>by rw[wgs,if_neg h]
theorem wgs_append{α:Type}(g:Nat->α->Nat)(q:Nat):∀(a b:List α) (n:Nat),wgs g q (a++b) n=wgs g q b (wgs g q a n)
 | [],b,n=>rfl
 | x::a,b,n=>by
   rw[List.cons_append,wgs,wgs]
   by_cases h:n<q
   ·rw[if_pos h,if_pos h,wgs_append g q a b]
   ·rw[if_neg h,if_neg h,wgs_stop h]
theorem wgs_take{α:Type}{g:Nat->α->Nat}{q n:Nat}{l:List α}{k:Nat}(hk:k<l.length)(h:wgs g q (l.take k) n<q):wgs g q (l.take (k+1)) n=g (wgs g q (l.take k) n) l[k]:=by
 rw[List.take_succ_eq_append_getElem hk,wgs_append,wgs,if_pos h,wgs]
theorem wgs_done{α:Type}{g:Nat->α->Nat}{q n:Nat}{l:List α}{k:Nat}(h:¬wgs g q (l.take k) n<q):wgs g q l n=wgs g q (l.take k) n:=by
 conv=>lhs;rw[<-List.take_append_drop k l]
 rw[wgs_append,wgs_stop h]
theorem wgs_le{α:Type}{g:Nat->α->Nat}{q B:Nat}:∀(l:List α) (n:Nat),n≤B->(∀n,n<q->∀x∈l,g n x≤B)->wgs g q l n≤B
 | [],n,h,_=>h
 | x::l,n,h,hg=>by
   rw[wgs]
   split
   ·rename_i hq
    exact wgs_le l _ (hg n hq x (by simp)) fun n hn y hy=>hg n hn y (by simp[hy])
   ·exact h
def wD(q:Nat)(l:List Decl):Nat:=wgs (fun n x=>n+((x.clock.map onT).length+x.name.length / 100)) q l l.length
theorem wD_le{q:Nat}(hq:q≤1500){l:List Decl}(hl:l.length≤100000000)(hx:∀x∈l,(x.clock.map onT).length≤100000000/\x.name.length≤100000000):wD q l≤200000000:=
 wgs_le l _ (by omega) fun n hn x h=>by have:=hx x h;omega
theorem wD_sound(q:Nat)(hq1:1≤q)(hq:q≤1500)(l:List Decl)(hl:l.length≤100000000)(hx:∀x∈l,(x.clock.map onT).length≤100000000/\x.name.length≤100000000):Pure Tryz.prog 81 [.t (declsT l),.i q] (.i (wD q l:Nat)):=by
 have hml:(l.map declT).length=l.length:=List.length_map _
 unfold wD
 refine Sound.of tabOk Tryz.func81 (by kernel_rfl) rfl rfl ?_
 repeat' (first|refine wkt ?_|refine wk ?_|exact wkc|intro hc|refine wk2 ?_ ?_|fail)
 refine TR.fin (id:=0) (EF:=[(5,.i (wgs (fun n x=>n+((x.clock.map onT).length+x.name.length / 100)) q l l.length:Nat))]) (GF:=[]) (TR.loopN l.length (fun _=>True) (fun k=>[(0,.t (declsT l)),(1,.i q),(5,.i (wgs (fun n x=>n+((x.clock.map onT).length+x.name.length / 100)) q (l.take k) l.length:Nat)),(6,.i k)]) (fun _=>[]) trivial (fun k hlt _=>?_) (fun _=>?_) ⟨rfl,rfl,by rw[<-hml];rfl,rfl,trivial⟩) ?_
 ·have hat:=at_decl hlt
  have hxk:=hx _ (List.getElem_mem hlt)
  have hb:wgs (fun n (x:Decl)=>n+((x.clock.map onT).length+x.name.length / 100)) q (l.take k) l.length≤200000000:=wgs_le _ _ (by omega) fun n hn x h=>by have:=hx x (List.mem_of_mem_take h);omega
  by_cases hn:wgs (fun n (x:Decl)=>n+((x.clock.map onT).length+x.name.length / 100)) q (l.take k) l.length<q
  ·have hs:=wgs_take hlt hn
   generalize wgs (fun n (x:Decl)=>n+((x.clock.map onT).length+x.name.length / 100)) q (l.take k) l.length=n at*
   generalize l[k]=x at*
   rw[show n+((x.clock.map onT).length+x.name.length / 100)=n+(x.clock.map onT).length+x.name.length / 100 by omega]at hs
   unfold declC at hat
   repeat' (first|refine wkt ?_|(apply TO.quoN (b:=100);exact rfl;exact rfl;exact rfl;omega;omega)|exact trivial|exact And.intro rfl rfl|refine And.intro (fun H env=>?_) ?_|refine wk ?_|exact wkc|intro hc|refine wk2 ?_ ?_|fail)
   exact LoopK.nextN hlt trivial ⟨rfl,rfl,by(try dsimp only);rw[hs];rfl,rfl,trivial⟩
  ·have hs:=wgs_done hn
   generalize wgs (fun n (x:Decl)=>n+((x.clock.map onT).length+x.name.length / 100)) q (l.take k) l.length=n at*
   rw[hs]
   repeat' (first|refine wkt ?_|refine wk ?_|exact wkc|intro hc|refine wk2 ?_ ?_|fail)
   exact⟨rfl,⟨rfl,trivial⟩,rfl⟩
 ·rw[List.take_length]
  repeat' (first|refine wkt ?_|refine wk ?_|exact wkc|intro hc|refine wk2 ?_ ?_|fail)
  all_goals exact⟨rfl,⟨rfl,trivial⟩,rfl⟩
 ·repeat' (first|refine wkt ?_|refine wk ?_|exact wkc|intro hc|refine wk2 ?_ ?_|fail)
  exact wkr
def wE(q:Nat)(l:List Equ):Nat:=wgs (fun n x=>n+((x.left.map T.s).length+min (wEx x.right) q)) q l l.length
theorem wE_le{q:Nat}(hq:q≤1500){l:List Equ}(hl:l.length≤100000000)(hx:∀x∈l,(x.left.map T.s).length≤100000000):wE q l≤200000000:=
 wgs_le l _ (by omega) fun n hn x h=>by have:=hx x h;omega
theorem wE_sound(q:Nat)(hq1:1≤q)(hq:q≤1500)(l:List Equ)(hl:l.length≤100000000)(hx:∀x∈l,(x.left.map T.s).length≤100000000):Pure Tryz.prog 82 [.t (.sl 7 (l.map equT)),.i q] (.i (wE q l:Nat)):=by
 have hml:(l.map equT).length=l.length:=List.length_map _
 unfold wE
 refine Sound.of tabOk Tryz.func82 (by kernel_rfl) rfl rfl ?_
 repeat' (first|refine wkt ?_|refine wk ?_|exact wkc|intro hc|refine wk2 ?_ ?_|fail)
 refine TR.fin (id:=0) (EF:=[(5,.i (wgs (fun n x=>n+((x.left.map T.s).length+min (wEx x.right) q)) q l l.length:Nat))]) (GF:=[]) (TR.loopN l.length (fun _=>True) (fun k=>[(0,.t (.sl 7 (l.map equT))),(1,.i q),(5,.i (wgs (fun n x=>n+((x.left.map T.s).length+min (wEx x.right) q)) q (l.take k) l.length:Nat)),(6,.i k)]) (fun _=>[]) trivial (fun k hlt _=>?_) (fun _=>?_) ⟨rfl,rfl,by rw[<-hml];rfl,rfl,trivial⟩) ?_
 ·have hat:=at_equ hlt
  have hxk:=hx _ (List.getElem_mem hlt)
  have hb:wgs (fun n (x:Equ)=>n+((x.left.map T.s).length+min (wEx x.right) q)) q (l.take k) l.length≤200000000:=wgs_le _ _ (by omega) fun n hn x h=>by have:=hx x (List.mem_of_mem_take h);omega
  by_cases hn:wgs (fun n (x:Equ)=>n+((x.left.map T.s).length+min (wEx x.right) q)) q (l.take k) l.length<q
  ·have hs:=wgs_take hlt hn
   generalize wgs (fun n (x:Equ)=>n+((x.left.map T.s).length+min (wEx x.right) q)) q (l.take k) l.length=n at*
   generalize l[k]=x at*
   rw[show n+((x.left.map T.s).length+min (wEx x.right) q)=n+(x.left.map T.s).length+min (wEx x.right) q by omega]at hs
   have hw:=weigh_sound' _ x.right (Nat.le_refl _) q hq1 (by omega)
   have hmq:min (wEx x.right) q≤1500:=by omega
   generalize min (wEx x.right) q=wq at*
   unfold exC at hw
   unfold equC at hat
   repeat' (first|refine wkt ?_|refine rg [.i n,.t (.sl 7 (l.map equT)),.i k,.cp [.sl 1 (x.left.map T.s),T.n x.right.kind,T.n x.right.op,T.n x.right.t,T.n x.right.v,.s x.right.name,.sl 6 (x.right.args.map exT)] 0,.cp [.sl 1 (x.left.map T.s),T.n x.right.kind,T.n x.right.op,T.n x.right.t,T.n x.right.v,.s x.right.name,.sl 6 (x.right.args.map exT)] 0,.t (.sl 1 (x.left.map T.s)),.i (x.left.map T.s).length,.i (n+(x.left.map T.s).length:Nat),.t (.sl 7 (l.map equT)),.i k,.cp [.sl 1 (x.left.map T.s),T.n x.right.kind,T.n x.right.op,T.n x.right.t,T.n x.right.v,.s x.right.name,.sl 6 (x.right.args.map exT)] 0,.cp [.sl 1 (x.left.map T.s),T.n x.right.kind,T.n x.right.op,T.n x.right.t,T.n x.right.v,.s x.right.name,.sl 6 (x.right.args.map exT)] 1,.t (.ag [T.n x.right.kind,T.n x.right.op,T.n x.right.t,T.n x.right.v,.s x.right.name,.sl 6 (x.right.args.map exT)]),.i q,.i (wq:Nat),.i (n+(x.left.map T.s).length+wq:Nat),.i (n+(x.left.map T.s).length+wq:Nat)] ?_ ?_|refine wv hw ?_|exact trivial|exact And.intro rfl rfl|refine And.intro (fun H env=>?_) ?_|refine wk ?_|exact wkc|intro hc|refine wk2 ?_ ?_|fail)
   exact LoopK.nextN hlt trivial ⟨rfl,rfl,by(try dsimp only);rw[hs];rfl,rfl,trivial⟩
  ·have hs:=wgs_done hn
   generalize wgs (fun n (x:Equ)=>n+((x.left.map T.s).length+min (wEx x.right) q)) q (l.take k) l.length=n at*
   rw[hs]
   repeat' (first|refine wkt ?_|refine wk ?_|exact wkc|intro hc|refine wk2 ?_ ?_|fail)
   exact⟨rfl,⟨rfl,trivial⟩,rfl⟩
 ·rw[List.take_length]
  repeat' (first|refine wkt ?_|refine wk ?_|exact wkc|intro hc|refine wk2 ?_ ?_|fail)
  all_goals exact⟨rfl,⟨rfl,trivial⟩,rfl⟩
 ·repeat' (first|refine wkt ?_|refine wk ?_|exact wkc|intro hc|refine wk2 ?_ ?_|fail)
  exact wkr
def wX(q:Nat)(l:List Ex):Nat:=wgs (fun n x=>n+(min (wEx x) q)) q l l.length
theorem wX_le{q:Nat}(hq:q≤1500){l:List Ex}(hl:l.length≤100000000)(hx:∀x∈l,wEx x≤1000000000):wX q l≤200000000:=
 wgs_le l _ (by omega) fun n hn x h=>by have:=hx x h;omega
theorem wX_sound(q:Nat)(hq1:1≤q)(hq:q≤1500)(l:List Ex)(hl:l.length≤100000000)(hx:∀x∈l,wEx x≤1000000000):Pure Tryz.prog 83 [.t (.sl 6 (l.map exT)),.i q] (.i (wX q l:Nat)):=by
 have hml:(l.map exT).length=l.length:=List.length_map _
 unfold wX
 refine Sound.of tabOk Tryz.func83 (by kernel_rfl) rfl rfl ?_
 repeat' (first|refine wkt ?_|refine wk ?_|exact wkc|intro hc|refine wk2 ?_ ?_|fail)
 refine TR.fin (id:=0) (EF:=[(5,.i (wgs (fun n x=>n+(min (wEx x) q)) q l l.length:Nat))]) (GF:=[]) (TR.loopN l.length (fun _=>True) (fun k=>[(0,.t (.sl 6 (l.map exT))),(1,.i q),(5,.i (wgs (fun n x=>n+(min (wEx x) q)) q (l.take k) l.length:Nat)),(6,.i k)]) (fun _=>[]) trivial (fun k hlt _=>?_) (fun _=>?_) ⟨rfl,rfl,by rw[<-hml];rfl,rfl,trivial⟩) ?_
 ·have hat:=at_exT hlt
  have hxk:=hx _ (List.getElem_mem hlt)
  have hb:wgs (fun n (x:Ex)=>n+(min (wEx x) q)) q (l.take k) l.length≤200000000:=wgs_le _ _ (by omega) fun n hn x h=>by have:=hx x (List.mem_of_mem_take h);omega
  by_cases hn:wgs (fun n (x:Ex)=>n+(min (wEx x) q)) q (l.take k) l.length<q
  ·have hs:=wgs_take hlt hn
   generalize wgs (fun n (x:Ex)=>n+(min (wEx x) q)) q (l.take k) l.length=n at*
   generalize l[k]=x at*
   have hw:=weigh_sound' _ x (Nat.le_refl _) q hq1 (by omega)
   have hmq:min (wEx x) q≤1500:=by omega
   generalize min (wEx x) q=wq at*
   unfold exC at hw
   unfold exC at hat
   repeat' (first|refine wkt ?_|refine wv hw ?_|exact trivial|exact And.intro rfl rfl|refine And.intro (fun H env=>?_) ?_|refine wk ?_|exact wkc|intro hc|refine wk2 ?_ ?_|fail)
   exact LoopK.nextN hlt trivial ⟨rfl,rfl,by(try dsimp only);rw[hs];rfl,rfl,trivial⟩
  ·have hs:=wgs_done hn
   generalize wgs (fun n (x:Ex)=>n+(min (wEx x) q)) q (l.take k) l.length=n at*
   rw[hs]
   repeat' (first|refine wkt ?_|refine wk ?_|exact wkc|intro hc|refine wk2 ?_ ?_|fail)
   exact⟨rfl,⟨rfl,trivial⟩,rfl⟩
 ·rw[List.take_length]
  repeat' (first|refine wkt ?_|refine wk ?_|exact wkc|intro hc|refine wk2 ?_ ?_|fail)
  all_goals exact⟨rfl,⟨rfl,trivial⟩,rfl⟩
 ·repeat' (first|refine wkt ?_|refine wk ?_|exact wkc|intro hc|refine wk2 ?_ ?_|fail)
  exact wkr
def wT(q:Nat)(l:List Tran):Nat:=wgs (fun n x=>n+(min (wEx x.cond) q)) q l l.length
theorem wT_le{q:Nat}(hq:q≤1500){l:List Tran}(hl:l.length≤100000000)(hx:∀x∈l,wEx x.cond≤1000000000):wT q l≤200000000:=
 wgs_le l _ (by omega) fun n hn x h=>by have:=hx x h;omega
theorem wT_sound(q:Nat)(hq1:1≤q)(hq:q≤1500)(l:List Tran)(hl:l.length≤100000000)(hx:∀x∈l,wEx x.cond≤1000000000):Pure Tryz.prog 147 [.t (.sl 8 (l.map tranT)),.i q] (.i (wT q l:Nat)):=by
 have hml:(l.map tranT).length=l.length:=List.length_map _
 unfold wT
 refine Sound.of tabOk Tryz.func147 (by kernel_rfl) rfl rfl ?_
 repeat' (first|refine wkt ?_|refine wk ?_|exact wkc|intro hc|refine wk2 ?_ ?_|fail)
 refine TR.fin (id:=0) (EF:=[(5,.i (wgs (fun n x=>n+(min (wEx x.cond) q)) q l l.length:Nat))]) (GF:=[]) (TR.loopN l.length (fun _=>True) (fun k=>[(0,.t (.sl 8 (l.map tranT))),(1,.i q),(5,.i (wgs (fun n x=>n+(min (wEx x.cond) q)) q (l.take k) l.length:Nat)),(6,.i k)]) (fun _=>[]) trivial (fun k hlt _=>?_) (fun _=>?_) ⟨rfl,rfl,by rw[<-hml];rfl,rfl,trivial⟩) ?_
 ·have hat:=at_tran hlt
  have hxk:=hx _ (List.getElem_mem hlt)
  have hb:wgs (fun n (x:Tran)=>n+(min (wEx x.cond) q)) q (l.take k) l.length≤200000000:=wgs_le _ _ (by omega) fun n hn x h=>by have:=hx x (List.mem_of_mem_take h);omega
  by_cases hn:wgs (fun n (x:Tran)=>n+(min (wEx x.cond) q)) q (l.take k) l.length<q
  ·have hs:=wgs_take hlt hn
   generalize wgs (fun n (x:Tran)=>n+(min (wEx x.cond) q)) q (l.take k) l.length=n at*
   generalize l[k]=x at*
   have hw:=weigh_sound' _ x.cond (Nat.le_refl _) q hq1 (by omega)
   have hmq:min (wEx x.cond) q≤1500:=by omega
   generalize min (wEx x.cond) q=wq at*
   unfold exC at hw
   unfold tranC at hat
   repeat' (first|refine wkt ?_|refine wv hw ?_|exact trivial|exact And.intro rfl rfl|refine And.intro (fun H env=>?_) ?_|refine wk ?_|exact wkc|intro hc|refine wk2 ?_ ?_|fail)
   exact LoopK.nextN hlt trivial ⟨rfl,rfl,by(try dsimp only);rw[hs];rfl,rfl,trivial⟩
  ·have hs:=wgs_done hn
   generalize wgs (fun n (x:Tran)=>n+(min (wEx x.cond) q)) q (l.take k) l.length=n at*
   rw[hs]
   repeat' (first|refine wkt ?_|refine wk ?_|exact wkc|intro hc|refine wk2 ?_ ?_|fail)
   exact⟨rfl,⟨rfl,trivial⟩,rfl⟩
 ·rw[List.take_length]
  repeat' (first|refine wkt ?_|refine wk ?_|exact wkc|intro hc|refine wk2 ?_ ?_|fail)
  all_goals exact⟨rfl,⟨rfl,trivial⟩,rfl⟩
 ·repeat' (first|refine wkt ?_|refine wk ?_|exact wkc|intro hc|refine wk2 ?_ ?_|fail)
  exact wkr
end Go.Proofs.YtlocalghkiepmaaGreat
