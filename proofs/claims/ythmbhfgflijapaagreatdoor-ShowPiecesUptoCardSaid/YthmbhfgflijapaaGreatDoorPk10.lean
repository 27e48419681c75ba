import Derived.Test.YthmbhfgflijapaaGreatDoorPk9
set_option linter.all false
namespace Go.TL
open Go
theorem zjU(k:Nat):∀(ts:List T),unders k (ts.map .t)=true
 | []=>rfl
 | t::ts=>by simp[unders,SV.under,zjU k ts]
theorem zs9(r:Nat->Nat):∀(ts:List T),rens r (ts.map .t)=ts.map .t
 | []=>rfl
 | t::ts=>by simp[rens,SV.ren,zs9 r ts]
section rules
variable {P:Program}{n:Nat}{env:Env}{H:Heap}{K:TK}{all:Array Oper}{rest:List Oper}{tab:Tab}
variable {d:Nat}{ty:TypeId}{pos:String}{aft:Array Edge}
theorem zeB(H:Heap):Hands H [] []:=ze1 (N:=0) (qaJ _) rfl rfl
theorem TO.zph{cargs:List SV}{tl:List T}{sz off len:Nat}{f:Operand}{fid:FuncId}{caps:List SV}{args:Array Operand}{ts:Array TypeId}{vs:List SV}
  (hs:Sound P fid cargs [] fun r H'=>r= .ret (.ms sz 0 off len)/\H'=[.cells (tl.map .t)])(hd:Nat.ble (d+1) n=true)
  (hf:env.val f=some (.fn fid caps))(ha:env.vals args.toList=some vs)(hl:Les (vs++caps) cargs)(hu:unders 0 cargs=true)
  (k:TO false P n all rest ((d,.ms sz H.length off len)::env) (H++[.cells (tl.map .t)]) K):
  TO false P n all (⟨some d,.call { callee:=.value f,args:=args,argTypes:=ts },ty,pos,aft,none⟩::rest) env H K:=
 TO.zds [] hs hd hf ha (by rw[zbp (N:=0) (fun j hj=>by omega) _ hu];exact hl) hu (zeB H) (by simp[SV.ren,names]) (by
  simp only[patch,qah,qaC,Blk.ren,zs9]) k
theorem TO.zlE(hT:zaw P tab){t t' e:TypeId}{i i' ie:TyI}{sz:Nat}{x y:Operand}{vy:SV}(hd:Nat.ble (d+1) n=true)(ht:tab.get t=some i)(hk:i.k= .slice e)(ht':tab.get t'=some i')(hk':i'.k= .slice e)
  (he:tab.get e=some ie)(hs:ie.size=sz)(hpos:Nat.ble 1 sz=true)(hx:env.val x=some (.t (.v (.slice none 0 0))))(hy:env.val y=some vy)(hvy:vy.elems sz=some [])
  (k:TO false P n all rest ((d,.t (.v (.slice none 0 0)))::env) H K):TO false P n all (⟨some d,.call { callee:=.builtin .append,args:=#[x,y],argTypes:=#[t,t'] },ty,pos,aft,none⟩::rest) env H K:=
 TO.eff hd (fun m ac g1 g2 g3=>by
  have hp':=qag hpos
  have hy':=(g3.val hy).elems hvy
  obtain⟨ad,cap',hq⟩:=hy'.zcf
  rw[hq]at hy'
  obtain⟨g,f0,f1,f2,f3⟩:=zbZ (P:=P) hy' (by omega)
  have f0':=f0 m.w rfl
  simp only[qaz]at hq f0'
  refine⟨.slice none 0 0,m,?_,Step.refl m,g2,g1,.t _ _ (.v _)⟩
  simp[execOp,resolve,invoke,builtin,Builtin.append_,underlying,(hT t i ht).slice hk,(hT t' i' ht').slice hk',(hT e ie he).sizeOf,hs,Builtin.lenOf,hq,f0',(g3.val hx).v_eq]) k
theorem zhL{t e:TypeId}(h:P.underlying t=some (.slice e))(p:Option Addr)(len cap:Nat)(w:World):(Go.binOp .eql t (.slice p len cap) (.slice none 0 0)).run P w= .ok (.bool p.isNone) w:=by
 have h':∀d:Nat,(Op.equalIn (d+1) t (.slice p len cap) (.slice none 0 0)).run P w= .ok p.isNone w:=fun d=>by
  cases p <;> simp[Op.equalIn,run_underlying h]
 simp only[Go.binOp]
 simp[Op.equal,Op.maxDepth,h' 9999]
theorem TO.zpt(hT:zaw P tab){t t' e:TypeId}{i:TyI}{sz:Nat}{es:List T}{x:Operand}{v:SV}(hd:Nat.ble (d+1) n=true)(ht:tab.get t=some i)(hk:i.k= .slice e)(hx:env.val x=some v)(hv:v.elems sz=some es)
  (k1:es=[]->TO false P n all rest ((d,.t (.v (.bool true)))::env) H K)(k2:TO false P n all rest ((d,.t (.v (.bool false)))::env) H K):TO false P n all (⟨some d,.binOp .eql t x (.const (.slice none 0 0)) t',ty,pos,aft,none⟩::rest) env H K:=by
 intro φ m a h1 h2 h3 h4
 have h:=(h3.val hx).elems hv
 obtain⟨ad,cap,hq⟩:=h.zcf
 rw[hq]at h
 have hrun:(execOp a.eval ⟨some d,.binOp .eql t x (.const (.slice none 0 0)) t',ty,pos,aft,none⟩).run P m.w= .ok (.value (.bool ad.isNone)) m.w:=by
  simp[execOp,eval_const,hq,eqGuard,zhL ((hT t i ht).slice hk)]
 refine wpListIn_plain rfl fun K' hK=>?_
 unfold Oper.wpIn
 refine⟨fun _ _=>trivial,?_⟩
 rw[za6 hrun (by intro d e;cases e)]
 simp only[Oper.uponIn]
 refine hK _ _ (TO.zeM (Step.refl m) ?_)
 cases ad with
 | none=>
   have he:es=[]:=by
    generalize hl:es.length=q at h
    cases h with
    | nil=>rfl
   exact k1 he φ m _ h1 h2 (h3.put d (qag hd) (.t _ _ (.v _))) (by simpa [Act.put]using h4)
 | some b=>exact k2 φ m _ h1 h2 (h3.put d (qag hd) (.t _ _ (.v _))) (by simpa [Act.put]using h4)
theorem TO.zu0(hT:zaw P tab){t e:TypeId}{i ie:TyI}{sz:Nat}(hd:Nat.ble (d+1) n=true)(ht:tab.get t=some i)(hk:i.k= .slice e)(he:tab.get e=some ie)(hs:ie.size=sz)
  (k:TO false P n all rest ((d,.sl sz [] H.length)::env) (H++[.tail 0]) K):TO false P n all (⟨some d,.buildSlice t 0 #[],ty,pos,aft,none⟩::rest) env H K:=
 TO.eff hd (fun m ac h1 h2 h3=>by
  subst h1
  have hrun:(Instr.buildSlice t 0 #[]).run P m.w= .ok (.slice (some ⟨m.w.heap.size,0,none⟩) 0 0) (m.w.alloc (.cells #[] e)):=by
   simp[Instr.buildSlice,underlying,(hT t i ht).slice hk,(hT e ie he).sizeOf,newRow,Instr.fill]
   rw[show Array.range 0= #[] from by decide];simp
  obtain⟨s,hm'⟩:=grow h2 (A':=m.A) (βn:=[⟨m.w.heap.size,0,0⟩]) (Hn:=[.tail 0]) (w':=m.w.alloc (.cells #[] e)) rfl rfl rfl (by simp) (fun b hb=>RowKit.Below.heap_alloc _ _ _ hb) (fun _ _ h=>h) (fun _ _ h=>.inl h) rfl (by
   intro i p k h1 h2 h3
   cases i with
   | zero=>simp at h1;subst h1;left;simp
   | succ i=>simp at h1) (by
   intro i j p q hij h1 h2
   cases i <;> cases j <;> simp at h1 h2 hij) (fun _ _ h h'=>absurd h h') (by
   intro s i p k h1 h2
   cases i with
   | zero=>simp at h1 h2;subst h1;subst h2;exact fun o q1 q2=>by simp only at q1 q2;omega
   | succ i=>simp at h1)
  refine⟨_,_,by simp only[execOp,Array.map_empty,Sem.run_bind,hrun];rfl,s,hm',rfl,?_⟩
  refine .sl _ _ _ _ ⟨m.w.heap.size,0,0⟩ (.empty sz _) (by show(m.β++_)[m.H.length]?=_;rw[<-h2.len];simp) fun q hq=>?_
  have hk':tlOf (m.H++[Blk.tail 0])[m.H.length]?=some q:=hq
  simp[tlOf]at hk'
  subst hk'
  exact⟨qae _,fun _=>⟨some ⟨m.w.heap.size,0,none⟩,0,0,rfl,qae _,rfl,by simp,by simp,rfl⟩⟩) k
end rules
def mixC(cs:List T)(z:List T)(n:Nat):List SV:=cs.map .t++zaL z n
theorem zr0(cs z:List T)(n:Nat):(mixC cs z n).length=cs.length+n*z.length:=by simp[mixC,zan]
theorem zlA(z:List T)(n m:Nat)(h:m≤n):(zaL z n).drop (m*z.length)=zaL z (n-m):=by
 obtain⟨q,rfl⟩:∃q,n=m+q:=⟨n-m,by omega⟩
 have:zaL z (m+q)=zaL z m++zaL z q:=by
  unfold zaL
  rw[<-qaH,<-qbB,List.replicate_append_replicate]
 rw[this,qce (by rw[zan];exact qae _),qaY (by rw[zan];exact qae _),qa9]
 congr 1;omega
theorem zmh(cs ys z:List T)(n m off:Nat)(h:m≤n)(ho:off=cs.length)(hy:ys.length=m*z.length):splice (mixC cs z n) off (ys.map .t)=mixC (cs++ys) z (n-m):=by
 subst ho
 unfold splice mixC
 have h1:((cs.map SV.t++zaL z n).take cs.length)=cs.map SV.t:=by
  rw[qcf (by simp)]
  exact qaI (by simp)
 have h2:(cs.map SV.t++zaL z n).drop (cs.length+(ys.map SV.t).length)=zaL z (n-m):=by
  rw[qcA,qaY (by simp),qa9,qab,qab,hy,show cs.length+m*z.length-cs.length=m*z.length from by omega]
  exact zlA z n m h
 rw[h1,h2,qaH]
theorem zpU(cs z:List T):mixC cs z 0=cs.map .t:=by simp[mixC,zaL]
theorem zpz{sz:Nat}(es:List T)(h:∀e∈es,e.cells.length=sz):∀(k:Nat) (hk:k<es.length),(((es.map T.cells).flatten).drop (k*sz)).take sz=es[k].cells:=by
 induction es with
 | nil=>intro k hk;simp at hk
 | cons e es ih=>
   intro k hk
   have he:=h e qak
   rw[qah,qa3]
   cases k with
   | zero=>rw[qcp,qbe,qcf (by omega),qaI (by omega)];rfl
   | succ k=>
     rw[qcA,qaY (by rw[he,qbZ];omega),qa9,he,show(k+1)*sz-sz=k*sz from by rw[qbZ];omega]
     exact ih (fun x hx=>h x (qan _ hx)) k (by simpa using hk)
end Go.TL
namespace Go.TL
open Go
section rules
variable {P:Program}{n:Nat}{env:Env}{H:Heap}{K:TK}{all:Array Oper}{rest:List Oper}{tab:Tab}{q:Bool}
variable {d:Nat}{ty:TypeId}{pos:String}{aft:Array Edge}
theorem TO.zpj(hT:zaw P tab){t e:TypeId}{i:TyI}{x:Operand}(hd:Nat.ble (d+1) n=true)(ht:tab.get t=some i)(hk:i.k= .slice e)(hx:env.val x=some (.t (.v (.slice none 0 0))))
  (k:TO q P n all rest ((d,.t (.v (.int .i64 0)))::env) H K):TO q P n all (⟨some d,.call { callee:=.builtin .cap,args:=#[x],argTypes:=#[t] },ty,pos,aft,none⟩::rest) env H K:=
 TO.op hd (fun m ac h1 h2 h3=>⟨.int .i64 0,fun w' hw'=>by
  simp[execOp,resolve,invoke,builtin,Builtin.cap_,underlying,(hT t i ht).slice hk,(h3.val hx).v_eq,goInt],.t _ _ (.v _)⟩) k
theorem TO.zqI(hT:zaw P tab){t e:TypeId}{i ie:TyI}{x z:Operand}{ik:IntKind}(hd:Nat.ble (d+1) n=true)(ht:tab.get t=some i)(hk:i.k= .slice e)(he:tab.get e=some ie)
  (hx:env.val x=some (.t (.v (.slice none 0 0))))(hz:env.val z=some (.t (.v (.int ik 0))))
  (k:TO q P n all rest ((d,.t (.v (.slice none 0 0)))::env) H K):TO q P n all (⟨some d,.slice t x none (some z) none,ty,pos,aft,none⟩::rest) env H K:=
 TO.op hd (fun m ac g1 g2 g3=>by
  refine⟨.slice none 0 0,fun w' hw'=>?_,.t _ _ (.v _)⟩
  have:=zdj (P:=P) hT ht hk he none 0 0 none (some (ac.eval z)) 0 0 w' (.inl ⟨rfl,rfl⟩) (.inr ⟨ik,by rw[(g3.val hz).v_eq];rfl⟩) (qae _) (qae _)
  simp only[Nat.sub_zero,Option.map_none,ite_self]at this
  simp[execOp,(g3.val hx).v_eq,this]) k
theorem TO.zqH(hT:zaw P tab){t e:TypeId}{i ie:TyI}{x z:Operand}{sz id off len:Nat}{ik:IntKind}(hd:Nat.ble (d+1) n=true)(ht:tab.get t=some i)(hk:i.k= .slice e)(he:tab.get e=some ie)
  (hx:env.val x=some (.ms sz id off len))(hz:env.val z=some (.t (.v (.int ik 0))))
  (k:TO q P n all rest ((d,.ms sz id off 0)::env) H K):TO q P n all (⟨some d,.slice t x none (some z) none,ty,pos,aft,none⟩::rest) env H K:=
 TO.znA hT hd ht hk he hx (b:=0) hz (qaJ _) k
end rules
end Go.TL
namespace Go.TL
open Go
theorem zjT(k:Nat)(ts:List T):zaa k [.cells (ts.map .t)]=true:=by
 simp[zaa,Blk.under,zjU]
end Go.TL
namespace Go.Proofs.YthmbhfgflijapaaGreatDoor
open Go Go.TL
attribute [local irreducible] TR TO Then zag RetK Sound zab Kf GG zaK
abbrev zD:List T:=[.v (str []),.v (.int .i64 0),.v (.slice none 0 0)]
theorem zoa(c:Nat)(h1:1≤c)(h2:c≤3000000000):Sound Tryz.prog 136 [.t (.v (.slice none 0 0)),.i c] [] (fun r H'=>r= .ret (.ms 3 0 0 0)/\H'=[.cells (zaL zD c)]):=by
 refine so Tryz.func136 ?_
 repeat' (first|refine wk ?_|exact wkc|intro hc|refine wk2 ?_ ?_|(apply TO.zpj zaf;(iterate 4 exact rfl))|(apply TO.zqI zaf;(iterate 6 exact rfl))|(apply TO.zj2 zaf (c:=c) (ik':=.i64);(iterate 6 exact rfl);kernel_rfl;exact rfl;exact rfl;omega;omega;exact rfl)|(apply TO.zqH zaf;(iterate 6 exact rfl))|fail)
 exact zwek
theorem zl5:Pure Tryz.prog 136 [.t (.v (.slice none 0 0)),.i 0] (.t (.v (.slice none 0 0))):=by
 refine so Tryz.func136 ?_
 repeat' (first|refine wk ?_|exact wkc|intro hc|refine wk2 ?_ ?_|(apply TO.zpj zaf;(iterate 4 exact rfl))|fail)
 exact wkr
abbrev dls (l:List Decl):T:=.sl 3 (l.map zav)
def za9(l:List Decl):List T:=((l.map zav).map T.cells).flatten
theorem zdA(l:List Decl):(za9 l).length=l.length*3:=by
 have:=(zcr (sz:=3) (l.map zav) (fun e he=>by obtain⟨d,_,rfl⟩:=qaP.1 he;rfl)).1
 rw[qab]at this
 exact this
theorem zje(a b:List Decl):za9 (a++b)=za9 a++za9 b:=by simp[za9]
theorem zpk{α:Type}{ls:List (List α)}{k:Nat}(h:k<ls.length):(ls.take (k+1)).flatten.length=(ls.take k).flatten.length+ls[k].length/\(ls.take (k+1)).flatten.length≤ls.flatten.length:=by
 constructor
 ·rw[qax h,qbB,qad];simp
 ·conv=>rhs;rw[<-qaV (k+1) ls]
  rw[qbB,qad];omega
theorem zu5{α:Type}{ls:List (List α)}{k:Nat}(h:k<ls.length):(ls.take (k+1)).flatten=(ls.take k).flatten++ls[k]:=by
 rw[qax h,qbB];simp
theorem zmT{ls:List (List Decl)}{k:Nat}(h:k<ls.length):(ls.map dls)[k]?=some (dls ls[k]):=by simp[h]
theorem zgn(ls:List (List Decl))(hl:ls.length≤1000000)(hn:ls.flatten.length≤3000000000)(h1:1≤ls.flatten.length):
  Sound Tryz.prog 100 [.t (.sl 1 (ls.map dls))] [] (fun r H'=>r= .ret (.ms 3 0 0 ls.flatten.length)/\H'=[.cells ((za9 ls.flatten).map .t)]):=by
 have hml:(ls.map dls).length=ls.length:=qab _
 refine so Tryz.func100 ?_
 repeat' (first|refine wk ?_|exact wkc|intro hc|refine wk2 ?_ ?_|fail)
 refine TR.zaA ls.length (fun _=>True) (fun k=>[(0,.t (.sl 1 (ls.map dls))),(3,.i ((ls.take k).flatten.length:Nat)),(9,.t (.sl 1 (ls.map dls))),(10,.i ls.length),(11,.i k)]) (fun _=>[]) trivial (fun k hlt _=>?_) (fun _=>?_) ⟨rfl,rfl,rfl,by rw[<-hml];rfl,rfl,trivial⟩
 ·obtain⟨f1,f2⟩:=zpk hlt
  have hx:=zmT hlt
  have hm2:(ls[k].map zav).length=ls[k].length:=qab _
  generalize ls[k]=a at hx f1 hm2
  repeat' (first|refine wk ?_|exact wkc|intro hc|refine wk2 ?_ ?_|fail)
  exact zab.zaI hlt trivial ⟨rfl,by rw[f1];simp only[qab];rfl,rfl,rfl,rfl,trivial⟩
 ·rw[qap]
  repeat' (first|refine wk ?_|exact wkc|intro hc|refine wk2 ?_ ?_|(apply TO.zph (tl:=(List.replicate ls.flatten.length zD).flatten) (zoa ls.flatten.length h1 hn);(iterate 3 exact rfl);exact Les.refl _;exact rfl)|fail)
  refine TR.zaA ls.length (fun _=>True) (fun k=>[(6,.ms 3 0 0 (ls.take k).flatten.length),(25,.t (.sl 1 (ls.map dls))),(26,.i ls.length),(27,.i k)]) (fun k=>[.cells (mixC (za9 (ls.take k).flatten) zD (ls.flatten.length-(ls.take k).flatten.length))]) trivial (fun k hlt _=>?_) (fun _=>?_) ⟨rfl,rfl,by rw[<-hml];rfl,rfl,trivial⟩
  ·obtain⟨f1,f2⟩:=zpk hlt
   have f3:=zu5 hlt
   have hx:=zmT hlt
   have hm2:(ls[k].map zav).length=ls[k].length:=qab _
   have hfit:0+((ls.take k).flatten.length+(ls[k].map zav).length)*3≤(mixC (za9 (ls.take k).flatten) zD (ls.flatten.length-(ls.take k).flatten.length)).length:=by
    rw[zr0,zdA,hm2]
    show _≤_+_*3
    omega
   have hsp:[Blk.cells (mixC (za9 (ls.take k).flatten) zD (ls.flatten.length-(ls.take k).flatten.length))].set 0 (.cells (splice (mixC (za9 (ls.take k).flatten) zD (ls.flatten.length-(ls.take k).flatten.length)) (0+(ls.take k).flatten.length*3) ((((ls[k].map zav).map T.cells).flatten).map .t)))=
     [Blk.cells (mixC (za9 (ls.take (k+1)).flatten) zD (ls.flatten.length-(ls.take (k+1)).flatten.length))]:=by
    have e:=zmh (za9 (ls.take k).flatten) (za9 ls[k]) zD (ls.flatten.length-(ls.take k).flatten.length) ls[k].length (0+(ls.take k).flatten.length*3) (by omega) (by rw[zdA];omega) (zdA _)
    refine congrArg (fun c=>[Blk.cells c]) (e.trans ?_)
    rw[f3,zje,qad]
    congr 1
    omega
   generalize hb1:(ls.take (k+1)).flatten=b1 at*
   generalize (ls.take k).flatten=b0 at*
   generalize ls[k]=a at*
   repeat' (first|refine wk ?_|exact wkc|intro hc|refine wk2 ?_ ?_|(apply TO.zo0 zaf;(iterate 12 exact rfl);exact hfit;exact hsp)|fail)
   exact zab.zaI hlt trivial ⟨by rw[hb1,f1,<-hm2];rfl,rfl,rfl,rfl,trivial⟩ (by rw[hb1])
  ·rw[qap,qcd,zpU]
   repeat' (first|refine wk ?_|exact wkc|intro hc|refine wk2 ?_ ?_|fail)
   exact zwek
def flat:Ex->List Ex
 | .mk k o t v n l=>.mk k o t v n l::(l.attach.map fun x=>flat x.1).flatten
decreasing_by
 have:=qbp x.2
 simp;omega
def flats(l:List Ex):List Ex:=(l.map flat).flatten
theorem zbJ(e:Ex):flat e=e::flats e.args:=by
 cases e
 rw[flat];simp[flats,Ex.args]
inductive Out where
 | go
 | jump (c:Code) (H:Heap)
 | panic (v:SV) (H:Heap)
def zbh(f:List Ex->Ex->Out):List Ex->List Ex->Out
 | _,[]=>.go
 | pre,x::l=>match f pre x with
   | .go=>zbh f (pre++[x]) l
   | o=>o
theorem zdi(f:List Ex->Ex->Out):∀(a b pre:List Ex),zbh f pre (a++b)=match zbh f pre a with
  | .go=>zbh f (pre++a) b
  | o=>o
 | [],b,pre=>by simp[zbh]
 | x::a,b,pre=>by
   simp only[qbk,zbh]
   cases f pre x with
   | go=>simp only[];rw[zdi f a b (pre++[x])];simp
   | jump c H=>rfl
   | panic v H=>rfl
structure zi6 where
 L0:Nat
 Hb:List Ex->Heap
 lp:LoopState->Option Code->Blk
 f:List Ex->Ex->Out
def zi6.ok(S:zi6):Prop:=
 (∀pre,(S.Hb pre).length=S.L0/\zaa (S.L0+1) (S.Hb pre)=true)/\(∀st pe,(S.lp st pe).under (S.L0+1)=true)/\
 ∀pre x,match S.f pre x with
  | .go=>True
  | .jump c H=>H.length=S.L0/\zaa (S.L0+1) H=true
  | .panic v H=>v.under (S.L0+1)=true/\H.length=S.L0/\zaa (S.L0+1) H=true
def zdw(S:zi6)(pre xs:List Ex)(r:Res)(H:Heap):Prop:=
 match zbh S.f pre xs with
 | .go=>r= .ret (.b true)/\H=S.Hb (pre++xs)++[S.lp .ready none]
 | .jump c H0=>r= .ret (.b false)/\H=H0++[S.lp .done (some c)]
 | .panic v H0=>r= .panic v/\H=H0++[S.lp .busy none]
theorem zej(a b:List Ex):flats (a++b)=flats a++flats b:=by simp[flats]
theorem zht(l:List Ex){j:Nat}(h:j<l.length):flats l=flats (l.take j)++(flat l[j]++flats (l.drop (j+1))):=by
 have:l=l.take j++([l[j]]++l.drop (j+1)):=by
  rw[qbX,<-qaT h,qaV]
 conv=>lhs;rw[this]
 rw[zej,zej]
 simp[flats]
theorem ziK(l:List Ex){j:Nat}(h:j<l.length):flats (l.take (j+1))=flats (l.take j)++flat l[j]:=by
 rw[qax h,zej];simp[flats]
theorem zrM(e:Ex):0<(flat e).length:=by rw[zbJ];simp
theorem zkw:∀l:List Ex,l.length≤(flats l).length
 | []=>qaJ _
 | x::l=>by
   have h1:=zkw l
   have:=zrM x
   simp only[flats,qah,qa3,qad,qal]at h1⊢
   omega
theorem zjl(e:Ex):(flat e).length=wEx e:=by
 generalize hn:wEx e=n
 induction n using Nat.strongRecOn generalizing e with
 | ind n ih=>
   have h:∀l:List Ex,(∀x∈l,wEx x<n)->(flats l).length=(l.map wEx).sum:=by
    intro l
    induction l with
    | nil=>intro _;rfl
    | cons x l ihl=>
      intro hx
      have h1:=ihl fun y hy=>hx y (qan _ hy)
      have h2:=ih (wEx x) (hx x qak) x rfl
      simp only[flats,qah,qa3,qad,qay]at h1⊢
      omega
   rw[zbJ,qal,h e.args (fun x hx=>by have:=zcg hx;omega)]
   rw[zfN]at hn
   omega
theorem zas{k:Nat}:∀ {a b:Heap},zaa k a=true->zaa k b=true->zaa k (a++b)=true
 | [],b,_,h=>h
 | x::a,b,h1,h2=>by
   simp only[zaa,qau]at h1
   simp[zaa,h1.1,zas h1.2 h2]
theorem zdD{S:zi6}(h:S.ok):∀(xs pre:List Ex),match zbh S.f pre xs with
  | .go=>True
  | .jump c H=>H.length=S.L0/\zaa (S.L0+1) H=true
  | .panic v H=>v.under (S.L0+1)=true/\H.length=S.L0/\zaa (S.L0+1) H=true
 | [],pre=>by simp[zbh]
 | x::xs,pre=>by
   have h2:=h.2.2 pre x
   simp only[zbh]
   cases hq:S.f pre x with
   | go=>exact zdD h xs (pre++[x])
   | jump c H=>rw[hq]at h2;exact h2
   | panic v H=>rw[hq]at h2;exact h2
theorem zgp{S:zi6}(h:S.ok)(pre xs:List Ex):Within (S.L0+1) (zdw S pre xs):=by
 have ho:=zdD h xs pre
 have one:∀st pe,zaa (S.L0+1) [S.lp st pe]=true:=fun st pe=>by simp[zaa,h.2.1]
 constructor
 ·intro v H' hr
  unfold zdw at hr
  split at hr
  ·obtain⟨h1,rfl⟩:=hr
   cases h1
   exact⟨rfl,by simp[(h.1 _).1],zas (h.1 _).2 (one _ _)⟩
  ·rename_i c H0 hq
   rw[hq]at ho
   obtain⟨h1,rfl⟩:=hr
   cases h1
   exact⟨rfl,by simp[ho.1],zas ho.2 (one _ _)⟩
  ·obtain⟨h1,_⟩:=hr;cases h1
 ·intro v H' hr
  unfold zdw at hr
  split at hr
  ·obtain⟨h1,_⟩:=hr;cases h1
  ·obtain⟨h1,_⟩:=hr;cases h1
  ·rename_i u H0 hq
   rw[hq]at ho
   obtain⟨h1,rfl⟩:=hr
   cases h1
   exact⟨ho.1,by simp[ho.2.1],zas ho.2.2 (one _ _)⟩
set_option maxHeartbeats 1000000 in
theorem zn4 (S:zi6) (hS:S.ok) (whole:List Ex) (hW:whole.length≤1000000000) (hY:∀pre x post,whole=pre++x::post->zg3 Tryz.prog S.L0 (.t (exT x)) (S.Hb pre++[S.lp .ready none]) (zdw S pre [x])):
  ∀(m:Nat) (e:Ex),wEx e≤m->∀(pre post:List Ex),whole=pre++(flat e++post)->Sound Tryz.prog 77 [.t (exT e),.yl S.L0] (S.Hb pre++[S.lp .ready none]) (zdw S pre (flat e)):=by
 intro m
 induction m with
 | zero=>intro e he;have:=zb7 e;omega
 | succ m ih0=>
   intro e he pre post hw
   have ih:∀x∈e.args,∀(pre post:List Ex),whole=pre++(flat x++post)->Sound Tryz.prog 77 [.t (exT x),.yl S.L0] (S.Hb pre++[S.lp .ready none]) (zdw S pre (flat x)):=
    fun x hx=>ih0 x (by have:=zcg hx;omega)
   clear ih0
   have hN:(S.Hb pre++[S.lp .ready none]).length=S.L0+1:=by simp[(hS.1 _).1]
   have hbu:∀pre,zaa (S.L0+1) (S.Hb pre++[S.lp .ready none])=true:=fun pre=>zas (hS.1 _).2 (by simp[zaa,hS.2.1])
   have hy:=hY pre e (flats e.args++post) (by rw[hw,zbJ];simp)
   have hflat:=zbJ e
   rw[zae]at hy⊢
   have hll:e.args.length≤1000000000:=by
    have h1:=zkw e.args
    have h2:=congrArg List.length hw
    simp[hflat]at h2
    omega
   generalize hl:e.args=l at ih hflat hll
   have hC:exC e=[T.n e.kind,T.n e.op,T.n e.t,T.n e.v,.s e.name,.sl 6 (l.map exT)]:=by rw[<-hl];rfl
   rw[hC]at hy⊢
   have hml:(l.map exT).length=l.length:=qab _
   generalize hG:S.Hb pre++[S.lp .ready none]=G at hy hN⊢
   have hGu:zaa (S.L0+1) G=true:=by rw[<-hG];exact hbu pre
   refine so Tryz.func77 ?_
   repeat' (first|refine wu ?_|exact wkc|intro hc|refine wk2 ?_ ?_|fail)
   have hGt:G.take (S.L0+1)=G:=qaI (by omega)
   have hGd:G.drop (S.L0+1)=[]:=qaY (by omega)
   refine TO.zv3 (S.L0+1) (arg:=.t (.ag [T.n e.kind,T.n e.op,T.n e.t,T.n e.v,.s e.name,.sl 6 (l.map exT)])) hy (zgp hS pre [_]) rfl rfl rfl rfl (qbD _) (by omega) hGt hGu ?_ ?_
   ·intro u H' hr
    simp only[zdw,zbh]at hr
    rw[hGd,qaG]
    cases hf:S.f pre e with
    | panic v0 H0=>rw[hf]at hr;cases hr.1
    | jump c H0=>
      rw[hf]at hr
      obtain⟨h1,rfl⟩:=hr
      cases h1
      have ho:=hS.2.2 pre e
      rw[hf]at ho
      repeat' (first|refine wu ?_|exact wkc|intro hc|refine wk2 ?_ ?_|fail)
      refine RetK.at (v:=.b false) (S.L0+1) rfl (Le.of_eq rfl) (by omega) (by simp[ho.1]) rfl (zas ho.2 (by simp[zaa,hS.2.1])) ?_
      simp[zdw,hflat,zbh,hf]
    | go=>
      rw[hf]at hr
      obtain⟨h1,rfl⟩:=hr
      cases h1
      repeat' (first|refine wu ?_|exact wkc|intro hc|refine wk2 ?_ ?_|fail)
      refine TR.zaA l.length (fun j=>zbh S.f (pre++[e]) (flats (l.take j))= .go) (fun j=>[(14,.i j),(13,.i l.length),(12,.t (.sl 6 (l.map exT))),(1,.yl S.L0),(4,.b false)])
       (fun j=>S.Hb (pre++[e]++flats (l.take j))++[S.lp .ready none]) (by simp[flats,zbh]) (fun j hlt hsc=>?_) (fun hsc=>?_) ⟨rfl,by rw[<-hml];rfl,rfl,rfl,rfl,trivial⟩ (by simp[flats])
      ·have hGj:(S.Hb (pre++[e]++flats (l.take j))++[S.lp .ready none]).length=S.L0+1:=by simp[(hS.1 _).1]
       have hGjd:(S.Hb (pre++[e]++flats (l.take j))++[S.lp .ready none]).drop (S.L0+1)=[]:=qaY (by omega)
       have hx:=zd3 hlt
       have hw':whole=(pre++[e]++flats (l.take j))++(flat l[j]++(flats (l.drop (j+1))++post)):=by
        rw[hw,hflat,zht l hlt];simp
       have hs:=ih l[j] (qaf hlt) _ _ hw'
       rw[zae]at hs
       repeat' (first|refine wu ?_|exact wkc|intro hc|refine wk2 ?_ ?_|fail)
       refine TO.ztG (S.L0+1) hs (zgp hS _ _) rfl rfl rfl ⟨Le.of_eq rfl,Le.refl _,trivial⟩ (by simp[unders,SV.under,qbq]) (by omega) (qaI (by omega)) (hbu _) ?_ ?_
       ·intro u H2 hr2
        have hout:=zdD hS (flat l[j]) (pre++[e]++flats (l.take j))
        simp only[zdw]at hr2
        rw[hGjd,qaG]
        cases ho:zbh S.f (pre++[e]++flats (l.take j)) (flat l[j]) with
        | panic v0 H0=>rw[ho]at hr2;cases hr2.1
        | jump c H0=>
          rw[ho]at hr2 hout
          obtain⟨h1,rfl⟩:=hr2
          cases h1
          repeat' (first|refine wu ?_|exact wkc|intro hc|refine wk2 ?_ ?_|fail)
          refine RetK.at (v:=.b false) (S.L0+1) rfl (Le.of_eq rfl) (by omega) (by simp[hout.1]) rfl (zas hout.2 (by simp[zaa,hS.2.1])) ?_
          have:zbh S.f pre (flat e)= .jump c H0:=by
           exact zwdl
          simp[zdw,this]
        | go=>
          rw[ho]at hr2
          obtain⟨h1,rfl⟩:=hr2
          cases h1
          repeat' (first|refine wu ?_|exact wkc|intro hc|refine wk2 ?_ ?_|fail)
          refine zab.zaI hlt ?_ ⟨rfl,rfl,rfl,rfl,rfl,trivial⟩ (by rw[ziK l hlt];simp)
          rw[ziK l hlt,zdi,hsc]
          exact ho
       ·intro u H2 hr2
        have hout:=zdD hS (flat l[j]) (pre++[e]++flats (l.take j))
        simp only[zdw]at hr2
        rw[hGjd,qaG]
        cases ho:zbh S.f (pre++[e]++flats (l.take j)) (flat l[j]) with
        | panic v0 H0=>
          rw[ho]at hr2 hout
          obtain⟨h1,rfl⟩:=hr2
          cases h1
          repeat' (first|refine wu ?_|exact wkc|intro hc|refine wk2 ?_ ?_|fail)
          refine zab.panic ?_
          repeat' (first|refine wu ?_|exact wkc|intro hc|refine wk2 ?_ ?_|fail)
          refine RetK.atP (S.L0+1) ?_ ?_ hout.1 ?_ ?_
          ·omega
          ·simp[hout.2.1]
          ·exact zas hout.2.2 (by simp[zaa,hS.2.1])
          have:zbh S.f pre (flat e)= .panic u H0:=by
           exact zwdl
          simp[zdw,this]
        | jump c H0=>rw[ho]at hr2;cases hr2.1
        | go=>rw[ho]at hr2;cases hr2.1
      ·have hGj:(S.Hb (pre++[e]++flats (l.take l.length))++[S.lp .ready none]).length=S.L0+1:=by simp[(hS.1 _).1]
       repeat' (first|refine wu ?_|exact wkc|intro hc|refine wk2 ?_ ?_|fail)
       refine RetK.at (v:=.b true) (S.L0+1) rfl (Le.of_eq rfl) (by omega) hGj rfl (hbu _) ?_
       have:zbh S.f pre (flat e)= .go:=by
        rw[hflat,zbh,hf]
        simp only[]
        rw[qap]at hsc
        exact hsc
       simp only[zdw,this]
       exact⟨trivial,by rw[hflat];simp⟩
   ·intro u H' hr
    simp only[zdw,zbh]at hr
    rw[hGd,qaG]
    cases hf:S.f pre e with
    | panic v0 H0=>
      have ho:=hS.2.2 pre e
      rw[hf]at hr ho
      obtain⟨h1,rfl⟩:=hr
      cases h1
      repeat' (first|refine wu ?_|exact wkc|intro hc|refine wk2 ?_ ?_|fail)
      refine RetK.atP (S.L0+1) ?_ ?_ ho.1 ?_ ?_
      ·omega
      ·simp[ho.2.1]
      ·exact zas ho.2.2 (by simp[zaa,hS.2.1])
      simp[zdw,hflat,zbh,hf]
    | jump c H0=>rw[hf]at hr;cases hr.1
    | go=>rw[hf]at hr;cases hr.1
def lpB(fn n:Nat)(env:Env)(ps:Array Tmp)(assign body:Code)(st:LoopState)(pe:Option Code):Blk:=.loop fn st pe n env ps assign body
theorem zdx(e:Ex):Pure Tryz.prog 39 [.t (exT e)] (.fn 76 [.cp (exC e) 0]):=by
 rw[zae]
 refine so Tryz.func39 ?_
 repeat' (first|refine wu ?_|exact wkc|intro hc|refine wk2 ?_ ?_|fail)
 exact wkr
def zjX(S:zi6)(xs:List Ex)(r:Res)(H:Heap):Prop:=
 match zbh S.f [] xs with
 | .go=>r= .ret (.tup [])/\H=S.Hb xs++[S.lp .ready none]
 | .jump c H0=>r= .ret (.tup [])/\H=H0++[S.lp .done (some c)]
 | .panic v H0=>r= .panic v/\H=H0++[S.lp .busy none]
theorem zlX(S:zi6)(hS:S.ok)(e:Ex)(hW:wEx e≤1000000000)(hY:∀pre x post,flat e=pre++x::post->zg3 Tryz.prog S.L0 (.t (exT x)) (S.Hb pre++[S.lp .ready none]) (zdw S pre [x])):
  Sound Tryz.prog 76 [.yl S.L0,.cp (exC e) 0] (S.Hb []++[S.lp .ready none]) (zjX S (flat e)):=by
 have hs:=zn4 S hS (flat e) (by rw[zjl];exact hW) hY (wEx e) e (qae _) [] [] (by simp)
 rw[zae]at hs
 have hout:=zdD hS (flat e) []
 have hHb:=hS.1
 have hlp:=hS.2.1
 unfold exC at*
 refine so Tryz.func76 ?_
 repeat' (first|refine wu ?_|exact wkc|intro hc|refine wk2 ?_ ?_|fail)
 refine TO.zeX hs rfl rfl rfl ⟨Le.refl _,Le.refl _,trivial⟩ ?_ ?_
 ·intro u H2 hr
  simp only[zdw]at hr
  cases ho:zbh S.f [] (flat e) with
  | panic v0 H0=>rw[ho]at hr;cases hr.1
  | jump c H0=>
    rw[ho]at hr hout
    obtain⟨h1,rfl⟩:=hr
    cases h1
    repeat' (first|refine wu ?_|exact wkc|intro hc|refine wk2 ?_ ?_|fail)
    refine RetK.atN (v:=.tup []) (S.L0+1) rfl (Le.of_eq rfl) (by simp[(hHb _).1]) (by simp[hout.1]) rfl (zas hout.2 (by simp[zaa,hlp])) ?_
    simp only[zjX,ho]
    (first|exact⟨trivial,rfl⟩|exact⟨trivial,trivial⟩)
  | go=>
    rw[ho]at hr
    obtain⟨h1,rfl⟩:=hr
    cases h1
    repeat' (first|refine wu ?_|exact wkc|intro hc|refine wk2 ?_ ?_|fail)
    refine RetK.atN (v:=.tup []) (S.L0+1) rfl (Le.of_eq rfl) (by simp[(hHb _).1]) (by simp[(hHb _).1]) rfl (zas (hHb _).2 (by simp[zaa,hlp])) ?_
    simp only[zjX,ho]
    (first|exact⟨trivial,rfl⟩|exact⟨trivial,trivial⟩)
 ·intro u H2 hr
  simp only[zdw]at hr
  cases ho:zbh S.f [] (flat e) with
  | panic v0 H0=>
    rw[ho]at hr hout
    obtain⟨h1,rfl⟩:=hr
    cases h1
    repeat' (first|refine wu ?_|exact wkc|intro hc|refine wk2 ?_ ?_|fail)
    refine RetK.atP (S.L0+1) ?_ ?_ hout.1 ?_ ?_
    ·simp[(hHb _).1]
    ·simp[hout.2.1]
    ·exact zas hout.2.2 (by simp[zaa,hlp])
    simp only[zjX,ho]
    (first|exact⟨trivial,rfl⟩|exact⟨trivial,trivial⟩)
  | jump c H0=>rw[ho]at hr;cases hr.1
  | go=>rw[ho]at hr;cases hr.1
def zuP(L0:Nat)(lb:Blk)(Hb:List Ex->Heap)(f:List Ex->Ex->Out)(pre:List Ex)(x:Ex):TK
 | .normal,_,H=>f pre x= .go/\H.take L0=Hb (pre++[x])/\H[L0]?=some lb
 | .ret,_,H=>∃H0,f pre x= .jump .ret H0/\H.take L0=H0/\H[L0]?=some lb
 | .exit i,_,H=>∃H0,f pre x= .jump (.exit i) H0/\H.take L0=H0/\H[L0]?=some lb
 | .panic v,_,H=>∃H0,f pre x= .panic v H0/\H.take L0=H0/\H[L0]?=some lb
def AsgK(P:Program)(n L0:Nat)(lr lb:Blk)(body:Code)(Hb:List Ex->Heap)(f:List Ex->Ex->Out)(pre:List Ex)(x:Ex):TK
 | .normal,env,H=>H[L0]?=some lr/\TR P n body env (H.set L0 lb) (zuP L0 lb Hb f pre x)
 | _,_,_=>False
theorem zdZ{α:Type}{H:List α}{L:Nat}{a b:α}(h:H[L]?=some a):(H.set L b).take (L+1)=H.take L++[b]:=by
 have hl:=(qaa.1 h).1
 rw[qax (by simpa using hl),List.take_set,List.set_eq_of_length_le (by simp;omega)]
 simp
theorem TR.zep{n:Nat}{g:Operand}{p:Tmp}{assign body:Code}{env:Env}{H:Heap}{K:TK}(e:Ex)(Hb:List Ex->Heap)(f:List Ex->Ex->Out)(hg:env.val g=some (.fn 76 [.cp (exC e) 0]))(hW:wEx e≤1000000000)
  (h0:Hb []=H)(hp:Nat.ble (p+1) n=true)(henv:(env.all fun x=>x.2.under (H.length+1))=true)(hHb:∀pre,(Hb pre).length=H.length/\zaa (H.length+1) (Hb pre)=true)
  (hf:∀pre x,match f pre x with
    | .go=>True
    | .jump c H1=>H1.length=H.length/\zaa (H.length+1) H1=true
    | .panic v H1=>v.under (H.length+1)=true/\H1.length=H.length/\zaa (H.length+1) H1=true)
  (round:∀fn pre x post,flat e=pre++x::post->TR Tryz.prog n assign ((p,.t (.ag (exC x)))::env) (Hb pre++[lpB fn n env #[p] assign body .ready none]) (AsgK Tryz.prog n H.length (lpB fn n env #[p] assign body .ready none) (lpB fn n env #[p] assign body .busy none) body Hb f pre x))
  (fin:∀fn,match zbh f [] (flat e) with
    | .go=>K .normal env (Hb (flat e)++[.dead])
    | .jump .ret H1=>K .ret env (H1++[.dead])
    | .jump (.exit i) H1=>K (.exit i) env (H1++[.dead])
    | .jump _ _=>False
    | .panic v H1=>K (.panic v) env (H1++[lpB fn n env #[p] assign body .busy none])):TR Tryz.prog n (.rangeFunc g #[p] assign body) env H K:=by
 refine TR.rangeFunc hg fun fn hfn=>?_
 have fin:=fin fn
 have hS:zi6.ok ⟨H.length,Hb,lpB fn n env #[p] assign body,f⟩:=by
  refine⟨hHb,fun st pe=>?_,fun pre x=>hf pre x⟩
  exact henv
 have hpl:∀pre:List Ex,(Hb pre).length=H.length:=fun pre=>(hHb pre).1
 have:=zlX ⟨H.length,Hb,lpB fn n env #[p] assign body,f⟩ hS e hW ?_
 ·simp only[h0]at this
  refine Sound.mono this fun r H' hr=>?_
  simp only[zjX]at hr
  cases ho:zbh f [] (flat e) with
  | go=>
    rw[ho]at hr fin
    obtain⟨rfl,rfl⟩:=hr
    simp only[zoT]
    refine⟨fn,.ready,none,n,env,#[p],assign,body,?_,by simp,?_⟩
    ·rw[<-hpl (flat e)];simp[lpB]
    ·have:(Hb (flat e)++[lpB fn n env #[p] assign body LoopState.ready none]).set H.length .dead=Hb (flat e)++[.dead]:=by rw[<-hpl (flat e)];simp
     rw[this];exact fin
  | jump c H1=>
    have hl:=zdD hS (flat e) []
    rw[ho]at hr fin
    simp only[ho]at hl
    obtain⟨rfl,rfl⟩:=hr
    simp only[zoT]
    refine⟨fn,.done,some c,n,env,#[p],assign,body,?_,by simp,?_⟩
    ·rw[<-hl.1];simp[lpB]
    ·have:(H1++[lpB fn n env #[p] assign body LoopState.done (some c)]).set H.length .dead=H1++[.dead]:=by rw[<-hl.1];simp
     simp only[this]
     cases c <;> first|exact fin|exact fin.elim
  | panic v H1=>
    rw[ho]at hr fin
    obtain⟨rfl,rfl⟩:=hr
    exact fin
 ·intro pre x post hw
  have hid:(Hb pre++[lpB fn n env #[p] assign body .ready none])[H.length]?=some (.loop fn .ready none n env #[p] assign body):=by rw[<-hpl pre];simp[lpB]
  refine zg3.of hfn hid hp ?_
  have h1:=round fn pre x post hw
  rw[zae]
  refine TR.mono h1 fun te env2 H2 h2=>?_
  cases te with
  | normal=>
    obtain⟨h3,h4⟩:=h2
    refine⟨fn,none,n,env,#[p],assign,body,h3,?_⟩
    refine TR.mono h4 fun te env3 H3 h5=>?_
    have hN:(Hb pre++[lpB fn n env #[p] assign body .ready none]).length=H.length+1:=by simp[hpl]
    have hun:∀st pe,zaa (H.length+1) [lpB fn n env #[p] assign body st pe]=true:=fun st pe=>by simp only[zaa,Bool.and_true];exact henv
    cases te with
    | normal=>
      obtain⟨g1,g2,g3⟩:=h5
      refine⟨fn,.busy,none,n,env,#[p],assign,body,g3,?_,?_,?_⟩
      ·rw[hN];exact(qaa.1 g3).1
      ·rw[hN,zdZ g3,g2];exact zas (hHb _).2 (hun _ _)
      ·exact zwdk
    | ret=>
      obtain⟨H0,g1,g2,g3⟩:=h5
      have g4:=hf pre x
      rw[g1]at g4
      refine⟨fn,.busy,none,n,env,#[p],assign,body,g3,?_,?_,?_⟩
      ·rw[hN];exact(qaa.1 g3).1
      ·exact zwfm
      ·exact zwdk
    | exit i=>
      obtain⟨H0,g1,g2,g3⟩:=h5
      have g4:=hf pre x
      rw[g1]at g4
      refine⟨fn,.busy,none,n,env,#[p],assign,body,g3,?_,?_,?_⟩
      ·rw[hN];exact(qaa.1 g3).1
      ·exact zwfm
      ·exact zwdk
    | panic v=>
      obtain⟨H0,g1,g2,g3⟩:=h5
      have g4:=hf pre x
      rw[g1]at g4
      have e3:H3.take (H.length+1)=H0++[lpB fn n env #[p] assign body .busy none]:=by
       have hl:=(qaa.1 g3)
       rw[qax hl.1,g2,hl.2]
      refine⟨?_,?_,?_,?_⟩
      ·rw[hN];exact g4.1
      ·rw[hN];exact(qaa.1 g3).1
      ·rw[hN,e3];exact zas g4.2.2 (hun _ _)
      ·rw[hN,e3]
       simp only[zdw,zbh,g1]
       (first|exact⟨trivial,rfl⟩|exact⟨trivial,trivial⟩)
  | ret=>exact h2.elim
  | exit i=>exact h2.elim
  | panic v=>exact h2.elim
end Go.Proofs.YthmbhfgflijapaaGreatDoor
