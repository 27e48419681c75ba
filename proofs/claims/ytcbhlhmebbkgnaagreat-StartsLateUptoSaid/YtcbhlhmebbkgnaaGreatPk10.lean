import Derived.Test.YtcbhlhmebbkgnaaGreatPk6
import Derived.Test.YtcbhlhmebbkgnaaGreatPk7
import Derived.Test.YtcbhlhmebbkgnaaGreatPk9
set_option linter.unusedSimpArgs false
set_option linter.unusedVariables false
namespace Go.TL
open Go
theorem zoc(k:Nat):∀(ts:List T),unders k (ts.map .t)=true
 | []=>rfl
 | t::ts=>by simp[unders,SV.under,zoc k ts]
theorem zsI(r:Nat->Nat):∀(ts:List T),rens r (ts.map .t)=ts.map .t
 | []=>rfl
 | t::ts=>by simp[rens,SV.ren,zsI r ts]
section rules
variable {P:Program}{n:Nat}{env:Env}{H:Heap}{K:TK}{all:Array Oper}{rest:List Oper}{tab:Tab}
variable {d:Nat}{ty:TypeId}{pos:String}{aft:Array Edge}
theorem zgP(H:Heap):Hands H [] []:=zfo (N:=0) (Nat.zero_le _) rfl rfl
theorem TO.zro{cargs:List SV}{tl:List T}{sz off len:Nat}{f:Operand}{fid:FuncId}{caps:List SV}{args:Array Operand}{ts:Array TypeId}{vs:List SV}
  (hs:Sound P fid cargs [] fun r H'=>r= .ret (.ms sz 0 off len)/\H'=[.cells (tl.map .t)])(hd:Nat.ble (d+1) n=true)
  (hf:env.val f=some (.fn fid caps))(ha:env.vals args.toList=some vs)(hl:Les (vs++caps) cargs)(hu:unders 0 cargs=true)
  (k:TO false P n all rest ((d,.ms sz H.length off len)::env) (H++[.cells (tl.map .t)]) K):
  TO false P n all (⟨some d,.call { callee:=.value f,args:=args,argTypes:=ts },ty,pos,aft,none⟩::rest) env H K:=
 TO.zrH [] hs hd hf ha (by rw[zbC (N:=0) (fun j hj=>by omega) _ hu];exact hl) hu (zgP H) (by simp[SV.ren,names]) (by
  simp only[patch,List.map_cons,List.map_nil,Blk.ren,zsI]) k
theorem TO.znt(hT:zaB P tab){t t' e:TypeId}{i i' ie:TyI}{sz:Nat}{x y:Operand}{vy:SV}(hd:Nat.ble (d+1) n=true)(ht:tab.get t=some i)(hk:i.k= .slice e)(ht':tab.get t'=some i')(hk':i'.k= .slice e)
  (he:tab.get e=some ie)(hs:ie.size=sz)(hpos:Nat.ble 1 sz=true)(hx:env.val x=some (.t (.v (.slice none 0 0))))(hy:env.val y=some vy)(hvy:vy.elems sz=some [])
  (k:TO false P n all rest ((d,.t (.v (.slice none 0 0)))::env) H K):TO false P n all (⟨some d,.call { callee:=.builtin .append,args:=#[x,y],argTypes:=#[t,t'] },ty,pos,aft,none⟩::rest) env H K:=
 TO.eff hd (fun m ac g1 g2 g3=>by
  have hp':=Nat.le_of_ble_eq_true hpos
  have hy':=(g3.val hy).elems hvy
  obtain⟨ad,cap',hq⟩:=hy'.zbP
  rw[hq]at hy'
  obtain⟨g,f0,f1,f2,f3⟩:=zbw (P:=P) hy' (by omega)
  have f0':=f0 m.w rfl
  simp only[List.length_nil]at hq f0'
  refine⟨.slice none 0 0,m,?_,Step.refl m,g2,g1,.t _ _ (.v _)⟩
  simp[execOp,resolve,invoke,builtin,Builtin.append_,underlying,(hT t i ht).slice hk,(hT t' i' ht').slice hk',(hT e ie he).sizeOf,hs,Builtin.lenOf,hq,f0',(g3.val hx).v_eq]) k
theorem zhW{t e:TypeId}(h:P.underlying t=some (.slice e))(p:Option Addr)(len cap:Nat)(w:World):(Go.binOp .eql t (.slice p len cap) (.slice none 0 0)).run P w= .ok (.bool p.isNone) w:=by
 have h':∀d:Nat,(Op.equalIn (d+1) t (.slice p len cap) (.slice none 0 0)).run P w= .ok p.isNone w:=fun d=>by
  cases p <;> simp[Op.equalIn,run_underlying h]
 simp only[Go.binOp]
 simp[Op.equal,Op.maxDepth,h' 9999]
theorem TO.zpL(hT:zaB P tab){t t' e:TypeId}{i:TyI}{sz:Nat}{es:List T}{x:Operand}{v:SV}(hd:Nat.ble (d+1) n=true)(ht:tab.get t=some i)(hk:i.k= .slice e)(hx:env.val x=some v)(hv:v.elems sz=some es)
  (k1:es=[]->TO false P n all rest ((d,.t (.v (.bool true)))::env) H K)(k2:TO false P n all rest ((d,.t (.v (.bool false)))::env) H K):TO false P n all (⟨some d,.binOp .eql t x (.const (.slice none 0 0)) t',ty,pos,aft,none⟩::rest) env H K:=by
 intro φ m a h1 h2 h3 h4
 have h:=(h3.val hx).elems hv
 obtain⟨ad,cap,hq⟩:=h.zbP
 rw[hq]at h
 have hrun:(execOp a.eval ⟨some d,.binOp .eql t x (.const (.slice none 0 0)) t',ty,pos,aft,none⟩).run P m.w= .ok (.value (.bool ad.isNone)) m.w:=by
  simp[execOp,eval_const,hq,eqGuard,zhW ((hT t i ht).slice hk)]
 refine wpListIn_plain rfl fun K' hK=>?_
 unfold Oper.wpIn
 refine⟨fun _ _=>trivial,?_⟩
 rw[zaT hrun (by intro d e;cases e)]
 simp only[Oper.uponIn]
 refine hK _ _ (TO.zej (Step.refl m) ?_)
 cases ad with
 | none=>
   have he:es=[]:=by
    generalize hl:es.length=q at h
    cases h with
    | nil=>rfl
   exact k1 he φ m _ h1 h2 (h3.put d (Nat.le_of_ble_eq_true hd) (.t _ _ (.v _))) (by simpa [Act.put]using h4)
 | some b=>exact k2 φ m _ h1 h2 (h3.put d (Nat.le_of_ble_eq_true hd) (.t _ _ (.v _))) (by simpa [Act.put]using h4)
theorem TO.ziR(hT:zaB P tab){t e:TypeId}{i ie:TyI}{sz:Nat}(hd:Nat.ble (d+1) n=true)(ht:tab.get t=some i)(hk:i.k= .slice e)(he:tab.get e=some ie)(hs:ie.size=sz)
  (k:TO false P n all rest ((d,.sl sz [] H.length)::env) (H++[.tail 0]) K):TO false P n all (⟨some d,.buildSlice t 0 #[],ty,pos,aft,none⟩::rest) env H K:=
 TO.eff hd (fun m ac h1 h2 h3=>by
  subst h1
  have hrun:(Instr.buildSlice t 0 #[]).run P m.w= .ok (.slice (some ⟨m.w.heap.size,0,none⟩) 0 0) (m.w.alloc (.cells #[] e)):=by
   simp[Instr.buildSlice,underlying,(hT t i ht).slice hk,(hT e ie he).sizeOf,newRow,Instr.fill]
   rw[show Array.range 0= #[] from by decide];simp
  obtain⟨s,hm'⟩:=grow h2 (A':=m.A) (βn:=[⟨m.w.heap.size,0,0⟩]) (Hn:=[.tail 0]) (w':=m.w.alloc (.cells #[] e)) rfl rfl rfl (by simp) (fun b hb=>RowKit.Below.heap_alloc _ _ _ hb) (fun _ _ h=>h) (fun _ _ h=>.inl h) rfl (by
   intro i p k h1 h2 h3
   cases i with
   | zero=>simp at h1;subst h1;left;simp
   | succ i=>simp at h1) (by
   intro i j p q hij h1 h2
   cases i <;> cases j <;> simp at h1 h2 hij) (fun _ _ h h'=>absurd h h') (by
   intro s i p k h1 h2
   cases i with
   | zero=>simp at h1 h2;subst h1;subst h2;exact fun o q1 q2=>by simp only at q1 q2;omega
   | succ i=>simp at h1)
  refine⟨_,_,by simp only[execOp,Array.map_empty,Sem.run_bind,hrun];rfl,s,hm',rfl,?_⟩
  refine .sl _ _ _ _ ⟨m.w.heap.size,0,0⟩ (.empty sz _) (by show(m.β++_)[m.H.length]?=_;rw[<-h2.len];simp) fun q hq=>?_
  have hk':tlOf (m.H++[Blk.tail 0])[m.H.length]?=some q:=hq
  simp[tlOf]at hk'
  subst hk'
  exact⟨Nat.le_refl _,fun _=>⟨some ⟨m.w.heap.size,0,none⟩,0,0,rfl,Nat.le_refl _,rfl,by simp,by simp,rfl⟩⟩) k
end rules
def mixC(cs:List T)(z:List T)(n:Nat):List SV:=cs.map .t++zaY z n
theorem zkC(cs z:List T)(n:Nat):(mixC cs z n).length=cs.length+n*z.length:=by simp[mixC,zbX]
theorem zmc(z:List T)(n m:Nat)(h:m≤n):(zaY z n).drop (m*z.length)=zaY z (n-m):=by
 obtain⟨q,rfl⟩:∃q,n=m+q:=⟨n-m,by omega⟩
 have:zaY z (m+q)=zaY z m++zaY z q:=by
  unfold zaY
  rw[<-List.map_append,<-List.flatten_append,List.replicate_append_replicate]
 rw[this,List.drop_append_of_le_length (by rw[zbX];exact Nat.le_refl _),List.drop_of_length_le (by rw[zbX];exact Nat.le_refl _),List.nil_append]
 congr 1;omega
theorem zcB(cs ys z:List T)(n m off:Nat)(h:m≤n)(ho:off=cs.length)(hy:ys.length=m*z.length):splice (mixC cs z n) off (ys.map .t)=mixC (cs++ys) z (n-m):=by
 subst ho
 unfold splice mixC
 have h1:((cs.map SV.t++zaY z n).take cs.length)=cs.map SV.t:=by
  rw[List.take_append_of_le_length (by simp)]
  exact List.take_of_length_le (by simp)
 have h2:(cs.map SV.t++zaY z n).drop (cs.length+(ys.map SV.t).length)=zaY z (n-m):=by
  rw[List.drop_append,List.drop_of_length_le (by simp),List.nil_append,List.length_map,List.length_map,hy,show cs.length+m*z.length-cs.length=m*z.length from by omega]
  exact zmc z n m h
 rw[h1,h2,List.map_append]
theorem zfW(cs z:List T):mixC cs z 0=cs.map .t:=by simp[mixC,zaY]
theorem zqn{sz:Nat}(es:List T)(h:∀e∈es,e.cells.length=sz):∀(k:Nat) (hk:k<es.length),(((es.map T.cells).flatten).drop (k*sz)).take sz=es[k].cells:=by
 induction es with
 | nil=>intro k hk;simp at hk
 | cons e es ih=>
   intro k hk
   have he:=h e List.mem_cons_self
   rw[List.map_cons,List.flatten_cons]
   cases k with
   | zero=>rw[Nat.zero_mul,List.drop_zero,List.take_append_of_le_length (by omega),List.take_of_length_le (by omega)];rfl
   | succ k=>
     rw[List.drop_append,List.drop_of_length_le (by rw[he,Nat.succ_mul];omega),List.nil_append,he,show(k+1)*sz-sz=k*sz from by rw[Nat.succ_mul];omega]
     exact ih (fun x hx=>h x (List.mem_cons_of_mem _ hx)) k (by simpa using hk)
end Go.TL
namespace Go.TL
open Go
section rules
variable {P:Program}{n:Nat}{env:Env}{H:Heap}{K:TK}{all:Array Oper}{rest:List Oper}{tab:Tab}{q:Bool}
variable {d:Nat}{ty:TypeId}{pos:String}{aft:Array Edge}
theorem TO.zqh(hT:zaB P tab){t e:TypeId}{i:TyI}{x:Operand}(hd:Nat.ble (d+1) n=true)(ht:tab.get t=some i)(hk:i.k= .slice e)(hx:env.val x=some (.t (.v (.slice none 0 0))))
  (k:TO q P n all rest ((d,.t (.v (.int .i64 0)))::env) H K):TO q P n all (⟨some d,.call { callee:=.builtin .cap,args:=#[x],argTypes:=#[t] },ty,pos,aft,none⟩::rest) env H K:=
 TO.op hd (fun m ac h1 h2 h3=>⟨.int .i64 0,fun w' hw'=>by
  simp[execOp,resolve,invoke,builtin,Builtin.cap_,underlying,(hT t i ht).slice hk,(h3.val hx).v_eq,goInt],.t _ _ (.v _)⟩) k
theorem TO.zqI(hT:zaB P tab){t e:TypeId}{i ie:TyI}{x z:Operand}{ik:IntKind}(hd:Nat.ble (d+1) n=true)(ht:tab.get t=some i)(hk:i.k= .slice e)(he:tab.get e=some ie)
  (hx:env.val x=some (.t (.v (.slice none 0 0))))(hz:env.val z=some (.t (.v (.int ik 0))))
  (k:TO q P n all rest ((d,.t (.v (.slice none 0 0)))::env) H K):TO q P n all (⟨some d,.slice t x none (some z) none,ty,pos,aft,none⟩::rest) env H K:=
 TO.op hd (fun m ac g1 g2 g3=>by
  refine⟨.slice none 0 0,fun w' hw'=>?_,.t _ _ (.v _)⟩
  have:=zcR (P:=P) hT ht hk he none 0 0 none (some (ac.eval z)) 0 0 w' (.inl ⟨rfl,rfl⟩) (.inr ⟨ik,by rw[(g3.val hz).v_eq];rfl⟩) (Nat.le_refl _) (Nat.le_refl _)
  simp only[Nat.sub_zero,Option.map_none,ite_self]at this
  simp[execOp,(g3.val hx).v_eq,this]) k
theorem TO.zpH(hT:zaB P tab){t e:TypeId}{i ie:TyI}{x z:Operand}{sz id off len:Nat}{ik:IntKind}(hd:Nat.ble (d+1) n=true)(ht:tab.get t=some i)(hk:i.k= .slice e)(he:tab.get e=some ie)
  (hx:env.val x=some (.ms sz id off len))(hz:env.val z=some (.t (.v (.int ik 0))))
  (k:TO q P n all rest ((d,.ms sz id off 0)::env) H K):TO q P n all (⟨some d,.slice t x none (some z) none,ty,pos,aft,none⟩::rest) env H K:=
 TO.zoH hT hd ht hk he hx (b:=0) hz (Nat.zero_le _) k
end rules
end Go.TL
namespace Go.TL
open Go
theorem zhS(k:Nat)(ts:List T):zaf k [.cells (ts.map .t)]=true:=by
 simp[zaf,Blk.under,zoc]
end Go.TL
namespace Go.Proofs.YtcbhlhmebbkgnaaGreat
open Go Go.TL
attribute [local irreducible] TR TO Then zaw RetK Sound zab Kf GG zaZ
abbrev zD:List T:=[.v (str []),.v (.int .i64 0),.v (.slice none 0 0)]
theorem zpt(c:Nat)(h1:1≤c)(h2:c≤3000000000):Sound Tryz.prog 78 [.t (.v (.slice none 0 0)),.i c] [] (fun r H'=>r= .ret (.ms 3 0 0 0)/\H'=[.cells (zaY zD c)]):=by
 refine so Tryz.func78 ?_
 repeat' (first|refine wk ?_|exact wkc|intro hc|refine wk2 ?_ ?_|(apply TO.zqh zam;(iterate 4 exact rfl))|(apply TO.zqI zam;(iterate 6 exact rfl))|(apply TO.zmu zam (c:=c) (ik':=.i64);(iterate 6 exact rfl);kernel_rfl;exact rfl;exact rfl;omega;omega;exact rfl)|(apply TO.zpH zam;(iterate 6 exact rfl))|fail)
 exact RetK.at 1 rfl (Le.refl _) (Nat.zero_le _) rfl rfl (zhS 1 _) ⟨rfl,rfl⟩
theorem znB:Pure Tryz.prog 78 [.t (.v (.slice none 0 0)),.i 0] (.t (.v (.slice none 0 0))):=by
 refine so Tryz.func78 ?_
 repeat' (first|refine wk ?_|exact wkc|intro hc|refine wk2 ?_ ?_|(apply TO.zqh zam;(iterate 4 exact rfl))|fail)
 exact wkr
theorem znx(d:Decl):(zah d).cells.length=3:=rfl
abbrev dls (l:List Decl):T:=.sl 3 (l.map zah)
def zaO(l:List Decl):List T:=((l.map zah).map T.cells).flatten
theorem zbo(l:List Decl):(zaO l).length=l.length*3:=by
 have:=(zcz (sz:=3) (l.map zah) (fun e he=>by obtain⟨d,_,rfl⟩:=List.mem_map.1 he;rfl)).1
 rw[List.length_map]at this
 exact this
theorem zfX(a b:List Decl):zaO (a++b)=zaO a++zaO b:=by simp[zaO]
theorem zqm{α:Type}{ls:List (List α)}{k:Nat}(h:k<ls.length):(ls.take (k+1)).flatten.length=(ls.take k).flatten.length+ls[k].length/\(ls.take (k+1)).flatten.length≤ls.flatten.length:=by
 constructor
 ·rw[List.take_succ_eq_append_getElem h,List.flatten_append,List.length_append];simp
 ·conv=>rhs;rw[<-List.take_append_drop (k+1) ls]
  rw[List.flatten_append,List.length_append];omega
theorem zuw{α:Type}{ls:List (List α)}{k:Nat}(h:k<ls.length):(ls.take (k+1)).flatten=(ls.take k).flatten++ls[k]:=by
 rw[List.take_succ_eq_append_getElem h,List.flatten_append];simp
theorem zoE{ls:List (List Decl)}{k:Nat}(h:k<ls.length):(ls.map dls)[k]?=some (dls ls[k]):=by simp[h]
theorem zg3(ls:List (List Decl))(hl:ls.length≤1000000)(hn:ls.flatten.length≤3000000000)(h1:1≤ls.flatten.length):
  Sound Tryz.prog 52 [.t (.sl 1 (ls.map dls))] [] (fun r H'=>r= .ret (.ms 3 0 0 ls.flatten.length)/\H'=[.cells ((zaO ls.flatten).map .t)]):=by
 have hml:(ls.map dls).length=ls.length:=List.length_map _
 refine so Tryz.func52 ?_
 repeat' (first|refine wk ?_|exact wkc|intro hc|refine wk2 ?_ ?_|fail)
 refine TR.zal ls.length (fun _=>True) (fun k=>[(0,.t (.sl 1 (ls.map dls))),(3,.i ((ls.take k).flatten.length:Nat)),(9,.t (.sl 1 (ls.map dls))),(10,.i ls.length),(11,.i k)]) (fun _=>[]) trivial (fun k hlt _=>?_) (fun _=>?_) ⟨rfl,rfl,rfl,by rw[<-hml];rfl,rfl,trivial⟩
 ·obtain⟨f1,f2⟩:=zqm hlt
  have hx:=zoE hlt
  have hm2:(ls[k].map zah).length=ls[k].length:=List.length_map _
  generalize ls[k]=a at hx f1 hm2
  repeat' (first|refine wk ?_|exact wkc|intro hc|refine wk2 ?_ ?_|fail)
  exact zab.zak hlt trivial ⟨rfl,by rw[f1];simp only[List.length_map];rfl,rfl,rfl,rfl,trivial⟩
 ·rw[List.take_length]
  repeat' (first|refine wk ?_|exact wkc|intro hc|refine wk2 ?_ ?_|(apply TO.zro (tl:=(List.replicate ls.flatten.length zD).flatten) (zpt ls.flatten.length h1 hn);(iterate 3 exact rfl);exact Les.refl _;exact rfl)|fail)
  refine TR.zal ls.length (fun _=>True) (fun k=>[(6,.ms 3 0 0 (ls.take k).flatten.length),(25,.t (.sl 1 (ls.map dls))),(26,.i ls.length),(27,.i k)]) (fun k=>[.cells (mixC (zaO (ls.take k).flatten) zD (ls.flatten.length-(ls.take k).flatten.length))]) trivial (fun k hlt _=>?_) (fun _=>?_) ⟨rfl,rfl,by rw[<-hml];rfl,rfl,trivial⟩
  ·obtain⟨f1,f2⟩:=zqm hlt
   have f3:=zuw hlt
   have hx:=zoE hlt
   have hm2:(ls[k].map zah).length=ls[k].length:=List.length_map _
   have hfit:0+((ls.take k).flatten.length+(ls[k].map zah).length)*3≤(mixC (zaO (ls.take k).flatten) zD (ls.flatten.length-(ls.take k).flatten.length)).length:=by
    rw[zkC,zbo,hm2]
    show _≤_+_*3
    omega
   have hsp:[Blk.cells (mixC (zaO (ls.take k).flatten) zD (ls.flatten.length-(ls.take k).flatten.length))].set 0 (.cells (splice (mixC (zaO (ls.take k).flatten) zD (ls.flatten.length-(ls.take k).flatten.length)) (0+(ls.take k).flatten.length*3) ((((ls[k].map zah).map T.cells).flatten).map .t)))=
     [Blk.cells (mixC (zaO (ls.take (k+1)).flatten) zD (ls.flatten.length-(ls.take (k+1)).flatten.length))]:=by
    have e:=zcB (zaO (ls.take k).flatten) (zaO ls[k]) zD (ls.flatten.length-(ls.take k).flatten.length) ls[k].length (0+(ls.take k).flatten.length*3) (by omega) (by rw[zbo];omega) (zbo _)
    refine congrArg (fun c=>[Blk.cells c]) (e.trans ?_)
    rw[f3,zfX,List.length_append]
    congr 1
    omega
   generalize hb1:(ls.take (k+1)).flatten=b1 at*
   generalize (ls.take k).flatten=b0 at*
   generalize ls[k]=a at*
   repeat' (first|refine wk ?_|exact wkc|intro hc|refine wk2 ?_ ?_|(apply TO.zlB zam;(iterate 12 exact rfl);exact hfit;exact hsp)|fail)
   exact zab.zak hlt trivial ⟨by rw[hb1,f1,<-hm2];rfl,rfl,rfl,rfl,trivial⟩ (by rw[hb1])
  ·rw[List.take_length,Nat.sub_self,zfW]
   repeat' (first|refine wk ?_|exact wkc|intro hc|refine wk2 ?_ ?_|fail)
   exact RetK.at 1 rfl (Le.refl _) (Nat.zero_le _) rfl rfl (zhS 1 _) ⟨rfl,rfl⟩
def flat:Ex->List Ex
 | .mk k o t v n l=>.mk k o t v n l::(l.attach.map fun x=>flat x.1).flatten
decreasing_by
 have:=List.sizeOf_lt_of_mem x.2
 simp;omega
def flats(l:List Ex):List Ex:=(l.map flat).flatten
theorem za2(e:Ex):flat e=e::flats e.args:=by
 cases e
 rw[flat];simp[flats,Ex.args]
inductive Out where
 | go
 | jump (c:Code) (H:Heap)
 | panic (v:SV) (H:Heap)
def zbm(f:List Ex->Ex->Out):List Ex->List Ex->Out
 | _,[]=>.go
 | pre,x::l=>match f pre x with
   | .go=>zbm f (pre++[x]) l
   | o=>o
theorem zcn(f:List Ex->Ex->Out):∀(a b pre:List Ex),zbm f pre (a++b)=match zbm f pre a with
  | .go=>zbm f (pre++a) b
  | o=>o
 | [],b,pre=>by simp[zbm]
 | x::a,b,pre=>by
   simp only[List.cons_append,zbm]
   cases f pre x with
   | go=>simp only[];rw[zcn f a b (pre++[x])];simp
   | jump c H=>rfl
   | panic v H=>rfl
structure zli where
 L0:Nat
 Hb:List Ex->Heap
 lp:LoopState->Option Code->Blk
 f:List Ex->Ex->Out
def zli.ok(S:zli):Prop:=
 (∀pre,(S.Hb pre).length=S.L0/\zaf (S.L0+1) (S.Hb pre)=true)/\(∀st pe,(S.lp st pe).under (S.L0+1)=true)/\
 ∀pre x,match S.f pre x with
  | .go=>True
  | .jump c H=>H.length=S.L0/\zaf (S.L0+1) H=true
  | .panic v H=>v.under (S.L0+1)=true/\H.length=S.L0/\zaf (S.L0+1) H=true
def zdl(S:zli)(pre xs:List Ex)(r:Res)(H:Heap):Prop:=
 match zbm S.f pre xs with
 | .go=>r= .ret (.b true)/\H=S.Hb (pre++xs)++[S.lp .ready none]
 | .jump c H0=>r= .ret (.b false)/\H=H0++[S.lp .done (some c)]
 | .panic v H0=>r= .panic v/\H=H0++[S.lp .busy none]
theorem zdI(a b:List Ex):flats (a++b)=flats a++flats b:=by simp[flats]
theorem zec(l:List Ex){j:Nat}(h:j<l.length):flats l=flats (l.take j)++(flat l[j]++flats (l.drop (j+1))):=by
 have:l=l.take j++([l[j]]++l.drop (j+1)):=by
  rw[List.singleton_append,<-List.drop_eq_getElem_cons h,List.take_append_drop]
 conv=>lhs;rw[this]
 rw[zdI,zdI]
 simp[flats]
theorem ze8(l:List Ex){j:Nat}(h:j<l.length):flats (l.take (j+1))=flats (l.take j)++flat l[j]:=by
 rw[List.take_succ_eq_append_getElem h,zdI];simp[flats]
theorem zsl(e:Ex):0<(flat e).length:=by rw[za2];simp
theorem zmr:∀l:List Ex,l.length≤(flats l).length
 | []=>Nat.zero_le _
 | x::l=>by
   have h1:=zmr l
   have:=zsl x
   simp only[flats,List.map_cons,List.flatten_cons,List.length_append,List.length_cons]at h1⊢
   omega
theorem zdp(e:Ex):(flat e).length=wEx e:=by
 generalize hn:wEx e=n
 induction n using Nat.strongRecOn generalizing e with
 | ind n ih=>
   have h:∀l:List Ex,(∀x∈l,wEx x<n)->(flats l).length=(l.map wEx).sum:=by
    intro l
    induction l with
    | nil=>intro _;rfl
    | cons x l ihl=>
      intro hx
      have h1:=ihl fun y hy=>hx y (List.mem_cons_of_mem _ hy)
      have h2:=ih (wEx x) (hx x List.mem_cons_self) x rfl
      simp only[flats,List.map_cons,List.flatten_cons,List.length_append,List.sum_cons]at h1⊢
      omega
   rw[za2,List.length_cons,h e.args (fun x hx=>by have:=zaE hx;omega)]
   rw[zet]at hn
   omega
theorem zaz{k:Nat}:∀ {a b:Heap},zaf k a=true->zaf k b=true->zaf k (a++b)=true
 | [],b,_,h=>h
 | x::a,b,h1,h2=>by
   simp only[zaf,Bool.and_eq_true]at h1
   simp[zaf,h1.1,zaz h1.2 h2]
theorem zd3{S:zli}(h:S.ok):∀(xs pre:List Ex),match zbm S.f pre xs with
  | .go=>True
  | .jump c H=>H.length=S.L0/\zaf (S.L0+1) H=true
  | .panic v H=>v.under (S.L0+1)=true/\H.length=S.L0/\zaf (S.L0+1) H=true
 | [],pre=>by simp[zbm]
 | x::xs,pre=>by
   have h2:=h.2.2 pre x
   simp only[zbm]
   cases hq:S.f pre x with
   | go=>exact zd3 h xs (pre++[x])
   | jump c H=>rw[hq]at h2;exact h2
   | panic v H=>rw[hq]at h2;exact h2
theorem zg9{S:zli}(h:S.ok)(pre xs:List Ex):Within (S.L0+1) (zdl S pre xs):=by
 have ho:=zd3 h xs pre
 have one:∀st pe,zaf (S.L0+1) [S.lp st pe]=true:=fun st pe=>by simp[zaf,h.2.1]
 constructor
 ·intro v H' hr
  unfold zdl at hr
  split at hr
  ·obtain⟨h1,rfl⟩:=hr
   cases h1
   exact⟨rfl,by simp[(h.1 _).1],zaz (h.1 _).2 (one _ _)⟩
  ·rename_i c H0 hq
   rw[hq]at ho
   obtain⟨h1,rfl⟩:=hr
   cases h1
   exact⟨rfl,by simp[ho.1],zaz ho.2 (one _ _)⟩
  ·obtain⟨h1,_⟩:=hr;cases h1
 ·intro v H' hr
  unfold zdl at hr
  split at hr
  ·obtain⟨h1,_⟩:=hr;cases h1
  ·obtain⟨h1,_⟩:=hr;cases h1
  ·rename_i u H0 hq
   rw[hq]at ho
   obtain⟨h1,rfl⟩:=hr
   cases h1
   exact⟨ho.1,by simp[ho.2.1],zaz ho.2.2 (one _ _)⟩
set_option maxHeartbeats 1000000 in
theorem zpd (S:zli) (hS:S.ok) (whole:List Ex) (hW:whole.length≤1000000000) (hY:∀pre x post,whole=pre++x::post->zhX Tryz.prog S.L0 (.t (exT x)) (S.Hb pre++[S.lp .ready none]) (zdl S pre [x])):
  ∀(m:Nat) (e:Ex),wEx e≤m->∀(pre post:List Ex),whole=pre++(flat e++post)->Sound Tryz.prog 110 [.t (exT e),.yl S.L0] (S.Hb pre++[S.lp .ready none]) (zdl S pre (flat e)):=by
 intro m
 induction m with
 | zero=>intro e he;have:=zaI e;omega
 | succ m ih0=>
   intro e he pre post hw
   have ih:∀x∈e.args,∀(pre post:List Ex),whole=pre++(flat x++post)->Sound Tryz.prog 110 [.t (exT x),.yl S.L0] (S.Hb pre++[S.lp .ready none]) (zdl S pre (flat x)):=
    fun x hx=>ih0 x (by have:=zaE hx;omega)
   clear ih0
   have hN:(S.Hb pre++[S.lp .ready none]).length=S.L0+1:=by simp[(hS.1 _).1]
   have hbu:∀pre,zaf (S.L0+1) (S.Hb pre++[S.lp .ready none])=true:=fun pre=>zaz (hS.1 _).2 (by simp[zaf,hS.2.1])
   have hy:=hY pre e (flats e.args++post) (by rw[hw,za2];simp)
   have hflat:=za2 e
   rw[zaA]at hy⊢
   have hll:e.args.length≤1000000000:=by
    have h1:=zmr e.args
    have h2:=congrArg List.length hw
    simp[hflat]at h2
    omega
   generalize hl:e.args=l at ih hflat hll
   have hC:exC e=[T.n e.kind,T.n e.op,T.n e.t,T.n e.v,.s e.name,.sl 6 (l.map exT)]:=by rw[<-hl];rfl
   rw[hC]at hy⊢
   have hml:(l.map exT).length=l.length:=List.length_map _
   generalize hG:S.Hb pre++[S.lp .ready none]=G at hy hN⊢
   have hGu:zaf (S.L0+1) G=true:=by rw[<-hG];exact hbu pre
   refine so Tryz.func110 ?_
   repeat' (first|refine wu ?_|exact wkc|intro hc|refine wk2 ?_ ?_|fail)
   have hGt:G.take (S.L0+1)=G:=List.take_of_length_le (by omega)
   have hGd:G.drop (S.L0+1)=[]:=List.drop_of_length_le (by omega)
   refine TO.zu1 (S.L0+1) (arg:=.t (.ag [T.n e.kind,T.n e.op,T.n e.t,T.n e.v,.s e.name,.sl 6 (l.map exT)])) hy (zg9 hS pre [_]) rfl rfl rfl rfl (Nat.lt_succ_self _) (by omega) hGt hGu ?_ ?_
   ·intro u H' hr
    simp only[zdl,zbm]at hr
    rw[hGd,List.append_nil]
    cases hf:S.f pre e with
    | panic v0 H0=>rw[hf]at hr;cases hr.1
    | jump c H0=>
      rw[hf]at hr
      obtain⟨h1,rfl⟩:=hr
      cases h1
      have ho:=hS.2.2 pre e
      rw[hf]at ho
      repeat' (first|refine wu ?_|exact wkc|intro hc|refine wk2 ?_ ?_|fail)
      refine RetK.at (v:=.b false) (S.L0+1) rfl (Le.of_eq rfl) (by omega) (by simp[ho.1]) rfl (zaz ho.2 (by simp[zaf,hS.2.1])) ?_
      simp[zdl,hflat,zbm,hf]
    | go=>
      rw[hf]at hr
      obtain⟨h1,rfl⟩:=hr
      cases h1
      repeat' (first|refine wu ?_|exact wkc|intro hc|refine wk2 ?_ ?_|fail)
      refine TR.zal l.length (fun j=>zbm S.f (pre++[e]) (flats (l.take j))= .go) (fun j=>[(14,.i j),(13,.i l.length),(12,.t (.sl 6 (l.map exT))),(1,.yl S.L0),(4,.b false)])
       (fun j=>S.Hb (pre++[e]++flats (l.take j))++[S.lp .ready none]) (by simp[flats,zbm]) (fun j hlt hsc=>?_) (fun hsc=>?_) ⟨rfl,by rw[<-hml];rfl,rfl,rfl,rfl,trivial⟩ (by simp[flats])
      ·have hGj:(S.Hb (pre++[e]++flats (l.take j))++[S.lp .ready none]).length=S.L0+1:=by simp[(hS.1 _).1]
       have hGjd:(S.Hb (pre++[e]++flats (l.take j))++[S.lp .ready none]).drop (S.L0+1)=[]:=List.drop_of_length_le (by omega)
       have hx:=zbd hlt
       have hw':whole=(pre++[e]++flats (l.take j))++(flat l[j]++(flats (l.drop (j+1))++post)):=by
        rw[hw,hflat,zec l hlt];simp
       have hs:=ih l[j] (List.getElem_mem hlt) _ _ hw'
       rw[zaA]at hs
       repeat' (first|refine wu ?_|exact wkc|intro hc|refine wk2 ?_ ?_|fail)
       refine TO.zfc (S.L0+1) hs (zg9 hS _ _) rfl rfl rfl ⟨Le.of_eq rfl,Le.refl _,trivial⟩ (by simp[unders,SV.under,Nat.blt_eq]) (by omega) (List.take_of_length_le (by omega)) (hbu _) ?_ ?_
       ·intro u H2 hr2
        have hout:=zd3 hS (flat l[j]) (pre++[e]++flats (l.take j))
        simp only[zdl]at hr2
        rw[hGjd,List.append_nil]
        cases ho:zbm S.f (pre++[e]++flats (l.take j)) (flat l[j]) with
        | panic v0 H0=>rw[ho]at hr2;cases hr2.1
        | jump c H0=>
          rw[ho]at hr2 hout
          obtain⟨h1,rfl⟩:=hr2
          cases h1
          repeat' (first|refine wu ?_|exact wkc|intro hc|refine wk2 ?_ ?_|fail)
          refine RetK.at (v:=.b false) (S.L0+1) rfl (Le.of_eq rfl) (by omega) (by simp[hout.1]) rfl (zaz hout.2 (by simp[zaf,hS.2.1])) ?_
          have:zbm S.f pre (flat e)= .jump c H0:=by
           rw[hflat,zbm,hf]
           simp only[]
           rw[zec l hlt,zcn,hsc]
           simp only[]
           rw[zcn,ho]
          simp[zdl,this]
        | go=>
          rw[ho]at hr2
          obtain⟨h1,rfl⟩:=hr2
          cases h1
          repeat' (first|refine wu ?_|exact wkc|intro hc|refine wk2 ?_ ?_|fail)
          refine zab.zak hlt ?_ ⟨rfl,rfl,rfl,rfl,rfl,trivial⟩ (by rw[ze8 l hlt];simp)
          rw[ze8 l hlt,zcn,hsc]
          exact ho
       ·intro u H2 hr2
        have hout:=zd3 hS (flat l[j]) (pre++[e]++flats (l.take j))
        simp only[zdl]at hr2
        rw[hGjd,List.append_nil]
        cases ho:zbm S.f (pre++[e]++flats (l.take j)) (flat l[j]) with
        | panic v0 H0=>
          rw[ho]at hr2 hout
          obtain⟨h1,rfl⟩:=hr2
          cases h1
          repeat' (first|refine wu ?_|exact wkc|intro hc|refine wk2 ?_ ?_|fail)
          refine zab.panic ?_
          repeat' (first|refine wu ?_|exact wkc|intro hc|refine wk2 ?_ ?_|fail)
          refine RetK.atP (S.L0+1) ?_ ?_ hout.1 ?_ ?_
          ·omega
          ·simp[hout.2.1]
          ·exact zaz hout.2.2 (by simp[zaf,hS.2.1])
          have:zbm S.f pre (flat e)= .panic u H0:=by
           rw[hflat,zbm,hf]
           simp only[]
           rw[zec l hlt,zcn,hsc]
           simp only[]
           rw[zcn,ho]
          simp[zdl,this]
        | jump c H0=>rw[ho]at hr2;cases hr2.1
        | go=>rw[ho]at hr2;cases hr2.1
      ·have hGj:(S.Hb (pre++[e]++flats (l.take l.length))++[S.lp .ready none]).length=S.L0+1:=by simp[(hS.1 _).1]
       repeat' (first|refine wu ?_|exact wkc|intro hc|refine wk2 ?_ ?_|fail)
       refine RetK.at (v:=.b true) (S.L0+1) rfl (Le.of_eq rfl) (by omega) hGj rfl (hbu _) ?_
       have:zbm S.f pre (flat e)= .go:=by
        rw[hflat,zbm,hf]
        simp only[]
        rw[List.take_length]at hsc
        exact hsc
       simp only[zdl,this]
       exact⟨trivial,by rw[hflat];simp⟩
   ·intro u H' hr
    simp only[zdl,zbm]at hr
    rw[hGd,List.append_nil]
    cases hf:S.f pre e with
    | panic v0 H0=>
      have ho:=hS.2.2 pre e
      rw[hf]at hr ho
      obtain⟨h1,rfl⟩:=hr
      cases h1
      repeat' (first|refine wu ?_|exact wkc|intro hc|refine wk2 ?_ ?_|fail)
      refine RetK.atP (S.L0+1) ?_ ?_ ho.1 ?_ ?_
      ·omega
      ·simp[ho.2.1]
      ·exact zaz ho.2.2 (by simp[zaf,hS.2.1])
      simp[zdl,hflat,zbm,hf]
    | jump c H0=>rw[hf]at hr;cases hr.1
    | go=>rw[hf]at hr;cases hr.1
def lpB(fn n:Nat)(env:Env)(ps:Array Tmp)(assign body:Code)(st:LoopState)(pe:Option Code):Blk:=.loop fn st pe n env ps assign body
theorem zc4(e:Ex):Pure Tryz.prog 71 [.t (exT e)] (.fn 109 [.cp (exC e) 0]):=by
 rw[zaA]
 refine so Tryz.func71 ?_
 repeat' (first|refine wu ?_|exact wkc|intro hc|refine wk2 ?_ ?_|fail)
 exact wkr
def zlZ(S:zli)(xs:List Ex)(r:Res)(H:Heap):Prop:=
 match zbm S.f [] xs with
 | .go=>r= .ret (.tup [])/\H=S.Hb xs++[S.lp .ready none]
 | .jump c H0=>r= .ret (.tup [])/\H=H0++[S.lp .done (some c)]
 | .panic v H0=>r= .panic v/\H=H0++[S.lp .busy none]
theorem znV(S:zli)(hS:S.ok)(e:Ex)(hW:wEx e≤1000000000)(hY:∀pre x post,flat e=pre++x::post->zhX Tryz.prog S.L0 (.t (exT x)) (S.Hb pre++[S.lp .ready none]) (zdl S pre [x])):
  Sound Tryz.prog 109 [.yl S.L0,.cp (exC e) 0] (S.Hb []++[S.lp .ready none]) (zlZ S (flat e)):=by
 have hs:=zpd S hS (flat e) (by rw[zdp];exact hW) hY (wEx e) e (Nat.le_refl _) [] [] (by simp)
 rw[zaA]at hs
 have hout:=zd3 hS (flat e) []
 have hHb:=hS.1
 have hlp:=hS.2.1
 unfold exC at*
 refine so Tryz.func109 ?_
 repeat' (first|refine wu ?_|exact wkc|intro hc|refine wk2 ?_ ?_|fail)
 refine TO.zux hs rfl rfl rfl ⟨Le.refl _,Le.refl _,trivial⟩ ?_ ?_
 ·intro u H2 hr
  simp only[zdl]at hr
  cases ho:zbm S.f [] (flat e) with
  | panic v0 H0=>rw[ho]at hr;cases hr.1
  | jump c H0=>
    rw[ho]at hr hout
    obtain⟨h1,rfl⟩:=hr
    cases h1
    repeat' (first|refine wu ?_|exact wkc|intro hc|refine wk2 ?_ ?_|fail)
    refine RetK.atN (v:=.tup []) (S.L0+1) rfl (Le.of_eq rfl) (by simp[(hHb _).1]) (by simp[hout.1]) rfl (zaz hout.2 (by simp[zaf,hlp])) ?_
    simp only[zlZ,ho]
    (first|exact⟨trivial,rfl⟩|exact⟨trivial,trivial⟩)
  | go=>
    rw[ho]at hr
    obtain⟨h1,rfl⟩:=hr
    cases h1
    repeat' (first|refine wu ?_|exact wkc|intro hc|refine wk2 ?_ ?_|fail)
    refine RetK.atN (v:=.tup []) (S.L0+1) rfl (Le.of_eq rfl) (by simp[(hHb _).1]) (by simp[(hHb _).1]) rfl (zaz (hHb _).2 (by simp[zaf,hlp])) ?_
    simp only[zlZ,ho]
    (first|exact⟨trivial,rfl⟩|exact⟨trivial,trivial⟩)
 ·intro u H2 hr
  simp only[zdl]at hr
  cases ho:zbm S.f [] (flat e) with
  | panic v0 H0=>
    rw[ho]at hr hout
    obtain⟨h1,rfl⟩:=hr
    cases h1
    repeat' (first|refine wu ?_|exact wkc|intro hc|refine wk2 ?_ ?_|fail)
    refine RetK.atP (S.L0+1) ?_ ?_ hout.1 ?_ ?_
    ·simp[(hHb _).1]
    ·simp[hout.2.1]
    ·exact zaz hout.2.2 (by simp[zaf,hlp])
    simp only[zlZ,ho]
    (first|exact⟨trivial,rfl⟩|exact⟨trivial,trivial⟩)
  | jump c H0=>rw[ho]at hr;cases hr.1
  | go=>rw[ho]at hr;cases hr.1
def zup(L0:Nat)(lb:Blk)(Hb:List Ex->Heap)(f:List Ex->Ex->Out)(pre:List Ex)(x:Ex):TK
 | .normal,_,H=>f pre x= .go/\H.take L0=Hb (pre++[x])/\H[L0]?=some lb
 | .ret,_,H=>∃H0,f pre x= .jump .ret H0/\H.take L0=H0/\H[L0]?=some lb
 | .exit i,_,H=>∃H0,f pre x= .jump (.exit i) H0/\H.take L0=H0/\H[L0]?=some lb
 | .panic v,_,H=>∃H0,f pre x= .panic v H0/\H.take L0=H0/\H[L0]?=some lb
def AsgK(P:Program)(n L0:Nat)(lr lb:Blk)(body:Code)(Hb:List Ex->Heap)(f:List Ex->Ex->Out)(pre:List Ex)(x:Ex):TK
 | .normal,env,H=>H[L0]?=some lr/\TR P n body env (H.set L0 lb) (zup L0 lb Hb f pre x)
 | _,_,_=>False
theorem zb6{α:Type}{H:List α}{L:Nat}{a b:α}(h:H[L]?=some a):(H.set L b).take (L+1)=H.take L++[b]:=by
 have hl:=(List.getElem?_eq_some_iff.1 h).1
 rw[List.take_succ_eq_append_getElem (by simpa using hl),List.take_set,List.set_eq_of_length_le (by simp;omega)]
 simp
theorem TR.zd4{n:Nat}{g:Operand}{p:Tmp}{assign body:Code}{env:Env}{H:Heap}{K:TK}(e:Ex)(Hb:List Ex->Heap)(f:List Ex->Ex->Out)(hg:env.val g=some (.fn 109 [.cp (exC e) 0]))(hW:wEx e≤1000000000)
  (h0:Hb []=H)(hp:Nat.ble (p+1) n=true)(henv:(env.all fun x=>x.2.under (H.length+1))=true)(hHb:∀pre,(Hb pre).length=H.length/\zaf (H.length+1) (Hb pre)=true)
  (hf:∀pre x,match f pre x with
    | .go=>True
    | .jump c H1=>H1.length=H.length/\zaf (H.length+1) H1=true
    | .panic v H1=>v.under (H.length+1)=true/\H1.length=H.length/\zaf (H.length+1) H1=true)
  (round:∀fn pre x post,flat e=pre++x::post->TR Tryz.prog n assign ((p,.t (.ag (exC x)))::env) (Hb pre++[lpB fn n env #[p] assign body .ready none]) (AsgK Tryz.prog n H.length (lpB fn n env #[p] assign body .ready none) (lpB fn n env #[p] assign body .busy none) body Hb f pre x))
  (fin:∀fn,match zbm f [] (flat e) with
    | .go=>K .normal env (Hb (flat e)++[.dead])
    | .jump .ret H1=>K .ret env (H1++[.dead])
    | .jump (.exit i) H1=>K (.exit i) env (H1++[.dead])
    | .jump _ _=>False
    | .panic v H1=>K (.panic v) env (H1++[lpB fn n env #[p] assign body .busy none])):TR Tryz.prog n (.rangeFunc g #[p] assign body) env H K:=by
 refine TR.rangeFunc hg fun fn hfn=>?_
 have fin:=fin fn
 have hS:zli.ok ⟨H.length,Hb,lpB fn n env #[p] assign body,f⟩:=by
  refine⟨hHb,fun st pe=>?_,fun pre x=>hf pre x⟩
  exact henv
 have hpl:∀pre:List Ex,(Hb pre).length=H.length:=fun pre=>(hHb pre).1
 have:=znV ⟨H.length,Hb,lpB fn n env #[p] assign body,f⟩ hS e hW ?_
 ·simp only[h0]at this
  refine Sound.mono this fun r H' hr=>?_
  simp only[zlZ]at hr
  cases ho:zbm f [] (flat e) with
  | go=>
    rw[ho]at hr fin
    obtain⟨rfl,rfl⟩:=hr
    simp only[zqy]
    refine⟨fn,.ready,none,n,env,#[p],assign,body,?_,by simp,?_⟩
    ·rw[<-hpl (flat e)];simp[lpB]
    ·have:(Hb (flat e)++[lpB fn n env #[p] assign body LoopState.ready none]).set H.length .dead=Hb (flat e)++[.dead]:=by rw[<-hpl (flat e)];simp
     rw[this];exact fin
  | jump c H1=>
    have hl:=zd3 hS (flat e) []
    rw[ho]at hr fin
    simp only[ho]at hl
    obtain⟨rfl,rfl⟩:=hr
    simp only[zqy]
    refine⟨fn,.done,some c,n,env,#[p],assign,body,?_,by simp,?_⟩
    ·rw[<-hl.1];simp[lpB]
    ·have:(H1++[lpB fn n env #[p] assign body LoopState.done (some c)]).set H.length .dead=H1++[.dead]:=by rw[<-hl.1];simp
     simp only[this]
     cases c <;> first|exact fin|exact fin.elim
  | panic v H1=>
    rw[ho]at hr fin
    obtain⟨rfl,rfl⟩:=hr
    exact fin
 ·intro pre x post hw
  have hid:(Hb pre++[lpB fn n env #[p] assign body .ready none])[H.length]?=some (.loop fn .ready none n env #[p] assign body):=by rw[<-hpl pre];simp[lpB]
  refine zhX.of hfn hid hp ?_
  have h1:=round fn pre x post hw
  rw[zaA]
  refine TR.mono h1 fun te env2 H2 h2=>?_
  cases te with
  | normal=>
    obtain⟨h3,h4⟩:=h2
    refine⟨fn,none,n,env,#[p],assign,body,h3,?_⟩
    refine TR.mono h4 fun te env3 H3 h5=>?_
    have hN:(Hb pre++[lpB fn n env #[p] assign body .ready none]).length=H.length+1:=by simp[hpl]
    have hun:∀st pe,zaf (H.length+1) [lpB fn n env #[p] assign body st pe]=true:=fun st pe=>by simp only[zaf,Bool.and_true];exact henv
    cases te with
    | normal=>
      obtain⟨g1,g2,g3⟩:=h5
      refine⟨fn,.busy,none,n,env,#[p],assign,body,g3,?_,?_,?_⟩
      ·rw[hN];exact(List.getElem?_eq_some_iff.1 g3).1
      ·rw[hN,zb6 g3,g2];exact zaz (hHb _).2 (hun _ _)
      ·rw[hN,zb6 g3,g2]
       simp only[zdl,zbm,g1]
       (first|exact⟨trivial,rfl⟩|exact⟨trivial,trivial⟩)
    | ret=>
      obtain⟨H0,g1,g2,g3⟩:=h5
      have g4:=hf pre x
      rw[g1]at g4
      refine⟨fn,.busy,none,n,env,#[p],assign,body,g3,?_,?_,?_⟩
      ·rw[hN];exact(List.getElem?_eq_some_iff.1 g3).1
      ·rw[hN,zb6 g3,g2];exact zaz g4.2 (hun _ _)
      ·rw[hN,zb6 g3,g2]
       simp only[zdl,zbm,g1]
       (first|exact⟨trivial,rfl⟩|exact⟨trivial,trivial⟩)
    | exit i=>
      obtain⟨H0,g1,g2,g3⟩:=h5
      have g4:=hf pre x
      rw[g1]at g4
      refine⟨fn,.busy,none,n,env,#[p],assign,body,g3,?_,?_,?_⟩
      ·rw[hN];exact(List.getElem?_eq_some_iff.1 g3).1
      ·rw[hN,zb6 g3,g2];exact zaz g4.2 (hun _ _)
      ·rw[hN,zb6 g3,g2]
       simp only[zdl,zbm,g1]
       (first|exact⟨trivial,rfl⟩|exact⟨trivial,trivial⟩)
    | panic v=>
      obtain⟨H0,g1,g2,g3⟩:=h5
      have g4:=hf pre x
      rw[g1]at g4
      have e3:H3.take (H.length+1)=H0++[lpB fn n env #[p] assign body .busy none]:=by
       have hl:=(List.getElem?_eq_some_iff.1 g3)
       rw[List.take_succ_eq_append_getElem hl.1,g2,hl.2]
      refine⟨?_,?_,?_,?_⟩
      ·rw[hN];exact g4.1
      ·rw[hN];exact(List.getElem?_eq_some_iff.1 g3).1
      ·rw[hN,e3];exact zaz g4.2.2 (hun _ _)
      ·rw[hN,e3]
       simp only[zdl,zbm,g1]
       (first|exact⟨trivial,rfl⟩|exact⟨trivial,trivial⟩)
  | ret=>exact h2.elim
  | exit i=>exact h2.elim
  | panic v=>exact h2.elim
def zaH:Ex->Int
 | .mk _ _ _ _ _ l=>(l.attach.map fun x=>zaH x.1).foldl max 0+1
decreasing_by
 have:=List.sizeOf_lt_of_mem x.2
 simp;omega
theorem zdZ(e:Ex):zaH e=(e.args.map zaH).foldl max 0+1:=by cases e;rw[zaH];simp[Ex.args]
theorem zdC(b:Int):∀(l:List Int) (a:Int),a≤b->(∀x∈l,x≤b)->l.foldl max a≤b
 | [],a,h,_=>h
 | x::l,a,h,h2=>zdC b l _ (by have:=h2 x List.mem_cons_self;omega) (fun y hy=>h2 y (List.mem_cons_of_mem _ hy))
theorem zdE:∀(l:List Int) (a:Int),a≤l.foldl max a
 | [],a=>Int.le_refl _
 | x::l,a=>by have:=zdE l (max a x);simp only[List.foldl_cons];omega
theorem zjO(e:Ex):1≤zaH e/\zaH e≤wEx e:=by
 generalize hn:wEx e=n
 induction n using Nat.strongRecOn generalizing e with
 | ind n ih=>
   rw[zdZ]
   have h1:=zdE (e.args.map zaH) 0
   have h2:(e.args.map zaH).foldl max 0≤(n:Int)-1:=by
    refine zdC _ _ _ (by have:=zaI e;omega) fun y hy=>?_
    obtain⟨x,hx,rfl⟩:=List.mem_map.1 hy
    have:=zaE hx
    have:=(ih (wEx x) (by omega) x rfl).2
    omega
   omega
theorem zaG{α:Type}{l:List α}{k:Nat}(h:k<l.length):l.take (k+1)=l.take k++[l[k]]:=List.take_succ_eq_append_getElem h
theorem zlL:∀(m:Nat) (e:Ex),wEx e≤m->wEx e≤1000000000->Pure Tryz.prog 117 [.t (exT e)] (.i (zaH e)):=by
 intro m
 induction m with
 | zero=>intro e he;have:=zaI e;omega
 | succ m ih0=>
   intro e he hb
   have ih:∀x∈e.args,Pure Tryz.prog 117 [.t (exT x)] (.i (zaH x)):=fun x hx=>ih0 x (by have:=zaE hx;omega) (by have:=zaE hx;omega)
   clear ih0
   have hll:=zcq e
   have hdl:∀x∈e.args,zaH x≤1000000000:=fun x hx=>by have:=(zjO x).2;have:=zaE hx;omega
   rw[zdZ,zaA]
   unfold exC
   generalize e.args=l at ih hll hdl⊢
   have hml:(l.map exT).length=l.length:=List.length_map _
   refine so Tryz.func117 ?_
   repeat' (first|refine wu ?_|exact wkc|intro hc|refine wk2 ?_ ?_|fail)
   refine TR.zal l.length (fun _=>True) (fun j=>[(3,.i (((l.take j).map zaH).foldl max 0)),(7,.t (.sl 6 (l.map exT))),(8,.i l.length),(9,.i j)]) (fun _=>[]) trivial (fun j hlt _=>?_) (fun _=>?_) ⟨rfl,rfl,by rw[<-hml];rfl,rfl,trivial⟩
   ·have hx:=zbd hlt
    have hs:=ih l[j] (List.getElem_mem hlt)
    rw[zaA]at hs
    have hk:((l.take (j+1)).map zaH).foldl max 0=max (((l.take j).map zaH).foldl max 0) (zaH l[j]):=by rw[zaG hlt];simp only[List.map_append,List.map_cons,List.map_nil,List.foldl_append,List.foldl_cons,List.foldl_nil]
    generalize l[j]=x at hx hs hk
    unfold exC at hx hs
    repeat' (first|refine wu ?_|exact wkc|intro hc|refine wk2 ?_ ?_|refine wv hs ?_|fail)
    exact zab.zak hlt trivial (by(try dsimp only);rw[hk];exact⟨rfl,rfl,rfl,rfl,trivial⟩)
   ·rw[List.take_length]
    have h1:=zdC 1000000000 (l.map zaH) 0 (by omega) (fun y hy=>by obtain⟨x,hx,rfl⟩:=List.mem_map.1 hy;exact hdl x hx)
    have h2:=zdE (l.map zaH) 0
    repeat' (first|refine wu ?_|exact wkc|intro hc|refine wk2 ?_ ?_|fail)
    exact wkr
theorem znO(e:Ex)(h:wEx e≤1000000000):Pure Tryz.prog 117 [.t (exT e)] (.i (zaH e)):=zlL _ e (Nat.le_refl _) h
theorem zlg:∀(m:Nat) (e:Ex),wEx e≤m->wEx e≤1000000000->Pure Tryz.prog 126 [.t (exT e)] (.i (zaH e)):=by
 intro m
 induction m with
 | zero=>intro e he;have:=zaI e;omega
 | succ m ih0=>
   intro e he hb
   have ih:∀x∈e.args,Pure Tryz.prog 126 [.t (exT x)] (.i (zaH x)):=fun x hx=>ih0 x (by have:=zaE hx;omega) (by have:=zaE hx;omega)
   clear ih0
   have hll:=zcq e
   have hdl:∀x∈e.args,zaH x≤1000000000:=fun x hx=>by have:=(zjO x).2;have:=zaE hx;omega
   rw[zdZ,zaA]
   have hc0:exC e=[T.n e.kind,T.n e.op,T.n e.t,T.n e.v,.s e.name,.sl 6 (e.args.map exT)]:=rfl
   rw[hc0]
   generalize e.args=l at ih hll hdl⊢
   have hml:(l.map exT).length=l.length:=List.length_map _
   refine so Tryz.func126 ?_
   repeat' (first|refine wu ?_|exact wkc|intro hc|refine wk2 ?_ ?_|fail)
   refine TR.zal l.length (fun _=>True) (fun j=>[(3,.i (((l.take j).map zaH).foldl max 0)),(1,.cp [T.n e.kind,T.n e.op,T.n e.t,T.n e.v,.s e.name,.sl 6 (l.map exT)] 0),(4,.i j)]) (fun _=>[]) trivial (fun j hlt _=>?_) (fun _=>?_)
   ·have hx:=zbd hlt
    have hs:=ih l[j] (List.getElem_mem hlt)
    rw[zaA]at hs
    have hk:((l.take (j+1)).map zaH).foldl max 0=max (((l.take j).map zaH).foldl max 0) (zaH l[j]):=by rw[zaG hlt];simp only[List.map_append,List.map_cons,List.map_nil,List.foldl_append,List.foldl_cons,List.foldl_nil]
    generalize l[j]=x at hx hs hk
    unfold exC at hx hs
    repeat' (first|refine wu ?_|exact wkc|intro hc|refine wk2 ?_ ?_|refine wv hs ?_|fail)
    exact zab.zak hlt trivial (by(try dsimp only);rw[hk];exact⟨rfl,rfl,rfl,trivial⟩)
   ·rw[List.take_length]
    have h1:=zdC 1000000000 (l.map zaH) 0 (by omega) (fun y hy=>by obtain⟨x,hx,rfl⟩:=List.mem_map.1 hy;exact hdl x hx)
    have h2:=zdE (l.map zaH) 0
    repeat' (first|refine wu ?_|exact wkc|intro hc|refine wk2 ?_ ?_|fail)
    exact wkr
theorem zlU(e:Ex)(h:wEx e≤1000000000):Pure Tryz.prog 126 [.t (exT e)] (.i (zaH e)):=zlg _ e (Nat.le_refl _) h
theorem znR(f:Ex->Nat)(l:List Ex)(j:Nat):((l.take j).map f).sum≤(l.map f).sum:=by
 conv=>rhs;rw[<-List.take_append_drop j l]
 rw[List.map_append,List.sum_append];omega
theorem zkB:∀(m:Nat) (e:Ex),wEx e≤m->wEx e≤1000000000->Pure Tryz.prog 125 [.t (exT e)] (.i (wEx e)):=by
 intro m
 induction m with
 | zero=>intro e he;have:=zaI e;omega
 | succ m ih0=>
   intro e he hb
   have ih:∀x∈e.args,Pure Tryz.prog 125 [.t (exT x)] (.i (wEx x)):=fun x hx=>ih0 x (by have:=zaE hx;omega) (by have:=zaE hx;omega)
   clear ih0
   have hll:=zcq e
   rw[zet]at hb hll⊢
   rw[zaA]
   have hc0:exC e=[T.n e.kind,T.n e.op,T.n e.t,T.n e.v,.s e.name,.sl 6 (e.args.map exT)]:=rfl
   rw[hc0]
   generalize e.args=l at ih hll hb⊢
   have hml:(l.map exT).length=l.length:=List.length_map _
   refine so Tryz.func125 ?_
   repeat' (first|refine wu ?_|exact wkc|intro hc|refine wk2 ?_ ?_|fail)
   refine TR.zal l.length (fun _=>True) (fun j=>[(3,.i ((1+((l.take j).map wEx).sum:Nat):Int)),(1,.cp [T.n e.kind,T.n e.op,T.n e.t,T.n e.v,.s e.name,.sl 6 (l.map exT)] 0),(4,.i j)]) (fun _=>[]) trivial (fun j hlt _=>?_) (fun _=>?_)
   ·have hx:=zbd hlt
    have hs:=ih l[j] (List.getElem_mem hlt)
    rw[zaA]at hs
    have hk:((l.take (j+1)).map wEx).sum=((l.take j).map wEx).sum+wEx l[j]:=by rw[zaG hlt];simp only[List.map_append,List.map_cons,List.map_nil,List.sum_append,List.sum_cons,List.sum_nil,Nat.add_zero]
    have hle:=znR wEx l (j+1)
    generalize l[j]=x at hx hs hk
    unfold exC at hx hs
    repeat' (first|refine wu ?_|exact wkc|intro hc|refine wk2 ?_ ?_|refine wv hs ?_|fail)
    exact zab.zak hlt trivial (by(try dsimp only);rw[hk,<-Nat.add_assoc];exact⟨rfl,rfl,rfl,trivial⟩)
   ·rw[List.take_length]
    repeat' (first|refine wu ?_|exact wkc|intro hc|refine wk2 ?_ ?_|fail)
    exact wkr
theorem zl5(e:Ex)(h:wEx e≤1000000000):Pure Tryz.prog 125 [.t (exT e)] (.i (wEx e)):=zkB _ e (Nat.le_refl _) h
end Go.Proofs.YtcbhlhmebbkgnaaGreat
