import Derived.Test.YtddaclniamlmbaaGreatDoorPk10
import Derived.Test.YtddaclniamlmbaaGreatDoorPk11
import Derived.Test.YtddaclniamlmbaaGreatDoorPk13
set_option linter.unusedSimpArgs false
set_option linter.unusedVariables false
namespace Go.TL
open Go
theorem unders_t(k:Nat):∀(ts:List T),unders k (ts.map .t)=true
 | []=>rfl
 | t::ts=>by simp[unders,SV.under,unders_t k ts]
theorem rens_t(r:Nat->Nat):∀(ts:List T),rens r (ts.map .t)=ts.map .t
 | []=>rfl
 | t::ts=>by simp[rens,SV.ren,rens_t r ts]
section rules
variable {P:Program}{n:Nat}{env:Env}{H:Heap}{K:TK}{all:Array Oper}{rest:List Oper}{tab:Tab}
variable {d:Nat}{ty:TypeId}{pos:String}{aft:Array Edge}
theorem hands_none(H:Heap):Hands H [] []:=hands_range (N:=0) (Nat.zero_le _) rfl rfl
theorem TO.callMs{cargs:List SV}{tl:List T}{sz off len:Nat}{f:Operand}{fid:FuncId}{caps:List SV}{args:Array Operand}{ts:Array TypeId}{vs:List SV}
  (hs:Sound P fid cargs [] fun r H'=>r= .ret (.ms sz 0 off len)/\H'=[.cells (tl.map .t)])(hd:Nat.ble (d+1) n=true)
  (hf:env.val f=some (.fn fid caps))(ha:env.vals args.toList=some vs)(hl:Les (vs++caps) cargs)(hu:unders 0 cargs=true)
  (k:TO false P n all rest ((d,.ms sz H.length off len)::env) (H++[.cells (tl.map .t)]) K):
  TO false P n all (⟨some d,.call { callee:=.value f,args:=args,argTypes:=ts },ty,pos,aft,none⟩::rest) env H K:=
 TO.call1 [] hs hd hf ha (by rw[rens_under (N:=0) (fun j hj=>by omega) _ hu];exact hl) hu (hands_none H) (by simp[SV.ren,names]) (by
  simp only[patch,List.map_cons,List.map_nil,Blk.ren,rens_t]) k
theorem TO.append_none(hT:TabOk P tab){t t' e:TypeId}{i i' ie:TyI}{sz:Nat}{x y:Operand}{vy:SV}(hd:Nat.ble (d+1) n=true)(ht:tab.get t=some i)(hk:i.k= .slice e)(ht':tab.get t'=some i')(hk':i'.k= .slice e)
  (he:tab.get e=some ie)(hs:ie.size=sz)(hpos:Nat.ble 1 sz=true)(hx:env.val x=some (.t (.v (.slice none 0 0))))(hy:env.val y=some vy)(hvy:vy.elems sz=some [])
  (k:TO false P n all rest ((d,.t (.v (.slice none 0 0)))::env) H K):TO false P n all (⟨some d,.call { callee:=.builtin .append,args:=#[x,y],argTypes:=#[t,t'] },ty,pos,aft,none⟩::rest) env H K:=
 TO.eff hd (fun m ac g1 g2 g3=>by
  have hp':=Nat.le_of_ble_eq_true hpos
  have hy':=(g3.val hy).elems hvy
  obtain⟨ad,cap',hq⟩:=hy'.slice_inv
  rw[hq]at hy'
  obtain⟨g,f0,f1,f2,f3⟩:=firstCells_run (P:=P) hy' (by omega)
  have f0':=f0 m.w rfl
  simp only[List.length_nil]at hq f0'
  refine⟨.slice none 0 0,m,?_,Step.refl m,g2,g1,.t _ _ (.v _)⟩
  simp[execOp,resolve,invoke,builtin,Builtin.append_,underlying,(hT t i ht).slice hk,(hT t' i' ht').slice hk',(hT e ie he).sizeOf,hs,Builtin.lenOf,hq,f0',(g3.val hx).v_eq]) k
theorem run_eql_sl_none{t e:TypeId}(h:P.underlying t=some (.slice e))(p:Option Addr)(len cap:Nat)(w:World):(Go.binOp .eql t (.slice p len cap) (.slice none 0 0)).run P w= .ok (.bool p.isNone) w:=by
 have h':∀d:Nat,(Op.equalIn (d+1) t (.slice p len cap) (.slice none 0 0)).run P w= .ok p.isNone w:=fun d=>by
  cases p <;> simp[Op.equalIn,run_underlying h]
 simp only[Go.binOp]
 simp[Op.equal,Op.maxDepth,h' 9999]
theorem TO.eq_nil_sl(hT:TabOk P tab){t t' e:TypeId}{i:TyI}{sz:Nat}{es:List T}{x:Operand}{v:SV}(hd:Nat.ble (d+1) n=true)(ht:tab.get t=some i)(hk:i.k= .slice e)(hx:env.val x=some v)(hv:v.elems sz=some es)
  (k1:es=[]->TO false P n all rest ((d,.t (.v (.bool true)))::env) H K)(k2:TO false P n all rest ((d,.t (.v (.bool false)))::env) H K):TO false P n all (⟨some d,.binOp .eql t x (.const (.slice none 0 0)) t',ty,pos,aft,none⟩::rest) env H K:=by
 intro φ m a h1 h2 h3 h4
 have h:=(h3.val hx).elems hv
 obtain⟨ad,cap,hq⟩:=h.slice_inv
 rw[hq]at h
 have hrun:(execOp a.eval ⟨some d,.binOp .eql t x (.const (.slice none 0 0)) t',ty,pos,aft,none⟩).run P m.w= .ok (.value (.bool ad.isNone)) m.w:=by
  simp[execOp,eval_const,hq,eqGuard,run_eql_sl_none ((hT t i ht).slice hk)]
 refine wpListIn_plain rfl fun K' hK=>?_
 unfold Oper.wpIn
 refine⟨fun _ _=>trivial,?_⟩
 rw[semAt_val hrun (by intro d e;cases e)]
 simp only[Oper.uponIn]
 refine hK _ _ (TO.step' (Step.refl m) ?_)
 cases ad with
 | none=>
   have he:es=[]:=by
    generalize hl:es.length=q at h
    cases h with
    | nil=>rfl
   exact k1 he φ m _ h1 h2 (h3.put d (Nat.le_of_ble_eq_true hd) (.t _ _ (.v _))) (by simpa [Act.put]using h4)
 | some b=>exact k2 φ m _ h1 h2 (h3.put d (Nat.le_of_ble_eq_true hd) (.t _ _ (.v _))) (by simpa [Act.put]using h4)
theorem TO.build0(hT:TabOk P tab){t e:TypeId}{i ie:TyI}{sz:Nat}(hd:Nat.ble (d+1) n=true)(ht:tab.get t=some i)(hk:i.k= .slice e)(he:tab.get e=some ie)(hs:ie.size=sz)
  (k:TO false P n all rest ((d,.sl sz [] H.length)::env) (H++[.tail 0]) K):TO false P n all (⟨some d,.buildSlice t 0 #[],ty,pos,aft,none⟩::rest) env H K:=
 TO.eff hd (fun m ac h1 h2 h3=>by
  subst h1
  have hrun:(Instr.buildSlice t 0 #[]).run P m.w= .ok (.slice (some ⟨m.w.heap.size,0,none⟩) 0 0) (m.w.alloc (.cells #[] e)):=by
   simp[Instr.buildSlice,underlying,(hT t i ht).slice hk,(hT e ie he).sizeOf,newRow,Instr.fill]
   rw[show Array.range 0= #[] from by decide];simp
  obtain⟨s,hm'⟩:=grow h2 (A':=m.A) (βn:=[⟨m.w.heap.size,0,0⟩]) (Hn:=[.tail 0]) (w':=m.w.alloc (.cells #[] e)) rfl rfl rfl (by simp) (fun b hb=>RowKit.Below.heap_alloc _ _ _ hb) (fun _ _ h=>h) (fun _ _ h=>.inl h) rfl (by
   intro i p k h1 h2 h3
   cases i with
   | zero=>simp at h1;subst h1;left;simp
   | succ i=>simp at h1) (by
   intro i j p q hij h1 h2
   cases i <;> cases j <;> simp at h1 h2 hij) (fun _ _ h h'=>absurd h h') (by
   intro s i p k h1 h2
   cases i with
   | zero=>simp at h1 h2;subst h1;subst h2;exact fun o q1 q2=>by simp only at q1 q2;omega
   | succ i=>simp at h1)
  refine⟨_,_,by simp only[execOp,Array.map_empty,Sem.run_bind,hrun];rfl,s,hm',rfl,?_⟩
  refine .sl _ _ _ _ ⟨m.w.heap.size,0,0⟩ (.empty sz _) (by show(m.β++_)[m.H.length]?=_;rw[<-h2.len];simp) fun q hq=>?_
  have hk':tlOf (m.H++[Blk.tail 0])[m.H.length]?=some q:=hq
  simp[tlOf]at hk'
  subst hk'
  exact⟨Nat.le_refl _,fun _=>⟨some ⟨m.w.heap.size,0,none⟩,0,0,rfl,Nat.le_refl _,rfl,by simp,by simp,rfl⟩⟩) k
end rules
def mixC(cs:List T)(z:List T)(n:Nat):List SV:=cs.map .t++zerosOf z n
theorem mixC_len(cs z:List T)(n:Nat):(mixC cs z n).length=cs.length+n*z.length:=by simp[mixC,zerosOf_len]
theorem zerosOf_drop(z:List T)(n m:Nat)(h:m≤n):(zerosOf z n).drop (m*z.length)=zerosOf z (n-m):=by
 obtain⟨q,rfl⟩:∃q,n=m+q:=⟨n-m,by omega⟩
 have:zerosOf z (m+q)=zerosOf z m++zerosOf z q:=by
  unfold zerosOf
  rw[<-List.map_append,<-List.flatten_append,List.replicate_append_replicate]
 rw[this,List.drop_append_of_le_length (by rw[zerosOf_len];exact Nat.le_refl _),List.drop_of_length_le (by rw[zerosOf_len];exact Nat.le_refl _),List.nil_append]
 congr 1;omega
theorem mixC_splice(cs ys z:List T)(n m off:Nat)(h:m≤n)(ho:off=cs.length)(hy:ys.length=m*z.length):splice (mixC cs z n) off (ys.map .t)=mixC (cs++ys) z (n-m):=by
 subst ho
 unfold splice mixC
 have h1:((cs.map SV.t++zerosOf z n).take cs.length)=cs.map SV.t:=by
  rw[List.take_append_of_le_length (by simp)]
  exact List.take_of_length_le (by simp)
 have h2:(cs.map SV.t++zerosOf z n).drop (cs.length+(ys.map SV.t).length)=zerosOf z (n-m):=by
  rw[List.drop_append,List.drop_of_length_le (by simp),List.nil_append,List.length_map,List.length_map,hy,show cs.length+m*z.length-cs.length=m*z.length from by omega]
  exact zerosOf_drop z n m h
 rw[h1,h2,List.map_append]
theorem mixC_zero(cs z:List T):mixC cs z 0=cs.map .t:=by simp[mixC,zerosOf]
theorem flat_take{sz:Nat}(es:List T)(h:∀e∈es,e.cells.length=sz):∀(k:Nat) (hk:k<es.length),(((es.map T.cells).flatten).drop (k*sz)).take sz=es[k].cells:=by
 induction es with
 | nil=>intro k hk;simp at hk
 | cons e es ih=>
   intro k hk
   have he:=h e List.mem_cons_self
   rw[List.map_cons,List.flatten_cons]
   cases k with
   | zero=>rw[Nat.zero_mul,List.drop_zero,List.take_append_of_le_length (by omega),List.take_of_length_le (by omega)];rfl
   | succ k=>
     rw[List.drop_append,List.drop_of_length_le (by rw[he,Nat.succ_mul];omega),List.nil_append,he,show(k+1)*sz-sz=k*sz from by rw[Nat.succ_mul];omega]
     exact ih (fun x hx=>h x (List.mem_cons_of_mem _ hx)) k (by simpa using hk)
end Go.TL
namespace Go.TL
open Go
section rules
variable {P:Program}{n:Nat}{env:Env}{H:Heap}{K:TK}{all:Array Oper}{rest:List Oper}{tab:Tab}{q:Bool}
variable {d:Nat}{ty:TypeId}{pos:String}{aft:Array Edge}
theorem TO.cap_nil(hT:TabOk P tab){t e:TypeId}{i:TyI}{x:Operand}(hd:Nat.ble (d+1) n=true)(ht:tab.get t=some i)(hk:i.k= .slice e)(hx:env.val x=some (.t (.v (.slice none 0 0))))
  (k:TO q P n all rest ((d,.t (.v (.int .i64 0)))::env) H K):TO q P n all (⟨some d,.call { callee:=.builtin .cap,args:=#[x],argTypes:=#[t] },ty,pos,aft,none⟩::rest) env H K:=
 TO.op hd (fun m ac h1 h2 h3=>⟨.int .i64 0,fun w' hw'=>by
  simp[execOp,resolve,invoke,builtin,Builtin.cap_,underlying,(hT t i ht).slice hk,(h3.val hx).v_eq,goInt],.t _ _ (.v _)⟩) k
theorem TO.slice_nil(hT:TabOk P tab){t e:TypeId}{i ie:TyI}{x z:Operand}{ik:IntKind}(hd:Nat.ble (d+1) n=true)(ht:tab.get t=some i)(hk:i.k= .slice e)(he:tab.get e=some ie)
  (hx:env.val x=some (.t (.v (.slice none 0 0))))(hz:env.val z=some (.t (.v (.int ik 0))))
  (k:TO q P n all rest ((d,.t (.v (.slice none 0 0)))::env) H K):TO q P n all (⟨some d,.slice t x none (some z) none,ty,pos,aft,none⟩::rest) env H K:=
 TO.op hd (fun m ac g1 g2 g3=>by
  refine⟨.slice none 0 0,fun w' hw'=>?_,.t _ _ (.v _)⟩
  have:=slice_sl_run (P:=P) hT ht hk he none 0 0 none (some (ac.eval z)) 0 0 w' (.inl ⟨rfl,rfl⟩) (.inr ⟨ik,by rw[(g3.val hz).v_eq];rfl⟩) (Nat.le_refl _) (Nat.le_refl _)
  simp only[Nat.sub_zero,Option.map_none,ite_self]at this
  simp[execOp,(g3.val hx).v_eq,this]) k
theorem TO.slice_ms0(hT:TabOk P tab){t e:TypeId}{i ie:TyI}{x z:Operand}{sz id off len:Nat}{ik:IntKind}(hd:Nat.ble (d+1) n=true)(ht:tab.get t=some i)(hk:i.k= .slice e)(he:tab.get e=some ie)
  (hx:env.val x=some (.ms sz id off len))(hz:env.val z=some (.t (.v (.int ik 0))))
  (k:TO q P n all rest ((d,.ms sz id off 0)::env) H K):TO q P n all (⟨some d,.slice t x none (some z) none,ty,pos,aft,none⟩::rest) env H K:=
 TO.slice_ms hT hd ht hk he hx (b:=0) hz (Nat.zero_le _) k
end rules
end Go.TL
namespace Go.TL
open Go
theorem under_ts(k:Nat)(ts:List T):blksUnder k [.cells (ts.map .t)]=true:=by
 simp[blksUnder,Blk.under,unders_t]
end Go.TL
namespace Go.Proofs.YtddaclniamlmbaaGreatDoor
open Go Go.TL
attribute [local irreducible] TR TO Then InBlock RetK Sound LoopK Kf GG ThenL
abbrev zD:List T:=[.v (str []),.v (.int .i64 0),.v (.slice none 0 0)]
theorem grow_sound(c:Nat)(h1:1≤c)(h2:c≤3000000000):Sound Tryz.prog 162 [.t (.v (.slice none 0 0)),.i c] [] (fun r H'=>r= .ret (.ms 3 0 0 0)/\H'=[.cells (zerosOf zD c)]):=by
 refine so Tryz.func162 ?_
 repeat' (first|refine wk ?_|exact wkc|intro hc|refine wk2 ?_ ?_|(apply TO.cap_nil tabOk;exact rfl;exact rfl;exact rfl;exact rfl)|(apply TO.slice_nil tabOk;exact rfl;exact rfl;exact rfl;exact rfl;exact rfl;exact rfl)|(apply TO.append_zeros tabOk (c:=c) (ik':=.i64);exact rfl;exact rfl;exact rfl;exact rfl;exact rfl;exact rfl;kernel_rfl;exact rfl;exact rfl;omega;omega;exact rfl)|(apply TO.slice_ms0 tabOk;exact rfl;exact rfl;exact rfl;exact rfl;exact rfl;exact rfl)|fail)
 exact RetK.at 1 rfl (Le.refl _) (Nat.zero_le _) rfl rfl (under_ts 1 _) ⟨rfl,rfl⟩
theorem grow0_sound:Pure Tryz.prog 162 [.t (.v (.slice none 0 0)),.i 0] (.t (.v (.slice none 0 0))):=by
 refine so Tryz.func162 ?_
 repeat' (first|refine wk ?_|exact wkc|intro hc|refine wk2 ?_ ?_|(apply TO.cap_nil tabOk;exact rfl;exact rfl;exact rfl;exact rfl)|fail)
 exact wkr
theorem declT_cells(d:Decl):(declT d).cells.length=3:=rfl
abbrev dls (l:List Decl):T:=.sl 3 (l.map declT)
def declCs(l:List Decl):List T:=((l.map declT).map T.cells).flatten
theorem declCs_len(l:List Decl):(declCs l).length=l.length*3:=by
 have:=(flat_cells (sz:=3) (l.map declT) (fun e he=>by obtain⟨d,_,rfl⟩:=List.mem_map.1 he;rfl)).1
 rw[List.length_map]at this
 exact this
theorem declCs_append(a b:List Decl):declCs (a++b)=declCs a++declCs b:=by simp[declCs]
theorem cat_len{α:Type}{ls:List (List α)}{k:Nat}(h:k<ls.length):(ls.take (k+1)).flatten.length=(ls.take k).flatten.length+ls[k].length/\(ls.take (k+1)).flatten.length≤ls.flatten.length:=by
 constructor
 ·rw[List.take_succ_eq_append_getElem h,List.flatten_append,List.length_append];simp
 ·conv=>rhs;rw[<-List.take_append_drop (k+1) ls]
  rw[List.flatten_append,List.length_append];omega
theorem cat_at{α:Type}{ls:List (List α)}{k:Nat}(h:k<ls.length):(ls.take (k+1)).flatten=(ls.take k).flatten++ls[k]:=by
 rw[List.take_succ_eq_append_getElem h,List.flatten_append];simp
theorem at_dls{ls:List (List Decl)}{k:Nat}(h:k<ls.length):(ls.map dls)[k]?=some (dls ls[k]):=by simp[h]
theorem concat_sound(ls:List (List Decl))(hl:ls.length≤1000000)(hn:ls.flatten.length≤3000000000)(h1:1≤ls.flatten.length):
  Sound Tryz.prog 85 [.t (.sl 1 (ls.map dls))] [] (fun r H'=>r= .ret (.ms 3 0 0 ls.flatten.length)/\H'=[.cells ((declCs ls.flatten).map .t)]):=by
 have hml:(ls.map dls).length=ls.length:=List.length_map _
 refine so Tryz.func85 ?_
 repeat' (first|refine wk ?_|exact wkc|intro hc|refine wk2 ?_ ?_|fail|fail)
 refine TR.loopN ls.length (fun _=>True) (fun k=>[(0,.t (.sl 1 (ls.map dls))),(3,.i ((ls.take k).flatten.length:Nat)),(9,.t (.sl 1 (ls.map dls))),(10,.i ls.length),(11,.i k)]) (fun _=>[]) trivial (fun k hlt _=>?_) (fun _=>?_) ⟨rfl,rfl,rfl,by rw[<-hml];rfl,rfl,trivial⟩
 ·obtain⟨f1,f2⟩:=cat_len hlt
  have hx:=at_dls hlt
  have hm2:(ls[k].map declT).length=ls[k].length:=List.length_map _
  generalize ls[k]=a at hx f1 hm2
  repeat' (first|refine wk ?_|exact wkc|intro hc|refine wk2 ?_ ?_|fail|fail)
  exact LoopK.nextN hlt trivial ⟨rfl,by rw[f1];simp only[List.length_map];rfl,rfl,rfl,rfl,trivial⟩
 ·rw[List.take_length]
  repeat' (first|refine wk ?_|exact wkc|intro hc|refine wk2 ?_ ?_|(apply TO.callMs (tl:=(List.replicate ls.flatten.length zD).flatten) (grow_sound ls.flatten.length h1 hn);exact rfl;exact rfl;exact rfl;exact Les.refl _;exact rfl)|fail)
  refine TR.loopN ls.length (fun _=>True) (fun k=>[(6,.ms 3 0 0 (ls.take k).flatten.length),(25,.t (.sl 1 (ls.map dls))),(26,.i ls.length),(27,.i k)]) (fun k=>[.cells (mixC (declCs (ls.take k).flatten) zD (ls.flatten.length-(ls.take k).flatten.length))]) trivial (fun k hlt _=>?_) (fun _=>?_) ⟨rfl,rfl,by rw[<-hml];rfl,rfl,trivial⟩
  ·obtain⟨f1,f2⟩:=cat_len hlt
   have f3:=cat_at hlt
   have hx:=at_dls hlt
   have hm2:(ls[k].map declT).length=ls[k].length:=List.length_map _
   have hfit:0+((ls.take k).flatten.length+(ls[k].map declT).length)*3≤(mixC (declCs (ls.take k).flatten) zD (ls.flatten.length-(ls.take k).flatten.length)).length:=by
    rw[mixC_len,declCs_len,hm2]
    show _≤_+_*3
    omega
   have hsp:[Blk.cells (mixC (declCs (ls.take k).flatten) zD (ls.flatten.length-(ls.take k).flatten.length))].set 0 (.cells (splice (mixC (declCs (ls.take k).flatten) zD (ls.flatten.length-(ls.take k).flatten.length)) (0+(ls.take k).flatten.length*3) ((((ls[k].map declT).map T.cells).flatten).map .t)))=
     [Blk.cells (mixC (declCs (ls.take (k+1)).flatten) zD (ls.flatten.length-(ls.take (k+1)).flatten.length))]:=by
    have e:=mixC_splice (declCs (ls.take k).flatten) (declCs ls[k]) zD (ls.flatten.length-(ls.take k).flatten.length) ls[k].length (0+(ls.take k).flatten.length*3) (by omega) (by rw[declCs_len];omega) (declCs_len _)
    refine congrArg (fun c=>[Blk.cells c]) (e.trans ?_)
    rw[f3,declCs_append,List.length_append]
    congr 1
    omega
   generalize hb1:(ls.take (k+1)).flatten=b1 at*
   generalize (ls.take k).flatten=b0 at*
   generalize ls[k]=a at*
   repeat' (first|refine wk ?_|exact wkc|intro hc|refine wk2 ?_ ?_|(apply TO.append_ms tabOk;exact rfl;exact rfl;exact rfl;exact rfl;exact rfl;exact rfl;exact rfl;exact rfl;exact rfl;exact rfl;exact rfl;exact rfl;exact hfit;exact hsp)|fail)
   exact LoopK.nextN hlt trivial ⟨by rw[hb1,f1,<-hm2];rfl,rfl,rfl,rfl,trivial⟩ (by rw[hb1])
  ·rw[List.take_length,Nat.sub_self,mixC_zero]
   repeat' (first|refine wk ?_|exact wkc|intro hc|refine wk2 ?_ ?_|fail|fail)
   exact RetK.at 1 rfl (Le.refl _) (Nat.zero_le _) rfl rfl (under_ts 1 _) ⟨rfl,rfl⟩
def flat:Ex->List Ex
 | .mk k o t v n l=>.mk k o t v n l::(l.attach.map fun x=>flat x.1).flatten
decreasing_by
 have:=List.sizeOf_lt_of_mem x.2
 simp;omega
def flats(l:List Ex):List Ex:=(l.map flat).flatten
theorem flat_eq(e:Ex):flat e=e::flats e.args:=by
 cases e
 rw[flat];simp[flats,Ex.args]
inductive Out where
 | go
 | jump (c:Code) (H:Heap)
 | panic (v:SV) (H:Heap)
def scanO(f:List Ex->Ex->Out):List Ex->List Ex->Out
 | _,[]=>.go
 | pre,x::l=>match f pre x with
   | .go=>scanO f (pre++[x]) l
   | o=>o
theorem scanO_append(f:List Ex->Ex->Out):∀(a b pre:List Ex),scanO f pre (a++b)=match scanO f pre a with
  | .go=>scanO f (pre++a) b
  | o=>o
 | [],b,pre=>by simp[scanO]
 | x::a,b,pre=>by
   simp only[List.cons_append,scanO]
   cases f pre x with
   | go=>simp only[];rw[scanO_append f a b (pre++[x])];simp
   | jump c H=>rfl
   | panic v H=>rfl
structure EachS where
 L0:Nat
 Hb:List Ex->Heap
 lp:LoopState->Option Code->Blk
 f:List Ex->Ex->Out
def EachS.ok(S:EachS):Prop:=
 (∀pre,(S.Hb pre).length=S.L0/\blksUnder (S.L0+1) (S.Hb pre)=true)/\(∀st pe,(S.lp st pe).under (S.L0+1)=true)/\
 ∀pre x,match S.f pre x with
  | .go=>True
  | .jump c H=>H.length=S.L0/\blksUnder (S.L0+1) H=true
  | .panic v H=>v.under (S.L0+1)=true/\H.length=S.L0/\blksUnder (S.L0+1) H=true
def EachR(S:EachS)(pre xs:List Ex)(r:Res)(H:Heap):Prop:=
 match scanO S.f pre xs with
 | .go=>r= .ret (.b true)/\H=S.Hb (pre++xs)++[S.lp .ready none]
 | .jump c H0=>r= .ret (.b false)/\H=H0++[S.lp .done (some c)]
 | .panic v H0=>r= .panic v/\H=H0++[S.lp .busy none]
theorem flats_append(a b:List Ex):flats (a++b)=flats a++flats b:=by simp[flats]
theorem flats_split(l:List Ex){j:Nat}(h:j<l.length):flats l=flats (l.take j)++(flat l[j]++flats (l.drop (j+1))):=by
 have:l=l.take j++([l[j]]++l.drop (j+1)):=by
  rw[List.singleton_append,<-List.drop_eq_getElem_cons h,List.take_append_drop]
 conv=>lhs;rw[this]
 rw[flats_append,flats_append]
 simp[flats]
theorem flats_take(l:List Ex){j:Nat}(h:j<l.length):flats (l.take (j+1))=flats (l.take j)++flat l[j]:=by
 rw[List.take_succ_eq_append_getElem h,flats_append];simp[flats]
theorem flat_pos(e:Ex):0<(flat e).length:=by rw[flat_eq];simp
theorem flats_len:∀l:List Ex,l.length≤(flats l).length
 | []=>Nat.zero_le _
 | x::l=>by
   have h1:=flats_len l
   have:=flat_pos x
   simp only[flats,List.map_cons,List.flatten_cons,List.length_append,List.length_cons]at h1⊢
   omega
theorem flat_len(e:Ex):(flat e).length=wEx e:=by
 generalize hn:wEx e=n
 induction n using Nat.strongRecOn generalizing e with
 | ind n ih=>
   have h:∀l:List Ex,(∀x∈l,wEx x<n)->(flats l).length=(l.map wEx).sum:=by
    intro l
    induction l with
    | nil=>intro _;rfl
    | cons x l ihl=>
      intro hx
      have h1:=ihl fun y hy=>hx y (List.mem_cons_of_mem _ hy)
      have h2:=ih (wEx x) (hx x List.mem_cons_self) x rfl
      simp only[flats,List.map_cons,List.flatten_cons,List.length_append,List.sum_cons]at h1⊢
      omega
   rw[flat_eq,List.length_cons,h e.args (fun x hx=>by have:=wEx_arg hx;omega)]
   rw[wEx_eq]at hn
   omega
theorem blksUnder_append{k:Nat}:∀ {a b:Heap},blksUnder k a=true->blksUnder k b=true->blksUnder k (a++b)=true
 | [],b,_,h=>h
 | x::a,b,h1,h2=>by
   simp only[blksUnder,Bool.and_eq_true]at h1
   simp[blksUnder,h1.1,blksUnder_append h1.2 h2]
theorem scanO_out{S:EachS}(h:S.ok):∀(xs pre:List Ex),match scanO S.f pre xs with
  | .go=>True
  | .jump c H=>H.length=S.L0/\blksUnder (S.L0+1) H=true
  | .panic v H=>v.under (S.L0+1)=true/\H.length=S.L0/\blksUnder (S.L0+1) H=true
 | [],pre=>by simp[scanO]
 | x::xs,pre=>by
   have h2:=h.2.2 pre x
   simp only[scanO]
   cases hq:S.f pre x with
   | go=>exact scanO_out h xs (pre++[x])
   | jump c H=>rw[hq]at h2;exact h2
   | panic v H=>rw[hq]at h2;exact h2
theorem eachR_within{S:EachS}(h:S.ok)(pre xs:List Ex):Within (S.L0+1) (EachR S pre xs):=by
 have ho:=scanO_out h xs pre
 have one:∀st pe,blksUnder (S.L0+1) [S.lp st pe]=true:=fun st pe=>by simp[blksUnder,h.2.1]
 constructor
 ·intro v H' hr
  unfold EachR at hr
  split at hr
  ·obtain⟨h1,rfl⟩:=hr
   cases h1
   exact⟨rfl,by simp[(h.1 _).1],blksUnder_append (h.1 _).2 (one _ _)⟩
  ·rename_i c H0 hq
   rw[hq]at ho
   obtain⟨h1,rfl⟩:=hr
   cases h1
   exact⟨rfl,by simp[ho.1],blksUnder_append ho.2 (one _ _)⟩
  ·obtain⟨h1,_⟩:=hr;cases h1
 ·intro v H' hr
  unfold EachR at hr
  split at hr
  ·obtain⟨h1,_⟩:=hr;cases h1
  ·obtain⟨h1,_⟩:=hr;cases h1
  ·rename_i u H0 hq
   rw[hq]at ho
   obtain⟨h1,rfl⟩:=hr
   cases h1
   exact⟨ho.1,by simp[ho.2.1],blksUnder_append ho.2.2 (one _ _)⟩
set_option maxHeartbeats 1000000 in
theorem each_sound (S:EachS) (hS:S.ok) (whole:List Ex) (hW:whole.length≤1000000000) (hY:∀pre x post,whole=pre++x::post->YSound Tryz.prog S.L0 (.t (exT x)) (S.Hb pre++[S.lp .ready none]) (EachR S pre [x])):
  ∀(m:Nat) (e:Ex),wEx e≤m->∀(pre post:List Ex),whole=pre++(flat e++post)->Sound Tryz.prog 129 [.t (exT e),.yl S.L0] (S.Hb pre++[S.lp .ready none]) (EachR S pre (flat e)):=by
 intro m
 induction m with
 | zero=>intro e he;have:=wEx_pos e;omega
 | succ m ih0=>
   intro e he pre post hw
   have ih:∀x∈e.args,∀(pre post:List Ex),whole=pre++(flat x++post)->Sound Tryz.prog 129 [.t (exT x),.yl S.L0] (S.Hb pre++[S.lp .ready none]) (EachR S pre (flat x)):=
    fun x hx=>ih0 x (by have:=wEx_arg hx;omega)
   clear ih0
   have hN:(S.Hb pre++[S.lp .ready none]).length=S.L0+1:=by simp[(hS.1 _).1]
   have hbu:∀pre,blksUnder (S.L0+1) (S.Hb pre++[S.lp .ready none])=true:=fun pre=>blksUnder_append (hS.1 _).2 (by simp[blksUnder,hS.2.1])
   have hy:=hY pre e (flats e.args++post) (by rw[hw,flat_eq];simp)
   have hflat:=flat_eq e
   rw[exT_eq]at hy⊢
   have hll:e.args.length≤1000000000:=by
    have h1:=flats_len e.args
    have h2:=congrArg List.length hw
    simp[hflat]at h2
    omega
   generalize hl:e.args=l at ih hflat hll
   have hC:exC e=[T.n e.kind,T.n e.op,T.n e.t,T.n e.v,.s e.name,.sl 6 (l.map exT)]:=by rw[<-hl];rfl
   rw[hC]at hy⊢
   have hml:(l.map exT).length=l.length:=List.length_map _
   generalize hG:S.Hb pre++[S.lp .ready none]=G at hy hN⊢
   have hGu:blksUnder (S.L0+1) G=true:=by rw[<-hG];exact hbu pre
   refine so Tryz.func129 ?_
   repeat' (first|refine wu ?_|exact wkc|intro hc|refine wk2 ?_ ?_|fail)
   have hGt:G.take (S.L0+1)=G:=List.take_of_length_le (by omega)
   have hGd:G.drop (S.L0+1)=[]:=List.drop_of_length_le (by omega)
   refine TO.yieldT (S.L0+1) (arg:=.t (.ag [T.n e.kind,T.n e.op,T.n e.t,T.n e.v,.s e.name,.sl 6 (l.map exT)])) hy (eachR_within hS pre [_]) rfl rfl rfl rfl (Nat.lt_succ_self _) (by omega) hGt hGu ?_ ?_
   ·intro u H' hr
    simp only[EachR,scanO]at hr
    rw[hGd,List.append_nil]
    cases hf:S.f pre e with
    | panic v0 H0=>rw[hf]at hr;cases hr.1
    | jump c H0=>
      rw[hf]at hr
      obtain⟨h1,rfl⟩:=hr
      cases h1
      have ho:=hS.2.2 pre e
      rw[hf]at ho
      repeat' (first|refine wu ?_|exact wkc|intro hc|refine wk2 ?_ ?_|fail)
      refine RetK.at (v:=.b false) (S.L0+1) rfl (Le.of_eq rfl) (by omega) (by simp[ho.1]) rfl (blksUnder_append ho.2 (by simp[blksUnder,hS.2.1])) ?_
      simp[EachR,hflat,scanO,hf]
    | go=>
      rw[hf]at hr
      obtain⟨h1,rfl⟩:=hr
      cases h1
      repeat' (first|refine wu ?_|exact wkc|intro hc|refine wk2 ?_ ?_|fail)
      refine TR.loopN l.length (fun j=>scanO S.f (pre++[e]) (flats (l.take j))= .go) (fun j=>[(14,.i j),(13,.i l.length),(12,.t (.sl 6 (l.map exT))),(1,.yl S.L0),(4,.b false)])
       (fun j=>S.Hb (pre++[e]++flats (l.take j))++[S.lp .ready none]) (by simp[flats,scanO]) (fun j hlt hsc=>?_) (fun hsc=>?_) ⟨rfl,by rw[<-hml];rfl,rfl,rfl,rfl,trivial⟩ (by simp[flats])
      ·have hGj:(S.Hb (pre++[e]++flats (l.take j))++[S.lp .ready none]).length=S.L0+1:=by simp[(hS.1 _).1]
       have hGjd:(S.Hb (pre++[e]++flats (l.take j))++[S.lp .ready none]).drop (S.L0+1)=[]:=List.drop_of_length_le (by omega)
       have hx:=at_exT hlt
       have hw':whole=(pre++[e]++flats (l.take j))++(flat l[j]++(flats (l.drop (j+1))++post)):=by
        rw[hw,hflat,flats_split l hlt];simp
       have hs:=ih l[j] (List.getElem_mem hlt) _ _ hw'
       rw[exT_eq]at hs
       repeat' (first|refine wu ?_|exact wkc|intro hc|refine wk2 ?_ ?_|fail)
       refine TO.callT (S.L0+1) hs (eachR_within hS _ _) rfl rfl rfl ⟨Le.of_eq rfl,Le.refl _,trivial⟩ (by simp[unders,SV.under,Nat.blt_eq]) (by omega) (List.take_of_length_le (by omega)) (hbu _) ?_ ?_
       ·intro u H2 hr2
        have hout:=scanO_out hS (flat l[j]) (pre++[e]++flats (l.take j))
        simp only[EachR]at hr2
        rw[hGjd,List.append_nil]
        cases ho:scanO S.f (pre++[e]++flats (l.take j)) (flat l[j]) with
        | panic v0 H0=>rw[ho]at hr2;cases hr2.1
        | jump c H0=>
          rw[ho]at hr2 hout
          obtain⟨h1,rfl⟩:=hr2
          cases h1
          repeat' (first|refine wu ?_|exact wkc|intro hc|refine wk2 ?_ ?_|fail)
          refine RetK.at (v:=.b false) (S.L0+1) rfl (Le.of_eq rfl) (by omega) (by simp[hout.1]) rfl (blksUnder_append hout.2 (by simp[blksUnder,hS.2.1])) ?_
          have:scanO S.f pre (flat e)= .jump c H0:=by
           rw[hflat,scanO,hf]
           simp only[]
           rw[flats_split l hlt,scanO_append,hsc]
           simp only[]
           rw[scanO_append,ho]
          simp[EachR,this]
        | go=>
          rw[ho]at hr2
          obtain⟨h1,rfl⟩:=hr2
          cases h1
          repeat' (first|refine wu ?_|exact wkc|intro hc|refine wk2 ?_ ?_|fail)
          refine LoopK.nextN hlt ?_ ⟨rfl,rfl,rfl,rfl,rfl,trivial⟩ (by rw[flats_take l hlt];simp)
          rw[flats_take l hlt,scanO_append,hsc]
          exact ho
       ·intro u H2 hr2
        have hout:=scanO_out hS (flat l[j]) (pre++[e]++flats (l.take j))
        simp only[EachR]at hr2
        rw[hGjd,List.append_nil]
        cases ho:scanO S.f (pre++[e]++flats (l.take j)) (flat l[j]) with
        | panic v0 H0=>
          rw[ho]at hr2 hout
          obtain⟨h1,rfl⟩:=hr2
          cases h1
          repeat' (first|refine wu ?_|exact wkc|intro hc|refine wk2 ?_ ?_|fail)
          refine LoopK.panic ?_
          repeat' (first|refine wu ?_|exact wkc|intro hc|refine wk2 ?_ ?_|fail)
          refine RetK.atP (S.L0+1) ?_ ?_ hout.1 ?_ ?_
          ·omega
          ·simp[hout.2.1]
          ·exact blksUnder_append hout.2.2 (by simp[blksUnder,hS.2.1])
          have:scanO S.f pre (flat e)= .panic u H0:=by
           rw[hflat,scanO,hf]
           simp only[]
           rw[flats_split l hlt,scanO_append,hsc]
           simp only[]
           rw[scanO_append,ho]
          simp[EachR,this]
        | jump c H0=>rw[ho]at hr2;cases hr2.1
        | go=>rw[ho]at hr2;cases hr2.1
      ·have hGj:(S.Hb (pre++[e]++flats (l.take l.length))++[S.lp .ready none]).length=S.L0+1:=by simp[(hS.1 _).1]
       repeat' (first|refine wu ?_|exact wkc|intro hc|refine wk2 ?_ ?_|fail)
       refine RetK.at (v:=.b true) (S.L0+1) rfl (Le.of_eq rfl) (by omega) hGj rfl (hbu _) ?_
       have:scanO S.f pre (flat e)= .go:=by
        rw[hflat,scanO,hf]
        simp only[]
        rw[List.take_length]at hsc
        exact hsc
       simp only[EachR,this]
       exact⟨trivial,by rw[hflat];simp⟩
   ·intro u H' hr
    simp only[EachR,scanO]at hr
    rw[hGd,List.append_nil]
    cases hf:S.f pre e with
    | panic v0 H0=>
      have ho:=hS.2.2 pre e
      rw[hf]at hr ho
      obtain⟨h1,rfl⟩:=hr
      cases h1
      repeat' (first|refine wu ?_|exact wkc|intro hc|refine wk2 ?_ ?_|fail)
      refine RetK.atP (S.L0+1) ?_ ?_ ho.1 ?_ ?_
      ·omega
      ·simp[ho.2.1]
      ·exact blksUnder_append ho.2.2 (by simp[blksUnder,hS.2.1])
      simp[EachR,hflat,scanO,hf]
    | jump c H0=>rw[hf]at hr;cases hr.1
    | go=>rw[hf]at hr;cases hr.1
end Go.Proofs.YtddaclniamlmbaaGreatDoor
