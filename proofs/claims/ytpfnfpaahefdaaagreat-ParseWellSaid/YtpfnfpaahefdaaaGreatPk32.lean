import Derived.Test.YtpfnfpaahefdaaaGreatPk28
import Derived.Test.YtpfnfpaahefdaaaGreatPk31
set_option linter.all false
namespace Go.TL
open Go
section rules
variable {P:Program}{n:Nat}{env:Env}{H:Heap}{K:TK}{c:Code}
theorem TR.forget(id j:Nat){cs:List SV}{sz tid:Nat}{es:List T}{H':Heap}(hH:H[id]?=some (.cells cs))(hi:cs[j]?=some (.sl sz es tid))(hH':H.set id (.cells (cs.set j (.t (.sl sz es))))=H')
  (k:TR P n c env H' K):TR P n c env H K:=by
 intro φ m a h1 h2 h3 h4
 have hid:=(qaa.1 hH).1
 have hjl:=(qaa.1 hi).1
 have hH1:m.H[id]?=some (.cells cs):=by rw[h1];exact hH
 obtain⟨p,hp⟩:∃p,m.β[id]?=some p:=⟨_,qab (by rw[h2.len,h1];exact hid)⟩
 obtain⟨b1,b2,b3⟩:=h2.blk id p _ hp hH1
 obtain⟨s,hm⟩:=upd (m:=m) h2 (cs':=cs.set j (.t (.sl sz es))) (w':=m.w) hp hH1 rfl rfl rfl rfl (fun _ _=>rfl) (fun _ _=>rfl) (fun _=>rfl) (fun _=>rfl) (fun _ h=>h) (by simpa using b1) (by omega) (fun q e hc=>by
  by_cases hq:q=j
  ·exact zwbu
  ·rw[qau (by omega)]at hc
   exact b3 q e hc)
 refine za4 (k φ ⟨m.A,m.β,m.H.set id (.cells (cs.set j (.t (.sl sz es)))),m.w⟩ a ?_ hm (h3.step h2 s) h4) fun _ _ _ hp=>hp.step s
 rw[<-hH',<-h1]
end rules
theorem zgF(sz n id:Nat):(rowV sz n id).solid=true:=by
 unfold rowV
 cases n <;> rfl
theorem zgE(sz n id:Nat):(rowV sz n id).cells=[rowV sz n id]:=by
 unfold rowV
 cases n <;> rfl
def zbK(f:Nat->Blk):Heap:=[f 0,f 1,f 2,f 3,f 4,f 5,f 6,f 7,f 8,f 9,f 10,f 11,f 12,f 13,f 14,f 15]
theorem zgG(f:Nat->Blk){a:Nat}(h:a<16):(zbK f)[a]?=some (f a):=by
 have:zbK f=(List.range 16).map f:=rfl
 rw[this,qar,qbS h];rfl
theorem zgH(f:Nat->Blk){a:Nat}(h:a<16)(b:Blk):(zbK f).set a b=zbK fun k=>if k=a then b else f k:=by
 have h1:∀g:Nat->Blk,zbK g=(List.range 16).map g:=fun _=>rfl
 rw[h1,h1]
 refine List.ext_getElem (by simp) fun i h2 h3=>?_
 simp only[qbp,qad,List.length_range]at h2
 rw[List.getElem_set]
 simp only[List.getElem_map,List.getElem_range]
 by_cases hi:a=i
 ·rw[if_pos hi,if_pos hi.symm]
 ·rw[if_neg hi,if_neg (fun e=>hi e.symm)]
section rules
variable {P:Program}{n:Nat}{env:Env}{H:Heap}{K:TK}{all:Array Oper}{rest:List Oper}{tab:Tab}
variable {d:Nat}{ty:TypeId}{pos:String}{aft:Array Edge}{q:Bool}
theorem TO.zky(hT:zaA P tab){t e:TypeId}{i ie:TyI}{x y:Operand}{sz id len:Nat}{ik:IntKind}{j:Int}(hd:Nat.ble (d+1) n=true)(ht:tab.get t=some i)(hk:i.k= .slice e)
  (he:tab.get e=some ie)(hs:ie.size=sz)(hx:env.val x=some (rowV sz len id))(hy:env.val y=some (.t (.v (.int ik j))))(h0:0≤j)(hj:j<len)
  (k:TO q P n all rest ((d,.ref id (0+j.toNat*sz))::env) H K):TO q P n all (⟨some d,.indexAddr t x y,ty,pos,aft,none⟩::rest) env H K:=
 TO.zeT hT hd ht hk he hs (by rw[hx,zb6 (by omega)]) hy h0 hj k
theorem TO.znP{ops:List Oper}(id j:Nat){cs:List SV}{v v':SV}(hl:Le v v'){H':Heap}(hH:H[id]?=some (.cells cs))(hi:cs[j]?=some v)(hH':H.set id (.cells (cs.set j v'))=H')
  (k:TO false P n all ops env H' K):TO false P n all ops env H K:=by
 intro φ m a h1 h2 h3 h4
 have hid:=(qaa.1 hH).1
 have hjl:=(qaa.1 hi).1
 have hH1:m.H[id]?=some (.cells cs):=by rw[h1];exact hH
 obtain⟨p,hp⟩:∃p,m.β[id]?=some p:=⟨_,qab (by rw[h2.len,h1];exact hid)⟩
 obtain⟨b1,b2,b3⟩:=h2.blk id p _ hp hH1
 obtain⟨s,hm⟩:=upd (m:=m) h2 (cs':=cs.set j v') (w':=m.w) hp hH1 rfl rfl rfl rfl (fun _ _=>rfl) (fun _ _=>rfl) (fun _=>rfl) (fun _=>rfl) (fun _ h=>h) (by simpa using b1) (by omega) (fun q e hc=>by
  by_cases hq:q=j
  ·subst hq
   rw[qao hjl]at hc
   cases hc
   obtain⟨y,hy1,hy0,hy2⟩:=b3 q _ hi
   exact⟨_,hy1,hy0,hl _ _ hy2⟩
  ·rw[qau (by omega)]at hc
   exact b3 q e hc)
 refine TO.ze5 (m':=⟨m.A,m.β,m.H.set id (.cells (cs.set j v')),m.w⟩) s (k φ ⟨m.A,m.β,m.H.set id (.cells (cs.set j v')),m.w⟩ a ?_ hm (h3.step h2 s) h4)
 rw[<-hH',<-h1]
theorem TO.zeB{ops:List Oper}(bid j0 sz id len:Nat){bs:List SV}{ts:List T}{es:List T}{H':Heap}(hne:bid≠id)(hB:H[bid]?=some (.cells bs))(hj0:bs[j0]?=some (rowV sz len id))(hH:H[id]?=some (rowB len (ts.map .t)))(hts:ts=(es.map T.cells).flatten)(hlen:len=es.length)(hsz:∀e∈es,e.cells.length=sz)
  (hpos:Nat.ble 1 sz=true)(hH':(H.set id .dead).set bid (.cells (bs.set j0 (.t (.sl sz es))))=H')(k:TO false P n all ops env H' K):TO false P n all ops env H K:=by
 cases len with
 | zero=>
   have hes:es=[]:=qaD hlen.symm
   subst hes
   refine TO.znP bid j0 (v:=.t (.v (.slice none 0 0))) (v':=.t (.sl sz [])) (Le.nil sz) hB hj0 ?_ k
   rw[<-hH']
   congr 1
   have hid:=(qaa.1 hH).1
   have:H[id]= .dead:=by
    rw[qab hid]at hH
    exact Option.some.inj hH
   rw[<-this,qbM]
 | succ len=>
   rw[zb6 (by omega)]at hj0
   rw[zbE (by omega)]at hH
   have hneb:Nat.beq bid id=false:=by
    cases h:Nat.beq bid id with
    | false=>rfl
    | true=>exact absurd (qaS h) hne
   refine TO.zlE bid j0 sz id (len+1) hneb hB hj0 hH ?_ (fun j c hc=>by rw[hts];exact hc) hlen hsz hpos hH' k
   rw[qad,hts,(zcv es hsz).1]
   exact qae _
theorem TO.quo2{t t':TypeId}{x y:Operand}{a:Nat}(hd:Nat.ble (d+1) n=true)(hx:env.val x=some (.i a))(hy:env.val y=some (.t (.v (.int .i64 2))))(ha:a≤1000000000000)
  (k:TO q P n all rest ((d,.i (a / 2:Nat))::env) H K):TO q P n all (⟨some d,.binOp .quo t x y t',ty,pos,aft,none⟩::rest) env H K:=
 TO.bquo (a:=(a:Int)) (b:=2) hd hx hy (by omega) (by
  rw[show((a:Int).tdiv 2)=((a / 2:Nat):Int) from(Int.ofNat_tdiv a 2).symm,zeK (by omega) (by omega)]
  exact k)
theorem TO.rem2{t t':TypeId}{x y:Operand}{a:Nat}(hd:Nat.ble (d+1) n=true)(hx:env.val x=some (.i a))(hy:env.val y=some (.t (.v (.int .i64 2))))
  (k:TO q P n all rest ((d,.i (a % 2:Nat))::env) H K):TO q P n all (⟨some d,.binOp .rem t x y t',ty,pos,aft,none⟩::rest) env H K:=
 TO.brem (a:=(a:Int)) (b:=2) hd hx hy (by omega) (by rw[show((a:Int).tmod 2)=((a % 2:Nat):Int) from(Int.ofNat_tmod a 2).symm];exact k)
theorem TO.zb8(hT:zaA P tab){t e:TypeId}{i ie:TyI}{sz:Nat}{c0:Array Value}{cs:List T}(hd:Nat.ble (d+1) n=true)(ht:tab.get t=some i)(hk:i.k= .slice e)(he:tab.get e=some ie)(hs:ie.size=sz)
  (hv:∀(A:Foot) (w:World),TRel A w (.ag cs) (.agg c0))(hl:cs.length=sz)(hsm:Nat.ble sz 16777216=true)(hpos:Nat.ble 1 sz=true)
  (k:TO false P n all rest ((d,.t (.sl sz [.ag cs]))::env) H K):TO false P n all (⟨some d,.buildSlice t 1 #[(0,.const (.agg c0))],ty,pos,aft,none⟩::rest) env H K:=
 TO.eff hd (fun m ac h1 h2 h3=>by
  subst h1
  have hp':=qaf hpos
  have hsm':=qaf hsm
  obtain⟨z,hz1,hz2,_,_⟩:=(hT e ie he).zero
  have hzl:z.cells.size=sz:=by
   exact zweb
  have hr:=hv m.A m.w
  obtain⟨y,hy⟩:∃y,y=Value.agg c0:=⟨_,rfl⟩
  rw[<-hy]at hr
  cases hr with
  | ag _ ca c1 c2 c3=>
  have hcc:=Value.agg.inj hy
  subst hcc
  have hq:ac.eval (.const (.agg ca))= .agg ca:=rfl
  obtain⟨arr,a1,a2,_,a4⟩:=ze9 (sz:=sz) (fun i=>some (i*sz,sz)) (fun _=>rfl) [(0,Value.agg ca)] 0 ((Array.range (1*sz)).map (fun j=>z.cells[j % z.cells.size]!)) (fun i p hpi=>by
   cases i with
   | zero=>simp at hpi;subst hpi;exact⟨rfl,by show ca.size=sz;omega⟩
   | succ i=>simp at hpi) (by simp)
  have a2':arr.size=sz:=by rw[a2];simp
  have hget:∀j,j<sz->arr[j]?=ca[j]? :=fun j hj=>by
   have:=a4 0 _ rfl j hj
   show arr[j]?=(Value.agg ca).cells[j]?
   simpa using this
  have hcell:∀o,(m.w.alloc (.cells arr e)).cell? ⟨m.w.heap.size,o,none⟩=arr[o]? :=fun o=>World.cell?_alloc_new ..
  obtain⟨s,hm'⟩:=grow h2 (A':=fun b o=>m.A b o\/(b=m.w.heap.size/\o<arr.size)) (βn:=[]) (Hn:=[]) (w':=m.w.alloc (.cells arr e)) rfl rfl rfl (by simp) (fun b hb=>RowKit.Below.heap_alloc _ _ _ hb) (fun _ _ h=>.inl h) (fun b o h=>by
   rcases h with h|h
   ·exact .inl h
   ·exact .inr ⟨by omega,by simp;omega⟩) rfl (by simp) (by simp) (by simp) (by simp)
  have s':Step m ⟨fun b o=>m.A b o\/(b=m.w.heap.size/\o<arr.size),m.β,m.H,m.w.alloc (.cells arr e)⟩:=by simpa using s
  refine⟨.slice (some ⟨m.w.heap.size,0,none⟩) 1 1,⟨fun b o=>m.A b o\/(b=m.w.heap.size/\o<arr.size),m.β,m.H,m.w.alloc (.cells arr e)⟩,?_,s',by simpa using hm',rfl,?_⟩
  ·have hrun:(Instr.buildSlice t 1 #[(0,ac.eval (.const (.agg ca)))]).run P m.w= .ok (.slice (some ⟨m.w.heap.size,0,none⟩) 1 1) (m.w.alloc (.cells arr e)):=by
    have hbig:¬1*sz > 2 ^ 24:=by omega
    have h0:¬1*sz=0:=by omega
    unfold Instr.buildSlice
    simp only[Sem.run_bind,underlying,run_program,Result.andThen_ok,(hT t i ht).slice hk,Sem.run_pure,(hT e ie he).sizeOf,hs,if_neg hbig,if_neg h0,hz1]
    rw[hq,a1]
    simp[newRow]
   have hmap:(#[(0,.const (.agg ca))]:Array (Nat×Operand)).map (fun(i,x)=>(i,ac.eval x))= #[(0,ac.eval (.const (.agg ca)))]:=by simp
   simp only[execOp,Sem.run_bind,hmap,hrun];rfl
  ·refine .t _ _ (.sl sz [.ag cs] m.w.heap.size 0 1 (fun q=>(arr[q]?).getD undef) (qae _) (fun i t ht=>?_) (fun i j hi hj=>?_) (fun i j hi hj=>?_) (fun i j hi hj=>?_) (fun i t j c ht hc=>?_))
   ·cases i with
    | zero=>simp at ht;subst ht;exact hl
    | succ i=>simp at ht
   ·have hi0:i=0:=by simp at hi;exact hi
    subst hi0
    exact .inr ⟨rfl,by omega⟩
   ·have hi0:i=0:=by simp at hi;exact hi
    subst hi0
    show(m.w.alloc (.cells arr e)).cell? ⟨m.w.heap.size,0+(0*sz+j),none⟩=some ((arr[0*sz+j]?).getD undef)
    rw[hcell,show 0+(0*sz+j)=j by omega,show 0*sz+j=j by omega,qaj (by omega)];rfl
   ·have hi0:i=0:=by simp at hi;exact hi
    subst hi0
    show((arr[0*sz+j]?).getD undef).oneCell'=true
    rw[show 0*sz+j=j by omega,hget j hj,qaj (by omega)]
    exact c2 j _ (qaj (by omega))
   ·cases i with
    | succ i=>simp at ht
    | zero=>
      simp at ht;subst ht
      have hj:=(qaa.1 hc).1
      have hj':j<sz:=by rw[<-hl];exact hj
      show TRel _ _ c ((arr[0*sz+j]?).getD undef)
      rw[show 0*sz+j=j by omega,hget j hj',qaj (by omega)]
      exact s'.trel h2 (c3 j c _ hc (qaj (by omega)))) k
theorem LeB.fn1{H:Heap}(f:FuncId){c e:SV}(h:LeB H c e):LeB H (.fn f [c]) (.fn f [e]):=LeB.fn f rfl fun i x y hx hy=>by
 cases i with
 | zero=>simp at hx hy;subst hx hy;exact h
 | succ i=>simp at hx
end rules
end Go.TL
namespace Go.Proofs.YtpfnfpaahefdaaaGreat
open Go Go.TL
attribute [local irreducible] TR TO Then zac RetK Sound zaf Kf GG zaY
def rowsOf:List Sta->List (List Tran)
 | []=>[]
 | s::ss=>s.unl::s.unt::rowsOf ss
theorem zc6:∀ss:List Sta,(rowsOf ss).length=2*ss.length
 | []=>rfl
 | s::ss=>by rw[rowsOf,qac,qac,zc6 ss,qac];omega
theorem zdN:∀(ss:List Sta) (s:Sta),rowsOf (ss++[s])=rowsOf ss++[s.unl,s.unt]
 | [],s=>rfl
 | x::ss,s=>by rw[qba,rowsOf,zdN ss s,rowsOf];rfl
def rR(R:List (List Tran))(k:Nat):Blk:=match R[k]? with
 | some u=>rowB u.length ((trCs u).map .t)
 | none=>.dead
theorem zeE{R:List (List Tran)}{k:Nat}{u:List Tran}(h:R[k]?=some u):rR R k=rowB u.length ((trCs u).map .t):=by unfold rR;rw[h]
theorem zpw(r:Nat->Nat)(R:List (List Tran))(k:Nat):(rR R k).ren r=rR R k:=by
 unfold rR
 split
 ·exact zcP _ _ _
 ·rfl
theorem znp(N:Nat)(R:List (List Tran))(k:Nat):(rR R k).under N=true:=by
 unfold rR
 split
 ·exact zcw _ _ _
 ·rfl
theorem zoK{R S:List (List Tran)}{k:Nat}(h:k<R.length):rR (R++S) k=rR R k:=by
 unfold rR;rw[qan h]
theorem zl4{R:List (List Tran)}{k:Nat}(h:R.length≤k):rR R k= .dead:=by
 unfold rR;rw[qaI h]
def stCs(h:Nat->Nat):Nat->List Sta->List SV
 | _,[]=>[]
 | k,s::ss=>.s s.name:: .t (.sl 3 (s.locals.map zag)):: .t (.sl 7 (s.eqs.map equT)):: .t (.sl 1 (s.autos.map zaP))::rowV 8 s.unl.length (h (2*k))::rowV 8 s.unt.length (h (2*k+1))::stCs h (k+1) ss
theorem zj0(h:Nat->Nat):∀(k:Nat) (ss:List Sta),(stCs h k ss).length=ss.length*6
 | _,[]=>rfl
 | k,s::ss=>by
   have:=zj0 h (k+1) ss
   simp only[stCs,qac,this];omega
theorem zjZ(h:Nat->Nat):∀(k:Nat) (ss:List Sta) (s:Sta),stCs h k (ss++[s])=stCs h k ss++stCs h (k+ss.length) [s]
 | k,[],s=>rfl
 | k,x::ss,s=>by
   rw[qba,stCs,zjZ h (k+1) ss s,stCs,qac,show k+1+ss.length=k+(ss.length+1) by omega];rfl
theorem zj1(r h:Nat->Nat):∀(k:Nat) (ss:List Sta),rens r (stCs h k ss)=stCs (fun i=>r (h i)) k ss
 | _,[]=>rfl
 | k,s::ss=>by
   simp only[stCs,rens,SV.ren,zcs,zj1 r h (k+1) ss]
theorem zgM{h h':Nat->Nat}:∀(k:Nat) (ss:List Sta),(∀i,2*k≤i->i<2*(k+ss.length)->h i=h' i)->stCs h k ss=stCs h' k ss
 | _,[],_=>rfl
 | k,s::ss,hh=>by
   rw[stCs,stCs,hh (2*k) (by omega) (by rw[qac];omega),hh (2*k+1) (by omega) (by rw[qac];omega),zgM (k+1) ss fun i h1 h2=>hh i (by omega) (by rw[qac];omega)]
theorem zgN{h:Nat->Nat}{N:Nat}:∀(k:Nat) (ss:List Sta),(∀i,2*k≤i->i<2*(k+ss.length)->h i<N)->unders N (stCs h k ss)=true
 | _,[],_=>rfl
 | k,s::ss,hh=>by
   have h1:=zbF (sz:=8) (n:=s.unl.length) (hh (2*k) (by omega) (by rw[qac];omega))
   have h2:=zbF (sz:=8) (n:=s.unt.length) (hh (2*k+1) (by omega) (by rw[qac];omega))
   have h3:=zgN (k+1) ss fun i h1 h2=>hh i (by omega) (by rw[qac];omega)
   simp only[stCs,unders,h1,h2,h3,SV.under,qa8]
def rI(n0 k:Nat):Nat:=if k=2*n0 then 23 else if k=2*n0+1 then 25 else 5+k
def idsA(n0:Nat):List Nat:=0::1::2::3::27::(List.range 16).map (rI n0)
theorem zkw{n0:Nat}(h:n0<8):(idsA n0).Nodup:=by
 rcases(by omega:n0=0\/n0=1\/n0=2\/n0=3\/n0=4\/n0=5\/n0=6\/n0=7)with rfl|rfl|rfl|rfl|rfl|rfl|rfl|rfl <;> decide
theorem zfK(n0 N:Nat){k:Nat}(h:k<16):names (idsA n0) N (5+k)=rI n0 k:=by
 refine Go.TL.zbk ?_
 rw[show 5+k=k+1+1+1+1+1 by omega]
 show((List.range 16).map (rI n0))[k]?=_
 rw[qar,qbS h];rfl
theorem zdp.map{H:Heap}{r:Nat->Nat}{g:Nat->Nat}{f:Nat->Blk}:∀(l:List Nat),(∀k∈l,H[g k]?=some ((f k).ren r))->zdp H r (l.map g) (l.map f)
 | [],_=>trivial
 | a::l,h=>⟨h a qaA,zdp.map l fun k hk=>h k (qax _ hk)⟩
theorem zdp.rows{H:Heap}{r:Nat->Nat}{g:Nat->Nat}{f:Nat->Blk}(h:∀k,k<16->H[g k]?=some ((f k).ren r)):zdp H r ((List.range 16).map g) (zbK f):=
 zdp.map (List.range 16) fun k hk=>h k (by simpa using hk)
theorem zie{N:Nat}{f:Nat->Blk}(h:∀k,(f k).under N=true):zab N (zbK f)=true:=by
 simp only[zbK,zab,h,qa8]
theorem zi1{N n:Nat}{cs:List SV}(h:unders N cs=true):(rowB n cs).under N=true:=by
 unfold rowB
 cases n with
 | zero=>rfl
 | succ n=>exact h
theorem zoS(N:Nat){ss:List Sta}(s:Sta)(h8:ss.length<8):rens (names (idsA ss.length) N) (stCs (fun k=>5+k) 0 (ss++[s]))=stCs (fun k=>5+k) 0 ss++[.s s.name,.t (.sl 3 (s.locals.map zag)),.t (.sl 7 (s.eqs.map equT)),.t (.sl 1 (s.autos.map zaP)),rowV 8 s.unl.length 23,rowV 8 s.unt.length 25]:=by
 rw[zj1,zjZ,zgM (h':=fun k=>5+k) 0 ss (fun i _ hi=>by
  show names _ _ (5+i)=5+i
  rw[zfK _ _ (by omega)]
  unfold rI
  rw[if_neg (by omega),if_neg (by omega)])]
 simp only[stCs,qaU]
 rw[zfK _ _ (by omega),zfK _ _ (by omega)]
 unfold rI
 rw[if_pos rfl,if_neg (by omega),if_pos rfl]
theorem zpv{ss:List Sta}(s:Sta)(k:Nat):rR (rowsOf (ss++[s])) k=if k=2*ss.length then rowB s.unl.length ((trCs s.unl).map .t) else if k=2*ss.length+1 then rowB s.unt.length ((trCs s.unt).map .t) else rR (rowsOf ss) k:=by
 have hl:=zc6 ss
 rw[zdN]
 by_cases h1:k=2*ss.length
 ·rw[if_pos h1]
  exact zeE (by rw[qaq (by omega),show k-(rowsOf ss).length=0 by omega];rfl)
 rw[if_neg h1]
 by_cases h2:k=2*ss.length+1
 ·rw[if_pos h2]
  exact zeE (by rw[qaq (by omega),show k-(rowsOf ss).length=1 by omega];rfl)
 rw[if_neg h2]
 by_cases h3:k<2*ss.length
 ·exact zoK (by omega)
 ·rw[zl4 (R:=rowsOf ss) (by omega),zl4 (R:=rowsOf ss++[s.unl,s.unt]) (by rw[qal];simp only[qac,qai];omega)]
theorem zf8{R:Rd}{f:Nat->PR Ex}{w:Str}:∀(m:Nat) (xs:List Tran) (gs:List (Str×Nat)) {i:Nat} {ys:List Tran} {hs:List (Str×Nat)} {j:Nat},R.trans f w m xs gs i= .ok (ys,hs) j->xs.length=gs.length->ys.length=hs.length
 | 0,xs,gs,i,ys,hs,j,h,hl=>by cases h;exact hl
 | m+1,xs,gs,i,ys,hs,j,h,hl=>by
   unfold Rd.trans at h
   split at h
   ·obtain⟨_,_,_,h⟩:=zad h
    obtain⟨_,_,_,h⟩:=zad h
    obtain⟨_,_,_,h⟩:=zad h
    obtain⟨_,_,_,h⟩:=zad h
    obtain⟨_,_,_,h⟩:=zad h
    exact zf8 m _ _ h (by rw[qal,qal,hl];rfl)
   ·cases h;exact hl
theorem zhq{R:Rd}{f:Nat->PR Ex}{w:Str}:∀(m:Nat) (xs:List Tran) (gs:List (Str×Nat)) {i:Nat} {ys:List Tran} {hs:List (Str×Nat)} {j:Nat},R.trans f w m xs gs i= .ok (ys,hs) j->xs.length≤4->ys.length≤4
 | 0,xs,gs,i,ys,hs,j,h,hl=>by cases h;exact hl
 | m+1,xs,gs,i,ys,hs,j,h,hl=>by
   unfold Rd.trans at h
   split at h
   ·obtain⟨_,_,hq,h⟩:=zad h
    obtain⟨_,_,_,h⟩:=zad h
    obtain⟨_,_,_,h⟩:=zad h
    obtain⟨_,_,_,h⟩:=zad h
    obtain⟨_,_,_,h⟩:=zad h
    have:=(za6 hq).1
    exact zhq m _ _ h (by rw[qal];simp only[qac,qai];omega)
   ·cases h;exact hl
def setG(ns:List Str)(u:List Tran)(g:List (Str×Nat)):List Tran:=List.zipWith (fun(q:Tran) (x:Str×Nat)=>match idxOf x.1 0 ns with
 | some k=>⟨q.cond,toI (k:Int),q.resume⟩
 | none=>q) u g
def okG(ns:List Str)(g:List (Str×Nat)):Prop:=∀x∈g,∃k,idxOf x.1 0 ns=some k
theorem zfE{ns:List Str}:∀ {g:List (Str×Nat)},okG ns g->∃js,fixG ns g= .ok js 0/\∀u:List Tran,zif u js=setG ns u g
 | [],_=>⟨[],rfl,fun u=>by cases u <;> rfl⟩
 | (s,k)::g,h=>by
   obtain⟨j,hj⟩:=h (s,k) qaA
   obtain⟨js,h1,h2⟩:=zfE (g:=g) fun x hx=>h x (qax _ hx)
   refine⟨j::js,by rw[fixG,hj];simp only[h1,PR.bind],fun u=>?_⟩
   cases u with
   | nil=>rfl
   | cons q u=>
     have:=h2 u
     unfold zif setG at this⊢
     rw[qa6,qa6,this]
     simp only at hj
     simp only[hj]
theorem zlC{ns:List Str}{s:Str}{k:Nat}:∀ {g r:List (Str×Nat)},okG ns g->idxOf s 0 ns=none->fixG ns (g++(s,k)::r)= .er k 6
 | [],r,_,h=>by rw[qbk,fixG,h]
 | (t,a)::g,r,hg,h=>by
   obtain⟨j,hj⟩:=hg (t,a) qaA
   rw[qba,fixG]
   simp only at hj
   rw[hj]
   simp only[zlC (g:=g) (fun x hx=>hg x (qax _ hx)) h,PR.bind]
theorem zjC{ns:List Str}{s:Str}{k:Nat}{g r:List (Str×Nat)}:∀ {gs rs:List (List (Str×Nat))},(∀g∈gs,okG ns g)->okG ns g->idxOf s 0 ns=none->zdQ ns (gs++(g++(s,k)::r)::rs)= .er k 6
 | [],rs,_,hg,h=>by rw[qbk,zdQ,zlC hg h];rfl
 | x::gs,rs,hx,hg,h=>by
   obtain⟨js,h1,_⟩:=zfE (hx x qaA)
   rw[qba,zdQ,h1]
   simp only[PR.bind,zjC (gs:=gs) (fun y hy=>hx y (qax _ hy)) hg h]
def zcY:List Sta->List (List Tran)->List Sta
 | s::ss,u::v::R=>.mk s.name s.locals s.eqs s.autos u v::zcY ss R
 | ss,_=>ss
theorem zjE{ns:List Str}:∀ {gs:List (List (Str×Nat))},(∀g∈gs,okG ns g)->∃jss,zdQ ns gs= .ok jss 0/\∀ss:List Sta,gs.length=2*ss.length->zdr ss jss=zcY ss (List.zipWith (setG ns) (rowsOf ss) gs)
 | [],_=>⟨[],rfl,fun ss h=>by
     cases ss with
     | nil=>rfl
     | cons s ss=>rw[qac,qai]at h;omega⟩
 | [g],hx=>by
   obtain⟨js,h1,h2⟩:=zfE (hx g qaA)
   exact⟨[js],by simp only[zdQ,h1,PR.bind],fun ss h=>by simp only[qac,qai]at h;omega⟩
 | g::g'::gs,hx=>by
   obtain⟨js,h1,h2⟩:=zfE (hx g qaA)
   obtain⟨js',h1',h2'⟩:=zfE (hx g' (qax _ qaA))
   obtain⟨jss,h3,h4⟩:=zjE (gs:=gs) fun y hy=>hx y (qax _ (qax _ hy))
   refine⟨js::js'::jss,by simp only[zdQ,h1,h1',h3,PR.bind],fun ss h=>?_⟩
   cases ss with
   | nil=>simp at h
   | cons s ss=>
     rw[zdr,h2,h2',h4 ss (by simp only[qac]at h;omega),rowsOf,qa6,qa6,zcY]
theorem zhi(s:Sta)(nm:Str)(k:Int):Pure Tryz.prog 103 [.t (staT s),.cp [.s nm,.i k] 0] (.b (s.name == nm)):=by
 rw[zdm]
 refine so Tryz.func103 ?_
 repeat' (first|refine wu ?_|exact wkc|intro hc|refine wk2 ?_ ?_|fail)
 all_goals try(refine RetK.pure rfl ?_ rfl;exact Le.of_eq (by simp_all [pack,staT] <;> omega))
theorem zhS(fid:FuncId)(caps:List SV)(hcaps:unders 0 caps=true)(p:Sta->Bool)(l:List Sta)(hl:l.length≤1000000000)(hp:∀d,Pure Tryz.prog fid (.t (staT d)::caps) (.b (p d))):
  Pure Tryz.prog 102 [.t (.sl 6 (l.map staT)),.fn fid caps] (.i (idxI p l)):=by
 have hml:(l.map staT).length=l.length:=qad _
 refine so Tryz.func102 ?_
 repeat' (first|refine wk ?_|exact wkc|intro hc|refine wk2 ?_ ?_|fail)
 refine TR.zb0 l.length (fun k=>(l.take k).all (fun x=>!p x)=true) (fun k=>[(0,.t (.sl 6 (l.map staT))),(1,.fn fid caps),(7,.i l.length),(8,.i k)]) (fun _=>[]) rfl (fun k hlt ha=>?_) (fun ha=>?_) ⟨rfl,rfl,by rw[<-hml];rfl,rfl,trivial⟩
 ·have hx:=zc0 staT hlt
  have htk:=zjd hlt
  have hat:=ziR p l k hlt ha
  have hd:=hp l[k]
  generalize l[k]=d at hx htk hat hd
  rw[zdm]at hx hd
  have hu:unders 0 (.t (staT d)::caps)=true:=by simp[unders,SV.under,hcaps]
  rw[zdm]at hu
  repeat' (first|refine wk ?_|exact wkc|intro hc|refine wk2 ?_ ?_|(apply TO.zlm hd;(iterate 3 exact rfl);exact Les.refl _;exact hu;exact rfl)|fail)
  ·rw[hat hc];exact wkr
  ·exact zwfi
 ·exact zwcr
theorem znW(nm:Str):∀(l:List Sta) (k:Nat),(idxI (fun d=>d.name == nm) l= -1/\idxOf nm k (l.map Sta.name)=none)\/∃j:Nat,j<l.length/\idxI (fun d=>d.name == nm) l=j/\idxOf nm k (l.map Sta.name)=some (k+j)
 | [],_=>.inl ⟨rfl,rfl⟩
 | d::l,k=>by
   unfold idxI
   rw[qag,idxOf]
   by_cases hd:d.name=nm
   ·exact zweu
   ·rw[if_neg hd,if_neg (by simpa using hd)]
    rcases znW nm l (k+1)with ⟨h1,h2⟩|⟨j,h1,h2,h3⟩
    ·rw[h1];exact .inl ⟨rfl,h2⟩
    ·exact zwdx
theorem zdc:∀(ss:List Sta) (R:List (List Tran)),(zcY ss R).length=ss.length
 | [],R=>by cases R <;> rfl
 | s::ss,[]=>rfl
 | s::ss,[u]=>rfl
 | s::ss,u::v::R=>by rw[zcY,qac,zdc ss R,qac]
theorem zd8:∀(ss:List Sta) (R:List (List Tran)),(zcY ss R).map Sta.name=ss.map Sta.name
 | [],R=>by cases R <;> rfl
 | s::ss,[]=>rfl
 | s::ss,[u]=>rfl
 | s::ss,u::v::R=>by rw[zcY,qag,zd8 ss R,qag];rfl
theorem zms(u:List Tran):trCs u=((u.map zbg).map T.cells).flatten:=rfl
theorem zmf{H:Heap}(h:Nat->Nat):∀(k:Nat) (ss:List Sta) (R:List (List Tran)),R.map List.length=(rowsOf ss).map List.length->(∀i u,R[i]?=some u->H[h (2*k+i)]?=some (rowB u.length ((trCs u).map .t)))->
  ∀(j:Nat) c,((((zcY ss R).map staT).map T.cells).flatten)[j]?=some c->∃s,(stCs h k ss)[j]?=some s/\LeB H s (.t c)
 | k,[],R,hR,hH,j,c,hc=>by
   cases R with
   | nil=>simp[zcY]at hc
   | cons u R=>simp[rowsOf]at hR
 | k,s::ss,[],hR,hH,j,c,hc=>by simp[rowsOf]at hR
 | k,s::ss,[u],hR,hH,j,c,hc=>by simp[rowsOf]at hR
 | k,s::ss,u::v::R,hR,hH,j,c,hc=>by
   simp only[rowsOf,qag,qbo]at hR
   obtain⟨h1,h2,h3⟩:=hR
   rw[zcY,qag,qag,qa9,zdm]at hc
   have hu:=hH 0 u rfl
   have hv:=hH 1 v rfl
   have row:∀(w:List Tran) (id:Nat),H[id]?=some (rowB w.length ((trCs w).map .t))->LeB H (rowV 8 w.length id) (.t (.sl 8 (w.map zbg))):=fun w id hw=>by
    refine LeB.row hw (fun j c hc=>⟨.t c,by rw[qar,zms,hc];rfl,LeB.t c⟩) (by rw[qad]) (fun e he=>?_)
    obtain⟨q,_,rfl⟩:=qa5.1 he
    rfl
   match j,hc with
   | 0,hc=>cases hc;exact⟨_,rfl,LeB.t _⟩
   | 1,hc=>cases hc;exact⟨_,rfl,LeB.t _⟩
   | 2,hc=>cases hc;exact⟨_,rfl,LeB.t _⟩
   | 3,hc=>cases hc;exact⟨_,rfl,LeB.t _⟩
   | 4,hc=>cases hc;exact⟨_,rfl,by rw[<-h1];exact row u _ hu⟩
   | 5,hc=>cases hc;exact⟨_,rfl,by rw[<-h2];exact row v _ hv⟩
   | j+6,hc=>
     exact zmf h (k+1) ss R h3 (fun i w hw=>by
      have:=hH (i+2) w hw
      rw[show 2*k+(i+2)=2*(k+1)+i by omega]at this
      exact this) j c hc
def fzCs(h:Nat->Nat)(a:Nat):Nat->List Sta->List (List Tran)->List SV
 | k,s::ss,u::v::R=>.s s.name:: .t (.sl 3 (s.locals.map zag)):: .t (.sl 7 (s.eqs.map equT)):: .t (.sl 1 (s.autos.map zaP))::(if 2*k<a then .t (.sl 8 (u.map zbg)) else rowV 8 s.unl.length (h (2*k)))::(if 2*k+1<a then .t (.sl 8 (v.map zbg)) else rowV 8 s.unt.length (h (2*k+1)))::fzCs h a (k+1) ss R
 | _,_,_=>[]
theorem zlF(h:Nat->Nat){a a':Nat}:∀(k:Nat) (ss:List Sta) (R:List (List Tran)),a≤2*k->a'≤2*k->fzCs h a k ss R=fzCs h a' k ss R
 | k,[],R,_,_=>by simp[fzCs]
 | k,s::ss,[],_,_=>by simp[fzCs]
 | k,s::ss,[u],_,_=>by simp[fzCs]
 | k,s::ss,u::v::R,h1,h2=>by
   rw[fzCs,fzCs,zlF h (a:=a) (a':=a') (k+1) ss R (by omega) (by omega),if_neg (by omega),if_neg (by omega),if_neg (by omega),if_neg (by omega)]
theorem fz_0(h:Nat->Nat):∀(k:Nat) (ss:List Sta) (R:List (List Tran)),R.length=2*ss.length->fzCs h 0 k ss R=stCs h k ss
 | k,[],R,hl=>by simp[fzCs,stCs]
 | k,s::ss,[],hl=>by simp at hl
 | k,s::ss,[u],hl=>by simp only[qac,qai]at hl;omega
 | k,s::ss,u::v::R,hl=>by
   rw[fzCs,stCs,if_neg (by omega),if_neg (by omega),fz_0 h (k+1) ss R (by simp only[qac]at hl;omega)]
theorem znT(h:Nat->Nat){a:Nat}:∀(k:Nat) (ss:List Sta) (R:List (List Tran)),R.length=2*ss.length->2*(k+ss.length)≤a->fzCs h a k ss R=((((zcY ss R).map staT).map T.cells).flatten).map .t
 | k,[],R,hl,_=>by cases R <;> simp[fzCs,zcY]
 | k,s::ss,[],hl,_=>by simp at hl
 | k,s::ss,[u],hl,_=>by simp only[qac,qai]at hl;omega
 | k,s::ss,u::v::R,hl,ha=>by
   simp only[qac]at hl ha
   rw[fzCs,if_pos (by omega),if_pos (by omega),znT h (k+1) ss R (by omega) (by omega),zcY,qag,qag,qa9,zdm,qav]
   rfl
theorem znU(h:Nat->Nat):∀(b k:Nat) (ss:List Sta) (R:List (List Tran)) (u:List Tran),R.map List.length=(rowsOf ss).map List.length->R[b]?=some u->(fzCs h (2*k+b) k ss R)[6*(b / 2)+4+b % 2]?=some (rowV 8 u.length (h (2*k+b)))
 | b,k,[],R,u,hR,hu=>by
   cases R with
   | nil=>simp at hu
   | cons u R=>simp[rowsOf]at hR
 | b,k,s::ss,[],u,hR,hu=>by simp at hu
 | b,k,s::ss,[w],u,hR,hu=>by simp[rowsOf]at hR
 | 0,k,s::ss,w::v::R,u,hR,hu=>by
   simp only[rowsOf,qag,qbo]at hR
   simp at hu;subst hu
   rw[fzCs,if_neg (by omega),hR.1];rfl
 | 1,k,s::ss,w::v::R,u,hR,hu=>by
   simp only[rowsOf,qag,qbo]at hR
   simp at hu;subst hu
   rw[fzCs,if_neg (show ¬2*k+1<2*k+1 by omega),hR.2.1];rfl
 | b+2,k,s::ss,w::v::R,u,hR,hu=>by
   simp only[rowsOf,qag,qbo]at hR
   have:=znU h b (k+1) ss R u hR.2.2 (by simpa using hu)
   rw[show 2*(k+1)+b=2*k+(b+2) by omega]at this
   rw[fzCs,show 6*((b+2) / 2)+4+(b+2) % 2=(6*(b / 2)+4+b % 2)+6 by omega]
   exact this
theorem znV(h:Nat->Nat):∀(b k:Nat) (ss:List Sta) (R:List (List Tran)) (u:List Tran),R.map List.length=(rowsOf ss).map List.length->R[b]?=some u->(fzCs h (2*k+b) k ss R).set (6*(b / 2)+4+b % 2) (.t (.sl 8 (u.map zbg)))=fzCs h (2*k+b+1) k ss R
 | b,k,[],R,u,hR,hu=>by
   cases R with
   | nil=>simp at hu
   | cons u R=>simp[rowsOf]at hR
 | b,k,s::ss,[],u,hR,hu=>by simp at hu
 | b,k,s::ss,[w],u,hR,hu=>by simp[rowsOf]at hR
 | 0,k,s::ss,w::v::R,u,hR,hu=>by
   simp at hu;subst hu
   rw[fzCs,fzCs,if_pos (show 2*k<2*k+0+1 by omega),if_neg (show ¬2*k+1<2*k+0 by omega),if_neg (show ¬2*k+1<2*k+0+1 by omega),zlF h (a:=2*k+0) (a':=2*k+0+1) (k+1) ss R (by omega) (by omega)]
   rfl
 | 1,k,s::ss,w::v::R,u,hR,hu=>by
   simp at hu;subst hu
   rw[fzCs,fzCs,if_pos (show 2*k<2*k+1 by omega),if_pos (show 2*k<2*k+1+1 by omega),if_pos (show 2*k+1<2*k+1+1 by omega),zlF h (a:=2*k+1) (a':=2*k+1+1) (k+1) ss R (by omega) (by omega)]
   rfl
 | b+2,k,s::ss,w::v::R,u,hR,hu=>by
   simp only[rowsOf,qag,qbo]at hR
   have:=znV h b (k+1) ss R u hR.2.2 (by simpa using hu)
   rw[show 2*(k+1)+b=2*k+(b+2) by omega]at this
   rw[fzCs,fzCs,show 6*((b+2) / 2)+4+(b+2) % 2=(6*(b / 2)+4+b % 2)+6 by omega,<-this,if_pos (show 2*k<2*k+(b+2) by omega),if_pos (show 2*k<2*k+(b+2)+1 by omega),if_pos (show 2*k+1<2*k+(b+2) by omega),if_pos (show 2*k+1<2*k+(b+2)+1 by omega)]
   rfl
theorem zme(h:Nat->Nat):∀(b k:Nat) (ss:List Sta) (u:List Tran),(rowsOf ss)[b]?=some u->(stCs h k ss)[6*(b / 2)+4+b % 2]?=some (rowV 8 u.length (h (2*k+b)))
 | b,k,[],u,hu=>by simp[rowsOf]at hu
 | 0,k,s::ss,u,hu=>by
   simp[rowsOf]at hu;subst hu;rfl
 | 1,k,s::ss,u,hu=>by
   simp[rowsOf]at hu;subst hu;rfl
 | b+2,k,s::ss,u,hu=>by
   have:=zme h b (k+1) ss u (by simpa [rowsOf]using hu)
   rw[show 2*(k+1)+b=2*k+(b+2) by omega]at this
   rw[stCs,show 6*((b+2) / 2)+4+(b+2) % 2=(6*(b / 2)+4+b % 2)+6 by omega]
   exact this
theorem zet{ns:List Str}{u:List Tran}{g:List (Str×Nat)}(h:u.length=g.length):(setG ns u g).length=u.length:=by
 unfold setG;rw[qbB];omega
def setK(ns:List Str)(u:List Tran)(g:List (Str×Nat))(k:Nat):List Tran:=setG ns (u.take k) (g.take k)++u.drop k
theorem zpy(ns:List Str)(u:List Tran)(g:List (Str×Nat)):setK ns u g 0=u:=by simp[setK,setG]
theorem znt{ns:List Str}{u:List Tran}{g:List (Str×Nat)}(h:u.length=g.length):setK ns u g g.length=setG ns u g:=by
 unfold setK
 exact zwcs
theorem zjV{ns:List Str}{u:List Tran}{g:List (Str×Nat)}(h:u.length=g.length)(k:Nat):(setK ns u g k).length=u.length:=by
 unfold setK
 rw[qal,zet (by simp[h]),qa2,qaM];omega
theorem znu{ns:List Str}{u:List Tran}{g:List (Str×Nat)}(h:u.length=g.length){k:Nat}(hk:k<u.length):(setK ns u g k)[k]?=some u[k]:=by
 unfold setK
 rw[qaq (by rw[zet (by simp[h])];simp;omega),zet (by simp[h]),qaV,qa2,show k+(k-min k u.length)=k by omega]
 exact qab hk
theorem zmd{ns:List Str}{u:List Tran}{g:List (Str×Nat)}(h:u.length=g.length){k j:Nat}(hk:k<u.length){x:Str×Nat}(hx:g[k]?=some x)(hj:idxOf x.1 0 ns=some j):(setK ns u g k).set k ⟨u[k].cond,toI (j:Int),u[k].resume⟩=setK ns u g (k+1):=by
 have hgk:g.take (k+1)=g.take k++[x]:=by rw[qbr,hx];rfl
 have huk:u.take (k+1)=u.take k++[u[k]]:=by rw[qbr,qab hk];rfl
 have hlk:(setG ns (u.take k) (g.take k)).length=k:=by rw[zet (by simp[h]),qa2];omega
 unfold setK
 rw[qcd _ _ (by omega),hlk,qcl,qaF hk,qbG,hgk,huk]
 unfold setG
 rw[List.zipWith_append (by simp[h])]
 simp only[qa6,qb8,hj,qbj]
 rfl
theorem zj7:∀(w:List Tran) (k:Nat) (q:Tran) (j:Nat),w[k]?=some q->((trCs w).map SV.t).set (8*k+6) (.n (toI (j:Int)))=(trCs (w.set k ⟨q.cond,toI (j:Int),q.resume⟩)).map SV.t
 | [],k,q,j,h=>by simp at h
 | p::w,0,q,j,h=>by
   simp at h;subst h
   rfl
 | p::w,k+1,q,j,h=>by
   have:=zj7 w k q j (by simpa using h)
   rw[List.set_cons_succ,show 8*(k+1)+6=(8*k+6)+8 by omega]
   show(SV.t _::SV.t _::SV.t _::SV.t _::SV.t _::SV.t _::SV.t _::SV.t _::(trCs w).map SV.t).set (8*k+6+8) _=SV.t _::SV.t _::SV.t _::SV.t _::SV.t _::SV.t _::SV.t _::SV.t _::(trCs (w.set k ⟨q.cond,toI (j:Int),q.resume⟩)).map SV.t
   rw[<-this]
   rfl
def curR(ns:List Str)(R:List (List Tran))(gs:List (List (Str×Nat)))(i:Nat):List (List Tran):=List.zipWith (setG ns) (R.take i) (gs.take i)++R.drop i
theorem zpc(ns:List Str)(R:List (List Tran))(gs:List (List (Str×Nat))):curR ns R gs 0=R:=by simp[curR]
theorem zmR{ns:List Str}{R:List (List Tran)}{gs:List (List (Str×Nat))}(h:R.length=gs.length):curR ns R gs gs.length=List.zipWith (setG ns) R gs:=by
 unfold curR
 exact zwcs
theorem zmS{ns:List Str}{R:List (List Tran)}{gs:List (List (Str×Nat))}(h:R.length=gs.length){i:Nat}(hi:i<R.length):(curR ns R gs i)[i]?=some R[i]:=by
 unfold curR
 rw[qaq (by rw[qbB,qa2,qa2];omega),qbB,qa2,qa2,qaV,show i+(i-min (min i R.length) (min i gs.length))=i by omega]
 exact qab hi
theorem zlp{ns:List Str}{R:List (List Tran)}{gs:List (List (Str×Nat))}(h:R.length=gs.length){i:Nat}(hi:i<R.length){g:List (Str×Nat)}(hg:gs[i]?=some g):(curR ns R gs i).set i (setG ns R[i] g)=curR ns R gs (i+1):=by
 have hgk:gs.take (i+1)=gs.take i++[g]:=by rw[qbr,hg];rfl
 have huk:R.take (i+1)=R.take i++[R[i]]:=by rw[qbr,qab hi];rfl
 have hlk:(List.zipWith (setG ns) (R.take i) (gs.take i)).length=i:=by rw[qbB,qa2,qa2];omega
 unfold curR
 rw[qcd _ _ (by omega),hlk,qcl,qaF hi,qbG,hgk,huk,List.zipWith_append (by simp;omega)]
 simp only[qa6,qb8,qbj]
 rfl
theorem zfX{ns:List Str}:∀ {R:List (List Tran)} {gs:List (List (Str×Nat))},R.map List.length=gs.map List.length->(List.zipWith (setG ns) R gs).map List.length=R.map List.length
 | [],gs,h=>by simp
 | u::R,[],h=>by simp at h
 | u::R,g::gs,h=>by
   simp only[qag,qbo]at h
   rw[qa6,qag,qag,zfX h.2,zet h.1]
theorem zlo{ns:List Str}{R:List (List Tran)}{gs:List (List (Str×Nat))}(h:R.map List.length=gs.map List.length)(i:Nat):(curR ns R gs i).map List.length=R.map List.length:=by
 unfold curR
 rw[qav,zfX (by rw[qb6,qb6,h]),<-qav,qbe]
theorem znv{R:List (List Tran)}{i:Nat}{u w:List Tran}(hu:R[i]?=some u)(h:w.length=u.length):(R.set i w).map List.length=R.map List.length:=by
 rw[List.map_set,h]
 obtain⟨h1,h2⟩:=qaa.1 hu
 have:u.length=(R.map List.length)[i]'(by simpa using h1):=by rw[List.getElem_map,h2]
 rw[this,qbM]
theorem zpx{R:List (List Tran)}{i:Nat}{w:List Tran}(hi:i<R.length):(fun k=>if k=i then rowB w.length ((trCs w).map .t) else rR R k)=rR (R.set i w):=by
 funext k
 by_cases hk:k=i
 ·subst hk
  rw[if_pos rfl]
  exact(zeE (qao hi)).symm
 ·rw[if_neg hk]
  unfold rR
  rw[qau (fun h=>hk h.symm)]
theorem znf{ns:List Str}{g:List (Str×Nat)}{k j:Nat}{x:Str×Nat}(hx:g[k]?=some x)(hj:idxOf x.1 0 ns=some j)(h:okG ns (g.take k)):okG ns (g.take (k+1)):=by
 intro y hy
 rw[qbr,hx]at hy
 rcases qbf.1 hy with hy|hy
 ·exact h y hy
 ·simp at hy;subst hy;exact⟨j,hj⟩
theorem zjY{α:Type}{l:List α}{k:Nat}{x:α}(h:l[k]?=some x):l=l.take k++x::l.drop (k+1):=by
 obtain⟨h1,h2⟩:=qaa.1 h
 conv=>lhs;rw[<-qbe k l,qaF h1,h2]
section rules
variable {P:Program}{n:Nat}{env:Env}{K:TK}{all ops:List Oper}{al:Array Oper}
theorem ziO{b0 b1 b2 b3:Blk}{ss:List Sta}{R:List (List Tran)}(hR:R.map List.length=(rowsOf ss).map List.length)(h8:ss.length≤8)(hp:0<ss.length)
  (k:TO false P n al ops env (b0::b1::b2::b3:: .cells (((((zcY ss R).map staT).map T.cells).flatten).map .t)::zbK (fun _=>.dead)) K):
  TO false P n al ops env (b0::b1::b2::b3::rowB ss.length (stCs (fun k=>5+k) 0 ss)::zbK (rR R)) K:=by
 have hRl:R.length=2*ss.length:=by have:=congrArg List.length hR;rw[qad,qad,zc6]at this;exact this
 have go:∀d a:Nat,a+d=R.length->TO false P n al ops env (b0::b1::b2::b3:: .cells (fzCs (fun k=>5+k) a 0 ss R)::zbK (fun k=>if k<a then .dead else rR R k)) K:=by
  intro d
  induction d with
  | zero=>
    intro a ha
    have h1:zbK (fun k=>if k<a then .dead else rR R k)=zbK fun _=>.dead:=by
     congr 1
     funext k
     by_cases hk:k<a
     ·rw[if_pos hk]
     ·rw[if_neg hk,zl4 (by omega)]
    rw[h1,znT _ 0 ss R hRl (by omega)]
    exact k
  | succ d ih=>
    intro a ha
    have hal:a<R.length:=by omega
    have hu:R[a]?=some R[a]:=qab hal
    generalize R[a]=u at hu
    have hg:=znU (fun k=>5+k) a 0 ss R u hR hu
    have hs:=znV (fun k=>5+k) a 0 ss R u hR hu
    rw[show 2*0+a=a by omega]at hg hs
    refine TO.zeB 4 (6*(a / 2)+4+a % 2) 8 (5+a) u.length (ts:=trCs u) (es:=u.map zbg) (by omega) rfl hg ?_ (zms u) (by rw[qad]) (fun e he=>?_) rfl ?_ (ih (a+1) (by omega))
    ·show(b0::b1::b2::b3::Blk.cells _::zbK _)[5+a]?=_
     rw[show 5+a=a+1+1+1+1+1 by omega,qaO,qaO,qaO,qaO,qaO,zgG _ (by omega),if_neg (by omega),zeE hu]
    ·obtain⟨q,_,rfl⟩:=qa5.1 he
     rfl
    ·show(List.set (b0::b1::b2::b3::Blk.cells _::zbK _) (5+a) .dead).set 4 _=_
     have e1:∀(x:Blk) (L:Heap),List.set (b0::b1::b2::b3::x::L) (5+a) .dead=b0::b1::b2::b3::x::L.set a .dead:=fun x L=>by rw[qce];rfl
     rw[e1,zgH _ (by omega)]
     show b0::b1::b2::b3::Blk.cells _::_=_
     rw[hs]
     congr 6
     funext k
     by_cases h1:k=a
     ·rw[if_pos h1,if_pos (by omega)]
     ·rw[if_neg h1]
      by_cases h2:k<a
      ·rw[if_pos h2,if_pos (by omega)]
      ·rw[if_neg h2,if_neg (by omega)]
 have:=go R.length 0 (by omega)
 rw[fz_0 _ 0 ss R hRl,show zbK (fun k=>if k<0 then .dead else rR R k)=zbK (rR R) from by congr 1]at this
 rw[zbE hp]
 exact this
end rules
end Go.Proofs.YtpfnfpaahefdaaaGreat
