import Derived.DeepKeys
import Derived.Test.YtcbhlhmebbkgnaaGreatPk20
import Derived.Test.YtcbhlhmebbkgnaaGreatPk23
import Derived.Test.YtcbhlhmebbkgnaaGreatPk31
set_option linter.unusedSimpArgs false
set_option linter.unusedVariables false
namespace Go.Proofs.YtcbhlhmebbkgnaaGreat
open Go Go.TL
attribute [local irreducible] TR TO Then InBlock RetK Sound LoopK Kf GG ThenL
def i64(k:Int)(h:-9223372036854775808≤k/\k≤9223372036854775807:=by decide):I64:=⟨k,h⟩
def smplE:Ex:=.mk (i64 1) (i64 0) (i64 2) (i64 1) [] []
def smplN:Nod:=⟨[102],[⟨[97],i64 2,[]⟩],[⟨[120],i64 1,[]⟩],[],[⟨[[120]],smplE⟩],[],[],[]⟩
def smpl:Prog:=⟨[],[smplN]⟩
theorem flat_leaf(k o t v:I64)(n:Str):flat (.mk k o t v n [])=[.mk k o t v n []]:=by rw[flat_eq];rfl
theorem wEx_leaf(k o t v:I64)(n:Str):wEx (.mk k o t v n [])=1:=by rw[wEx_eq];rfl
theorem dep_leaf(k o t v:I64)(n:Str):exDepth (.mk k o t v n [])≤32:=by rw[exDepth_eq];show(0:Int)+1≤32;decide
theorem exprX_leaf(es:List En)(k o t v:I64)(n:Str)(h1:oneX (.mk k o t v n [])=0)(h2:insX es (.mk k o t v n [])=0):exprX es (.mk k o t v n [])=0:=by
 have hd:=dep_leaf k o t v n
 unfold exprX checkX
 rw[flat_leaf,wEx_leaf]
 simp[firstE,h1,h2];omega
theorem e0:exprX [] smplE=0:=exprX_leaf _ _ _ _ _ _ (by decide +kernel) (by decide +kernel)
theorem e1:equE [] ⟨[[120]],smplE⟩=0:=by unfold equE;rw[show exprX [] (Equ.mk [[120]] smplE).right=0 from e0];decide +kernel
theorem e2:nodeX [] smplN=(-1,0):=by
 have h:firstE (equE []) smplN.eqs=0:=by show firstE (equE []) [⟨[[120]],smplE⟩]=0;unfold firstE;rw[e1];rfl
 unfold nodeX
 rw[h];decide +kernel
theorem e3:shapeX smpl=((0,0),0):=by
 have h:firstE (fun n=>(nodeX smpl.enums n).2) smpl.nodes=0:=by
  show firstE _ [smplN]=0
  unfold firstE
  rw[show nodeX smpl.enums smplN=(-1,0) from e2];rfl
 unfold shapeX
 rw[h];decide +kernel
theorem e4:scopeX smpl=((0,0),0):=by unfold scopeX;rw[e3];decide +kernel
theorem e5(w:Plc):resT w false smplE=([2],0):=by rw[resT_eq];rfl
theorem e6:eqnT ⟨smpl,nI 0,varsL smplN⟩ ⟨[[120]],smplE⟩=10:=by
 unfold eqnT
 rw[show resT ⟨smpl,nI 0,varsL smplN⟩ false (Equ.mk [[120]] smplE).right=([2],0) from e5 _];decide +kernel
theorem e7:nodG smpl (smplN,0)=(0,10):=by
 have h:firstE (eqnT ⟨smpl,nI 0,varsL smplN⟩) smplN.eqs=10:=by show firstE _ [Equ.mk [[120]] smplE]=10;unfold firstE;rw[e6];rfl
 have h2:firstI (eqnT ⟨smpl,nI 0,varsL smplN⟩) smplN.eqs=(0,10):=by show firstI _ [Equ.mk [[120]] smplE]=(0,10);unfold firstI;rw[e6];rfl
 show nodeTy ⟨smpl,nI 0,varsL smplN⟩ smplN=_
 unfold nodeTy
 rw[h,h2];rfl
theorem flat_two(k o t v k1 o1 t1 v1 k2 o2 t2 v2:I64)(n n1 n2:Str):flat (.mk k o t v n [.mk k1 o1 t1 v1 n1 [],.mk k2 o2 t2 v2 n2 []])=[.mk k o t v n [.mk k1 o1 t1 v1 n1 [],.mk k2 o2 t2 v2 n2 []],.mk k1 o1 t1 v1 n1 [],.mk k2 o2 t2 v2 n2 []]:=by
 rw[flat_eq]
 simp[flats,Ex.args,flat_leaf]
theorem wEx_two(k o t v k1 o1 t1 v1 k2 o2 t2 v2:I64)(n n1 n2:Str):wEx (.mk k o t v n [.mk k1 o1 t1 v1 n1 [],.mk k2 o2 t2 v2 n2 []])=3:=by
 rw[wEx_eq];simp[Ex.args,wEx_leaf]
end Go.Proofs.YtcbhlhmebbkgnaaGreat
namespace Go.TL
open Go
section rules
variable {P:Program}{n:Nat}{env:Env}{H:Heap}{K:TK}{all:Array Oper}{rest:List Oper}{tab:Tab}{q:Bool}
variable {d:Nat}{ty:TypeId}{pos:String}{aft:Array Edge}
theorem TO.eqSame{t t':TypeId}{x y:Operand}{sx sy:SV}{arr:Array Value}{m:Nat}(hd:Nat.ble (d+1) n=true)(hm:Nat.ble m 10000=true)(hk:P.keyTypeAt m t=true)
  (hwide:(match P.underlying t with|some (.array _ _)|some (.struct _)=>true|_=>false)=true)(hg:P.eqGuardType P.depth t=false)
  (hx:env.val x=some sx)(hux:∀m v,SRel m sx v->v= .agg arr)(hy:env.val y=some sy)(huy:∀m v,SRel m sy v->v= .agg arr)(hl:∃l,keyOf P t (.agg arr)=some l)
  (k:TO q P n all rest ((d,.b true)::env) H K):TO q P n all (⟨some d,.binOp .eql t x y t',ty,pos,aft,none⟩::rest) env H K:=
 TO.op hd (fun m ac h1 h2 h3=>⟨.bool true,fun w' hw'=>by
  obtain⟨l,hl⟩:=hl
  obtain⟨r,hr,hrr⟩:=run_equal_deep (P:=P) w' (Nat.le_of_ble_eq_true hm) hk hwide hl hl
  have hrt:r=true:=hrr.2 rfl
  subst hrt
  have e1:=hux _ _ (h3.val hx)
  have e2:=huy _ _ (h3.val hy)
  simp[execOp,e1,e2,eqGuard,hg,Go.binOp,hr],.t _ _ (.v _)⟩) k
end rules
end Go.TL
namespace Go.Proofs.YtcbhlhmebbkgnaaGreat
open Go Go.TL
attribute [local irreducible] TR TO Then InBlock RetK Sound LoopK Kf GG ThenL
abbrev whereV (a b:Int):Value:=.agg #[.int .i64 a,.int .i64 b]
theorem wTy:Tryz.prog.keyType 29=true:=by kernel_rfl
theorem wCells:Tryz.prog.cellsOf 29=2:=by kernel_rfl
theorem keyLitsW(N:Nat){a b:Int}(ha:(Lit.int .i64 a).wf=true)(hb:(Lit.int .i64 b).wf=true):
  (Tryz.prog.keyLits (N+1+1) 29 [.int .i64 a,.int .i64 b])=some [.int .i64 a,.int .i64 b]:=by
 have e1:∀c,Tryz.prog.keyLits (N+1) 3 [c]=(match c with| .int q' n=>if q'= .i64/\(Lit.int .i64 n).wf=true then some [.int .i64 n] else none|_=>none):=fun c=>by
  unfold Program.keyLits
  simp only[Tryz.underlying3]
  cases c <;> rfl
 unfold Program.keyLits
 simp only[Tryz.underlying29,wCells]
 simp only[List.length_cons,List.length_nil,List.mapM_cons,List.mapM_nil,cells3,List.drop_zero,List.take,List.drop,e1,ha,hb]
 simp
theorem keyW{a b:Int}(ha:-9223372036854775808≤a/\a≤9223372036854775807)(hb:-9223372036854775808≤b/\b≤9223372036854775807):∃l,keyOf Tryz.prog 29 (whereV a b)=some l:=by
 have hw:∀ {k:Int},(-9223372036854775808≤k/\k≤9223372036854775807)->(Lit.int .i64 k).wf=true:=fun{k} hk=>by
  simp only[Lit.wf,Bool.and_eq_true,decide_eq_true_eq]
  exact⟨by show(-9223372036854775808:Int)≤k;omega,by show k≤(9223372036854775807:Int);omega⟩
 have h5:(whereV a b).formed Tryz.prog 29=true:=by
  simp only[Value.formed,Tryz.underlying29,wCells];rfl
 obtain⟨N,hN⟩:=typesN
 refine⟨.string (keyBytes [.int .i64 a,.int .i64 b]),?_⟩
 rw[keyOf,Tryz.underlying29]
 simp only[wTy,h5,hN,Value.cells,Bool.and_self,if_true,keyLitsW N (hw ha) (hw hb),Option.map_some]
theorem srel_two{m:M}{a b:Int}{v:Value}(h:SRel m (.t (.ag [T.i a,T.i b])) v):v=whereV a b:=by
 cases h with
 | t _ _ h=>
   cases h with
   | ag _ arr hs h1 hr=>
     obtain⟨l⟩:=arr
     match l,hs with
     | [x,y],_=>
       have e1:=hr 0 _ x rfl rfl
       have e2:=hr 1 _ y rfl rfl
       cases e1;cases e2;rfl
theorem wEqW{G Q:Prop}(k:Q)(h:Hold Q->G:=by
  intro k
  (apply Go.TL.TO.eqSame (m:=3);exact rfl;exact rfl;kernel_rfl;kernel_rfl;kernel_rfl;exact rfl;(intro m v hv;exact Go.Proofs.YtcbhlhmebbkgnaaGreat.srel_two hv);exact rfl;(intro m v hv;exact Go.Proofs.YtcbhlhmebbkgnaaGreat.srel_two hv);exact Go.Proofs.YtcbhlhmebbkgnaaGreat.keyW (by omega) (by omega);exact k.p)):G:=h ⟨k⟩
theorem firstE_of_all{α:Type}{f:α->Int}:∀ {l:List α},(∀x∈l,f x=0)->firstE f l=0
 | [],_=>rfl
 | x::l,h=>by rw[firstE,if_pos (h x (by simp)),firstE_of_all fun y hy=>h y (by simp[hy])]
theorem flat_sub{e x:Ex}(h:x∈e.args):∀y∈flat x,y∈flat e:=fun y hy=>by
 rw[flat_eq e]
 refine List.mem_cons_of_mem _ ?_
 unfold flats
 exact List.mem_flatten.2 ⟨flat x,List.mem_map_of_mem h,hy⟩
theorem tyNods_all(p:Prog):∀ {l:List (Nod×Nat)},(tyNods p l).2=0->∀x∈l,(nodG p x).2=0
 | [],_,x,hx=>by simp at hx
 | y::l,h,x,hx=>by
   rw[tyNods]at h
   have h1:(nodG p y).2=0:=Classical.byContradiction fun hh=>by rw[if_neg hh]at h;exact hh h
   rw[if_pos h1]at h
   rcases List.mem_cons.1 hx with rfl|hx
   ·exact h1
   ·exact tyNods_all p h x hx
theorem rights{p:Prog}(h:(typesX p).2=0){k:Nat}(hk:k<p.nodes.length)(hk63:(k:Int)≤9223372036854775807){u:Equ}(hu:u∈p.nodes[k].eqs):
  (ofT p (nI k) u.right).2=0/\u.left.map (fun s=>(lookT (varsL p.nodes[k]) s).1)=(ofT p (nI k) u.right).1:=by
 have hs:(scopeX p).2=0:=Classical.byContradiction fun hh=>by
  unfold typesX at h
  rw[if_pos hh]at h;exact hh h
 unfold typesX at h
 rw[if_neg (by simp[hs])]at h
 have hmem:(p.nodes[k],k)∈p.nodes.zipIdx:=by
  have:p.nodes.zipIdx[k]?=some (p.nodes[k],k):=by rw[List.getElem?_zipIdx];simp[List.getElem?_eq_getElem hk]
  exact List.mem_of_getElem? this
 have hg:=tyNods_all p h _ hmem
 unfold nodG nodeTy at hg
 simp only at hg
 have he:firstE (eqnT ⟨p,nI k,varsL p.nodes[k]⟩) p.nodes[k].eqs=0:=Classical.byContradiction fun hh=>by
  rw[if_pos hh,firstI_snd]at hg;exact hh hg
 have h1:=firstE_zero he u hu
 have hx:exprX p.enums u.right=0:=by
  have h2:=shape_nodes (scope_shape hs) _ (List.getElem_mem hk)
  unfold nodeX at h2
  have h3:headE p.enums p.nodes[k]=0:=Classical.byContradiction fun hh=>by rw[if_pos hh]at h2;exact hh h2
  rw[if_neg (by simp[h3])]at h2
  have h4:firstE (equE p.enums) p.nodes[k].eqs=0:=Classical.byContradiction fun hh=>by rw[if_pos hh,firstI_snd]at h2;exact hh h2
  exact equE_ex (firstE_zero h4 u hu)
 have hof:ofT p (nI k) u.right=resT ⟨p,nI k,varsL p.nodes[k]⟩ false u.right:=by
  have e1:(nI k).1=(k:Int):=by rw[nI_of hk63]
  unfold ofT
  rw[e1,if_neg (by omega),if_neg (by simp[hx]),Int.toNat_natCast,List.getElem?_eq_getElem hk]
 rw[hof]
 unfold eqnT at h1
 have h5:(resT ⟨p,nI k,varsL p.nodes[k]⟩ false u.right).2=0:=Classical.byContradiction fun hh=>by rw[if_pos hh]at h1;exact hh h1
 rw[if_neg (by simp[h5])]at h1
 refine⟨h5,?_⟩
 split at h1
 ·cases h1
 ·split at h1
  ·assumption
  ·cases h1
theorem smallP_of{p:Prog}(hw:(T.ag (progC p)).w≤100000000):SmallP p/\(∀u∈p.nodes,(nodT u).w≤100000000)/\p.nodes.length≤100000000:=by
 have l1:(T.sl 2 (p.enums.map enT)).w+(nodesT p.nodes).w≤(T.ag (progC p)).w:=by rw[w_ag];simp only[progC,List.map_cons,List.map_nil,List.sum_cons,List.sum_nil];omega
 have hnT:(nodesT p.nodes).w=(T.sl 8 (p.nodes.map nodT)).w:=rfl
 have b2:=w_lenM nodT 8 p.nodes
 have hln:∀u∈p.nodes,(nodT u).w≤100000000:=fun u hu=>by
  have h2:=w_inM (f:=nodT) (sz:=8) hu
  omega
 exact⟨⟨by omega,fun u hu=>smallN_of (hln u hu),fun u hu=>clocks_of (hln u hu)⟩,hln,by omega⟩
def Ex.withArgs:Ex->List Ex->Ex| .mk k o t v n _,l=>.mk k o t v n l
def putL(F:Int->Ex->Ex×Int):Int->List Ex->List Ex×Int
 | k,[]=>([],k)
 | k,a::l=>((if 0≤k then F k a else(a,k)).1::(putL F (if 0≤k then F k a else(a,k)).2 l).1,(putL F (if 0≤k then F k a else(a,k)).2 l).2)
def putE(x:Ex):Nat->Int->Ex->Ex×Int
 | 0,k,e=>(e,k)
 | m+1,k,e=>if k=0 then(x,-1) else(e.withArgs (putL (putE x m) (k-1) e.args).1,(putL (putE x m) (k-1) e.args).2)
theorem flat_mem{e z:Ex}:z∈flat e ↔ z=e\/∃a∈e.args,z∈flat a:=by
 rw[flat_eq,List.mem_cons]
 unfold flats
 constructor
 ·rintro(h|h)
  ·exact .inl h
  ·obtain⟨l,hl,hz⟩:=List.mem_flatten.1 h
   obtain⟨a,ha,rfl⟩:=List.mem_map.1 hl
   exact .inr ⟨a,ha,hz⟩
 ·rintro(h|⟨a,ha,hz⟩)
  ·exact .inl h
  ·exact .inr (List.mem_flatten.2 ⟨_,List.mem_map_of_mem ha,hz⟩)
def onEq(a b:OnC):Bool:=decide (a.name=b.name) && decide (a.t.1=b.t.1) && decide (a.tag.1=b.tag.1)
theorem onEq_iff(a b:OnC):onEq a b=true ↔ a=b:=by
 obtain⟨n,t,g⟩:=a
 obtain⟨n',t',g'⟩:=b
 simp only[onEq,Bool.and_eq_true,decide_eq_true_eq,OnC.mk.injEq,Subtype.ext_iff,and_assoc]
instance:DecidableEq OnC:=fun a b=>decidable_of_iff _ (onEq_iff a b)
def findD:List Decl->Str->Option Decl
 | [],_=>none
 | d::l,nm=>if d.name=nm then some d else findD l nm
def dclk(vars:List Decl)(nm:Str):List OnC:=((findD vars nm).map Decl.clock).getD []
def onX(vars:List Decl)(nm:Str)(ck:List OnC):Bool:=match findD vars nm with
 | some d=>decide (d.clock=ck)
 | none=>false
theorem findD_mem{vars:List Decl}{nm:Str}{d:Decl}(h:findD vars nm=some d):d∈vars/\d.name=nm:=by
 induction vars with
 | nil=>cases h
 | cons x l ih=>
   unfold findD at h
   by_cases hx:x.name=nm
   ·rw[if_pos hx]at h;cases h;exact⟨by simp,hx⟩
   ·rw[if_neg hx]at h;exact⟨List.mem_cons_of_mem _ (ih h).1,(ih h).2⟩
def onOf(e:Ex):OnC:=⟨e.name,e.t,e.v⟩
def underX(e:Ex)(ck:List OnC)(i:Nat):List OnC:=
 if e.kind.1=8 then ck.dropLast else if e.kind.1=9 then ck++[⟨e.name,e.t,nI i⟩] else ck
def argsG(f:Nat->Ex->Int):Nat->List Ex->Int
 | _,[]=>0
 | i,a::l=>orE (f i a) (argsG f (i+1) l)
def headG(vars:List Decl)(e:Ex)(ck:List OnC):Int:=
 if e.kind.1=2 then(if onX vars e.name ck=true then 0 else 11)
 else if e.kind.1=8 then(if ck.getLast? =some (onOf e)/\onX vars e.name ck.dropLast=true then 0 else 11)
 else if e.kind.1=9 then(if onX vars e.name ck=true then(if ck.length<4 then 0 else 3) else 11)
 else 0
def fitsG(vars:List Decl):Nat->Ex->List OnC->Int
 | 0,_,_=>0
 | m+1,e,ck=>if e.kind.1=1\/e.kind.1=11 then 0 else orE (headG vars e ck) (argsG (fun i a=>fitsG vars m a (underX e ck i)) 0 e.args)
theorem argsG_congr{f g:Nat->Ex->Int}:∀ {l:List Ex} {i:Nat},(∀a∈l,∀j,f j a=g j a)->argsG f i l=argsG g i l
 | [],_,_=>rfl
 | a::l,i,h=>by rw[argsG,argsG,h a (by simp),argsG_congr fun b hb=>h b (by simp[hb])]
theorem fitsG_fuel(vars:List Decl):∀(m:Nat) (e:Ex),wEx e≤m->∀(m':Nat),wEx e≤m'->∀ck,fitsG vars m e ck=fitsG vars m' e ck
 | 0,e,h=>by have:=wEx_pos e;omega
 | m+1,e,h=>by
   intro m' h' ck
   obtain⟨j,rfl⟩:∃j,m'=j+1:=⟨m'-1,by have:=wEx_pos e;omega⟩
   rw[fitsG,fitsG]
   split
   ·rfl
   ·congr 1
    exact argsG_congr fun a hx i=>fitsG_fuel vars m a (by have:=wEx_arg hx;omega) j (by have:=wEx_arg hx;omega) _
def fitsX(vars:List Decl)(e:Ex)(ck:List OnC):Int:=fitsG vars (wEx e) e ck
theorem fitsX_eq(vars:List Decl)(e:Ex)(ck:List OnC):fitsX vars e ck=if e.kind.1=1\/e.kind.1=11 then 0 else orE (headG vars e ck) (argsG (fun i a=>fitsX vars a (underX e ck i)) 0 e.args):=by
 have hp:=wEx_pos e
 unfold fitsX
 rw[show fitsG vars (wEx e) e ck=fitsG vars (wEx e-1+1) e ck from by rw[Nat.sub_add_cancel hp],fitsG]
 congr 2
 exact argsG_congr fun a hx i=>fitsG_fuel vars _ a (by have:=wEx_arg hx;omega) _ (Nat.le_refl _) _
def clkOk(vars:List Decl):List OnC->List OnC->Bool
 | _,[]=>true
 | pre,o::l=>(match findD vars o.name with|some x=>decide (x.ty.1=o.t.1) && decide (x.clock=pre)|none=>false) && clkOk vars (pre++[o]) l
def declsOk(vars l:List Decl):Bool:=l.all fun d=>clkOk vars [] d.clock
def eqClk(vars:List Decl)(u:Equ):Int:=
 if u.left.all (fun s=>onX vars s (dclk vars (u.left.headD [])))=true then fitsX vars u.right (dclk vars (u.left.headD [])) else 11
def nodeK(n:Nod):Int×Int:=
 if declsOk (varsL n) n.locals=false then(-1,11) else if firstE (eqClk (varsL n)) n.eqs≠0 then firstI (eqClk (varsL n)) n.eqs else
 if firstE (fun e=>fitsX (varsL n) e []) (n.assume++n.ensure)≠0 then(-1,firstE (fun e=>fitsX (varsL n) e []) (n.assume++n.ensure)) else(0,0)
def plainP(p:Prog):Bool:=p.nodes.all fun n=>decide (n.autos.length=0)
def clkNods:Nat->List Nod->(Int×Int)×Int
 | _,[]=>((0,0),0)
 | i,n::l=>if(nodeK n).2=0 then clkNods (i+1) l else((i,(nodeK n).1),(nodeK n).2)
def clocksX(p:Prog):(Int×Int)×Int:=if plainP p=false then((-1,-1),2) else if(typesX p).2≠0 then typesX p else clkNods 0 p.nodes
mutual
def flatS:Ex->List Ex
 | .mk k o t v n l=>.mk k o t v n l::flatsS l
def flatsS:List Ex->List Ex
 | []=>[]
 | a::l=>flatS a++flatsS l
end
mutual
def depS:Ex->Int
 | .mk _ _ _ _ _ l=>depsS l 0+1
def depsS:List Ex->Int->Int
 | [],a=>a
 | x::l,a=>depsS l (max a (depS x))
end
mutual
def resS (w:Plc):Ex->Bool->List Int×Int
 | .mk k o t v n l,b=>if(heads (ressS w l)).2≠0 then([],(heads (ressS w l)).2) else kindT w (.mk k o t v n l) (heads (ressS w l)).1 b
def ressS (w:Plc):List Ex->List (List Int×Int)
 | []=>[]
 | a::l=>resS w a true::ressS w l
end
theorem both_S:∀(m:Nat) (e:Ex),wEx e≤m->flat e=flatS e/\exDepth e=depS e/\∀w b,resT w b e=resS w e b
 | 0,e,h=>by have:=wEx_pos e;omega
 | m+1,.mk k o t v n l,h=>by
   have ih:∀a∈l,flat a=flatS a/\exDepth a=depS a/\∀w b,resT w b a=resS w a b:=fun a ha=>both_S m a (by have:=wEx_arg (e:=.mk k o t v n l) (x:=a) ha;omega)
   have h1:∀l:List Ex,(∀a∈l,flat a=flatS a)->flats l=flatsS l:=by
    intro l
    induction l with
    | nil=>intro _;rfl
    | cons a l ih=>intro h;rw[flatsS,<-ih fun b hb=>h b (by simp[hb]),<-h a (by simp)];simp[flats]
   have h2:∀(l:List Ex) (x:Int),(∀a∈l,exDepth a=depS a)->(l.map exDepth).foldl max x=depsS l x:=by
    intro l
    induction l with
    | nil=>intro x _;rfl
    | cons a l ih=>intro x h;rw[depsS,List.map_cons,List.foldl_cons,ih _ fun b hb=>h b (by simp[hb]),h a (by simp)]
   have h3:∀(w:Plc) (l:List Ex),(∀a∈l,∀b,resT w b a=resS w a b)->l.map (resT w true)=ressS w l:=by
    intro w l
    induction l with
    | nil=>intro _;rfl
    | cons a l ih=>intro h;rw[ressS,List.map_cons,ih fun b hb=>h b (by simp[hb]),h a (by simp)]
   refine⟨?_,?_,fun w b=>?_⟩
   ·rw[flat_eq,flatS];exact congrArg _ (h1 l fun a ha=>(ih a ha).1)
   ·rw[exDepth_eq,depS];exact congrArg (·+1) (h2 l 0 fun a ha=>(ih a ha).2.1)
   ·rw[resT_eq,resS,<-h3 w l fun a ha=>(ih a ha).2.2 w];rfl
theorem flat_S(e:Ex):flat e=flatS e:=(both_S _ e (Nat.le_refl _)).1
theorem dep_S(e:Ex):exDepth e=depS e:=(both_S _ e (Nat.le_refl _)).2.1
theorem res_S(w:Plc)(b:Bool)(e:Ex):resT w b e=resS w e b:=(both_S _ e (Nat.le_refl _)).2.2 w b
theorem wEx_S(e:Ex):wEx e=(flatS e).length:=by rw[<-flat_S,flat_len]
theorem flats_S(l:List Ex):flats l=flatsS l:=by
 induction l with
 | nil=>rfl
 | cons a l ih=>rw[flatsS,<-ih,<-flat_S];simp[flats]
def kA:Ex:=.mk (i64 2) (i64 0) (i64 0) (i64 0) [97] []
theorem typesX_parts{p:Prog}(h:(typesX p).2=0):(scopeX p).2=0/\(shapeX p).2=0/\(tyNods p p.nodes.zipIdx).2=0:=by
 have hs:(scopeX p).2=0:=Classical.byContradiction fun hh=>by
  unfold typesX at h
  rw[if_pos hh]at h;exact hh h
 refine⟨hs,Classical.byContradiction fun hh=>?_,?_⟩
 ·unfold scopeX at hs
  rw[if_pos hh]at hs;exact hh hs
 ·unfold typesX at h
  rw[if_neg (by simp[hs])]at h;exact h
theorem clkNods_zero:∀ {l:List Nod} {i:Nat},(clkNods i l).2=0->∀n∈l,(nodeK n).2=0
 | [],_,_,n,hn=>by cases hn
 | x::l,i,h,n,hn=>by
   rw[clkNods]at h
   have h1:(nodeK x).2=0:=Classical.byContradiction fun hh=>by rw[if_neg hh]at h;exact hh h
   rw[if_pos h1]at h
   rcases List.mem_cons.1 hn with rfl|hn
   ·exact h1
   ·exact clkNods_zero h n hn
theorem clocks_ok{p:Prog}(h:(clocksX p).2=0):plainP p=true/\(typesX p).2=0/\∀n∈p.nodes,(nodeK n).2=0:=by
 unfold clocksX at h
 have h1:plainP p=true:=by
  cases hp:plainP p with
  | true=>rfl
  | false=>rw[hp]at h;simp at h
 rw[if_neg (by simp[h1])]at h
 have h2:(typesX p).2=0:=Classical.byContradiction fun hh=>by rw[if_pos hh]at h;exact hh h
 rw[if_neg (by simp[h2])]at h
 exact⟨h1,h2,clkNods_zero h⟩
theorem nI_val{k:Nat}(h:(k:Int)≤9223372036854775807):(nI k).1=k:=by unfold nI;rw[dif_pos h]
theorem one_flat{es:List En}{e:Ex}(h:exprX es e=0):∀x∈flat e,oneX x=0:=by
 unfold exprX at h
 split at h
 ·rename_i hc
  unfold checkX at hc
  split at hc
  ·cases hc
  ·exact firstE_zero hc
 ·rename_i hc;exact absurd h hc
abbrev onV (o:OnC):Value:=.agg #[str o.name,.int .i64 o.t.1,.int .i64 o.tag.1]
theorem cellsOn:Tryz.prog.cellsOf 83=3:=by kernel_rfl
theorem keyTyOn:Tryz.prog.keyType 83=true:=by kernel_rfl
theorem wf64(t:I64):(Lit.int .i64 t.1).wf=true:=by
 simp only[Lit.wf,Bool.and_eq_true,decide_eq_true_eq]
 exact⟨t.2.1,t.2.2⟩
theorem keyLitsOn(N:Nat){o:OnC}(hs:(⟨o.name.toArray⟩:ByteArray).size≤maxLen):
  (Tryz.prog.keyLits (N+1+1) 83 [str o.name,.int .i64 o.t.1,.int .i64 o.tag.1])=some [.string o.name,.int .i64 o.t.1,.int .i64 o.tag.1]:=by
 have e1:∀c,Tryz.prog.keyLits (N+1) 3 [c]=(match c with| .int q' n=>if q'= .i64/\(Lit.int .i64 n).wf=true then some [.int .i64 n] else none|_=>none):=fun c=>by
  unfold Program.keyLits
  simp only[Tryz.underlying3]
  cases c <;> rfl
 have e2:Tryz.prog.keyLits (N+1) 9 [str o.name]=some [.string o.name]:=by
  unfold Program.keyLits
  simp only[Tryz.underlying9]
  rw[if_pos hs]
 unfold Program.keyLits
 simp only[Tryz.underlying83,cellsOn]
 simp only[List.length_cons,List.length_nil,List.mapM_cons,List.mapM_nil,cells3,cells4,List.drop_zero,List.take,List.drop,e1,e2,wf64]
 simp
theorem keyOn{o:OnC}(h:o.name.length≤1000000000):keyOf Tryz.prog 83 (onV o)=some (.string (keyBytes [.string o.name,.int .i64 o.t.1,.int .i64 o.tag.1])):=by
 have hs:(⟨o.name.toArray⟩:ByteArray).size≤maxLen:=by
  show o.name.toArray.size≤maxLen
  simp[maxLen];omega
 have h5:(onV o).formed Tryz.prog 83=true:=by
  simp only[onV,Value.formed,Tryz.underlying83,cellsOn];rfl
 obtain⟨N,hN⟩:=typesN
 rw[keyOf,Tryz.underlying83]
 simp only[keyTyOn,h5,hN,Value.cells,Bool.and_self,if_true,keyLitsOn N hs,Option.map_some]
section
variable {n:Nat}{env:Env}{K:TK}{all:Array Oper}{rest:List Oper}{d:Nat}{ty:TypeId}{pos:String}{aft:Array Edge}{H:Heap}{q:Bool}
theorem on_val{o:OnC}{m:M}{v:Value}(h:SRel m (.t (onT o)) v):v=onV o:=by
 cases h with
 | t _ _ h=>
   cases h with
   | ag _ arr hs h1 h=>
     obtain⟨l⟩:=arr
     match l,hs with
     | [a,b,c],_=>
       have ha:=h 0 _ a rfl rfl
       have hb:=h 1 _ b rfl rfl
       have hc:=h 2 _ c rfl rfl
       cases ha;cases hb;cases hc
       rfl
theorem run_eqOn(w:World){a b:OnC}(ha:a.name.length≤1000000000)(hb:b.name.length≤1000000000):(Op.equal 83 (onV a) (onV b)).run Tryz.prog w= .ok (decide (a=b)) w:=by
 obtain⟨N,hN⟩:=typesN
 have la:=keyLitsOn N (o:=a) (by show a.name.toArray.size≤maxLen;simp[maxLen];omega)
 have lb:=keyLitsOn N (o:=b) (by show b.name.toArray.size≤maxLen;simp[maxLen];omega)
 obtain⟨r,hr,hrr⟩:=run_equal_deep (P:=Tryz.prog) w (m:=3) (Nat.le_of_ble_eq_true rfl) (by kernel_rfl) (by rw[Tryz.underlying83]) (keyOn ha) (keyOn hb)
 have hrd:r=decide (a=b):=by
  by_cases h:a=b
  ·rw[decide_eq_true h];exact hrr.2 (by rw[h])
  ·rw[decide_eq_false h]
   cases hb:r with
   | false=>rfl
   | true=>
     exfalso
     have:=hrr.1 hb
     simp only[Lit.string.injEq]at this
     have:=keyLits_inj la lb this
     simp only[List.cons.injEq,Lit.string.injEq,Lit.int.injEq,true_and,and_true]at this
     obtain⟨h1,h2,h3⟩:=this
     exact h ((onEq_iff a b).1 (by simp[onEq,h1,h2,h3]))
 rw[hr,hrd]
theorem TO.neOn{t':TypeId}{x y:Operand}{a b:OnC}(hd:Nat.ble (d+1) n=true)(hx:env.val x=some (.t (onT a)))(hy:env.val y=some (.t (onT b)))(ha:a.name.length≤1000000000)(hb:b.name.length≤1000000000)
  (k:TO q Tryz.prog n all rest ((d,.b (!decide (a=b)))::env) H K):TO q Tryz.prog n all (⟨some d,.binOp .neq 83 x y t',ty,pos,aft,none⟩::rest) env H K:=
 TO.op hd (fun m ac h1 h2 h3=>⟨.bool (!decide (a=b)),fun w' hw'=>by
  have e1:=on_val (h3.val hx)
  have e2:=on_val (h3.val hy)
  have hg:Tryz.prog.eqGuardType Tryz.prog.depth 83=false:=by kernel_rfl
  simp[execOp,e1,e2,eqGuard,hg,Go.binOp,run_eqOn w' ha hb],.t _ _ (.v _)⟩) k
theorem TO.neOnV{t':TypeId}{x y:Operand}{a b:OnC}{v:Bool}(hd:Nat.ble (d+1) n=true)(hx:env.val x=some (.t (onT a)))(hy:env.val y=some (.t (onT b)))(ha:a.name.length≤1000000000)(hb:b.name.length≤1000000000)(hv:(!decide (a=b))=v)
  (k:TO q Tryz.prog n all rest ((d,.b v)::env) H K):TO q Tryz.prog n all (⟨some d,.binOp .neq 83 x y t',ty,pos,aft,none⟩::rest) env H K:=by
 subst hv;exact TO.neOn hd hx hy ha hb k
end
end Go.Proofs.YtcbhlhmebbkgnaaGreat
