import Derived.Test.YtcbhlhmebbkgnaaGreatPk2
import Derived.Test.YtcbhlhmebbkgnaaGreatPk4
import Derived.Test.YtcbhlhmebbkgnaaGreatPk10
import Derived.Test.YtcbhlhmebbkgnaaGreatPk18
import Derived.Test.YtcbhlhmebbkgnaaGreatPk19
import Derived.Test.YtcbhlhmebbkgnaaGreatPk22
import Derived.Test.YtcbhlhmebbkgnaaGreatPk23
set_option linter.unusedSimpArgs false
set_option linter.unusedVariables false
namespace Go.TL
open Go
section rules
variable {P:Program}{n:Nat}{env:Env}{H:Heap}{K:TK}{all:Array Oper}{rest:List Oper}{tab:Tab}{q:Bool}{d:Nat}{ty:TypeId}{pos:String}{aft:Array Edge}
theorem Fit.array{t:TypeId}{i:TyI}{c:Nat}{e:TypeId}(h:Fit P t i)(hk:i.k= .array c e):P.underlying t=some (.array c e):=by
 obtain⟨d,ti,z,h1,h2,h3,_⟩:=h.ex
 rw[hk]at h3
 cases d <;> simp[TK'.fits]at h3
 obtain⟨rfl,rfl⟩:=h3
 exact h1
theorem TO.zus(hT:zaB P tab){t e:TypeId}{i ie:TyI}{c:Nat}{parts:Array (Nat×Operand)}{ps:List (Nat×SV)}{cs:List SV}{ts:List T}(hd:Nat.ble (d+1) n=true)
  (ht:tab.get t=some i)(hk:i.k= .array c e)(he:tab.get e=some ie)(hs:ie.size=1)(hp:env.parts parts.toList=some ps)(hc:zfZ ((List.range c).map fun j=>(j,1)) (i.zero.map .t) ps=some cs)(hts:allT cs=some ts)
  (k:TO q P n all rest ((d,.t (.ag ts))::env) H K):TO q P n all (⟨some d,.build t parts,ty,pos,aft,none⟩::rest) env H K:=
 TO.op hd (fun m ac h1 h2 h3=>by
  obtain⟨z,hz1,hz2,hz3,_⟩:=(hT t i ht).zero
  obtain⟨q1,q0,q2⟩:=zbs (A:=m.A) (w:=m.w) _ _ hz2
  obtain⟨p1,p2⟩:=h3.parts parts.toList ps hp
  obtain⟨arr,r1,r2,r3,r4⟩:=zmU (m:=m) ((List.range c).map fun j=>(j,1)) (fun j=>some (j*1,1)) (fun j a ha=>by
   rw[List.getElem?_map]at ha
   cases hq:(List.range c)[j]? with
   | none=>rw[hq]at ha;cases ha
   | some x=>
     rw[hq]at ha;cases ha
     rw[List.getElem?_range]at hq
     ·cases hq;simp
     ·exact Classical.byContradiction fun hh=>by rw[List.getElem?_eq_none (by simp;omega)]at hq;cases hq) ps _ (i.zero.map .t) cs z.cells p1 p2 hc (by simp[q1]) (fun j y hy=>q0 j y (by simpa using hy)) (fun j c y hj hy=>by
   rw[List.getElem?_map]at hj
   cases hq:i.zero[j]? with
   | none=>rw[hq]at hj;cases hj
   | some u=>rw[hq]at hj;cases hj;exact .t _ _ (q2 j u y hq (by simpa using hy)))
  obtain⟨a1,a2⟩:=zdu (m:=m) hts
  refine⟨.agg arr,fun w' _=>?_,.t _ _ (.ag _ _ (by omega) r3 fun j t y hj hy=>?_)⟩
  ·have hu:=(hT t i ht).array hk
   simp only[Nat.mul_one]at r1
   simp[execOp,Instr.build,hz1,underlying,hu,(hT e ie he).sizeOf,hs,r1]
  ·obtain⟨c,hc1,hc2⟩:=a2 j t hj
   exact hc2 y (r4 j c y hc1 hy)) k
theorem TO.zuY(hT:zaB P tab){t e:TypeId}{i ie:TyI}{c j:Nat}{x y:Operand}{ts:List T}{v:T}{ik:IntKind}(hd:Nat.ble (d+1) n=true)
  (ht:tab.get t=some i)(hk:i.k= .array c e)(he:tab.get e=some ie)(ha:ie.k.agg=false)(hs:ie.size=1)(hx:env.val x=some (.t (.ag ts)))(hy:env.val y=some (.t (.v (.int ik (j:Int)))))(hv:ts[j]?=some v)(hl:Nat.blt j c=true)
  (k:TO q P n all rest ((d,.t v)::env) H K):TO q P n all (⟨some d,.index t x y,ty,pos,aft,none⟩::rest) env H K:=
 TO.op hd (fun m ac h1 h2 h3=>by
  have hlt:j<c:=by have h0:=hl;simp[Nat.blt]at h0;omega
  have hr:=h3.val hx
  generalize hq:ac.eval x=z at hr
  cases hr with
  | t _ _ hr=>
    cases hr with
    | ag _ arr hsz h1' hr=>
      have hjl:=(List.getElem?_eq_some_iff.1 hv).1
      obtain⟨w0,hw0⟩:∃w0,arr[j]?=some w0:=⟨_,Array.getElem?_eq_getElem (by omega)⟩
      refine⟨w0,fun w' _=>?_,.t _ _ (hr j v w0 hv hw0)⟩
      have hu:=(hT t i ht).array hk
      simp[execOp,Instr.index,asIntOf,hq,(h3.val hy).v_eq,underlying,hu,hlt,(hT e ie he).sizeOf,hs,part,(hT e ie he).isAgg,ha,hw0]) k
end rules
end Go.TL
namespace Go.Proofs.YtcbhlhmebbkgnaaGreat
open Go Go.TL
attribute [local irreducible] TR TO Then zaw RetK Sound zab Kf GG zaZ
def okAt(vars:List Decl)(pre:List OnC)(o:OnC):Bool:=match findD vars o.name with|some x=>decide (x.ty.1=o.t.1) && decide (x.clock=pre)|none=>false
theorem zj8{vars:List Decl}{l:List OnC}{j:Nat}(h:j<l.length):zji vars (l.take j) (l.drop j)=(okAt vars (l.take j) l[j] && zji vars (l.take (j+1)) (l.drop (j+1))):=by
 rw[List.drop_eq_getElem_cons h,zji,List.take_succ_eq_append_getElem h];rfl
theorem zhm{vars l:List Decl}{k:Nat}(h:k<l.length):zdg vars (l.drop k)=(zji vars [] l[k].clock && zdg vars (l.drop (k+1))):=by
 rw[List.drop_eq_getElem_cons h];rfl
set_option maxHeartbeats 2000000 in
theorem zm8 (vars:List Decl) (hl:vars.length≤1000000000) (hk:∀d∈vars,zaM d.clock) (l:List Decl) (hll:l.length≤1000000000) (hkl:∀d∈l,zaM d.clock):
  Pure Tryz.prog 67 [chkT vars,.t (zac l)] (.b (zdg vars l)):=by
 have hml:(l.map zah).length=l.length:=List.length_map _
 refine so Tryz.func67 ?_
 repeat' (first|refine wu ?_|exact wkc|intro hc|refine wk2 ?_ ?_|fail)
 refine TR.zal l.length (fun k=>zdg vars l=zdg vars (l.drop k)) (fun k=>[(2,.cp [zac vars] 0),(11,.t (zac l)),(12,.i (l.map zah).length),(13,.i k)]) (fun _=>[]) rfl (fun k hlt ha=>?_) (fun ha=>?_)
 ·have hx:=zbh hlt
  have hkd:=hkl _ (List.getElem_mem hlt)
  rw[zhm hlt]at ha
  generalize l[k]=d at*
  have hkd1:=hkd.1
  have hmd:(d.clock.map onT).length=d.clock.length:=List.length_map _
  unfold zb4 at hx
  repeat' (first|refine wkt ?_|refine wka ?_|refine wk ?_|exact wkc|intro hc|refine wk2 ?_ ?_|fail)
  refine TR.zal d.clock.length (fun j=>zji vars [] d.clock=zji vars (d.clock.take j) (d.clock.drop j)) (fun j=>[(2,.cp [zac vars] 0),(6,.cp [.s d.name,T.n d.ty,.sl 3 (d.clock.map onT)] 0),(11,.t (zac l)),(12,.i (l.map zah).length),(13,.i k),(18,.t (onsT d.clock)),(19,.i (d.clock.map onT).length),(20,.i j)]) (fun _=>[]) rfl (fun j hlt2 ha2=>?_) (fun ha2=>?_)
  ·have hx2:=zmR hlt2
   rw[zj8 hlt2]at ha2
   generalize d.clock[j]=o at*
   have hf:=zfs vars hl o.name
   unfold okAt at ha2
   unfold zbI at hf
   cases hfo:findD vars o.name with
   | none=>
     rw[hfo]at hf ha2
     rw[ha,ha2]
     repeat' (first|refine wkt ?_|refine wka ?_|refine rg [.b false,.b true,.b true,.t (.v undef),.t (.v undef),.t (.v undef),.t (.v undef),.t (.v undef),.b true,.b true,.t (.v undef),.t (.v undef),.t (.v undef),.t (.v undef),.t (.v undef),.t (.v undef),.t (.v undef),.t (.v undef),.b true] ?_ ?_|refine wv hf ?_|exact trivial|exact And.intro rfl rfl|refine And.intro (fun H env=>?_) ?_|refine wk ?_|exact wkc|intro hc|refine wk2 ?_ ?_|fail)
     exact wkr
   | some x=>
     rw[hfo]at hf ha2
     simp only[Option.getD_some,Option.isSome_some]at hf ha2
     rw[show zah x= .ag [.s x.name,T.n x.ty,.sl 3 (x.clock.map onT)] from rfl]at hf
     by_cases ht:x.ty.1=o.t.1
     ·have hs:=ziK x.clock (d.clock.take j) (hk x (zcL hfo).1) (hkd.take j)
      rw[show onsT (d.clock.take j)= .sl 3 ((d.clock.map onT).take j) by rw[onsT,List.map_take]]at hs
      by_cases hq:x.clock=d.clock.take j
      ·rw[decide_eq_true hq]at hs ha2
       rw[decide_eq_true ht]at ha2
       repeat' (first|refine wkt ?_|refine wka ?_|refine rg [.b true,.b false,.b false,.cp [.s x.name,T.n x.ty,.sl 3 (x.clock.map onT)] 1,.t (T.n x.ty),.cp [.s o.name,T.n o.t,T.n o.tag] 1,.t (T.n o.t),.b false,.b false,.b false,.cp [.s x.name,T.n x.ty,.sl 3 (x.clock.map onT)] 2,.t (onsT x.clock),.cp [.s d.name,T.n d.ty,.sl 3 (d.clock.map onT)] 2,.t (onsT d.clock),.i j,.t (.sl 3 ((d.clock.map onT).take j)),.b true,.b false,.b false] ?_ ?_|refine wv hf ?_|refine wv hs ?_|exact trivial|exact And.intro rfl rfl|refine And.intro (fun H env=>?_) ?_|refine wk ?_|exact wkc|intro hc|refine wk2 ?_ ?_|fail)
       exact zab.zak hlt2 ha2
      ·rw[decide_eq_false hq]at hs ha2
       rw[Bool.and_false,Bool.false_and]at ha2
       rw[ha,ha2]
       repeat' (first|refine wkt ?_|refine wka ?_|refine rg [.b true,.b false,.b false,.cp [.s x.name,T.n x.ty,.sl 3 (x.clock.map onT)] 1,.t (T.n x.ty),.cp [.s o.name,T.n o.t,T.n o.tag] 1,.t (T.n o.t),.b false,.b false,.b false,.cp [.s x.name,T.n x.ty,.sl 3 (x.clock.map onT)] 2,.t (onsT x.clock),.cp [.s d.name,T.n d.ty,.sl 3 (d.clock.map onT)] 2,.t (onsT d.clock),.i j,.t (.sl 3 ((d.clock.map onT).take j)),.b false,.b true,.b true] ?_ ?_|refine wv hf ?_|refine wv hs ?_|exact trivial|exact And.intro rfl rfl|refine And.intro (fun H env=>?_) ?_|refine wk ?_|exact wkc|intro hc|refine wk2 ?_ ?_|fail)
       exact wkr
     ·rw[decide_eq_false ht]at ha2
      rw[ha,ha2]
      repeat' (first|refine wkt ?_|refine wka ?_|refine rg [.b true,.b false,.b false,.cp [.s x.name,T.n x.ty,.sl 3 (x.clock.map onT)] 1,.t (T.n x.ty),.cp [.s o.name,T.n o.t,T.n o.tag] 1,.t (T.n o.t),.b true,.b true,.b true,.t (.v undef),.t (.v undef),.t (.v undef),.t (.v undef),.t (.v undef),.t (.v undef),.t (.v undef),.t (.v undef),.b true] ?_ ?_|refine wv hf ?_|exact trivial|exact And.intro rfl rfl|refine And.intro (fun H env=>?_) ?_|refine wk ?_|exact wkc|intro hc|refine wk2 ?_ ?_|fail)
      exact wkr
  ·rw[List.take_length,List.drop_of_length_le (Nat.le_refl _)]at ha2
   rw[ha2]at ha
   repeat' (first|refine wu ?_|exact wkc|intro hc|refine wk2 ?_ ?_|fail)
   exact zab.zak hlt ha
 ·rw[ha,List.drop_of_length_le (Nat.le_refl _)]
  repeat' (first|refine wu ?_|exact wkc|intro hc|refine wk2 ?_ ?_|fail)
  exact wkr
set_option maxHeartbeats 2000000 in
theorem zpD (vars:List Decl) (hl:vars.length≤1000000000) (hk:∀d∈vars,zaM d.clock) (u:Equ) (hu:u.left≠ []) (hul:u.left.length≤1000000000) (he:wEx u.right≤1000000000) (hn:∀x∈flat u.right,x.name.length≤1000000000):
  Pure Tryz.prog 68 [chkT vars,.t (.ag (equC u))] (.i (zjb vars u)):=by
 have hml:(u.left.map T.s).length=u.left.length:=List.length_map _
 obtain⟨s0,ls,hls⟩:∃s0 ls,u.left=s0::ls:=by
  cases h:u.left with
  | nil=>exact absurd h hu
  | cons a b=>exact⟨a,b,rfl⟩
 have h0:(u.left.map T.s)[0]?=some (T.s s0):=by rw[hls];rfl
 have hf:=zfs vars hl s0
 have hdc:=zfx vars s0
 have hsz:zaM (zbI vars s0).clock:=by
  unfold zbI
  cases h:findD vars s0 with
  | none=>exact zaM.nil
  | some d=>exact hk d (zcL h).1
 generalize zbI vars s0=d at*
 generalize (findD vars s0).isSome=fo at*
 rw[show zah d= .ag [.s d.name,T.n d.ty,.sl 3 (d.clock.map onT)] from rfl]at hf
 have hfi:=zjG vars hl hk _ u.right (Nat.le_refl _) he hn d.clock hsz
 have hon:=fun s=>zhK vars hl hk s d.clock hsz
 unfold zjb
 rw[show u.left.headD []=s0 by rw[hls];rfl,<-hdc]
 generalize zcu vars u.right d.clock=z at*
 unfold equC
 unfold exC at*
 generalize u.left=L at*
 refine so Tryz.func68 ?_
 repeat' (first|refine wkt ?_|fail)
 refine TR.zc5 (envF:=?envF) (HF:=[.cells [.s d.name,.t (T.n d.ty),.t (onsT d.clock)]]) [(chkT vars,false),(.cp [.sl 1 (L.map T.s),T.n u.right.kind,T.n u.right.op,T.n u.right.t,T.n u.right.v,.s u.right.name,.sl 6 (u.right.args.map exT)] 0,false),(.t (.sl 1 (L.map T.s)),false),(.cp [.s s0] 0,false),(.s s0,false),(.tup [.t (.ag [.s d.name,T.n d.ty,.sl 3 (d.clock.map onT)]),.b fo],false),(.tup [.t (.ag [.s d.name,T.n d.ty,.sl 3 (d.clock.map onT)]),.b fo],false),(.t (.ag [.s d.name,T.n d.ty,.sl 3 (d.clock.map onT)]),false),(.b fo,false),(.ref 0 0,true),(.any,true),(.b fo,false)] [[],[.cells [.s [],.i 0,.t (.v (.slice none 0 0))]],[.cells [.s d.name,.t (T.n d.ty),.t (onsT d.clock)]]] hmix ?hB ?h0 ?hp ?hF ?hE ?hK
 case hB=>(dsimp only[List.map];decide +kernel)
 case h0=>exact rfl
 case hF=>exact rfl
 case hE=>exact rfl
 case hp=>
  repeat' (first|refine wkt ?_|refine wv hf ?_|exact trivial|exact And.intro rfl rfl|refine And.intro (fun H env=>?_) ?_|refine And.intro (fun env=>?_) ?_|refine wk ?_|fail)
  done
 case hK=>
  repeat' (first|refine wu ?_|exact wkc|intro hc|refine wk2 ?_ ?_|fail)
  refine TR.zal L.length (fun k=>(L.take k).all (fun s=>onX vars s d.clock)=true) (fun k=>[(2,.cp [zac vars] 0),(3,.cp [.sl 1 (L.map T.s),T.n u.right.kind,T.n u.right.op,T.n u.right.t,T.n u.right.v,.s u.right.name,.sl 6 (u.right.args.map exT)] 0),(5,.ref 0 0),(19,.t (.sl 1 (L.map T.s))),(20,.i (L.map T.s).length),(21,.i k)]) (fun _=>[.cells [.s d.name,.t (T.n d.ty),.t (onsT d.clock)]]) rfl (fun k hlt ha=>?_) (fun ha=>?_)
  ·have hx:=at_s hlt
   have htk:=zaG hlt
   have hno:=hon L[k]
   have hmem:=List.getElem_mem hlt
   generalize L[k]=s at*
   cases hq:onX vars s d.clock with
   | true=>
     rw[hq]at hno
     repeat' (first|refine wkt ?_|refine wka ?_|refine wk ?_|exact wkc|intro hc|refine wk2 ?_ ?_|refine wv hno ?_|fail)
     refine zab.zak hlt ?_
     rw[htk,List.all_append,ha]
     simp[hq]
   | false=>
     rw[hq]at hno
     rw[if_neg (fun h=>by rw[List.all_eq_true]at h;have:=h s hmem;rw[hq]at this;cases this)]
     repeat' (first|refine wkt ?_|refine wka ?_|refine wk ?_|exact wkc|intro hc|refine wk2 ?_ ?_|refine wv hno ?_|fail)
     exact wkr
  ·rw[List.take_length]at ha
   rw[if_pos ha]
   repeat' (first|refine wu ?_|exact wkc|intro hc|refine wk2 ?_ ?_|refine wv hfi ?_|fail)
   exact wkr
structure NodK (n:Nod):Prop where
 len:(zao n).length≤1000000000
 clk:∀d∈zao n,zaM d.clock
 eqs:∀u∈n.eqs,u.left≠ []/\u.left.length≤1000000000/\wEx u.right≤1000000000/\∀x∈flat u.right,x.name.length≤1000000000
 exs:∀e∈n.assume++n.ensure,wEx e≤1000000000/\∀x∈flat e,x.name.length≤1000000000
 le:n.locals.length≤1000000000/\n.eqs.length≤1000000000/\n.assume.length≤1000000000/\n.ensure.length≤1000000000
set_option maxHeartbeats 4000000 in
theorem zmQ (n:Nod) (hN:NodK n):Pure Tryz.prog 40 [chkT (zao n),.t (.ag (nodC n))] (.tup [.i (zdk n).1,.i (zdk n).2]):=by
 have hloc:∀d∈n.locals,zaM d.clock:=fun d hd=>hN.clk d (by simp[zao,hd])
 have hd:=zm8 (zao n) hN.len hN.clk n.locals hN.le.1 hloc
 have heq:=fun u (hu:u∈n.eqs)=>zpD (zao n) hN.len hN.clk u (hN.eqs u hu).1 (hN.eqs u hu).2.1 (hN.eqs u hu).2.2.1 (hN.eqs u hu).2.2.2
 obtain⟨FX,hFX⟩:∃FX:Ex->Int,∀e,FX e=zcu (zao n) e []:=⟨_,fun _=>rfl⟩
 have hex:=fun e (he:e∈n.assume++n.ensure)=>zjG (zao n) hN.len hN.clk _ e (Nat.le_refl _) (hN.exs e he).1 (hN.exs e he).2 [] zaM.nil
 simp only[<-hFX]at hex
 obtain⟨_,l2,l3,l4⟩:=hN.le
 have hz:zdk n=zdk n:=rfl
 conv at hz=>rhs;unfold zdk
 generalize zdk n=z at hz⊢
 generalize zdg (zao n) n.locals=zd at*
 generalize zjb (zao n)=EQ at*
 rw[show(fun e=>zcu (zao n) e [])=FX from funext fun e=>(hFX e).symm]at hz
 clear hFX
 generalize zao n=vars at*
 have hme:(n.eqs.map equT).length=n.eqs.length:=List.length_map _
 unfold nodC
 cases zd with
 | false=>
   rw[if_pos rfl]at hz
   subst hz
   refine so Tryz.func40 ?_
   repeat' (first|refine wu ?_|exact wkc|intro hc|refine wk2 ?_ ?_|refine wv hd ?_|fail)
   exact wkr
 | true=>
 rw[if_neg (by decide)]at hz
 refine so Tryz.func40 ?_
 repeat' (first|refine wu ?_|exact wkc|intro hc|refine wk2 ?_ ?_|refine wv hd ?_|fail)
 refine TR.zal n.eqs.length (fun k=>zaa EQ (n.eqs.take k)=0) (fun k=>[(2,.cp [zac vars] 0),(3,.cp (nC n) 0),(20,.t (.sl 7 (n.eqs.map equT))),(21,.i (n.eqs.map equT).length),(22,.i k)]) (fun _=>[]) rfl (fun k hlt ha=>?_) (fun ha=>?_)
 ·have hx:=zcP hlt
  have g1:=zan (f:=EQ) hlt ha
  have g2:=zai (f:=EQ) hlt ha
  have g3:=zcQ (f:=EQ) hlt ha
  have hs:=heq _ (List.getElem_mem hlt)
  generalize n.eqs[k]=u at*
  generalize EQ u=r at*
  unfold equC at hx hs
  clear heq hex
  repeat' (first|refine wkt ?_|refine wka ?_|refine wk ?_|exact wkc|intro hc|refine wk2 ?_ ?_|refine wv hs ?_|fail)
  all_goals first
   | exact zab.zak hlt (g2 (by omega))
   | (rw[if_pos (by rw[g1 (by omega)];omega),g3 (by omega)]at hz;subst hz;(repeat' (first|refine zab.ret ?_|refine wk ?_|fail));exact wkr)
 have e0:=zar ha
 rw[if_neg (by rw[e0];decide)]at hz
 clear heq hd
 repeat' (first|refine wkt ?_|(apply TO.zus zam;(iterate 8 exact rfl))|refine wk ?_|exact wkc|intro hc|refine wk2 ?_ ?_|fail)
 have hfa:=zaL FX n.assume n.ensure
 refine TR.zal 2 (fun k=>zaa FX (([n.assume,n.ensure].take k).flatten)=0) (fun k=>[(2,.cp [zac vars] 0),(39,.t (.ag [.sl 6 (n.assume.map exT),.sl 6 (n.ensure.map exT)])),(40,.i k)]) (fun _=>[]) rfl (fun k hlt hb=>?_) (fun hb=>?_)
 ·obtain⟨L,hL,hLm,hLl,hnx,hat⟩:∃L:List Ex,[n.assume,n.ensure][k]?=some L/\(∀e∈L,e∈n.assume++n.ensure)/\L.length≤1000000000/\(zaa FX L=0->zaa FX (([n.assume,n.ensure].take (k+1)).flatten)=0)/\(zaa FX L≠0->zaa FX (n.assume++n.ensure)=zaa FX L):=by
   rcases(by omega:k=0\/k=1)with rfl|rfl
   ·exact⟨n.assume,rfl,fun e he=>by simp[he],l3,fun h=>by simpa using h,fun h=>by rw[hfa,if_neg h]⟩
   ·have h1:zaa FX n.assume=0:=by simpa using hb
    exact⟨n.ensure,rfl,fun e he=>by simp[he],l4,fun h=>by simpa [zaL,h1]using h,fun h=>by rw[hfa,if_pos h1]⟩
  have hv:[T.sl 6 (n.assume.map exT),.sl 6 (n.ensure.map exT)][k]?=some (.sl 6 (L.map exT)):=by
   have:=congrArg (Option.map fun l:List Ex=>T.sl 6 (l.map exT)) hL
   rw[<-List.getElem?_map]at this
   exact this
  have hexL:=fun e he=>hex e (hLm e he)
  have hmL:(L.map exT).length=L.length:=List.length_map _
  clear hL hLm hex hfa
  generalize n.assume=A at*
  generalize n.ensure=B at*
  repeat' (first|refine wkt ?_|(apply TO.zuY zam;(iterate 8 exact rfl);exact hv;(simp[Nat.blt];omega))|refine wk ?_|exact wkc|intro hc|refine wk2 ?_ ?_|fail)
  refine TR.zal L.length (fun j=>zaa FX (L.take j)=0) (fun j=>[(2,.cp [zac vars] 0),(39,.t (.ag [.sl 6 (A.map exT),.sl 6 (B.map exT)])),(40,.i k),(43,.t (.sl 6 (L.map exT))),(44,.i (L.map exT).length),(45,.i j)]) (fun _=>[]) rfl (fun j hlj hb2=>?_) (fun hb2=>?_)
  ·have hx:=zbd hlj
   have g1:=zan (f:=FX) hlj hb2
   have g2:=zai (f:=FX) hlj hb2
   have hs:=hexL _ (List.getElem_mem hlj)
   generalize L[j]=x at*
   generalize FX x=r at*
   unfold exC at hx hs
   clear hexL
   repeat' (first|refine wkt ?_|refine wka ?_|refine wk ?_|exact wkc|intro hc|refine wk2 ?_ ?_|refine wv hs ?_|fail)
   all_goals first
    | exact zab.zak hlj (g2 (by omega))
    | (have h1:=g1 (by omega);have h2:=hat (by rw[h1];omega);rw[h2,h1,if_pos (by omega)]at hz;subst hz;(repeat' (first|refine zab.ret ?_|refine wk ?_|fail));exact wkr)
  ·have e1:=zar hb2
   repeat' (first|refine wu ?_|exact wkc|intro hc|refine wk2 ?_ ?_|fail)
   exact zab.zak hlt (hnx e1)
 ·have hb0:zaa FX (n.assume++n.ensure)=0:=by simpa using hb
  rw[if_neg (by rw[hb0];decide)]at hz
  subst hz
  repeat' (first|refine wu ?_|exact wkc|intro hc|refine wk2 ?_ ?_|fail)
  exact wkr
theorem zkq(fid:FuncId)(p:Nod->Bool)(l:List Nod)(hl:l.length≤1000000000)(hp:∀d,Pure Tryz.prog fid [.t (nodT d)] (.b (p d))):
  Pure Tryz.prog 59 [.t (zag l),.fn fid []] (.b (l.any p)):=by
 have hs:=zf7 fid [] rfl p l hl hp
 have ha:=zgd p l
 generalize idxI p l=z at*
 have hu:unders 0 [.t (zag l),.fn fid []]=true:=rfl
 refine so Tryz.func59 ?_
 repeat' (first|refine wk ?_|exact wkc|intro hc|refine wk2 ?_ ?_|(apply TO.zev hs;(iterate 3 exact rfl);exact Les.refl _;exact hu;exact rfl)|fail)
 all_goals
  refine RetK.pure rfl (Le.of_eq ?_) rfl
  refine congrArg (fun b=>SV.t (T.v (Value.bool b))) ?_
  rw[<-ha];simp;omega
theorem zmK(n:Nod):Pure Tryz.prog 60 [.t (nodT n)] (.b (decide (0<n.autos.length))):=by
 have hm:(n.autos.map zaj).length=n.autos.length:=List.length_map _
 show Pure _ _ [.t (.ag (nodC n))] _
 unfold nodC
 by_cases h:0<n.autos.length
 ·rw[decide_eq_true h]
  refine so Tryz.func60 ?_
  repeat' (first|refine wu ?_|exact wkc|intro hc|refine wk2 ?_ ?_|fail)
  all_goals first
   | exact wkr
   | (exfalso;omega)
 ·rw[decide_eq_false h]
  refine so Tryz.func60 ?_
  repeat' (first|refine wu ?_|exact wkc|intro hc|refine wk2 ?_ ?_|fail)
  all_goals first
   | exact wkr
   | (exfalso;omega)
theorem zqD(p:Prog):zcW p= !(p.nodes.any fun n=>decide (0<n.autos.length)):=by
 unfold zcW
 rw[List.all_eq_not_any_not]
 congr 2
 funext n
 simp[Nat.pos_iff_ne_zero]
theorem zhZ(p:Prog)(hp:p.nodes.length≤1000000000):Pure Tryz.prog 38 [.t (.ag (zav p))] (.b (zcW p)):=by
 have hs:=zkq 60 _ p.nodes hp zmK
 rw[zqD]
 generalize (p.nodes.any fun n=>decide (0<n.autos.length))=z at*
 unfold zav
 refine so Tryz.func38 ?_
 repeat' (first|refine wu ?_|exact wkc|intro hc|refine wk2 ?_ ?_|(apply TO.zev hs;(iterate 3 exact rfl);exact Les.refl _;exact rfl;exact rfl)|fail)
 exact wkr
theorem znQ(n:Nod):(zac (zao n)).w≤(nodT n).w:=by
 have h1:=zdJ n
 have l2:=zaq equT 7 n.eqs
 have e1:=zaS n.ins (n.outs++(n.locals++[]))
 have e2:=zaS n.outs (n.locals++[])
 have e3:=zaS n.locals []
 have e4:(zac ([]:List Decl)).w=1:=by rw[w_sl];rfl
 unfold zao
 omega
theorem zqN{n:Nod}(hw:(nodT n).w≤100000000):∀d∈zao n,zaM d.clock:=fun d hd=>by
 have h0:=znQ n
 have h2:=(za6 hd).2
 refine⟨ziv hw d hd,fun o ho=>?_⟩
 have:=zpP ho
 omega
theorem znE{p:Prog}(h:(zbi p).2=0){n:Nod}(hn:n∈p.nodes)(hw:(nodT n).w≤100000000):NodK n:=by
 have hwn:=zdJ n
 have h0:=znQ n
 have l0:=zaq zah 3 (zao n)
 have l1:=zaq zah 3 n.locals
 have l2:=zaq equT 7 n.eqs
 have l3:=zaq exT 6 n.assume
 have l4:=zaq exT 6 n.ensure
 have d0:(zac (zao n)).w=(T.sl 3 ((zao n).map zah)).w:=rfl
 have d1:(zac n.locals).w=(T.sl 3 (n.locals.map zah)).w:=rfl
 obtain⟨hs,_,_⟩:=zdz h
 have h2:=zbL (zee hs) n hn
 unfold zbt at h2
 have h3:zek p.enums n=0:=Classical.byContradiction fun hh=>by rw[if_pos hh]at h2;exact hh h2
 rw[if_neg (by simp[h3])]at h2
 have h4:zaa (equE p.enums) n.eqs=0:=Classical.byContradiction fun hh=>by rw[if_pos hh,zbc]at h2;exact hh h2
 refine⟨by omega,zqN hw,fun u hu=>?_,fun e he=>?_,by omega,by omega,by omega,by omega⟩
 ·have h5:=zau h4 u hu
  have hwu:=zaC (f:=equT) (sz:=7) hu
  unfold equE at h5
  have h6:=(zap h5).1
  have hl:=zbE (q:=u)
  have hwe:=zkl (q:=u)
  have hex:(exT u.right).w≤(equT u).w:=by
   rw[show equT u= .ag (.sl 1 (u.left.map T.s)::exC u.right) from rfl,w_ag,List.map_cons,List.sum_cons,zaA,w_ag];omega
  refine⟨fun hh=>?_,by omega,by omega,fun x hx=>?_⟩
  ·rw[hh]at h6;simp at h6
  ·have:=zeD _ u.right (Nat.le_refl _) x hx
   omega
 ·have hle:=zep e
  have hwe:(exT e).w≤100000000:=by
   rcases List.mem_append.1 he with he|he
   ·have:=zaC (f:=exT) (sz:=6) he;omega
   ·have:=zaC (f:=exT) (sz:=6) he;omega
  refine⟨by omega,fun x hx=>?_⟩
  have:=zeD _ e (Nat.le_refl _) x hx
  omega
theorem zhe{l:List Nod}{k:Nat}(h:k<l.length):zbV k (l.drop k)=if(zdk l[k]).2=0 then zbV (k+1) (l.drop (k+1)) else(((k:Int),(zdk l[k]).1),(zdk l[k]).2):=by
 rw[List.drop_eq_getElem_cons h,zbV]
set_option maxHeartbeats 2000000 in
theorem zks (p:Prog) (hw:(T.ag (zav p)).w≤100000000):Pure Tryz.prog 20 [.t (.ag (zav p))] (.tup [.t (.ag [T.i (zaF p).1.1,T.i (zaF p).1.2]),.i (zaF p).2]):=by
 obtain⟨hP,hln,hpl⟩:=zbr hw
 have hml:(p.nodes.map nodT).length=p.nodes.length:=List.length_map _
 have hty:=zln p hw
 have hpn:=zhZ p (by omega)
 have hz:zaF p=zaF p:=rfl
 conv at hz=>rhs;unfold zaF
 generalize zaF p=z at hz⊢
 have hnk:=fun h n hn=>znE (p:=p) h hn (hln n hn)
 generalize zbi p=t at*
 obtain⟨⟨t1,t2⟩,t3⟩:=t
 simp only at hz hty hnk
 have hpc:zav p=[.sl 2 (p.enums.map enT),zag p.nodes]:=rfl
 rw[hpc]at*
 generalize zcW p=pl at*
 cases pl with
 | false=>
   rw[if_pos rfl]at hz
   subst hz
   refine so Tryz.func20 ?_
   repeat' (first|refine wu ?_|exact wkc|intro hc|refine wk2 ?_ ?_|refine wv hpn ?_|fail)
   exact wkr
 | true=>
 rw[if_neg (by decide)]at hz
 by_cases h3:t3=0
 ·rw[if_neg (by simp[h3])]at hz
  have hnk:=hnk h3
  refine so Tryz.func20 ?_
  repeat' (first|refine wkt ?_|refine wka ?_|refine wk ?_|exact wkc|intro hc|refine wk2 ?_ ?_|refine wv hpn ?_|refine wv hty ?_|fail)
  refine TR.zal p.nodes.length (fun k=>zbV 0 p.nodes=zbV k (p.nodes.drop k)) (fun k=>[(2,.ref 0 0),(24,.t (zag p.nodes)),(25,.i (p.nodes.map nodT).length),(26,.i k)]) (fun _=>[.cells [.i 0,.i 0]]) rfl (fun k hlt ha=>?_) (fun ha=>?_)
  ·have hx:=zb7 hlt
   have hmem:=List.getElem_mem hlt
   rw[zhe hlt]at ha
   have hs:=zmQ p.nodes[k] (hnk _ hmem)
   have hv:=zd5 p.nodes[k] (hP.each _ hmem) (hP.clocks _ hmem)
   generalize zdk p.nodes[k]=r at*
   obtain⟨r1,r2⟩:=r
   generalize zao p.nodes[k]=vars at*
   generalize p.nodes[k]=n at*
   unfold nodC at*
   simp only at ha hs
   repeat' (first|refine wkt ?_|refine wka ?_|refine rg [.t (.ag (nC n)),.t (zac vars),.t (.ag [zac vars]),.t (.ag (nC n)),.tup [.i r1,.i r2],.tup [.i r1,.i r2],.i r1,.i r2,.i r1,.i r2] ?_ ?_|refine wv hv ?_|refine wv hs ?_|exact trivial|exact And.intro rfl rfl|refine And.intro (fun H env=>?_) ?_|refine wk ?_|exact wkc|intro hc|refine wk2 ?_ ?_|fail)
   all_goals first
    | (rw[if_neg (by omega)]at ha;rw[ha]at hz;subst hz;(repeat' (first|refine zab.ret ?_|refine wk ?_|fail));exact wkr)
    | (rw[if_pos (by omega)]at ha;exact zab.zhs 1 hlt ha rfl rfl rfl rfl rfl)
  ·rw[List.drop_of_length_le (Nat.le_refl _)]at ha
   rw[ha]at hz
   subst hz
   repeat' (first|refine wu ?_|exact wkc|intro hc|refine wk2 ?_ ?_|fail)
   exact wkr
 ·rw[if_pos h3]at hz
  subst hz
  refine so Tryz.func20 ?_
  repeat' (first|refine wkt ?_|refine wka ?_|refine wk ?_|exact wkc|intro hc|refine wk2 ?_ ?_|refine wv hpn ?_|refine wv hty ?_|fail)
  all_goals first
   | exact wkr
   | (exfalso;omega)
def zgm(vars:List Str):Nat->Ex->Bool
 | 0,_=>false
 | m+1,e=>if e.kind.1=5 then true else if e.kind.1=2 then decide (e.name∈vars) else if e.kind.1=3\/e.kind.1=4\/e.kind.1=8 then e.args.any (zgm vars m) else false
theorem ze2{α:Type}{f g:α->Bool}:∀ {l:List α},(∀x∈l,f x=g x)->l.any f=l.any g
 | [],_=>rfl
 | x::l,h=>by rw[List.any_cons,List.any_cons,h x (by simp),ze2 fun y hy=>h y (by simp[hy])]
theorem zjI(vars:List Str):∀(m:Nat) (e:Ex),wEx e≤m->∀k,wEx e≤k->zgm vars m e=zgm vars k e
 | 0,e,h=>by have:=zaI e;omega
 | m+1,e,h=>fun k hk=>by
   have hp:=zaI e
   obtain⟨k,rfl⟩:∃q,k=q+1:=⟨k-1,by omega⟩
   rw[zgm,zgm,ze2 fun a ha=>zjI vars m a (by have:=zaE ha;omega) k (by have:=zaE ha;omega)]
def zaW(vars:List Str)(e:Ex):Bool:=zgm vars (wEx e) e
theorem zkh(vars:List Str)(e:Ex):zaW vars e=if e.kind.1=5 then true else if e.kind.1=2 then decide (e.name∈vars) else if e.kind.1=3\/e.kind.1=4\/e.kind.1=8 then e.args.any (zaW vars) else false:=by
 have hp:=zaI e
 unfold zaW
 rw[show zgm vars (wEx e) e=zgm vars (wEx e-1+1) e from by rw[Nat.sub_add_cancel hp],zgm,ze2 fun a ha=>zjI vars _ a (by have:=zaE ha;omega) _ (Nat.le_refl _)]
def zkX(vars:List Str)(u:Equ):List Str:=if u.left.length=1/\u.left.headD [] ∉ vars/\zaW vars u.right=true then vars++[u.left.headD []] else vars
def zbW(us:List Equ)(vars:List Str):List Str:=us.foldl zkX vars
def zfU(us:List Equ):Nat->List Str->List Str
 | 0,v=>v
 | m+1,v=>if zbW us v=v then v else zfU us m (zbW us v)
def zaJ(n:Nod):List Str:=zfU n.eqs (n.eqs.length+1) []
theorem zc2:∀(us:List Equ) (v:List Str),∃w,zbW us v=v++w/\(v.Nodup->(v++w).Nodup)/\(∀s∈w,∃u∈us,u.left=[s])
 | [],v=>⟨[],by simp[zbW],by simp,by simp⟩
 | u::us,v=>by
   obtain⟨w,h1,h2,h3⟩:=zc2 us (zkX v u)
   have hq:zbW (u::us) v=zbW us (zkX v u):=rfl
   rw[hq,h1]
   unfold zkX at h2⊢
   split at h2
   ·rename_i hc
    obtain⟨c1,c2,c3⟩:=hc
    rw[if_pos ⟨c1,c2,c3⟩]
    obtain⟨s,hs⟩:=List.length_eq_one_iff.1 c1
    refine⟨u.left.headD []::w,by simp,fun hn=>?_,fun x hx=>?_⟩
    ·have:=h2 (List.nodup_append.2 ⟨hn,by simp,fun a ha b hb h=>c2 (by rw[<-List.mem_singleton.1 hb,<-h];exact ha)⟩)
     simpa using this
    ·rcases List.mem_cons.1 hx with rfl|hx
     ·exact⟨u,by simp,by rw[hs];rfl⟩
     ·obtain⟨q,q1,q2⟩:=h3 x hx
      exact⟨q,by simp[q1],q2⟩
   ·rename_i hc
    rw[if_neg hc]
    refine⟨w,rfl,h2,fun x hx=>?_⟩
    obtain⟨q,q1,q2⟩:=h3 x hx
    exact⟨q,by simp[q1],q2⟩
def badX(vars:List Str)(x:Ex):Bool:=
 if x.kind.1=5\/x.kind.1=7\/x.kind.1=10 then x.args.any (zaW vars) else if x.kind.1=6 then(x.args.take 1).any (zaW vars) else
 if x.kind.1=8 then decide (x.name∈vars) else if x.kind.1=9 then decide (x.name∈vars) || x.args.any (zaW vars) else false
def misX(vars:List Str)(e:Ex):Bool:=(flat e).any (badX vars)
def zo7(n:Nod)(vars:List Str):Bool:=
 (n.outs.any fun d=>decide (d.name∈vars)) || (n.locals.any fun d=>d.clock.any fun o=>decide (o.name∈vars)) || ((n.assume++n.ensure).any fun e=>zaW vars e || misX vars e)
def zdR(n:Nod):Int×Bool:=
 if n.eqs.any (fun u=>misX (zaJ n) u.right)=true then(((n.eqs.findIdx fun u=>misX (zaJ n) u.right):Nat),true) else(-1,zo7 n (zaJ n))
def zdh:Nat->List Nod->(Int×Int)×Int
 | _,[]=>((0,0),0)
 | i,n::l=>if(zdR n).2=true then((i,(zdR n).1),12) else zdh (i+1) l
def zbk(p:Prog):(Int×Int)×Int:=if(zaF p).2≠0 then zaF p else zdh 0 p.nodes
def zcb(p:Prog)(node:I64):List Str×Int:=
 if(zaF p).2≠0 then([],(zaF p).2) else if node.1<0\/(p.nodes.length:Int)≤node.1 then([],2) else
 match p.nodes[node.1.toNat]? with
 | some n=>(((zao n).filter fun d=>decide (d.name∈zaJ n)).map Decl.name,0)
 | none=>([],2)
def zcN(p:Prog)(node:I64)(e:Ex):Bool×Int:=
 if(zcb p node).2≠0 then(false,(zcb p node).2) else if(ofT p node e).2≠0 then(false,(ofT p node e).2) else
 match p.nodes[node.1.toNat]? with
 | some n=>(zaW (zaJ n) e,0)
 | none=>(false,0)
abbrev zae (l:List Str):T:=.sl 1 (l.map T.s)
theorem zfw{l:List Str}{k:Nat}(h:k<l.length):(l.map T.s)[k]?=some (T.s l[k]):=by simp[h]
theorem zba(l:List Str)(s:Str)(hl:l.length≤2000000000):Pure Tryz.prog 21 [.t (zae l),.s s] (.b (decide (s∈l))):=by
 have hml:(l.map T.s).length=l.length:=List.length_map _
 refine so Tryz.func21 ?_
 repeat' (first|refine wk ?_|exact wkc|intro hc|refine wk2 ?_ ?_|fail)
 refine TR.zal l.length (fun k=>s ∉ l.take k) (fun k=>[(0,.t (zae l)),(1,.s s),(5,.i k)]) (fun _=>[]) (by simp) (fun k hlt hk=>?_) (fun hk=>?_)
 ·have hx:=zfw hlt
  have htk:=zaG hlt
  have hm:l[k]∈l:=List.getElem_mem hlt
  generalize l[k]=x at*
  repeat' (first|refine wk ?_|exact wkc|intro hc|refine wk2 ?_ ?_|fail)
  ·rw[decide_eq_true (show s∈l from by rw[<-hc];exact hm)];exact wkr
  ·refine zab.zak hlt ?_
   rw[htk,List.mem_append]
   rintro(h|h)
   ·exact hk h
   ·have h':s=x:=by simpa using h
    exact hc h'.symm
 ·rw[List.take_length]at hk
  rw[decide_eq_false hk]
  repeat' (first|refine wk ?_|exact wkc|intro hc|refine wk2 ?_ ?_|fail)
  exact wkr
theorem zcp(l:List Decl)(hl:l.length≤1000000000):Pure Tryz.prog 161 [.t (zac l)] (.t (zae (l.map Decl.name))):=by
 have hml:(l.map zah).length=l.length:=List.length_map _
 refine so Tryz.func161 ?_
 repeat' (first|refine wk ?_|exact wkc|intro hc|refine wk2 ?_ ?_|fail)
 refine TR.tail 1 3 rfl ?_
 refine TR.zal l.length (fun _=>True) (fun k=>[(0,.t (zac l)),(3,.sl 1 (((l.take k).map Decl.name).map T.s) 0),(4,.i k)]) (fun k=>[.tail (((l.take k).map Decl.name).map T.s).length]) trivial (fun k hlt _=>?_) (fun _=>?_)
 ·have hx:=zaX zah hlt
  have htk:=zaG hlt
  have hlen:(((l.take k).map Decl.name).map T.s).length=k:=by simp;omega
  generalize l[k]=d at*
  have hd:zah d= .ag [.s d.name,T.n d.ty,.sl 3 (d.clock.map onT)]:=rfl
  rw[hd]at hx
  repeat' (first|refine wk ?_|exact wkc|intro hc|refine wk2 ?_ ?_|fail)
  exact zab.zak hlt trivial (by rw[htk,List.map_append,List.map_append];exact⟨rfl,rfl,rfl,trivial⟩) (by rw[htk,List.map_append,List.map_append,List.length_append];rfl)
 ·rw[List.take_length]
  repeat' (first|refine wk ?_|exact wkc|intro hc|refine wk2 ?_ ?_|fail)
  exact wkr
theorem zb3(l o:List Str)(hl:l.length≤2000000000)(ho:o.length≤2000000000):Pure Tryz.prog 165 [.t (zae l),.t (zae o)] (.t (zae (l.filter fun s=>!decide (s∈o)))):=by
 have hml:(l.map T.s).length=l.length:=List.length_map _
 have hh:=fun s=>zba o s ho
 refine so Tryz.func165 ?_
 repeat' (first|refine wk ?_|exact wkc|intro hc|refine wk2 ?_ ?_|fail)
 refine TR.tail 1 5 rfl ?_
 refine TR.zal l.length (fun _=>True) (fun k=>[(0,.t (zae l)),(1,.t (zae o)),(5,.sl 1 (((l.take k).filter fun s=>!decide (s∈o)).map T.s) 0),(6,.i k)]) (fun k=>[.tail (((l.take k).filter fun s=>!decide (s∈o)).map T.s).length]) trivial (fun k hlt _=>?_) (fun _=>?_)
 ·have hx:=zfw hlt
  have htk:=zaG hlt
  have hlen:(((l.take k).filter fun s=>!decide (s∈o)).map T.s).length≤k:=by
   rw[List.length_map];exact Nat.le_trans (List.length_filter_le _ _) (by simp;omega)
  have hs:=hh l[k]
  generalize l[k]=x at*
  by_cases hxo:x∈o
  ·rw[decide_eq_true hxo]at hs
   repeat' (first|refine wu ?_|exact wkc|intro hc|refine wk2 ?_ ?_|refine wv hs ?_|fail)
   exact zab.zak hlt trivial (by rw[htk,List.filter_append];simp only[List.filter_cons,hxo,decide_true,Bool.not_true,Bool.false_eq_true,if_false,List.filter_nil,List.append_nil];exact⟨rfl,rfl,rfl,rfl,trivial⟩) (by rw[htk,List.filter_append];simp only[List.filter_cons,hxo,decide_true,Bool.not_true,Bool.false_eq_true,if_false,List.filter_nil,List.append_nil])
  ·rw[decide_eq_false hxo]at hs
   repeat' (first|refine wu ?_|exact wkc|intro hc|refine wk2 ?_ ?_|refine wv hs ?_|fail)
   exact zab.zak hlt trivial (by rw[htk,List.filter_append];simp only[List.filter_cons,hxo,decide_false,Bool.not_false,if_true,List.filter_nil,List.map_append];exact⟨rfl,rfl,rfl,rfl,trivial⟩) (by rw[htk,List.filter_append];simp only[List.filter_cons,hxo,decide_false,Bool.not_false,if_true,List.filter_nil,List.map_append,List.length_append];rfl)
 ·rw[List.take_length]
  repeat' (first|refine wk ?_|exact wkc|intro hc|refine wk2 ?_ ?_|fail)
  exact wkr
end Go.Proofs.YtcbhlhmebbkgnaaGreat
namespace Go.TL
open Go
def zcj(K:TK):TK:=fun e env H=>∃env1:Env,(∀i v,env1.look i=some v->∃u,env.look i=some u/\Le u v)/\K e env1 H
section rules
variable {P:Program}{n:Nat}{env:Env}{H:Heap}{K:TK}
theorem Post.weak{φ:Fm}{m:M}{e:Exit}{a:Act}{w:World}(h:Post φ m n (zcj K) e a w):Post φ m n K e a w:=by
 obtain⟨m2,env2,te,rfl,s,hm,he,hd,hx,env1,hle,hk⟩:=h
 exact⟨m2,env1,te,rfl,s,hm,⟨he.1,fun i v hv=>by
  obtain⟨u,hu,hl⟩:=hle i v hv
  obtain⟨x,x1,x2⟩:=he.2 i u hu
  exact⟨x,x1,hl m2 x x2⟩⟩,hd,hx,hk⟩
theorem TR.weak{c:Code}(h:TR P n c env H (zcj K)):TR P n c env H K:=
 fun φ m a h1 h2 h3 h4=>zbA (h φ m a h1 h2 h3 h4) fun _ _ _ hp=>hp.weak
theorem zcj.done{e:zc6}(h:K e env H):zcj K e env H:=⟨env,fun _ v hv=>⟨v,hv,Le.refl v⟩,h⟩
theorem zcj.own{e:zc6}(i:Nat){sz id:Nat}{es:List T}(hi:env.look i=some (.sl sz es id))(h:K e ((i,.t (.sl sz es))::env) H):zcj K e env H:=by
 refine⟨_,fun j v hv=>?_,h⟩
 by_cases hj:i=j
 ·subst hj
  rw[Env.zax]at hv
  cases hv
  exact⟨_,hi,Le.own _ _ _⟩
 ·rw[Env.zas _ _ hj]at hv
  exact⟨v,hv,Le.refl v⟩
theorem zcj.ret(h:K .ret env H):zcj K .ret env H:=zcj.done h
theorem zcj.exit{i:Nat}(h:K (.exit i) env H):zcj K (.exit i) env H:=zcj.done h
variable {all:Array Oper}{rest:List Oper}{tab:Tab}{d:Nat}{ty:TypeId}{pos:String}{aft:Array Edge}
theorem TO.zgR(hT:zaB P tab){t t' e:TypeId}{i i' ie:TyI}{sz id:Nat}{ys:List T}{x y:Operand}{vy:SV}{H':Heap}(hd:Nat.ble (d+1) n=true)(ht:tab.get t=some i)(hk:i.k= .slice e)(ht':tab.get t'=some i')(hk':i'.k= .slice e)
  (he:tab.get e=some ie)(hs:ie.size=sz)(hpos:Nat.ble 1 sz=true)(hx:env.val x=some (.sl sz [] id))(hH:H[id]?=some (.tail 0))(hy:env.val y=some vy)(hvy:vy.elems sz=some ys)
  (hby:Nat.ble ie.bytes 4096=true)(hb1:ys.length≤10000000000)(hH':H.set id (.tail ys.length)=H')
  (k:TO false P n all rest ((d,.sl sz ys id)::env) H' K):TO false P n all (⟨some d,.call { callee:=.builtin .append,args:=#[x,y],argTypes:=#[t,t'] },ty,pos,aft,none⟩::rest) env H K:=
 TO.zng (es:=[]) hT hd ht hk ht' hk' he hs hpos hx hH hy hvy hby (by simpa using hb1) (by rw[<-hH'];simp) k
theorem TO.zqo{cargs:List SV}{sz m:Nat}{es:List T}{f:Operand}{fid:FuncId}{caps:List SV}{args:Array Operand}{ts:Array TypeId}{vs:List SV}
  (hs:Sound P fid cargs [] fun r H'=>r= .ret (.sl sz es 0)/\H'=[.tail m])(hd:Nat.ble (d+1) n=true)
  (hf:env.val f=some (.fn fid caps))(ha:env.vals args.toList=some vs)(hl:Les (vs++caps) cargs)(hu:unders 0 cargs=true)
  (k:TO false P n all rest ((d,.sl sz es H.length)::env) (H++[.tail m]) K):
  TO false P n all (⟨some d,.call { callee:=.value f,args:=args,argTypes:=ts },ty,pos,aft,none⟩::rest) env H K:=
 TO.zrH [] hs hd hf ha (by rw[zbC (N:=0) (fun j hj=>by omega) _ hu];exact hl) hu (zgP H) (by simp[SV.ren,names]) (by
  simp only[patch,List.map_cons,List.map_nil,Blk.ren]) k
end rules
end Go.TL
namespace Go.TL
open Go
theorem TO.tail{P:Program}{n:Nat}{env:Env}{K:TK}{all:Array Oper}{ops:List Oper}{H:Heap}(sz i:Nat)(hi:env.look i=some (.t (.v (.slice none 0 0))))(k:TO false P n all ops ((i,.sl sz [] H.length)::env) (H++[.tail 0]) K):TO false P n all ops env H K:=by
 intro φ m a h1 h2 h3 h4
 obtain⟨x,hx1,hx2⟩:=h3.2 i _ hi
 have:=hx2.v_eq
 subst this
 obtain⟨s,hm'⟩:=ziq h2
 refine zbg (fun _ _ _ hp=>hp.step s) (fun _ _=>Post.zdH) _ _ _ (k φ ⟨m.A,m.β++[⟨0,0,0⟩],m.H++[.tail 0],m.w⟩ a (by rw[h1]) hm' ⟨h3.1,fun j v hv=>?_⟩ h4)
 by_cases hj:i=j
 ·subst hj
  rw[Env.zax]at hv
  cases hv
  exact⟨_,hx1,h1 ▸ zkJ h2 sz⟩
 ·rw[Env.zas _ _ hj]at hv
  exact(h3.step h2 s).2 j v hv
end Go.TL
set_option linter.unusedVariables false
set_option linter.unusedSimpArgs false
namespace Go.Proofs.YtcbhlhmebbkgnaaGreat
open Go Go.TL
attribute [local irreducible] TR TO Then zaw RetK Sound zab Kf GG zaZ
theorem zkr(ck:List OnC)(hck:ck.length≤1000000000)(o:OnC):Pure Tryz.prog 115 [.t (onsT ck),.t (onT o)] (.t (onsT (ck++[o]))):=by
 have hma:(ck++[o]).map onT=ck.map onT++[.ag [.s o.name,T.n o.t,T.n o.tag]]:=by simp[onT]
 have m1:(ck.map onT).length=ck.length:=List.length_map _
 show Pure _ _ [.t (.sl 3 (ck.map onT)),.t (.ag [.s o.name,T.n o.t,T.n o.tag])] _
 rw[onsT,hma]
 refine so Tryz.func115 ?_
 repeat' (first|refine wkt ?_|fail)
 refine TO.tail 3 6 rfl ?_
 apply TO.zgR zam;iterate 13 exact rfl
 ·simp only[List.length_map];omega
 ·exact rfl
 repeat' (first|refine wu ?_|exact wkc|intro hc|refine wk2 ?_ ?_|fail)
 exact wkr
theorem zuj{vars:List Decl}(hk:∀d∈vars,zaM d.clock)(nm:Str):zaM (zbI vars nm).clock:=by
 unfold zbI
 cases h:findD vars nm with
 | none=>exact zaM.nil
 | some d=>exact hk d (zcL h).1
set_option maxHeartbeats 8000000 in
theorem zho (vars:List Decl) (hl:vars.length≤1000000000) (hk:∀d∈vars,zaM d.clock):∀(m:Nat) (e:Ex),wEx e≤m->wEx e≤1000000000->(∀x∈flat e,x.name.length≤1000000000)->(∀x∈flat e,oneX x=0)->∀ck,zaM ck->ck.length≤4->
  Pure Tryz.prog 77 [.t (zac vars),.t (.ag (exC e)),.t (onsT ck)] (.i (zeu vars m e ck)):=by
 intro m
 induction m with
 | zero=>intro e he;have:=zaI e;omega
 | succ m ih0=>
   intro e he hb hn ho1 ck hck hc4
   have hself:=hn e (zeY.2 (.inl rfl))
   have hone:=ho1 e (zeY.2 (.inl rfl))
   have ih:∀a∈e.args,∀ck,zaM ck->ck.length≤4->Pure Tryz.prog 77 [.t (zac vars),.t (.ag (exC a)),.t (onsT ck)] (.i (zeu vars m a ck)):=fun a ha=>ih0 a (by have:=zaE ha;omega) (by have:=zaE ha;omega) (fun x hx=>hn x (zc0 ha x hx)) (fun x hx=>ho1 x (zc0 ha x hx))
   clear ih0
   have hf:=zdG vars hl e.name
   have hsz:=zuj hk e.name
   have hdc:=zfx vars e.name
   generalize zbI vars e.name=d at*
   generalize (findD vars e.name).isSome=fo at*
   have hs:=zdD d.clock ck hsz hck
   rw[show zah d= .ag [.s d.name,T.n d.ty,.sl 3 (d.clock.map onT)] from rfl]at hf
   have hck1:=hck.1
   have hml:(e.args.map exT).length=e.args.length:=List.length_map _
   have mck:(ck.map onT).length=ck.length:=List.length_map _
   have hal:e.args.length≤1000000000:=by
    have:∀l:List Ex,l.length≤(l.map wEx).sum:=fun l=>by
     induction l with
     | nil=>simp
     | cons y l ih=>have:=zaI y;simp;omega
    have h2:=zet e
    have:=this e.args
    omega
   rw[zeu]
   unfold zhx
   rw[<-hdc]
   clear hdc
   have hcx:exC e=[T.n e.kind,T.n e.op,T.n e.t,T.n e.v,.s e.name,.sl 6 (e.args.map exT)]:=rfl
   rw[hcx]at*
   by_cases h2:e.kind.1=2
   ·rw[if_pos h2,if_pos h2]
    clear ih
    by_cases hq:d.clock=ck
    ·rw[decide_eq_true hq]at hs
     rw[if_pos hq]
     refine so Tryz.func77 ?_
     repeat' (first|refine wkt ?_|refine wka ?_|refine wk ?_|exact wkc|intro hc|refine wk2 ?_ ?_|refine wv hf ?_|refine wv hs ?_|fail)
     exact wkr
    ·rw[decide_eq_false hq]at hs
     rw[if_neg hq]
     refine so Tryz.func77 ?_
     repeat' (first|refine wkt ?_|refine wka ?_|refine wk ?_|exact wkc|intro hc|refine wk2 ?_ ?_|refine wv hf ?_|refine wv hs ?_|fail)
     exact wkr
   rw[if_neg h2,if_neg h2]
   by_cases h8:e.kind.1=8
   ·rw[if_pos h8,if_pos h8]
    clear hs
    obtain⟨a,hargs⟩:∃a,e.args=[a]:=List.length_eq_one_iff.1 (zl7 hone h8)
    rcases List.eq_nil_or_concat ck with h|⟨c0,o,h⟩
    ·subst h
     clear ih
     refine so Tryz.func77 ?_
     repeat' (first|refine wkt ?_|refine wka ?_|refine rg [.i (-1),.b true,.b true,.t (.v undef),.t (.v undef),.t (.v undef),.t (.v undef),.t (.v undef),.t (.v undef),.t (.v undef),.t (.v undef),.t (.v undef),.t (.v undef),.t (.v undef),.t (.v undef),.b true,.b true,.t (.v undef),.t (.v undef),.t (.v undef),.t (.v undef),.t (.v undef),.t (.v undef),.t (.v undef),.b true] ?_ ?_|refine wv hf ?_|exact trivial|exact And.intro rfl rfl|refine And.intro (fun H env=>?_) ?_|refine wk ?_|exact wkc|intro hc|refine wk2 ?_ ?_|fail)
     exact wkr
    have hcc:ck=c0++[o]:=by simpa using h
    obtain⟨k0,hk0⟩:∃k0,k0=c0.length:=⟨_,rfl⟩
    have hlk:ck.length=k0+1:=by rw[hcc,hk0];simp
    have htk:ck.take k0=c0:=by rw[hcc,hk0];simp
    have hlast:(ck.map onT)[k0]?=some (.ag [.s o.name,T.n o.t,T.n o.tag]):=by rw[hcc,hk0];simp[onT]
    have hnv:(((ck.map onT).length:Int)-1)=(k0:Int):=by omega
    have hno:o.name.length≤1000000000:=hck.2 o (by rw[hcc];simp)
    have hgl:ck.getLast? =some o:=by rw[hcc];simp
    have hdl:ck.dropLast=c0:=by rw[hcc];simp
    have hi:=ih a (by rw[hargs];simp) (ck.take k0) (hck.take k0) (by simp;omega)
    have hs:=zdD d.clock (ck.take k0) hsz (hck.take k0)
    rw[htk,<-htk,show onsT (ck.take k0)= .sl 3 ((ck.map onT).take k0) by rw[onsT,List.map_take],htk]at hs hi
    rw[hgl,hdl,show e.args.headD e=a by rw[hargs];rfl]
    have hax:(e.args.map exT)[0]?=some (.ag [T.n a.kind,T.n a.op,T.n a.t,T.n a.v,.s a.name,.sl 6 (a.args.map exT)]):=by rw[hargs];simp[zaA,exC]
    clear ih hgl hdl
    generalize zeu vars m a c0=r at*
    unfold exC at hi
    by_cases ho:o=onOf e
    ·have hne:(!decide (o=onOf e))=false:=by rw[ho];simp
     by_cases hq:d.clock=c0
     ·rw[decide_eq_true hq]at hs
      rw[if_pos ⟨by rw[ho],hq⟩,show orE 0 r=r from rfl]
      refine so Tryz.func77 ?_
      repeat' (first|refine wkt ?_|refine wka ?_|refine wv hf ?_|exact wkc|intro hc|refine wk2 ?_ ?_|(apply TO.zmy;(iterate 3 exact rfl);omega;omega)|fail)
      rw[hnv]
      repeat' (first|refine wkt ?_|refine wka ?_|refine rg [.i k0,.b false,.b false,.t (onsT ck),.i k0,.cp [.s o.name,T.n o.t,T.n o.tag] 0,.t (.ag [.s o.name,T.n o.t,T.n o.tag]),.cp [T.n e.kind,T.n e.op,T.n e.t,T.n e.v,.s e.name,.sl 6 (e.args.map exT)] 4,.s e.name,.cp [T.n e.kind,T.n e.op,T.n e.t,T.n e.v,.s e.name,.sl 6 (e.args.map exT)] 2,.t (T.n e.t),.cp [T.n e.kind,T.n e.op,T.n e.t,T.n e.v,.s e.name,.sl 6 (e.args.map exT)] 3,.t (T.n e.v),.t (.ag [.s e.name,T.n e.t,T.n e.v]),.b false,.b false,.b false,.cp [.s d.name,T.n d.ty,.sl 3 (d.clock.map onT)] 2,.t (onsT d.clock),.t (onsT ck),.i k0,.t (.sl 3 ((ck.map onT).take k0)),.b true,.b false,.b false] ?_ ?_|refine rg [.t (zac vars),.cp [T.n e.kind,T.n e.op,T.n e.t,T.n e.v,.s e.name,.sl 6 (e.args.map exT)] 5,.t (.sl 6 (e.args.map exT)),.cp [T.n a.kind,T.n a.op,T.n a.t,T.n a.v,.s a.name,.sl 6 (a.args.map exT)] 0,.t (.ag [T.n a.kind,T.n a.op,T.n a.t,T.n a.v,.s a.name,.sl 6 (a.args.map exT)]),.t (onsT ck),.i k0,.t (.sl 3 ((ck.map onT).take k0)),.i r,.i r] ?_ ?_|refine wv hs ?_|refine wv hi ?_|(apply TO.zpi (b:=onOf e);(iterate 3 exact rfl);assumption;assumption;(first|exact hne|exact rfl))|exact trivial|exact And.intro rfl rfl|refine And.intro (fun H env=>?_) ?_|refine wk ?_|exact wkc|intro hc|refine wk2 ?_ ?_|fail)
      exact wkr
     ·rw[decide_eq_false hq]at hs
      rw[if_neg (fun h=>hq h.2),show orE 11 r=11 from rfl]
      clear hi
      refine so Tryz.func77 ?_
      repeat' (first|refine wkt ?_|refine wka ?_|refine wv hf ?_|exact wkc|intro hc|refine wk2 ?_ ?_|(apply TO.zmy;(iterate 3 exact rfl);omega;omega)|fail)
      rw[hnv]
      repeat' (first|refine wkt ?_|refine wka ?_|refine rg [.i k0,.b false,.b false,.t (onsT ck),.i k0,.cp [.s o.name,T.n o.t,T.n o.tag] 0,.t (.ag [.s o.name,T.n o.t,T.n o.tag]),.cp [T.n e.kind,T.n e.op,T.n e.t,T.n e.v,.s e.name,.sl 6 (e.args.map exT)] 4,.s e.name,.cp [T.n e.kind,T.n e.op,T.n e.t,T.n e.v,.s e.name,.sl 6 (e.args.map exT)] 2,.t (T.n e.t),.cp [T.n e.kind,T.n e.op,T.n e.t,T.n e.v,.s e.name,.sl 6 (e.args.map exT)] 3,.t (T.n e.v),.t (.ag [.s e.name,T.n e.t,T.n e.v]),.b false,.b false,.b false,.cp [.s d.name,T.n d.ty,.sl 3 (d.clock.map onT)] 2,.t (onsT d.clock),.t (onsT ck),.i k0,.t (.sl 3 ((ck.map onT).take k0)),.b false,.b true,.b true] ?_ ?_|refine wv hs ?_|(apply TO.zpi (b:=onOf e);(iterate 3 exact rfl);assumption;assumption;(first|exact hne|exact rfl))|exact trivial|exact And.intro rfl rfl|refine And.intro (fun H env=>?_) ?_|refine wk ?_|exact wkc|intro hc|refine wk2 ?_ ?_|fail)
      exact wkr
    ·have hne:(!decide (o=onOf e))=true:=by simp[ho]
     rw[if_neg (fun h=>ho (Option.some.inj h.1)),show orE 11 r=11 from rfl]
     clear hi
     refine so Tryz.func77 ?_
     repeat' (first|refine wkt ?_|refine wka ?_|refine wv hf ?_|exact wkc|intro hc|refine wk2 ?_ ?_|(apply TO.zmy;(iterate 3 exact rfl);omega;omega)|fail)
     rw[hnv]
     repeat' (first|refine wkt ?_|refine wka ?_|refine rg [.i k0,.b false,.b false,.t (onsT ck),.i k0,.cp [.s o.name,T.n o.t,T.n o.tag] 0,.t (.ag [.s o.name,T.n o.t,T.n o.tag]),.cp [T.n e.kind,T.n e.op,T.n e.t,T.n e.v,.s e.name,.sl 6 (e.args.map exT)] 4,.s e.name,.cp [T.n e.kind,T.n e.op,T.n e.t,T.n e.v,.s e.name,.sl 6 (e.args.map exT)] 2,.t (T.n e.t),.cp [T.n e.kind,T.n e.op,T.n e.t,T.n e.v,.s e.name,.sl 6 (e.args.map exT)] 3,.t (T.n e.v),.t (.ag [.s e.name,T.n e.t,T.n e.v]),.b true,.b true,.b true,.t (.v undef),.t (.v undef),.t (.v undef),.t (.v undef),.t (.v undef),.t (.v undef),.t (.v undef),.b true] ?_ ?_|(apply TO.zpi (b:=onOf e);(iterate 3 exact rfl);assumption;assumption;(first|exact hne|exact rfl))|exact trivial|exact And.intro rfl rfl|refine And.intro (fun H env=>?_) ?_|refine wk ?_|exact wkc|intro hc|refine wk2 ?_ ?_|fail)
     exact wkr
   rw[if_neg h8,if_neg h8]
   by_cases hbad:e.kind.1=9/\¬(d.clock=ck/\ck.length≠4)
   ·obtain⟨h9,hbad⟩:=hbad
    rw[if_pos h9]
    clear ih
    by_cases hq:d.clock=ck
    ·have h4:ck.length=4:=Classical.byContradiction fun h=>hbad ⟨hq,h⟩
     rw[decide_eq_true hq]at hs
     rw[if_pos hq,if_pos h4]
     refine so Tryz.func77 ?_
     repeat' (first|refine wkt ?_|refine wka ?_|refine wk ?_|exact wkc|intro hc|refine wk2 ?_ ?_|refine wv hf ?_|refine wv hs ?_|fail)
     exact wkr
    ·rw[decide_eq_false hq]at hs
     rw[if_neg hq]
     refine so Tryz.func77 ?_
     repeat' (first|refine wkt ?_|refine wka ?_|refine wk ?_|exact wkc|intro hc|refine wk2 ?_ ?_|refine wv hf ?_|refine wv hs ?_|fail)
     exact wkr
   have hgo:e.kind.1=9->d.clock=ck/\ck.length<4:=fun h=>by
    have:=Classical.byContradiction fun hh=>hbad ⟨h,hh⟩
    exact⟨this.1,by omega⟩
   have hhead:(if e.kind.1=9 then if d.clock=ck then if ck.length=4 then(3:Int) else 0 else 11 else 0)=0:=by
    split
    ·rename_i h9
     obtain⟨q1,q2⟩:=hgo h9
     rw[if_pos q1,if_neg (by omega)]
    ·rfl
   rw[hhead,show orE 0 (zcv (fun i a=>zeu vars m a (zaQ e ck i)) 0 e.args)=zcv (fun i a=>zeu vars m a (zaQ e ck i)) 0 e.args from rfl]
   clear hhead hbad
   have hus:∀j,zaM (zaQ e ck j)/\(zaQ e ck j).length≤4:=fun j=>by
    unfold zaQ
    rw[if_neg h8]
    split
    ·rename_i h9
     have:=(hgo h9).2
     refine⟨⟨by simp;omega,fun o ho=>?_⟩,by simp;omega⟩
     simp at ho
     rcases ho with ho|rfl
     ·exact hck.2 o ho
     ·exact hself
    ·exact⟨hck,hc4⟩
   have hlo:=fun k:Nat=>zkr ck (by omega) ⟨e.name,e.t,nI k⟩
   by_cases h9:e.kind.1=9
   obtain⟨q1,q2⟩:=hgo h9
   rw[decide_eq_true q1]at hs
   refine so Tryz.func77 ?_
   repeat' (first|refine wkt ?_|refine wka ?_|refine wk ?_|exact wkc|intro hc|refine wk2 ?_ ?_|refine wv hf ?_|refine wv hs ?_|fail)
   rotate_left
   clear hs
   refine so Tryz.func77 ?_
   repeat' (first|refine wkt ?_|refine wka ?_|refine wk ?_|exact wkc|intro hc|refine wk2 ?_ ?_|refine wv hf ?_|fail)
   all_goals
    refine TR.zal e.args.length (fun k=>zcv (fun i a=>zeu vars m a (zaQ e ck i)) 0 (e.args.take k)=0) (fun k=>[(0,.t (zac vars)),(2,.t (onsT ck)),(4,.cp [T.n e.kind,T.n e.op,T.n e.t,T.n e.v,.s e.name,.sl 6 (e.args.map exT)] 0),(10,.i k)]) (fun _=>[]) rfl (fun k hlt ha=>?_) (fun ha=>?_)
    ·have hx:=zbd hlt
     have g1:=zoQ (f:=fun i a=>zeu vars m a (zaQ e ck i)) hlt ha
     have g2:=zj7 (f:=fun i a=>zeu vars m a (zaQ e ck i)) hlt ha
     have hi:=ih _ (List.getElem_mem hlt) (zaQ e ck k) (hus k).1 (hus k).2
     have hlo:=hlo k
     rw[show onT ⟨e.name,e.t,nI k⟩= .ag [.s e.name,T.n e.t,T.i k] from by show T.ag [.s e.name,T.n e.t,T.i (nI k).1]=_;rw[zq4 (by omega)]]at hlo
     have hun:zaQ e ck k=if e.kind.1=9 then ck++[⟨e.name,e.t,nI k⟩] else ck:=by unfold zaQ;rw[if_neg h8]
     first
     | rw[if_pos h9]at hun
     | rw[if_neg h9]at hun
     rw[hun]at hi g1 g2
     generalize zeu vars m e.args[k] _=r at*
     generalize e.args[k]=a at*
     unfold exC at hx hi
     repeat' (first|refine wkt ?_|refine wka ?_|refine wk ?_|exact wkc|intro hc|refine wk2 ?_ ?_|refine wv hi ?_|refine wv hlo ?_|fail)
     all_goals first
      | exact zab.zak hlt (g2 (by omega))
      | (rw[g1 (by omega)];(repeat' (first|refine zab.ret ?_|refine wk ?_|fail));exact wkr)
    ·rw[List.take_length]at ha
     rw[ha]
     repeat' (first|refine wu ?_|exact wkc|intro hc|refine wk2 ?_ ?_|fail)
     exact wkr
end Go.Proofs.YtcbhlhmebbkgnaaGreat
