import Derived.Test.YtcbhlhmebbkgnaaGreatPk3
import Derived.Test.YtcbhlhmebbkgnaaGreatPk7
import Derived.Test.YtcbhlhmebbkgnaaGreatPk27
import Derived.Test.YtcbhlhmebbkgnaaGreatPk33
set_option linter.unusedSimpArgs false
set_option linter.unusedVariables false
namespace Go.TL
open Go
section rules
variable {P:Program}{n:Nat}{env:Env}{H:Heap}{K:TK}{all:Array Oper}{rest:List Oper}{tab:Tab}{q:Bool}{d:Nat}{ty:TypeId}{pos:String}{aft:Array Edge}
theorem Fit.array{t:TypeId}{i:TyI}{c:Nat}{e:TypeId}(h:Fit P t i)(hk:i.k= .array c e):P.underlying t=some (.array c e):=by
 obtain⟨d,ti,z,h1,h2,h3,_⟩:=h.ex
 rw[hk]at h3
 cases d <;> simp[TK'.fits]at h3
 obtain⟨rfl,rfl⟩:=h3
 exact h1
theorem TO.buildA(hT:TabOk P tab){t e:TypeId}{i ie:TyI}{c:Nat}{parts:Array (Nat×Operand)}{ps:List (Nat×SV)}{cs:List SV}{ts:List T}(hd:Nat.ble (d+1) n=true)
  (ht:tab.get t=some i)(hk:i.k= .array c e)(he:tab.get e=some ie)(hs:ie.size=1)(hp:env.parts parts.toList=some ps)(hc:fillSV ((List.range c).map fun j=>(j,1)) (i.zero.map .t) ps=some cs)(hts:allT cs=some ts)
  (k:TO q P n all rest ((d,.t (.ag ts))::env) H K):TO q P n all (⟨some d,.build t parts,ty,pos,aft,none⟩::rest) env H K:=
 TO.op hd (fun m ac h1 h2 h3=>by
  obtain⟨z,hz1,hz2,hz3,_⟩:=(hT t i ht).zero
  obtain⟨q1,q0,q2⟩:=zero_rel (A:=m.A) (w:=m.w) _ _ hz2
  obtain⟨p1,p2⟩:=h3.parts parts.toList ps hp
  obtain⟨arr,r1,r2,r3,r4⟩:=fill_ok (m:=m) ((List.range c).map fun j=>(j,1)) (fun j=>some (j*1,1)) (fun j a ha=>by
   rw[List.getElem?_map]at ha
   cases hq:(List.range c)[j]? with
   | none=>rw[hq]at ha;cases ha
   | some x=>
     rw[hq]at ha;cases ha
     rw[List.getElem?_range]at hq
     ·cases hq;simp
     ·exact Classical.byContradiction fun hh=>by rw[List.getElem?_eq_none (by simp;omega)]at hq;cases hq) ps _ (i.zero.map .t) cs z.cells p1 p2 hc (by simp[q1]) (fun j y hy=>q0 j y (by simpa using hy)) (fun j c y hj hy=>by
   rw[List.getElem?_map]at hj
   cases hq:i.zero[j]? with
   | none=>rw[hq]at hj;cases hj
   | some u=>rw[hq]at hj;cases hj;exact .t _ _ (q2 j u y hq (by simpa using hy)))
  obtain⟨a1,a2⟩:=allT_rel (m:=m) hts
  refine⟨.agg arr,fun w' _=>?_,.t _ _ (.ag _ _ (by omega) r3 fun j t y hj hy=>?_)⟩
  ·have hu:=(hT t i ht).array hk
   simp only[Nat.mul_one]at r1
   simp[execOp,Instr.build,hz1,underlying,hu,(hT e ie he).sizeOf,hs,r1]
  ·obtain⟨c,hc1,hc2⟩:=a2 j t hj
   exact hc2 y (r4 j c y hc1 hy)) k
theorem TO.indexA(hT:TabOk P tab){t e:TypeId}{i ie:TyI}{c j:Nat}{x y:Operand}{ts:List T}{v:T}{ik:IntKind}(hd:Nat.ble (d+1) n=true)
  (ht:tab.get t=some i)(hk:i.k= .array c e)(he:tab.get e=some ie)(ha:ie.k.agg=false)(hs:ie.size=1)(hx:env.val x=some (.t (.ag ts)))(hy:env.val y=some (.t (.v (.int ik (j:Int)))))(hv:ts[j]?=some v)(hl:Nat.blt j c=true)
  (k:TO q P n all rest ((d,.t v)::env) H K):TO q P n all (⟨some d,.index t x y,ty,pos,aft,none⟩::rest) env H K:=
 TO.op hd (fun m ac h1 h2 h3=>by
  have hlt:j<c:=by have h0:=hl;simp[Nat.blt]at h0;omega
  have hr:=h3.val hx
  generalize hq:ac.eval x=z at hr
  cases hr with
  | t _ _ hr=>
    cases hr with
    | ag _ arr hsz h1' hr=>
      have hjl:=(List.getElem?_eq_some_iff.1 hv).1
      obtain⟨w0,hw0⟩:∃w0,arr[j]?=some w0:=⟨_,Array.getElem?_eq_getElem (by omega)⟩
      refine⟨w0,fun w' _=>?_,.t _ _ (hr j v w0 hv hw0)⟩
      have hu:=(hT t i ht).array hk
      simp[execOp,Instr.index,asIntOf,hq,(h3.val hy).v_eq,underlying,hu,hlt,(hT e ie he).sizeOf,hs,part,(hT e ie he).isAgg,ha,hw0]) k
end rules
end Go.TL
namespace Go.Proofs.YtcbhlhmebbkgnaaGreat
open Go Go.TL
attribute [local irreducible] TR TO Then InBlock RetK Sound LoopK Kf GG ThenL
def okAt(vars:List Decl)(pre:List OnC)(o:OnC):Bool:=match findD vars o.name with|some x=>decide (x.ty.1=o.t.1) && decide (x.clock=pre)|none=>false
theorem clkOk_step{vars:List Decl}{l:List OnC}{j:Nat}(h:j<l.length):clkOk vars (l.take j) (l.drop j)=(okAt vars (l.take j) l[j] && clkOk vars (l.take (j+1)) (l.drop (j+1))):=by
 rw[List.drop_eq_getElem_cons h,clkOk,List.take_succ_eq_append_getElem h];rfl
theorem declsOk_step{vars l:List Decl}{k:Nat}(h:k<l.length):declsOk vars (l.drop k)=(clkOk vars [] l[k].clock && declsOk vars (l.drop (k+1))):=by
 rw[List.drop_eq_getElem_cons h];rfl
set_option maxHeartbeats 2000000 in
theorem decls_sound (vars:List Decl) (hl:vars.length≤1000000000) (hk:∀d∈vars,SmallK d.clock) (l:List Decl) (hll:l.length≤1000000000) (hkl:∀d∈l,SmallK d.clock):
  Pure Tryz.prog 67 [chkT vars,.t (declsT l)] (.b (declsOk vars l)):=by
 have hml:(l.map declT).length=l.length:=List.length_map _
 refine Sound.of tabOk Tryz.func67 (by kernel_rfl) rfl rfl ?_
 repeat' (first|refine wkt ?_|refine wk ?_|exact wkc|intro hc|refine wk2 ?_ ?_|fail)
 refine TR.loopN l.length (fun k=>declsOk vars l=declsOk vars (l.drop k)) (fun k=>[(2,.cp [declsT vars] 0),(11,.t (declsT l)),(12,.i (l.map declT).length),(13,.i k)]) (fun _=>[]) rfl (fun k hlt ha=>?_) (fun ha=>?_)
 ·have hx:=at_decl hlt
  have hkd:=hkl _ (List.getElem_mem hlt)
  rw[declsOk_step hlt]at ha
  generalize l[k]=d at*
  have hkd1:=hkd.1
  have hmd:(d.clock.map onT).length=d.clock.length:=List.length_map _
  unfold declC at hx
  repeat' (first|refine wkt ?_|refine wka ?_|refine wk ?_|exact wkc|intro hc|refine wk2 ?_ ?_|fail|fail)
  refine TR.loopN d.clock.length (fun j=>clkOk vars [] d.clock=clkOk vars (d.clock.take j) (d.clock.drop j)) (fun j=>[(2,.cp [declsT vars] 0),(6,.cp [.s d.name,T.n d.ty,.sl 3 (d.clock.map onT)] 0),(11,.t (declsT l)),(12,.i (l.map declT).length),(13,.i k),(18,.t (onsT d.clock)),(19,.i (d.clock.map onT).length),(20,.i j)]) (fun _=>[]) rfl (fun j hlt2 ha2=>?_) (fun ha2=>?_)
  ·have hx2:=at_on hlt2
   rw[clkOk_step hlt2]at ha2
   generalize d.clock[j]=o at*
   have hf:=findK_sound vars hl o.name
   unfold okAt at ha2
   unfold findZ at hf
   cases hfo:findD vars o.name with
   | none=>
     rw[hfo]at hf ha2
     rw[ha,ha2]
     repeat' (first|refine wkt ?_|refine wka ?_|refine rg [.b false,.b true,.b true,.t (.v undef),.t (.v undef),.t (.v undef),.t (.v undef),.t (.v undef),.b true,.b true,.t (.v undef),.t (.v undef),.t (.v undef),.t (.v undef),.t (.v undef),.t (.v undef),.t (.v undef),.t (.v undef),.b true] ?_ ?_|refine wv hf ?_|exact trivial|exact And.intro rfl rfl|refine And.intro (fun H env=>?_) ?_|refine wk ?_|exact wkc|intro hc|refine wk2 ?_ ?_|fail)
     exact wkr
   | some x=>
     rw[hfo]at hf ha2
     simp only[Option.getD_some,Option.isSome_some]at hf ha2
     rw[show declT x= .ag [.s x.name,T.n x.ty,.sl 3 (x.clock.map onT)] from rfl]at hf
     by_cases ht:x.ty.1=o.t.1
     ·have hs:=sameK_sound x.clock (d.clock.take j) (hk x (findD_mem hfo).1) (hkd.take j)
      rw[show onsT (d.clock.take j)= .sl 3 ((d.clock.map onT).take j) by rw[onsT,List.map_take]]at hs
      by_cases hq:x.clock=d.clock.take j
      ·rw[decide_eq_true hq]at hs ha2
       rw[decide_eq_true ht]at ha2
       repeat' (first|refine wkt ?_|refine wka ?_|refine rg [.b true,.b false,.b false,.cp [.s x.name,T.n x.ty,.sl 3 (x.clock.map onT)] 1,.t (T.n x.ty),.cp [.s o.name,T.n o.t,T.n o.tag] 1,.t (T.n o.t),.b false,.b false,.b false,.cp [.s x.name,T.n x.ty,.sl 3 (x.clock.map onT)] 2,.t (onsT x.clock),.cp [.s d.name,T.n d.ty,.sl 3 (d.clock.map onT)] 2,.t (onsT d.clock),.i j,.t (.sl 3 ((d.clock.map onT).take j)),.b true,.b false,.b false] ?_ ?_|refine wv hf ?_|refine wv hs ?_|exact trivial|exact And.intro rfl rfl|refine And.intro (fun H env=>?_) ?_|refine wk ?_|exact wkc|intro hc|refine wk2 ?_ ?_|fail)
       exact LoopK.nextN hlt2 ha2
      ·rw[decide_eq_false hq]at hs ha2
       rw[Bool.and_false,Bool.false_and]at ha2
       rw[ha,ha2]
       repeat' (first|refine wkt ?_|refine wka ?_|refine rg [.b true,.b false,.b false,.cp [.s x.name,T.n x.ty,.sl 3 (x.clock.map onT)] 1,.t (T.n x.ty),.cp [.s o.name,T.n o.t,T.n o.tag] 1,.t (T.n o.t),.b false,.b false,.b false,.cp [.s x.name,T.n x.ty,.sl 3 (x.clock.map onT)] 2,.t (onsT x.clock),.cp [.s d.name,T.n d.ty,.sl 3 (d.clock.map onT)] 2,.t (onsT d.clock),.i j,.t (.sl 3 ((d.clock.map onT).take j)),.b false,.b true,.b true] ?_ ?_|refine wv hf ?_|refine wv hs ?_|exact trivial|exact And.intro rfl rfl|refine And.intro (fun H env=>?_) ?_|refine wk ?_|exact wkc|intro hc|refine wk2 ?_ ?_|fail)
       exact wkr
     ·rw[decide_eq_false ht]at ha2
      rw[ha,ha2]
      repeat' (first|refine wkt ?_|refine wka ?_|refine rg [.b true,.b false,.b false,.cp [.s x.name,T.n x.ty,.sl 3 (x.clock.map onT)] 1,.t (T.n x.ty),.cp [.s o.name,T.n o.t,T.n o.tag] 1,.t (T.n o.t),.b true,.b true,.b true,.t (.v undef),.t (.v undef),.t (.v undef),.t (.v undef),.t (.v undef),.t (.v undef),.t (.v undef),.t (.v undef),.b true] ?_ ?_|refine wv hf ?_|exact trivial|exact And.intro rfl rfl|refine And.intro (fun H env=>?_) ?_|refine wk ?_|exact wkc|intro hc|refine wk2 ?_ ?_|fail)
      exact wkr
  ·rw[List.take_length,List.drop_of_length_le (Nat.le_refl _)]at ha2
   rw[ha2]at ha
   repeat' (first|refine wkt ?_|refine wk ?_|exact wkc|intro hc|refine wk2 ?_ ?_|fail)
   exact LoopK.nextN hlt ha
 ·rw[ha,List.drop_of_length_le (Nat.le_refl _)]
  repeat' (first|refine wkt ?_|refine wk ?_|exact wkc|intro hc|refine wk2 ?_ ?_|fail)
  exact wkr
set_option maxHeartbeats 2000000 in
theorem equK_sound (vars:List Decl) (hl:vars.length≤1000000000) (hk:∀d∈vars,SmallK d.clock) (u:Equ) (hu:u.left≠ []) (hul:u.left.length≤1000000000) (he:wEx u.right≤1000000000) (hn:∀x∈flat u.right,x.name.length≤1000000000):
  Pure Tryz.prog 68 [chkT vars,.t (.ag (equC u))] (.i (eqClk vars u)):=by
 have hml:(u.left.map T.s).length=u.left.length:=List.length_map _
 obtain⟨s0,ls,hls⟩:∃s0 ls,u.left=s0::ls:=by
  cases h:u.left with
  | nil=>exact absurd h hu
  | cons a b=>exact⟨a,b,rfl⟩
 have h0:(u.left.map T.s)[0]?=some (T.s s0):=by rw[hls];rfl
 have hf:=findK_sound vars hl s0
 have hdc:=findZ_clock vars s0
 have hsz:SmallK (findZ vars s0).clock:=by
  unfold findZ
  cases h:findD vars s0 with
  | none=>exact SmallK.nil
  | some d=>exact hk d (findD_mem h).1
 generalize findZ vars s0=d at*
 generalize (findD vars s0).isSome=fo at*
 rw[show declT d= .ag [.s d.name,T.n d.ty,.sl 3 (d.clock.map onT)] from rfl]at hf
 have hfi:=fits_sound vars hl hk _ u.right (Nat.le_refl _) he hn d.clock hsz
 have hon:=fun s=>on_sound vars hl hk s d.clock hsz
 unfold eqClk
 rw[show u.left.headD []=s0 by rw[hls];rfl,<-hdc]
 generalize fitsX vars u.right d.clock=z at*
 unfold equC
 unfold exC at*
 generalize u.left=L at*
 refine Sound.of tabOk Tryz.func68 (by kernel_rfl) rfl rfl ?_
 repeat' (first|refine wkt ?_|fail)
 refine TR.regionM (envF:=?envF) (HF:=[.cells [.s d.name,.t (T.n d.ty),.t (onsT d.clock)]]) [(chkT vars,false),(.cp [.sl 1 (L.map T.s),T.n u.right.kind,T.n u.right.op,T.n u.right.t,T.n u.right.v,.s u.right.name,.sl 6 (u.right.args.map exT)] 0,false),(.t (.sl 1 (L.map T.s)),false),(.cp [.s s0] 0,false),(.s s0,false),(.tup [.t (.ag [.s d.name,T.n d.ty,.sl 3 (d.clock.map onT)]),.b fo],false),(.tup [.t (.ag [.s d.name,T.n d.ty,.sl 3 (d.clock.map onT)]),.b fo],false),(.t (.ag [.s d.name,T.n d.ty,.sl 3 (d.clock.map onT)]),false),(.b fo,false),(.ref 0 0,true),(.any,true),(.b fo,false)] [[],[.cells [.s [],.i 0,.t (.v (.slice none 0 0))]],[.cells [.s d.name,.t (T.n d.ty),.t (onsT d.clock)]]] hmix ?hB ?h0 ?hp ?hF ?hE ?hK
 case hB=>(dsimp only[List.map];decide +kernel)
 case h0=>exact rfl
 case hF=>exact rfl
 case hE=>exact rfl
 case hp=>
  repeat' (first|refine wkt ?_|refine wv hf ?_|exact trivial|exact And.intro rfl rfl|refine And.intro (fun H env=>?_) ?_|refine And.intro (fun env=>?_) ?_|refine wk ?_|fail)
  done
 case hK=>
  repeat' (first|refine wkt ?_|refine wk ?_|exact wkc|intro hc|refine wk2 ?_ ?_|fail)
  refine TR.loopN L.length (fun k=>(L.take k).all (fun s=>onX vars s d.clock)=true) (fun k=>[(2,.cp [declsT vars] 0),(3,.cp [.sl 1 (L.map T.s),T.n u.right.kind,T.n u.right.op,T.n u.right.t,T.n u.right.v,.s u.right.name,.sl 6 (u.right.args.map exT)] 0),(5,.ref 0 0),(19,.t (.sl 1 (L.map T.s))),(20,.i (L.map T.s).length),(21,.i k)]) (fun _=>[.cells [.s d.name,.t (T.n d.ty),.t (onsT d.clock)]]) rfl (fun k hlt ha=>?_) (fun ha=>?_)
  ·have hx:=at_s hlt
   have htk:=take_at hlt
   have hno:=hon L[k]
   have hmem:=List.getElem_mem hlt
   generalize L[k]=s at*
   cases hq:onX vars s d.clock with
   | true=>
     rw[hq]at hno
     repeat' (first|refine wkt ?_|refine wka ?_|refine wk ?_|exact wkc|intro hc|refine wk2 ?_ ?_|refine wv hno ?_|fail)
     refine LoopK.nextN hlt ?_
     rw[htk,List.all_append,ha]
     simp[hq]
   | false=>
     rw[hq]at hno
     rw[if_neg (fun h=>by rw[List.all_eq_true]at h;have:=h s hmem;rw[hq]at this;cases this)]
     repeat' (first|refine wkt ?_|refine wka ?_|refine wk ?_|exact wkc|intro hc|refine wk2 ?_ ?_|refine wv hno ?_|fail)
     exact wkr
  ·rw[List.take_length]at ha
   rw[if_pos ha]
   repeat' (first|refine wkt ?_|refine wk ?_|exact wkc|intro hc|refine wk2 ?_ ?_|refine wv hfi ?_|fail)
   exact wkr
structure NodK (n:Nod):Prop where
 len:(varsL n).length≤1000000000
 clk:∀d∈varsL n,SmallK d.clock
 eqs:∀u∈n.eqs,u.left≠ []/\u.left.length≤1000000000/\wEx u.right≤1000000000/\∀x∈flat u.right,x.name.length≤1000000000
 exs:∀e∈n.assume++n.ensure,wEx e≤1000000000/\∀x∈flat e,x.name.length≤1000000000
 le:n.locals.length≤1000000000/\n.eqs.length≤1000000000/\n.assume.length≤1000000000/\n.ensure.length≤1000000000
set_option maxHeartbeats 4000000 in
theorem nodeK_sound (n:Nod) (hN:NodK n):Pure Tryz.prog 40 [chkT (varsL n),.t (.ag (nodC n))] (.tup [.i (nodeK n).1,.i (nodeK n).2]):=by
 have hloc:∀d∈n.locals,SmallK d.clock:=fun d hd=>hN.clk d (by simp[varsL,hd])
 have hd:=decls_sound (varsL n) hN.len hN.clk n.locals hN.le.1 hloc
 have heq:=fun u (hu:u∈n.eqs)=>equK_sound (varsL n) hN.len hN.clk u (hN.eqs u hu).1 (hN.eqs u hu).2.1 (hN.eqs u hu).2.2.1 (hN.eqs u hu).2.2.2
 obtain⟨FX,hFX⟩:∃FX:Ex->Int,∀e,FX e=fitsX (varsL n) e []:=⟨_,fun _=>rfl⟩
 have hex:=fun e (he:e∈n.assume++n.ensure)=>fits_sound (varsL n) hN.len hN.clk _ e (Nat.le_refl _) (hN.exs e he).1 (hN.exs e he).2 [] SmallK.nil
 simp only[<-hFX]at hex
 obtain⟨_,l2,l3,l4⟩:=hN.le
 have hz:nodeK n=nodeK n:=rfl
 conv at hz=>rhs;unfold nodeK
 generalize nodeK n=z at hz⊢
 generalize declsOk (varsL n) n.locals=zd at*
 generalize eqClk (varsL n)=EQ at*
 rw[show(fun e=>fitsX (varsL n) e [])=FX from funext fun e=>(hFX e).symm]at hz
 clear hFX
 generalize varsL n=vars at*
 have hme:(n.eqs.map equT).length=n.eqs.length:=List.length_map _
 unfold nodC
 cases zd with
 | false=>
   rw[if_pos rfl]at hz
   subst hz
   refine Sound.of tabOk Tryz.func40 (by kernel_rfl) rfl rfl ?_
   repeat' (first|refine wkt ?_|refine wk ?_|exact wkc|intro hc|refine wk2 ?_ ?_|refine wv hd ?_|fail)
   exact wkr
 | true=>
 rw[if_neg (by decide)]at hz
 refine Sound.of tabOk Tryz.func40 (by kernel_rfl) rfl rfl ?_
 repeat' (first|refine wkt ?_|refine wk ?_|exact wkc|intro hc|refine wk2 ?_ ?_|refine wv hd ?_|fail)
 refine TR.loopN n.eqs.length (fun k=>firstE EQ (n.eqs.take k)=0) (fun k=>[(2,.cp [declsT vars] 0),(3,.cp [.s n.name,declsT n.ins,declsT n.outs,declsT n.locals,.sl 7 (n.eqs.map equT),.sl 1 (n.autos.map autoT),.sl 6 (n.assume.map exT),.sl 6 (n.ensure.map exT)] 0),(20,.t (.sl 7 (n.eqs.map equT))),(21,.i (n.eqs.map equT).length),(22,.i k)]) (fun _=>[]) rfl (fun k hlt ha=>?_) (fun ha=>?_)
 ·have hx:=at_equ hlt
  have g1:=firstE_at (f:=EQ) hlt ha
  have g2:=firstE_next (f:=EQ) hlt ha
  have g3:=firstI_at (f:=EQ) hlt ha
  have hs:=heq _ (List.getElem_mem hlt)
  generalize n.eqs[k]=u at*
  generalize EQ u=r at*
  unfold equC at hx hs
  clear heq hex
  repeat' (first|refine wkt ?_|refine wka ?_|refine wk ?_|exact wkc|intro hc|refine wk2 ?_ ?_|refine wv hs ?_|fail)
  all_goals first
   | exact LoopK.nextN hlt (g2 (by omega))
   | (rw[if_pos (by rw[g1 (by omega)];omega),g3 (by omega)]at hz;subst hz;(repeat' (first|refine LoopK.ret ?_|refine wk ?_|fail));exact wkr)
 have e0:=firstE_all ha
 rw[if_neg (by rw[e0];decide)]at hz
 clear heq hd
 repeat' (first|refine wkt ?_|(apply TO.buildA tabOk;exact rfl;exact rfl;exact rfl;exact rfl;exact rfl;exact rfl;exact rfl;exact rfl)|refine wk ?_|exact wkc|intro hc|refine wk2 ?_ ?_|fail)
 have hfa:=firstE_append FX n.assume n.ensure
 refine TR.loopN 2 (fun k=>firstE FX (([n.assume,n.ensure].take k).flatten)=0) (fun k=>[(2,.cp [declsT vars] 0),(39,.t (.ag [.sl 6 (n.assume.map exT),.sl 6 (n.ensure.map exT)])),(40,.i k)]) (fun _=>[]) rfl (fun k hlt hb=>?_) (fun hb=>?_)
 ·obtain⟨L,hL,hLm,hLl,hnx,hat⟩:∃L:List Ex,[n.assume,n.ensure][k]?=some L/\(∀e∈L,e∈n.assume++n.ensure)/\L.length≤1000000000/\(firstE FX L=0->firstE FX (([n.assume,n.ensure].take (k+1)).flatten)=0)/\(firstE FX L≠0->firstE FX (n.assume++n.ensure)=firstE FX L):=by
   rcases(by omega:k=0\/k=1)with rfl|rfl
   ·exact⟨n.assume,rfl,fun e he=>by simp[he],l3,fun h=>by simpa using h,fun h=>by rw[hfa,if_neg h]⟩
   ·have h1:firstE FX n.assume=0:=by simpa using hb
    exact⟨n.ensure,rfl,fun e he=>by simp[he],l4,fun h=>by simpa [firstE_append,h1]using h,fun h=>by rw[hfa,if_pos h1]⟩
  have hv:[T.sl 6 (n.assume.map exT),.sl 6 (n.ensure.map exT)][k]?=some (.sl 6 (L.map exT)):=by
   have:=congrArg (Option.map fun l:List Ex=>T.sl 6 (l.map exT)) hL
   rw[<-List.getElem?_map]at this
   exact this
  have hexL:=fun e he=>hex e (hLm e he)
  have hmL:(L.map exT).length=L.length:=List.length_map _
  clear hL hLm hex hfa
  generalize n.assume=A at*
  generalize n.ensure=B at*
  repeat' (first|refine wkt ?_|(apply TO.indexA tabOk;exact rfl;exact rfl;exact rfl;exact rfl;exact rfl;exact rfl;exact rfl;exact rfl;exact hv;(simp[Nat.blt];omega))|refine wk ?_|exact wkc|intro hc|refine wk2 ?_ ?_|fail)
  refine TR.loopN L.length (fun j=>firstE FX (L.take j)=0) (fun j=>[(2,.cp [declsT vars] 0),(39,.t (.ag [.sl 6 (A.map exT),.sl 6 (B.map exT)])),(40,.i k),(43,.t (.sl 6 (L.map exT))),(44,.i (L.map exT).length),(45,.i j)]) (fun _=>[]) rfl (fun j hlj hb2=>?_) (fun hb2=>?_)
  ·have hx:=at_exT hlj
   have g1:=firstE_at (f:=FX) hlj hb2
   have g2:=firstE_next (f:=FX) hlj hb2
   have hs:=hexL _ (List.getElem_mem hlj)
   generalize L[j]=x at*
   generalize FX x=r at*
   unfold exC at hx hs
   clear hexL
   repeat' (first|refine wkt ?_|refine wka ?_|refine wk ?_|exact wkc|intro hc|refine wk2 ?_ ?_|refine wv hs ?_|fail)
   all_goals first
    | exact LoopK.nextN hlj (g2 (by omega))
    | (have h1:=g1 (by omega);have h2:=hat (by rw[h1];omega);rw[h2,h1,if_pos (by omega)]at hz;subst hz;(repeat' (first|refine LoopK.ret ?_|refine wk ?_|fail));exact wkr)
  ·have e1:=firstE_all hb2
   repeat' (first|refine wkt ?_|refine wk ?_|exact wkc|intro hc|refine wk2 ?_ ?_|fail)
   exact LoopK.nextN hlt (hnx e1)
 ·have hb0:firstE FX (n.assume++n.ensure)=0:=by simpa using hb
  rw[if_neg (by rw[hb0];decide)]at hz
  subst hz
  repeat' (first|refine wkt ?_|refine wk ?_|exact wkc|intro hc|refine wk2 ?_ ?_|fail)
  exact wkr
theorem conNode_sound(fid:FuncId)(p:Nod->Bool)(l:List Nod)(hl:l.length≤1000000000)(hp:∀d,Pure Tryz.prog fid [.t (nodT d)] (.b (p d))):
  Pure Tryz.prog 59 [.t (nodesT l),.fn fid []] (.b (l.any p)):=by
 have hs:=idxNode_sound fid [] rfl p l hl hp
 have ha:=idxI_any p l
 generalize idxI p l=z at*
 have hu:unders 0 [.t (nodesT l),.fn fid []]=true:=rfl
 refine Sound.of tabOk Tryz.func59 (by kernel_rfl) rfl rfl ?_
 repeat' (first|refine wk ?_|exact wkc|intro hc|refine wk2 ?_ ?_|(apply TO.callV hs;exact rfl;exact rfl;exact rfl;exact Les.refl _;exact hu;exact rfl)|fail)
 all_goals
  refine RetK.pure rfl (Le.of_eq ?_) rfl
  refine congrArg (fun b=>SV.t (T.v (Value.bool b))) ?_
  rw[<-ha];simp;omega
theorem plain1_sound(n:Nod):Pure Tryz.prog 60 [.t (nodT n)] (.b (decide (0<n.autos.length))):=by
 have hm:(n.autos.map autoT).length=n.autos.length:=List.length_map _
 show Pure _ _ [.t (.ag (nodC n))] _
 unfold nodC
 by_cases h:0<n.autos.length
 ·rw[decide_eq_true h]
  refine Sound.of tabOk Tryz.func60 (by kernel_rfl) rfl rfl ?_
  repeat' (first|refine wkt ?_|refine wk ?_|exact wkc|intro hc|refine wk2 ?_ ?_|fail)
  all_goals first
   | exact wkr
   | (exfalso;omega)
 ·rw[decide_eq_false h]
  refine Sound.of tabOk Tryz.func60 (by kernel_rfl) rfl rfl ?_
  repeat' (first|refine wkt ?_|refine wk ?_|exact wkc|intro hc|refine wk2 ?_ ?_|fail)
  all_goals first
   | exact wkr
   | (exfalso;omega)
theorem plain_any(p:Prog):plainP p= !(p.nodes.any fun n=>decide (0<n.autos.length)):=by
 unfold plainP
 rw[List.all_eq_not_any_not]
 congr 2
 funext n
 simp[Nat.pos_iff_ne_zero]
theorem plain_sound(p:Prog)(hp:p.nodes.length≤1000000000):Pure Tryz.prog 38 [.t (.ag (progC p))] (.b (plainP p)):=by
 have hs:=conNode_sound 60 _ p.nodes hp plain1_sound
 rw[plain_any]
 generalize (p.nodes.any fun n=>decide (0<n.autos.length))=z at*
 unfold progC
 refine Sound.of tabOk Tryz.func38 (by kernel_rfl) rfl rfl ?_
 repeat' (first|refine wkt ?_|refine wk ?_|exact wkc|intro hc|refine wk2 ?_ ?_|(apply TO.callV hs;exact rfl;exact rfl;exact rfl;exact Les.refl _;exact rfl;exact rfl)|fail)
 exact wkr
theorem decls_w(n:Nod):(declsT (varsL n)).w≤(nodT n).w:=by
 have h1:=w_nod n
 have l2:=w_lenM equT 7 n.eqs
 have e1:=w_decls_append n.ins (n.outs++(n.locals++[]))
 have e2:=w_decls_append n.outs (n.locals++[])
 have e3:=w_decls_append n.locals []
 have e4:(declsT ([]:List Decl)).w=1:=by rw[w_sl];rfl
 unfold varsL
 omega
theorem smallK_of{n:Nod}(hw:(nodT n).w≤100000000):∀d∈varsL n,SmallK d.clock:=fun d hd=>by
 have h0:=decls_w n
 have h2:=(name_decl hd).2
 refine⟨clocks_of hw d hd,fun o ho=>?_⟩
 have:=name_on ho
 omega
theorem nodK_of{p:Prog}(h:(typesX p).2=0){n:Nod}(hn:n∈p.nodes)(hw:(nodT n).w≤100000000):NodK n:=by
 have hwn:=w_nod n
 have h0:=decls_w n
 have l0:=w_lenM declT 3 (varsL n)
 have l1:=w_lenM declT 3 n.locals
 have l2:=w_lenM equT 7 n.eqs
 have l3:=w_lenM exT 6 n.assume
 have l4:=w_lenM exT 6 n.ensure
 have d0:(declsT (varsL n)).w=(T.sl 3 ((varsL n).map declT)).w:=rfl
 have d1:(declsT n.locals).w=(T.sl 3 (n.locals.map declT)).w:=rfl
 obtain⟨hs,_,_⟩:=typesX_parts h
 have h2:=shape_nodes (scope_shape hs) n hn
 unfold nodeX at h2
 have h3:headE p.enums n=0:=Classical.byContradiction fun hh=>by rw[if_pos hh]at h2;exact hh h2
 rw[if_neg (by simp[h3])]at h2
 have h4:firstE (equE p.enums) n.eqs=0:=Classical.byContradiction fun hh=>by rw[if_pos hh,firstI_snd]at h2;exact hh h2
 refine⟨by omega,smallK_of hw,fun u hu=>?_,fun e he=>?_,by omega,by omega,by omega,by omega⟩
 ·have h5:=firstE_zero h4 u hu
  have hwu:=w_inM (f:=equT) (sz:=7) hu
  unfold equE at h5
  have h6:=(orE_zero h5).1
  have hl:=left_equ (q:=u)
  have hwe:=wEx_equ (q:=u)
  have hex:(exT u.right).w≤(equT u).w:=by
   rw[show equT u= .ag (.sl 1 (u.left.map T.s)::exC u.right) from rfl,w_ag,List.map_cons,List.sum_cons,exT_eq,w_ag];omega
  refine⟨fun hh=>?_,by omega,by omega,fun x hx=>?_⟩
  ·rw[hh]at h6;simp at h6
  ·have:=flat_name _ u.right (Nat.le_refl _) x hx
   omega
 ·have hle:=wEx_le e
  have hwe:(exT e).w≤100000000:=by
   rcases List.mem_append.1 he with he|he
   ·have:=w_inM (f:=exT) (sz:=6) he;omega
   ·have:=w_inM (f:=exT) (sz:=6) he;omega
  refine⟨by omega,fun x hx=>?_⟩
  have:=flat_name _ e (Nat.le_refl _) x hx
  omega
theorem clkNods_step{l:List Nod}{k:Nat}(h:k<l.length):clkNods k (l.drop k)=if(nodeK l[k]).2=0 then clkNods (k+1) (l.drop (k+1)) else(((k:Int),(nodeK l[k]).1),(nodeK l[k]).2):=by
 rw[List.drop_eq_getElem_cons h,clkNods]
set_option maxHeartbeats 2000000 in
theorem clocksX_sound (p:Prog) (hw:(T.ag (progC p)).w≤100000000):Pure Tryz.prog 20 [.t (.ag (progC p))] (.tup [.t (.ag [T.i (clocksX p).1.1,T.i (clocksX p).1.2]),.i (clocksX p).2]):=by
 obtain⟨hP,hln,hpl⟩:=smallP_of hw
 have hml:(p.nodes.map nodT).length=p.nodes.length:=List.length_map _
 have hty:=typesX_sound p hw
 have hpn:=plain_sound p (by omega)
 have hz:clocksX p=clocksX p:=rfl
 conv at hz=>rhs;unfold clocksX
 generalize clocksX p=z at hz⊢
 have hnk:=fun h n hn=>nodK_of (p:=p) h hn (hln n hn)
 generalize typesX p=t at*
 obtain⟨⟨t1,t2⟩,t3⟩:=t
 simp only at hz hty hnk
 have hpc:progC p=[.sl 2 (p.enums.map enT),nodesT p.nodes]:=rfl
 rw[hpc]at*
 generalize plainP p=pl at*
 cases pl with
 | false=>
   rw[if_pos rfl]at hz
   subst hz
   refine Sound.of tabOk Tryz.func20 (by kernel_rfl) rfl rfl ?_
   repeat' (first|refine wkt ?_|refine wk ?_|exact wkc|intro hc|refine wk2 ?_ ?_|refine wv hpn ?_|fail)
   exact wkr
 | true=>
 rw[if_neg (by decide)]at hz
 by_cases h3:t3=0
 ·rw[if_neg (by simp[h3])]at hz
  have hnk:=hnk h3
  refine Sound.of tabOk Tryz.func20 (by kernel_rfl) rfl rfl ?_
  repeat' (first|refine wkt ?_|refine wka ?_|refine wk ?_|exact wkc|intro hc|refine wk2 ?_ ?_|refine wv hpn ?_|refine wv hty ?_|fail)
  refine TR.loopN p.nodes.length (fun k=>clkNods 0 p.nodes=clkNods k (p.nodes.drop k)) (fun k=>[(2,.ref 0 0),(24,.t (nodesT p.nodes)),(25,.i (p.nodes.map nodT).length),(26,.i k)]) (fun _=>[.cells [.i 0,.i 0]]) rfl (fun k hlt ha=>?_) (fun ha=>?_)
  ·have hx:=at_nod hlt
   have hmem:=List.getElem_mem hlt
   rw[clkNods_step hlt]at ha
   have hs:=nodeK_sound p.nodes[k] (hnk _ hmem)
   have hv:=vars_sound p.nodes[k] (hP.each _ hmem) (hP.clocks _ hmem)
   generalize nodeK p.nodes[k]=r at*
   obtain⟨r1,r2⟩:=r
   generalize varsL p.nodes[k]=vars at*
   generalize p.nodes[k]=n at*
   unfold nodC at*
   simp only at ha hs
   repeat' (first|refine wkt ?_|refine wka ?_|refine rg [.t (.ag [.s n.name,declsT n.ins,declsT n.outs,declsT n.locals,.sl 7 (n.eqs.map equT),.sl 1 (n.autos.map autoT),.sl 6 (n.assume.map exT),.sl 6 (n.ensure.map exT)]),.t (declsT vars),.t (.ag [declsT vars]),.t (.ag [.s n.name,declsT n.ins,declsT n.outs,declsT n.locals,.sl 7 (n.eqs.map equT),.sl 1 (n.autos.map autoT),.sl 6 (n.assume.map exT),.sl 6 (n.ensure.map exT)]),.tup [.i r1,.i r2],.tup [.i r1,.i r2],.i r1,.i r2,.i r1,.i r2] ?_ ?_|refine wv hv ?_|refine wv hs ?_|exact trivial|exact And.intro rfl rfl|refine And.intro (fun H env=>?_) ?_|refine wk ?_|exact wkc|intro hc|refine wk2 ?_ ?_|fail)
   all_goals first
    | (rw[if_neg (by omega)]at ha;rw[ha]at hz;subst hz;(repeat' (first|refine LoopK.ret ?_|refine wk ?_|fail));exact wkr)
    | (rw[if_pos (by omega)]at ha;exact LoopK.nextC 1 hlt ha rfl rfl rfl rfl rfl)
  ·rw[List.drop_of_length_le (Nat.le_refl _)]at ha
   rw[ha]at hz
   subst hz
   repeat' (first|refine wkt ?_|refine wk ?_|exact wkc|intro hc|refine wk2 ?_ ?_|fail)
   exact wkr
 ·rw[if_pos h3]at hz
  subst hz
  refine Sound.of tabOk Tryz.func20 (by kernel_rfl) rfl rfl ?_
  repeat' (first|refine wkt ?_|refine wka ?_|refine wk ?_|exact wkc|intro hc|refine wk2 ?_ ?_|refine wv hpn ?_|refine wv hty ?_|fail)
  all_goals first
   | exact wkr
   | (exfalso;omega)
end Go.Proofs.YtcbhlhmebbkgnaaGreat
