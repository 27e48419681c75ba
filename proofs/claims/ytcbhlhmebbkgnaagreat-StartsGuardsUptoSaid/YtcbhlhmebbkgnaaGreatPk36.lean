import Derived.Test.YtcbhlhmebbkgnaaGreatPk22
import Derived.Test.YtcbhlhmebbkgnaaGreatPk24
import Derived.Test.YtcbhlhmebbkgnaaGreatPk34
import Derived.Test.YtcbhlhmebbkgnaaGreatPk35
set_option linter.unusedSimpArgs false
set_option linter.unusedVariables false
namespace Go.Proofs.YtcbhlhmebbkgnaaGreat
open Go Go.TL
attribute [local irreducible] TR TO Then InBlock RetK Sound LoopK Kf GG ThenL
abbrev LateS (l:List Str)(e:Ex):Prop:=Sound Tryz.prog 35 [.mp 0,.t (exT e)] [setB l] (fun r H'=>r= .ret (.b (lateX l e))/\H'=[setB l])
abbrev SomeS (l:List Str)(es:List Ex):Prop:=Sound Tryz.prog 56 [.mp 0,.t (.sl 6 (es.map exT))] [setB l] (fun r H'=>r= .ret (.b (es.any (lateX l)))/\H'=[setB l])
theorem retBH{b b':Bool}{Hc H:Heap}{env:Env}{rs:List ResultVar}{k N:Nat}(h:b=b')(hr:resAll tab env H rs=some [.b b]:=by exact rfl)(hN:Nat.ble N k=true:=by exact rfl)(hk:Nat.ble k H.length=true:=by exact rfl)(hH:H.take k=Hc:=by exact rfl)(hb:blksUnder k Hc=true:=by exact rfl):
  RetK tab rs N (fun r H'=>r= .ret (.b b')/\H'=Hc) .ret env H:=by
 subst h
 exact RetK.keep k hr (Le.refl _) hN hk rfl hH hb ⟨rfl,rfl⟩
theorem some_sound(l:List Str)(es:List Ex)(hle:es.length≤1000000000)(h:∀e∈es,LateS l e):SomeS l es:=by
 have hml:(es.map exT).length=es.length:=List.length_map _
 refine Sound.of tabOk Tryz.func56 (by kernel_rfl) rfl rfl ?_
 repeat' (first|refine wkt ?_|refine wk ?_|exact wkc|intro hc|refine wk2 ?_ ?_|fail)
 refine TR.loopN es.length (fun k=>(es.take k).any (lateX l)=false) (fun k=>[(0,.mp 0),(7,.t (.sl 6 (es.map exT))),(8,.i (es.map exT).length),(9,.i k)]) (fun _=>[setB l]) rfl (fun k hlt ha=>?_) (fun ha=>?_)
 ·have hx:=at_exT hlt
  have hs:=h _ (List.getElem_mem hlt)
  unfold LateS at hs
  have htk:(es.take (k+1)).any (lateX l)=((es.take k).any (lateX l) || lateX l es[k]):=by rw[List.take_succ_eq_append_getElem hlt,List.any_append];simp
  have hall:lateX l es[k]=true->es.any (lateX l)=true:=fun h=>List.any_eq_true.2 ⟨_,List.getElem_mem hlt,h⟩
  rw[ha,Bool.false_or]at htk
  generalize es[k]=x at*
  generalize lateX l x=b at*
  rw[exT_eq]at hs
  unfold exC at*
  repeat' (first|refine wkt ?_|refine wk ?_|exact wkc|intro hc|refine wk2 ?_ ?_|(apply TO.callDb 1 hs;exact rfl;exact rfl;exact rfl;exact⟨Le.refl _,Le.refl _,trivial⟩;exact Nat.le_of_ble_eq_true rfl;exact rfl;exact rfl;exact rfl)|fail)
  ·exact retBH (k:=1) (hall hc).symm
  ·exact LoopK.nextN hlt (by rw[htk];exact hc)
 ·rw[List.take_length]at ha
  repeat' (first|refine wkt ?_|refine wk ?_|exact wkc|intro hc|refine wk2 ?_ ?_|fail)
  exact retBH (k:=1) ha.symm
theorem late_sound(l:List Str)(hl:SetOk l):∀(m:Nat) (e:Ex),wEx e≤m->m≤1000000000->(∀x∈flat e,x.name.length≤1000000000)->LateS l e:=by
 intro m
 induction m with
 | zero=>intro e he;have:=wEx_pos e;omega
 | succ m ih=>
   intro e he hm hn
   have hs:=some_sound l e.args (by have:=wEx_args e;omega) fun a ha=>ih a (by have:=wEx_arg ha;omega) (by omega) fun x hx=>hn x (flat_sub ha x hx)
   have hnm:=hn e (by rw[flat_eq];simp)
   have hb:=lateX_eq l e
   unfold LateS
   unfold SomeS at hs
   rw[exT_eq]
   generalize lateX l e=b at*
   generalize e.args.any (lateX l)=z at*
   clear ih hn
   unfold exC
   refine Sound.of tabOk Tryz.func35 (by kernel_rfl) rfl rfl ?_
   repeat' (first|refine wkt ?_|refine wk ?_|exact wkc|intro hc|refine wk2 ?_ ?_|(apply TO.callDb 1 hs;exact rfl;exact rfl;exact rfl;exact⟨Le.refl _,Le.refl _,trivial⟩;exact Nat.le_of_ble_eq_true rfl;exact rfl;exact rfl;exact rfl)|(apply TO.setGet;exact rfl;exact rfl;exact rfl;exact rfl;assumption;assumption)|fail)
   all_goals
    refine retBH (k:=1) ?_
    clear hs
    grind
end Go.Proofs.YtcbhlhmebbkgnaaGreat
namespace Go.Proofs.YtcbhlhmebbkgnaaGreat
open Go Go.TL
attribute [local irreducible] TR TO Then InBlock RetK Sound LoopK Kf GG ThenL
attribute [local irreducible] TOG
theorem TO.setEntry{n:Nat}{env:Env}{K:TK}{all:Array Oper}{rest:List Oper}{d id:Nat}{ty:TypeId}{pos:String}{aft:Array Edge}{H H':Heap}{x y:Operand}{l:List Str}{s:Str}(hd:Nat.ble (d+1) n=true)(hx:env.val x=some (.mp id))(hH:H[id]?=some (setB l))(hy:env.val y=some (.s s))(hl:SetOk l)(hn:s ∉ l)(hs:s.length≤1000000000)
  (hH':H.set id (.map 9 4 ((l.map fun s=>(str s,.v (.bool true)))++[(str s,.b false)]))=H')
  (k:∀c:Nat,TOG id c Tryz.prog n all rest ((d,.tup [.b false,.i c])::env) H' K):
  TO false Tryz.prog n all (⟨some d,.mapEntry 61 x y,ty,pos,aft,none⟩::rest) env H K:=by
 have hg:=set_get hl s
 rw[if_neg hn]at hg
 exact TO.mapEntry tabOk hd rfl rfl rfl rfl rfl kStr hx hH hl.keys hy (kx:=str s) (fun m v h=>h.v_eq) (keyS hs) hg hH' k
theorem TOG.setStore{n:Nat}{env:Env}{K:TK}{all:Array Oper}{rest:List Oper}{id c:Nat}{ty:TypeId}{pos:String}{aft:Array Edge}{H H':Heap}{x y w:Operand}{l:List Str}{s:Str}(hx:env.val x=some (.mp id))(hH:H[id]?=some (.map 9 4 ((l.map fun s=>(str s,.v (.bool true)))++[(str s,.b false)])))(hy:env.val y=some (.i c))(hw:env.val w=some (.b true))
  (hH':H.set id (setB (l++[s]))=H')(k:TO false Tryz.prog n all rest env H' K):
  TOG id c Tryz.prog n all (⟨none,.entryStore 61 x y w,ty,pos,aft,none⟩::rest) env H K:=
 TOG.entryStore hx hH hy hw rfl (by rw[<-hH'];simp[setB]) k
theorem stepL_take{us:List Equ}{v:List Str}{k:Nat}(h:k<us.length):stepL (us.take (k+1)) v=stepQ (stepL (us.take k) v) us[k]:=by
 unfold stepL
 rw[List.take_succ_eq_append_getElem h,List.foldl_append];rfl
theorem stepL_len(us:List Equ)(v:List Str):v.length≤(stepL us v).length:=by
 obtain⟨w,h,_⟩:=stepL_grow us v
 rw[h];simp
structure EqsOk (us:List Equ):Prop where
 len:us.length≤1000000000
 left:∀u∈us,∀s∈u.left,s.length≤1000000000
 ex:∀u∈us,wEx u.right≤1000000000/\∀x∈flat u.right,x.name.length≤1000000000
theorem stepL_ok{us:List Equ}(hu:EqsOk us){v:List Str}(hv:SetOk v)(k:Nat):SetOk (stepL (us.take k) v):=by
 obtain⟨w,h1,h2,h3⟩:=stepL_grow (us.take k) v
 rw[h1]
 refine⟨h2 hv.nodup,fun s hs=>?_⟩
 rcases List.mem_append.1 hs with hs|hs
 ·exact hv.short s hs
 ·obtain⟨u,hu1,hu2⟩:=h3 s hs
  exact hu.left u (List.mem_of_mem_take hu1) s (by rw[hu2];simp)
set_option maxHeartbeats 1000000 in
theorem step_sound (n:Nod) (hu:EqsOk n.eqs) (v:List Str) (hv:SetOk v):
  Sound Tryz.prog 51 [.cp (nodC n) 0,.ref 1 0] [setB v,.cells [.mp 0]] (fun r H'=>r= .ret (.b (decide (v.length<(stepL n.eqs v).length)))/\H'=[setB (stepL n.eqs v),.cells [.mp 0]]):=by
 have hml:(n.eqs.map equT).length=n.eqs.length:=List.length_map _
 have hlen:=hu.len
 unfold nodC
 refine Sound.of tabOk Tryz.func51 (by kernel_rfl) rfl rfl ?_
 repeat' (first|refine wkt ?_|refine wk ?_|exact wkc|intro hc|refine wk2 ?_ ?_|fail)
 refine TR.loopN n.eqs.length (fun k=>True) (fun k=>[(0,.cp [.s n.name,declsT n.ins,declsT n.outs,declsT n.locals,.sl 7 (n.eqs.map equT),.sl 1 (n.autos.map autoT),.sl 6 (n.assume.map exT),.sl 6 (n.ensure.map exT)] 0),(1,.ref 1 0),(3,.b (decide (v.length<(stepL (n.eqs.take k) v).length))),(7,.t (.sl 7 (n.eqs.map equT))),(8,.i (n.eqs.map equT).length),(9,.i k)])
  (fun k=>[setB (stepL (n.eqs.take k) v),.cells [.mp 0]]) trivial (fun k hlt _=>?_) (fun _=>?_) ⟨rfl,rfl,by(try dsimp only);rw[show decide (v.length<(stepL (n.eqs.take 0) v).length)=false by simp[stepL]];rfl,rfl,rfl,rfl,trivial⟩
 ·have hx:=at_equ hlt
  have hok:=stepL_ok hu hv k
  have htk:=stepL_take (v:=v) hlt
  have hvl:=stepL_len (n.eqs.take k) v
  obtain⟨he1,he2⟩:=hu.ex _ (List.getElem_mem hlt)
  have hleft:=hu.left _ (List.getElem_mem hlt)
  generalize stepL (n.eqs.take k) v=w at*
  generalize n.eqs[k]=u at*
  obtain⟨left,e⟩:=u
  have hs:=late_sound w hok _ e (Nat.le_refl _) he1 he2
  unfold stepQ at htk
  unfold LateS at hs
  rw[exT_eq]at hs
  unfold equC exC at*
  dsimp only at htk he1 he2 hleft hx hs
  generalize lateX w e=b at*
  match left,htk,hleft with
  | [],htk,_=>
    rw[if_neg (by simp)]at htk
    repeat' (first|refine wkt ?_|refine wk ?_|exact wkc|intro hc|refine wk2 ?_ ?_|fail)
    exact LoopK.nextN hlt trivial ⟨rfl,rfl,by(try dsimp only);rw[htk];rfl,rfl,rfl,rfl,trivial⟩ (by(try dsimp only);rw[htk])
  | a::a'::r,htk,_=>
    rw[if_neg (by simp)]at htk
    have hmp:(a::a'::r).map T.s=T.s a::T.s a'::r.map T.s:=rfl
    rw[hmp]at hx
    repeat' (first|refine wkt ?_|refine wk ?_|exact wkc|intro hc|refine wk2 ?_ ?_|fail)
    exact LoopK.nextN hlt trivial ⟨rfl,rfl,by(try dsimp only);rw[htk];rfl,rfl,rfl,rfl,trivial⟩ (by(try dsimp only);rw[htk])
  | [a],htk,hleft=>
    have ha:a.length≤1000000000:=hleft a (by simp)
    simp only[List.length_cons,List.length_nil,List.headD_cons,true_and]at htk
    have hmp:[a].map T.s=[T.s a]:=rfl
    rw[hmp]at hx
    repeat' (first|(intro c;apply TOG.extract;exact rfl;exact rfl;exact rfl;apply TOG.setStore;exact rfl;exact rfl;exact rfl;exact rfl;exact rfl)|refine wkt ?_|(apply TR.regionL 5 hmix;decide +kernel;exact rfl)|refine wk ?_|exact wkc|intro hc|refine wk2 ?_ ?_|(apply TO.callDb 1 hs;exact rfl;exact rfl;exact rfl;exact⟨Le.refl _,Le.refl _,trivial⟩;exact Nat.le_of_ble_eq_true rfl;exact rfl;exact rfl;exact rfl)|(apply TO.setGet;exact rfl;exact rfl;exact rfl;exact rfl;assumption;assumption)|(apply TO.setEntry;exact rfl;exact rfl;exact rfl;exact rfl;assumption;assumption;assumption;exact rfl)|fail)
    ·rw[if_neg (fun h=>absurd h (by simp_all))]at htk
     exact LoopK.nextN hlt trivial ⟨rfl,rfl,by(try dsimp only);rw[htk];rfl,rfl,rfl,rfl,trivial⟩ (by(try dsimp only);rw[htk])
    ·rw[if_pos (show ¬a∈w/\b=true from⟨by assumption,by assumption⟩)]at htk
     refine LoopK.nextN hlt trivial ⟨rfl,rfl,?_,rfl,rfl,rfl,trivial⟩ ?_
     ·(try dsimp only)
      rw[htk,decide_eq_true (show v.length<(w++[a]).length by rw[List.length_append];simp only[List.length_cons,List.length_nil];omega)]
      first|done|rfl
     ·(try dsimp only);rw[htk];(first|done|rfl)
    ·rw[if_neg (fun h=>absurd h (by simp_all))]at htk
     exact LoopK.nextN hlt trivial ⟨rfl,rfl,by(try dsimp only);rw[htk];rfl,rfl,rfl,rfl,trivial⟩ (by(try dsimp only);rw[htk])
 ·rw[List.take_length]
  repeat' (first|refine wkt ?_|refine wk ?_|exact wkc|intro hc|refine wk2 ?_ ?_|fail)
  exact retBH (k:=2) rfl
end Go.Proofs.YtcbhlhmebbkgnaaGreat
namespace Go.Proofs.YtcbhlhmebbkgnaaGreat
open Go Go.TL
attribute [local irreducible] TR TO Then InBlock RetK Sound LoopK Kf GG ThenL
def itL(us:List Equ):Nat->List Str->List Str
 | 0,v=>v
 | k+1,v=>itL us k (stepL us v)
theorem itL_out(us:List Equ):∀(k:Nat) (v:List Str),itL us (k+1) v=stepL us (itL us k v)
 | 0,_=>rfl
 | k+1,v=>by rw[itL,itL_out us k,itL]
theorem nodup_le:∀(v l:List Str),v.Nodup->(∀s∈v,s∈l)->v.length≤l.length
 | [],_,_,_=>Nat.zero_le _
 | a::v,l,hn,hs=>by
   have ha:=hs a (by simp)
   have h1:=nodup_le v (l.erase a) (List.nodup_cons.1 hn).2 fun s h=>(List.mem_erase_of_ne (fun e=>(List.nodup_cons.1 hn).1 (by rw[<-e];exact h))).2 (hs s (by simp[h]))
   rw[List.length_erase_of_mem ha]at h1
   have:=List.length_pos_of_mem ha
   simp only[List.length_cons];omega
theorem lefts_le{us:List Equ}{v:List Str}(hn:v.Nodup)(h:∀s∈v,∃u∈us,u.left=[s]):v.length≤us.length:=by
 have:=nodup_le v (us.map fun u=>u.left.headD []) hn fun s hs=>by
  obtain⟨u,h1,h2⟩:=h s hs
  exact List.mem_map.2 ⟨u,h1,by rw[h2];rfl⟩
 simpa using this
theorem rounds(us:List Equ):∀(m:Nat) (v:List Str),v.Nodup->(∀s∈v,∃u∈us,u.left=[s])->us.length<m+v.length->
  ∃R,(∀k,k<R->(itL us k v).length<(itL us (k+1) v).length)/\itL us (R+1) v=itL us R v/\itL us R v=latesG us m v
 | 0,v,hn,hl,hm=>by have:=lefts_le hn hl;omega
 | m+1,v,hn,hl,hm=>by
   obtain⟨w,h1,h2,h3⟩:=stepL_grow us v
   by_cases he:stepL us v=v
   ·exact⟨0,fun k hk=>by omega,he,by rw[latesG,if_pos he];rfl⟩
   ·have hw:0<w.length:=by
     cases w with
     | nil=>rw[List.append_nil]at h1;exact absurd h1 he
     | cons=>simp
    have hlen:v.length<(stepL us v).length:=by rw[h1];simp;exact hw
    obtain⟨R,g1,g2,g3⟩:=rounds us m (stepL us v) (by rw[h1];exact h2 hn) (fun s hs=>by
     rw[h1]at hs
     rcases List.mem_append.1 hs with hs|hs
     ·exact hl s hs
     ·exact h3 s hs) (by omega)
    refine⟨R+1,fun k hk=>?_,g2,by rw[latesG,if_neg he];exact g3⟩
    cases k with
    | zero=>exact hlen
    | succ k=>exact g1 k (by omega)
theorem itL_ok{us:List Equ}(hu:EqsOk us):∀(k:Nat) {v:List Str},SetOk v->SetOk (itL us k v)
 | 0,_,h=>h
 | k+1,v,h=>itL_ok hu k (by have:=stepL_ok hu h us.length;rw[List.take_length]at this;exact this)
theorem lates_ok{n:Nod}(hu:EqsOk n.eqs):SetOk (latesX n):=by
 obtain⟨R,_,_,h⟩:=rounds n.eqs (n.eqs.length+1) [] List.nodup_nil (by simp) (by simp)
 unfold latesX
 rw[<-h]
 exact itL_ok hu R SetOk.nil
theorem lates_sound(n:Nod)(hu:EqsOk n.eqs):Sound Tryz.prog 30 [.t (.ag (nodC n))] [] (fun r H'=>r= .ret (.mp 0)/\H'=[setB (latesX n)]):=by
 obtain⟨R,h1,h2,h3⟩:=rounds n.eqs (n.eqs.length+1) [] List.nodup_nil (by simp) (by simp)
 have hst:=fun k=>step_sound n hu (itL n.eqs k []) (itL_ok hu k SetOk.nil)
 simp only[<-itL_out]at hst
 unfold latesX
 rw[<-h3]
 have h0:itL n.eqs 0 []=[]:=rfl
 generalize hI:(fun k=>itL n.eqs k [])=I
 have hIk:∀k,itL n.eqs k []=I k:=fun k=>by rw[<-hI]
 simp only[hIk]at*
 unfold nodC at*
 refine Sound.of tabOk Tryz.func30 (by kernel_rfl) rfl rfl ?_
 repeat' (first|refine wkb ?_|refine wk ?_|fail)
 refine TR.loopN R (fun _=>True) (fun k=>[(3,.ref 1 0),(4,.fn 51 [.cp [.s n.name,declsT n.ins,declsT n.outs,declsT n.locals,.sl 7 (n.eqs.map equT),.sl 1 (n.autos.map autoT),.sl 6 (n.assume.map exT),.sl 6 (n.ensure.map exT)] 0,.ref 1 0])]) (fun k=>[setB (I k),.cells [.mp 0]]) trivial (fun k hlt _=>?_) (fun _=>?_) ?_ ?_
 ·have hs:=hst k
  rw[decide_eq_true (h1 k hlt)]at hs
  repeat' (first|refine wkb ?_|refine wk ?_|exact wkc|intro hc|refine wk2 ?_ ?_|refine wd hs ?_|fail)
  exact LoopK.nextN hlt trivial
 ·have hs:=hst R
  rw[h2,decide_eq_false (Nat.lt_irrefl _)]at hs
  repeat' (first|refine wkb ?_|refine wk ?_|exact wkc|intro hc|refine wk2 ?_ ?_|refine wd hs ?_|fail)
  exact RetK.keep 1 rfl (Le.refl _) rfl rfl rfl rfl rfl ⟨rfl,rfl⟩
 ·exact⟨rfl,rfl,trivial⟩
 ·rw[h0];rfl
section rules
variable {P:Program}{n:Nat}{env:Env}{H:Heap}{K:TK}{all:Array Oper}{rest:List Oper}{d:Nat}{ty:TypeId}{pos:String}{aft:Array Edge}
theorem TO.callMp{cargs:List SV}{kt vt:TypeId}{es:List (Value×T)}{f:Operand}{fid:FuncId}{caps:List SV}{args:Array Operand}{ts:Array TypeId}{vs:List SV}
  (hs:Sound P fid cargs [] fun r H'=>r= .ret (.mp 0)/\H'=[.map kt vt es])(hd:Nat.ble (d+1) n=true)
  (hf:env.val f=some (.fn fid caps))(ha:env.vals args.toList=some vs)(hl:Les (vs++caps) cargs)(hu:unders 0 cargs=true)
  (k:TO false P n all rest ((d,.mp H.length)::env) (H++[.map kt vt es]) K):
  TO false P n all (⟨some d,.call { callee:=.value f,args:=args,argTypes:=ts },ty,pos,aft,none⟩::rest) env H K:=
 TO.call1 [] hs hd hf ha (by rw[rens_under (N:=0) (fun j hj=>by omega) _ hu];exact hl) hu (hands_none H) (by simp[SV.ren,names]) (by
  simp only[patch,List.map_cons,List.map_nil,Blk.ren]) k
end rules
abbrev MisS (l:List Str)(e:Ex):Prop:=Sound Tryz.prog 45 [.mp 0,.t (.ag (exC e))] [setB l] (fun r H'=>r= .ret (.b (misX l e))/\H'=[setB l])
structure ExSt (e:Ex):Prop where
 w:wEx e≤1000000000
 names:∀x∈flat e,x.name.length≤1000000000
 arrow:∀x∈flat e,x.kind.1=6->x.args≠ []
theorem flat_trans{e x:Ex}(hx:x∈flat e):∀y∈flat x,y∈flat e:=by
 suffices h:∀(m:Nat) (e:Ex),wEx e≤m->∀x∈flat e,∀y∈flat x,y∈flat e from h _ e (Nat.le_refl _) x hx
 intro m
 induction m with
 | zero=>intro e he;have:=wEx_pos e;omega
 | succ m ih=>
   intro e he x hx y hy
   rw[flat_eq]at hx⊢
   rcases List.mem_cons.1 hx with rfl|hx
   ·rw[<-flat_eq];exact hy
   ·refine List.mem_cons_of_mem _ ?_
    unfold flats at hx⊢
    obtain⟨z,hz,hxz⟩:=List.mem_flatten.1 hx
    obtain⟨q,hq,rfl⟩:=List.mem_map.1 hz
    exact List.mem_flatten.2 ⟨_,List.mem_map_of_mem hq,ih q (by have:=wEx_arg hq;omega) x hxz y hy⟩
theorem wEx_flat{e x:Ex}(hx:x∈flat e):wEx x≤wEx e:=by
 suffices h:∀(m:Nat) (e:Ex),wEx e≤m->∀x∈flat e,wEx x≤wEx e from h _ e (Nat.le_refl _) x hx
 intro m
 induction m with
 | zero=>intro e he;have:=wEx_pos e;omega
 | succ m ih=>
   intro e he x hx
   rw[flat_eq]at hx
   rcases List.mem_cons.1 hx with rfl|hx
   ·exact Nat.le_refl _
   ·unfold flats at hx
    obtain⟨z,hz,hxz⟩:=List.mem_flatten.1 hx
    obtain⟨q,hq,rfl⟩:=List.mem_map.1 hz
    have h1:=wEx_arg hq
    have:=ih q (by omega) x hxz
    omega
theorem ExSt.sub{e x:Ex}(h:ExSt e)(hx:x∈flat e):ExSt x:=⟨Nat.le_trans (wEx_flat hx) h.w,fun y hy=>h.names y (flat_trans hx y hy),fun y hy=>h.arrow y (flat_trans hx y hy)⟩
theorem ExSt.arg{e x:Ex}(h:ExSt e)(hx:x∈e.args):ExSt x:=h.sub (flat_sub hx x (by rw[flat_eq];simp))
theorem ExSt.late{e:Ex}(h:ExSt e){l:List Str}(hl:SetOk l):LateS l e:=late_sound l hl _ e (Nat.le_refl _) h.w h.names
theorem ExSt.some{e:Ex}(h:ExSt e){l:List Str}(hl:SetOk l):SomeS l e.args:=some_sound l e.args (by have:=wEx_args e;have:=h.w;omega) fun a ha=>(h.arg ha).late hl
set_option maxHeartbeats 2000000 in
theorem misused_sound (l:List Str) (hl:SetOk l) (e:Ex) (h:ExSt e):MisS l e:=by
 have hs:=Each_sound e
 rw[exT_eq]at hs
 have hc0:exC e=[T.n e.kind,T.n e.op,T.n e.t,T.n e.v,.s e.name,.sl 6 (e.args.map exT)]:=rfl
 unfold MisS
 rw[hc0]at hs⊢
 refine Sound.of tabOk Tryz.func45 (by kernel_rfl) rfl rfl ?_
 repeat' (first|refine wkb ?_|refine wk ?_|exact wkc|intro hc|refine wk2 ?_ ?_|refine wv hs ?_|fail)
 refine TR.rangeEach e (fun _=>[setB l,.cells [.mp 0],.cells [.t (T.n e.kind),.t (T.n e.op),.t (T.n e.t),.t (T.n e.v),.t (T.s e.name),.t (T.sl 6 (e.args.map exT))],.cells [.b false]]) (allF (fun x=>!badX l x) [setB l,.cells [.mp 0],.cells [.t (T.n e.kind),.t (T.n e.op),.t (T.n e.t),.t (T.n e.v),.t (T.s e.name),.t (T.sl 6 (e.args.map exT))],.cells [.b true]]) rfl h.w rfl rfl rfl (fun _=>⟨rfl,rfl⟩) (fun pre x=>?_) (fun fn pre x post hw=>?_) (fun fn=>?_)
 ·unfold allF
  split <;> rename_i hq <;> split at hq <;> cases hq
  ·trivial
  ·exact⟨rfl,rfl⟩
 ·have hxm:x∈flat e:=by rw[hw];simp
  have ho:=h.sub hxm
  have hsm:=ho.some hl
  unfold SomeS at hsm
  have hnm:=ho.names x (by rw[flat_eq];simp)
  have hbad:badX l x=if x.kind.1=5\/x.kind.1=7\/x.kind.1=10 then x.args.any (lateX l) else if x.kind.1=6 then(x.args.take 1).any (lateX l) else if x.kind.1=8 then decide (x.name∈l) else if x.kind.1=9 then decide (x.name∈l) || x.args.any (lateX l) else false:=rfl
  have hall:allF (fun x=>!badX l x) [setB l,.cells [.mp 0],.cells [.t (T.n e.kind),.t (T.n e.op),.t (T.n e.t),.t (T.n e.v),.t (T.s e.name),.t (T.sl 6 (e.args.map exT))],.cells [.b true]] pre x=if badX l x=true then .jump .ret [setB l,.cells [.mp 0],.cells [.t (T.n e.kind),.t (T.n e.op),.t (T.n e.t),.t (T.n e.v),.t (T.s e.name),.t (T.sl 6 (e.args.map exT))],.cells [.b true]] else .go:=by
   show(if(!badX l x)=true then _ else _)=_
   cases badX l x <;> rfl
  have hcx:exC x=[T.n x.kind,T.n x.op,T.n x.t,T.n x.v,.s x.name,.sl 6 (x.args.map exT)]:=rfl
  rw[hcx]
  by_cases h6:x.kind.1=6
  ·obtain⟨a,r,har⟩:∃a r,x.args=a::r:=List.exists_cons_of_ne_nil (ho.arrow x (by rw[flat_eq];simp) h6)
   have hla:=(ho.arg (x:=a) (by rw[har];simp)).late hl
   rw[if_neg (by omega),if_pos h6,har,show(List.take 1 (a::r)).any (lateX l)=lateX l a by simp]at hbad
   rw[hbad]at hall
   clear hbad hsm
   unfold LateS at hla
   rw[exT_eq]at hla
   rw[har,show(a::r).map exT= .ag (exC a)::r.map exT by rw[List.map_cons,exT_eq]]
   generalize lateX l a=b at*
   unfold exC at hla⊢
   repeat' (first|refine wkt ?_|refine wk ?_|exact wkc|intro hc|refine wk2 ?_ ?_|fail)
   refine⟨rfl,?_⟩
   repeat' (first|refine wkt ?_|refine wk ?_|exact wkc|intro hc|refine wk2 ?_ ?_|(apply TO.callDb 1 hla;exact rfl;exact rfl;exact rfl;exact⟨Le.refl _,Le.refl _,trivial⟩;exact Nat.le_of_ble_eq_true rfl;exact rfl;exact rfl;exact rfl)|fail)
   all_goals subst hc
   ·refine⟨_,?_,rfl,rfl⟩
    rw[hall,if_pos rfl];rfl
   ·exact⟨by rw[hall];rfl,rfl,rfl⟩
  ·rw[if_neg h6]at hbad
   generalize badX l x=b at*
   generalize x.args.any (lateX l)=z at*
   repeat' (first|refine wkt ?_|refine wk ?_|exact wkc|intro hc|refine wk2 ?_ ?_|fail)
   refine⟨rfl,?_⟩
   repeat' (first|refine wkt ?_|refine wk ?_|exact wkc|intro hc|refine wk2 ?_ ?_|(apply TO.callDb 1 hsm;exact rfl;exact rfl;exact rfl;exact⟨Le.refl _,Le.refl _,trivial⟩;exact Nat.le_of_ble_eq_true rfl;exact rfl;exact rfl;exact rfl)|(apply TO.setGet;exact rfl;exact rfl;exact rfl;exact rfl;assumption;assumption)|fail)
   all_goals first
    | (refine⟨_,?_,rfl,rfl⟩
       rw[hall,if_pos (show b=true by clear hs hc0 hcx hall hsm;grind)];rfl)
    | (refine⟨?_,rfl,rfl⟩
       rw[hall,if_neg (show ¬b=true by clear hs hc0 hcx hall hsm;grind)])
 ·rw[scan_all,show((flat e).all fun x=>!badX l x)= !misX l e by unfold misX;rw[List.not_any_eq_all_not]]
  cases misX l e with
  | true=>
    simp only[Bool.not_true,Bool.false_eq_true,if_false]
    repeat' (first|refine wkt ?_|refine wk ?_|exact wkc|intro hc|refine wk2 ?_ ?_|fail)
    exact RetK.keep 1 rfl (Le.refl _) rfl rfl rfl rfl rfl ⟨rfl,rfl⟩
  | false=>
    simp only[Bool.not_false,if_true]
    repeat' (first|refine wkt ?_|refine wk ?_|exact wkc|intro hc|refine wk2 ?_ ?_|fail)
    exact RetK.keep 1 rfl (Le.refl _) rfl rfl rfl rfl rfl ⟨rfl,rfl⟩
theorem any_next{α:Type}{f:α->Bool}{l:List α}{k:Nat}(hk:k<l.length)(h:(l.take k).any f=false)(hn:f l[k]=false):(l.take (k+1)).any f=false:=by
 rw[List.take_succ_eq_append_getElem hk,List.any_append,h];simp[hn]
theorem any_hit{α:Type}{f:α->Bool}{l:List α}{k:Nat}(hk:k<l.length)(h:f l[k]=true):l.any f=true:=List.any_eq_true.2 ⟨_,List.getElem_mem hk,h⟩
theorem any_all{α:Type}{f:α->Bool}{l:List α}(h:(l.take l.length).any f=false):l.any f=false:=by rwa [List.take_length]at h
theorem idx_at{α:Type}{f:α->Bool}{l:List α}{k:Nat}(hk:k<l.length)(h:(l.take k).any f=false)(hn:f l[k]=true):l.findIdx f=k:=by
 rw[List.findIdx_eq hk]
 refine⟨hn,fun j hj=>?_⟩
 have:=List.any_eq_false.1 h (l[j]'(by omega)) (by rw[List.mem_take_iff_getElem];exact⟨j,by omega,rfl⟩)
 simpa using this
structure NodS (n:Nod):Prop where
 eqs:EqsOk n.eqs
 rights:∀u∈n.eqs,ExSt u.right
 claims:∀e∈n.assume++n.ensure,ExSt e
 outs:n.outs.length≤1000000000/\∀d∈n.outs,d.name.length≤1000000000
 locals:n.locals.length≤1000000000/\∀d∈n.locals,SmallK d.clock
 le:n.assume.length≤1000000000/\n.ensure.length≤1000000000
theorem retNode{z:Int×Bool}{i:Int}{b:Bool}{H:Heap}{env:Env}{rs:List ResultVar}(h:z=(i,b))(hr:resAll tab env H rs=some [.i i,.b b]:=by exact rfl):
  RetK tab rs 0 (fun r H'=>r= .ret (.tup [.i z.1,.b z.2])/\H'=[]) .ret env H:=by
 subst h
 exact RetK.pure hr (Le.refl _) rfl
set_option maxHeartbeats 4000000 in
theorem nodeS_sound (n:Nod) (hN:NodS n):Pure Tryz.prog 26 [.t (.ag (nodC n))] (.tup [.i (nodeI n).1,.b (nodeI n).2]):=by
 have hl:=lates_sound n hN.eqs
 have hok:=lates_ok hN.eqs
 have hmis:=fun e (h:ExSt e)=>misused_sound (latesX n) hok e h
 have hlt:=fun e (h:ExSt e)=>h.late hok
 have hz:nodeI n=nodeI n:=rfl
 conv at hz=>rhs;unfold nodeI
 have hr:restI n (latesX n)=((n.outs.any fun d=>decide (d.name∈latesX n)) || (n.locals.any fun d=>d.clock.any fun o=>decide (o.name∈latesX n)) || ((n.assume++n.ensure).any fun e=>lateX (latesX n) e || misX (latesX n) e)):=rfl
 generalize nodeI n=z at hz⊢
 generalize restI n (latesX n)=rr at*
 generalize latesX n=V at*
 obtain⟨MX,hMX⟩:∃MX:Ex->Bool,∀e,MX e=misX V e:=⟨_,fun _=>rfl⟩
 obtain⟨LX,hLX⟩:∃LX:Ex->Bool,∀e,LX e=lateX V e:=⟨_,fun _=>rfl⟩
 unfold MisS at hmis
 unfold LateS at hlt
 simp only[<-hMX,<-hLX]at hz hr hmis hlt
 clear hMX hLX
 have hme:(n.eqs.map equT).length=n.eqs.length:=List.length_map _
 have hmo:(n.outs.map declT).length=n.outs.length:=List.length_map _
 have hml:(n.locals.map declT).length=n.locals.length:=List.length_map _
 have hle:=hN.eqs.len
 have hlo:=hN.outs.1
 have hll:=hN.locals.1
 have hno:=hN.outs.2
 have hlk:=hN.locals.2
 obtain⟨hla,hln⟩:=hN.le
 have hrg:=hN.rights
 have hcl:=hN.claims
 clear hN
 unfold nodC at*
 refine Sound.of tabOk Tryz.func26 (by kernel_rfl) rfl rfl ?_
 repeat' (first|refine wkt ?_|refine wk ?_|exact wkc|intro hc|refine wk2 ?_ ?_|(apply TO.callMp hl;exact rfl;exact rfl;exact rfl;exact⟨Le.refl _,trivial⟩;exact rfl)|fail)
 refine TR.loopN n.eqs.length (fun k=>(n.eqs.take k).any (fun u=>MX u.right)=false) (fun k=>[(1,.cp [.s n.name,declsT n.ins,declsT n.outs,declsT n.locals,.sl 7 (n.eqs.map equT),.sl 1 (n.autos.map autoT),.sl 6 (n.assume.map exT),.sl 6 (n.ensure.map exT)] 0),(4,.mp 0),(20,.t (.sl 7 (n.eqs.map equT))),(21,.i (n.eqs.map equT).length),(22,.i k)]) (fun _=>[setB V]) rfl (fun k hlt2 ha=>?_) (fun ha=>?_)
 ·have hx:=at_equ hlt2
  have g1:=any_next (f:=fun u:Equ=>MX u.right) hlt2 ha
  have g2:=any_hit (f:=fun u:Equ=>MX u.right) hlt2
  have g3:=idx_at (f:=fun u:Equ=>MX u.right) hlt2 ha
  have hs:=hmis _ (hrg _ (List.getElem_mem hlt2))
  generalize n.eqs[k]=u at*
  generalize MX u.right=b at*
  unfold equC at hx
  unfold exC at hs
  clear hmis hlt hrg hcl
  repeat' (first|refine wkt ?_|refine wka ?_|refine wk ?_|exact wkc|intro hc|refine wk2 ?_ ?_|(apply TO.callDb 1 hs;exact rfl;exact rfl;exact rfl;exact⟨Le.refl _,Le.refl _,trivial⟩;exact Nat.le_of_ble_eq_true rfl;exact rfl;exact rfl;exact rfl)|fail)
  ·rw[if_pos (g2 hc),g3 hc]at hz
   exact retNode hz
  ·exact LoopK.nextN hlt2 (g1 hc)
 rw[if_neg (by rw[any_all ha];decide)]at hz
 clear hrg
 repeat' (first|refine wkt ?_|refine wk ?_|exact wkc|intro hc|refine wk2 ?_ ?_|fail)
 refine TR.loopN n.outs.length (fun k=>(n.outs.take k).any (fun d=>decide (d.name∈V))=false) (fun k=>[(1,.cp [.s n.name,declsT n.ins,declsT n.outs,declsT n.locals,.sl 7 (n.eqs.map equT),.sl 1 (n.autos.map autoT),.sl 6 (n.assume.map exT),.sl 6 (n.ensure.map exT)] 0),(4,.mp 0),(34,.t (.sl 3 (n.outs.map declT))),(35,.i (n.outs.map declT).length),(36,.i k)]) (fun _=>[setB V]) rfl (fun k hlt2 hb=>?_) (fun hb=>?_)
 ·have hx:=at_decl hlt2
  have g1:=any_next (f:=fun d:Decl=>decide (d.name∈V)) hlt2 hb
  have g2:=any_hit (f:=fun d:Decl=>decide (d.name∈V)) hlt2
  have hno:=hno _ (List.getElem_mem hlt2)
  generalize n.outs[k]=u at*
  unfold declC at hx
  clear hmis hlt hcl
  repeat' (first|refine wkt ?_|refine wk ?_|exact wkc|intro hc|refine wk2 ?_ ?_|(apply TO.setGet;exact rfl;exact rfl;exact rfl;exact rfl;assumption;assumption)|fail)
  ·rw[hr,g2 (decide_eq_true hc)]at hz
   exact retNode (by simpa using hz)
  ·exact LoopK.nextN hlt2 (g1 (decide_eq_false hc))
 rw[any_all hb,Bool.false_or]at hr
 clear hno
 repeat' (first|refine wkt ?_|refine wk ?_|exact wkc|intro hc|refine wk2 ?_ ?_|fail)
 refine TR.loopN n.locals.length (fun k=>(n.locals.take k).any (fun d=>d.clock.any fun o=>decide (o.name∈V))=false) (fun k=>[(1,.cp [.s n.name,declsT n.ins,declsT n.outs,declsT n.locals,.sl 7 (n.eqs.map equT),.sl 1 (n.autos.map autoT),.sl 6 (n.assume.map exT),.sl 6 (n.ensure.map exT)] 0),(4,.mp 0),(46,.t (.sl 3 (n.locals.map declT))),(47,.i (n.locals.map declT).length),(48,.i k)]) (fun _=>[setB V]) rfl (fun k hlt2 hc'=>?_) (fun hc'=>?_)
 ·have hx:=at_decl hlt2
  have g1:=any_next (f:=fun d:Decl=>d.clock.any fun o=>decide (o.name∈V)) hlt2 hc'
  have g2:=any_hit (f:=fun d:Decl=>d.clock.any fun o=>decide (o.name∈V)) hlt2
  have hK:=hlk _ (List.getElem_mem hlt2)
  generalize n.locals[k]=u at*
  obtain⟨hk1,hk2⟩:=hK
  have hmc:(u.clock.map onT).length=u.clock.length:=List.length_map _
  unfold declC at hx
  clear hmis hlt hcl hlk
  repeat' (first|refine wkt ?_|refine wk ?_|exact wkc|intro hc|refine wk2 ?_ ?_|fail)
  refine TR.loopN u.clock.length (fun j=>(u.clock.take j).any (fun o=>decide (o.name∈V))=false) (fun j=>[(1,.cp [.s n.name,declsT n.ins,declsT n.outs,declsT n.locals,.sl 7 (n.eqs.map equT),.sl 1 (n.autos.map autoT),.sl 6 (n.assume.map exT),.sl 6 (n.ensure.map exT)] 0),(4,.mp 0),(46,.t (.sl 3 (n.locals.map declT))),(47,.i (n.locals.map declT).length),(48,.i k),(53,.t (.sl 3 (u.clock.map onT))),(54,.i (u.clock.map onT).length),(55,.i j)]) (fun _=>[setB V]) rfl (fun j hlj hd=>?_) (fun hd=>?_)
  ·have hx2:=at_on hlj
   have f1:=any_next (f:=fun o:OnC=>decide (o.name∈V)) hlj hd
   have f2:=any_hit (f:=fun o:OnC=>decide (o.name∈V)) hlj
   have hno:=hk2 _ (List.getElem_mem hlj)
   generalize u.clock[j]=o at*
   repeat' (first|refine wkt ?_|refine wk ?_|exact wkc|intro hc|refine wk2 ?_ ?_|(apply TO.setGet;exact rfl;exact rfl;exact rfl;exact rfl;assumption;assumption)|fail)
   ·rw[hr,g2 (f2 (decide_eq_true hc))]at hz
    exact retNode (by simpa using hz)
   ·exact LoopK.nextN hlj (f1 (decide_eq_false hc))
  ·have e1:=any_all hd
   repeat' (first|refine wkt ?_|refine wk ?_|exact wkc|intro hc|refine wk2 ?_ ?_|fail)
   exact LoopK.nextN hlt2 (g1 e1)
 rw[any_all hc',Bool.false_or]at hr
 clear hlk
 have hap:(n.assume++n.ensure).any (fun e=>LX e || MX e)=(n.assume.any (fun e=>LX e || MX e) || n.ensure.any (fun e=>LX e || MX e)):=List.any_append
 repeat' (first|refine wkt ?_|refine wk ?_|exact wkc|intro hc|refine wk2 ?_ ?_|fail)
 refine TR.loopN 2 (fun k=>(([n.assume,n.ensure].take k).flatten).any (fun e=>LX e || MX e)=false) (fun k=>[(4,.mp 0),(69,.t (.sl 1 [.sl 6 (n.assume.map exT),.sl 6 (n.ensure.map exT)])),(70,.i 2),(71,.i k)]) (fun _=>[setB V]) rfl (fun k hlt2 hd=>?_) (fun hd=>?_)
 ·obtain⟨L,hL,hLm,hLl,hnx,hat⟩:∃L:List Ex,[n.assume,n.ensure][k]?=some L/\(∀e∈L,e∈n.assume++n.ensure)/\L.length≤1000000000/\(L.any (fun e=>LX e || MX e)=false->(([n.assume,n.ensure].take (k+1)).flatten).any (fun e=>LX e || MX e)=false)/\(L.any (fun e=>LX e || MX e)=true->rr=true):=by
   rcases(by omega:k=0\/k=1)with rfl|rfl
   ·exact⟨n.assume,rfl,fun e he=>by simp[he],hla,fun h=>by simpa using h,fun h=>by rw[hr,hap,h];rfl⟩
   ·have h1:n.assume.any (fun e=>LX e || MX e)=false:=by simpa using hd
    exact⟨n.ensure,rfl,fun e he=>by simp[he],hln,fun h=>by
     show((n.assume++(n.ensure++[])).any _)=false
     rw[List.append_nil,List.any_append,h1,h];rfl,fun h=>by rw[hr,hap,h,Bool.or_true]⟩
  have hv:[T.sl 6 (n.assume.map exT),.sl 6 (n.ensure.map exT)][k]?=some (.sl 6 (L.map exT)):=by
   have:=congrArg (Option.map fun l:List Ex=>T.sl 6 (l.map exT)) hL
   rw[<-List.getElem?_map]at this
   exact this
  have hm1:=fun e he=>hmis e (hcl e (hLm e he))
  have hm2:=fun e he=>hlt e (hcl e (hLm e he))
  have hmL:(L.map exT).length=L.length:=List.length_map _
  clear hL hLm hmis hlt hcl hap hr
  generalize n.assume=A at*
  generalize n.ensure=B at*
  repeat' (first|refine wkt ?_|refine wk ?_|exact wkc|intro hc|refine wk2 ?_ ?_|fail)
  refine TR.loopN L.length (fun j=>(L.take j).any (fun e=>LX e || MX e)=false) (fun j=>[(4,.mp 0),(69,.t (.sl 1 [.sl 6 (A.map exT),.sl 6 (B.map exT)])),(70,.i 2),(71,.i k),(75,.t (.sl 6 (L.map exT))),(76,.i (L.map exT).length),(77,.i j)]) (fun _=>[setB V]) rfl (fun j hlj hb2=>?_) (fun hb2=>?_)
  ·have hx:=at_exT hlj
   have f1:=any_next (f:=fun e=>LX e || MX e) hlj hb2
   have f2:=any_hit (f:=fun e=>LX e || MX e) hlj
   have hs1:=hm1 _ (List.getElem_mem hlj)
   have hs2:=hm2 _ (List.getElem_mem hlj)
   generalize L[j]=x at*
   rw[exT_eq]at hs2
   generalize LX x=r1 at*
   generalize MX x=r2 at*
   unfold exC at hx hs1 hs2
   clear hm1 hm2
   repeat' (first|refine wkt ?_|refine wk ?_|exact wkc|intro hc|refine wk2 ?_ ?_|(apply TO.callDb 1 hs1;exact rfl;exact rfl;exact rfl;exact⟨Le.refl _,Le.refl _,trivial⟩;exact Nat.le_of_ble_eq_true rfl;exact rfl;exact rfl;exact rfl)|(apply TO.callDb 1 hs2;exact rfl;exact rfl;exact rfl;exact⟨Le.refl _,Le.refl _,trivial⟩;exact Nat.le_of_ble_eq_true rfl;exact rfl;exact rfl;exact rfl)|fail)
   all_goals first
    | exact LoopK.nextN hlj (f1 (by simp_all))
    | (rw[hat (f2 (by simp_all))]at hz;exact retNode hz)
  ·have e1:=any_all hb2
   repeat' (first|refine wkt ?_|refine wk ?_|exact wkc|intro hc|refine wk2 ?_ ?_|fail)
   exact LoopK.nextN hlt2 (hnx e1)
 ·have hb0:(n.assume++n.ensure).any (fun e=>LX e || MX e)=false:=by simpa using hd
  rw[hr,hb0]at hz
  repeat' (first|refine wkt ?_|refine wk ?_|exact wkc|intro hc|refine wk2 ?_ ?_|fail)
  exact retNode hz
end Go.Proofs.YtcbhlhmebbkgnaaGreat
