import Derived.Test.YtjgmcnemcembmaaGreatDoorPk23
set_option linter.unusedSimpArgs false
set_option linter.unusedVariables false
namespace Go.TL
open Go
section rules
variable {P:Program}{all:Array Oper}
theorem TR.regionSW(w:List Nat){g:Prop}{n:Nat}{env0 envF:Env}{H0:Heap}{K:TK}{id':Nat}{l:List Oper}(t:List (SV×Bool))(hm:P.follows .mixedOrders=true)(hw:w.all (fun t=>(env0.look t).isSome)=true)(hB:mixW w l.toArray (t.map (·.2))=true)
  (hp:PremS P n K g l.toArray (pickE env0 w++fullE l.toArray (t.map (·.1)) env0) H0 l t)(hE:forceL (fullE l.toArray (t.map (·.1)) env0)=some envF)(hne:0<l.length)(hK:g->K .normal envF H0):
  TR P n (.region id' l.toArray true) env0 H0 K:=by
 obtain⟨g1,g2⟩:=hp.get
 intro φ m a h1 h2 h3 h4
 let hs:=List.replicate (((t.map (·.2)).filter id).length+1) H0
 have hsg:∀(c:Nat) H,hs[c]?=some H->H=H0:=by
  intro c H h
  rw[List.getElem?_replicate]at h
  split at h
  ·cases h;rfl
  ·cases h
 have hsi:∀c:Nat,c≤((t.map (·.2)).filter id).length->hs[c]?=some H0:=by
  intro c hc
  rw[List.getElem?_replicate,if_pos (by omega)]
 have s0:Step m ⟨m.A,m.β,m.H,{ m.w with drawn:=m.w.drawn+1 }⟩/\HRel ⟨m.A,m.β,m.H,{ m.w with drawn:=m.w.drawn+1 }⟩:=keep_ok h2 ⟨rfl,rfl,rfl,Nat.le_refl _,fun _ _=>rfl⟩
 refine wpr_of_in (wpIn_region_any hm ?_)
 refine any_mixW w (G:=fun i=>lastG g (l.drop (i+1))) (vs:=t.map (·.1)) (fl:=t.map (·.2)) (hs:=hs) (HF:=H0) (m0:=m) (fun t ht=>List.all_eq_true.1 hw t (by simpa using ht)) hB (by simp[g1]) (by simp[g1]) ?_ ?_ (hsi _ (Nat.le_refl _)) (fun hg=>by rw[forceL_eq hE]at hK;exact hK (by have:=hg (l.length-1) (by simp;omega);rw[List.drop_of_length_le (by omega)]at this;exact this)) l.toArray.size (Array.replicate l.toArray.size false)
  ⟨m.A,m.β,m.H,{ m.w with drawn:=m.w.drawn+1 }⟩ a (by simp) ?_ ?_ ?_ s0.1 s0.2 ?_ (h4.step h2 s0.1)
 ·intro i o v ho hv hb c H hc _ env
  obtain⟨⟨v',b⟩,hx,rfl⟩:∃x,t[i]?=some x/\x.1=v:=by simpa using hv
  rw[hsg c H hc]
  exact g2 i o v' b (by simpa using ho) hx env
 ·intro i o v ho hv hb
  obtain⟨⟨v',b⟩,hx,rfl⟩:∃x,t[i]?=some x/\x.1=v:=by simpa using hv
  have hlt:(((t.map (·.2)).take i).filter id).length<((t.map (·.2)).filter id).length:=by
   have hm:∀(fl':List Bool) (x:Nat),fl'.getD x false=true->((fl'.take x).filter id).length<(fl'.filter id).length:=by
    intro fl'
    induction fl' with
    | nil=>intro x h;cases h
    | cons b fl' ih=>
      intro x h
      cases x with
      | zero=>simp at h;subst h;simp
      | succ x=>
        have:=ih x (by simpa using h)
        cases b <;> simp <;> exact this
   exact hm _ i hb
  exact⟨H0,H0,hsi _ (by omega),hsi _ (by omega),fun env=>g2 i o v' b (by simpa using ho) hx env⟩
 ·intro i hi
  rw[Array.getElem?_replicate]at hi
  split at hi <;> cases hi
 ·unfold unl
  have:=List.length_filter_le (fun i=>(Array.replicate l.toArray.size false)[i]? == some false) (List.range l.toArray.size)
  simpa using this
 ·refine⟨0,fun i hi=>⟨fun h=>by omega,fun h=>?_⟩,Nat.zero_le _,by rw[hsi 0 (Nat.zero_le _)];simp[h1],fun j h=>?_⟩
  all_goals
   rw[Array.getElem?_replicate]at h
   split at h <;> cases h
 ·have:envA l.toArray (t.map (·.1)) (fun i=>(Array.replicate l.toArray.size false).getD i false) (List.range l.toArray.size)=[]:=by
   have:∀x:List Nat,envA l.toArray (t.map (·.1)) (fun i=>(Array.replicate l.toArray.size false).getD i false) x=[]:=by
    intro x
    induction x with
    | nil=>rfl
    | cons i x ih=>
      have:(Array.replicate l.toArray.size false).getD i false=false:=by
       rw[Array.getD_eq_getD_getElem?,Array.getElem?_replicate]
       split <;> rfl
      simp only[envA,this,ih]
   exact this _
  rw[this,List.nil_append]
  exact h3.step h2 s0.1
end rules
end Go.TL
set_option linter.unusedVariables false
set_option linter.unusedSimpArgs false
namespace Go.Proofs.YtjgmcnemcembmaaGreatDoor
open Go Go.TL
attribute [local irreducible] TR TO Then InBlock RetK Sound LoopK Kf GG ThenL
theorem rgW{n:Nat}{env0 envF:Env}{H0:Heap}{K:TK}{id':Nat}{l:List Oper}(w:List Nat)(t:List SV)
  (hp:PremS Tryz.prog n K True l.toArray (pickE env0 w++fullE l.toArray t env0) H0 l (t.map fun v=>(v,false)))(hK:K .normal envF H0)
  (hw:w.all (fun t=>(env0.look t).isSome)=true:=by rfl)(hB:mixW w l.toArray (t.map fun _=>false)=true:=by dsimp only[List.map];decide +kernel)(hne:0<l.length:=by decide)(hE:forceL (fullE l.toArray t env0)=some envF:=by exact rfl):
  TR Tryz.prog n (.region id' l.toArray true) env0 H0 K:=by
 have e1:(t.map fun v=>(v,false)).map (·.1)=t:=by rw[List.map_map];exact List.map_id t
 have e2:(t.map fun v=>(v,false)).map (·.2)=t.map fun _=>false:=by rw[List.map_map];rfl
 exact TR.regionSW w (t.map fun v=>(v,false)) hmix hw (by rw[e2];exact hB) (by rw[e1];exact hp) (by rw[e1];exact hE) hne fun _=>hK
end Go.Proofs.YtjgmcnemcembmaaGreatDoor
namespace Go.Proofs.YtjgmcnemcembmaaGreatDoor
open Go Go.TL
attribute [local irreducible] TR TO Then InBlock RetK Sound LoopK Kf GG ThenL
theorem mergeA_len{es:List En}{f:Ex->Str}{args:List Ex}(h:ShE es)(hl:∀x∈args,(f x).length≤100000000000000)(t:I64)(s:Str):∀i:Nat,i≤64->(mergeA es f t.1 args s i).length≤s.length+i*100000003000040
 | 0,_=>by simp[mergeA]
 | i+1,hi=>by
   have ih:=mergeA_len h hl t s i (by omega)
   have hb:-9223372036854775808≤brV t.1 i/\brV t.1 i≤9223372036854775807:=by unfold brV;split <;> omega
   have hv:(valS es t.1 (brV t.1 i)).length≤3000030:=valS_len h t ⟨brV t.1 i,hb⟩
   have hg:(((args[(brV t.1 i).toNat]?).map f).getD []).length≤100000000000000:=by
    cases hx:args[(brV t.1 i).toNat]? with
    | none=>exact Nat.zero_le _
    | some x=>exact hl x (List.mem_of_getElem? hx)
   rw[mergeA]
   simp only[List.length_append,List.length_cons,List.length_nil]
   omega
set_option maxHeartbeats 8000000 in
theorem merge_sound {es:List En} {f:Ex->Str} {e:Ex} (h:ShE es) (hA:ShA e) (h9:e.kind.1=9) (hf:∀x∈e.args,ShC 37 es x (f x)) (hl:∀x∈e.args,(f x).length≤100000000000000):
  ShC 71 es e (mergeA es f e.t.1 e.args ([109,101,114,103,101,32]++e.name) e.args.length):=by
 have hn:=hA.k9 h9
 have hnm:=hA.name
 have hfew:=hA.few
 obtain⟨k,o,t,v,nm,args⟩:=e
 clear hA
 dsimp only[Ex.kind,Ex.t,Ex.args,Ex.name]at*
 have hml:(args.map exT).length=args.length:=List.length_map _
 show Sound _ _ _ _ _
 rw[exC_eq]
 by_cases ht:t.1=1
 ·have hn:=hn ht
  obtain⟨t,tt1,tt2⟩:=t
  dsimp only at ht
  subst ht
  refine so Tryz.func71 ?_
  refine wkt ?_
  (apply TO.box;exact rfl;exact rfl;exact rfl;exact rfl)
  repeat' (first|refine wkt ?_|(apply TO.cat;exact rfl;exact rfl;exact rfl;(simp only[List.length_append,List.length_cons,List.length_nil];omega))|fail)
  refine TR.loopN args.length (fun _=>True) (fun j=>[(2,.ref 1 0),(3,.cp [T.n k,T.n o,T.i 1,T.n v,.s nm,.sl 6 (args.map exT)] 0),(5,.s (mergeA es f (1:Int) args ([109,101,114,103,101,32]++nm) j)),(13,.i args.length),(14,.i j)]) (fun j=>[symB,.cells [.t (ensT es),.mp 0]]) trivial (fun j hlt _=>?_) (fun _=>?_) ⟨rfl,rfl,rfl,by rw[<-hml];rfl,rfl,trivial⟩ rfl
  ·have hlt2:(1-(j:Int)).toNat<args.length:=by omega
   have hx:=at_exT hlt2
   have hs:=hf _ (List.getElem_mem hlt2)
   have hgl:=hl _ (List.getElem_mem hlt2)
   have hal:=mergeA_len h hl ⟨1,by decide⟩ ([109,101,114,103,101,32]++nm) j (by omega)
   have hval:Sound Tryz.prog 67 [wr es,.i 1,.i (1-(j:Int))] [symB] (fun r H'=>r= .ret (.s (valS es (1:Int) (1-(j:Int))))/\H'=[symB]):=valueW_sound h ⟨1,by decide⟩ ⟨1-(j:Int),by omega⟩
   have hzl:(valS es (1:Int) (1-(j:Int))).length≤3000030:=valS_len h ⟨1,by decide⟩ ⟨1-(j:Int),by omega⟩
   have hst:mergeA es f (1:Int) args ([109,101,114,103,101,32]++nm) (j+1)=mergeA es f (1:Int) args ([109,101,114,103,101,32]++nm) j++([32,40]++valS es (1:Int) (1-(j:Int))++[32,45,62,32]++f args[(1-(j:Int)).toNat]++[41]):=by
    rw[mergeA,show brV (1:Int) j=1-(j:Int) from rfl,List.getElem?_eq_getElem hlt2]
    rfl
   have hac:(mergeA es f (1:Int) args ([109,101,114,103,101,32]++nm) j).length≤10000000000000000:=by
    have:j*100000003000040≤64*100000003000040:=Nat.mul_le_mul_right _ (by omega)
    simp only[List.length_append,List.length_cons,List.length_nil]at hal
    omega
   clear hal
   generalize valS es (1:Int) (1-(j:Int))=z at*
   generalize mergeA es f (1:Int) args ([109,101,114,103,101,32]++nm) j=acc at*
   generalize args[(1-(j:Int)).toNat]=x at*
   unfold ShC at hs
   generalize f x=g at*
   obtain⟨k',o',t',v',n',l'⟩:=x
   rw[exC_eq]at hx hs
   generalize l'.map exT=la at*
   repeat' (first|refine wkt ?_|(apply TO.sub64;exact rfl;exact rfl;exact rfl;omega;omega)|exact wkc|intro hc|refine wk2 ?_ ?_|fail)
   refine rgW [5] [.s acc,wr es,.cp [T.n k,T.n o,T.i 1,T.n v,.s nm,.sl 6 (args.map exT)] 2,.i 1,.i (1-(j:Int)),.s z,.s ([32,40]++z),.s ([32,40]++z++[32,45,62,32]),wr es,.cp [T.n k,T.n o,T.i 1,T.n v,.s nm,.sl 6 (args.map exT)] 5,.t (.sl 6 (args.map exT)),.i (1-(j:Int)),.cp [T.n k',T.n o',T.n t',T.n v',.s n',.sl 6 la] 0,.t (.ag [T.n k',T.n o',T.n t',T.n v',.s n',.sl 6 la]),.s g,.s ([32,40]++z++[32,45,62,32]++g),.s ([32,40]++z++[32,45,62,32]++g++[41]),.s (acc++([32,40]++z++[32,45,62,32]++g++[41])),.s (acc++([32,40]++z++[32,45,62,32]++g++[41]))] ?_ ?_
   ·repeat' (first|refine wkt ?_|refine wd hs ?_|refine wd hval ?_|(apply TO.indexAddr tabOk;(iterate 8 exact rfl);omega;exact hx)|(apply TO.cat;exact rfl;exact rfl;exact rfl;(simp only[List.length_append,List.length_cons,List.length_nil];omega))|exact trivial|exact⟨⟨rfl,rfl⟩,trivial⟩|refine And.intro (fun env=>?_) ?_|refine wk ?_|exact wkc|intro hc|refine wk2 ?_ ?_|fail)
    done
   ·repeat' (first|refine wu ?_|exact wkc|intro hc|refine wk2 ?_ ?_|fail)
    exact LoopK.nextN hlt trivial (by(try dsimp only);rw[hst];exact⟨rfl,rfl,rfl,rfl,rfl,trivial⟩) rfl
  ·repeat' (first|refine wu ?_|exact wkc|intro hc|refine wk2 ?_ ?_|fail)
   exact RetK.keep 1 rfl (Le.refl _) rfl rfl rfl rfl rfl ⟨rfl,rfl⟩
 ·have hbr:∀i:Nat,brV t.1 i=i:=fun i=>if_neg ht
  refine so Tryz.func71 ?_
  refine wkt ?_
  (apply TO.box;exact rfl;exact rfl;exact rfl;exact rfl)
  repeat' (first|refine wkt ?_|(apply TO.cat;exact rfl;exact rfl;exact rfl;(simp only[List.length_append,List.length_cons,List.length_nil];omega))|fail)
  refine TR.loopN args.length (fun _=>True) (fun j=>[(2,.ref 1 0),(3,.cp [T.n k,T.n o,T.n t,T.n v,.s nm,.sl 6 (args.map exT)] 0),(5,.s (mergeA es f t.1 args ([109,101,114,103,101,32]++nm) j)),(13,.i args.length),(14,.i j)]) (fun j=>[symB,.cells [.t (ensT es),.mp 0]]) trivial (fun j hlt _=>?_) (fun _=>?_) ⟨rfl,rfl,rfl,by rw[<-hml];rfl,rfl,trivial⟩ rfl
  ·have hlt2:((j:Int)).toNat<args.length:=by omega
   have hx:=at_exT hlt2
   have hs:=hf _ (List.getElem_mem hlt2)
   have hgl:=hl _ (List.getElem_mem hlt2)
   have hal:=mergeA_len h hl t ([109,101,114,103,101,32]++nm) j (by omega)
   have hval:Sound Tryz.prog 67 [wr es,.n t,.i ((j:Int))] [symB] (fun r H'=>r= .ret (.s (valS es t.1 ((j:Int))))/\H'=[symB]):=valueW_sound h t ⟨(j:Int),by omega⟩
   have hzl:(valS es t.1 ((j:Int))).length≤3000030:=valS_len h t ⟨(j:Int),by omega⟩
   have hst:mergeA es f t.1 args ([109,101,114,103,101,32]++nm) (j+1)=mergeA es f t.1 args ([109,101,114,103,101,32]++nm) j++([32,40]++valS es t.1 ((j:Int))++[32,45,62,32]++f args[((j:Int)).toNat]++[41]):=by
    rw[mergeA,hbr,List.getElem?_eq_getElem hlt2]
    rfl
   have hac:(mergeA es f t.1 args ([109,101,114,103,101,32]++nm) j).length≤10000000000000000:=by
    have:j*100000003000040≤64*100000003000040:=Nat.mul_le_mul_right _ (by omega)
    simp only[List.length_append,List.length_cons,List.length_nil]at hal
    omega
   clear hal
   generalize valS es t.1 ((j:Int))=z at*
   generalize mergeA es f t.1 args ([109,101,114,103,101,32]++nm) j=acc at*
   generalize args[((j:Int)).toNat]=x at*
   unfold ShC at hs
   generalize f x=g at*
   obtain⟨k',o',t',v',n',l'⟩:=x
   rw[exC_eq]at hx hs
   generalize l'.map exT=la at*
   repeat' (first|refine wkt ?_|(apply TO.sub64;exact rfl;exact rfl;exact rfl;omega;omega)|exact wkc|intro hc|refine wk2 ?_ ?_|fail)
   refine rgW [5] [.s acc,wr es,.cp [T.n k,T.n o,T.n t,T.n v,.s nm,.sl 6 (args.map exT)] 2,.n t,.i ((j:Int)),.s z,.s ([32,40]++z),.s ([32,40]++z++[32,45,62,32]),wr es,.cp [T.n k,T.n o,T.n t,T.n v,.s nm,.sl 6 (args.map exT)] 5,.t (.sl 6 (args.map exT)),.i ((j:Int)),.cp [T.n k',T.n o',T.n t',T.n v',.s n',.sl 6 la] 0,.t (.ag [T.n k',T.n o',T.n t',T.n v',.s n',.sl 6 la]),.s g,.s ([32,40]++z++[32,45,62,32]++g),.s ([32,40]++z++[32,45,62,32]++g++[41]),.s (acc++([32,40]++z++[32,45,62,32]++g++[41])),.s (acc++([32,40]++z++[32,45,62,32]++g++[41]))] ?_ ?_
   ·repeat' (first|refine wkt ?_|refine wd hs ?_|refine wd hval ?_|(apply TO.indexAddr tabOk;(iterate 8 exact rfl);omega;exact hx)|(apply TO.cat;exact rfl;exact rfl;exact rfl;(simp only[List.length_append,List.length_cons,List.length_nil];omega))|exact trivial|exact⟨⟨rfl,rfl⟩,trivial⟩|refine And.intro (fun env=>?_) ?_|refine wk ?_|exact wkc|intro hc|refine wk2 ?_ ?_|fail)
    done
   ·repeat' (first|refine wu ?_|exact wkc|intro hc|refine wk2 ?_ ?_|fail)
    exact LoopK.nextN hlt trivial (by(try dsimp only);rw[hst];exact⟨rfl,rfl,rfl,rfl,rfl,trivial⟩) rfl
  ·repeat' (first|refine wu ?_|exact wkc|intro hc|refine wk2 ?_ ?_|fail)
   exact RetK.keep 1 rfl (Le.refl _) rfl rfl rfl rfl rfl ⟨rfl,rfl⟩
set_option maxHeartbeats 8000000 in
theorem callW_sound {es:List En} {f:Ex->Str} {e:Ex} (hA:ShA e) (hk:e.kind.1=10) (hf:∀x∈e.args,ShC 37 es x (f x)) (hl:∀x∈e.args,(f x).length≤1000000000000):
  ShC 72 es e (callA f e.v.1 e.name e.args):=by
 have hv:=hA.v10 hk
 have hnm:=hA.name
 have hfew:=hA.few
 have hg:∀x∈e.args,ShC 69 es x (grS f x):=fun x hx=>operand_sound (hf x hx) (Nat.le_trans (hl x hx) (by decide))
 have hgl:∀x∈e.args,(grS f x).length≤1000000000002:=fun x hx=>by
  have:=hl x hx
  unfold grS
  split
  ·omega
  ·simp only[List.length_append,List.length_cons,List.length_nil];omega
 obtain⟨k,o,t,v,nm,args⟩:=e
 clear hA
 dsimp only[Ex.kind,Ex.v,Ex.args,Ex.name]at*
 have hml:(args.map exT).length=args.length:=List.length_map _
 obtain⟨v,vv1,vv2⟩:=v
 dsimp only at hv⊢
 show Sound _ _ _ _ _
 rw[exC_eq]
 by_cases h1:v=1
 ·subst h1
  have hn1:1≤args.length:=by omega
  obtain⟨n,hn⟩:∃n,n=args.length-1:=⟨_,rfl⟩
  have hlt3:n<args.length:=by omega
  unfold callA
  rw[if_pos rfl,<-hn,List.getElem?_eq_getElem hlt3]
  simp only[Option.map_some,Option.getD_some]
  have hnv:((args.map exT).length:Int)-1=(n:Int):=by rw[hml];omega
  have hml2:((args.map exT).take n).length=n:=by rw[List.length_take,hml];omega
  have hl2:(args.take n).length=n:=by rw[List.length_take];omega
  have hmt:(args.map exT).take n=(args.take n).map exT:=(List.map_take ..).symm
  have hjl:(Go.Lib.join ((args.take n).map f) [44,32]).length≤64*1000000000002:=by
   refine Nat.le_trans (join_len [44,32] 1000000000000 _ fun y hy=>?_) ?_
   ·obtain⟨x,hx,rfl⟩:=List.mem_map.1 hy
    exact hl x (List.mem_of_mem_take hx)
   ·rw[List.length_map,hl2]
    exact Nat.mul_le_mul_right _ (by omega)
  have hj:=joinP_sound ((args.take n).map f) [44,32] (by rw[List.length_map,hl2];omega) (Nat.le_trans hjl (by decide))
  rw[List.map_map]at hj
  generalize Go.Lib.join ((args.take n).map f) [44,32]=jn at*
  refine so Tryz.func72 ?_
  refine wkt ?_
  (apply TO.box;exact rfl;exact rfl;exact rfl;exact rfl)
  repeat' (first|refine wkt ?_|(apply TO.sub64 (b:=1);exact rfl;exact rfl;exact rfl;omega;omega;rw[hnv])|(apply TO.slice_sl tabOk (a:=0) (b:=n);exact rfl;exact rfl;exact rfl;exact rfl;exact rfl;exact rfl;exact rfl;exact .inl ⟨rfl,rfl⟩;exact .inr ⟨_,_,rfl,rfl⟩;exact Nat.zero_le _;(rw[hml];omega))|fail)
  refine TR.tail 1 6 rfl ?_
  refine TR.loopN n (fun _=>True) (fun j=>[(2,.ref 1 0),(3,.cp [T.n k,T.n o,T.n t,T.i 1,.s nm,.sl 6 (args.map exT)] 0),(5,.i n),(6,.sl 1 (((args.take n).take j).map (T.s ∘ f)) 2),(19,.t (.sl 6 ((args.map exT).take n))),(20,.i n),(21,.i j)]) (fun j=>[symB,.cells [.t (ensT es),.mp 0],.tail (((args.take n).take j).map (T.s ∘ f)).length]) trivial (fun j hlt _=>?_) (fun _=>?_) ⟨rfl,rfl,rfl,rfl,rfl,(congrArg (fun q:Nat=>some (SV.i q)) hml2),rfl,trivial⟩ rfl
  ·have hlt2:j<(args.take n).length:=by rw[hl2];exact hlt
   have hx:=at_exT hlt2
   rw[<-hmt]at hx
   have htk:=take_at hlt2
   have hmem:(args.take n)[j]∈args:=List.mem_of_mem_take (List.getElem_mem hlt2)
   have hs:=hf _ hmem
   have hlen:(((args.take n).take j).map (T.s ∘ f)).length≤1000000:=by rw[List.length_map,List.length_take,hl2];omega
   unfold ShC at hs
   generalize (args.take n)[j]=x at*
   have hgx:(T.s ∘ f) x=T.s (f x):=rfl
   generalize f x=g at*
   unfold exC at hx hs
   repeat' (first|refine wu ?_|exact wkc|intro hc|refine wk2 ?_ ?_|refine wd hs ?_|fail)
   exact LoopK.nextN hlt trivial (by(try dsimp only);rw[htk,List.map_append,List.map_singleton,hgx];exact⟨rfl,rfl,rfl,rfl,rfl,rfl,rfl,trivial⟩) (by(try dsimp only);rw[htk,List.map_append,List.map_singleton,hgx,List.length_append];rfl)
  ·rw[List.take_of_length_le (Nat.le_of_eq hl2)]
   repeat' (first|refine wkt ?_|refine LoopK.exit ?_|exact wkc|intro hc|refine wk2 ?_ ?_|fail)
   refine rgS [.cp [T.n k,T.n o,T.n t,T.i 1,.s nm,.sl 6 (args.map exT)] 4,.s nm,.s (nm++[40]),.sl 1 ((args.take n).map (T.s ∘ f)) 2,.s jn,.s (nm++[40]++jn),.s (nm++[40]++jn++[41]),.s (nm++[40]++jn++[41])] ?_ ?_
   ·repeat' (first|refine wkt ?_|refine wv hj ?_|(apply TO.cat;exact rfl;exact rfl;exact rfl;(simp only[List.length_append,List.length_cons,List.length_nil];omega))|exact trivial|exact⟨⟨rfl,rfl⟩,trivial⟩|refine And.intro (fun env=>?_) ?_|refine wk ?_|exact wkc|intro hc|refine wk2 ?_ ?_|fail)
    done
   ·have hs:=hg _ (List.getElem_mem hlt3)
    have hy:=hgl _ (List.getElem_mem hlt3)
    have hx:=at_exT hlt3
    unfold ShC at hs
    generalize args[n]=x at*
    generalize grS f x=g at*
    obtain⟨k',o',t',v',n',l'⟩:=x
    rw[exC_eq]at hx hs
    generalize l'.map exT=la at*
    repeat' (first|refine wkt ?_|exact wkc|intro hc|refine wk2 ?_ ?_|fail)
    refine rgW [9] [.s (nm++[40]++jn++[41]),wr es,.cp [T.n k,T.n o,T.n t,T.i 1,.s nm,.sl 6 (args.map exT)] 5,.t (.sl 6 (args.map exT)),.i n,.cp [T.n k',T.n o',T.n t',T.n v',.s n',.sl 6 la] 0,.t (.ag [T.n k',T.n o',T.n t',T.n v',.s n',.sl 6 la]),.s g,.s ([32,101,118,101,114,121,32]++g),.s (nm++[40]++jn++[41]++([32,101,118,101,114,121,32]++g)),.s (nm++[40]++jn++[41]++([32,101,118,101,114,121,32]++g))] ?_ ?_
    ·repeat' (first|refine wkt ?_|refine wd hs ?_|(apply TO.cat;exact rfl;exact rfl;exact rfl;(simp only[List.length_append,List.length_cons,List.length_nil];omega))|exact trivial|exact⟨⟨rfl,rfl⟩,trivial⟩|refine And.intro (fun env=>?_) ?_|refine wk ?_|exact wkc|intro hc|refine wk2 ?_ ?_|fail)
     done
    ·repeat' (first|refine wu ?_|exact wkc|intro hc|refine wk2 ?_ ?_|fail)
     exact RetK.keep 1 rfl (Le.refl _) rfl rfl rfl rfl rfl ⟨rfl,rfl⟩
 ·obtain rfl:v=0:=by omega
  obtain⟨n,hn⟩:∃n,n=args.length:=⟨_,rfl⟩
  unfold callA
  rw[if_neg (by decide)]
  rw[show args.map f=(args.take n).map f by rw[hn,List.take_length]]
  have hnv:((args.map exT).length:Int)-0=(n:Int):=by rw[hml];omega
  have hml2:((args.map exT).take n).length=n:=by rw[List.length_take,hml];omega
  have hl2:(args.take n).length=n:=by rw[List.length_take];omega
  have hmt:(args.map exT).take n=(args.take n).map exT:=(List.map_take ..).symm
  have hjl:(Go.Lib.join ((args.take n).map f) [44,32]).length≤64*1000000000002:=by
   refine Nat.le_trans (join_len [44,32] 1000000000000 _ fun y hy=>?_) ?_
   ·obtain⟨x,hx,rfl⟩:=List.mem_map.1 hy
    exact hl x (List.mem_of_mem_take hx)
   ·rw[List.length_map,hl2]
    exact Nat.mul_le_mul_right _ (by omega)
  have hj:=joinP_sound ((args.take n).map f) [44,32] (by rw[List.length_map,hl2];omega) (Nat.le_trans hjl (by decide))
  rw[List.map_map]at hj
  generalize Go.Lib.join ((args.take n).map f) [44,32]=jn at*
  refine so Tryz.func72 ?_
  refine wkt ?_
  (apply TO.box;exact rfl;exact rfl;exact rfl;exact rfl)
  repeat' (first|refine wkt ?_|(apply TO.sub64 (b:=0);exact rfl;exact rfl;exact rfl;omega;omega;rw[hnv])|(apply TO.slice_sl tabOk (a:=0) (b:=n);exact rfl;exact rfl;exact rfl;exact rfl;exact rfl;exact rfl;exact rfl;exact .inl ⟨rfl,rfl⟩;exact .inr ⟨_,_,rfl,rfl⟩;exact Nat.zero_le _;(rw[hml];omega))|fail)
  refine TR.tail 1 6 rfl ?_
  refine TR.loopN n (fun _=>True) (fun j=>[(2,.ref 1 0),(3,.cp [T.n k,T.n o,T.n t,T.i 0,.s nm,.sl 6 (args.map exT)] 0),(5,.i n),(6,.sl 1 (((args.take n).take j).map (T.s ∘ f)) 2),(19,.t (.sl 6 ((args.map exT).take n))),(20,.i n),(21,.i j)]) (fun j=>[symB,.cells [.t (ensT es),.mp 0],.tail (((args.take n).take j).map (T.s ∘ f)).length]) trivial (fun j hlt _=>?_) (fun _=>?_) ⟨rfl,rfl,rfl,rfl,rfl,(congrArg (fun q:Nat=>some (SV.i q)) hml2),rfl,trivial⟩ rfl
  ·have hlt2:j<(args.take n).length:=by rw[hl2];exact hlt
   have hx:=at_exT hlt2
   rw[<-hmt]at hx
   have htk:=take_at hlt2
   have hmem:(args.take n)[j]∈args:=List.mem_of_mem_take (List.getElem_mem hlt2)
   have hs:=hf _ hmem
   have hlen:(((args.take n).take j).map (T.s ∘ f)).length≤1000000:=by rw[List.length_map,List.length_take,hl2];omega
   unfold ShC at hs
   generalize (args.take n)[j]=x at*
   have hgx:(T.s ∘ f) x=T.s (f x):=rfl
   generalize f x=g at*
   unfold exC at hx hs
   repeat' (first|refine wu ?_|exact wkc|intro hc|refine wk2 ?_ ?_|refine wd hs ?_|fail)
   exact LoopK.nextN hlt trivial (by(try dsimp only);rw[htk,List.map_append,List.map_singleton,hgx];exact⟨rfl,rfl,rfl,rfl,rfl,rfl,rfl,trivial⟩) (by(try dsimp only);rw[htk,List.map_append,List.map_singleton,hgx,List.length_append];rfl)
  ·rw[List.take_of_length_le (Nat.le_of_eq hl2)]
   repeat' (first|refine wkt ?_|refine LoopK.exit ?_|exact wkc|intro hc|refine wk2 ?_ ?_|fail)
   refine rgS [.cp [T.n k,T.n o,T.n t,T.i 0,.s nm,.sl 6 (args.map exT)] 4,.s nm,.s (nm++[40]),.sl 1 ((args.take n).map (T.s ∘ f)) 2,.s jn,.s (nm++[40]++jn),.s (nm++[40]++jn++[41]),.s (nm++[40]++jn++[41])] ?_ ?_
   ·repeat' (first|refine wkt ?_|refine wv hj ?_|(apply TO.cat;exact rfl;exact rfl;exact rfl;(simp only[List.length_append,List.length_cons,List.length_nil];omega))|exact trivial|exact⟨⟨rfl,rfl⟩,trivial⟩|refine And.intro (fun env=>?_) ?_|refine wk ?_|exact wkc|intro hc|refine wk2 ?_ ?_|fail)
    done
   ·repeat' (first|refine wu ?_|exact wkc|intro hc|refine wk2 ?_ ?_|fail)
    exact RetK.keep 1 rfl (Le.refl _) rfl rfl rfl rfl rfl ⟨rfl,rfl⟩
theorem join_sum(sep:Str):∀l:List Str,(Go.Lib.join l sep).length≤(l.map fun x=>x.length+sep.length).sum
 | []=>by simp[Go.Lib.join]
 | [x]=>by simp[Go.Lib.join]
 | x::y::l=>by
   have h2:=join_sum sep (y::l)
   have e:(Go.Lib.join (x::y::l) sep).length=x.length+sep.length+(Go.Lib.join (y::l) sep).length:=by
    simp[Go.Lib.join]
    try omega
   rw[e,List.map_cons,List.sum_cons]
   omega
def partL(N:Nat)(f:Ex->Str)(l:List Ex):Nat:=(l.map fun x=>(f x).length+(N+40)).sum
theorem partL_cons(N:Nat)(f:Ex->Str)(x:Ex)(l:List Ex):partL N f (x::l)=(f x).length+(N+40)+partL N f l:=by simp[partL]
theorem partL_app(N:Nat)(f:Ex->Str)(l:List Ex)(x:Ex):partL N f (l++[x])=partL N f l+((f x).length+(N+40)):=by simp[partL]
theorem partL_nil(N:Nat)(f:Ex->Str):partL N f []=0:=rfl
theorem grS_len(f:Ex->Str)(x:Ex):(grS f x).length≤(f x).length+2:=by
 unfold grS
 split
 ·omega
 ·simp only[List.length_append,List.length_cons,List.length_nil];omega
theorem operS_len(N:Nat)(f:Ex->Str)(o:Int):∀l:List Ex,(operS f o l).length≤10+partL N f l
 | []=>Nat.zero_le _
 | [a]=>by
   have:=grS_len f a
   rw[partL_cons,partL_nil]
   rw[operS_one]
   split
   ·simp only[List.length_append,List.length_cons,List.length_nil];omega
   split
   ·simp only[List.length_append,List.length_cons,List.length_nil];omega
   ·simp only[List.length_append,List.length_cons,List.length_nil];omega
 | [a,b]=>by
   have:=grS_len f a
   have:=grS_len f b
   have:=symS_len o
   rw[partL_cons,partL_cons,partL_nil]
   rw[operS_two]
   simp only[List.length_append,List.length_cons,List.length_nil];omega
 | _::_::_::_=>Nat.zero_le _
theorem mergeA_sum{N:Nat}{es:List En}{f:Ex->Str}{args:List Ex}(h:∀t v:I64,(valS es t.1 v.1).length≤N+30)(t:I64)(ht:t.1≠1)(s:Str):∀i:Nat,i≤args.length->i≤64->(mergeA es f t.1 args s i).length≤s.length+partL N f (args.take i)
 | 0,_,_=>by simp[mergeA]
 | i+1,hi,hj=>by
   have ih:=mergeA_sum (f:=f) (args:=args) h t ht s i (by omega) (by omega)
   have hb:brV t.1 i=i:=if_neg ht
   have hv:(valS es t.1 (i:Int)).length≤N+30:=h t ⟨(i:Int),by omega⟩
   have hlt:i<args.length:=by omega
   rw[mergeA,hb,Int.toNat_natCast,List.getElem?_eq_getElem hlt,take_at hlt]
   rw[partL_app]
   simp only[List.length_append,List.length_cons,List.length_nil,Option.map_some,Option.getD_some]
   omega
theorem mergeA_all{N:Nat}{es:List En}{f:Ex->Str}{e:Ex}(h:∀t v:I64,(valS es t.1 v.1).length≤N+30)(hA:ShA e)(h9:e.kind.1=9)(s:Str):(mergeA es f e.t.1 e.args s e.args.length).length≤s.length+partL N f e.args:=by
 by_cases ht:e.t.1=1
 ·obtain⟨a,b,hab⟩:=len2 (hA.k9 h9 ht)
  have h0:=h ⟨1,by decide⟩ ⟨0,by decide⟩
  have h1:=h ⟨1,by decide⟩ ⟨1,by decide⟩
  rw[hab,ht,partL_cons,partL_cons,partL_nil]
  simp only[List.length_cons,List.length_nil,mergeA,brV,if_true]
  simp
  simp at h0 h1
  omega
 ·have:=mergeA_sum h e.t ht s (args:=e.args) (f:=f) e.args.length (Nat.le_refl _) hA.few
  rw[List.take_length]at this
  exact this
theorem partL_join(N:Nat)(f:Ex->Str):∀l:List Ex,(Go.Lib.join (l.map f) [44,32]).length≤partL N f l:=by
 intro l
 refine Nat.le_trans (join_sum _ _) ?_
 unfold partL
 induction l with
 | nil=>exact Nat.le_refl _
 | cons x l ih=>
   simp only[List.map_cons,List.sum_cons,List.length_cons,List.length_nil]
   simp only[List.length_cons,List.length_nil]at ih
   omega
theorem callA_len(N:Nat)(f:Ex->Str)(v:Int)(nm:Str)(args:List Ex):(callA f v nm args).length≤nm.length+20+partL N f args:=by
 unfold callA
 split
 ·by_cases h0:args=[]
  ·subst h0
   simp[Go.Lib.join,partL]
  ·have hlt:args.length-1<args.length:=by
    have:0<args.length:=List.length_pos_iff.2 h0
    omega
   have h1:=partL_join N f (args.take (args.length-1))
   have h2:=grS_len f args[args.length-1]
   have e:partL N f args=partL N f (args.take (args.length-1))+((f args[args.length-1]).length+(N+40)):=by
    have htk:=take_at hlt
    rw[show args.length-1+1=args.length by omega,List.take_length]at htk
    generalize args.take (args.length-1)=p at*
    generalize args[args.length-1]=x at*
    rw[htk]
    simp[partL]
   rw[List.getElem?_eq_getElem hlt,e]
   simp only[List.length_append,List.length_cons,List.length_nil,Option.map_some,Option.getD_some]
   omega
 ·have h1:=partL_join N f args
  simp only[List.length_append,List.length_cons,List.length_nil]
  omega
theorem shE_len{N:Nat}{es:List En}{f:Ex->Str}{e:Ex}(h:∀t v:I64,(valS es t.1 v.1).length≤N+30)(hA:ShA e)(hnm:e.name.length≤N):(shE es f e).length≤3*N+50+partL N f e.args:=by
 have hv:=h e.t e.v
 unfold shE
 split
 ·omega
 split
 ·have:=operS_len N f e.op.1 e.args;omega
 split
 ·rename_i h4
  obtain⟨a,b,c,habc⟩:=len3 (hA.k4 h4)
  rw[habc,partL_cons,partL_cons,partL_cons,partL_nil]
  simp only[List.length_append,List.length_cons,List.length_nil];omega
 split
 ·rename_i h5
  obtain⟨a,ha⟩:=List.length_eq_one_iff.1 (hA.k5 (.inl h5))
  have:=grS_len f a
  rw[ha,partL_cons,partL_nil]
  simp only[List.length_append,List.length_cons,List.length_nil];omega
 split
 ·rename_i h6
  obtain⟨a,b,hab⟩:=len2 (hA.k6 (.inl h6))
  have:=grS_len f a
  have:=grS_len f b
  rw[hab,partL_cons,partL_cons,partL_nil]
  simp only[List.length_append,List.length_cons,List.length_nil];omega
 split
 ·rename_i h7
  obtain⟨a,b,hab⟩:=len2 (hA.k6 (.inr h7))
  have:=grS_len f a
  have:=grS_len f b
  rw[hab,partL_cons,partL_cons,partL_nil]
  simp only[List.length_append,List.length_cons,List.length_nil];omega
 split
 ·rename_i h8
  obtain⟨a,ha⟩:=List.length_eq_one_iff.1 (hA.k5 (.inr h8))
  have:=grS_len f a
  have hsm:(smpS es ⟨e.name,e.t,e.v⟩).length≤2*N+40:=by
   simp only[smpS,List.length_append,List.length_cons,List.length_nil]
   omega
  rw[ha,partL_cons,partL_nil]
  simp only[List.length_append,List.length_cons,List.length_nil];omega
 split
 ·rename_i h9
  have:=mergeA_all (f:=f) h hA h9 ([109,101,114,103,101,32]++e.name)
  simp only[List.length_append,List.length_cons,List.length_nil]at this⊢
  omega
 split
 ·have:=callA_len N f e.v.1 e.name e.args;omega
 split
 ·simp only[List.length_append,List.length_cons,List.length_nil];omega
 ·omega
def ShOk(e:Ex):Prop:=∀x∈flat e,ShA x
theorem ShOk.self{e:Ex}(h:ShOk e):ShA e:=h e (by rw[flat_eq];exact List.mem_cons_self ..)
theorem ShOk.arg{e x:Ex}(h:ShOk e)(hx:x∈e.args):ShOk x:=fun y hy=>h y (by
 rw[flat_eq]
 exact List.mem_cons_of_mem _ (List.mem_flatten.2 ⟨flat x,List.mem_map.2 ⟨x,hx,rfl⟩,hy⟩))
theorem shF_lenN{N:Nat}{es:List En}(h:∀t v:I64,(valS es t.1 v.1).length≤N+30):∀(m:Nat) (e:Ex),ShOk e->(∀x∈flat e,x.name.length≤N)->(shF es m e).length+(N+40)≤wEx e*(4*N+100)
 | 0,e,_,_=>by
   have:=wEx_pos e
   have:=Nat.mul_le_mul_right (4*N+100) this
   simp only[shF,List.length_nil]
   omega
 | m+1,e,he,hn=>by
   have h1:=shE_len (f:=shF es m) h he.self (hn e (by rw[flat_eq];exact List.mem_cons_self ..))
   have h2:partL N (shF es m) e.args≤(e.args.map wEx).sum*(4*N+100):=by
    have hall:∀l:List Ex,(∀x∈l,ShOk x/\∀y∈flat x,y.name.length≤N)->partL N (shF es m) l≤(l.map wEx).sum*(4*N+100):=by
     intro l
     induction l with
     | nil=>intro _;exact Nat.zero_le _
     | cons x l ih=>
       intro hl
       have h3:=shF_lenN h m x (hl x (List.mem_cons_self ..)).1 (hl x (List.mem_cons_self ..)).2
       have h4:=ih fun y hy=>hl y (List.mem_cons_of_mem _ hy)
       rw[partL_cons,List.map_cons,List.sum_cons,Nat.add_mul]
       omega
    exact hall _ fun x hx=>⟨he.arg hx,fun y hy=>hn y (by rw[flat_eq];exact List.mem_cons_of_mem _ (List.mem_flatten.2 ⟨flat x,List.mem_map.2 ⟨x,hx,rfl⟩,hy⟩))⟩
   rw[wEx_eq,Nat.add_mul]
   simp only[shF]
   omega
theorem shF_len{es:List En}(h:ShE es)(m:Nat)(e:Ex)(he:ShOk e):(shF es m e).length+3000040≤wEx e*12000100:=shF_lenN (N:=3000000) (valS_len h) m e he fun x hx=>(he x hx).name
end Go.Proofs.YtjgmcnemcembmaaGreatDoor
