import Derived.Test.YtlfdkafebmdoiaaGreatPk18
import Derived.Test.YtlfdkafebmdoiaaGreatPk23
import Derived.Test.YtlfdkafebmdoiaaGreatPk30
import Derived.Test.YtlfdkafebmdoiaaGreatPk31
set_option linter.unusedSimpArgs false
set_option linter.unusedVariables false
namespace Go.Proofs.YtlfdkafebmdoiaaGreat
open Go Go.TL
attribute [local irreducible] TR TO Then InBlock RetK Sound LoopK Kf GG ThenL
theorem node_in0{R:Rd}{f:Nat->PR Ex}(hf:∀i,i≤R.K.length->InR R.K.length (i+1) (f i))(ha:∀j,R.isAt j [97,117,116,111,109,97,116,111,110]=false){i:Nat}(h:i≤R.K.length):InR R.K.length (i+1) (R.node f i):=by
 unfold Rd.node
 refine(id_in h).bind fun _ j h1 h2=>(must_in _ h2).bind fun _ j h3 h4=>(ins_in h4).bind fun _ j h5 h6=>(must_in _ h6).bind fun _ j h7 h8=>(decls_in _ _ h8).bind fun _ j h9 h10=>(must_in _ h10).bind fun _ j h11 h12=>(locals_in h12).bind fun _ j h13 h14=>(claims_in hf _ _ _ h14).bind fun _ j h15 h16=>(must_in _ h16).bind fun _ j h17 h18=>?_
 exact(body_in0 hf ha _ _ _ h18).bind fun _ j h19 h20=>(must_in _ h20).bind fun _ j h21 h22=>⟨by omega,h22⟩
theorem nodeC(l:List Tok)(n:Int)(es:List En)(i:Nat)(hk:TkOk l)(hes:EsOk es)(hi:i≤l.length)(hw:NoW l):RdS l n es 45 [] i ((rdr l es).node (rdr l es).expr i) (.t (nodT (((rdr l es).node (rdr l es).expr i).vl noN)))/\InR l.length (i+1) ((rdr l es).node (rdr l es).expr i):=by
 refine⟨node_sound' l n es i hk hes hi hw,?_⟩
 have hi':i≤(rdr l es).K.length:=by rw[rdr_len];exact hi
 have hf:∀j,j≤(rdr l es).K.length->InR (rdr l es).K.length (j+1) ((rdr l es).expr j):=fun j hj=>by rw[rdr_len]at hj⊢;exact(exprC l n es j hk hes hj).2
 have:=node_in0 (R:=rdr l es) hf (hw.au es) hi'
 rw[rdr_len]at this
 exact this
theorem types_none{R:Rd}:∀ {m:Nat} {a:List En} {i:Nat},R.isAt i [116,121,112,101]=false->R.types m a i= .ok a i
 | 0,_,_,_=>rfl
 | m+1,a,i,h1=>by rw[Rd.types,h1,if_neg (by decide)]
theorem nodes_none{R:Rd}:∀ {m:Nat} {a:List Nod} {i:Nat},R.isAt i [110,111,100,101]=false->R.nodes m a i= .ok a i
 | 0,_,_,_=>rfl
 | m+1,a,i,h1=>by rw[Rd.nodes,h1,if_neg (by decide)]
theorem nodT_eq(u:Nod):nodT u= .ag [.s u.name,.sl 3 (u.ins.map declT),.sl 3 (u.outs.map declT),.sl 3 (u.locals.map declT),.sl 7 (u.eqs.map equT),.sl 1 (u.autos.map autoT),.sl 6 (u.assume.map exT),.sl 6 (u.ensure.map exT)]:=rfl
abbrev prZ:Blk:=.cells [.t (.v (.slice none 0 0)),.t (.v (.slice none 0 0))]
set_option maxHeartbeats 16000000 in
theorem program_sound' (l:List Tok) (n:Int) (i:Nat) (hk:TkOk l) (hi:i≤l.length) (hw:NoW l):RdS l n [] 20 [] i ((rdr l []).program i) (.t (progT (((rdr l []).program i).vl ⟨[],[]⟩))):=by
 have hl:=hk.len
 have hes:EsOk []:=⟨by decide,fun u hu=>by cases hu⟩
 generalize hr:(rdr l []).program i=r
 unfold Rd.program at hr
 rw[types_none (hw.ty [] i)]at hr
 simp only[PR.bind]at hr
 refine Sound.err rfl (fun _=>rfl) ?_
 refine so Tryz.func20 ?_
 repeat' (first|refine wkb ?_|(apply TO.add;exact rfl;exact rfl;exact rfl;omega;omega)|refine wk ?_|exact wkc|intro hc|refine wk2 ?_ ?_|fail)
 have t1:=is_sound l n [] i [116,121,112,101] hl
 rw[hw.ty [] i]at t1
 refine TR.loop_ind (ι:=Unit) (fun _=>True) (fun _=>0) (fun _=>[(0,.ref 0 0),(3,.ref 2 0),(2,.ref 1 0)]) (fun _=>[rdB l n [] i,prZ,prZ]) () trivial ⟨rfl,rfl,rfl,trivial⟩ rfl ?_
 intro _ _
 refine wk ?_
 repeat' (first|refine wkt ?_|(apply TO.add;exact rfl;exact rfl;exact rfl;omega;omega)|refine wd t1 ?_|refine LoopK.exit ?_|exact wkc|intro hc|refine wk2 ?_ ?_|fail)
 refine TR.tail_cell 8 2 1 rfl rfl rfl ?_
 refine TR.loop_ind (ι:=Nat×Nat×List Nod) (fun x=>i≤x.2.1/\x.2.1≤l.length/\l.length-x.2.1≤x.1/\x.2.2.length≤x.2.1/\((Rd.nodes (rdr l []) x.1 x.2.2 x.2.1).bind fun l2 j=>.ok ⟨[],l2⟩ j:PR Prog)=r) (fun x=>l.length-x.2.1) (fun _=>[(0,.ref 0 0),(3,.ref 2 0),(2,.ref 1 0)]) (fun x=>[rdB l n [] x.2.1,prZ,.cells [.t (.sl 2 []),.sl 8 (x.2.2.map nodT) 3],.tail (x.2.2.map nodT).length]) ((rdr l []).K.length,i,[])
  ⟨by show i≤i;omega,hi,by rw[rdr_len];show l.length-i≤l.length;omega,by show 0≤i;omega,hr⟩ ⟨rfl,rfl,rfl,trivial⟩ rfl ?_
 clear hr
 rintro⟨m,j,xs⟩ ⟨q1,q2,q3,q4,hr⟩
 replace q1:i≤j:=q1
 replace q2:j≤l.length:=q2
 replace q3:l.length-j≤m:=q3
 replace q4:xs.length≤j:=q4
 replace hr:((Rd.nodes (rdr l []) m xs j).bind fun l2 j=>.ok ⟨[],l2⟩ j:PR Prog)=r:=hr
 have hml:(xs.map nodT).length=xs.length:=List.length_map _
 have t3:=is_sound l n [] j [110,111,100,101] hl
 cases hw2:(rdr l []).isAt j [110,111,100,101] with
 | true=>
   have hlthw2:=isAt_lt hw2
   rw[rdr_len]at hlthw2
   rw[hw2]at t3
   cases m with
   | zero=>exfalso;omega
   | succ m=>
   rw[Rd.nodes,if_pos hw2]at hr
   refine wk ?_
   repeat' (first|refine wkt ?_|(apply TO.add;exact rfl;exact rfl;exact rfl;omega;omega)|refine wd t3 ?_|exact wkc|intro hc|refine wk2 ?_ ?_|fail)
   obtain⟨m3,m3i⟩:=limC l n [] j (xs.map nodT).length xs.length 96 hl q2 hml
   cases qm3:limR xs.length 96 j with
   | er ke c=>
     rw[qm3]at m3 m3i hr
     have hc0:=m3i.2
     replace m3:=m3.er
     try simp only[PR.vl]at m3
     simp only[PR.bind]at hr
     repeat' (first|refine wkt ?_|(apply TO.add;exact rfl;exact rfl;exact rfl;omega;omega)|refine we m3 ?_ ?_|exact wkc|intro hc|refine wk2 ?_ ?_|fail)
     repeat' (first|refine LoopK.panic ?_|refine wk ?_|fail)
     exact rdP hr.symm hc0
   | ok u3 j3=>
   rw[qm3]at m3 m3i hr
   obtain⟨m3a,m3b⟩:=m3i
   replace m3:=m3.ok
   try simp only[PR.vl]at m3
   simp only[PR.bind]at hr
   obtain⟨hlt4,rfl⟩:=limR_ok qm3
   repeat' (first|refine wkt ?_|(apply TO.add;exact rfl;exact rfl;exact rfl;omega;omega)|refine we m3 ?_ ?_|exact wkc|intro hc|refine wk2 ?_ ?_|fail)
   obtain⟨m4,m4i⟩:=nodeC l n [] (j3+1) hk hes hlthw2 hw
   cases qm4:(rdr l []).node (rdr l []).expr (j3+1) with
   | er ke c=>
     rw[qm4]at m4 m4i hr
     have hc0:=m4i.2
     replace m4:=m4.er
     try simp only[PR.vl]at m4
     simp only[PR.bind]at hr
     refine rgX 3 (g:=False) [(.ref 2 1,0,1),(.sl 8 (xs.map nodT) 3,0,1),(.ref 0 0,0,1),(.t (.ag [.s noN.name,.sl 3 (noN.ins.map declT),.sl 3 (noN.outs.map declT),.sl 3 (noN.locals.map declT),.sl 7 (noN.eqs.map equT),.sl 1 (noN.autos.map autoT),.sl 6 (noN.assume.map exT),.sl 6 (noN.ensure.map exT)]),1,0),(.t (.sl 8 [.ag [.s noN.name,.sl 3 (noN.ins.map declT),.sl 3 (noN.outs.map declT),.sl 3 (noN.locals.map declT),.sl 7 (noN.eqs.map equT),.sl 1 (noN.autos.map autoT),.sl 6 (noN.assume.map exT),.sl 6 (noN.ensure.map exT)]]),1,1),(.sl 8 ((xs.map nodT)++[.ag [.s noN.name,.sl 3 (noN.ins.map declT),.sl 3 (noN.outs.map declT),.sl 3 (noN.locals.map declT),.sl 7 (noN.eqs.map equT),.sl 1 (noN.autos.map autoT),.sl 6 (noN.assume.map exT),.sl 6 (noN.ensure.map exT)]]) 3,1,0),(.ref 2 1,0,2),(.t (.v undef),1,0)] [[rdB l n [] (j3+1),prZ,.cells [.t (.sl 2 []),.sl 8 (xs.map nodT) 3],.tail ((xs.map nodT)).length],[rdB l n [] (j3+1),prZ,.cells [.t (.sl 2 []),.sl 8 (xs.map nodT) 3],.tail ((xs.map nodT)).length],[rdB l n [] (j3+1),prZ,.cells [.t (.sl 2 []),.sl 8 (xs.map nodT) 3],.tail (((xs.map nodT)).length+1)],[rdB l n [] (j3+1),prZ,.cells [.t (.sl 2 []),.sl 8 ((xs.map nodT)++[.ag [.s noN.name,.sl 3 (noN.ins.map declT),.sl 3 (noN.outs.map declT),.sl 3 (noN.locals.map declT),.sl 7 (noN.eqs.map equT),.sl 1 (noN.autos.map autoT),.sl 6 (noN.assume.map exT),.sl 6 (noN.ensure.map exT)]]) 3],.tail (((xs.map nodT)).length+1)]] ?_ (fun h=>h.elim)
     repeat' (first|refine wkt ?_|exact trivial|exact⟨⟨rfl,rfl⟩,trivial⟩|refine And.intro (fun env=>?_) ?_|refine And.intro ?_ ?_|refine we m4 ?_ ?_|refine wk ?_|exact wkc|intro hc|refine wk2 ?_ ?_|fail)
     repeat' (first|refine LoopK.panic ?_|refine wk ?_|fail)
     exact rdP hr.symm hc0
   | ok o k=>
   rw[qm4]at m4 m4i hr
   obtain⟨m4a,m4b⟩:=m4i
   replace m4:=m4.ok
   try simp only[PR.vl]at m4
   simp only[PR.bind]at hr
   rw[nodT_eq o]at m4
   refine rgX 3 (g:=True) [(.ref 2 1,0,1),(.sl 8 (xs.map nodT) 3,0,1),(.ref 0 0,0,1),(.t (.ag [.s o.name,.sl 3 (o.ins.map declT),.sl 3 (o.outs.map declT),.sl 3 (o.locals.map declT),.sl 7 (o.eqs.map equT),.sl 1 (o.autos.map autoT),.sl 6 (o.assume.map exT),.sl 6 (o.ensure.map exT)]),1,0),(.t (.sl 8 [.ag [.s o.name,.sl 3 (o.ins.map declT),.sl 3 (o.outs.map declT),.sl 3 (o.locals.map declT),.sl 7 (o.eqs.map equT),.sl 1 (o.autos.map autoT),.sl 6 (o.assume.map exT),.sl 6 (o.ensure.map exT)]]),1,1),(.sl 8 ((xs.map nodT)++[.ag [.s o.name,.sl 3 (o.ins.map declT),.sl 3 (o.outs.map declT),.sl 3 (o.locals.map declT),.sl 7 (o.eqs.map equT),.sl 1 (o.autos.map autoT),.sl 6 (o.assume.map exT),.sl 6 (o.ensure.map exT)]]) 3,1,0),(.ref 2 1,0,2),(.t (.v undef),1,0)] [[rdB l n [] (j3+1),prZ,.cells [.t (.sl 2 []),.sl 8 (xs.map nodT) 3],.tail ((xs.map nodT)).length],[rdB l n [] k,prZ,.cells [.t (.sl 2 []),.sl 8 (xs.map nodT) 3],.tail ((xs.map nodT)).length],[rdB l n [] k,prZ,.cells [.t (.sl 2 []),.sl 8 (xs.map nodT) 3],.tail (((xs.map nodT)).length+1)],[rdB l n [] k,prZ,.cells [.t (.sl 2 []),.sl 8 ((xs.map nodT)++[.ag [.s o.name,.sl 3 (o.ins.map declT),.sl 3 (o.outs.map declT),.sl 3 (o.locals.map declT),.sl 7 (o.eqs.map equT),.sl 1 (o.autos.map autoT),.sl 6 (o.assume.map exT),.sl 6 (o.ensure.map exT)]]) 3],.tail (((xs.map nodT)).length+1)]] ?_ (fun _=>?_)
   ·repeat' (first|refine wkt ?_|exact trivial|exact⟨⟨rfl,rfl⟩,trivial⟩|refine And.intro (fun env=>?_) ?_|refine And.intro ?_ ?_|refine we m4 ?_ ?_|refine wk ?_|exact wkc|intro hc|refine wk2 ?_ ?_|fail)
    done
   ·repeat' (first|refine wu ?_|exact wkc|intro hc|refine wk2 ?_ ?_|fail)
    refine LoopK.next (m,k,xs++[o]) ⟨?_,m4b,?_,?_,hr⟩ ?_ ⟨rfl,rfl,rfl,trivial⟩ ?_
    ·show i≤k;omega
    ·show l.length-k≤m;omega
    ·show(xs++[o]).length≤k;rw[List.length_append];simp only[List.length_cons,List.length_nil];omega
    ·show l.length-k<l.length-j3;omega
    ·show _=[rdB l n [] k,prZ,.cells [.t (.sl 2 []),.sl 8 ((xs++[o]).map nodT) 3],.tail ((xs++[o]).map nodT).length]
     rw[List.map_append,List.map_cons,List.map_nil,List.length_append,nodT_eq o];rfl
 | false=>
 rw[hw2]at t3
 rw[nodes_none hw2]at hr
 simp only[PR.bind]at hr
 subst hr
 refine wk ?_
 repeat' (first|refine wkt ?_|(apply TO.add;exact rfl;exact rfl;exact rfl;omega;omega)|refine wd t3 ?_|refine LoopK.exit ?_|exact wkc|intro hc|refine wk2 ?_ ?_|fail)
 apply rdV rfl
 ·exact rfl
 ·rw[vlE]
  show Le _ (.t (.ag [.sl 2 [],.sl 8 (xs.map nodT)]))
  (repeat' (first|exact trivial|exact Go.TL.Le.refl _|refine And.intro ?_ ?_|exact Go.TL.Le.any _|exact Go.TL.Le.nil _|exact Go.TL.Le.own _ _ _|refine Go.TL.Le.tree rfl ?_|exact Go.TL.TLe.refl _|exact Go.TL.TLe.nil _|refine Go.TL.TLe.ags ?_|fail))
 all_goals exact rfl
end Go.Proofs.YtlfdkafebmdoiaaGreat
namespace Go.Proofs.YtlfdkafebmdoiaaGreat
open Go Go.TL
attribute [local irreducible] TR TO Then InBlock RetK Sound LoopK Kf GG ThenL
section rules
variable {P:Program}{n:Nat}{env:Env}{H:Heap}{K:TK}{all:Array Oper}{rest:List Oper}{d:Nat}{ty:TypeId}{pos:String}{aft:Array Edge}
theorem TO.callR{cargs:List SV}{a b:Int}{cs:List SV}{f:Operand}{fid:FuncId}{caps:List SV}{args:Array Operand}{ts:Array TypeId}{vs:List SV}
  (hs:Sound P fid cargs [] fun r H'=>r= .ret (.tup [.ref 0 0,.i a,.i b])/\H'=[.cells cs])(hd:Nat.ble (d+1) n=true)
  (hf:env.val f=some (.fn fid caps))(ha:env.vals args.toList=some vs)(hl:Les (vs++caps) cargs)(hu:unders 0 cargs=true)(hcs:unders 0 cs=true)
  (k:TO false P n all rest ((d,.tup [.ref H.length 0,.i a,.i b])::env) (H++[.cells cs]) K):
  TO false P n all (⟨some d,.call { callee:=.value f,args:=args,argTypes:=ts },ty,pos,aft,none⟩::rest) env H K:=
 TO.call1 [] hs hd hf ha (by rw[rens_under (N:=0) (fun j hj=>by omega) _ hu];exact hl) hu (hands_none H) (by simp[SV.ren,rens,names]) (by
  simp only[patch,List.map_cons,List.map_nil,Blk.ren,unders_ren _ hcs]) k
end rules
theorem closeE_some(a c:Int)(x0 x1 x2 x3 x4 x5 b d:SV)(Hr:Heap)(hb:blksUnder (Hr.length+3) Hr=true):
  DSound Tryz.prog 26 [.ref 0 0,.ref 1 0,.ref 2 0] (.cells [x0,x1,x2,x3,x4,x5]:: .cells [b]:: .cells [d]::Hr) (some (.ifc 102 (.t (.ag [T.i a,T.i c])))) (fun H3=>H3=exZ:: .cells [.i a]:: .cells [.i c]::Hr):=by
 have hc:=caught_sound a c
 refine DSound.of (tab:=tab) Tryz.func26 (by kernel_rfl) rfl rfl rfl rfl ?_
 repeat' (first|refine wkb ?_|(apply TO.ne_nil_ifc;exact rfl;exact rfl;kernel_rfl)|refine Then.normal ?_|refine wv hc ?_|fail)
 have ht:(exZ::Blk.cells [.i a]::Blk.cells [.i c]::Hr).take (Blk.cells [x0,x1,x2,x3,x4,x5]::Blk.cells [b]::Blk.cells [d]::Hr).length=exZ::Blk.cells [.i a]::Blk.cells [.i c]::Hr:=by simp
 refine⟨Nat.le_refl _,?_,ht⟩
 show blksUnder _ (List.take _ (exZ::Blk.cells [.i a]::Blk.cells [.i c]::Hr))=true
 rw[ht]
 exact hb
theorem closeE_none(H:Heap)(hb:blksUnder H.length H=true):
  DSound Tryz.prog 26 [.ref 0 0,.ref 1 0,.ref 2 0] H none (fun H3=>H3=H):=by
 refine DSound.of (tab:=tab) Tryz.func26 (by kernel_rfl) rfl rfl rfl rfl ?_
 repeat' (first|refine wkb ?_|(apply TO.ne_nil_nifc;exact rfl;exact rfl;kernel_rfl)|refine Then.normal ?_|fail)
 exact⟨Nat.le_refl _,by rw[List.take_of_length_le (Nat.le_refl _)];exact hb,List.take_of_length_le (Nat.le_refl _)⟩
theorem we4{G Q1 Q2:Prop}{f:FuncId}{cargs:List SV}{v pv:SV}{c:Int}{Hc H1:Heap}(hs:Sound Tryz.prog f cargs Hc (Err c v pv H1))(k1:Q1)(k2:Q2)(h:Sound Tryz.prog f cargs Hc (Err c v pv H1)->Hold Q1->Hold Q2->G:=by
  intro hs k1 k2
  (apply Go.TL.TO.callE [3] hs;exact rfl;exact rfl;exact rfl;(repeat' (first|exact trivial|exact Go.TL.Le.refl _|refine And.intro ?_ ?_|exact Go.TL.Le.any _|exact Go.TL.Le.nil _|exact Go.TL.Le.own _ _ _|refine Go.TL.Le.tree rfl ?_|exact Go.TL.TLe.refl _|exact Go.TL.TLe.nil _|refine Go.TL.TLe.ags ?_|fail));exact rfl;exact Hands.one rfl rfl;exact rfl;exact rfl;exact rfl;exact rfl;exact k1.p;exact k2.p)):G:=h hs ⟨k1⟩ ⟨k2⟩
def exprP(es:List En)(s:Str):Ex×Int×Int:=
 if(scan s).2.2≠0 then(noE,(scan s).2.1,(scan s).2.2) else
 match (rdr (scan s).1 es).expr 0 with
 | .er k c=>(noE,placeOf (scan s).1 s.length k,c)
 | .ok e j=>if j<(scan s).1.length then(noE,placeOf (scan s).1 s.length j,5) else if exprX es e=0 then(e,0,0) else(noE,0,exprX es e)
theorem noET:exT noE= .ag [T.i 0,T.i 0,T.i 0,T.i 0,T.s [],T.sl 6 []]:=by
 unfold noE
 rw[exT_mkE _ _ _ _ _ _ rfl rfl rfl rfl]
 rfl
theorem thD_ret{P:Program}{n:Nat}{c:Code}{K KD:TK}{gf:FuncId}{cv:List SV}{env:Env}{H:Heap}(h:K .ret env H):ThenD P n c K gf cv KD .ret env H:=h
theorem thD_normal{P:Program}{n:Nat}{c:Code}{K KD:TK}{gf:FuncId}{cv:List SV}{env:Env}{H:Heap}(h:TD P n c env H K gf cv KD):ThenD P n c K gf cv KD .normal env H:=h
attribute [local irreducible] TD ThenD
set_option maxHeartbeats 4000000 in
theorem exprE_sound (es:List En) (s:Str) (hb:s.length≤1000000) (hk:TkOk (scan s).1) (hes:EsOk es) (hw:∀e j,(rdr (scan s).1 es).expr 0= .ok e j->wEx e≤1000000000):
  Pure Tryz.prog 11 [.t (ensT es),.s s] (.tup [.t (exT (exprP es s).1),.i (exprP es s).2.1,.i (exprP es s).2.2]):=by
 have hz:exprP es s=exprP es s:=rfl
 conv at hz=>rhs;unfold exprP
 generalize exprP es s=z at hz⊢
 by_cases hs:(scan s).2.2≠0
 ·have h1:=begin_er s es hs
  rw[if_pos hs]at hz
  subst hz
  try simp only[noET]
  refine Sound.ofDefer tabOk Tryz.func11 (by kernel_rfl) rfl rfl (gf:=26) (cv:=[.ref 0 0,.ref 1 0,.ref 2 0]) ?_
  refine TD.seq ?_
  repeat' (first|refine wkb ?_|refine wk ?_|fail)
  refine thD_normal ?_
  refine TD.seq ?_
  repeat' (first|refine wkb ?_|refine wv h1 ?_|refine wk ?_|exact wkc|intro hc|refine wk2 ?_ ?_|fail)
  refine thD_normal ?_
  refine TD.seq ?_
  repeat' (first|refine wkb ?_|exact wkc|intro hc|refine wk2 ?_ ?_|fail)
  refine rgX 0 (g:=True) [(.t (.ag [T.i 0,T.i 0,T.i 0,T.i 0,T.s [],.v (.slice none 0 0)]),0,0),(.i (scan s).2.1,0,1),(.i (scan s).2.2,0,2),(.any,1,0),(.any,1,0),(.any,1,0)] [[exZ,.cells [.i (scan s).2.1],.cells [.i (scan s).2.2]],[exZ,.cells [.i (scan s).2.1],.cells [.i (scan s).2.2]],[exZ,.cells [.i (scan s).2.1],.cells [.i (scan s).2.2]],[exZ,.cells [.i (scan s).2.1],.cells [.i (scan s).2.2]]] ?_ (fun _=>?_)
  ·repeat' (first|refine wkt ?_|exact trivial|exact⟨⟨rfl,rfl⟩,trivial⟩|refine And.intro (fun env=>?_) ?_|refine And.intro ?_ ?_|refine wk ?_|exact wkc|intro hc|refine wk2 ?_ ?_|fail)
   done
  ·repeat' (first|refine wkb ?_|fail)
   refine thD_ret ?_
   exact wkr
 have h1:=begin_ok s es (by simpa using hs) hb
 rw[if_neg hs]at hz
 clear hs
 generalize (scan s).1=l at*
 obtain⟨hx,hin⟩:=exprP_sound l s.length es hk hes 0 (Nat.zero_le _)
 cases hq:(rdr l es).expr 0 with
 | er k c=>
   rw[hq]at hx hin hz
   have hc0:=hin.2
   replace hx:=hx.er
   simp only[PR.vl]at hx
   simp only at hz
   subst hz
   try simp only[noET]
   refine Sound.ofDefer tabOk Tryz.func11 (by kernel_rfl) rfl rfl (gf:=26) (cv:=[.ref 0 0,.ref 1 0,.ref 2 0]) ?_
   refine TD.seq ?_
   repeat' (first|refine wkb ?_|refine wk ?_|fail)
   refine thD_normal ?_
   refine TD.seq ?_
   refine wk ?_
   repeat' (first|refine wkb ?_|(apply TO.callR h1;exact rfl;exact rfl;exact rfl;exact⟨Le.refl _,Le.refl _,trivial⟩;exact rfl;exact rfl)|refine wk ?_|exact wkc|intro hc|refine wk2 ?_ ?_|fail)
   refine thD_normal ?_
   refine TD.seq ?_
   repeat' (first|refine wkb ?_|refine wk ?_|exact wkc|intro hc|refine wk2 ?_ ?_|fail)
   refine thD_normal ?_
   refine TD.defer (tz:=0) rfl rfl ?_
   repeat' (first|refine wkb ?_|refine wk ?_|refine we4 hx ?_ ?_|exact wkc|intro hc|refine wk2 ?_ ?_|fail)
   exact⟨_,closeE_some _ _ _ _ _ _ _ _ _ _ _ rfl,fun H3 h=>by subst h;exact wkr⟩
 | ok e j=>
   have hwe:=hw e j hq
   rw[hq]at hx hin hz
   obtain⟨_,hj⟩:=hin
   replace hx:=hx.ok
   simp only[PR.vl]at hx
   simp only at hz
   have hfi:=finish_sound l s.length es j hk.len hj
   by_cases hlt:j<l.length
   ·rw[if_pos hlt]at hz hfi
    subst hz
    try simp only[noET]
    replace hfi:=hfi.er
    rw[exT_eq e]at hx
    unfold exC at hx
    refine Sound.ofDefer tabOk Tryz.func11 (by kernel_rfl) rfl rfl (gf:=26) (cv:=[.ref 0 0,.ref 1 0,.ref 2 0]) ?_
    refine TD.seq ?_
    repeat' (first|refine wkb ?_|refine wk ?_|fail)
    refine thD_normal ?_
    refine TD.seq ?_
    refine wk ?_
    repeat' (first|refine wkb ?_|(apply TO.callR h1;exact rfl;exact rfl;exact rfl;exact⟨Le.refl _,Le.refl _,trivial⟩;exact rfl;exact rfl)|refine wk ?_|exact wkc|intro hc|refine wk2 ?_ ?_|fail)
    refine thD_normal ?_
    refine TD.seq ?_
    repeat' (first|refine wkb ?_|refine wk ?_|exact wkc|intro hc|refine wk2 ?_ ?_|fail)
    refine thD_normal ?_
    refine TD.defer (tz:=0) rfl rfl ?_
    repeat' (first|refine wkb ?_|refine wk ?_|refine we4 hx ?_ ?_|refine we4 hfi ?_ ?_|exact wkc|intro hc|refine wk2 ?_ ?_|fail)
    exact⟨_,closeE_some _ _ _ _ _ _ _ _ _ _ _ rfl,fun H3 h=>by subst h;exact wkr⟩
   ·rw[if_neg hlt]at hz hfi
    replace hfi:=hfi.ok
    have hsh:=exprX_sound es e hwe
    generalize exprX es e=x at*
    rw[exT_eq e]at hx hsh
    unfold exC at hx hsh
    by_cases hx0:x=0
    ·rw[if_pos hx0]at hz
     subst hx0
     subst hz
     try simp only[noET]
     try simp only
     rw[exT_eq e]
     unfold exC
     refine Sound.ofDefer tabOk Tryz.func11 (by kernel_rfl) rfl rfl (gf:=26) (cv:=[.ref 0 0,.ref 1 0,.ref 2 0]) ?_
     refine TD.seq ?_
     repeat' (first|refine wkb ?_|refine wk ?_|fail)
     refine thD_normal ?_
     refine TD.seq ?_
     refine wk ?_
     repeat' (first|refine wkb ?_|(apply TO.callR h1;exact rfl;exact rfl;exact rfl;exact⟨Le.refl _,Le.refl _,trivial⟩;exact rfl;exact rfl)|refine wk ?_|exact wkc|intro hc|refine wk2 ?_ ?_|fail)
     refine thD_normal ?_
     refine TD.seq ?_
     repeat' (first|refine wkb ?_|refine wk ?_|exact wkc|intro hc|refine wk2 ?_ ?_|fail)
     refine thD_normal ?_
     refine TD.defer (tz:=0) rfl rfl ?_
     repeat' (first|refine wkb ?_|refine wk ?_|refine we4 hx ?_ ?_|refine we4 hfi ?_ ?_|refine wv hsh ?_|exact wkc|intro hc|refine wk2 ?_ ?_|fail)
     exact⟨_,closeE_none _ rfl,fun H3 h=>by subst h;exact wkr⟩
    ·rw[if_neg hx0]at hz
     subst hz
     try simp only[noET]
     refine Sound.ofDefer tabOk Tryz.func11 (by kernel_rfl) rfl rfl (gf:=26) (cv:=[.ref 0 0,.ref 1 0,.ref 2 0]) ?_
     refine TD.seq ?_
     repeat' (first|refine wkb ?_|refine wk ?_|fail)
     refine thD_normal ?_
     refine TD.seq ?_
     refine wk ?_
     repeat' (first|refine wkb ?_|(apply TO.callR h1;exact rfl;exact rfl;exact rfl;exact⟨Le.refl _,Le.refl _,trivial⟩;exact rfl;exact rfl)|refine wk ?_|exact wkc|intro hc|refine wk2 ?_ ?_|fail)
     refine thD_normal ?_
     refine TD.seq ?_
     repeat' (first|refine wkb ?_|refine wk ?_|exact wkc|intro hc|refine wk2 ?_ ?_|fail)
     refine thD_normal ?_
     refine TD.defer (tz:=0) rfl rfl ?_
     repeat' (first|refine wkb ?_|refine wk ?_|refine we4 hx ?_ ?_|refine we4 hfi ?_ ?_|refine wv hsh ?_|exact wkc|intro hc|refine wk2 ?_ ?_|fail)
     exact⟨_,closeE_none _ rfl,fun H3 h=>by subst h;exact wkr⟩
end Go.Proofs.YtlfdkafebmdoiaaGreat
namespace Go.Proofs.YtlfdkafebmdoiaaGreat
open Go Go.TL
attribute [local irreducible] TR TO Then InBlock RetK Sound LoopK Kf GG ThenL
abbrev prZ0:Blk:=.cells [.t (.v (.slice none 0 0)),.t (.v (.slice none 0 0))]
abbrev noP:Prog:=⟨[],[]⟩
theorem noPT:progT noP= .ag [.sl 2 [],.sl 8 []]:=rfl
theorem progTC(p:Prog):progT p= .ag [.sl 2 (p.enums.map enT),.sl 8 (p.nodes.map nodT)]:=rfl
def progR(s:Str):Prog×Int×Int:=
 if(scan s).2.2≠0 then(noP,(scan s).2.1,(scan s).2.2) else
 match (rdr (scan s).1 []).program 0 with
 | .er k c=>(noP,placeOf (scan s).1 s.length k,c)
 | .ok p j=>if j<(scan s).1.length then(noP,placeOf (scan s).1 s.length j,5) else if(shapeX p).2=0 then(p,0,0) else(noP,0,(shapeX p).2)
theorem closeP_some(a c:Int)(x0 x1 b d:SV)(Hr:Heap)(hb:blksUnder (Hr.length+3) Hr=true):
  DSound Tryz.prog 18 [.ref 0 0,.ref 1 0,.ref 2 0] (.cells [x0,x1]:: .cells [b]:: .cells [d]::Hr) (some (.ifc 102 (.t (.ag [T.i a,T.i c])))) (fun H3=>H3=prZ0:: .cells [.i a]:: .cells [.i c]::Hr):=by
 have hc:=caught_sound a c
 refine DSound.of (tab:=tab) Tryz.func18 (by kernel_rfl) rfl rfl rfl rfl ?_
 repeat' (first|refine wkb ?_|(apply TO.ne_nil_ifc;exact rfl;exact rfl;kernel_rfl)|refine Then.normal ?_|refine wv hc ?_|fail)
 have ht:(prZ0::Blk.cells [.i a]::Blk.cells [.i c]::Hr).take (Blk.cells [x0,x1]::Blk.cells [b]::Blk.cells [d]::Hr).length=prZ0::Blk.cells [.i a]::Blk.cells [.i c]::Hr:=by simp
 refine⟨Nat.le_refl _,?_,ht⟩
 show blksUnder _ (List.take _ (prZ0::Blk.cells [.i a]::Blk.cells [.i c]::Hr))=true
 rw[ht]
 exact hb
theorem closeP_none(H:Heap)(hb:blksUnder H.length H=true):
  DSound Tryz.prog 18 [.ref 0 0,.ref 1 0,.ref 2 0] H none (fun H3=>H3=H):=by
 refine DSound.of (tab:=tab) Tryz.func18 (by kernel_rfl) rfl rfl rfl rfl ?_
 repeat' (first|refine wkb ?_|(apply TO.ne_nil_nifc;exact rfl;exact rfl;kernel_rfl)|refine Then.normal ?_|fail)
 exact⟨Nat.le_refl _,by rw[List.take_of_length_le (Nat.le_refl _)];exact hb,List.take_of_length_le (Nat.le_refl _)⟩
attribute [local irreducible] TD ThenD
set_option maxHeartbeats 8000000 in
theorem progE_sound (s:Str) (hb:s.length≤1000000) (hk:TkOk (scan s).1) (hP:RdS (scan s).1 s.length [] 20 [] 0 ((rdr (scan s).1 []).program 0) (.t (progT (((rdr (scan s).1 []).program 0).vl ⟨[],[]⟩)))/\InR (scan s).1.length 0 ((rdr (scan s).1 []).program 0))
  (hw:∀p j,(rdr (scan s).1 []).program 0= .ok p j->(T.ag (progC p)).w≤1000000000):
  Pure Tryz.prog 9 [.s s] (.tup [.t (progT (progR s).1),.i (progR s).2.1,.i (progR s).2.2]):=by
 have hz:progR s=progR s:=rfl
 conv at hz=>rhs;unfold progR
 generalize progR s=z at hz⊢
 by_cases hs:(scan s).2.2≠0
 ·have h1:=begin_er s [] hs
  rw[if_pos hs]at hz
  subst hz
  simp only[noPT]
  refine Sound.ofDefer tabOk Tryz.func9 (by kernel_rfl) rfl rfl (gf:=18) (cv:=[.ref 0 0,.ref 1 0,.ref 2 0]) ?_
  refine TD.seq ?_
  repeat' (first|refine wkb ?_|refine wk ?_|fail)
  refine thD_normal ?_
  refine TD.seq ?_
  repeat' (first|refine wkb ?_|refine wv h1 ?_|refine wk ?_|exact wkc|intro hc|refine wk2 ?_ ?_|fail)
  refine thD_normal ?_
  refine TD.seq ?_
  repeat' (first|refine wkb ?_|exact wkc|intro hc|refine wk2 ?_ ?_|fail)
  refine rgX 0 (g:=True) [(.t (.ag [.v (.slice none 0 0),.v (.slice none 0 0)]),0,0),(.i (scan s).2.1,0,1),(.i (scan s).2.2,0,2),(.any,1,0),(.any,1,0),(.any,1,0)] [[prZ0,.cells [.i (scan s).2.1],.cells [.i (scan s).2.2]],[prZ0,.cells [.i (scan s).2.1],.cells [.i (scan s).2.2]],[prZ0,.cells [.i (scan s).2.1],.cells [.i (scan s).2.2]],[prZ0,.cells [.i (scan s).2.1],.cells [.i (scan s).2.2]]] ?_ (fun _=>?_)
  ·repeat' (first|refine wkt ?_|exact trivial|exact⟨⟨rfl,rfl⟩,trivial⟩|refine And.intro (fun env=>?_) ?_|refine And.intro ?_ ?_|refine wk ?_|exact wkc|intro hc|refine wk2 ?_ ?_|fail)
   done
  ·repeat' (first|refine wkb ?_|fail)
   refine thD_ret ?_
   exact wkr
 have h1:=begin_ok s [] (by simpa using hs) hb
 rw[if_neg hs]at hz
 clear hs
 obtain⟨hx,hin⟩:=hP
 generalize (scan s).1=l at*
 cases hq:(rdr l []).program 0 with
 | er k c=>
   rw[hq]at hx hin hz
   have hc0:=hin.2
   replace hx:=hx.er
   simp only[PR.vl]at hx
   simp only at hz
   subst hz
   simp only[noPT]
   refine Sound.ofDefer tabOk Tryz.func9 (by kernel_rfl) rfl rfl (gf:=18) (cv:=[.ref 0 0,.ref 1 0,.ref 2 0]) ?_
   refine TD.seq ?_
   repeat' (first|refine wkb ?_|refine wk ?_|fail)
   refine thD_normal ?_
   refine TD.seq ?_
   refine wk ?_
   repeat' (first|refine wkb ?_|(apply TO.callR h1;exact rfl;exact rfl;exact rfl;exact⟨Le.refl _,Le.nil _,trivial⟩;exact rfl;exact rfl)|refine wk ?_|exact wkc|intro hc|refine wk2 ?_ ?_|fail)
   refine thD_normal ?_
   refine TD.seq ?_
   repeat' (first|refine wkb ?_|refine wk ?_|exact wkc|intro hc|refine wk2 ?_ ?_|fail)
   refine thD_normal ?_
   refine TD.defer (tz:=0) rfl rfl ?_
   repeat' (first|refine wkb ?_|refine wk ?_|refine we4 hx ?_ ?_|exact wkc|intro hc|refine wk2 ?_ ?_|fail)
   exact⟨_,closeP_some _ _ _ _ _ _ _ rfl,fun H3 h=>by subst h;exact wkr⟩
 | ok p j=>
   have hwe:=hw p j hq
   rw[hq]at hx hin hz
   obtain⟨_,hj⟩:=hin
   replace hx:=hx.ok
   simp only[PR.vl]at hx
   simp only at hz
   have hfi:=finish_sound l s.length [] j hk.len hj
   rw[progTC p]at hx
   by_cases hlt:j<l.length
   ·rw[if_pos hlt]at hz hfi
    subst hz
    simp only[noPT]
    replace hfi:=hfi.er
    refine Sound.ofDefer tabOk Tryz.func9 (by kernel_rfl) rfl rfl (gf:=18) (cv:=[.ref 0 0,.ref 1 0,.ref 2 0]) ?_
    refine TD.seq ?_
    repeat' (first|refine wkb ?_|refine wk ?_|fail)
    refine thD_normal ?_
    refine TD.seq ?_
    refine wk ?_
    repeat' (first|refine wkb ?_|(apply TO.callR h1;exact rfl;exact rfl;exact rfl;exact⟨Le.refl _,Le.nil _,trivial⟩;exact rfl;exact rfl)|refine wk ?_|exact wkc|intro hc|refine wk2 ?_ ?_|fail)
    refine thD_normal ?_
    refine TD.seq ?_
    repeat' (first|refine wkb ?_|refine wk ?_|exact wkc|intro hc|refine wk2 ?_ ?_|fail)
    refine thD_normal ?_
    refine TD.defer (tz:=0) rfl rfl ?_
    repeat' (first|refine wkb ?_|refine wk ?_|refine we4 hx ?_ ?_|refine we4 hfi ?_ ?_|exact wkc|intro hc|refine wk2 ?_ ?_|fail)
    exact⟨_,closeP_some _ _ _ _ _ _ _ rfl,fun H3 h=>by subst h;exact wkr⟩
   ·rw[if_neg hlt]at hz hfi
    replace hfi:=hfi.ok
    have hsh:Pure Tryz.prog 10 [.t (.ag [.sl 2 (p.enums.map enT),.sl 8 (p.nodes.map nodT)])] _:=shapeX_sound p hwe
    generalize shapeX p=x at*
    obtain⟨xw,xe⟩:=x
    simp only at hsh hz
    by_cases hx0:xe=0
    ·rw[if_pos hx0]at hz
     subst hx0
     subst hz
     simp only[progTC]
     refine Sound.ofDefer tabOk Tryz.func9 (by kernel_rfl) rfl rfl (gf:=18) (cv:=[.ref 0 0,.ref 1 0,.ref 2 0]) ?_
     refine TD.seq ?_
     repeat' (first|refine wkb ?_|refine wk ?_|fail)
     refine thD_normal ?_
     refine TD.seq ?_
     refine wk ?_
     repeat' (first|refine wkb ?_|(apply TO.callR h1;exact rfl;exact rfl;exact rfl;exact⟨Le.refl _,Le.nil _,trivial⟩;exact rfl;exact rfl)|refine wk ?_|exact wkc|intro hc|refine wk2 ?_ ?_|fail)
     refine thD_normal ?_
     refine TD.seq ?_
     repeat' (first|refine wkb ?_|refine wk ?_|exact wkc|intro hc|refine wk2 ?_ ?_|fail)
     refine thD_normal ?_
     refine TD.defer (tz:=0) rfl rfl ?_
     repeat' (first|refine wkb ?_|refine wk ?_|refine we4 hx ?_ ?_|refine we4 hfi ?_ ?_|refine wv hsh ?_|exact wkc|intro hc|refine wk2 ?_ ?_|fail)
     exact⟨_,closeP_none _ rfl,fun H3 h=>by subst h;exact wkr⟩
    ·rw[if_neg hx0]at hz
     subst hz
     simp only[noPT]
     refine Sound.ofDefer tabOk Tryz.func9 (by kernel_rfl) rfl rfl (gf:=18) (cv:=[.ref 0 0,.ref 1 0,.ref 2 0]) ?_
     refine TD.seq ?_
     repeat' (first|refine wkb ?_|refine wk ?_|fail)
     refine thD_normal ?_
     refine TD.seq ?_
     refine wk ?_
     repeat' (first|refine wkb ?_|(apply TO.callR h1;exact rfl;exact rfl;exact rfl;exact⟨Le.refl _,Le.nil _,trivial⟩;exact rfl;exact rfl)|refine wk ?_|exact wkc|intro hc|refine wk2 ?_ ?_|fail)
     refine thD_normal ?_
     refine TD.seq ?_
     repeat' (first|refine wkb ?_|refine wk ?_|exact wkc|intro hc|refine wk2 ?_ ?_|fail)
     refine thD_normal ?_
     refine TD.defer (tz:=0) rfl rfl ?_
     repeat' (first|refine wkb ?_|refine wk ?_|refine we4 hx ?_ ?_|refine we4 hfi ?_ ?_|refine wv hsh ?_|exact wkc|intro hc|refine wk2 ?_ ?_|fail)
     exact⟨_,closeP_none _ rfl,fun H3 h=>by subst h;exact wkr⟩
end Go.Proofs.YtlfdkafebmdoiaaGreat
