import Derived.Test.YtcbhlhmebbkgnaaGreatPk13
import Derived.Test.YtcbhlhmebbkgnaaGreatPk14
import Derived.Test.YtcbhlhmebbkgnaaGreatPk22
import Derived.Test.YtcbhlhmebbkgnaaGreatPk23
import Derived.Test.YtcbhlhmebbkgnaaGreatPk24
import Derived.Test.YtcbhlhmebbkgnaaGreatPk28
import Derived.Test.YtcbhlhmebbkgnaaGreatPk30
set_option linter.unusedSimpArgs false
set_option linter.unusedVariables false
namespace Go.Proofs.YtcbhlhmebbkgnaaGreat
open Go Go.TL
attribute [local irreducible] TR TO Then zaw RetK Sound zab Kf GG zaZ
theorem zmZ(w:Plc)(l:List Ex)(hl:l.length≤1000000000)(ih:∀x∈l,Pure Tryz.prog 58 [.t (.ag (zav w.p)),.i w.node.1,.t (zac w.env),.t (exT x),.b true] (.tup [.t (za5 (resT w true x).1),.i (resT w true x).2])):
  Pure Tryz.prog 89 [.t (.ag (zav w.p)),.i w.node.1,.t (zac w.env),.t (.sl 6 (l.map exT))] (.tup [.t (za5 (heads (l.map (resT w true))).1),.i (heads (l.map (resT w true))).2]):=by
 have hml:(l.map exT).length=l.length:=List.length_map _
 have hR:∀x,(resT w true x).2=0->(resT w true x).1.length=1:=fun x=>zn5
 generalize resT w true=R at ih hR⊢
 unfold zav at*
 refine so Tryz.func89 ?_
 repeat' (first|refine wu ?_|exact wkc|intro hc|refine wk2 ?_ ?_|fail)
 refine TR.tail 1 10 rfl ?_
 refine TR.zal l.length (fun k=>(heads ((l.take k).map R)).2=0) (fun k=>[(1,.i w.node.1),(2,.t (zac w.env)),(3,.t (.sl 6 (l.map exT))),(4,.cp [.sl 2 (w.p.enums.map enT),zag w.p.nodes] 0),(10,.sl 1 (((heads ((l.take k).map R)).1).map T.i) 0),(11,.i k)])
  (fun k=>[.tail (((heads ((l.take k).map R)).1).map T.i).length]) rfl (fun k hlt ha=>?_) (fun ha=>?_) ⟨rfl,rfl,rfl,rfl,rfl,rfl,trivial⟩
 ·have hx:=zbd hlt
  have hs:=ih l[k] (List.getElem_mem hlt)
  have hr:=hR l[k]
  have htk:heads ((l.take (k+1)).map R)=if(R l[k]).2≠0 then([],(R l[k]).2) else((heads ((l.take k).map R)).1++[(R l[k]).1.headD 0],0):=by
   rw[zaG hlt,List.map_append,zcS,if_neg (by simpa using ha)]
   by_cases h:(R l[k]).2=0
   ·simp[heads,h]
   ·simp[heads,h]
  have hbad:(R l[k]).2≠0->heads (l.map R)=([],(R l[k]).2):=by
   intro h
   conv=>lhs;rw[<-List.take_append_drop (k+1) l]
   rw[List.map_append,zcS,htk,if_pos h]
   simp[h]
  have hlen:(heads ((l.take k).map R)).1.length=k:=by rw[zeE _ ha];simp;omega
  have hlenm:((heads ((l.take k).map R)).1.map T.i).length=k:=by rw[List.length_map,hlen]
  rw[zaA]at hs
  generalize R l[k]=r at*
  obtain⟨rl,re⟩:=r
  simp only at hs hr htk hbad
  generalize l[k]=x at*
  unfold exC at hx hs
  generalize (heads ((l.take k).map R)).1=acc at*
  by_cases he:re=0
  ·obtain⟨t0,rfl⟩:∃t0,rl=[t0]:=by
    have:=hr he
    match rl,this with
    | [a],_=>exact⟨a,rfl⟩
   subst he
   rw[if_neg (by simp)]at htk
   repeat' (first|refine wkt ?_|fail)
   refine wk2 ?_ ?_
   ·intro hc
    first|refine wu ?_
    refine TR.zc5 (envF:=?envF) (HF:=[.tail (acc.map T.i).length]) [(.t (.ag [.sl 2 (w.p.enums.map enT),zag w.p.nodes]),false),(.i w.node.1,false),(.t (zac w.env),false),(.t (.sl 6 (l.map exT)),false),(.i k,false),(.cp [T.n x.kind,T.n x.op,T.n x.t,T.n x.v,.s x.name,.sl 6 (x.args.map exT)] 0,false),(.t (.ag [T.n x.kind,T.n x.op,T.n x.t,T.n x.v,.s x.name,.sl 6 (x.args.map exT)]),false),(.tup [.t (za5 [t0]),.i 0],true),(.tup [.t (za5 [t0]),.i 0],false),(.t (za5 [t0]),false),(.i 0,false),(.t (za5 [t0]),false),(.i 0,false)] [[.tail (acc.map T.i).length],[.tail (acc.map T.i).length]] hmix ?hB ?h0 ?hp ?hF ?hE ?hK
    case hB=>(dsimp only[List.map];decide +kernel)
    case h0=>exact rfl
    case hF=>exact rfl
    case hE=>exact rfl
    case hp=>repeat' (first|refine wu ?_|exact wkc|intro hc|refine wk2 ?_ ?_|refine wv hs ?_|exact trivial|exact And.intro rfl rfl|refine And.intro (fun H env=>?_) ?_|refine And.intro (fun env=>?_) ?_|fail)
    case hK=>
     repeat' (first|refine wu ?_|exact wkc|intro hc|refine wk2 ?_ ?_|refine wv hs ?_|exact trivial|exact And.intro rfl rfl|refine And.intro (fun H env=>?_) ?_|refine And.intro (fun env=>?_) ?_|fail)
     exact zab.zak hlt (by rw[htk]) (by rw[htk,List.map_append];exact⟨rfl,rfl,rfl,rfl,rfl,rfl,trivial⟩) (by rw[htk,List.map_append,List.length_append];rfl)
   ·exact wkc
  ·rw[hbad he]
   repeat' (first|refine wkt ?_|fail)
   refine wk2 ?_ ?_
   ·intro hc
    first|refine wu ?_
    refine TR.zc5 (envF:=?envG) (HF:=[.tail (acc.map T.i).length]) [(.t (.ag [.sl 2 (w.p.enums.map enT),zag w.p.nodes]),false),(.i w.node.1,false),(.t (zac w.env),false),(.t (.sl 6 (l.map exT)),false),(.i k,false),(.cp [T.n x.kind,T.n x.op,T.n x.t,T.n x.v,.s x.name,.sl 6 (x.args.map exT)] 0,false),(.t (.ag [T.n x.kind,T.n x.op,T.n x.t,T.n x.v,.s x.name,.sl 6 (x.args.map exT)]),false),(.tup [.t (za5 rl),.i re],true),(.tup [.t (za5 rl),.i re],false),(.t (za5 rl),false),(.i re,false),(.t (za5 rl),false),(.i re,false)] [[.tail (acc.map T.i).length],[.tail (acc.map T.i).length]] hmix ?hB ?h0 ?hp ?hF ?hE ?hK
    case hB=>(dsimp only[List.map];decide +kernel)
    case h0=>exact rfl
    case hF=>exact rfl
    case hE=>exact rfl
    case hp=>repeat' (first|refine wu ?_|exact wkc|intro hc|refine wk2 ?_ ?_|refine wv hs ?_|exact trivial|exact And.intro rfl rfl|refine And.intro (fun H env=>?_) ?_|refine And.intro (fun env=>?_) ?_|fail)
    case hK=>
     repeat' (first|refine wu ?_|exact wkc|intro hc|refine wk2 ?_ ?_|refine wv hs ?_|exact trivial|exact And.intro rfl rfl|refine And.intro (fun H env=>?_) ?_|refine And.intro (fun env=>?_) ?_|fail)
     exact wkr
   ·exact wkc
 ·rw[List.take_length]at ha⊢
  rw[ha]
  repeat' (first|refine wu ?_|exact wkc|intro hc|refine wk2 ?_ ?_|fail)
  exact wkr
theorem zm7(w:Plc)(hw:zbp w)(e:Ex)(l:List Int)(inner:Bool)(hv:e.v.1=0\/e.v.1=1):Pure Tryz.prog 94 [.t (.ag (zav w.p)),.i w.node.1,.t (.ag (exC e)),.t (za5 l),.b inner] (.tup [.t (za5 (zfc w e l inner).1),.i (zfc w e l inner).2]):=by
 have hs:=znN w.p e.name (by have:=hw.nodes;omega)
 unfold zfc
 unfold zav at*
 cases hf:(zgr w.p e.name).2 with
 | false=>
   rw[hf]at hs
   rw[if_pos (.inl rfl)]
   unfold exC
   refine so Tryz.func94 ?_
   repeat' (first|refine wu ?_|exact wkc|intro hc|refine wk2 ?_ ?_|refine wv hs ?_|fail)
   exact wkr
 | true=>
   obtain⟨k,hk,hf'⟩:=zjJ hf
   rw[hf']at hs⊢
   simp only[Bool.true_eq_false,false_or,Int.toNat_natCast,List.getElem?_eq_getElem hk]at hs⊢
   have hn:=hw.each w.p.nodes[k] (List.getElem_mem hk)
   have hx:=zb7 hk
   generalize w.p.nodes[k]=n at hn hx⊢
   have hmi:(n.ins.map zah).length=n.ins.length:=List.length_map _
   have hmo:(n.outs.map zah).length=n.outs.length:=List.length_map _
   have hml:(l.map T.i).length=l.length:=List.length_map _
   have hi:=hn.ins
   have ho:=hn.outs
   unfold exC
   unfold nodC at hx
   by_cases hnode:w.node.1≤(k:Int)
   ·rw[if_pos hnode]
    refine so Tryz.func94 ?_
    repeat' (first|refine wu ?_|exact wkc|intro hc|refine wk2 ?_ ?_|refine wv hs ?_|fail)
    exact wkr
   ·rw[if_neg hnode]
    by_cases h9:(l.length:Int)≠n.ins.length+e.v.1\/(inner=true/\n.outs.length≠1)
    ·rw[if_pos h9]
     cases inner
     all_goals
      refine so Tryz.func94 ?_
      repeat' (first|refine wu ?_|exact wkc|intro hc|refine wk2 ?_ ?_|refine wv hs ?_|fail)
      all_goals first
       | exact wkr
       | (exfalso;simp at h9;omega)
    ·rw[if_neg h9]
     have h91:(l.length:Int)=n.ins.length+e.v.1:=by
      refine Classical.byContradiction fun h=>h9 (.inl h)
     have h92:inner=true->n.outs.length=1:=fun h=>Classical.byContradiction fun h'=>h9 (.inr ⟨h,h'⟩)
     clear h9
     have hlb:l.length≤100000001:=by omega
     cases inner
     all_goals
      try replace h92:=h92 rfl
      refine so Tryz.func94 ?_
      repeat' (first|refine wu ?_|exact wkc|intro hc|refine wk2 ?_ ?_|refine wv hs ?_|fail)
      refine TR.zal n.ins.length (fun j=>zjk n.ins l=zjk (n.ins.drop j) (l.drop j)) (fun j=>[(3,.t (za5 l)),(7,.cp [T.n e.kind,T.n e.op,T.n e.t,T.n e.v,.s e.name,.sl 6 (e.args.map exT)] 0),(14,.cp (nodC n) 0),(15,.i j)]) (fun _=>[]) rfl (fun j hlt ha=>?_) (fun ha=>?_) ⟨rfl,rfl,rfl,rfl,trivial⟩
      ·have hj:j<l.length:=by omega
       have hx1:=zbh hlt
       have hx2:=zdM hj
       rw[List.drop_eq_getElem_cons hlt,List.drop_eq_getElem_cons hj,zjk]at ha
       generalize n.ins[j]=d at hx1 ha
       generalize l[j]=t at hx2 ha
       unfold zb4 at hx1
       unfold nodC
       rw[ha]
       repeat' (first|refine wu ?_|exact wkc|intro hc|refine wk2 ?_ ?_|fail)
       ·rw[if_pos (by simp[hc])]
        exact wkr
       ·refine zab.zhs 0 hlt ?_ rfl rfl rfl rfl rfl
        simp[show t=d.ty.1 from by simpa using hc]
      ·rw[List.drop_of_length_le (Nat.le_refl _)]at ha
       rw[show zjk n.ins l=true from by rw[ha];rfl]
       simp only[Bool.true_eq_false,if_false]
       unfold nodC
       have hgo:e.v.1=1->(l.map T.i)[((n.ins.map zah).length:Int).toNat]?=some (T.i (l.getD n.ins.length 0)):=by
        intro h1
        have:n.ins.length<l.length:=by omega
        rw[hmi]
        simp[this]
       by_cases hb:e.v.1=1/\l.getD n.ins.length 0≠1
       ·rw[if_pos hb]
        have hxx:=hgo hb.1
        repeat' (first|refine wu ?_|exact wkc|intro hc|refine wk2 ?_ ?_|fail)
        all_goals first
         | exact wkr
         | (exfalso;exact hb.2 (by simpa using hc))
         | (exfalso;exact hc hb.1)
       ·rw[if_neg hb]
        have hl1:e.v.1=1->l.getD n.ins.length 0=1:=fun h1=>Classical.byContradiction fun h=>hb ⟨h1,h⟩
        by_cases hv1:e.v.1=1
        all_goals
         try(have hxx:=hgo hv1;rw[hl1 hv1]at hxx)
         clear hgo hb hl1
         repeat' (first|refine wu ?_|exact wkc|intro hc|refine wk2 ?_ ?_|fail)
         refine TR.tail 1 16 rfl ?_
         refine TR.zal n.outs.length (fun _=>True) (fun j=>[(14,.cp (nodC n) 0),(16,.sl 1 (((n.outs.take j).map (·.ty.1)).map T.i) 0),(17,.i j)]) (fun j=>[.tail (((n.outs.take j).map (·.ty.1)).map T.i).length]) trivial (fun j hlt _=>?_) (fun _=>?_) ⟨rfl,rfl,rfl,trivial⟩
         ·have hx1:=zbh hlt
          have htk:((n.outs.take (j+1)).map (·.ty.1)).map T.i=((n.outs.take j).map (·.ty.1)).map T.i++[T.i n.outs[j].ty.1]:=by rw[zaG hlt];simp only[List.map_append,List.map_cons,List.map_nil]
          have hmk:(((n.outs.take j).map (·.ty.1)).map T.i).length≤100000000:=by simp;omega
          generalize n.outs[j]=d at hx1 htk
          unfold zb4 at hx1
          unfold nodC
          repeat' (first|refine wu ?_|exact wkc|intro hc|refine wk2 ?_ ?_|fail)
          exact zab.zak hlt trivial (by rw[htk];exact⟨rfl,rfl,rfl,trivial⟩) (by rw[htk,List.length_append];rfl)
         ·rw[List.take_length]
          unfold nodC
          repeat' (first|refine wu ?_|exact wkc|intro hc|refine wk2 ?_ ?_|fail)
          exact wkr
abbrev zd0 (w:Plc)(e:Ex)(l:List Int)(f:Int):Prop:=Pure Tryz.prog 89 [.t (.ag (zav w.p)),.i w.node.1,.t (zac w.env),.t (.sl 6 (e.args.map exT))] (.tup [.t (za5 l),.i f])
abbrev ResR (w:Plc)(e:Ex)(inner:Bool)(r:List Int×Int):Prop:=Pure Tryz.prog 58 [.t (.ag (zav w.p)),.i w.node.1,.t (zac w.env),.t (.ag (exC e)),.b inner] (.tup [.t (za5 r.1),.i r.2])
theorem zrY{w:Plc}{e:Ex}{l:List Int}{f:Int}(hf:f≠0)(hargs:zd0 w e l f)(inner:Bool):ResR w e inner ([],f):=by
 unfold zd0 ResR zav exC at*
 refine so Tryz.func58 ?_
 repeat' (first|refine wu ?_|exact wkc|intro hc|refine wk2 ?_ ?_|refine wv hargs ?_|fail)
 exact wkr
theorem zuH{w:Plc}{e:Ex}{l:List Int}(hargs:zd0 w e l 0)(h1:e.kind.1=1)(inner:Bool):ResR w e inner ([e.t.1],0):=by
 unfold zd0 ResR zav exC at*
 refine so Tryz.func58 ?_
 repeat' (first|refine wu ?_|exact wkc|intro hc|refine wk2 ?_ ?_|refine wv hargs ?_|fail)
 exact wkr
theorem ztR{w:Plc}{e:Ex}{l:List Int}(hargs:zd0 w e l 0)(h1:e.kind.1=11)(inner:Bool):ResR w e inner ([1],0):=by
 unfold zd0 ResR zav exC at*
 refine so Tryz.func58 ?_
 repeat' (first|refine wu ?_|exact wkc|intro hc|refine wk2 ?_ ?_|refine wv hargs ?_|fail)
 exact wkr
theorem zuk{w:Plc}{e:Ex}{l:List Int}(hargs:zd0 w e l 0)(h2:e.kind.1=2)(hw:zbp w)(inner:Bool):ResR w e inner (if(zbu w.env e.name).2=false then([],6) else([(zbu w.env e.name).1],0)):=by
 have hto:=zfv w.env e.name hw.env
 unfold zd0 ResR zav exC at*
 cases hb:(zbu w.env e.name).2
 all_goals
  rw[hb]at hto
  simp only[Bool.true_eq_false,if_true,if_false]
  refine so Tryz.func58 ?_
  repeat' (first|refine wu ?_|exact wkc|intro hc|refine wk2 ?_ ?_|refine wv hargs ?_|refine wv hto ?_|fail)
  exact wkr
theorem zuV{w:Plc}{e:Ex}{l:List Int}(hargs:zd0 w e l 0)(h3:e.kind.1=3)(inner:Bool):ResR w e inner (if(zaK e.op.1 l).2≠0 then([],(zaK e.op.1 l).2) else([(zaK e.op.1 l).1],0)):=by
 have hres:=zkv e.op.1 l
 unfold zd0 ResR zav exC at*
 by_cases hr:(zaK e.op.1 l).2=0
 ·rw[if_neg (by simp[hr])]
  rw[hr]at hres
  refine so Tryz.func58 ?_
  repeat' (first|refine wu ?_|exact wkc|intro hc|refine wk2 ?_ ?_|refine wv hargs ?_|refine wv hres ?_|fail)
  exact wkr
 ·rw[if_pos hr]
  generalize (zaK e.op.1 l).2=f at hr hres⊢
  refine so Tryz.func58 ?_
  repeat' (first|refine wu ?_|exact wkc|intro hc|refine wk2 ?_ ?_|refine wv hargs ?_|refine wv hres ?_|fail)
  exact wkr
theorem zut{w:Plc}{e:Ex}{l:List Int}(hargs:zd0 w e l 0)(h4:e.kind.1=4)(hll:l.length=3)(inner:Bool):ResR w e inner (if l.getD 0 0≠1\/l.getD 1 0≠l.getD 2 0 then([],10) else([l.getD 1 0],0)):=by
 unfold zd0 ResR zav exC at*
 obtain⟨a,b,c,rfl⟩:∃a b c,l=[a,b,c]:=by
  match l,hll with
  | [a,b,c],_=>exact⟨a,b,c,rfl⟩
 clear hll
 simp only[List.getD_cons_zero,List.getD_cons_succ]
 by_cases hr:a≠1\/b≠c
 ·rw[if_pos hr]
  refine so Tryz.func58 ?_
  repeat' (first|refine wu ?_|exact wkc|intro hc|refine wk2 ?_ ?_|refine wv hargs ?_|(apply TO.zhT zam (b:=1);(iterate 8 exact rfl);omega)|(apply TO.ssl2 zam (a:=1) (b:=2);(iterate 9 exact rfl);omega;omega)|fail)
  all_goals first
   | exact wkr
   | (exfalso;grind)
 ·rw[if_neg hr]
  obtain⟨rfl,rfl⟩:a=1/\b=c:=by
   refine⟨Classical.byContradiction fun h=>hr (.inl h),Classical.byContradiction fun h=>hr (.inr h)⟩
  have hl3:([1,b,b].map T.i).length=3:=rfl
  refine so Tryz.func58 ?_
  repeat' (first|refine wu ?_|exact wkc|intro hc|refine wk2 ?_ ?_|refine wv hargs ?_|(apply TO.zhT zam (b:=1);(iterate 8 exact rfl);omega)|(apply TO.ssl2 zam (a:=1) (b:=2);(iterate 9 exact rfl);omega;omega)|fail)
  all_goals first
   | exact wkr
   | (exfalso;simp_all;done)
   | (exfalso;grind)
theorem ztQ{w:Plc}{e:Ex}{l:List Int}(hargs:zd0 w e l 0)(h5:e.kind.1=5)(hll:l.length=1)(inner:Bool):ResR w e inner (if zex l=false then([],10) else([l.headD 0],0)):=by
 unfold zd0 ResR zav exC at*
 obtain⟨a,rfl⟩:∃a,l=[a]:=by
  match l,hll with
  | [a],_=>exact⟨a,rfl⟩
 clear hll
 rw[if_neg (by simp[zex])]
 simp only[List.headD_cons]
 refine so Tryz.func58 ?_
 repeat' (first|refine wu ?_|exact wkc|intro hc|refine wk2 ?_ ?_|refine wv hargs ?_|fail)
 exact wkr
theorem zuX{w:Plc}{e:Ex}{l:List Int}(hargs:zd0 w e l 0)(h5:e.kind.1=6\/e.kind.1=7)(hll:1≤l.length)(hlb:l.length≤1000000000)(inner:Bool):ResR w e inner (if zex l=false then([],10) else([l.headD 0],0)):=by
 have heqf:=fun a r (h:l=a::r)=>zhp a r (by have:=hlb;rw[h]at this;simp at this;omega)
 unfold zd0 ResR zav exC at*
 obtain⟨a,r,rfl⟩:∃a r,l=a::r:=by
  match l,hll with
  | a::r,_=>exact⟨a,r,rfl⟩
 have heq:=heqf a r rfl
 have hl1:((a::r).map T.i).length=r.length+1:=by simp
 clear hll heqf
 simp only[List.headD_cons]
 cases hq:zex (a::r)
 all_goals
  rw[hq]at heq
  simp only[Bool.true_eq_false,if_true,if_false]
  rcases h5 with h5|h5
  all_goals
   refine so Tryz.func58 ?_
   repeat' (first|refine wu ?_|exact wkc|intro hc|refine wk2 ?_ ?_|refine wv hargs ?_|refine wv heq ?_|(apply TO.zhT zam (b:=1);(iterate 8 exact rfl);omega)|(apply TO.ssl2 zam (a:=1) (b:=2);(iterate 9 exact rfl);omega;omega)|fail)
   exact wkr
theorem zub{w:Plc}{e:Ex}{l:List Int}(hargs:zd0 w e l 0)(h8:e.kind.1=8\/e.kind.1=9)(hw:zbp w)(hll:1≤l.length)(hlb:l.length≤1000000000)(inner:Bool):ResR w e inner (if zdq w.env e.name e.t.1≠0 then([],zdq w.env e.name e.t.1) else if zex l=false then([],10) else([l.headD 0],0)):=by
 have heqf:=fun a r (h:l=a::r)=>zhp a r (by have:=hlb;rw[h]at this;simp at this;omega)
 have hck:=zit w.env e.name e.t.1 hw.env
 unfold zd0 ResR zav exC at*
 obtain⟨a,r,rfl⟩:∃a r,l=a::r:=by
  match l,hll with
  | a::r,_=>exact⟨a,r,rfl⟩
 have heq:=heqf a r rfl
 have hl1:((a::r).map T.i).length=r.length+1:=by simp
 clear hll heqf
 simp only[List.headD_cons]
 generalize zdq w.env e.name e.t.1=c at hck⊢
 by_cases hc0:c=0
 ·subst hc0
  rw[if_neg (by simp)]
  cases hq:zex (a::r)
  all_goals
   rw[hq]at heq
   simp only[Bool.true_eq_false,if_true,if_false]
   rcases h8 with h5|h5
   all_goals
    refine so Tryz.func58 ?_
    repeat' (first|refine wu ?_|exact wkc|intro hc|refine wk2 ?_ ?_|refine wv hargs ?_|refine wv heq ?_|refine wv hck ?_|(apply TO.zhT zam (b:=1);(iterate 8 exact rfl);omega)|(apply TO.ssl2 zam (a:=1) (b:=2);(iterate 9 exact rfl);omega;omega)|fail)
    exact wkr
 ·rw[if_pos hc0]
  rcases h8 with h5|h5
  all_goals
   refine so Tryz.func58 ?_
   repeat' (first|refine wu ?_|exact wkc|intro hc|refine wk2 ?_ ?_|refine wv hargs ?_|refine wv hck ?_|(apply TO.zhT zam (b:=1);(iterate 8 exact rfl);omega)|(apply TO.ssl2 zam (a:=1) (b:=2);(iterate 9 exact rfl);omega;omega)|fail)
   exact wkr
theorem ztM{w:Plc}{e:Ex}{l:List Int}(hargs:zd0 w e l 0)(h10:e.kind.1=10)(hw:zbp w)(hv:e.v.1=0\/e.v.1=1)(inner:Bool):ResR w e inner (zfc w e l inner):=by
 have hcal:=zm7 w hw e l inner hv
 unfold zd0 ResR zav exC at*
 refine so Tryz.func58 ?_
 repeat' (first|refine wu ?_|exact wkc|intro hc|refine wk2 ?_ ?_|refine wv hargs ?_|refine wv hcal ?_|fail)
 exact wkr
theorem zh9(w:Plc)(hw:zbp w):∀(m:Nat) (e:Ex),wEx e≤m->wEx e≤1000000000->(∀x∈flat e,Arity x)->∀inner,Pure Tryz.prog 58 [.t (.ag (zav w.p)),.i w.node.1,.t (zac w.env),.t (exT e),.b inner] (.tup [.t (za5 (resT w inner e).1),.i (resT w inner e).2]):=by
 intro m
 induction m with
 | zero=>intro e he;have:=zaI e;omega
 | succ m ih0=>
   intro e he hb har inner
   have hlb:=zcq e
   have hA:Arity e:=har e (by rw[za2];exact List.mem_cons_self)
   have hargs:=zmZ w e.args (by omega) (fun x hx=>ih0 x (by have:=zaE hx;omega) (by have:=zaE hx;omega) (fun y hy=>har y (by
    rw[za2]
    refine List.mem_cons_of_mem _ ?_
    unfold flats
    exact List.mem_flatten.2 ⟨flat x,List.mem_map.2 ⟨x,hx,rfl⟩,hy⟩)) true)
   clear ih0 har
   have hhl:(heads (e.args.map (resT w true))).2=0->(heads (e.args.map (resT w true))).1.length=e.args.length:=fun h=>by rw[zeE _ h];simp
   rw[zfq]
   generalize heads (e.args.map (resT w true))=h at*
   obtain⟨l,f⟩:=h
   simp only at*
   rw[zaA]
   by_cases hf:f=0
   ·subst hf
    rw[if_neg (by simp)]
    have hll:=hhl rfl
    unfold zm2
    have hk:=hA.kind
    have h5':=hA.k5
    have h7':=hA.more
    by_cases h1:e.kind.1=1
    ·rw[if_pos h1]
     exact zuH hargs h1 inner
    rw[if_neg h1]
    by_cases h11:e.kind.1=11
    ·rw[if_pos h11]
     exact ztR hargs h11 inner
    rw[if_neg h11]
    by_cases h2:e.kind.1=2
    ·rw[if_pos h2]
     exact zuk hargs h2 hw inner
    rw[if_neg h2]
    by_cases h3:e.kind.1=3
    ·rw[if_pos h3]
     exact zuV hargs h3 inner
    rw[if_neg h3]
    by_cases h4:e.kind.1=4
    ·rw[if_pos h4]
     exact zut hargs h4 (by rw[hll];exact hA.k4 h4) inner
    rw[if_neg h4]
    by_cases h5:e.kind.1=5\/e.kind.1=6\/e.kind.1=7
    ·rw[if_pos h5]
     by_cases h55:e.kind.1=5
     ·exact ztQ hargs h55 (by rw[hll];exact h5' h55) inner
     exact zuX hargs (by omega) (by rcases Decidable.em (e.kind.1=5)with h|h <;> omega) (by omega) inner
    rw[if_neg h5]
    by_cases h8:e.kind.1=8\/e.kind.1=9
    ·rw[if_pos h8]
     exact zub hargs h8 hw (by rw[hll];have:=h7' (by omega) (by omega);omega) (by omega) inner
    rw[if_neg h8]
    exact ztM hargs (by omega) hw (hA.v (by omega)) inner
   ·rw[if_pos hf]
    exact zrY hf hargs inner
theorem zdP(w:Plc)(hw:zbp w)(e:Ex)(hb:wEx e≤1000000000)(har:∀x∈flat e,Arity x)(inner:Bool):Pure Tryz.prog 58 [.t (.ag (zav w.p)),.i w.node.1,.t (zac w.env),.t (exT e),.b inner] (.tup [.t (za5 (resT w inner e).1),.i (resT w inner e).2]):=zh9 w hw (wEx e) e (Nat.le_refl _) hb har inner
theorem zez(w:Plc)(hw:zbp w)(c:Ex)(hc:ExT c):Pure Tryz.prog 114 [.t (.ag (zav w.p)),.i w.node.1,.t (zac w.env),.t (.ag (exC c))] (.i (zbS w c)):=by
 have hs:=zdP w hw c hc.1 hc.2 false
 unfold zbS
 generalize resT w false c=r at*
 obtain⟨l,f⟩:=r
 rw[zaA]at hs
 simp only at*
 have hml:(l.map T.i).length=l.length:=List.length_map _
 have hx0:0<l.length->(l.map T.i)[(0:Int).toNat]?=some (T.i (l.headD 0)):=by cases l with|nil=>simp|cons a l=>intro _;rfl
 generalize l.headD 0=t0 at*
 unfold exC zav at*
 clear hc
 by_cases hl:l.length=1
 ·have hx:=hx0 (by omega)
  refine so Tryz.func114 ?_
  repeat' (first|refine wu ?_|exact wkc|intro hc|refine wk2 ?_ ?_|refine wv hs ?_|fail)
  all_goals(refine RetK.pure rfl (Le.of_eq ?_) rfl;refine congrArg (fun z=>SV.t (T.v (Value.int IntKind.i64 z))) ?_;clear hs;grind)
 ·refine so Tryz.func114 ?_
  repeat' (first|refine wu ?_|exact wkc|intro hc|refine wk2 ?_ ?_|refine wv hs ?_|fail)
  all_goals(refine RetK.pure rfl (Le.of_eq ?_) rfl;refine congrArg (fun z=>SV.t (T.v (Value.int IntKind.i64 z))) ?_;clear hs;grind)
theorem zgh(w:Plc)(hw:zbp w)(l:List Tran)(hl:l.length≤1000000000)(hc:∀t∈l,ExT t.cond):Pure Tryz.prog 166 [.t (.ag (zav w.p)),.i w.node.1,.t (zac w.env),.t (.sl 8 (l.map zat))] (.i (zaa (fun t:Tran=>zbS w t.cond) l)):=by
 have hml:(l.map zat).length=l.length:=List.length_map _
 have he:=fun(t:Tran) (ht:t∈l)=>zez w hw t.cond (hc t ht)
 unfold zav at*
 refine so Tryz.func166 ?_
 repeat' (first|refine wu ?_|exact wkc|intro hc|refine wk2 ?_ ?_|fail)
 refine TR.zal l.length (fun k=>zaa (fun t:Tran=>zbS w t.cond) (l.take k)=0) (fun k=>[(1,.i w.node.1),(2,.t (zac w.env)),(3,.t (.sl 8 (l.map zat))),(4,.cp [.sl 2 (w.p.enums.map enT),zag w.p.nodes] 0),(9,.i k)]) (fun _=>[]) rfl (fun k hlt hk=>?_) (fun hk=>?_)
 ·have hx:=zaX zat hlt
  have hi:=he _ (List.getElem_mem hlt)
  have htk:=zaU hlt hk
  have hat:=zan hlt hk
  generalize l[k]=t at*
  generalize zbS w t.cond=r at*
  unfold zat at hx
  unfold exC at hi
  repeat' (first|refine wkt ?_|refine wka ?_|refine rg [.t (.ag [.sl 2 (w.p.enums.map enT),zag w.p.nodes]),.i w.node.1,.t (zac w.env),.t (.sl 8 (l.map zat)),.i k,.cp [T.n t.cond.kind,T.n t.cond.op,T.n t.cond.t,T.n t.cond.v,.s t.cond.name,.sl 6 (t.cond.args.map exT),T.n t.to,.b t.resume] 0,.cp [T.n t.cond.kind,T.n t.cond.op,T.n t.cond.t,T.n t.cond.v,.s t.cond.name,.sl 6 (t.cond.args.map exT),T.n t.to,.b t.resume] 0,.t (.ag [T.n t.cond.kind,T.n t.cond.op,T.n t.cond.t,T.n t.cond.v,.s t.cond.name,.sl 6 (t.cond.args.map exT)]),.i r,.i r] ?_ ?_|refine wv hi ?_|exact trivial|exact And.intro rfl rfl|refine And.intro (fun H env=>?_) ?_|refine wk ?_|exact wkc|intro hc|refine wk2 ?_ ?_|fail)
  ·rw[hat hc];exact wkr
  ·exact zab.zak hlt (by rw[htk];exact Decidable.not_not.1 hc)
 ·rw[List.take_length]at hk
  rw[hk]
  repeat' (first|refine wu ?_|exact wkc|intro hc|refine wk2 ?_ ?_|fail)
  exact wkr
theorem ziD{α:Type}{g:α->Int}:∀ {l:List α},zaa g l=0->za9 g l=(0,0)
 | [],_=>rfl
 | x::l,h=>by
   rw[zaa]at h
   by_cases h0:g x=0
   ·rw[if_pos h0]at h
    rw[za9,if_pos h0,ziD h];rfl
   ·rw[if_neg h0]at h;exact absurd h h0
set_option maxHeartbeats 2000000 in
theorem ziX (w:Plc) (hw:zbp w) (l:List Equ) (hl:l.length≤1000000000) (hq:∀u∈l,u.left.length≤1000000000/\ExT u.right):Pure Tryz.prog 73 [.t (.ag (zav w.p)),.i w.node.1,.t (zac w.env),.t (.sl 7 (l.map equT))] (.tup [.i (za9 (eqnT w) l).1,.i (za9 (eqnT w) l).2]):=by
 have hml:(l.map equT).length=l.length:=List.length_map _
 have hs:=fun(u:Equ) (hu:u∈l)=>zdP w hw u.right (hq u hu).2.1 (hq u hu).2.2 false
 have hty:=fun s=>zfv w.env s hw.env
 unfold zav at*
 refine so Tryz.func73 ?_
 repeat' (first|refine wu ?_|exact wkc|intro hc|refine wk2 ?_ ?_|fail)
 refine TR.zal l.length (fun k=>zaa (eqnT w) (l.take k)=0) (fun k=>[(1,.i w.node.1),(2,.t (zac w.env)),(3,.t (.sl 7 (l.map equT))),(4,.cp [.sl 2 (w.p.enums.map enT),zag w.p.nodes] 0),(10,.i k)]) (fun _=>[]) rfl (fun k hlt hk=>?_) (fun hk=>?_)
 ·have hx:=zcP hlt
  have hi:=hs _ (List.getElem_mem hlt)
  have htk:=zaU hlt hk
  have hat:=zcQ hlt hk
  have hql:=(hq _ (List.getElem_mem hlt)).1
  generalize l[k]=u at*
  generalize hz:eqnT w u=z at*
  unfold eqnT at hz
  generalize resT w false u.right=r at*
  obtain⟨t,f⟩:=r
  simp only at hi hz
  have hmt:(t.map T.i).length=t.length:=List.length_map _
  have hmq:(u.left.map T.s).length=u.left.length:=List.length_map _
  rw[zaA]at hi
  unfold exC at hi
  unfold equC at hx
  generalize za9 (eqnT w) l=R at*
  clear hs hq
  repeat' (first|refine wkt ?_|refine wka ?_|refine rg [.t (.ag [.sl 2 (w.p.enums.map enT),zag w.p.nodes]),.i w.node.1,.t (zac w.env),.t (.sl 7 (l.map equT)),.i k,.cp [.sl 1 (u.left.map T.s),T.n u.right.kind,T.n u.right.op,T.n u.right.t,T.n u.right.v,.s u.right.name,.sl 6 (u.right.args.map exT)] 0,.cp [.sl 1 (u.left.map T.s),T.n u.right.kind,T.n u.right.op,T.n u.right.t,T.n u.right.v,.s u.right.name,.sl 6 (u.right.args.map exT)] 1,.t (.ag [T.n u.right.kind,T.n u.right.op,T.n u.right.t,T.n u.right.v,.s u.right.name,.sl 6 (u.right.args.map exT)]),.tup [.t (za5 t),.i f],.tup [.t (za5 t),.i f],.t (za5 t),.i f,.t (za5 t),.i f] ?_ ?_|refine wv hi ?_|exact trivial|exact And.intro rfl rfl|refine And.intro (fun H env=>?_) ?_|refine wk ?_|exact wkc|intro hc|refine wk2 ?_ ?_|fail)
  ·rw[if_pos hc]at hz
   subst hz
   rw[hat hc];exact wkr
  ·rename_i c1
   rw[if_neg c1,if_pos (by omega)]at hz
   subst hz
   rw[hat (by decide)];exact wkr
  ·rename_i c1
   have hll:t.length=u.left.length:=by omega
   rw[if_neg c1,if_neg (by omega)]at hz
   refine TR.zal t.length (fun j=>(u.left.take j).map (fun s=>(zbu w.env s).1)=t.take j) (fun j=>[(1,.i w.node.1),(2,.t (zac w.env)),(3,.t (.sl 7 (l.map equT))),(4,.cp [.sl 2 (w.p.enums.map enT),zag w.p.nodes] 0),(10,.i k),(11,.t (za5 t)),(13,.i j)]) (fun _=>[]) rfl (fun j hlj hj=>?_) (fun hj=>?_)
   ·have hy:=zfw (show j<u.left.length by omega)
    have hv:=zdM hlj
    have ht1:=zaG (l:=u.left) (show j<u.left.length by omega)
    have ht2:=zaG hlj
    have hty:=hty (u.left[j]'(by omega))
    have hne:(zbu w.env (u.left[j]'(by omega))).1≠t[j]->u.left.map (fun s=>(zbu w.env s).1)≠t:=fun h e=>h (by
     have:=congrArg (fun l=>l[j]?) e
     simp only[List.getElem?_map,List.getElem?_eq_getElem (show j<u.left.length by omega),List.getElem?_eq_getElem hlj,Option.map_some]at this
     exact Option.some.inj this)
    generalize u.left[j]'(by omega)=s at*
    generalize t[j]=v at*
    generalize hqq:(zbu w.env s).1=q1 at*
    generalize (zbu w.env s).2=q2 at*
    repeat' (first|refine wkt ?_|refine wka ?_|refine wv hty ?_|refine wk ?_|exact wkc|intro hc|refine wk2 ?_ ?_|fail)
    ·rw[if_neg (hne hc)]at hz
     subst hz
     rw[hat (by decide)];exact wkr
    ·refine zab.zak hlj ?_
     rw[ht1,ht2,List.map_append,hj]
     simp only[List.map_cons,List.map_nil]
     rw[hqq,Decidable.not_not.1 hc]
   ·rw[List.take_length,hll,List.take_length]at hj
    rw[if_pos hj]at hz
    repeat' (first|refine wkt ?_|refine wka ?_|refine wk ?_|exact wkc|intro hc|refine wk2 ?_ ?_|fail)
    exact zab.zak hlt (by rw[htk];exact hz.symm)
 ·rw[List.take_length]at hk
  rw[ziD hk]
  repeat' (first|refine wu ?_|exact wkc|intro hc|refine wk2 ?_ ?_|fail)
  exact wkr
end Go.Proofs.YtcbhlhmebbkgnaaGreat
namespace Go.Proofs.YtcbhlhmebbkgnaaGreat
open Go Go.TL
attribute [local irreducible] TR TO Then zaw RetK Sound zab Kf GG zaZ
attribute [local irreducible] zcj
set_option maxHeartbeats 4000000 in
theorem zlR:∀(k:Nat) (w:Plc),zbp w->∀(l:List Auto),l.length≤1000000000->(∀a∈l,zeo k a/\tyA k a/\(zaj a).w+w.env.length≤1000000000)->
  Pure Tryz.prog 113 [.t (.ag (zav w.p)),.i w.node.1,.t (zac w.env),.t (.sl 1 (l.map zaj))] (.i (zaa (zb9 k w) l)):=by
 intro k
 induction k with
 | zero=>
   intro w hw l hl ha
   obtain rfl:l=[]:=by
    cases l with
    | nil=>rfl
    | cons a l=>exact(ha a (by simp)).1.elim
   unfold zav
   refine so Tryz.func113 ?_
   repeat' (first|refine wu ?_|fail)
   refine TR.zal 0 (fun _=>True) (fun j=>[(3,.t (.sl 1 [])),(9,.i j)]) (fun _=>[]) trivial (fun j h _=>absurd h (Nat.not_lt_zero j)) (fun _=>?_)
   repeat' (first|refine wu ?_|exact wkc|intro hc|refine wk2 ?_ ?_|fail)
   exact wkr
 | succ k ih=>
   intro w hw l hl ha
   have hml:(l.map zaj).length=l.length:=List.length_map _
   unfold zav
   refine so Tryz.func113 ?_
   repeat' (first|refine wu ?_|fail)
   refine TR.zal l.length (fun j=>zaa (zb9 (k+1) w) (l.take j)=0) (fun j=>[(1,.i w.node.1),(2,.t (zac w.env)),(3,.t (.sl 1 (l.map zaj))),(4,.cp [.sl 2 (w.p.enums.map enT),zag w.p.nodes] 0),(9,.i j)]) (fun _=>[]) rfl (fun j hlj hj=>?_) (fun hj=>?_)
   ·have hx:=zdL hlj
    have htk:=zaU hlj hj
    have hat:=zan hlj hj
    obtain⟨hn,hty,hwa⟩:=ha _ (List.getElem_mem hlj)
    generalize l[j]=a at*
    have hwa2:=zdn a
    have hls:=zaq staT 6 a.states
    have hms:(a.states.map staT).length=a.states.length:=List.length_map _
    unfold zcg at hx
    rw[show zb9 (k+1) w a=zaa (stTy w (zb9 k)) a.states from rfl]at htk hat
    generalize zaa (zb9 (k+1) w) l=R at*
    repeat' (first|refine wu ?_|exact wkc|intro hc|refine wk2 ?_ ?_|fail)
    refine TR.zal a.states.length (fun i=>zaa (stTy w (zb9 k)) (a.states.take i)=0) (fun i=>[(1,.i w.node.1),(2,.t (zac w.env)),(3,.t (.sl 1 (l.map zaj))),(4,.cp [.sl 2 (w.p.enums.map enT),zag w.p.nodes] 0),(9,.i j),(10,.i i)]) (fun _=>[]) rfl (fun i hli hi=>?_) (fun hi=>?_)
    ·have hy:=zfK hli
     have htk2:=zaU hli hi
     have hat2:=zan hli hi
     have hwx:=zaC (f:=staT) (sz:=6) (List.getElem_mem hli)
     obtain⟨e1,e2,e3,e4⟩:=hty _ (List.getElem_mem hli)
     have hnb:=hn _ (List.getElem_mem hli)
     generalize a.states[i]=x at*
     have hws:=zfd x
     have b1:=zaq zah 3 x.locals
     have b2:=zaq equT 7 x.eqs
     have b3:=zaq zaj 1 x.autos
     have b4:=zaq zat 8 x.unl
     have b5:=zaq zat 8 x.unt
     have hdl:(zac x.locals).w=(T.sl 3 (x.locals.map zah)).w:=rfl
     have hwi:zbp ⟨w.p,w.node,x.locals++w.env⟩:=hw.more (by omega)
     have t1:=zgh w hw x.unl (by omega) e2
     have t2:=ziX ⟨w.p,w.node,x.locals++w.env⟩ hwi x.eqs (by omega) e1
     have t3:=ih ⟨w.p,w.node,x.locals++w.env⟩ hwi x.autos (by omega) (fun b hb=>⟨hnb b hb,e4 b hb,by
      have:=zaC (f:=zaj) (sz:=1) hb
      simp only[List.length_append];omega⟩)
     have t4:=zgh ⟨w.p,w.node,x.locals++w.env⟩ hwi x.unt (by omega) e3
     have hz:stTy w (zb9 k) x=orE (zaa (fun t:Tran=>zbS w t.cond) x.unl) (orE (zaa (eqnT ⟨w.p,w.node,x.locals++w.env⟩) x.eqs) (orE (zaa (zb9 k ⟨w.p,w.node,x.locals++w.env⟩) x.autos) (zaa (fun t:Tran=>zbS ⟨w.p,w.node,x.locals++w.env⟩ t.cond) x.unt))):=rfl
     rw[<-zbc (eqnT ⟨w.p,w.node,x.locals++w.env⟩)]at hz
     rw[show zac (x.locals++w.env)= .sl 3 (x.locals.map zah++w.env.map zah) from by simp[zac]]at t2 t3 t4
     generalize stTy w (zb9 k) x=z at*
     generalize zaa (fun t:Tran=>zbS w t.cond) x.unl=z1 at*
     generalize za9 (eqnT ⟨w.p,w.node,x.locals++w.env⟩) x.eqs=z2 at*
     generalize zaa (zb9 k ⟨w.p,w.node,x.locals++w.env⟩) x.autos=z3 at*
     generalize zaa (fun t:Tran=>zbS ⟨w.p,w.node,x.locals++w.env⟩ t.cond) x.unt=z4 at*
     obtain⟨z2a,z2⟩:=z2
     simp only at t2 hz
     unfold staC at hy
     unfold zav at t1 t2 t3 t4
     have m1:(x.locals.map zah).length=x.locals.length:=List.length_map _
     have m2:(w.env.map zah).length=w.env.length:=List.length_map _
     have hret:z≠0->R=z:=fun h=>by rw[hat2 h]at hat;exact hat h
     clear ih ha hat hat2 hwi e1 e2 e3 e4
     repeat' (first|refine wu ?_|fail)
     refine wk2 ?_ ?_ <;> intro hlt' <;> try(exfalso;omega)
     repeat' (first|refine wkt ?_|refine wv t1 ?_|refine wk ?_|fail)
     refine wk2 (fun hc=>?_) (fun hc=>?_)
     ·repeat' (first|refine wu ?_|fail)
      have hzz:z=z1:=by clear t1 t2 t3 t4;grind [orE]
      rw[hret (by rw[hzz];exact hc),hzz];exact wkr
     ·repeat' (first|(apply TO.ziR zam;(iterate 5 exact rfl))|(apply TO.zgR zam;(iterate 13 exact rfl);(first|omega|(simp only[List.length_map];omega));exact rfl)|refine TR.region ?_|(apply TO.go zam 1 true;exact rfl;(first|apply GG.to|apply GG.stop|apply GG.tr0|apply GG.tr|apply GG.ex))|(apply TR.go0 zam 1 true;exact rfl;(first|apply GG.to|apply GG.stop|apply GG.tr0|apply GG.tr|apply GG.ex))|(apply TR.go zam 1 true;exact rfl;(first|apply GG.to|apply GG.stop|apply GG.tr0|apply GG.tr|apply GG.ex))|(apply zc6.go zam 1 true;exact rfl;(first|apply GG.to|apply GG.stop|apply GG.tr0|apply GG.tr|apply GG.ex))|fail)
      repeat' (first|refine wkt ?_|refine wv t2 ?_|refine wv t3 ?_|refine wv t4 ?_|refine wk ?_|exact wkc|intro hc|refine wk2 ?_ ?_|fail)
      ·have hzz:z=z2:=by clear t1 t2 t3 t4;grind [orE]
       rw[hret (by rw[hzz];assumption),hzz];exact wkr
      ·have hzz:z=z3:=by clear t1 t2 t3 t4;grind [orE]
       rw[hret (by rw[hzz];assumption),hzz];exact wkr
      ·have hzz:z=z4:=by clear t1 t2 t3 t4;grind [orE]
       rw[hret (by rw[hzz];assumption),hzz];exact wkr
      ·have hzz:z=0:=by clear t1 t2 t3 t4;grind [orE]
       exact zab.zhs 0 hli (by rw[htk2];exact hzz) rfl rfl rfl rfl rfl
    ·rw[List.take_length]at hi
     repeat' (first|refine wu ?_|exact wkc|intro hc|refine wk2 ?_ ?_|fail)
     exact zab.zak hlj (by rw[htk];exact hi)
   ·rw[List.take_length]at hj
    rw[hj]
    repeat' (first|refine wu ?_|exact wkc|intro hc|refine wk2 ?_ ?_|fail)
    exact wkr
end Go.Proofs.YtcbhlhmebbkgnaaGreat
namespace Go.Proofs.YtcbhlhmebbkgnaaGreat
open Go Go.TL
attribute [local irreducible] TR TO Then zaw RetK Sound zab Kf GG zaZ
theorem zqC{k:Nat}(h:(k:Int)≤9223372036854775807):(nI k).1=k:=by unfold nI;rw[dif_pos h]
set_option maxHeartbeats 4000000 in
theorem zlI (w:Plc) (hw:zbp w) (k:Nat) (hk:k<w.p.nodes.length) (hnk:w.node.1=k) (hT:zuN w.p.nodes[k]) (hwe:w.env.length≤300000000):Pure Tryz.prog 74 [.t (.ag (zav w.p)),.i w.node.1,.t (zac w.env)] (.i (zgs w w.p.nodes[k])):=by
 have hx:=zb7 hk
 have hml:(w.p.nodes.map nodT).length=w.p.nodes.length:=List.length_map _
 generalize w.p.nodes[k]=n at*
 have hok2:=hT.w
 have hwn:=zdJ n
 have b2:=zaq zaj 1 n.autos
 have b3:=zaq exT 6 n.assume
 have b4:=zaq exT 6 n.ensure
 have m4:(n.assume.map exT).length=n.assume.length:=List.length_map _
 have m5:(n.ensure.map exT).length=n.ensure.length:=List.length_map _
 have hau:=zlR 3 w hw n.autos (by omega) (fun a ha=>⟨hT.nest a ha,hT.tyA a ha,by have:=zaC (f:=zaj) (sz:=1) ha;omega⟩)
 have has:=fun(e:Ex) (he:e∈n.assume)=>zez w hw e (hT.assume e he)
 have hen:=fun(e:Ex) (he:e∈n.ensure)=>zez w hw e (hT.ensure e he)
 have hz:zgs w n=orE (zaa (zb9 3 w) n.autos) (orE (zaa (zbS w) n.assume) (zaa (zbS w) n.ensure)):=rfl
 generalize zgs w n=z at*
 generalize zaa (zb9 3 w) n.autos=z1 at*
 unfold zav nodC at*
 rw[show(w.p.nodes.map nodT)[k]?=(w.p.nodes.map nodT)[w.node.1.toNat]? from by rw[hnk,Int.toNat_natCast]]at hx
 have hn1:0≤w.node.1:=by omega
 have hn2:w.node.1<w.p.nodes.length:=by omega
 refine so Tryz.func74 ?_
 repeat' (first|refine wkt ?_|refine wka ?_|refine wv hau ?_|refine wk ?_|exact wkc|intro hc|refine wk2 ?_ ?_|fail)
 ·have hzz:z=z1:=by clear hau has hen;grind [orE]
  rw[hzz];exact wkr
 have hz1:z1=0:=Decidable.not_not.1 hc
 subst hz1
 rw[show ∀b,orE 0 b=b from fun b=>if_pos rfl]at hz
 refine TR.zal n.assume.length (fun j=>zaa (zbS w) (n.assume.take j)=0) (fun j=>[(1,.i w.node.1),(2,.t (zac w.env)),(3,.cp [.sl 2 (w.p.enums.map enT),zag w.p.nodes] 0),(7,.cp (nC n) 0),(9,.i j)]) (fun _=>[]) rfl (fun j hlj hj=>?_) (fun hj=>?_)
 ·have hxj:=zbd hlj
  have hi:=has _ (List.getElem_mem hlj)
  have htk:=zaU hlj hj
  have hat:=zan hlj hj
  generalize n.assume[j]=x at*
  generalize zbS w x=r at*
  unfold exC at hxj hi
  clear hau has hen
  repeat' (first|refine wkt ?_|refine wka ?_|refine rg [.t (.ag [.sl 2 (w.p.enums.map enT),zag w.p.nodes]),.i w.node.1,.t (zac w.env),.cp (nC n) 6,.t (.sl 6 (n.assume.map exT)),.i j,.cp [T.n x.kind,T.n x.op,T.n x.t,T.n x.v,.s x.name,.sl 6 (x.args.map exT)] 0,.t (.ag [T.n x.kind,T.n x.op,T.n x.t,T.n x.v,.s x.name,.sl 6 (x.args.map exT)]),.i r,.i r] ?_ ?_|refine wv hi ?_|exact trivial|exact And.intro rfl rfl|refine And.intro (fun H env=>?_) ?_|refine And.intro (fun env=>?_) ?_|refine wk ?_|exact wkc|intro hc|refine wk2 ?_ ?_|fail)
  ·rw[hat hc]at hz
   have hzz:z=r:=by clear hi;grind [orE]
   rw[hzz];exact wkr
  ·exact zab.zak hlj (by rw[htk];exact Decidable.not_not.1 hc)
 rw[List.take_length]at hj
 rw[hj]at hz
 rw[show ∀b,orE 0 b=b from fun b=>if_pos rfl]at hz
 repeat' (first|refine wu ?_|exact wkc|intro hc|refine wk2 ?_ ?_|fail)
 refine TR.zal n.ensure.length (fun j=>zaa (zbS w) (n.ensure.take j)=0) (fun j=>[(1,.i w.node.1),(2,.t (zac w.env)),(3,.cp [.sl 2 (w.p.enums.map enT),zag w.p.nodes] 0),(7,.cp (nC n) 0),(10,.i j)]) (fun _=>[]) rfl (fun j hlj hj=>?_) (fun hj=>?_)
 ·have hxj:=zbd hlj
  have hi:=hen _ (List.getElem_mem hlj)
  have htk:=zaU hlj hj
  have hat:=zan hlj hj
  generalize n.ensure[j]=x at*
  generalize zbS w x=r at*
  unfold exC at hxj hi
  clear hau has hen
  repeat' (first|refine wkt ?_|refine wka ?_|refine rg [.t (.ag [.sl 2 (w.p.enums.map enT),zag w.p.nodes]),.i w.node.1,.t (zac w.env),.cp (nC n) 7,.t (.sl 6 (n.ensure.map exT)),.i j,.cp [T.n x.kind,T.n x.op,T.n x.t,T.n x.v,.s x.name,.sl 6 (x.args.map exT)] 0,.t (.ag [T.n x.kind,T.n x.op,T.n x.t,T.n x.v,.s x.name,.sl 6 (x.args.map exT)]),.i r,.i r] ?_ ?_|refine wv hi ?_|exact trivial|exact And.intro rfl rfl|refine And.intro (fun H env=>?_) ?_|refine And.intro (fun env=>?_) ?_|refine wk ?_|exact wkc|intro hc|refine wk2 ?_ ?_|fail)
  ·rw[hat hc]at hz
   have hzz:z=r:=by clear hi;grind [orE]
   rw[hzz];exact wkr
  ·exact zab.zak hlj (by rw[htk];exact Decidable.not_not.1 hc)
 rw[List.take_length]at hj
 rw[hj]at hz
 subst hz
 repeat' (first|refine wu ?_|exact wkc|intro hc|refine wk2 ?_ ?_|fail)
 exact wkr
def zgv(p:Prog):(Int×Int)×Int:=if(zfb p).2≠0 then zfb p else zcO p p.nodes.zipIdx
set_option maxHeartbeats 4000000 in
theorem zkG (p:Prog) (hw:(T.ag (zav p)).w≤100000000) (hsn:(zfb p).2=0->(zaR p).2=0):Pure Tryz.prog 46 [.t (.ag (zav p))] (.tup [.t (.ag [T.i (zgv p).1.1,T.i (zgv p).1.2]),.i (zgv p).2]):=by
 have hsh:=zko p hw
 obtain⟨hP,hln,hpl⟩:=zbr hw
 have hml:(p.nodes.map nodT).length=p.nodes.length:=List.length_map _
 have hzn:p.nodes.zipIdx.length=p.nodes.length:=by simp
 have hR:zgv p=zgv p:=rfl
 conv at hR=>rhs;unfold zgv
 generalize zgv p=R at hR⊢
 by_cases hs0:(zfb p).2≠0
 ·rw[if_pos hs0]at hR
  generalize zfb p=z at*
  obtain⟨⟨z1,z2⟩,z3⟩:=z
  simp only at hs0 hsh
  unfold zav at*
  refine so Tryz.func46 ?_
  repeat' (first|refine wkb ?_|refine wv hsh ?_|(apply TO.store zam;(iterate 6 exact rfl);exact lb;exact rfl;exact lb;exact rfl)|exact trivial|exact And.intro rfl rfl|refine And.intro (fun H env=>?_) ?_|refine And.intro (fun env=>?_) ?_|refine wk ?_|exact wkc|intro hc|refine wk2 ?_ ?_|fail)
  all_goals first
   | (exfalso;omega)
   | (rw[hR];exact wkr)
 rw[if_neg hs0]at hR
 have hs1:(zfb p).2=0:=Decidable.not_not.1 hs0
 have hty:=fun(n:Nod) (hn:n∈p.nodes)=>znl (zbL (hsn hs1) n hn) (hln n hn)
 rw[hs1]at hsh
 generalize (zfb p).1=z at*
 obtain⟨w1,w2⟩:=z
 have hvars:=fun(n:Nod) (hn:n∈p.nodes)=>zc8 n (hP.each n hn)
 have hvl:=fun(n:Nod) (hn:n∈p.nodes)=>(show(zao n).length≤300000000 by have:=(hP.each n hn);have h1:=this.ins;have h2:=this.outs;have h3:=this.locals;simp[zao];omega)
 have hwk:∀k (hk:k<p.nodes.length),zbp ⟨p,nI k,zao p.nodes[k]⟩:=fun k hk=>⟨hP.nodes,hP.each,by have:=hvl _ (List.getElem_mem hk);show(zao p.nodes[k]).length≤_;omega⟩
 have heqs:=fun k (hk:k<p.nodes.length)=>ziX ⟨p,nI k,zao p.nodes[k]⟩ (hwk k hk) p.nodes[k].eqs (by
  have h1:=(hty _ (List.getElem_mem hk)).w
  have h2:=zdJ p.nodes[k]
  have h3:=zaq equT 7 p.nodes[k].eqs
  omega) (hty _ (List.getElem_mem hk)).eqs
 have hrest:=fun k (hk:k<p.nodes.length)=>zlI ⟨p,nI k,zao p.nodes[k]⟩ (hwk k hk) k hk (zqC (by omega)) (hty _ (List.getElem_mem hk)) (hvl _ (List.getElem_mem hk))
 unfold zav at*
 simp only at hsh heqs hrest
 refine so Tryz.func46 ?_
 repeat' (first|refine wkb ?_|refine wv hsh ?_|(apply TO.store zam;(iterate 6 exact rfl);exact lb;exact rfl;exact lb;exact rfl)|exact trivial|exact And.intro rfl rfl|refine And.intro (fun H env=>?_) ?_|refine And.intro (fun env=>?_) ?_|refine wk ?_|exact wkc|intro hc|refine wk2 ?_ ?_|fail)
 all_goals try(exfalso;omega)
 refine TR.zal p.nodes.length (fun k=>zaa (fun x=>(nodG p x).2) (p.nodes.zipIdx.take k)=0) (fun k=>[(1,.cp [.sl 2 (p.enums.map enT),zag p.nodes] 0),(2,.ref 0 0),(6,.i k)]) (fun _=>[.cells [.i 0,.i 0],.cells [.i w1,.i w2]]) rfl (fun k hlt ha=>?_) (fun ha=>?_)
 ·have hx:=zb7 hlt
  have hzi:p.nodes.zipIdx[k]'(by rw[hzn];exact hlt)=(p.nodes[k],k):=by simp
  have g1:=zh2 p (by rw[hzn];exact hlt) ha
  have g2:=zai (f:=fun x=>(nodG p x).2) (by rw[hzn];exact hlt) ha
  rw[hzi]at g1 g2
  have hv:=hvars _ (List.getElem_mem hlt)
  have he:=heqs k hlt
  have hr:=hrest k hlt
  have hk63:(k:Int)≤9223372036854775807:=by omega
  rw[zqC hk63]at he hr
  have hng:nodG p (p.nodes[k],k)=if(za9 (eqnT ⟨p,nI k,zao p.nodes[k]⟩) p.nodes[k].eqs).2≠0 then za9 (eqnT ⟨p,nI k,zao p.nodes[k]⟩) p.nodes[k].eqs else(-1,zgs ⟨p,nI k,zao p.nodes[k]⟩ p.nodes[k]):=by
   rw[zbc];rfl
  generalize za9 (eqnT ⟨p,nI k,zao p.nodes[k]⟩) p.nodes[k].eqs=q at*
  generalize zgs ⟨p,nI k,zao p.nodes[k]⟩ p.nodes[k]=r at*
  generalize nodG p (p.nodes[k],k)=g at*
  generalize p.nodes[k]=n at*
  obtain⟨q1,q2⟩:=q
  simp only at he hng
  clear hvars heqs hrest hwk hty hvl hsh
  unfold nodC at hx hv
  repeat' (first|refine wkb ?_|refine rg [.t (.ag [.sl 2 (p.enums.map enT),zag p.nodes]),.i k,.t (zac (zao n)),.cp [.sl 2 (p.enums.map enT),zag p.nodes] 1,.t (zag p.nodes),.i k,.cp (nC n) 0,.cp (nC n) 4,.t (.sl 7 (n.eqs.map equT)),.tup [.i q1,.i q2],.tup [.i q1,.i q2],.i q1,.i q2,.i q1,.i q2] ?_ ?_|refine wv hv ?_|refine wv he ?_|refine wv hr ?_|(apply TO.store zam;(iterate 6 exact rfl);exact lb;exact rfl;exact lb;exact rfl)|exact trivial|exact And.intro rfl rfl|refine And.intro (fun H env=>?_) ?_|refine And.intro (fun env=>?_) ?_|refine wk ?_|exact wkc|intro hc|refine wk2 ?_ ?_|fail)
  ·rw[if_pos hc]at hng
   subst hng
   rw[g1 hc]at hR
   rw[hR];exact wkr
  ·rename_i c1
   rw[if_neg c1]at hng
   subst hng
   rw[g1 hc]at hR
   rw[hR];exact wkr
  ·rename_i c1
   rw[if_neg c1]at hng
   subst hng
   exact zab.zak hlt (g2 (Decidable.not_not.1 hc))
 ·rw[<-hzn,List.take_length]at ha
  rw[zfk p ha]at hR
  clear hvars heqs hrest hwk hty hvl hsh
  repeat' (first|refine wkb ?_|(apply TO.store zam;(iterate 6 exact rfl);exact lb;exact rfl;exact lb;exact rfl)|exact trivial|exact And.intro rfl rfl|refine And.intro (fun H env=>?_) ?_|refine And.intro (fun env=>?_) ?_|refine wk ?_|exact wkc|intro hc|refine wk2 ?_ ?_|fail)
  all_goals first
   | (exfalso;omega)
   | (rw[hR];exact wkr)
end Go.Proofs.YtcbhlhmebbkgnaaGreat
