import Derived.Test.YtcbhlhmebbkgnaaGreatPk8
import Derived.Test.YtcbhlhmebbkgnaaGreatPk12
import Derived.Test.YtcbhlhmebbkgnaaGreatPk13
set_option linter.unusedSimpArgs false
set_option linter.unusedVariables false
namespace Go.Proofs.YtcbhlhmebbkgnaaGreat
open Go Go.TL
attribute [local irreducible] TR TO Then zaw RetK Sound zab Kf GG zaZ
theorem zc8(n:Nod)(hn:zlW n):Pure Tryz.prog 33 [.t (.ag (nodC n))] (.t (zac (zao n))):=by
 have hi:=hn.ins
 have ho:=hn.outs
 have hl:=hn.locals
 have h1:(n.ins.map zah).length=n.ins.length:=List.length_map _
 have h2:(n.outs.map zah).length=n.outs.length:=List.length_map _
 have h3:(n.locals.map zah).length=n.locals.length:=List.length_map _
 have he:(zao n).map zah=[]++n.ins.map zah++n.outs.map zah++n.locals.map zah:=by simp[zao]
 unfold zac
 rw[he]
 unfold nodC
 refine so Tryz.func33 ?_
 repeat' (first|refine wkt ?_|fail)
 refine TR.zc5 (envF:=?envF) (HF:=[.tail ([]++n.ins.map zah++n.outs.map zah++n.locals.map zah).length]) [(.sl 3 [] 0,true),(.cp (nC n) 1,false),(.t (zac n.ins),false),(.sl 3 ([]++n.ins.map zah) 0,true),(.cp (nC n) 2,false),(.t (zac n.outs),false),(.sl 3 ([]++n.ins.map zah++n.outs.map zah) 0,true),(.cp (nC n) 3,false),(.t (zac n.locals),false),(.sl 3 ([]++n.ins.map zah++n.outs.map zah++n.locals.map zah) 0,true),(.sl 3 ([]++n.ins.map zah++n.outs.map zah++n.locals.map zah) 0,false)] [[],[.tail 0],[.tail ([]++n.ins.map zah).length],[.tail ([]++n.ins.map zah++n.outs.map zah).length],[.tail ([]++n.ins.map zah++n.outs.map zah++n.locals.map zah).length]] hmix ?hB ?h0 ?hp ?hF ?hE ?hK
 case hB=>(dsimp only[List.map];decide +kernel)
 case h0=>exact rfl
 case hF=>exact rfl
 case hE=>exact rfl
 case hp=>
  repeat' (first|(apply TO.ziR zam;(iterate 5 exact rfl))|refine wu ?_|exact trivial|exact And.intro rfl rfl|(refine And.intro rfl ?_;simp[Nat.add_assoc];done)|refine And.intro (fun H env=>?_) ?_|refine And.intro (fun env=>?_) ?_|fail)
  done
 case hK=>
  repeat' (first|refine wu ?_|exact wkc|intro hc|refine wk2 ?_ ?_|fail)
  exact wkr
def heads:List (List Int×Int)->List Int×Int
 | []=>([],0)
 | x::r=>if x.2≠0 then([],x.2) else if(heads r).2≠0 then([],(heads r).2) else(x.1.headD 0::(heads r).1,0)
def zm2(w:Plc)(e:Ex)(l:List Int)(inner:Bool):List Int×Int:=
 if e.kind.1=1 then([e.t.1],0)
 else if e.kind.1=11 then([1],0)
 else if e.kind.1=2 then(if(zbu w.env e.name).2=false then([],6) else([(zbu w.env e.name).1],0))
 else if e.kind.1=3 then(if(zaK e.op.1 l).2≠0 then([],(zaK e.op.1 l).2) else([(zaK e.op.1 l).1],0))
 else if e.kind.1=4 then(if l.getD 0 0≠1\/l.getD 1 0≠l.getD 2 0 then([],10) else([l.getD 1 0],0))
 else if e.kind.1=5\/e.kind.1=6\/e.kind.1=7 then(if zex l=false then([],10) else([l.headD 0],0))
 else if e.kind.1=8\/e.kind.1=9 then(if zdq w.env e.name e.t.1≠0 then([],zdq w.env e.name e.t.1) else if zex l=false then([],10) else([l.headD 0],0))
 else zfc w e l inner
def resT(w:Plc)(inner:Bool):Ex->List Int×Int
 | .mk k o t v n l=>
   if(heads (l.attach.map fun x=>resT w true x.1)).2≠0 then([],(heads (l.attach.map fun x=>resT w true x.1)).2)
   else zm2 w (.mk k o t v n l) (heads (l.attach.map fun x=>resT w true x.1)).1 inner
decreasing_by
 all_goals
  have:=List.sizeOf_lt_of_mem x.2
  simp;omega
theorem zfq(w:Plc)(inner:Bool)(e:Ex):resT w inner e=if(heads (e.args.map (resT w true))).2≠0 then([],(heads (e.args.map (resT w true))).2) else zm2 w e (heads (e.args.map (resT w true))).1 inner:=by
 cases e with
 | mk k o t v n l=>
 rw[resT]
 have h:l.attach.map (fun x=>resT w true x.1)=l.map (resT w true):=by simp
 rw[h]
 rfl
structure Arity (e:Ex):Prop where
 kind:1≤e.kind.1/\e.kind.1≤11
 k4:e.kind.1=4->e.args.length=3
 k5:e.kind.1=5->e.args.length=1
 more:6≤e.kind.1->e.kind.1≤9->1≤e.args.length
 v:e.kind.1=10->e.v.1=0\/e.v.1=1
theorem zrU{e:Ex}(h:oneX e=0):Arity e:=by
 unfold oneX at h
 rw[znj _ _ _ _ _ _ (by omega)]at h
 have hf:zeS e.kind.1 e.op.1 e.t.1 e.v.1 e.name e.args.length=true:=by
  cases hq:zeS e.kind.1 e.op.1 e.t.1 e.v.1 e.name e.args.length with
  | true=>rfl
  | false=>rw[hq]at h;simp at h;split at h <;> simp at h
 clear h
 unfold zeS at hf
 split at hf
 ·cases hf
 rename_i h1
 have ha:zgy e.kind.1 e.op.1 e.t.1 e.v.1 e.args.length=true:=by
  cases hq:zgy e.kind.1 e.op.1 e.t.1 e.v.1 e.args.length with
  | true=>rfl
  | false=>exact absurd (.inr (.inr hq)) h1
 unfold zgy at ha
 refine⟨by omega,fun hk=>?_,fun hk=>?_,fun hk1 hk2=>?_,fun hk=>?_⟩
 ·rw[hk]at ha;simp at ha;omega
 ·rw[hk]at ha;simp at ha;omega
 ·have:e.kind.1=6\/e.kind.1=7\/e.kind.1=8\/e.kind.1=9:=by omega
  rcases this with hk|hk|hk|hk <;> rw[hk]at ha <;> simp at ha
  ·omega
  ·omega
  ·omega
  ·split at ha <;> omega
 ·rw[hk]at hf
  simp at hf
  grind
theorem zp0{w:Plc}{e:Ex}{l:List Int}(h:(zfc w e l true).2=0):(zfc w e l true).1.length=1:=by
 unfold zfc at*
 split at h
 ·simp at h
 ·rename_i h1
  rw[if_neg h1]
  split at h
  ·simp at h
  ·rename_i n hn
   split at h
   ·simp at h
   ·rename_i h2
    rw[if_neg h2]
    split at h
    ·simp at h
    ·rename_i h3
     rw[if_neg h3]
     split at h
     ·simp at h
     ·rename_i h4
      rw[if_neg h4]
      simp at h2⊢
      exact h2.2
theorem zn5{w:Plc}{e:Ex}(h:(resT w true e).2=0):(resT w true e).1.length=1:=by
 rw[zfq]at*
 split at h
 ·rename_i h1;exact absurd h h1
 ·rename_i h1
  rw[if_neg h1]
  generalize (heads (e.args.map (resT w true))).1=l at*
  unfold zm2 at*
  repeat' split at h
  all_goals first
   | (exfalso;simp_all;done)
   | (simp_all;done)
   | (simp_all;exact zp0 h)
theorem zeE:∀(rs:List (List Int×Int)),(heads rs).2=0->(heads rs).1.length=rs.length
 | [],_=>rfl
 | x::r,h=>by
   unfold heads at*
   split at h
   ·rename_i h1;exact absurd h h1
   ·rename_i h1
    rw[if_neg h1]
    split at h
    ·rename_i h2;exact absurd h h2
    ·rename_i h2
     rw[if_neg h2]
     simp[zeE r (by simpa using h2)]
theorem zpO:∀(rs:List (List Int×Int)),(heads rs).2≠0->(heads rs).1=[]
 | [],h=>rfl
 | x::r,h=>by
   unfold heads at*
   split
   ·rfl
   ·rename_i h1
    rw[if_neg h1]at h
    split
    ·rfl
    ·rename_i h2;rw[if_neg h2]at h;exact absurd rfl h
theorem zcS:∀(a b:List (List Int×Int)),heads (a++b)=if(heads a).2≠0 then([],(heads a).2) else if(heads b).2≠0 then([],(heads b).2) else((heads a).1++(heads b).1,0)
 | [],b=>by
   simp only[List.nil_append,heads]
   by_cases h:(heads b).2=0
   ·simp[h];exact Prod.ext rfl h
   ·simp[h];exact Prod.ext (zpO b h) rfl
 | x::a,b=>by
   have ih:=zcS a b
   simp only[List.cons_append,heads,ih]
   by_cases h1:x.2=0
   ·by_cases h2:(heads a).2=0
    ·by_cases h3:(heads b).2=0
     ·simp[h1,h2,h3]
     ·simp[h1,h2,h3]
    ·simp[h1,h2]
   ·simp[h1]
theorem zpv(w:Plc)(l:List Ex)(hl:l.length≤1000000000)(ih:∀x∈l,Pure Tryz.prog 55 [.t (plcT w),.t (exT x),.b true] (.tup [.t (za5 (resT w true x).1),.i (resT w true x).2])):
  Pure Tryz.prog 81 [.t (plcT w),.t (.sl 6 (l.map exT))] (.tup [.t (za5 (heads (l.map (resT w true))).1),.i (heads (l.map (resT w true))).2]):=by
 have hml:(l.map exT).length=l.length:=List.length_map _
 have hR:∀x,(resT w true x).2=0->(resT w true x).1.length=1:=fun x=>zn5
 generalize resT w true=R at ih hR⊢
 unfold plcT plcC at*
 refine so Tryz.func81 ?_
 repeat' (first|refine wu ?_|exact wkc|intro hc|refine wk2 ?_ ?_|fail)
 refine TR.tail 1 6 rfl ?_
 refine TR.zal l.length (fun k=>(heads ((l.take k).map R)).2=0) (fun k=>[(2,.cp [.sl 2 (w.p.enums.map enT),zag w.p.nodes,T.n w.node,zac w.env] 0),(6,.sl 1 (((heads ((l.take k).map R)).1).map T.i) 0),(11,.t (.sl 6 (l.map exT))),(12,.i l.length),(13,.i k)])
  (fun k=>[.tail (((heads ((l.take k).map R)).1).map T.i).length]) rfl (fun k hlt ha=>?_) (fun ha=>?_) ⟨rfl,rfl,rfl,by rw[<-hml];rfl,rfl,trivial⟩
 ·have hx:=zbd hlt
  have hs:=ih l[k] (List.getElem_mem hlt)
  have hr:=hR l[k]
  have htk:heads ((l.take (k+1)).map R)=if(R l[k]).2≠0 then([],(R l[k]).2) else((heads ((l.take k).map R)).1++[(R l[k]).1.headD 0],0):=by
   rw[zaG hlt,List.map_append,zcS,if_neg (by simpa using ha)]
   by_cases h:(R l[k]).2=0
   ·simp[heads,h]
   ·simp[heads,h]
  have hbad:(R l[k]).2≠0->heads (l.map R)=([],(R l[k]).2):=by
   intro h
   conv=>lhs;rw[<-List.take_append_drop (k+1) l]
   rw[List.map_append,zcS,htk,if_pos h]
   simp[h]
  have hlen:(heads ((l.take k).map R)).1.length=k:=by rw[zeE _ ha];simp;omega
  have hlenm:((heads ((l.take k).map R)).1.map T.i).length=k:=by rw[List.length_map,hlen]
  rw[zaA]at hs
  generalize R l[k]=r at*
  obtain⟨rl,re⟩:=r
  simp only at hs hr htk hbad
  generalize l[k]=x at*
  unfold exC at hx hs
  generalize (heads ((l.take k).map R)).1=acc at*
  by_cases he:re=0
  ·obtain⟨t0,rfl⟩:∃t0,rl=[t0]:=by
    have:=hr he
    match rl,this with
    | [a],_=>exact⟨a,rfl⟩
   subst he
   rw[if_neg (by simp)]at htk
   repeat' (first|refine wu ?_|exact wkc|intro hc|refine wk2 ?_ ?_|refine wv hs ?_|fail)
   exact zab.zak hlt (by rw[htk]) (by rw[htk,List.map_append];exact⟨rfl,rfl,rfl,rfl,rfl,trivial⟩) (by rw[htk,List.map_append,List.length_append];rfl)
  ·rw[hbad he]
   repeat' (first|refine wu ?_|exact wkc|intro hc|refine wk2 ?_ ?_|refine wv hs ?_|fail)
   exact wkr
 ·rw[List.take_length]at ha⊢
  rw[ha]
  repeat' (first|refine wu ?_|exact wkc|intro hc|refine wk2 ?_ ?_|fail)
  exact wkr
abbrev zew (w:Plc)(e:Ex)(l:List Int)(f:Int):Prop:=Pure Tryz.prog 81 [.t (plcT w),.t (.sl 6 (e.args.map exT))] (.tup [.t (za5 l),.i f])
abbrev ResP (w:Plc)(e:Ex)(inner:Bool)(r:List Int×Int):Prop:=Pure Tryz.prog 55 [.t (plcT w),.t (.ag (exC e)),.b inner] (.tup [.t (za5 r.1),.i r.2])
theorem zt0{w:Plc}{e:Ex}{l:List Int}{f:Int}(hf:f≠0)(hargs:zew w e l f)(inner:Bool):ResP w e inner ([],f):=by
 unfold zew ResP plcT plcC exC at*
 refine so Tryz.func55 ?_
 repeat' (first|refine wu ?_|exact wkc|intro hc|refine wk2 ?_ ?_|refine wv hargs ?_|fail)
 exact wkr
theorem zve{w:Plc}{e:Ex}{l:List Int}(hargs:zew w e l 0)(h1:e.kind.1=1)(inner:Bool):ResP w e inner ([e.t.1],0):=by
 unfold zew ResP plcT plcC exC at*
 refine so Tryz.func55 ?_
 repeat' (first|refine wu ?_|exact wkc|intro hc|refine wk2 ?_ ?_|refine wv hargs ?_|fail)
 exact wkr
theorem zue{w:Plc}{e:Ex}{l:List Int}(hargs:zew w e l 0)(h1:e.kind.1=11)(inner:Bool):ResP w e inner ([1],0):=by
 unfold zew ResP plcT plcC exC at*
 refine so Tryz.func55 ?_
 repeat' (first|refine wu ?_|exact wkc|intro hc|refine wk2 ?_ ?_|refine wv hargs ?_|fail)
 exact wkr
theorem zvi{w:Plc}{e:Ex}{l:List Int}(hargs:zew w e l 0)(h2:e.kind.1=2)(hw:zbp w)(inner:Bool):ResP w e inner (if(zbu w.env e.name).2=false then([],6) else([(zbu w.env e.name).1],0)):=by
 have hto:=zeN w e.name hw.env
 unfold zew ResP plcT plcC exC at*
 cases hb:(zbu w.env e.name).2
 all_goals
  rw[hb]at hto
  simp only[Bool.true_eq_false,if_true,if_false]
  refine so Tryz.func55 ?_
  repeat' (first|refine wu ?_|exact wkc|intro hc|refine wk2 ?_ ?_|refine wv hargs ?_|refine wv hto ?_|fail)
  exact wkr
theorem zvf{w:Plc}{e:Ex}{l:List Int}(hargs:zew w e l 0)(h3:e.kind.1=3)(inner:Bool):ResP w e inner (if(zaK e.op.1 l).2≠0 then([],(zaK e.op.1 l).2) else([(zaK e.op.1 l).1],0)):=by
 have hres:=zlQ e.op.1 l
 unfold zew ResP plcT plcC exC at*
 by_cases hr:(zaK e.op.1 l).2=0
 ·rw[if_neg (by simp[hr])]
  rw[hr]at hres
  refine so Tryz.func55 ?_
  repeat' (first|refine wu ?_|exact wkc|intro hc|refine wk2 ?_ ?_|refine wv hargs ?_|refine wv hres ?_|fail)
  exact wkr
 ·rw[if_pos hr]
  generalize (zaK e.op.1 l).2=f at hr hres⊢
  refine so Tryz.func55 ?_
  repeat' (first|refine wu ?_|exact wkc|intro hc|refine wk2 ?_ ?_|refine wv hargs ?_|refine wv hres ?_|fail)
  exact wkr
theorem zvb{w:Plc}{e:Ex}{l:List Int}(hargs:zew w e l 0)(h4:e.kind.1=4)(hll:l.length=3)(inner:Bool):ResP w e inner (if l.getD 0 0≠1\/l.getD 1 0≠l.getD 2 0 then([],10) else([l.getD 1 0],0)):=by
 unfold zew ResP plcT plcC exC at*
 obtain⟨a,b,c,rfl⟩:∃a b c,l=[a,b,c]:=by
  match l,hll with
  | [a,b,c],_=>exact⟨a,b,c,rfl⟩
 clear hll
 simp only[List.getD_cons_zero,List.getD_cons_succ]
 by_cases hr:a≠1\/b≠c
 ·rw[if_pos hr]
  refine so Tryz.func55 ?_
  repeat' (first|refine wu ?_|exact wkc|intro hc|refine wk2 ?_ ?_|refine wv hargs ?_|fail)
  all_goals first
   | exact wkr
   | (exfalso;grind)
 ·rw[if_neg hr]
  obtain⟨rfl,rfl⟩:a=1/\b=c:=by
   refine⟨Classical.byContradiction fun h=>hr (.inl h),Classical.byContradiction fun h=>hr (.inr h)⟩
  refine so Tryz.func55 ?_
  repeat' (first|refine wu ?_|exact wkc|intro hc|refine wk2 ?_ ?_|refine wv hargs ?_|fail)
  all_goals first
   | exact wkr
   | (exfalso;grind)
theorem zu9{w:Plc}{e:Ex}{l:List Int}(hargs:zew w e l 0)(h5:e.kind.1=5\/e.kind.1=6\/e.kind.1=7)(hll:1≤l.length)(hlb:l.length≤1000000000)(inner:Bool):ResP w e inner (if zex l=false then([],10) else([l.headD 0],0)):=by
 have heq:=zh4 l hlb
 unfold zew ResP plcT plcC exC at*
 obtain⟨a,r,rfl⟩:∃a r,l=a::r:=by
  match l,hll with
  | a::r,_=>exact⟨a,r,rfl⟩
 clear hll
 simp only[List.headD_cons]
 cases hq:zex (a::r)
 all_goals
  rw[hq]at heq
  simp only[Bool.true_eq_false,if_true,if_false]
  rcases h5 with h5|h5|h5
  all_goals
   refine so Tryz.func55 ?_
   repeat' (first|refine wu ?_|exact wkc|intro hc|refine wk2 ?_ ?_|refine wv hargs ?_|refine wv heq ?_|fail)
   exact wkr
theorem zvn{w:Plc}{e:Ex}{l:List Int}(hargs:zew w e l 0)(h8:e.kind.1=8\/e.kind.1=9)(hw:zbp w)(hll:1≤l.length)(hlb:l.length≤1000000000)(inner:Bool):ResP w e inner (if zdq w.env e.name e.t.1≠0 then([],zdq w.env e.name e.t.1) else if zex l=false then([],10) else([l.headD 0],0)):=by
 have heq:=zh4 l hlb
 have hck:=zlC w e.name e.t.1 hw.env
 unfold zew ResP plcT plcC exC at*
 obtain⟨a,r,rfl⟩:∃a r,l=a::r:=by
  match l,hll with
  | a::r,_=>exact⟨a,r,rfl⟩
 clear hll
 simp only[List.headD_cons]
 generalize zdq w.env e.name e.t.1=c at hck⊢
 by_cases hc0:c=0
 ·subst hc0
  rw[if_neg (by simp)]
  cases hq:zex (a::r)
  all_goals
   rw[hq]at heq
   simp only[Bool.true_eq_false,if_true,if_false]
   rcases h8 with h5|h5
   all_goals
    refine so Tryz.func55 ?_
    repeat' (first|refine wu ?_|exact wkc|intro hc|refine wk2 ?_ ?_|refine wv hargs ?_|refine wv heq ?_|refine wv hck ?_|fail)
    exact wkr
 ·rw[if_pos hc0]
  rcases h8 with h5|h5
  all_goals
   refine so Tryz.func55 ?_
   repeat' (first|refine wu ?_|exact wkc|intro hc|refine wk2 ?_ ?_|refine wv hargs ?_|refine wv hck ?_|fail)
   exact wkr
theorem zu0{w:Plc}{e:Ex}{l:List Int}(hargs:zew w e l 0)(h10:e.kind.1=10)(hw:zbp w)(hv:e.v.1=0\/e.v.1=1)(inner:Bool):ResP w e inner (zfc w e l inner):=by
 have hcal:=zoW w hw e l inner hv
 unfold zew ResP plcT plcC exC at*
 refine so Tryz.func55 ?_
 repeat' (first|refine wu ?_|exact wkc|intro hc|refine wk2 ?_ ?_|refine wv hargs ?_|refine wv hcal ?_|fail)
 exact wkr
theorem zjn(w:Plc)(hw:zbp w):∀(m:Nat) (e:Ex),wEx e≤m->wEx e≤1000000000->(∀x∈flat e,Arity x)->∀inner,Pure Tryz.prog 55 [.t (plcT w),.t (exT e),.b inner] (.tup [.t (za5 (resT w inner e).1),.i (resT w inner e).2]):=by
 intro m
 induction m with
 | zero=>intro e he;have:=zaI e;omega
 | succ m ih0=>
   intro e he hb har inner
   have hlb:=zcq e
   have hA:Arity e:=har e (by rw[za2];exact List.mem_cons_self)
   have hargs:=zpv w e.args (by omega) (fun x hx=>ih0 x (by have:=zaE hx;omega) (by have:=zaE hx;omega) (fun y hy=>har y (by
    rw[za2]
    refine List.mem_cons_of_mem _ ?_
    unfold flats
    exact List.mem_flatten.2 ⟨flat x,List.mem_map.2 ⟨x,hx,rfl⟩,hy⟩)) true)
   clear ih0 har
   have hhl:(heads (e.args.map (resT w true))).2=0->(heads (e.args.map (resT w true))).1.length=e.args.length:=fun h=>by rw[zeE _ h];simp
   rw[zfq]
   generalize heads (e.args.map (resT w true))=h at*
   obtain⟨l,f⟩:=h
   simp only at*
   rw[zaA]
   by_cases hf:f=0
   ·subst hf
    rw[if_neg (by simp)]
    have hll:=hhl rfl
    unfold zm2
    have hk:=hA.kind
    have h5':=hA.k5
    have h7':=hA.more
    by_cases h1:e.kind.1=1
    ·rw[if_pos h1]
     exact zve hargs h1 inner
    rw[if_neg h1]
    by_cases h11:e.kind.1=11
    ·rw[if_pos h11]
     exact zue hargs h11 inner
    rw[if_neg h11]
    by_cases h2:e.kind.1=2
    ·rw[if_pos h2]
     exact zvi hargs h2 hw inner
    rw[if_neg h2]
    by_cases h3:e.kind.1=3
    ·rw[if_pos h3]
     exact zvf hargs h3 inner
    rw[if_neg h3]
    by_cases h4:e.kind.1=4
    ·rw[if_pos h4]
     exact zvb hargs h4 (by rw[hll];exact hA.k4 h4) inner
    rw[if_neg h4]
    by_cases h5:e.kind.1=5\/e.kind.1=6\/e.kind.1=7
    ·rw[if_pos h5]
     exact zu9 hargs h5 (by rcases Decidable.em (e.kind.1=5)with h|h <;> omega) (by omega) inner
    rw[if_neg h5]
    by_cases h8:e.kind.1=8\/e.kind.1=9
    ·rw[if_pos h8]
     exact zvn hargs h8 hw (by rw[hll];have:=h7' (by omega) (by omega);omega) (by omega) inner
    rw[if_neg h8]
    exact zu0 hargs (by omega) hw (hA.v (by omega)) inner
   ·rw[if_pos hf]
    exact zt0 hf hargs inner
theorem zd6(w:Plc)(hw:zbp w)(e:Ex)(hb:wEx e≤1000000000)(har:∀x∈flat e,Arity x)(inner:Bool):Pure Tryz.prog 55 [.t (plcT w),.t (exT e),.b inner] (.tup [.t (za5 (resT w inner e).1),.i (resT w inner e).2]):=zjn w hw (wEx e) e (Nat.le_refl _) hb har inner
theorem zau{α:Type}{f:α->Int}:∀ {l:List α},zaa f l=0->∀x∈l,f x=0
 | [],_,x,hx=>by cases hx
 | y::l,h,x,hx=>by
   unfold zaa at h
   by_cases hy:f y=0
   ·rcases List.mem_cons.1 hx with rfl|hx
    ·exact hy
    ·exact zau (l:=l) (by simpa [hy]using h) x hx
   ·simp[hy]at h
theorem zc3{es:List En}{e:Ex}(h:zaP es e=0):∀x∈flat e,Arity x:=by
 unfold zaP at h
 split at h
 ·rename_i hc
  unfold zen at hc
  split at hc
  ·cases hc
  ·exact fun x hx=>zrU (zau hc x hx)
 ·rename_i hc;exact absurd h hc
def ofT(p:Prog)(node:I64)(e:Ex):List Int×Int:=
 if node.1<0\/(p.nodes.length:Int)≤node.1 then([],2) else if zaP p.enums e≠0 then([],zaP p.enums e) else
 match p.nodes[node.1.toNat]? with
 | some n=>resT ⟨p,node,zao n⟩ false e
 | none=>([],2)
structure zlM (p:Prog):Prop where
 nodes:p.nodes.length≤100000000
 each:∀n∈p.nodes,zlW n
 clocks:∀n∈p.nodes,∀d∈zao n,d.clock.length≤100000000
theorem zpB(p:Prog)(hp:zlM p)(node:I64)(e:Ex)(he:wEx e≤1000000000):Pure Tryz.prog 34 [.t (.ag (zav p)),.i node.1,.t (.ag (exC e))] (.tup [.t (za5 (ofT p node e).1),.i (ofT p node e).2]):=by
 have hml:(p.nodes.map nodT).length=p.nodes.length:=List.length_map _
 have hb:=hp.nodes
 have hcx:=zda p.enums e he
 unfold ofT
 by_cases h2:node.1<0\/(p.nodes.length:Int)≤node.1
 ·rw[if_pos h2]
  clear hcx
  unfold zav exC
  refine so Tryz.func34 ?_
  repeat' (first|refine wu ?_|exact wkc|intro hc|refine wk2 ?_ ?_|fail)
  all_goals first
   | exact wkr
   | (exfalso;omega)
 rw[if_neg h2]
 rw[zaA]at hcx
 by_cases hx:zaP p.enums e≠0
 ·rw[if_pos hx]
  generalize zaP p.enums e=c at hx hcx⊢
  unfold zav exC at*
  refine so Tryz.func34 ?_
  repeat' (first|refine wu ?_|exact wkc|intro hc|refine wk2 ?_ ?_|refine wv hcx ?_|fail)
  all_goals first
   | exact wkr
   | (exfalso;omega)
 rw[if_neg hx]
 have hx0:zaP p.enums e=0:=Classical.byContradiction hx
 rw[hx0]at hcx
 obtain⟨k,hk,hkn⟩:∃k:Nat,k<p.nodes.length/\node.1=(k:Int):=⟨node.1.toNat,by omega,by omega⟩
 have hnt:node.1.toNat=k:=by omega
 rw[hnt,List.getElem?_eq_getElem hk]
 have hat:(p.nodes.map nodT)[node.1.toNat]?=some (.ag (nodC p.nodes[k])):=by rw[hnt];exact zb7 hk
 have hN:=hp.each p.nodes[k] (List.getElem_mem hk)
 have hv:=zd5 p.nodes[k] hN (hp.clocks _ (List.getElem_mem hk))
 have hvl:(zao p.nodes[k]).length≤1000000000:=by have:=hN.ins;have:=hN.outs;have:=hN.locals;simp[zao];omega
 have hr:=zd6 ⟨p,node,zao p.nodes[k]⟩ ⟨hb,hp.each,hvl⟩ e he (zc3 hx0) false
 rw[zaA]at hr
 dsimp only at hr⊢
 generalize resT ⟨p,node,zao p.nodes[k]⟩ false e=r at hr⊢
 have h2a:0≤node.1:=by omega
 have h2b:node.1<p.nodes.length:=by omega
 clear hkn hnt h2 hx0 hx hN hp
 generalize zao p.nodes[k]=L at hv hr hvl
 generalize p.nodes[k]=n at hv hat
 obtain⟨node,hn1,hn2⟩:=node
 unfold zav exC plcT plcC nodC at*
 dsimp only[T.n]at*
 refine so Tryz.func34 ?_
 repeat' (first|refine wkt ?_|refine wk2 ?_ ?_|exact wkc|intro hc|refine wv hcx ?_|(apply TO.want;exact rfl)|fail)
 refine TR.zc5 (envF:=?envF) (HF:=[]) [(.t (.ag [.sl 2 (p.enums.map enT),zag p.nodes]),false),(.i node,false),(.cp [.sl 2 (p.enums.map enT),zag p.nodes] 1,false),(.t (zag p.nodes),false),(.i node,false),(.cp (nC n) 0,false),(.t (.ag (nC n)),false),(.t (zac L),true),(.t (.ag [.sl 2 (p.enums.map enT),zag p.nodes,T.i node,zac L]),true),(.t (.ag [T.v (.int .i64 e.kind.val),T.v (.int .i64 e.op.val),T.v (.int .i64 e.t.val),T.v (.int .i64 e.v.val),.s e.name,.sl 6 (e.args.map exT)]),false),(.tup [.t (za5 r.1),.i r.2],true),(.t (za5 r.1),false),(.i r.2,false),(.t (za5 r.1),false),(.i r.2,false)] [[],[],[],[]] hmix ?hB ?h0 ?hp ?hF ?hE ?hK
 case hB=>(dsimp only[List.map];decide +kernel)
 case h0=>exact rfl
 case hF=>exact rfl
 case hE=>exact rfl
 case hp=>repeat' (first|refine wu ?_|refine wk2 ?_ ?_|exact wkc|intro hc|refine wv hv ?_|refine wv hr ?_|exact trivial|exact And.intro rfl rfl|refine And.intro (fun H env=>?_) ?_|refine And.intro (fun env=>?_) ?_|fail)
 case hK=>
  repeat' (first|refine wu ?_|refine wk2 ?_ ?_|exact wkc|intro hc|refine wv hv ?_|refine wv hr ?_|exact trivial|exact And.intro rfl rfl|refine And.intro (fun H env=>?_) ?_|refine And.intro (fun env=>?_) ?_|fail)
  exact wkr
def orE(a b:Int):Int:=if a=0 then b else a
def za3(s:Str):Int:=if ident s=true then 0 else 6
def onE(es:List En)(o:OnC):Int:=orE (za3 o.name) (if o.t.1≠2/\hasT es o.t.1 o.tag.1=true then 0 else 5)
def zcT(es:List En)(port:Bool)(d:Decl):Int:=
 orE (za3 d.name) (orE (if 0<zbK es d.ty.1 then 0 else 10) (orE (if port=true/\d.clock.length≠0 then 11 else 0) (orE (if d.clock.length≤4 then 0 else 3) (zaa (onE es) d.clock))))
def equE(es:List En)(q:Equ):Int:=
 orE (if q.left.length=0 then 8 else 0) (orE (if q.left.length≤64 then 0 else 3) (orE (zaa za3 q.left) (orE (zaP es q.right) (if q.left.length=1\/q.right.kind.1=10 then 0 else 5))))
def zgX(k:Int):Bool:=decide (k≠5/\k≠6/\k≠7/\k≠10/\k≠11)
def sless(e:Ex):Bool:=(flat e).all fun x=>zgX x.kind.1
def zdY(es:List En)(states:Int)(strong:Bool)(t:Tran):Int:=
 orE (if 0≤t.to.1/\t.to.1<states then 0 else 14) (orE (zaP es t.cond) (if strong=false\/sless t.cond=true then 0 else 5))
def stE(es:List En)(auto:Auto->Int)(n:Int)(s:Sta):Int:=
 orE (za3 s.name) (orE (if s.locals.length≤256/\s.eqs.length≤256/\s.autos.length≤8/\s.unl.length≤4/\s.unt.length≤4 then 0 else 3)
  (orE (zaa (zcT es false) s.locals) (orE (zaa (equE es) s.eqs) (orE (zaa auto s.autos) (orE (zaa (zdY es n true) s.unl) (zaa (zdY es n false) s.unt))))))
def zb5(es:List En):Nat->Auto->Int
 | 0,_=>3
 | k+1,a=>orE (if a.states.length=0 then 8 else 0) (orE (if a.states.length≤8 then 0 else 3) (zaa (stE es (zb5 es k) a.states.length) a.states))
def zdm(u:En):Int:=orE (za3 u.name) (orE (if u.tags.length=0 then 8 else 0) (orE (if u.tags.length≤16 then 0 else 3) (zaa za3 u.tags)))
def zek(es:List En)(n:Nod):Int:=
 orE (za3 n.name) (orE (if n.ins.length≤64/\n.outs.length≤64/\n.locals.length≤256/\n.eqs.length≤256/\n.autos.length≤8/\n.assume.length≤8/\n.ensure.length≤8 then 0 else 3)
  (orE (if n.outs.length=0 then 8 else 0) (orE (zaa (zcT es true) n.ins) (orE (zaa (zcT es true) n.outs) (zaa (zcT es false) n.locals)))))
def zgw(es:List En)(n:Nod):Int:=orE (zaa (zb5 es 3) n.autos) (orE (zaa (zaP es) n.assume) (zaa (zaP es) n.ensure))
def za9{α:Type}(g:α->Int):List α->Int×Int
 | []=>(0,0)
 | x::l=>if g x=0 then(if(za9 g l).2=0 then(0,0) else((za9 g l).1+1,(za9 g l).2)) else(0,g x)
theorem zbc{α:Type}(g:α->Int):∀(l:List α),(za9 g l).2=zaa g l
 | []=>rfl
 | x::l=>by
   simp only[za9,zaa]
   rw[<-zbc g l]
   split
   ·split <;> simp_all
   ·rfl
theorem zgf{α:Type}(g:α->Int):∀(a b:List α),za9 g (a++b)=if zaa g a=0 then(if zaa g b=0 then(0,0) else((za9 g b).1+a.length,zaa g b)) else za9 g a
 | [],b=>by
   have:=zbc g b
   simp only[List.nil_append,zaa,if_true,List.length_nil]
   split
   ·rename_i h
    cases b with
    | nil=>rfl
    | cons x l=>
      simp only[za9,zaa]at*
      grind
   ·rw[<-this];simp
 | x::a,b=>by
   have h1:=zbc g (a++b)
   have h2:=zbc g a
   have h3:=zaL g a b
   simp only[List.cons_append,za9,zaa,zgf g a b,List.length_cons]at*
   grind
def zbt(es:List En)(n:Nod):Int×Int:=
 if zek es n≠0 then(-1,zek es n) else if zaa (equE es) n.eqs≠0 then za9 (equE es) n.eqs else(-1,zgw es n)
def limE(p:Prog):Int:=if p.enums.length≤24/\p.nodes.length≤96 then 0 else 3
def zaR(p:Prog):(Int×Int)×Int:=
 if limE p≠0 then((-1,-1),limE p) else if zaa zdm p.enums≠0 then((-1,-1),zaa zdm p.enums) else
 if zaa (fun n=>(zbt p.enums n).2) p.nodes=0 then((0,0),0) else
  let i:=(za9 (fun n=>(zbt p.enums n).2) p.nodes).1
  ((i,((p.nodes[i.toNat]?).map fun n=>(zbt p.enums n).1).getD 0),zaa (fun n=>(zbt p.enums n).2) p.nodes)
def strW:Value->Nat
 | .string s=>s.size
 | _=>0
def _root_.Go.TL.T.w:T->Nat
 | .v x=>1+strW x
 | .sl _ es=>1+(es.attach.map fun x=>x.1.w).sum
 | .ag cs=>1+(cs.attach.map fun x=>x.1.w).sum
decreasing_by
 all_goals
  have:=List.sizeOf_lt_of_mem x.2
  simp;omega
theorem w_sl(sz:Nat)(es:List T):(T.sl sz es).w=1+(es.map T.w).sum:=by rw[T.w];simp
theorem w_ag(cs:List T):(T.ag cs).w=1+(cs.map T.w).sum:=by rw[T.w];simp
theorem w_s(s:Str):(T.s s).w=1+s.length:=by rw[T.w];rfl
theorem zuG(t:T):1≤t.w:=by
 cases t with
 | v=>rw[T.w];omega
 | sl=>rw[w_sl];omega
 | ag=>rw[w_ag];omega
theorem zu7(sz:Nat)(es:List T):es.length<(T.sl sz es).w:=by
 have:=zns T.w zuG es
 rw[w_sl];omega
theorem w_in{sz:Nat}{es:List T}{t:T}(h:t∈es):t.w<(T.sl sz es).w:=by
 have:=znP T.w h
 rw[w_sl];omega
theorem zaq{α:Type}(f:α->T)(sz:Nat)(l:List α):l.length<(T.sl sz (l.map f)).w:=by
 have:=zu7 sz (l.map f);simpa using this
theorem zaC{α:Type}{f:α->T}{sz:Nat}{l:List α}{x:α}(h:x∈l):(f x).w<(T.sl sz (l.map f)).w:=w_in (List.mem_map_of_mem h)
theorem zuE:∀(m:Nat) (e:Ex),wEx e≤m->wEx e≤(exT e).w
 | 0,e,h=>by have:=zaI e;omega
 | m+1,e,h=>by
   have ih:∀x∈e.args,wEx x≤(exT x).w:=fun x hx=>zuE m x (by have:=zaE hx;omega)
   have hs:(e.args.map wEx).sum≤((e.args.map exT).map T.w).sum:=by
    generalize e.args=l at ih
    clear h
    induction l with
    | nil=>simp
    | cons a l ih2=>
      have h1:=ih a (by simp)
      have h2:=ih2 (fun x hx=>ih x (by simp[hx]))
      simp only[List.map_cons,List.sum_cons];omega
   rw[zet,zaA,w_ag]
   simp only[exC,List.map_cons,List.sum_cons,w_sl]
   omega
theorem zep(e:Ex):wEx e≤(exT e).w:=zuE _ e (Nat.le_refl _)
end Go.Proofs.YtcbhlhmebbkgnaaGreat
namespace Go.TL
open Go
theorem zbv{α:Type}:∀(l:List α),zct l=some l
 | []=>rfl
 | x::l=>by simp[zct,zbv l]
theorem zrp{m:M}(hm:HRel m):Step m ⟨m.A,m.β,m.H.map (fun _=>.dead),m.w⟩/\HRel ⟨m.A,m.β,m.H.map (fun _=>.dead),m.w⟩:=by
 have pick:∀(i:Nat) c,(m.H.map (fun _=>Blk.dead))[i]?=some c->c= .dead:=by
  intro i c h
  rw[List.getElem?_map]at h
  cases hq:m.H[i]? with
  | none=>rw[hq]at h;cases h
  | some x=>rw[hq]at h;cases h;rfl
 have own:∀b o,¬Own ⟨m.A,m.β,m.H.map (fun _=>.dead),m.w⟩ b o:=by
  rintro b o ⟨i,q,c,h1,h2,h3,h4⟩
  have:=pick i c h2
  subst this
  cases h3
 refine⟨⟨rfl,rfl,rfl,Nat.le_refl _,fun _ _ h=>h,fun _ _ h=>.inl h,fun b o h=>absurd h (own b o),fun _ _ _ _=>rfl,fun _ _ _ _ _=>rfl,fun _ _ _=>rfl,fun _ _ h=>h,fun _ L h=>⟨L,h⟩,fun _ _ _ h=>h,fun i q hq=>⟨q,hq,?_⟩⟩,?_⟩
 ·have hd:∀n,tlOf (m.H.map (fun _=>Blk.dead))[i]? ≠some n:=by
   intro n h
   cases hq:(m.H.map (fun _=>Blk.dead))[i]? with
   | none=>rw[hq]at h;cases h
   | some x=>have:=pick i x hq;subst this;rw[hq]at h;cases h
  show zbb m.H[i]? (m.H.map (fun _=>Blk.dead))[i]? q q
  unfold zbb
  split
  ·exact fun n' h=>absurd h (hd n')
  ·exact⟨rfl,hd⟩
 ·refine⟨by simpa using hm.len,fun i q c h1 h2=>?_,fun i j q r c l hij h1 h2 h3 h4 hc hl=>?_,fun b o h hn=>own b o hn,hm.inA,fun i q c h1 h2 hc hq=>?_⟩
  ·have:=pick i c h2;subst this;trivial
  ·have:=pick i c h2;subst this;cases hc
  ·have:=pick i c h2;subst this;cases hc
theorem zcH(k:Nat):∀n,zaf k (List.replicate n .dead)=true
 | 0=>rfl
 | n+1=>by
   rw[List.replicate_succ,zaf,zcH k n]
   rfl
theorem Sound.zvl{P:Program}{f:FuncId}{args:List SV}{H:Heap}{R R':Res->Heap->Prop}(h:Sound P f args H R)(hr:∀v H',R (.ret v) H'->R' (.ret v) H')
  (hp:∀v H',R (.panic v) H'->v.under H.length=true/\H.length≤H'.length/\R' (.panic v) (List.replicate H.length .dead)):Sound P f args H R':=by
 refine⟨h.1,fun m vs h1 h2 h3=>Calls.mono (h.2 m vs h1 h2 h3) ?_⟩
 rintro e w' ⟨m',r,rfl,s,hm',hres,hR⟩
 cases r with
 | ret v=>exact⟨m',.ret v,rfl,s,hm',hres,hr v _ hR⟩
 | panic v=>
   obtain⟨g1,g2,g3⟩:=hp v _ hR
   obtain⟨s1,hm1⟩:=zrp hm'
   have hl:(m'.H.map (fun _=>Blk.dead)).take H.length=List.replicate H.length .dead:=by
    rw[List.map_const',List.take_replicate,Nat.min_eq_left g2]
   obtain⟨c1,c2,c3⟩:=zf8 (k:=H.length) hm1 (s.trans s1) (by simpa using g2) (by rw[h2.len,h1];exact Nat.le_refl _) (by show zaf _ (List.take _ (m'.H.map _))=true;rw[hl];exact zcH _ _)
   refine⟨M.cut ⟨m'.A,m'.β,m'.H.map fun _=>.dead,m'.w⟩ H.length,.panic v,rfl,c1,c2,?_,?_⟩
   ·cases e with
    | panicked ch=>
      obtain⟨x,x1,x2⟩:=hres
      exact⟨x,x1,c3 v x g1 (s1.srel hm' x2)⟩
    | _=>simp[zb8]at hres
   ·show R' (.panic v) (List.take _ (m'.H.map _))
    rw[hl];exact g3
def Err(c:Int)(v pv:SV)(H1:Heap):Res->Heap->Prop:=fun r H'=>if c=0 then r= .ret v/\H'=H1 else r= .panic pv/\H'=List.replicate H1.length .dead
def Err0(c:Int)(v pv:SV)(H1:Heap)(N:Nat):Res->Heap->Prop:=fun r H'=>if c=0 then r= .ret v/\H'=H1 else r= .panic pv/\N≤H'.length
theorem Sound.err{P:Program}{f:FuncId}{args:List SV}{H H1:Heap}{c:Int}{v pv:SV}(hl:H1.length=H.length)(hu:∀k,pv.under k=true)(h:Sound P f args H (Err0 c v pv H1 H.length)):Sound P f args H (Err c v pv H1):=by
 refine h.zvl (fun u H' g=>?_) (fun u H' g=>?_)
 ·unfold Err0 at g;unfold Err
  split at g
  ·rename_i hc;rw[if_pos hc];exact g
  ·cases g.1
 ·unfold Err0 at g;unfold Err
  split at g
  ·cases g.1
  ·rename_i hc
   obtain⟨g1,g2⟩:=g
   cases g1
   exact⟨hu _,g2,by rw[if_neg hc,hl];exact⟨rfl,rfl⟩⟩
section rules
variable {P:Program}{n:Nat}{env:Env}{H:Heap}{K:TK}{all:Array Oper}{rest:List Oper}{tab:Tab}
variable {d:Nat}{ty:TypeId}{pos:String}{aft:Array Edge}
theorem TO.zkM(l:List Nat){Hc H1 H2 H3:Heap}{c:Int}{cargs:List SV}{v v' pv:SV}{f:Operand}{fid:FuncId}{caps:List SV}{args:Array Operand}{ts:Array TypeId}{vs:List SV}
  (hs:Sound P fid cargs Hc (Err c v pv H1))(hd:Nat.ble (d+1) n=true)(hf:env.val f=some (.fn fid caps))(ha:env.vals args.toList=some vs)(hl:Les (vs++caps) (rens (names l H.length) cargs))(hu:unders Hc.length cargs=true)(hh:Hands H l Hc)
  (hv:v.ren (names l H.length)=v')(hpv:pv.ren (names l H.length)=pv)(hH:patch H l (H1.map (Blk.ren (names l H.length)))=H2)(hD:patch H l ((List.replicate H1.length .dead).map (Blk.ren (names l H.length)))=H3)
  (k:c=0->TO false P n all rest ((d,v')::env) H2 K)(kp:c≠0->K (.panic pv) env H3):
  TO false P n all (⟨some d,.call { callee:=.value f,args:=args,argTypes:=ts },ty,pos,aft,none⟩::rest) env H K:=by
 refine TO.call l hs hd hf ha hl hu hh (fun u Hc' h=>?_) (fun u Hc' h=>?_)
 ·unfold Err at h
  split at h
  ·rename_i hc
   obtain⟨h1,rfl⟩:=h
   cases h1
   rw[hv,hH];exact k hc
  ·cases h.1
 ·unfold Err at h
  split at h
  ·cases h.1
  ·rename_i hc
   obtain⟨h1,rfl⟩:=h
   cases h1
   rw[hpv,hD];exact kp hc
theorem TO.zlw(N:Nat){Hc H1 H2:Heap}{c:Int}{cargs:List SV}{v pv:SV}{f:Operand}{fid:FuncId}{caps:List SV}{args:Array Operand}{ts:Array TypeId}{vs:List SV}
  (hs:Sound P fid cargs Hc (Err c v pv H1))(hd:Nat.ble (d+1) n=true)(hf:env.val f=some (.fn fid caps))(ha:env.vals args.toList=some vs)(hl:Les (vs++caps) cargs)
  (hN:Nat.ble N H.length=true)(hc:H.take N=Hc)(hu:unders N cargs=true)(hb:zaf N Hc=true)(hv:v.under N=true)(hpv:pv.under N=true)(h1:H1.length=N)(h2:zaf N H1=true)
  (hH:zct (H1++H.drop N)=some H2)(k:c=0->TO false P n all rest ((d,v)::env) H2 K)(kp:c≠0->K (.panic pv) env (List.replicate N .dead++H.drop N)):
  TO false P n all (⟨some d,.call { callee:=.value f,args:=args,argTypes:=ts },ty,pos,aft,none⟩::rest) env H K:=by
 refine TO.zfc N hs ⟨fun u G hr=>?_,fun u G hr=>?_⟩ hd hf ha hl hu (Nat.le_of_ble_eq_true hN) hc hb (fun u G hr=>?_) (fun u G hr=>?_)
 ·unfold Err at hr
  split at hr
  ·obtain⟨h,rfl⟩:=hr;cases h;exact⟨hv,h1,h2⟩
  ·cases hr.1
 ·unfold Err at hr
  split at hr
  ·cases hr.1
  ·obtain⟨h,rfl⟩:=hr;cases h;exact⟨hpv,by simp[h1],zcH _ _⟩
 ·unfold Err at hr
  split at hr
  ·rename_i hc0
   obtain⟨h,rfl⟩:=hr;cases h;rw[<-zbO hH];exact k hc0
  ·cases hr.1
 ·unfold Err at hr
  split at hr
  ·cases hr.1
  ·rename_i hc0
   obtain⟨h,rfl⟩:=hr;cases h;rw[h1];exact kp hc0
theorem RetK.errP{rs:List ResultVar}{N:Nat}{c:Int}{v pv:SV}{H1:Heap}(hc:c≠0)(hN:Nat.ble N H.length=true)(hu:pv.under H.length=true)(hb:zaf H.length H=true):RetK tab rs N (Err0 c v pv H1 N) (.panic pv) env H:=by
 have hn:=Nat.le_of_ble_eq_true hN
 have ht:H.take H.length=H:=List.take_of_length_le (Nat.le_refl _)
 exact⟨pv,H.length,Le.refl _,hn,Nat.le_refl _,hu,by rw[ht];exact hb,by rw[ht];unfold Err0;rw[if_neg hc];exact⟨rfl,hn⟩⟩
theorem RetK.errV{rs:List ResultVar}{N:Nat}{c:Int}{v pv:SV}{H1:Heap}{vs:List SV}(hc:c=0)(hr:zca tab env H rs=some vs)(hl:Le (pack vs) v)(hN:Nat.ble N H1.length=true)(hk:Nat.ble H1.length H.length=true)(hu:v.under H1.length=true)
  (ht:H.take H1.length=H1)(hb:zaf H1.length H1=true):RetK tab rs N (Err0 c v pv H1 N) .ret env H:=
 ⟨vs,v,H1.length,hr,hl,Nat.le_of_ble_eq_true hN,Nat.le_of_ble_eq_true hk,hu,by rw[ht];exact hb,by rw[ht];unfold Err0;rw[if_pos hc];exact⟨rfl,rfl⟩⟩
theorem RetK.errN{rs:List ResultVar}{N:Nat}{c:Int}{v pv:SV}{H1:Heap}{vs:List SV}(hc:c=0)(hr:zca tab env H rs=some vs)(hl:Le (pack vs) v)(hN:Nat.ble N H1.length=true)(hk:Nat.ble H1.length H.length=true)(hu:v.under H1.length=true)
  (ht:H.take H1.length=H1)(hb:zaf H1.length H1=true):RetK tab rs N (Err0 c v pv H1 N) .normal env H:=
 ⟨vs,v,H1.length,hr,hl,Nat.le_of_ble_eq_true hN,Nat.le_of_ble_eq_true hk,hu,by rw[ht];exact hb,by rw[ht];unfold Err0;rw[if_pos hc];exact⟨rfl,rfl⟩⟩
variable {q:Bool}
theorem TO.ztL(hT:zaB P tab){t:TypeId}{i:TyI}{x y:Operand}{j2:Nat}{v vx:SV}{ts:List T}{ty' ty2:TypeId}{pos' pos2:String}{aft' aft2:Array Edge}(hd:Nat.ble (d+1) n=true)(ht:tab.get t=some i)(hj:Nat.ble (j2+1) n=true)(hne2:Nat.beq j2 d=false)(hx:Env.val ((d,.any)::env) x=some vx)(hy:Env.val ((j2,vx)::(d,.any)::env) y=some v)(hv:v.solid=true)(hc:allT v.cells=some ts)
  (hsz:i.size=ts.length)(hpos:0<ts.length)
  (k:TO false P n all rest ((d,.cp ts 0)::(j2,vx)::(d,.any)::env) H K):TO false P n all (⟨some d,.alloc t,ty,pos,aft,none⟩::⟨some j2,.assign x,ty2,pos2,aft2,none⟩::⟨none,.store t (.tmp d) y,ty',pos',aft',none⟩::rest) env H K:=by
 intro φ m a h1 h2 h3 h4
 obtain⟨z,hz1,hz2,_,_⟩:=(hT t i ht).zero
 obtain⟨zl,z0,_⟩:=zbs (A:=m.A) (w:=m.w) _ _ hz2
 have hzl:z.cells.size=i.size:=by have:=(hT t i ht).len;simp at zl;omega
 let pv:Value:=.pointer (some ⟨m.w.heap.size,0,none⟩)
 let a0:Act:=a.put (some d) pv
 have hE0:ERel m n ((d,.any)::env) a0.tmps:=h3.put d (Nat.le_of_ble_eq_true hd) (.any _)
 let a1:Act:=a0.put (some j2) (a0.eval x)
 have hE1:ERel m n ((j2,vx)::(d,.any)::env) a1.tmps:=hE0.put j2 (Nat.le_of_ble_eq_true hj) (hE0.val hx)
 have hnj:j2≠d:=fun e=>by rw[e]at hne2;simp at hne2
 obtain⟨g1,g0,g2⟩:=(hE1.val hy).cells hv
 obtain⟨l1,l2⟩:=zdu (m:=m) hc
 let w1:=m.w.alloc (.cells z.cells t)
 have hrun1:(execOp a.eval ⟨some d,.alloc t,ty,pos,aft,none⟩).run P m.w= .ok (.value pv) w1:=by
  simp[execOp,Instr.alloc,hz1,newVar,newRow,pv,w1]
 have hrunm:(execOp a0.eval ⟨some j2,.assign x,ty2,pos2,aft2,none⟩).run P w1= .ok (.value (a0.eval x)) w1:=by
  simp[execOp]
 have hc1:∀o,w1.cell? ⟨m.w.heap.size,o,none⟩=z.cells[o]? :=fun o=>World.cell?_alloc_new ..
 have hlen:(a1.eval y).cells.toList.length=z.cells.size:=by simp;omega
 have hsome:∀q,q<(a1.eval y).cells.toList.length->(w1.cell? ⟨m.w.heap.size,0+q,none⟩).isSome=true:=fun q hq=>by rw[Nat.zero_add,hc1,Array.getElem?_eq_getElem (by omega)];rfl
 let w2:=w1.setCells m.w.heap.size 0 (a1.eval y).cells.toList
 have hrun2:(execOp a1.eval ⟨none,.store t (.tmp d) y,ty',pos',aft',none⟩).run P w1= .ok .skip w2:=by
  have hev:a1.eval (.tmp d)=pv:=by
   have hlt:d<a.tmps.size:=by rw[h3.1];exact Nat.le_of_ble_eq_true hd
   simp[a1,a0,Act.put,Act.eval,Array.getElem?_setIfInBounds,hlt,hnj]
  have hst:=run_storeCells_cells (P:=P) m.w.heap.size 0 (a1.eval y).cells.toList 0 w1 (fun q hq=>hsome q hq) (fun q hq=>World.frozen?_alloc_new ..) (fun u hu=>by
   obtain⟨q,hq⟩:=List.getElem?_of_mem hu
   exact g0 q u (by simpa using hq))
  have hne:(a1.eval y).cells.size=i.size:=by omega
  simp[execOp,hev,pv,Instr.storeAt,Instr.sureAddr,storeVar,(hT t i ht).sizeOf,hne,hst,w2]
 obtain⟨e1,e2,e3,e4,e5,e6⟩:=zb0 m.w.heap.size (a1.eval y).cells.toList 0 w1
 have kw:Keeps m.w w2:=⟨e1,e2,e3,by show _≤w2.heap.size;rw[e4];simp[w1],fun b hb=>by rw[e5 b (by omega)];exact RowKit.Below.heap_alloc _ _ _ hb⟩
 obtain⟨m',f1,f2,f3,f4,f5⟩:=zie h2 kw (b:=m.w.heap.size) ⟨Nat.le_refl _,by rw[e4];simp[w1]⟩ ts (fun j=>((a1.eval y).cells[j]?).getD undef) (fun j hj=>by
  have hj':j<(a1.eval y).cells.toList.length:=by simp;omega
  have:=World.cell?_setCells_in m.w.heap.size (a1.eval y).cells.toList 0 w1 hsome j hj'
  rw[Nat.zero_add]at this
  rw[show w2.cell? _=_ from this,Array.getElem?_eq_getElem (by simpa using hj')]
  simp) (fun j hj=>by
  rw[Array.getElem?_eq_getElem (by omega)]
  exact g0 j _ (Array.getElem?_eq_getElem (by omega))) (fun j u hu=>by
  have hj:=(List.getElem?_eq_some_iff.1 hu).1
  obtain⟨c,hcc,hr⟩:=l2 j u hu
  rw[Array.getElem?_eq_getElem (by omega)]
  exact hr _ (g2 j c _ hcc (Array.getElem?_eq_getElem (by omega))))
 refine wpListIn_plain rfl fun K' hK=>?_
 unfold Oper.wpIn
 refine⟨fun _ _=>trivial,?_⟩
 rw[zaT hrun1 (by intro d e;cases e)]
 simp only[Oper.uponIn]
 refine hK _ _ ?_
 refine wpListIn_plain rfl fun K2 hK2=>?_
 unfold Oper.wpIn
 refine⟨fun _ _=>trivial,?_⟩
 rw[show a.put (some d) pv=a0 from rfl,zaT hrunm (by intro d e;cases e)]
 simp only[Oper.uponIn]
 refine hK2 _ _ ?_
 refine wpListIn_plain rfl fun K3 hK3=>?_
 unfold Oper.wpIn
 refine⟨fun _ _=>trivial,?_⟩
 rw[show a0.put (some j2) (a0.eval x)=a1 from rfl,zaT hrun2 (by intro d e;cases e)]
 simp only[Oper.uponIn]
 refine hK3 _ _ ?_
 have hE:ERel m' n ((d,.cp ts 0)::(j2,vx)::(d,.any)::env) a1.tmps:=by
  refine⟨hE1.1,fun i v hv=>?_⟩
  by_cases hi:d=i
  ·subst hi
   rw[Env.zax]at hv
   cases hv
   refine⟨pv,?_,f5⟩
   have hlt:d<a.tmps.size:=by rw[h3.1];exact Nat.le_of_ble_eq_true hd
   simp[a1,a0,Act.put,Array.getElem?_setIfInBounds,hlt,hnj]
  ·rw[Env.zas _ _ hi]at hv
   exact(hE1.step h2 f2).2 i v hv
 have:=k φ m' a1 (by rw[f4,h1]) f3 hE (by simpa [a1,a0,Act.put]using h4.step h2 f2)
 rw[<-f1]
 exact TO.zej f2 this
end rules
end Go.TL
