import Derived.Test.YtcbhlhmebbkgnaaGreatPk28
set_option linter.unusedSimpArgs false
set_option linter.unusedVariables false
namespace Go.Proofs.YtcbhlhmebbkgnaaGreat
open Go Go.TL
attribute [local irreducible] TR TO Then InBlock RetK Sound LoopK Kf GG ThenL
theorem dup_append:∀(a b pre:List Str),dupE pre (a++b)=if dupE pre a=0 then dupE (pre++a) b else dupE pre a
 | [],b,pre=>by simp[dupE]
 | s::a,b,pre=>by
   simp only[List.cons_append,dupE]
   by_cases h:s∈pre
   ·simp[h]
   ·simp only[h,if_false]
    rw[dup_append a b (pre++[s])]
    simp
theorem dup_next{l:List Str}{k:Nat}(hk:k<l.length)(h:dupE [] (l.take k)=0)(hn:l[k] ∉ l.take k):dupE [] (l.take (k+1))=0:=by
 rw[List.take_succ_eq_append_getElem hk,dup_append,if_pos h,List.nil_append,dupE,if_neg hn];rfl
theorem dup_bad{l:List Str}{k:Nat}(hk:k<l.length)(h:dupE [] (l.take k)=0)(hn:l[k]∈l.take k):dupE [] l=7:=by
 conv=>lhs;rw[<-List.take_append_drop k l]
 rw[dup_append,if_pos h,List.drop_eq_getElem_cons hk,List.nil_append,dupE,if_pos hn]
theorem firstOf_take{l:List (List Str×Int)}{k:Nat}(h:0<k):firstOf (l.take k)=firstOf l:=by
 cases l with
 | nil=>simp[firstOf]
 | cons x l=>
   obtain⟨k,rfl⟩:∃j,k=j+1:=⟨k-1,by omega⟩
   simp[firstOf]
theorem same_take{l:List (List Str×Int)}{k:Nat}(hk:k<l.length):sameAll (l.take (k+1))=(sameAll (l.take k) && alikeB l[k].1 (firstOf (l.take (k+1)))):=by
 unfold sameAll
 rw[firstOf_take (Nat.succ_pos k),List.take_succ_eq_append_getElem hk,List.all_append]
 cases k with
 | zero=>simp
 | succ k=>rw[firstOf_take (Nat.succ_pos k)];simp
theorem states_any(l:List Sta)(x:Sta):(l.any fun y=>y.name == x.name)=decide (x.name∈l.map Sta.name):=by
 rw[Bool.eq_iff_iff]
 simp only[List.any_eq_true,decide_eq_true_eq,List.mem_map,beq_iff_eq]
set_option maxHeartbeats 4000000 in
theorem au_sound (p:Prog) (n q:Int) (seen:List (Int×Str×Int)) (node:Int) (h:Ch) (hn1:h.N≠5) (hk0:h.ok) (hdl:h.top.defs.length≤1000000000) (F:List Str->List Str->Lv->Auto->Lv×Int) (au:Auto) (hw:(autoT au).w≤1000000000)
  (hst:∀s∈au.states,Sound Tryz.prog 190 [.ref 0 0,.i node,.ref h.id 0,.t (.ag (staC s))] (full p n q seen h) (Err (stS p seen node F h.vis (h.low++h.top.done) s).2 (.t (.sl 1 ((stS p seen node F h.vis (h.low++h.top.done) s).1.map T.s))) (failS n q (stS p seen node F h.vis (h.low++h.top.done) s).2) (full p n q seen h)))
  (hgood:∀s∈au.states,(stS p seen node F h.vis (h.low++h.top.done) s).2=0->(stS p seen node F h.vis (h.low++h.top.done) s).1.length≤1000000000/\∀x∈(stS p seen node F h.vis (h.low++h.top.done) s).1,x.length≤1000000000):
  SS 148 [.i node,.ref h.id 0,.t (.ag (autoC au))] p n q seen h (h.set ⟨h.top.own,(firstOf (au.states.map (stS p seen node F h.vis (h.low++h.top.done)))).foldl ins h.top.done,h.top.defs++firstOf (au.states.map (stS p seen node F h.vis (h.low++h.top.done)))⟩)
   (orE (dupE [] (au.states.map Sta.name)) (orE (firstE Prod.snd (au.states.map (stS p seen node F h.vis (h.low++h.top.done)))) (if sameAll (au.states.map (stS p seen node F h.vis (h.low++h.top.done)))=true then 0 else 8))):=by
 have hset:=fun{x:Lv} (hx:x.ok)=>Ch.ok_set hk0 hx
 have ht0:=Ch.ok_top hk0
 clear hk0
 revert hn1 hset ht0 hdl hst hgood
 revert h
 refine Ch.lt fun h=>?_
 cases h
 case one=>intro g hn1;exact absurd rfl hn1
 all_goals
  intro g hn1 hdl hst hgood hset ht0
  clear hn1
  have hwa:=w_auto au
  have hlb:au.states.length≤1000000000:=by have:=w_lenM staT 6 au.states;omega
  clear hwa hw
  unfold autoC
  generalize au.states=l at*
  have hml:(l.map staT).length=l.length:=List.length_map _
  have hrl:(l.map (stS p seen node F g.vis (g.low++g.top.done))).length=l.length:=List.length_map _
  have hnl:(l.map Sta.name).length=l.length:=List.length_map _
  have hz:orE (dupE [] (l.map Sta.name)) (orE (firstE Prod.snd (l.map (stS p seen node F g.vis (g.low++g.top.done)))) (if sameAll (l.map (stS p seen node F g.vis (g.low++g.top.done)))=true then 0 else 8))=orE (dupE [] (l.map Sta.name)) (orE (firstE Prod.snd (l.map (stS p seen node F g.vis (g.low++g.top.done)))) (if sameAll (l.map (stS p seen node F g.vis (g.low++g.top.done)))=true then 0 else 8)):=rfl
  conv at hz=>rhs;simp only[orE]
  generalize hzz:orE (dupE [] (l.map Sta.name)) (orE (firstE Prod.snd (l.map (stS p seen node F g.vis (g.low++g.top.done)))) (if sameAll (l.map (stS p seen node F g.vis (g.low++g.top.done)))=true then 0 else 8))=z at hz⊢
  clear hzz
  refine Sound.err rfl (fun _=>rfl) ?_
  refine Sound.of tabOk Tryz.func148 (by kernel_rfl) rfl rfl ?_
  refine TR.dead ?_
  repeat' (first|refine wkt ?_|refine wk ?_|exact wkc|intro hc|refine wk2 ?_ ?_|fail)
  refine TR.loopN l.length (fun k=>dupE [] ((l.map Sta.name).take k)=0) (fun k=>[(0,.ref 0 0),(1,.i node),(2,.ref g.id 0),(7,.cp [.sl 6 (l.map staT)] 0),(18,.t (.sl 6 (l.map staT))),(19,.i (l.map staT).length),(20,.i k)]) (fun _=>full p n q seen g) rfl (fun k hlt ha=>?_) (fun ha=>?_)
  ·have hx:=at_sta hlt
   have hkn:k<(l.map Sta.name).length:=by omega
   have hcon:=conState_sound 189 [.cp (staC l[k]) 0] rfl (fun y=>y.name == l[k].name) (l.take k) (by simp;omega) (fun y=>staNamed_sound y l[k])
   rw[states_any,List.map_take,List.map_take]at hcon
   have g1:=dup_next hkn ha
   have g2:=dup_bad hkn ha
   rw[List.getElem_map]at g1 g2
   generalize l[k]=x at*
   unfold staC at hx hcon
   clear hst hgood
   by_cases hm:x.name∈(l.map Sta.name).take k
   ·rw[decide_eq_true hm]at hcon
    repeat' (first|refine wkt ?_|refine wka ?_|refine wkD ?_|refine wk ?_|exact wkc|intro hc|refine wk2 ?_ ?_|refine wsx ?_|refine wms ?_|refine wsy ?_ ?_|(apply TO.slice_hi tabOk;exact rfl;exact rfl;exact rfl;exact rfl;exact rfl;omega)|(apply TO.callV hcon;exact rfl;exact rfl;exact rfl;exact Les.refl _;exact rfl;exact rfl)|fail)
    (repeat' (first|refine LoopK.panic ?_|refine wk ?_|fail));apply retS
    ·decide
    ·rw[hz,g2 hm];rfl
    ·exact Nat.le_of_ble_eq_true rfl
   ·rw[decide_eq_false hm]at hcon
    repeat' (first|refine wkt ?_|refine wka ?_|refine wkD ?_|refine wk ?_|exact wkc|intro hc|refine wk2 ?_ ?_|refine wsx ?_|refine wms ?_|refine wsy ?_ ?_|(apply TO.slice_hi tabOk;exact rfl;exact rfl;exact rfl;exact rfl;exact rfl;omega)|(apply TO.callV hcon;exact rfl;exact rfl;exact rfl;exact Les.refl _;exact rfl;exact rfl)|fail)
    exact LoopK.nextN hlt (g1 hm)
  have ed:dupE [] (l.map Sta.name)=0:=by rw[<-hnl,List.take_length]at ha;exact ha
  rw[ed]at hz
  refine wk ?_
  repeat' (first|refine wkt ?_|refine wk ?_|exact wkc|intro hc|refine wk2 ?_ ?_|fail)
  refine TR.less 10 (v':=.t (.sl 1 [])) rfl (Le.nil 1) ?_
  have hgd:∀k (hk:k<l.length) r,(l.map (stS p seen node F g.vis (g.low++g.top.done)))[k]?=some r->stS p seen node F g.vis (g.low++g.top.done) l[k]=r:=fun k hk r hr=>by
   rw[List.getElem?_map,List.getElem?_eq_getElem hk]at hr
   exact Option.some.inj hr
  have hf1:firstE Prod.snd (l.map (stS p seen node F g.vis (g.low++g.top.done)))=0->(firstOf (l.map (stS p seen node F g.vis (g.low++g.top.done)))).length≤1000000000/\∀x∈firstOf (l.map (stS p seen node F g.vis (g.low++g.top.done))),x.length≤1000000000:=by
   intro h0
   cases l with
   | nil=>exact⟨by simp[firstOf],by simp[firstOf]⟩
   | cons s r=>
     have:(stS p seen node F g.vis (g.low++g.top.done) s).2=0:=by
      rw[List.map_cons,firstE]at h0
      split at h0
      ·assumption
      ·exact h0
     exact hgood s (by simp) this
  have hrg:∀k (hk:k<l.length),((stS p seen node F g.vis (g.low++g.top.done) l[k])).2=0->(stS p seen node F g.vis (g.low++g.top.done) l[k]).1.length≤1000000000:=fun k hk h0=>(hgood _ (List.getElem_mem hk) h0).1
  have hss:∀k (hk:k<l.length),Sound Tryz.prog 190 [.ref 0 0,.i node,.ref g.id 0,.t (.ag (staC l[k]))] (full p n q seen g) (Err (stS p seen node F g.vis (g.low++g.top.done) l[k]).2 (.t (.sl 1 ((stS p seen node F g.vis (g.low++g.top.done) l[k]).1.map T.s))) (failS n q (stS p seen node F g.vis (g.low++g.top.done) l[k]).2) (full p n q seen g)):=fun k hk=>hst _ (List.getElem_mem hk)
  have hfl0:∀k,0<k->firstE Prod.snd ((l.map (stS p seen node F g.vis (g.low++g.top.done))).take k)=0->(firstOf ((l.map (stS p seen node F g.vis (g.low++g.top.done))).take k)).length≤1000000000:=by
   intro k hk h0
   cases l with
   | nil=>simp[firstOf]
   | cons s r=>
     obtain⟨k,rfl⟩:∃j,k=j+1:=⟨k-1,by omega⟩
     have:(stS p seen node F g.vis (g.low++g.top.done) s).2=0:=by
      rw[List.map_cons,List.take_succ_cons,firstE]at h0
      split at h0
      ·assumption
      ·exact h0
     exact(hgood s (by simp) this).1
  clear hst hgood
  generalize hrs:l.map (stS p seen node F g.vis (g.low++g.top.done))=rs at*
  refine TR.loopN l.length (fun k=>firstE Prod.snd (rs.take k)=0) (fun k=>[(0,.ref 0 0),(1,.i node),(2,.ref g.id 0),(7,.cp [.sl 6 (l.map staT)] 0),(10,.t (.sl 1 ((firstOf (rs.take k)).map T.s))),(11,.b (sameAll (rs.take k))),(36,.t (.sl 6 (l.map staT))),(37,.i (l.map staT).length),(38,.i k)]) (fun _=>full p n q seen g) rfl (fun k hlt ha=>?_) (fun ha=>?_)
  ·have hx:=at_sta hlt
   have hkr:k<rs.length:=by omega
   have g1:=firstE_at (f:=Prod.snd) hkr ha
   have g2:=firstE_next (f:=Prod.snd) hkr ha
   have g3:=same_take hkr
   have hs:=hss k hlt
   have hg:=hrg k hlt
   rw[hgd k hlt _ (List.getElem?_eq_getElem hkr)]at hs hg
   have hfk:=hfl0 k
   have hfk1:k=0->firstOf (rs.take (k+1))=rs[k].1:=fun h0=>by
    subst h0
    cases rs with
    | nil=>simp at hkr
    | cons r rr=>rfl
   have hfk2:k≠0->firstOf (rs.take (k+1))=firstOf (rs.take k):=fun h0=>by rw[firstOf_take (Nat.succ_pos k),firstOf_take (by omega)]
   clear hss hrg hgd hfl0
   generalize rs[k]=r at*
   generalize l[k]=x at*
   generalize firstOf (rs.take k)=fs at*
   generalize hfs1:firstOf (rs.take (k+1))=fs1 at*
   obtain⟨r1,r2⟩:=r
   simp only at hs hg g1 g2 g3 hfk1
   by_cases hr2:r2=0
   ·subst hr2
    have hrl1:=hg rfl
    have hal:=alike_sound r1 fs1 hrl1 (by
     by_cases h0:k=0
     ·rw[hfk1 h0];exact hrl1
     ·rw[hfk2 h0];exact hfk (by omega) ha)
    unfold staC at hx hs
    generalize sameAll (rs.take k)=sm at*
    by_cases h0:k=0
    ·have hf:=hfk1 h0
     subst hf
     clear hfk1 hfk2
     cases sm
     all_goals
      repeat' (first|refine wkt ?_|refine wka ?_|refine wkD ?_|refine wk ?_|exact wkc|intro hc|refine wk2 ?_ ?_|refine wsx ?_|refine wms ?_|refine wsy ?_ ?_|refine wss hs ?_ ?_|refine wb hal ?_ ?_|fail)
     all_goals first
      | (exfalso;omega)
      | (refine LoopK.nextN hlt (g2 rfl) ?_
         simp only[Bool.false_and,Bool.true_and]at g3
         first|rw[hc]at g3|skip
         simp only[hfs1,g3]
         repeat' (first|exact trivial|refine And.intro rfl ?_|fail))
    ·have hf:=hfk2 h0
     subst hf
     clear hfk1 hfk2
     cases sm
     all_goals
      repeat' (first|refine wkt ?_|refine wka ?_|refine wkD ?_|refine wk ?_|exact wkc|intro hc|refine wk2 ?_ ?_|refine wsx ?_|refine wms ?_|refine wsy ?_ ?_|refine wss hs ?_ ?_|refine wb hal ?_ ?_|fail)
     all_goals first
      | (exfalso;omega)
      | (refine LoopK.nextN hlt (g2 rfl) ?_
         simp only[Bool.false_and,Bool.true_and]at g3
         first|rw[hc]at g3|skip
         simp only[hfs1,g3]
         repeat' (first|exact trivial|refine And.intro rfl ?_|fail))
   ·unfold staC at hx hs
    repeat' (first|refine wkt ?_|refine wka ?_|refine wkD ?_|refine wk ?_|exact wkc|intro hc|refine wk2 ?_ ?_|refine wsx ?_|refine wms ?_|refine wsy ?_ ?_|refine wss hs ?_ ?_|fail)
    all_goals first
     | exact absurd hc hr2
     | ((repeat' (first|refine LoopK.panic ?_|refine wk ?_|fail));apply retS;(first|assumption|decide);(clear hs hx;first|grind|grind [orE]);(first|exact Nat.le_of_ble_eq_true rfl|exact Nat.le_refl _|(simp[Ch.len];done)|(simp[Ch.len];omega)))
  have e1:firstE Prod.snd rs=0:=by rw[<-hrl,List.take_length]at ha;exact ha
  rw[<-hrl,List.take_length]
  rw[e1]at hz
  obtain⟨hfl,hfs⟩:=hf1 e1
  clear hss hrg hgd hfl0 hf1
  generalize firstOf rs=fs at*
  generalize sameAll rs=sm at*
  clear hrs
  cases sm
  ·repeat' (first|refine wkt ?_|refine wka ?_|refine wkD ?_|refine wk ?_|exact wkc|intro hc|refine wk2 ?_ ?_|refine wsx ?_|refine wms ?_|refine wsy ?_ ?_|fail|fail)
   all_goals((repeat' (first|refine LoopK.panic ?_|refine wk ?_|fail));apply retS;(first|assumption|decide);(clear hml;first|grind|grind [orE]);(first|exact Nat.le_of_ble_eq_true rfl|exact Nat.le_refl _|(simp[Ch.len];done)|(simp[Ch.len];omega)))
  ·rw[if_pos rfl]at hz
   repeat' (first|refine wkt ?_|refine wka ?_|refine wkD ?_|refine wk ?_|exact wkc|intro hc|refine wk2 ?_ ?_|refine wsx ?_|refine wms ?_|refine wsy ?_ ?_|fail|fail)
   have hml2:(fs.map T.s).length=fs.length:=List.length_map _
   have hins:∀(l:List Str) (d:List Str),SetOk d->(∀x∈l,x.length≤1000000000)->SetOk (l.foldl ins d):=by
    intro l
    induction l with
    | nil=>intro d hd _;exact hd
    | cons y l ih=>intro d hd hl;exact ih _ (hd.ins (hl y (by simp))) (fun x hx=>hl x (by simp[hx]))
   refine TR.loopN fs.length (fun _=>True) (fun k=>[(0,.ref 0 0),(1,.i node),(2,.ref g.id 0),(7,.cp [.sl 6 (l.map staT)] 0),(10,.t (.sl 1 (fs.map T.s))),(61,.t (.sl 1 (fs.map T.s))),(62,.i (fs.map T.s).length),(63,.i k)]) (fun k=>full p n q seen (g.set ⟨g.top.own,(fs.take k).foldl ins g.top.done,g.top.defs⟩)) trivial (fun k hlt _=>?_) (fun _=>?_)
   ·have hx:=at_s hlt
    have hno:=hfs _ (List.getElem_mem hlt)
    have hdn:=hins (fs.take k) g.top.done ht0.done (fun x hx=>hfs x (List.mem_of_mem_take hx))
    have g2:(fs.take (k+1)).foldl ins g.top.done=ins ((fs.take k).foldl ins g.top.done) fs[k]:=by rw[List.take_succ_eq_append_getElem hlt,List.foldl_append];rfl
    generalize (fs.take k).foldl ins g.top.done=dn at*
    generalize fs[k]=x at*
    repeat' (first|refine wkt ?_|refine wka ?_|refine wkD ?_|refine wk ?_|exact wkc|intro hc|refine wk2 ?_ ?_|refine wsx ?_|refine wms ?_|refine wsy ?_ ?_|fail|fail)
    refine LoopK.nextN hlt trivial ?_ (by rw[g2];rfl)
    repeat' (first|exact trivial|refine And.intro rfl ?_|fail)
   ·rw[List.take_length]
    have hl1:(g.top.defs.map T.s).length=g.top.defs.length:=List.length_map _
    have hma:(g.top.defs++fs).map T.s=g.top.defs.map T.s++fs.map T.s:=List.map_append
    generalize fs.foldl ins g.top.done=dn at*
    have hone:(fs.map T.s).all T.one=true:=by simp[T.one]
    repeat' (first|refine wkt ?_|refine wka ?_|refine wkD ?_|refine wk ?_|exact wkc|intro hc|refine wk2 ?_ ?_|refine wsx ?_|refine wms ?_|refine wsy ?_ ?_|(apply TO.append_row tabOk;exact rfl;exact rfl;exact rfl;exact rfl;exact rfl;exact rfl;exact rfl;exact rfl;exact rfl;(exact Nat.beq_refl _);exact rfl;exact rfl;exact hone;exact rfl;(show(g.top.defs.map T.s).length+(fs.map T.s).length≤_;omega);exact rfl)|fail)
    refine retSN (H1:=full p n q seen (g.set ⟨g.top.own,dn,g.top.defs++fs⟩)) hz rfl rfl ?_ rfl
    show _=full p n q seen (g.set ⟨g.top.own,dn,g.top.defs++fs⟩)
    simp only[g,full,Ch.set,Ch.top,Ch.heap,nmB,rowB,List.map_append]
    rfl
def exA:Nat->Auto->Prop
 | 0,_=>True
 | k+1,a=>∀s∈a.states,(∀u∈s.eqs,∀x∈flat u.right,ExOk x)/\(∀t∈s.unl,∀x∈flat t.cond,ExOk x)/\(∀t∈s.unt,∀x∈flat t.cond,ExOk x)/\∀b∈s.autos,exA k b
section
variable (p:Prog)(hp:SmallC p)(n q:Int)(seen:List (Int×Str×Int))(hse:SeenOk seen)(hsn:SeenN p seen)(node:Int)
include hp hse hsn
theorem auc:∀(k:Nat) (h:Ch) (hin:h.N+4*k=19) (hk:h.ok) (hd:h.top.defs.length≤1000000000) (au:Auto) (hw:(autoT au).w≤1000000000) (hn:nestOk k au) (hx:exA k au),
  SS 148 [.i node,.ref h.id 0,.t (.ag (autoC au))] p n q seen h (h.set (autoS p seen node k h.vis0 h.low h.top au).1) (autoS p seen node k h.vis0 h.low h.top au).2
 | 0,h,hin,hk,hd,au,hw,hn,hx=>hn.elim
 | k+1,h,hin,hk,hd,au,hw,hn,hx=>by
   have hws:∀s∈au.states,(staT s).w≤1000000000:=fun s hs=>by have:=w_inM (f:=staT) (sz:=6) hs;have:=w_auto au;omega
   have hwa:∀s∈au.states,∀bb∈s.autos,(autoT bb).w≤1000000000:=fun s hs bb hb=>by have:=w_inM (f:=autoT) (sz:=1) hb;have:=w_sta s;have:=hws s hs;omega
   have hgd:=fun s (hs:s∈au.states) own B tt bb (hb:bb∈s.autos)=>auto_good (p:=p) (seen:=seen) (node:=node) k (vis0:=h.vis) (low:=h.low++h.top.done) (own:=own) (B:=B) (t:=tt) (a:=bb) (hwa s hs bb hb)
   refine au_sound p n q seen node h (by omega) hk hd (autoS p seen node k) au hw (fun s hs=>?_) (fun s hs hz=>?_)
   ·refine st_sound p hp n q seen hse hsn node h (by omega) (by omega) hk (autoS p seen node k) s (hws s hs) (hgd s hs) (fun bb hb x hxo hxd hxs=>?_) (hx s hs).1 (hx s hs).2.1 (hx s hs).2.2.1
    have ih:=fun h1 h2 h3=>auc k (h.push x) h1 h2 h3 bb (hwa s hs bb hb) (hn s hs bb hb) ((hx s hs).2.2.2 bb hb)
    cases h
    case one=>simp[Ch.N]at hin;omega
    case c1=>exact ih (by simp[Ch.N,Ch.push]at *;omega) ⟨hk.1,hk.2,hxo⟩ hxd
    case c2=>exact ih (by simp[Ch.N,Ch.push]at *;omega) ⟨hk.1,hk.2.1,hk.2.2,hxo⟩ hxd
    case c3=>exact ih (by simp[Ch.N,Ch.push]at *;omega) ⟨hk.1,hk.2.1,hk.2.2.1,hk.2.2.2,hxo⟩ hxd
    case c4=>simp[Ch.N]at hin
   ·have:=st_good (F:=autoS p seen node k) (hws s hs) (hgd s hs) hz
    have h2:=hws s hs
    exact⟨by omega,this.2⟩
end
section
variable {n:Nat}{env:Env}{K:TK}{all:Array Oper}{rest:List Oper}{d:Nat}{ty:TypeId}{pos:String}{aft:Array Edge}{H:Heap}{args:Array Operand}{ts:Array TypeId}
theorem TO.concatV{ls:List (List Decl)}(hl:ls.length≤1000000)(hn:ls.flatten.length≤3000000000)(hd:Nat.ble (d+1) n=true)(ha:env.vals args.toList=some [.t (.sl 1 (ls.map dls))])
  (k:TO false Tryz.prog n all rest ((d,.t (dls ls.flatten))::env) (H++[.dead]) K):
  TO false Tryz.prog n all (⟨some d,.call { callee:=.value (.func 52),args:=args,argTypes:=ts },ty,pos,aft,none⟩::rest) env H K:=by
 by_cases h0:ls.flatten=[]
 ·refine TO.callV (concat0_sound ls hl h0) hd rfl ha (Les.refl _) rfl rfl ?_
  refine TO.less d (v':=.t (dls [])) (by rw[Env.look_cons_same]) (Le.nil 3) ?_
  refine TO.shadow (TO.addDead ?_)
  rw[h0]at k;exact k
 ·have h1:1≤ls.flatten.length:=by
   cases hv:ls.flatten with
   | nil=>exact absurd hv h0
   | cons a l=>simp
  have hc:=concat_sound ls hl hn h1
  generalize ls.flatten=L at*
  have hcl:(declCs L).length=L.length*3:=declCs_len L
  refine TO.callMs (tl:=declCs L) hc hd rfl ha (Les.refl _) rfl ?_
  refine TO.freezeP d 3 H.length L.length (cs:=(declCs L).map .t) (es:=L.map declT) (by rw[Env.look_cons_same]) (by simp) (by simp[hcl]) (fun j c hj=>hj) (by simp) (fun e he=>by obtain⟨x,_,rfl⟩:=List.mem_map.1 he;rfl) rfl rfl ?_
  refine TO.shadow ?_
  rw[show(H++[Blk.cells ((declCs L).map SV.t)]).set H.length .dead=H++[.dead] from by rw[List.set_append_right _ _ (Nat.le_refl _),Nat.sub_self];rfl]
  exact k
end
def seeL(L:List Decl):Lv:=⟨(L.map Decl.name).foldl ins [],[],[]⟩
def claimE(p:Prog)(seen:List (Int×Str×Int))(node:Int)(L:List Decl)(l:List Ex):Int:=firstE (exprS p seen node (seeL L).own 1) l
theorem claims_sound(p:Prog)(hp:SmallC p)(n q:Int)(seen:List (Int×Str×Int))(hse:SeenOk seen)(hsn:SeenN p seen)(node:Int)(l:List Ex)(ls:List (List Decl))(hl:ls.length≤1000000)(hwl:(dls ls.flatten).w≤1000000000)(hw:(T.sl 6 (l.map exT)).w≤1000000000)(hex:∀e∈l,∀x∈flat e,ExOk x):
  Sound Tryz.prog 149 [.ref 0 0,.i node,.t (.sl 6 (l.map exT)),.t (.sl 1 (ls.map dls))] [lkB p n q,seenB seen] (Err (claimE p seen node ls.flatten l) (.tup []) (failS n q (claimE p seen node ls.flatten l)) [lkB p n q,seenB seen]):=by
 have hfl:ls.flatten.length≤1000000000:=by have:=w_lenM declT 3 ls.flatten;have:(dls ls.flatten).w=(T.sl 3 (ls.flatten.map declT)).w:=rfl;omega
 have hex2:l.length≤1000000000:=by have:=w_lenM exT 6 l;omega
 have hm1:(ls.flatten.map declT).length=ls.flatten.length:=List.length_map _
 have hm2:(l.map exT).length=l.length:=List.length_map _
 unfold claimE
 refine Sound.err rfl (fun _=>rfl) ?_
 refine Sound.of tabOk Tryz.func149 (by kernel_rfl) rfl rfl ?_
 refine TR.dead ?_
 repeat' (first|refine wkt ?_|refine wk ?_|(apply TO.callW (inner_nil p n q seen);exact rfl;exact rfl;exact rfl;exact Les.refl _)|(apply TO.concatV hl (by omega);exact rfl;exact rfl)|fail)
 generalize ls.flatten=L at*
 have hnm:∀x∈L,x.name.length≤1000000000:=fun x hx=>by have:=(name_decl hx).1;have:(dls L).w=(declsT L).w:=rfl;omega
 have hins:∀k,SetOk (((L.take k).map Decl.name).foldl ins []):=by
  have:∀(l:List Decl) (d:List Str),SetOk d->(∀x∈l,x.name.length≤1000000000)->SetOk ((l.map Decl.name).foldl ins d):=by
   intro l
   induction l with
   | nil=>intro d hd _;exact hd
   | cons y l ih=>intro d hd hl;exact ih _ (hd.ins (hl y (by simp))) (fun x hx=>hl x (by simp[hx]))
  exact fun k=>this _ [] SetOk.nil (fun x hx=>hnm x (List.mem_of_mem_take hx))
 refine TR.loopN L.length (fun _=>True) (fun k=>[(0,.ref 0 0),(1,.i node),(2,.t (.sl 6 (l.map exT))),(8,.ref 4 0),(15,.t (dls L)),(16,.i (L.map declT).length),(17,.i k)]) (fun k=>full p n q seen (.one (seeL (L.take k)))++[.dead]) trivial (fun k hlt _=>?_) (fun _=>?_)
 ·have hx:=at_decl hlt
  have hno:=hnm _ (List.getElem_mem hlt)
  have hdn:=hins k
  have g2:seeL (L.take (k+1))=⟨ins ((L.take k).map Decl.name |>.foldl ins []) L[k].name,[],[]⟩:=by
   unfold seeL;rw[List.take_succ_eq_append_getElem hlt,List.map_append,List.foldl_append];rfl
  have g1:seeL (L.take k)=⟨((L.take k).map Decl.name).foldl ins [],[],[]⟩:=rfl
  rw[g1]
  generalize ((L.take k).map Decl.name).foldl ins []=dn at*
  generalize L[k]=x at*
  unfold declC at hx
  repeat' (first|refine wkt ?_|refine wka ?_|refine wkD ?_|refine wk ?_|exact wkc|intro hc|refine wk2 ?_ ?_|refine wsx ?_|refine wms ?_|refine wsy ?_ ?_|fail|fail)
  refine LoopK.nextN hlt trivial ?_ (by rw[g2];rfl)
  repeat' (first|exact trivial|refine And.intro rfl ?_|fail)
 have hk:(Ch.one (seeL L)).ok:=by
  have:=hins L.length
  rw[List.take_length]at this
  exact⟨this,SetOk.nil⟩
 rw[List.take_length]
 have hvis:Ch.vis (.one (seeL L))=(seeL L).own:=rfl
 generalize seeL L=A at*
 refine wk ?_
 repeat' (first|refine wkt ?_|refine wk ?_|exact wkc|intro hc|refine wk2 ?_ ?_|fail)
 refine TR.loopN l.length (fun k=>firstE (exprS p seen node A.own 1) (l.take k)=0) (fun k=>[(0,.ref 0 0),(1,.i node),(8,.ref 4 0),(28,.t (.sl 6 (l.map exT))),(29,.i (l.map exT).length),(30,.i k)]) (fun k=>full p n q seen (.one A)++[.dead]) rfl (fun k hlt ha=>?_) (fun ha=>?_)
 ·have hx:=at_exT hlt
  have g1:=firstE_at (f:=exprS p seen node A.own 1) hlt ha
  have g2:=firstE_next (f:=exprS p seen node A.own 1) hlt ha
  have hwx:wEx l[k]≤1000000000:=by have:=wEx_le l[k];have:=w_inM (f:=exT) (sz:=6) (List.getElem_mem hlt);omega
  have hs:=expr_sound p hp n q seen hse hsn node 1 (.one A) hk l[k] hwx (hex _ (List.getElem_mem hlt))
  rw[hvis]at hs
  generalize l[k]=x at*
  generalize exprS p seen node A.own 1 x=z at*
  unfold exC at hx hs
  repeat' (first|refine wkt ?_|refine wka ?_|refine wkD ?_|refine wk ?_|exact wkc|intro hc|refine wk2 ?_ ?_|refine wsx ?_|refine wms ?_|refine wsy ?_ ?_|refine wss hs ?_ ?_|fail)
  ·exact LoopK.nextN hlt (g2 hc)
  ·((repeat' (first|refine LoopK.panic ?_|refine wk ?_|fail));apply retS;(first|assumption|decide);(clear hx hs;first|grind|grind [orE]);(first|exact Nat.le_of_ble_eq_true rfl|exact Nat.le_refl _|(simp[Ch.len];done)|(simp[Ch.len];omega)))
 ·have e1:=firstE_all ha
  refine wk ?_
  repeat' (first|refine wkt ?_|refine wk ?_|exact wkc|intro hc|refine wk2 ?_ ?_|fail)
  exact retSN e1 rfl rfl rfl rfl
theorem add_sound(p:Prog)(n q:Int)(seen:List (Int×Str×Int))(hse:SeenOk seen)(k v:Int)(hkk:0≤k/\k≤2)(nm:Str)(hno:nm.length≤1000000000):
  Sound Tryz.prog 98 [.ref 0 0,.t (.ag [.i k,.s nm]),.i v] [lkB p n q,seenB seen] (Err (if(seenGet seen k nm).isSome=true then 7 else 0) (.tup []) (failS n q (if(seenGet seen k nm).isSome=true then 7 else 0)) [lkB p n q,seenB (seen++[(k,nm,v)])]):=by
 cases hg:seenGet seen k nm with
 | none=>
   refine Sound.err rfl (fun _=>rfl) ?_
   refine Sound.of tabOk Tryz.func98 (by kernel_rfl) rfl rfl ?_
   refine TR.dead ?_
   repeat' (first|refine wkt ?_|refine wka ?_|refine wkD ?_|refine wk ?_|exact wkc|intro hc|refine wk2 ?_ ?_|refine wsx ?_|refine wms ?_|refine wsy ?_ ?_|(apply TO.seenNo;exact rfl;exact rfl;exact rfl;exact rfl;assumption;assumption;assumption;assumption)|(apply TO.seenPut;exact rfl;exact rfl;exact rfl;exact rfl;assumption;assumption;assumption;assumption;exact rfl)|fail)
   exact retSN rfl rfl rfl rfl rfl
 | some w=>
   refine Sound.err rfl (fun _=>rfl) ?_
   refine Sound.of tabOk Tryz.func98 (by kernel_rfl) rfl rfl ?_
   refine TR.dead ?_
   repeat' (first|refine wkt ?_|refine wka ?_|refine wkD ?_|refine wk ?_|exact wkc|intro hc|refine wk2 ?_ ?_|refine wsx ?_|refine wms ?_|refine wsy ?_ ?_|(apply TO.seenS;exact rfl;exact rfl;exact rfl;exact rfl;assumption;assumption;assumption;assumption)|fail)
   (apply retB;decide;rfl;exact rfl)
def foldN{α β:Type}(f:β->α->β×Int):β->List α->Int
 | _,[]=>0
 | a,x::l=>if(f a x).2=0 then foldN f (f a x).1 l+1 else 0
theorem foldN_at{α β:Type}{f:β->α->β×Int}:∀ {l:List α} {a:β} {k:Nat} (hk:k<l.length),(foldS f a (l.take k)).2=0->(f (foldS f a (l.take k)).1 l[k]).2≠0->foldN f a l=k
 | x::l,a,0,hk,h,hn=>by
   simp only[List.take_zero,foldS,List.getElem_cons_zero]at hn
   rw[foldN,if_neg hn];rfl
 | x::l,a,k+1,hk,h,hn=>by
   rw[List.take_succ_cons,foldS]at h
   by_cases h0:(f a x).2=0
   ·rw[if_pos h0]at h
    have hn':(f (foldS f (f a x).1 (l.take k)).1 (l[k]'(by simpa using hk))).2≠0:=by
     rw[List.take_succ_cons,foldS,if_pos h0]at hn
     simpa using hn
    rw[foldN,if_pos h0,foldN_at (by simpa using hk) h hn']
    omega
   ·rw[if_neg h0]at h;exact absurd h h0
def nodeS(p:Prog)(seen:List (Int×Str×Int))(i:Int)(n:Nod):Int×Int:=
 let inp:=(n.ins.map Decl.name).foldl ins []
 let r1:=declS seen [] lv0 (varsL n)
 let r2:=foldS (equS p seen i [] inp) r1.1 n.eqs
 let r3:=foldS (autoS p seen i 3 [] inp) r2.1 n.autos
 if r1.2≠0 then(-1,r1.2) else if samplE r1.1.own n.locals≠0 then(-1,samplE r1.1.own n.locals) else if r2.2≠0 then(foldN (equS p seen i [] inp) r1.1 n.eqs,r2.2) else
 (-1,orE r3.2 (orE (claimE p seen i n.ins n.assume) (orE (claimE p seen i (n.ins++n.outs) n.ensure) (firstE (fun d:Decl=>if d.name∈r3.1.done then 0 else 8) (n.outs++n.locals)))))
def nodeT'(p:Prog)(seen:List (Int×Str×Int))(i:Int)(n:Nod):Int×Int:=
 if(seenGet seen 1 n.name).isSome=true then(-1,7) else nodeS p (seen++[(1,n.name,i)]) i n
structure NodOk (n:Nod):Prop where
 w:(nodT n).w≤100000000
 nest:∀a∈n.autos,nestOk 3 a
 exA:∀a∈n.autos,exA 3 a
 eqs:∀u∈n.eqs,∀x∈flat u.right,ExOk x
 assume:∀e∈n.assume,∀x∈flat e,ExOk x
 ensure:∀e∈n.ensure,∀x∈flat e,ExOk x
end Go.Proofs.YtcbhlhmebbkgnaaGreat
