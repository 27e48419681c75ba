import Derived.Test.YtlocalghkiepmaaGreatPk29
import Derived.Test.YtlocalghkiepmaaGreatPk30
import Derived.Test.YtlocalghkiepmaaGreatPk31
import Derived.Test.YtlocalghkiepmaaGreatPk34
set_option linter.unusedSimpArgs false
set_option linter.unusedVariables false
namespace Go.Proofs.YtlocalghkiepmaaGreat
open Go Go.TL
attribute [local irreducible] TR TO Then InBlock RetK Sound LoopK Kf GG ThenL
def stW(F:Nat->List Auto->Nat)(q n:Nat)(s:Sta):Nat:=
 if n+1+wD q s.locals+wE q s.eqs+wT q s.unl+wT q s.unt<q then n+1+wD q s.locals+wE q s.eqs+wT q s.unl+wT q s.unt+F (q-(n+1+wD q s.locals+wE q s.eqs+wT q s.unl+wT q s.unt)) s.autos else n+1+wD q s.locals+wE q s.eqs+wT q s.unl+wT q s.unt
def wgA:Nat->Nat->List Auto->Nat
 | 0,_,_=>0
 | m+1,q,l=>wgs (fun n a=>wgs (stW (wgA m) q) q a.states n) q l l.length
theorem decl_w8{l:List Decl}(h:(declsT l).w≤100000000):l.length≤100000000/\∀x∈l,(x.clock.map onT).length≤100000000/\x.name.length≤100000000:=by
 have h1:=w_lenM declT 3 l
 have h2:(declsT l).w=(T.sl 3 (l.map declT)).w:=rfl
 refine⟨by omega,fun x hx=>?_⟩
 have h3:=name_decl hx
 have h4:=w_lenM onT 3 x.clock
 rw[List.length_map]
 omega
theorem equ_w8{l:List Equ}(h:(T.sl 7 (l.map equT)).w≤100000000):l.length≤100000000/\∀x∈l,(x.left.map T.s).length≤100000000:=by
 have h1:=w_lenM equT 7 l
 refine⟨by omega,fun x hx=>?_⟩
 have h3:=w_inM (f:=equT) (sz:=7) hx
 have h4:=left_equ (q:=x)
 rw[List.length_map]
 omega
theorem ex_w8{l:List Ex}(h:(T.sl 6 (l.map exT)).w≤100000000):l.length≤100000000/\∀x∈l,wEx x≤1000000000:=by
 have h1:=w_lenM exT 6 l
 refine⟨by omega,fun x hx=>?_⟩
 have h3:=w_inM (f:=exT) (sz:=6) hx
 have h4:=wEx_le x
 omega
theorem tran_w8{l:List Tran}(h:(T.sl 8 (l.map tranT)).w≤100000000):l.length≤100000000/\∀x∈l,wEx x.cond≤1000000000:=by
 have h1:=w_lenM tranT 8 l
 refine⟨by omega,fun x hx=>?_⟩
 have h3:=w_inM (f:=tranT) (sz:=8) hx
 have h4:=wEx_tran (t:=x)
 omega
theorem stW_le{F:Nat->List Auto->Nat}{B q n:Nat}(hF:∀(q:Nat),q≤1500->∀l:List Auto,(T.sl 1 (l.map autoT)).w≤100000000->F q l≤B)(hB:1000000000≤B)(hq:q≤1500)(hn:n<q){s:Sta}(hs:(staT s).w≤100000000):stW F q n s≤B+2000:=by
 have w4:=w_sta s
 have d:=decl_w8 (l:=s.locals) (by omega)
 have e:=equ_w8 (l:=s.eqs) (by omega)
 have t1:=tran_w8 (l:=s.unl) (by omega)
 have t2:=tran_w8 (l:=s.unt) (by omega)
 have b1:=wD_le hq d.1 d.2
 have b2:=wE_le hq e.1 e.2
 have b3:=wT_le hq t1.1 t1.2
 have b4:=wT_le hq t2.1 t2.2
 unfold stW
 generalize wD q s.locals=a1 at*
 generalize wE q s.eqs=a2 at*
 generalize wT q s.unl=a3 at*
 generalize wT q s.unt=a4 at*
 split
 ·have:=hF (q-(n+1+a1+a2+a3+a4)) (by omega) s.autos (by omega)
  omega
 ·omega
theorem auW_le{F:Nat->List Auto->Nat}{B q n:Nat}(hF:∀(q:Nat),q≤1500->∀l:List Auto,(T.sl 1 (l.map autoT)).w≤100000000->F q l≤B)(hB:1000000000≤B)(hq:q≤1500)(hn:n≤B){l:List Sta}(hs:∀s∈l,(staT s).w≤100000000):wgs (stW F q) q l n≤B+2000:=
 wgs_le l n (by omega) fun n hn s h=>stW_le hF hB hq hn (hs s h)
theorem wgA_le:∀(m:Nat) (q:Nat),q≤1500->∀l:List Auto,(T.sl 1 (l.map autoT)).w≤100000000->wgA m q l≤1000000000+2000*m
 | 0,q,hq,l,hw=>by simp[wgA]
 | m+1,q,hq,l,hw=>by
   have h1:=w_lenM autoT 1 l
   obtain⟨B,hB⟩:∃B,B=1000000000+2000*(m+1):=⟨_,rfl⟩
   rw[<-hB]
   unfold wgA
   refine wgs_le l _ (by omega) fun n hn a ha=>?_
   have w1:=w_inM (f:=autoT) (sz:=1) ha
   have w2:=w_auto a
   have:=auW_le (n:=n) (wgA_le m) (by omega) hq (by omega) (l:=a.states) fun s hs=>by have:=w_inM (f:=staT) (sz:=6) hs;omega
   omega
set_option maxHeartbeats 4000000 in
theorem wgA_sound:∀(m:Nat) (l:List Auto),m≤100000000->(T.sl 1 (l.map autoT)).w≤m->∀q:Nat,1≤q->q≤1500->Pure Tryz.prog 84 [.t (.sl 1 (l.map autoT)),.i q] (.i (wgA m q l:Nat)):=by
 intro m
 induction m with
 | zero=>intro l _ h;have:=w_lenM autoT 1 l;omega
 | succ m ih0=>
   intro l hm8 hw q hq1 hq
   have hml:(l.map autoT).length=l.length:=List.length_map _
   have hll:=w_lenM autoT 1 l
   have ih:=fun l h=>ih0 l (by omega) h
   clear ih0
   have hF:=wgA_le m
   rw[wgA]
   generalize wgA m=F at*
   have hsw:∀a∈l,∀s∈a.states,(staT s).w≤m:=fun a ha s hs=>by
    have w1:=w_inM (f:=autoT) (sz:=1) ha
    have w2:=w_auto a
    have w3:=w_inM (f:=staT) (sz:=6) hs
    omega
   refine Sound.of tabOk Tryz.func84 (by kernel_rfl) rfl rfl ?_
   repeat' (first|refine wkt ?_|refine wk ?_|exact wkc|intro hc|refine wk2 ?_ ?_|fail)
   refine TR.fin (id:=0) (EF:=[(5,.i (wgs (fun n (a:Auto)=>wgs (stW F q) q a.states n) q l l.length:Nat))]) (GF:=[]) (TR.loopN l.length (fun _=>True) (fun k=>[(0,.t (.sl 1 (l.map autoT))),(1,.i q),(5,.i (wgs (fun n (a:Auto)=>wgs (stW F q) q a.states n) q (l.take k) l.length:Nat)),(6,.i k)]) (fun _=>[]) trivial (fun k hlt _=>?_) (fun _=>?_) ⟨rfl,rfl,by rw[<-hml];rfl,rfl,trivial⟩) ?_
   ·have hat:=at_auto hlt
    have hak:=hsw _ (List.getElem_mem hlt)
    have hb:wgs (fun n (a:Auto)=>wgs (stW F q) q a.states n) q (l.take k) l.length≤1000000000+2000*m+2000:=wgs_le _ _ (by omega) fun n hn a ha=>auW_le hF (by omega) hq (by omega) fun s hs=>by have:=hsw a (List.mem_of_mem_take ha) s hs;omega
    by_cases hn:wgs (fun n (a:Auto)=>wgs (stW F q) q a.states n) q (l.take k) l.length<q
    ·have hs:=wgs_take hlt hn
     generalize wgs (fun n (a:Auto)=>wgs (stW F q) q a.states n) q (l.take k) l.length=n at*
     have hln:l[k].states.length≤1000000000:=by
      have w1:=w_inM (f:=autoT) (sz:=1) (List.getElem_mem hlt)
      have w2:=w_auto l[k]
      have w3:=w_lenM staT 6 l[k].states
      omega
     generalize l[k]=a at*
     have hma:(a.states.map staT).length=a.states.length:=List.length_map _
     unfold autoC at hat
     repeat' (first|refine wkt ?_|refine wk ?_|exact wkc|intro hc|refine wk2 ?_ ?_|fail)
     refine TR.fin (id:=2) (EF:=[(0,.t (.sl 1 (l.map autoT))),(1,.i q),(6,.i k),(5,.i (wgs (stW F q) q a.states n:Nat))]) (GF:=[]) (TR.loopN a.states.length (fun _=>True) (fun j=>[(0,.t (.sl 1 (l.map autoT))),(1,.i q),(6,.i k),(5,.i (wgs (stW F q) q (a.states.take j) n:Nat)),(7,.i j)]) (fun _=>[]) trivial (fun j hlj _=>?_) (fun _=>?_)) ?_
     ·have hat2:=at_sta hlj
      have hsk:=hak _ (List.getElem_mem hlj)
      have hb2:wgs (stW F q) q (a.states.take j) n≤1000000000+2000*m+2000:=auW_le hF (by omega) hq (by omega) fun s hs=>by have:=hak s (List.mem_of_mem_take hs);omega
      by_cases hn2:wgs (stW F q) q (a.states.take j) n<q
      ·have hs2:=wgs_take hlj hn2
       generalize wgs (stW F q) q (a.states.take j) n=n2 at*
       generalize a.states[j]=s at*
       rw[stW.eq_1 F q n2 s]at hs2
       have w4:=w_sta s
       have d:=decl_w8 (l:=s.locals) (by omega)
       have e:=equ_w8 (l:=s.eqs) (by omega)
       have t1:=tran_w8 (l:=s.unl) (by omega)
       have t2:=tran_w8 (l:=s.unt) (by omega)
       have b1:=wD_le hq d.1 d.2
       have b2:=wE_le hq e.1 e.2
       have b3:=wT_le hq t1.1 t1.2
       have b4:=wT_le hq t2.1 t2.2
       have c1:=wD_sound q hq1 hq s.locals d.1 d.2
       have c2:=wE_sound q hq1 hq s.eqs e.1 e.2
       have c3:=wT_sound q hq1 hq s.unl t1.1 t1.2
       have c4:=wT_sound q hq1 hq s.unt t2.1 t2.2
       have hi:=ih s.autos (by omega)
       have hFs:=fun q' hq'=>hF q' hq' s.autos (by omega)
       clear ih hF hak hsw d e t1 t2 w4
       generalize wD q s.locals=a1 at*
       generalize wE q s.eqs=a2 at*
       generalize wT q s.unl=a3 at*
       generalize wT q s.unt=a4 at*
       unfold staC at hat2
       by_cases hn3:n2+1+a1+a2+a3+a4<q
       ·rw[if_pos hn3]at hs2
        have hi:=hi (q-(n2+1+a1+a2+a3+a4)) (by omega) (by omega)
        have hFs:=hFs (q-(n2+1+a1+a2+a3+a4)) (by omega)
        generalize F (q-(n2+1+a1+a2+a3+a4)) s.autos=fz at*
        rw[show((q-(n2+1+a1+a2+a3+a4):Nat):Int)=(q:Int)-((n2+1+a1+a2+a3+a4:Nat):Int) by omega]at hi
        repeat' (first|refine wkt ?_|refine wka ?_|refine rg [.i n2,.i (n2+1:Nat),.cp [.s s.name,declsT s.locals,.sl 7 (s.eqs.map equT),.sl 1 (s.autos.map autoT),.sl 8 (s.unl.map tranT),.sl 8 (s.unt.map tranT)] 1,.t (declsT s.locals),.i q,.i a1,.i (n2+1+a1:Nat),.cp [.s s.name,declsT s.locals,.sl 7 (s.eqs.map equT),.sl 1 (s.autos.map autoT),.sl 8 (s.unl.map tranT),.sl 8 (s.unt.map tranT)] 2,.t (.sl 7 (s.eqs.map equT)),.i q,.i a2,.i (n2+1+a1+a2:Nat),.cp [.s s.name,declsT s.locals,.sl 7 (s.eqs.map equT),.sl 1 (s.autos.map autoT),.sl 8 (s.unl.map tranT),.sl 8 (s.unt.map tranT)] 4,.t (.sl 8 (s.unl.map tranT)),.i q,.i a3,.i (n2+1+a1+a2+a3:Nat),.cp [.s s.name,declsT s.locals,.sl 7 (s.eqs.map equT),.sl 1 (s.autos.map autoT),.sl 8 (s.unl.map tranT),.sl 8 (s.unt.map tranT)] 5,.t (.sl 8 (s.unt.map tranT)),.i q,.i a4,.i (n2+1+a1+a2+a3+a4:Nat),.i (n2+1+a1+a2+a3+a4:Nat)] ?_ ?_|refine wv c1 ?_|refine wv c2 ?_|refine wv c3 ?_|refine wv c4 ?_|refine wv hi ?_|exact trivial|exact And.intro rfl rfl|refine And.intro (fun H env=>?_) ?_|refine wk ?_|exact wkc|intro hc|refine wk2 ?_ ?_|fail)
        exact LoopK.nextN hlj trivial ⟨rfl,rfl,rfl,by(try dsimp only);rw[hs2];rfl,rfl,trivial⟩
       ·rw[if_neg hn3]at hs2
        clear hi hFs
        repeat' (first|refine wkt ?_|refine wka ?_|refine rg [.i n2,.i (n2+1:Nat),.cp [.s s.name,declsT s.locals,.sl 7 (s.eqs.map equT),.sl 1 (s.autos.map autoT),.sl 8 (s.unl.map tranT),.sl 8 (s.unt.map tranT)] 1,.t (declsT s.locals),.i q,.i a1,.i (n2+1+a1:Nat),.cp [.s s.name,declsT s.locals,.sl 7 (s.eqs.map equT),.sl 1 (s.autos.map autoT),.sl 8 (s.unl.map tranT),.sl 8 (s.unt.map tranT)] 2,.t (.sl 7 (s.eqs.map equT)),.i q,.i a2,.i (n2+1+a1+a2:Nat),.cp [.s s.name,declsT s.locals,.sl 7 (s.eqs.map equT),.sl 1 (s.autos.map autoT),.sl 8 (s.unl.map tranT),.sl 8 (s.unt.map tranT)] 4,.t (.sl 8 (s.unl.map tranT)),.i q,.i a3,.i (n2+1+a1+a2+a3:Nat),.cp [.s s.name,declsT s.locals,.sl 7 (s.eqs.map equT),.sl 1 (s.autos.map autoT),.sl 8 (s.unl.map tranT),.sl 8 (s.unt.map tranT)] 5,.t (.sl 8 (s.unt.map tranT)),.i q,.i a4,.i (n2+1+a1+a2+a3+a4:Nat),.i (n2+1+a1+a2+a3+a4:Nat)] ?_ ?_|refine wv c1 ?_|refine wv c2 ?_|refine wv c3 ?_|refine wv c4 ?_|exact trivial|exact And.intro rfl rfl|refine And.intro (fun H env=>?_) ?_|refine wk ?_|exact wkc|intro hc|refine wk2 ?_ ?_|fail)
        exact LoopK.nextN hlj trivial ⟨rfl,rfl,rfl,by(try dsimp only);rw[hs2];rfl,rfl,trivial⟩
      ·have hs2:=wgs_done hn2
       generalize wgs (stW F q) q (a.states.take j) n=n2 at*
       rw[hs2]
       repeat' (first|refine wkt ?_|refine wk ?_|exact wkc|intro hc|refine wk2 ?_ ?_|fail)
       exact⟨rfl,⟨rfl,rfl,rfl,rfl,trivial⟩,rfl⟩
     ·rw[List.take_length]
      repeat' (first|refine wkt ?_|refine wk ?_|exact wkc|intro hc|refine wk2 ?_ ?_|fail)
      all_goals exact⟨rfl,⟨rfl,rfl,rfl,rfl,trivial⟩,rfl⟩
     ·repeat' (first|refine wkt ?_|refine wk ?_|exact wkc|intro hc|refine wk2 ?_ ?_|fail)
      exact LoopK.nextN hlt trivial ⟨rfl,rfl,by(try dsimp only);rw[hs];rfl,rfl,trivial⟩
    ·have hs:=wgs_done hn
     generalize wgs (fun n (a:Auto)=>wgs (stW F q) q a.states n) q (l.take k) l.length=n at*
     rw[hs]
     repeat' (first|refine wkt ?_|refine wk ?_|exact wkc|intro hc|refine wk2 ?_ ?_|fail)
     exact⟨rfl,⟨rfl,trivial⟩,rfl⟩
   ·rw[List.take_length]
    repeat' (first|refine wkt ?_|refine wk ?_|exact wkc|intro hc|refine wk2 ?_ ?_|fail)
    all_goals exact⟨rfl,⟨rfl,trivial⟩,rfl⟩
   ·repeat' (first|refine wkt ?_|refine wk ?_|exact wkc|intro hc|refine wk2 ?_ ?_|fail)
    exact wkr
def ndW(F:Nat->List Auto->Nat)(q w:Nat)(n:Nod):Nat:=if w+wD q n.ins+wD q n.outs+wD q n.locals+wE q n.eqs+wX q n.assume+wX q n.ensure<q then w+wD q n.ins+wD q n.outs+wD q n.locals+wE q n.eqs+wX q n.assume+wX q n.ensure+F (q-(w+wD q n.ins+wD q n.outs+wD q n.locals+wE q n.eqs+wX q n.assume+wX q n.ensure)) n.autos else w+wD q n.ins+wD q n.outs+wD q n.locals+wE q n.eqs+wX q n.assume+wX q n.ensure
def wgP(q:Nat)(p:Prog):Nat:=wgs (ndW (wgA 100000000) q) q p.nodes (wgs (fun w (u:En)=>w+(u.tags.map T.s).length) q p.enums ((p.enums.map enT).length+(p.nodes.map nodT).length))
theorem ndW_le{F:Nat->List Auto->Nat}{B q w:Nat}(hF:∀(q:Nat),q≤1500->∀l:List Auto,(T.sl 1 (l.map autoT)).w≤100000000->F q l≤B)(hB:2000000000≤B)(hq:q≤1500)(hn:w<q){n:Nod}(hs:(nodT n).w≤100000000):ndW F q w n≤B+2000:=by
 have w4:=w_nod n
 have d1:=decl_w8 (l:=n.ins) (by omega)
 have d2:=decl_w8 (l:=n.outs) (by omega)
 have d3:=decl_w8 (l:=n.locals) (by omega)
 have e:=equ_w8 (l:=n.eqs) (by omega)
 have x1:=ex_w8 (l:=n.assume) (by omega)
 have x2:=ex_w8 (l:=n.ensure) (by omega)
 have b1:=wD_le hq d1.1 d1.2
 have b2:=wD_le hq d2.1 d2.2
 have b3:=wD_le hq d3.1 d3.2
 have b4:=wE_le hq e.1 e.2
 have b5:=wX_le hq x1.1 x1.2
 have b6:=wX_le hq x2.1 x2.2
 unfold ndW
 generalize wD q n.ins=a1 at*
 generalize wD q n.outs=a2 at*
 generalize wD q n.locals=a3 at*
 generalize wE q n.eqs=a4 at*
 generalize wX q n.assume=a5 at*
 generalize wX q n.ensure=a6 at*
 split
 ·have:=hF (q-(w+a1+a2+a3+a4+a5+a6)) (by omega) n.autos (by omega)
  omega
 ·omega
set_option maxHeartbeats 4000000 in
theorem wgP_sound (p:Prog) (hw:(T.ag (progC p)).w≤100000000) (q:Nat) (hq1:1≤q) (hq:q≤1500):Pure Tryz.prog 44 [.t (.ag (progC p)),.i q] (.i (wgP q p:Nat)):=by
 obtain⟨hP,hln,hpl⟩:=smallP_of hw
 have l1:(T.sl 2 (p.enums.map enT)).w+(nodesT p.nodes).w≤(T.ag (progC p)).w:=by rw[w_ag];simp only[progC,List.map_cons,List.map_nil,List.sum_cons,List.sum_nil];omega
 have le1:=w_lenM enT 2 p.enums
 have hme:(p.enums.map enT).length=p.enums.length:=List.length_map _
 have hml:(p.nodes.map nodT).length=p.nodes.length:=List.length_map _
 have hten:∀u∈p.enums,(u.tags.map T.s).length≤100000000:=fun u hu=>by
  have h1:=w_inM (f:=enT) (sz:=2) hu
  have h2:=(tag_w (u:=u)).2.2
  rw[List.length_map];omega
 obtain⟨B,hB,hF⟩:∃B,B=1000000000+2000*100000000/\∀(q:Nat),q≤1500->∀l:List Auto,(T.sl 1 (l.map autoT)).w≤100000000->wgA 100000000 q l≤B:=⟨_,rfl,wgA_le 100000000⟩
 have hA:=fun l h=>wgA_sound 100000000 l (Nat.le_refl _) h
 unfold wgP
 generalize wgA 100000000=F at*
 unfold progC
 refine Sound.of tabOk Tryz.func44 (by kernel_rfl) rfl rfl ?_
 repeat' (first|refine wkt ?_|refine wk ?_|exact wkc|intro hc|refine wk2 ?_ ?_|fail)
 refine TR.fin (id:=0) (EF:=[(1,.i q),(2,.cp [.sl 2 (p.enums.map enT),nodesT p.nodes] 0),(5,.i (wgs (fun w (u:En)=>w+(u.tags.map T.s).length) q p.enums ((p.enums.map enT).length+(p.nodes.map nodT).length):Nat))]) (GF:=[]) (TR.loopN p.enums.length (fun _=>True) (fun k=>[(1,.i q),(2,.cp [.sl 2 (p.enums.map enT),nodesT p.nodes] 0),(5,.i (wgs (fun w (u:En)=>w+(u.tags.map T.s).length) q (p.enums.take k) ((p.enums.map enT).length+(p.nodes.map nodT).length):Nat)),(6,.i k)]) (fun _=>[]) trivial (fun k hlt _=>?_) (fun _=>?_)) ?_
 ·have hat:=at_map enT hlt
  have htk:=hten _ (List.getElem_mem hlt)
  have hb:wgs (fun w (u:En)=>w+(u.tags.map T.s).length) q (p.enums.take k) ((p.enums.map enT).length+(p.nodes.map nodT).length)≤300000000:=wgs_le _ _ (by omega) fun n hn u hu=>by have:=hten u (List.mem_of_mem_take hu);omega
  by_cases hn:wgs (fun w (u:En)=>w+(u.tags.map T.s).length) q (p.enums.take k) ((p.enums.map enT).length+(p.nodes.map nodT).length)<q
  ·have hs:=wgs_take hlt hn
   generalize wgs (fun w (u:En)=>w+(u.tags.map T.s).length) q (p.enums.take k) ((p.enums.map enT).length+(p.nodes.map nodT).length)=w at*
   generalize p.enums[k]=u at*
   unfold enT at hat
   repeat' (first|refine wkt ?_|refine wk ?_|exact wkc|intro hc|refine wk2 ?_ ?_|fail)
   exact LoopK.nextN hlt trivial ⟨rfl,rfl,by(try dsimp only);rw[hs];rfl,rfl,trivial⟩
  ·have hs:=wgs_done hn
   generalize wgs (fun w (u:En)=>w+(u.tags.map T.s).length) q (p.enums.take k) ((p.enums.map enT).length+(p.nodes.map nodT).length)=w at*
   rw[hs]
   repeat' (first|refine wkt ?_|refine wk ?_|exact wkc|intro hc|refine wk2 ?_ ?_|fail)
   exact⟨rfl,⟨rfl,rfl,rfl,trivial⟩,rfl⟩
 ·rw[List.take_length]
  repeat' (first|refine wkt ?_|refine wk ?_|exact wkc|intro hc|refine wk2 ?_ ?_|fail)
  all_goals exact⟨rfl,⟨rfl,rfl,rfl,trivial⟩,rfl⟩
 have hw0:wgs (fun w (u:En)=>w+(u.tags.map T.s).length) q p.enums ((p.enums.map enT).length+(p.nodes.map nodT).length)≤300000000:=wgs_le _ _ (by omega) fun n hn u hu=>by have:=hten u hu;omega
 generalize wgs (fun w (u:En)=>w+(u.tags.map T.s).length) q p.enums ((p.enums.map enT).length+(p.nodes.map nodT).length)=w0 at*
 repeat' (first|refine wkt ?_|refine wk ?_|exact wkc|intro hc|refine wk2 ?_ ?_|fail)
 refine TR.fin (id:=2) (EF:=[(5,.i (wgs (ndW F q) q p.nodes w0:Nat))]) (GF:=[]) (TR.loopN p.nodes.length (fun _=>True) (fun k=>[(1,.i q),(2,.cp [.sl 2 (p.enums.map enT),nodesT p.nodes] 0),(5,.i (wgs (ndW F q) q (p.nodes.take k) w0:Nat)),(7,.i k)]) (fun _=>[]) trivial (fun k hlt _=>?_) (fun _=>?_)) ?_
 ·have hat:=at_nod hlt
  have hnw:=hln _ (List.getElem_mem hlt)
  have hb:wgs (ndW F q) q (p.nodes.take k) w0≤B+2000:=wgs_le _ _ (by omega) fun n hn u hu=>ndW_le hF (by omega) hq hn (hln u (List.mem_of_mem_take hu))
  by_cases hn:wgs (ndW F q) q (p.nodes.take k) w0<q
  ·have hs:=wgs_take hlt hn
   generalize wgs (ndW F q) q (p.nodes.take k) w0=w at*
   generalize p.nodes[k]=n at*
   rw[ndW.eq_1 F q w n]at hs
   have w4:=w_nod n
   have d1:=decl_w8 (l:=n.ins) (by omega)
   have d2:=decl_w8 (l:=n.outs) (by omega)
   have d3:=decl_w8 (l:=n.locals) (by omega)
   have e:=equ_w8 (l:=n.eqs) (by omega)
   have x1:=ex_w8 (l:=n.assume) (by omega)
   have x2:=ex_w8 (l:=n.ensure) (by omega)
   have b1:=wD_le hq d1.1 d1.2
   have b2:=wD_le hq d2.1 d2.2
   have b3:=wD_le hq d3.1 d3.2
   have b4:=wE_le hq e.1 e.2
   have b5:=wX_le hq x1.1 x1.2
   have b6:=wX_le hq x2.1 x2.2
   have c1:=wD_sound q hq1 hq n.ins d1.1 d1.2
   have c2:=wD_sound q hq1 hq n.outs d2.1 d2.2
   have c3:=wD_sound q hq1 hq n.locals d3.1 d3.2
   have c4:=wE_sound q hq1 hq n.eqs e.1 e.2
   have c5:=wX_sound q hq1 hq n.assume x1.1 x1.2
   have c6:=wX_sound q hq1 hq n.ensure x2.1 x2.2
   have hi:=hA n.autos (by omega)
   have hFs:=fun q' hq'=>hF q' hq' n.autos (by omega)
   clear hA hF hln hten d1 d2 d3 e x1 x2 w4
   generalize wD q n.ins=a1 at*
   generalize wD q n.outs=a2 at*
   generalize wD q n.locals=a3 at*
   generalize wE q n.eqs=a4 at*
   generalize wX q n.assume=a5 at*
   generalize wX q n.ensure=a6 at*
   unfold nodC at hat
   by_cases hn3:w+a1+a2+a3+a4+a5+a6<q
   ·rw[if_pos hn3]at hs
    have hi:=hi (q-(w+a1+a2+a3+a4+a5+a6)) (by omega) (by omega)
    have hFs:=hFs (q-(w+a1+a2+a3+a4+a5+a6)) (by omega)
    generalize F (q-(w+a1+a2+a3+a4+a5+a6)) n.autos=fz at*
    rw[show((q-(w+a1+a2+a3+a4+a5+a6):Nat):Int)=(q:Int)-((w+a1+a2+a3+a4+a5+a6:Nat):Int) by omega]at hi
    repeat' (first|refine wkt ?_|refine wka ?_|refine rg [.i w,.cp [.s n.name,declsT n.ins,declsT n.outs,declsT n.locals,.sl 7 (n.eqs.map equT),.sl 1 (n.autos.map autoT),.sl 6 (n.assume.map exT),.sl 6 (n.ensure.map exT)] 1,.t (declsT n.ins),.i q,.i a1,.i (w+a1:Nat),.cp [.s n.name,declsT n.ins,declsT n.outs,declsT n.locals,.sl 7 (n.eqs.map equT),.sl 1 (n.autos.map autoT),.sl 6 (n.assume.map exT),.sl 6 (n.ensure.map exT)] 2,.t (declsT n.outs),.i q,.i a2,.i (w+a1+a2:Nat),.cp [.s n.name,declsT n.ins,declsT n.outs,declsT n.locals,.sl 7 (n.eqs.map equT),.sl 1 (n.autos.map autoT),.sl 6 (n.assume.map exT),.sl 6 (n.ensure.map exT)] 3,.t (declsT n.locals),.i q,.i a3,.i (w+a1+a2+a3:Nat),.cp [.s n.name,declsT n.ins,declsT n.outs,declsT n.locals,.sl 7 (n.eqs.map equT),.sl 1 (n.autos.map autoT),.sl 6 (n.assume.map exT),.sl 6 (n.ensure.map exT)] 4,.t (.sl 7 (n.eqs.map equT)),.i q,.i a4,.i (w+a1+a2+a3+a4:Nat),.cp [.s n.name,declsT n.ins,declsT n.outs,declsT n.locals,.sl 7 (n.eqs.map equT),.sl 1 (n.autos.map autoT),.sl 6 (n.assume.map exT),.sl 6 (n.ensure.map exT)] 6,.t (.sl 6 (n.assume.map exT)),.i q,.i a5,.i (w+a1+a2+a3+a4+a5:Nat),.cp [.s n.name,declsT n.ins,declsT n.outs,declsT n.locals,.sl 7 (n.eqs.map equT),.sl 1 (n.autos.map autoT),.sl 6 (n.assume.map exT),.sl 6 (n.ensure.map exT)] 7,.t (.sl 6 (n.ensure.map exT)),.i q,.i a6,.i (w+a1+a2+a3+a4+a5+a6:Nat),.i (w+a1+a2+a3+a4+a5+a6:Nat)] ?_ ?_|refine wv c1 ?_|refine wv c2 ?_|refine wv c3 ?_|refine wv c4 ?_|refine wv c5 ?_|refine wv c6 ?_|refine wv hi ?_|exact trivial|exact And.intro rfl rfl|refine And.intro (fun H env=>?_) ?_|refine wk ?_|exact wkc|intro hc|refine wk2 ?_ ?_|fail)
    exact LoopK.nextN hlt trivial ⟨rfl,rfl,by(try dsimp only);rw[hs];rfl,rfl,trivial⟩
   ·rw[if_neg hn3]at hs
    clear hi hFs
    repeat' (first|refine wkt ?_|refine wka ?_|refine rg [.i w,.cp [.s n.name,declsT n.ins,declsT n.outs,declsT n.locals,.sl 7 (n.eqs.map equT),.sl 1 (n.autos.map autoT),.sl 6 (n.assume.map exT),.sl 6 (n.ensure.map exT)] 1,.t (declsT n.ins),.i q,.i a1,.i (w+a1:Nat),.cp [.s n.name,declsT n.ins,declsT n.outs,declsT n.locals,.sl 7 (n.eqs.map equT),.sl 1 (n.autos.map autoT),.sl 6 (n.assume.map exT),.sl 6 (n.ensure.map exT)] 2,.t (declsT n.outs),.i q,.i a2,.i (w+a1+a2:Nat),.cp [.s n.name,declsT n.ins,declsT n.outs,declsT n.locals,.sl 7 (n.eqs.map equT),.sl 1 (n.autos.map autoT),.sl 6 (n.assume.map exT),.sl 6 (n.ensure.map exT)] 3,.t (declsT n.locals),.i q,.i a3,.i (w+a1+a2+a3:Nat),.cp [.s n.name,declsT n.ins,declsT n.outs,declsT n.locals,.sl 7 (n.eqs.map equT),.sl 1 (n.autos.map autoT),.sl 6 (n.assume.map exT),.sl 6 (n.ensure.map exT)] 4,.t (.sl 7 (n.eqs.map equT)),.i q,.i a4,.i (w+a1+a2+a3+a4:Nat),.cp [.s n.name,declsT n.ins,declsT n.outs,declsT n.locals,.sl 7 (n.eqs.map equT),.sl 1 (n.autos.map autoT),.sl 6 (n.assume.map exT),.sl 6 (n.ensure.map exT)] 6,.t (.sl 6 (n.assume.map exT)),.i q,.i a5,.i (w+a1+a2+a3+a4+a5:Nat),.cp [.s n.name,declsT n.ins,declsT n.outs,declsT n.locals,.sl 7 (n.eqs.map equT),.sl 1 (n.autos.map autoT),.sl 6 (n.assume.map exT),.sl 6 (n.ensure.map exT)] 7,.t (.sl 6 (n.ensure.map exT)),.i q,.i a6,.i (w+a1+a2+a3+a4+a5+a6:Nat),.i (w+a1+a2+a3+a4+a5+a6:Nat)] ?_ ?_|refine wv c1 ?_|refine wv c2 ?_|refine wv c3 ?_|refine wv c4 ?_|refine wv c5 ?_|refine wv c6 ?_|exact trivial|exact And.intro rfl rfl|refine And.intro (fun H env=>?_) ?_|refine wk ?_|exact wkc|intro hc|refine wk2 ?_ ?_|fail)
    exact LoopK.nextN hlt trivial ⟨rfl,rfl,by(try dsimp only);rw[hs];rfl,rfl,trivial⟩
  ·have hs:=wgs_done hn
   generalize wgs (ndW F q) q (p.nodes.take k) w0=w at*
   rw[hs]
   repeat' (first|refine wkt ?_|refine wk ?_|exact wkc|intro hc|refine wk2 ?_ ?_|fail)
   exact⟨rfl,⟨rfl,trivial⟩,rfl⟩
 ·rw[List.take_length]
  repeat' (first|refine wkt ?_|refine wk ?_|exact wkc|intro hc|refine wk2 ?_ ?_|fail)
  all_goals exact⟨rfl,⟨rfl,trivial⟩,rfl⟩
 ·repeat' (first|refine wkt ?_|refine wk ?_|exact wkc|intro hc|refine wk2 ?_ ?_|fail)
  exact wkr
def heavyP(p:Prog):Bool:=decide (1500≤wgP 1500 p)
theorem heavy_sound(p:Prog)(hw:(T.ag (progC p)).w≤100000000):Pure Tryz.prog 14 [.t (.ag (progC p))] (.b (heavyP p)):=by
 have hs:=wgP_sound p hw 1500 (by omega) (Nat.le_refl _)
 unfold heavyP
 generalize wgP 1500 p=z at*
 unfold progC at*
 by_cases h:1500≤z
 ·rw[decide_eq_true h]
  refine Sound.of tabOk Tryz.func14 (by kernel_rfl) rfl rfl ?_
  repeat' (first|refine wkt ?_|refine wk ?_|exact wkc|intro hc|refine wk2 ?_ ?_|refine wv hs ?_|fail)
  all_goals first
   | exact wkr
   | (exfalso;omega)
 ·rw[decide_eq_false h]
  refine Sound.of tabOk Tryz.func14 (by kernel_rfl) rfl rfl ?_
  repeat' (first|refine wkt ?_|refine wk ?_|exact wkc|intro hc|refine wk2 ?_ ?_|refine wv hs ?_|fail)
  all_goals first
   | exact wkr
   | (exfalso;omega)
structure Plr where
 p:Prog
 node:Int
 vis:List Str
 inputs:List Str
 tags:List Str
def plrC(s:Plr):List T:=[.sl 2 (s.p.enums.map enT),nodesT s.p.nodes,T.i s.node,strsT s.vis,strsT s.inputs,strsT s.tags]
def calleeR(p:Prog)(node:Int)(nm:Str):Option Nod:=(p.nodes.take node.toNat).find? fun n=>decide (n.name=nm)
def zNod:List T:=[.s [],.v (.slice none 0 0),.v (.slice none 0 0),.v (.slice none 0 0),.v (.slice none 0 0),.v (.slice none 0 0),.v (.slice none 0 0),.v (.slice none 0 0)]
theorem callee_sound(p:Prog)(node:Int)(nm:Str)(hp:p.nodes.length≤1000000000)(hn:0≤node):Pure Tryz.prog 182 [.t (.ag (progC p)),.i node,.s nm] (match calleeR p node nm with
  | some n=>.tup [.t (.ag (nodC n)),.b true]
  | none=>.tup [.t (.ag zNod),.b false]):=by
 have hml:(p.nodes.map nodT).length=p.nodes.length:=List.length_map _
 unfold calleeR
 obtain⟨N,hN⟩:∃N:Nat,N=min node.toNat p.nodes.length:=⟨_,rfl⟩
 rw[show p.nodes.take node.toNat=p.nodes.take N from by rw[hN];simp[List.take_eq_take_iff]]
 unfold progC
 refine Sound.of tabOk Tryz.func182 (by kernel_rfl) rfl rfl ?_
 repeat' (first|refine wk ?_|exact wkc|intro hc|refine wk2 ?_ ?_|fail|fail)
 refine TR.loopN N (fun k=>(p.nodes.take k).find? (fun n=>decide (n.name=nm))=none) (fun k=>[(1,.i node),(2,.s nm),(3,.ref 0 0),(6,.ref 1 0),(8,.i k)]) (fun _=>[.cells [.t (.sl 2 (p.enums.map enT)),.t (nodesT p.nodes)],.cells (zNod.map .t)]) rfl (fun k hlt hk=>?_) (fun hk=>?_)
 ·have hlt2:k<p.nodes.length:=by omega
  have hx:=at_nod hlt2
  have htk:=take_at hlt2
  have hfd:∀b:Bool,decide (p.nodes[k].name=nm)=b->(p.nodes.take (k+1)).find? (fun n=>decide (n.name=nm))=if b=true then some p.nodes[k] else none:=fun b hb=>by
   rw[htk,List.find?_append,hk,Option.none_or]
   simp[List.find?_cons,hb]
   cases b <;> simp
  have hfN:(p.nodes.take (k+1)).find? (fun n=>decide (n.name=nm))=some p.nodes[k]->(p.nodes.take N).find? (fun n=>decide (n.name=nm))=some p.nodes[k]:=fun h=>by
   rw[show p.nodes.take (k+1)=(p.nodes.take N).take (k+1) from by rw[List.take_take];congr 1;omega]at h
   conv=>lhs;rw[<-List.take_append_drop (k+1) (p.nodes.take N)]
   rw[List.find?_append,h];rfl
  generalize p.nodes[k]=n at*
  unfold nodC at hx
  repeat' (first|refine wk ?_|exact wkc|intro hc|refine wk2 ?_ ?_|fail|fail)
  all_goals try(exfalso;omega)
  ·rw[hfN (by rw[hfd true (decide_eq_true hc)];rfl)]
   unfold nodC
   exact wkr
  ·refine LoopK.nextN hlt ?_
   rw[hfd false (decide_eq_false hc)];rfl
 ·rw[hk]
  unfold zNod
  repeat' (first|refine wk ?_|exact wkc|intro hc|refine wk2 ?_ ?_|fail|fail)
  all_goals first
   | (exfalso;omega)
   | exact wkr
def oneRf(s:Plr)(outs:Int)(x:Ex):Int:=
 if(x.kind.1=2\/x.kind.1=8\/x.kind.1=9)/\x.name ∉ s.vis then 6 else
 if x.kind.1=10 then(match calleeR s.p s.node x.name with
  | none=>6
  | some n=>if(x.args.length:Int)≠n.ins.length+x.v.1\/(n.outs.length:Int)≠outs then 9 else 0) else 0
def exprRf(s:Plr)(outs:Int)(e:Ex):Int:=orE (oneRf s outs e) (firstE (oneRf s 1) (flats e.args))
theorem firstE_flats{g:Ex->Int}:∀(l:List Ex),firstE g (flats l)=firstE (fun a=>firstE g (flat a)) l
 | []=>rfl
 | a::l=>by
   rw[flats_cons,firstE_append,firstE,firstE_flats l]
theorem firstE_take{α:Type}{g:α->Int}{l:List α}{k:Nat}(hk:k<l.length)(h:firstE g (l.take k)=0):firstE g (l.take (k+1))=g l[k]:=by
 rw[take_at hk,firstE_append,if_pos h,firstE]
 split
 ·rename_i h2;rw[h2];rfl
 ·rfl
theorem exprRf_eq(s:Plr)(outs:Int)(e:Ex):exprRf s outs e=orE (oneRf s outs e) (firstE (exprRf s 1) e.args):=by
 unfold exprRf
 rw[firstE_flats]
 congr 2
 funext a
 rw[flat_eq];rfl
structure PlrOk (s:Plr):Prop where
 nodes:s.p.nodes.length≤1000000000
 each:∀n∈s.p.nodes,n.ins.length≤1000000000/\n.outs.length≤1000000000
 node:0≤s.node
 vis:s.vis.length≤2000000000
set_option maxHeartbeats 2000000 in
theorem expr10_sound (s:Plr) (hs:PlrOk s):∀(m:Nat) (e:Ex),wEx e≤m->wEx e≤1000000000->(∀x∈flat e,ExOk x)->∀outs:Int,
  Pure Tryz.prog 139 [.t (.ag (plrC s)),.t (.ag (exC e)),.i outs] (.i (exprRf s outs e)):=by
 intro m
 induction m with
 | zero=>intro e he;have:=wEx_pos e;omega
 | succ m ih0=>
   intro e he hb hex outs
   have ih:∀a∈e.args,Pure Tryz.prog 139 [.t (.ag (plrC s)),.t (.ag (exC a)),.i 1] (.i (exprRf s 1 a)):=fun a ha=>ih0 a (by have:=wEx_arg ha;omega) (by have:=wEx_arg ha;omega) (fun x hx=>hex x (flat_sub ha x hx)) 1
   clear ih0
   have hv:=(hex e (flat_mem.2 (.inl rfl))).1
   have hal:e.args.length≤1000000000:=by
    have:∀l:List Ex,l.length≤(l.map wEx).sum:=fun l=>by
     induction l with
     | nil=>simp
     | cons y l ih=>have:=wEx_pos y;simp;omega
    have h2:=wEx_eq e
    have:=this e.args
    omega
   have hml:(e.args.map exT).length=e.args.length:=List.length_map _
   have h6:=has6_sound s.vis e.name hs.vis
   have hca:=callee_sound s.p s.node e.name hs.nodes hs.node
   have hcl:∀n,calleeR s.p s.node e.name=some n->n.ins.length≤1000000000/\n.outs.length≤1000000000:=fun n hn=>hs.each n (List.mem_of_mem_take (List.mem_of_find?_eq_some hn))
   rw[exprRf_eq]
   generalize hz:oneRf s outs e=z
   generalize exprRf s 1=F at*
   unfold oneRf at hz
   unfold plrC exC progC at*
   generalize e.args=L at*
   cases hq:calleeR s.p s.node e.name with
   | none=>
     rw[hq]at hca hz
     dsimp only at hca hz
     clear hcl
     unfold zNod at hca
     refine Sound.of tabOk Tryz.func139 (by kernel_rfl) rfl rfl ?_
     repeat' (first|refine wkt ?_|refine wka ?_|refine wk ?_|exact wkc|intro hc|refine wk2 ?_ ?_|refine wb h6 ?_ ?_|refine wv hca ?_|fail)
     all_goals try(exfalso;clear hca h6 ih;grind)
     all_goals first
      | ((repeat' (first|refine LoopK.ret ?_|refine wk ?_|fail));refine RetK.pure rfl (Le.of_eq ?_) rfl;clear hca h6 ih;refine congrArg (fun z=>SV.t (T.v (Value.int IntKind.i64 z))) ?_;first|grind|grind [orE])
      | (have hz0:z=0:=by(clear hca h6 ih;grind)
         subst hz0
         rw[show orE 0 (firstE F L)=firstE F L from if_pos rfl]
         clear hca h6 hz
         refine TR.loopN L.length (fun k=>firstE F (L.take k)=0) (fun k=>[(3,.cp [.sl 2 (s.p.enums.map enT),nodesT s.p.nodes,T.i s.node,strsT s.vis,strsT s.inputs,strsT s.tags] 0),(4,.cp [T.n e.kind,T.n e.op,T.n e.t,T.n e.v,.s e.name,.sl 6 (L.map exT)] 0),(9,.i k)]) (fun _=>[]) rfl (fun k hlt hk=>?_) (fun hk=>?_)
         ·have hx:=at_exT hlt
          have hi:=ih _ (List.getElem_mem hlt)
          have htk:=firstE_take (g:=F) hlt hk
          have hat:=firstE_at (f:=F) hlt hk
          generalize L[k]=x at*
          generalize F x=r at*
          unfold exC at hx
          repeat' (first|refine wkt ?_|refine wka ?_|refine rg [.t (.ag [.sl 2 (s.p.enums.map enT),nodesT s.p.nodes,T.i s.node,strsT s.vis,strsT s.inputs,strsT s.tags]),.cp [T.n e.kind,T.n e.op,T.n e.t,T.n e.v,.s e.name,.sl 6 (L.map exT)] 5,.t (.sl 6 (L.map exT)),.i k,.cp [T.n x.kind,T.n x.op,T.n x.t,T.n x.v,.s x.name,.sl 6 (x.args.map exT)] 0,.t (.ag [T.n x.kind,T.n x.op,T.n x.t,T.n x.v,.s x.name,.sl 6 (x.args.map exT)]),.i r,.i r] ?_ ?_|refine wv hi ?_|exact trivial|exact And.intro rfl rfl|refine And.intro (fun H env=>?_) ?_|refine And.intro (fun env=>?_) ?_|refine wk ?_|exact wkc|intro hc|refine wk2 ?_ ?_|fail)
          ·rw[hat hc];exact wkr
          ·exact LoopK.nextN hlt (by rw[htk];exact Decidable.not_not.1 hc)
         ·rw[List.take_length]at hk
          rw[hk]
          repeat' (first|refine wk ?_|exact wkc|intro hc|refine wk2 ?_ ?_|fail|fail)
          exact wkr)
   | some n=>
     rw[hq]at hca hz
     dsimp only at hca hz
     obtain⟨c1,c2⟩:=hcl n hq
     have m1:(n.ins.map declT).length=n.ins.length:=List.length_map _
     have m2:(n.outs.map declT).length=n.outs.length:=List.length_map _
     unfold nodC at hca
     refine Sound.of tabOk Tryz.func139 (by kernel_rfl) rfl rfl ?_
     repeat' (first|refine wkt ?_|refine wka ?_|refine wk ?_|exact wkc|intro hc|refine wk2 ?_ ?_|refine wb h6 ?_ ?_|refine wv hca ?_|fail)
     all_goals try(exfalso;clear hca h6 ih;grind)
     all_goals first
      | ((repeat' (first|refine LoopK.ret ?_|refine wk ?_|fail));refine RetK.pure rfl (Le.of_eq ?_) rfl;clear hca h6 ih;refine congrArg (fun z=>SV.t (T.v (Value.int IntKind.i64 z))) ?_;first|grind|grind [orE])
      | (have hz0:z=0:=by(clear hca h6 ih;grind)
         subst hz0
         rw[show orE 0 (firstE F L)=firstE F L from if_pos rfl]
         clear hca h6 hz
         refine TR.loopN L.length (fun k=>firstE F (L.take k)=0) (fun k=>[(3,.cp [.sl 2 (s.p.enums.map enT),nodesT s.p.nodes,T.i s.node,strsT s.vis,strsT s.inputs,strsT s.tags] 0),(4,.cp [T.n e.kind,T.n e.op,T.n e.t,T.n e.v,.s e.name,.sl 6 (L.map exT)] 0),(9,.i k)]) (fun _=>[]) rfl (fun k hlt hk=>?_) (fun hk=>?_)
         ·have hx:=at_exT hlt
          have hi:=ih _ (List.getElem_mem hlt)
          have htk:=firstE_take (g:=F) hlt hk
          have hat:=firstE_at (f:=F) hlt hk
          generalize L[k]=x at*
          generalize F x=r at*
          unfold exC at hx
          repeat' (first|refine wkt ?_|refine wka ?_|refine rg [.t (.ag [.sl 2 (s.p.enums.map enT),nodesT s.p.nodes,T.i s.node,strsT s.vis,strsT s.inputs,strsT s.tags]),.cp [T.n e.kind,T.n e.op,T.n e.t,T.n e.v,.s e.name,.sl 6 (L.map exT)] 5,.t (.sl 6 (L.map exT)),.i k,.cp [T.n x.kind,T.n x.op,T.n x.t,T.n x.v,.s x.name,.sl 6 (x.args.map exT)] 0,.t (.ag [T.n x.kind,T.n x.op,T.n x.t,T.n x.v,.s x.name,.sl 6 (x.args.map exT)]),.i r,.i r] ?_ ?_|refine wv hi ?_|exact trivial|exact And.intro rfl rfl|refine And.intro (fun H env=>?_) ?_|refine And.intro (fun env=>?_) ?_|refine wk ?_|exact wkc|intro hc|refine wk2 ?_ ?_|fail)
          ·rw[hat hc];exact wkr
          ·exact LoopK.nextN hlt (by rw[htk];exact Decidable.not_not.1 hc)
         ·rw[List.take_length]at hk
          rw[hk]
          repeat' (first|refine wk ?_|exact wkc|intro hc|refine wk2 ?_ ?_|fail|fail)
          exact wkr)
end Go.Proofs.YtlocalghkiepmaaGreat
