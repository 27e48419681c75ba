import Derived.Test.YthmbhfgflijapaaGreatDoorPk28
set_option linter.all false
namespace Go.Proofs.YthmbhfgflijapaaGreatDoor
open Go Go.TL
attribute [local irreducible] TR TO Then zag RetK Sound zab Kf GG zaK
set_option maxHeartbeats 4000000 in
theorem zoC (l:List Tok) (n:Int) (es:List En) (i:Nat) (hi:i≤l.length) (hk:TkOk l) (g0:(rdr l es).neg i=false) (g1:(rdr l es).isAt i [45]=false) (g2:(rdr l es).kind i 2=false) (g3:(rdr l es).kind i 5=false) (g4:(rdr l es).isAt i [116,114,117,101]=false) (g5:(rdr l es).isAt i [102,97,108,115,101]=false) (g6:(rdr l es).isAt i [40]=true) {fe:Nat->PR Ex} (he:∀j,i<j->j≤l.length->ExR l n es 22 [] j (fe j)/\InR l.length (j+1) (fe j)):ExR l n es 124 [] i ((fe (i+1)).bind fun e j=>((rdr l es).must [[41]] j).bind fun _ j=>.ok e j):=by
 have hl:=hk.len
 have hn:=zbO l n es i hl hi
 rw[g0]at hn
 have h1:=zbx l n es i [45] hl
 rw[g1]at h1
 have h2:=zaG l n es i 2 hl
 rw[g2]at h2
 have h3:=zaG l n es i 5 hl
 rw[g3]at h3
 have h4:=zam l n es i [116,114,117,101] hl hi
 rw[g4,if_neg (by decide)]at h4
 have h5:=zam l n es i [102,97,108,115,101] hl hi
 rw[g5,if_neg (by decide)]at h5
 have h6:=zam l n es i [40] hl hi
 rw[g6,if_pos rfl]at h6
 have hlt:=zaE g6
 rw[zal]at hlt
 generalize hr:(((fe (i+1)).bind fun e j=>((rdr l es).must [[41]] j).bind fun _ j=>.ok e j):PR Ex)=r
 refine Sound.err rfl (fun _=>rfl) ?_
 obtain⟨q1,hin⟩:=he (i+1) (by omega) hlt
 cases hq1:fe (i+1) with
 | er k c=>
   rw[hq1]at q1 hin hr
   have hc0:=hin.2
   replace q1:=q1.er
   simp only[PR.vl]at q1
   simp only[PR.bind]at hr
   refine so Tryz.func124 ?_
   repeat' (first|refine wu ?_|exact wkc|intro hc|refine wk2 ?_ ?_|refine wd hn ?_|refine wd h1 ?_|refine wd h2 ?_|refine wd h3 ?_|refine wd h4 ?_|refine wd h5 ?_|refine wd h6 ?_|refine we q1 ?_ ?_|fail)
   exact rdP hr.symm hc0
 | ok e j1=>
 rw[hq1]at q1 hin hr
 replace q1:=q1.ok
 obtain⟨_,hj1⟩:=hin
 simp only[PR.bind]at hr
 simp only[PR.vl]at q1
 rw[zae e]at q1
 unfold exC at q1
 have q2:=zb6 l n es j1 [[41]] hl hj1 (by decide)
 have hin:=zbN (R:=rdr l es) [[41]] (i:=j1) (by rw[zal];exact hj1)
 rw[zal]at hin
 cases hq2:(rdr l es).must [[41]] j1 with
 | er k c=>
   rw[hq2]at q2 hin hr
   have hc0:=hin.2
   replace q2:=q2.er
   simp only[PR.bind]at hr
   refine so Tryz.func124 ?_
   repeat' (first|refine wu ?_|exact wkc|intro hc|refine wk2 ?_ ?_|refine wd hn ?_|refine wd h1 ?_|refine wd h2 ?_|refine wd h3 ?_|refine wd h4 ?_|refine wd h5 ?_|refine wd h6 ?_|refine we q1 ?_ ?_|refine we q2 ?_ ?_|fail)
   exact rdP hr.symm hc0
 | ok _ j2=>
 rw[hq2]at q2 hin hr
 replace q2:=q2.ok
 obtain⟨_,hj2⟩:=hin
 simp only[PR.bind]at hr
 subst hr
 refine so Tryz.func124 ?_
 repeat' (first|refine wu ?_|exact wkc|intro hc|refine wk2 ?_ ?_|refine wd hn ?_|refine wd h1 ?_|refine wd h2 ?_|refine wd h3 ?_|refine wd h4 ?_|refine wd h5 ?_|refine wd h6 ?_|refine we q1 ?_ ?_|refine we q2 ?_ ?_|fail)
 apply rdV rfl
 ·exact rfl
 ·rw[vlE,zae]
  unfold exC
  exact zqa
 all_goals exact rfl
set_option maxHeartbeats 4000000 in
theorem zoA (l:List Tok) (n:Int) (es:List En) (i:Nat) (hi:i≤l.length) (hk:TkOk l) (g0:(rdr l es).neg i=false) (g1:(rdr l es).isAt i [45]=false) (g2:(rdr l es).kind i 2=false) (g3:(rdr l es).kind i 5=false) (g4:(rdr l es).isAt i [116,114,117,101]=false) (g5:(rdr l es).isAt i [102,97,108,115,101]=false) (g6:(rdr l es).isAt i [40]=false) (g7:(rdr l es).isAt i [105,102]=false) (g8:(rdr l es).isAt i [109,101,114,103,101]=true) {rm:PR Ex} (hm:ExR l n es 159 [] (i+1) rm/\InR l.length (i+1) rm):ExR l n es 124 [] i rm:=by
 have hl:=hk.len
 have hn:=zbO l n es i hl hi
 rw[g0]at hn
 have h1:=zbx l n es i [45] hl
 rw[g1]at h1
 have h2:=zaG l n es i 2 hl
 rw[g2]at h2
 have h3:=zaG l n es i 5 hl
 rw[g3]at h3
 have h4:=zam l n es i [116,114,117,101] hl hi
 rw[g4,if_neg (by decide)]at h4
 have h5:=zam l n es i [102,97,108,115,101] hl hi
 rw[g5,if_neg (by decide)]at h5
 have h6:=zam l n es i [40] hl hi
 rw[g6,if_neg (by decide)]at h6
 have h7:=zam l n es i [105,102] hl hi
 rw[g7,if_neg (by decide)]at h7
 have h8:=zam l n es i [109,101,114,103,101] hl hi
 rw[g8,if_pos rfl]at h8
 have hlt:=zaE g8
 rw[zal]at hlt
 generalize hr:(rm:PR Ex)=r
 refine Sound.err rfl (fun _=>rfl) ?_
 subst hr
 obtain⟨hx,hin⟩:=hm
 cases rm with
 | er k c=>
   have hc0:=hin.2
   replace hx:=hx.er
   simp only[PR.vl]at hx
   refine so Tryz.func124 ?_
   repeat' (first|refine wu ?_|exact wkc|intro hc|refine wk2 ?_ ?_|refine wd hn ?_|refine wd h1 ?_|refine wd h2 ?_|refine wd h3 ?_|refine wd h4 ?_|refine wd h5 ?_|refine wd h6 ?_|refine wd h7 ?_|refine wd h8 ?_|refine we hx ?_ ?_|fail)
   exact rdP rfl hc0
 | ok e j=>
   replace hx:=hx.ok
   simp only[PR.vl]at hx⊢
   rw[zae]at hx⊢
   unfold exC at hx⊢
   refine so Tryz.func124 ?_
   repeat' (first|refine wu ?_|exact wkc|intro hc|refine wk2 ?_ ?_|refine wd hn ?_|refine wd h1 ?_|refine wd h2 ?_|refine wd h3 ?_|refine wd h4 ?_|refine wd h5 ?_|refine wd h6 ?_|refine wd h7 ?_|refine wd h8 ?_|refine we hx ?_ ?_|fail)
   apply rdV rfl
   ·exact rfl
   ·exact zqa
   all_goals exact rfl
set_option maxHeartbeats 4000000 in
theorem zuk (l:List Tok) (n:Int) (es:List En) (i:Nat) (hi:i≤l.length) (hk:TkOk l) (g0:(rdr l es).neg i=false) (g1:(rdr l es).isAt i [45]=false) (g2:(rdr l es).kind i 2=false) (g3:(rdr l es).kind i 5=false) (g4:(rdr l es).isAt i [116,114,117,101]=false) (g5:(rdr l es).isAt i [102,97,108,115,101]=false) (g6:(rdr l es).isAt i [40]=false) (g7:(rdr l es).isAt i [105,102]=true) {fe:Nat->PR Ex} (he:∀j,i<j->j≤l.length->ExR l n es 22 [] j (fe j)/\InR l.length (j+1) (fe j)):ExR l n es 124 [] i ((fe (i+1)).bind fun c j=>((rdr l es).must [[116,104,101,110]] j).bind fun _ j=>(fe j).bind fun a j=>((rdr l es).must [[101,108,115,101]] j).bind fun _ j=>(fe j).bind fun b j=>.ok (mkE 4 0 0 0 [] [c,a,b]) j):=by
 have hl:=hk.len
 have hn:=zbO l n es i hl hi
 rw[g0]at hn
 have h1:=zbx l n es i [45] hl
 rw[g1]at h1
 have h2:=zaG l n es i 2 hl
 rw[g2]at h2
 have h3:=zaG l n es i 5 hl
 rw[g3]at h3
 have h4:=zam l n es i [116,114,117,101] hl hi
 rw[g4,if_neg (by decide)]at h4
 have h5:=zam l n es i [102,97,108,115,101] hl hi
 rw[g5,if_neg (by decide)]at h5
 have h6:=zam l n es i [40] hl hi
 rw[g6,if_neg (by decide)]at h6
 have h7:=zam l n es i [105,102] hl hi
 rw[g7,if_pos rfl]at h7
 have hlt:=zaE g7
 rw[zal]at hlt
 generalize hr:(((fe (i+1)).bind fun c j=>((rdr l es).must [[116,104,101,110]] j).bind fun _ j=>(fe j).bind fun a j=>((rdr l es).must [[101,108,115,101]] j).bind fun _ j=>(fe j).bind fun b j=>.ok (mkE 4 0 0 0 [] [c,a,b]) j):PR Ex)=r
 refine Sound.err rfl (fun _=>rfl) ?_
 obtain⟨q3,hin⟩:=he (i+1) (by omega) hlt
 cases hq3:fe (i+1) with
 | er k c=>
   rw[hq3]at q3 hin hr
   have hc0:=hin.2
   replace q3:=q3.er
   simp only[PR.vl]at q3
   simp only[PR.bind]at hr
   refine so Tryz.func124 ?_
   repeat' (first|refine wu ?_|exact wkc|intro hc|refine wk2 ?_ ?_|refine wd hn ?_|refine wd h1 ?_|refine wd h2 ?_|refine wd h3 ?_|refine wd h4 ?_|refine wd h5 ?_|refine wd h6 ?_|refine wd h7 ?_|refine we q3 ?_ ?_|fail)
   exact rdP hr.symm hc0
 | ok x j3=>
 rw[hq3]at q3 hin hr
 replace q3:=q3.ok
 obtain⟨_,hj3⟩:=hin
 simp only[PR.bind]at hr
 simp only[PR.vl]at q3
 rw[zae x]at q3
 unfold exC at q3
 have q4:=zb6 l n es j3 [[116,104,101,110]] hl hj3 (by decide)
 have hin:=zbN (R:=rdr l es) [[116,104,101,110]] (i:=j3) (by rw[zal];exact hj3)
 rw[zal]at hin
 cases hq4:(rdr l es).must [[116,104,101,110]] j3 with
 | er k c=>
   rw[hq4]at q4 hin hr
   have hc0:=hin.2
   replace q4:=q4.er
   simp only[PR.bind]at hr
   refine so Tryz.func124 ?_
   repeat' (first|refine wu ?_|exact wkc|intro hc|refine wk2 ?_ ?_|refine wd hn ?_|refine wd h1 ?_|refine wd h2 ?_|refine wd h3 ?_|refine wd h4 ?_|refine wd h5 ?_|refine wd h6 ?_|refine wd h7 ?_|refine we q3 ?_ ?_|refine we q4 ?_ ?_|fail)
   exact rdP hr.symm hc0
 | ok _ j4=>
 rw[hq4]at q4 hin hr
 replace q4:=q4.ok
 obtain⟨_,hj4⟩:=hin
 simp only[PR.bind]at hr
 obtain⟨q5,hin⟩:=he j4 (by omega) hj4
 cases hq5:fe j4 with
 | er k c=>
   rw[hq5]at q5 hin hr
   have hc0:=hin.2
   replace q5:=q5.er
   simp only[PR.vl]at q5
   simp only[PR.bind]at hr
   refine so Tryz.func124 ?_
   repeat' (first|refine wu ?_|exact wkc|intro hc|refine wk2 ?_ ?_|refine wd hn ?_|refine wd h1 ?_|refine wd h2 ?_|refine wd h3 ?_|refine wd h4 ?_|refine wd h5 ?_|refine wd h6 ?_|refine wd h7 ?_|refine we q3 ?_ ?_|refine we q4 ?_ ?_|refine we q5 ?_ ?_|fail)
   exact rdP hr.symm hc0
 | ok y j5=>
 rw[hq5]at q5 hin hr
 replace q5:=q5.ok
 obtain⟨_,hj5⟩:=hin
 simp only[PR.bind]at hr
 simp only[PR.vl]at q5
 rw[zae y]at q5
 unfold exC at q5
 have q6:=zb6 l n es j5 [[101,108,115,101]] hl hj5 (by decide)
 have hin:=zbN (R:=rdr l es) [[101,108,115,101]] (i:=j5) (by rw[zal];exact hj5)
 rw[zal]at hin
 cases hq6:(rdr l es).must [[101,108,115,101]] j5 with
 | er k c=>
   rw[hq6]at q6 hin hr
   have hc0:=hin.2
   replace q6:=q6.er
   simp only[PR.bind]at hr
   refine so Tryz.func124 ?_
   repeat' (first|refine wu ?_|exact wkc|intro hc|refine wk2 ?_ ?_|refine wd hn ?_|refine wd h1 ?_|refine wd h2 ?_|refine wd h3 ?_|refine wd h4 ?_|refine wd h5 ?_|refine wd h6 ?_|refine wd h7 ?_|refine we q3 ?_ ?_|refine we q4 ?_ ?_|refine we q5 ?_ ?_|refine we q6 ?_ ?_|fail)
   exact rdP hr.symm hc0
 | ok _ j6=>
 rw[hq6]at q6 hin hr
 replace q6:=q6.ok
 obtain⟨_,hj6⟩:=hin
 simp only[PR.bind]at hr
 obtain⟨hx,hin⟩:=he j6 (by omega) hj6
 cases hq:fe j6 with
 | er c2 c=>
   rw[hq]at hx hin hr
   have hc0:=hin.2
   replace hx:=hx.er
   simp only[PR.vl]at hx
   simp only[PR.bind]at hr
   refine so Tryz.func124 ?_
   repeat' (first|refine wkt ?_|refine zqi ?_|refine wd hn ?_|refine wd h1 ?_|refine wd h2 ?_|refine wd h3 ?_|refine wd h4 ?_|refine wd h5 ?_|refine wd h6 ?_|refine wd h7 ?_|refine we q3 ?_ ?_|refine we q4 ?_ ?_|refine we q5 ?_ ?_|refine we q6 ?_ ?_|exact wkc|intro hc|refine wk2 ?_ ?_|fail)
   refine rgX 3 (g:=False) [(.t (.ag [T.n x.kind,T.n x.op,T.n x.t,T.n x.v,T.s x.name,T.sl 6 (x.args.map exT)]),0,1),(.t (.ag [T.n y.kind,T.n y.op,T.n y.t,T.n y.v,T.s y.name,T.sl 6 (y.args.map exT)]),0,1),(.ref 0 0,0,1),(.t (.ag [T.n x.kind,T.n x.op,T.n x.t,T.n x.v,T.s x.name,T.sl 6 (x.args.map exT)]),1,0),(.t (.sl 6 [.ag [T.n x.kind,T.n x.op,T.n x.t,T.n x.v,T.s x.name,T.sl 6 (x.args.map exT)],.ag [T.n y.kind,T.n y.op,T.n y.t,T.n y.v,T.s y.name,T.sl 6 (y.args.map exT)],.ag [T.n x.kind,T.n x.op,T.n x.t,T.n x.v,T.s x.name,T.sl 6 (x.args.map exT)]]),1,1),(.t (.ag [T.i 4,T.i 0,T.i 0,T.i 0,T.s [],.sl 6 [.ag [T.n x.kind,T.n x.op,T.n x.t,T.n x.v,T.s x.name,T.sl 6 (x.args.map exT)],.ag [T.n y.kind,T.n y.op,T.n y.t,T.n y.v,T.s y.name,T.sl 6 (y.args.map exT)],.ag [T.n x.kind,T.n x.op,T.n x.t,T.n x.v,T.s x.name,T.sl 6 (x.args.map exT)]]]),1,1),(.t (.v undef),1,0)] [[rdB l n es j6,exZ],[rdB l n es j6,exZ],[rdB l n es j6,.cells [.t (T.i 4),.t (T.i 0),.t (T.i 0),.t (T.i 0),.t (T.s []),.t (.sl 6 [.ag [T.n x.kind,T.n x.op,T.n x.t,T.n x.v,T.s x.name,T.sl 6 (x.args.map exT)],.ag [T.n y.kind,T.n y.op,T.n y.t,T.n y.v,T.s y.name,T.sl 6 (y.args.map exT)],.ag [T.n x.kind,T.n x.op,T.n x.t,T.n x.v,T.s x.name,T.sl 6 (x.args.map exT)]])]]] ?_ (fun h=>h.elim)
   repeat' (first|refine wkt ?_|exact trivial|exact⟨⟨rfl,rfl⟩,trivial⟩|refine qai (fun env=>?_) ?_|refine qai ?_ ?_|refine we hx ?_ ?_|refine wk ?_|exact wkc|intro hc|refine wk2 ?_ ?_|fail)
   exact rdP hr.symm hc0
 | ok b k=>
   rw[hq]at hx hin hr
   replace hx:=hx.ok
   simp only[PR.vl]at hx
   simp only[PR.bind]at hr
   rw[zae b]at hx
   unfold exC at hx
   subst hr
   refine so Tryz.func124 ?_
   repeat' (first|refine wkt ?_|refine zqi ?_|refine wd hn ?_|refine wd h1 ?_|refine wd h2 ?_|refine wd h3 ?_|refine wd h4 ?_|refine wd h5 ?_|refine wd h6 ?_|refine wd h7 ?_|refine we q3 ?_ ?_|refine we q4 ?_ ?_|refine we q5 ?_ ?_|refine we q6 ?_ ?_|exact wkc|intro hc|refine wk2 ?_ ?_|fail)
   refine rgX 3 (g:=True) [(.t (.ag [T.n x.kind,T.n x.op,T.n x.t,T.n x.v,T.s x.name,T.sl 6 (x.args.map exT)]),0,1),(.t (.ag [T.n y.kind,T.n y.op,T.n y.t,T.n y.v,T.s y.name,T.sl 6 (y.args.map exT)]),0,1),(.ref 0 0,0,1),(.t (.ag [T.n b.kind,T.n b.op,T.n b.t,T.n b.v,T.s b.name,T.sl 6 (b.args.map exT)]),1,0),(.t (.sl 6 [.ag [T.n x.kind,T.n x.op,T.n x.t,T.n x.v,T.s x.name,T.sl 6 (x.args.map exT)],.ag [T.n y.kind,T.n y.op,T.n y.t,T.n y.v,T.s y.name,T.sl 6 (y.args.map exT)],.ag [T.n b.kind,T.n b.op,T.n b.t,T.n b.v,T.s b.name,T.sl 6 (b.args.map exT)]]),1,1),(.t (.ag [T.i 4,T.i 0,T.i 0,T.i 0,T.s [],.sl 6 [.ag [T.n x.kind,T.n x.op,T.n x.t,T.n x.v,T.s x.name,T.sl 6 (x.args.map exT)],.ag [T.n y.kind,T.n y.op,T.n y.t,T.n y.v,T.s y.name,T.sl 6 (y.args.map exT)],.ag [T.n b.kind,T.n b.op,T.n b.t,T.n b.v,T.s b.name,T.sl 6 (b.args.map exT)]]]),1,1),(.t (.v undef),1,0)] [[rdB l n es j6,exZ],[rdB l n es k,exZ],[rdB l n es k,.cells [.t (T.i 4),.t (T.i 0),.t (T.i 0),.t (T.i 0),.t (T.s []),.t (.sl 6 [.ag [T.n x.kind,T.n x.op,T.n x.t,T.n x.v,T.s x.name,T.sl 6 (x.args.map exT)],.ag [T.n y.kind,T.n y.op,T.n y.t,T.n y.v,T.s y.name,T.sl 6 (y.args.map exT)],.ag [T.n b.kind,T.n b.op,T.n b.t,T.n b.v,T.s b.name,T.sl 6 (b.args.map exT)]])]]] ?_ (fun _=>?_)
   ·repeat' (first|refine wkt ?_|exact trivial|exact⟨⟨rfl,rfl⟩,trivial⟩|refine qai (fun env=>?_) ?_|refine qai ?_ ?_|refine we hx ?_ ?_|refine wk ?_|exact wkc|intro hc|refine wk2 ?_ ?_|fail)
    done
   ·repeat' (first|refine wu ?_|exact wkc|intro hc|refine wk2 ?_ ?_|fail)
    apply rdV rfl
    ·exact rfl
    ·rw[vlE,zbI _ _ _ _ _ _ rfl rfl rfl rfl,qah,qah,qah,qaC,zae x,zae y,zae b]
     unfold exC
     exact zqa
    all_goals exact rfl
set_option maxHeartbeats 4000000 in
theorem zoz (l:List Tok) (n:Int) (es:List En) (i:Nat) (hi:i≤l.length) (hk:TkOk l) (hes:EsOk es) (g0:(rdr l es).neg i=false) (g1:(rdr l es).isAt i [45]=false) (g2:(rdr l es).kind i 2=false) (g3:(rdr l es).kind i 5=false) (g4:(rdr l es).isAt i [116,114,117,101]=false) (g5:(rdr l es).isAt i [102,97,108,115,101]=false) (g6:(rdr l es).isAt i [40]=false) (g7:(rdr l es).isAt i [105,102]=false) (g8:(rdr l es).isAt i [109,101,114,103,101]=false) {fc:Str->Nat->PR Ex}
  (hc:∀s j,i<j->j≤l.length->ExR l n es 161 [.s s] j (fc s j)/\InR l.length j (fc s j)):
  ExR l n es 124 [] i (((rdr l es).id i).bind fun s j=>if(rdr l es).isAt j [40]=true then fc s (j+1) else match (rdr l es).tag s with
  | some tv=>.ok (mkE 1 0 tv.1 tv.2 [] []) j
  | none=>.ok (mkE 2 0 0 0 s []) j):=by
 have hl:=hk.len
 have hn:=zbO l n es i hl hi
 rw[g0]at hn
 have h1:=zbx l n es i [45] hl
 rw[g1]at h1
 have h2:=zaG l n es i 2 hl
 rw[g2]at h2
 have h3:=zaG l n es i 5 hl
 rw[g3]at h3
 have h4:=zam l n es i [116,114,117,101] hl hi
 rw[g4,if_neg (by decide)]at h4
 have h5:=zam l n es i [102,97,108,115,101] hl hi
 rw[g5,if_neg (by decide)]at h5
 have h6:=zam l n es i [40] hl hi
 rw[g6,if_neg (by decide)]at h6
 have h7:=zam l n es i [105,102] hl hi
 rw[g7,if_neg (by decide)]at h7
 have h8:=zam l n es i [109,101,114,103,101] hl hi
 rw[g8,if_neg (by decide)]at h8
 have q1:=zfu l n es i hl hi
 have hin:=zkB (R:=rdr l es) (i:=i) (by rw[zal];exact hi)
 rw[zal]at hin
 generalize hr:(((rdr l es).id i).bind fun s j=>_)=r
 refine Sound.err rfl (fun _=>rfl) ?_
 cases hq1:(rdr l es).id i with
 | er k c=>
   rw[hq1]at q1 hin hr
   have hc0:=hin.2
   replace q1:=q1.er
   simp only[PR.vl]at q1
   simp only[PR.bind]at hr
   refine so Tryz.func124 ?_
   repeat' (first|refine wu ?_|exact wkc|intro hc|refine wk2 ?_ ?_|refine wd hn ?_|refine wd h1 ?_|refine wd h2 ?_|refine wd h3 ?_|refine wd h4 ?_|refine wd h5 ?_|refine wd h6 ?_|refine wd h7 ?_|refine wd h8 ?_|refine we q1 ?_ ?_|fail)
   exact rdP hr.symm hc0
 | ok s j=>
 rw[hq1]at q1 hin hr
 replace q1:=q1.ok
 obtain⟨hj1,hj2⟩:=hin
 simp only[PR.vl]at q1
 simp only[PR.bind]at hr
 have ht:=zam l n es j [40] hl hj2
 cases hw:(rdr l es).isAt j [40] with
 | true=>
   have hlt:=zaE hw
   rw[zal]at hlt
   rw[hw,if_pos rfl]at ht
   rw[if_pos hw]at hr
   obtain⟨hx,hin⟩:=hc s (j+1) (by omega) hlt
   rw[hr]at hx hin
   clear hr
   cases r with
   | er k c=>
     have hc0:=hin.2
     replace hx:=hx.er
     simp only[PR.vl]at hx
     refine so Tryz.func124 ?_
     repeat' (first|refine wu ?_|exact wkc|intro hc|refine wk2 ?_ ?_|refine wd hn ?_|refine wd h1 ?_|refine wd h2 ?_|refine wd h3 ?_|refine wd h4 ?_|refine wd h5 ?_|refine wd h6 ?_|refine wd h7 ?_|refine wd h8 ?_|refine we q1 ?_ ?_|refine wd ht ?_|refine we hx ?_ ?_|fail)
     exact rdP rfl hc0
   | ok e k=>
     replace hx:=hx.ok
     simp only[PR.vl]at hx⊢
     rw[zae]at hx⊢
     unfold exC at hx⊢
     refine so Tryz.func124 ?_
     repeat' (first|refine wu ?_|exact wkc|intro hc|refine wk2 ?_ ?_|refine wd hn ?_|refine wd h1 ?_|refine wd h2 ?_|refine wd h3 ?_|refine wd h4 ?_|refine wd h5 ?_|refine wd h6 ?_|refine wd h7 ?_|refine wd h8 ?_|refine we q1 ?_ ?_|refine wd ht ?_|refine we hx ?_ ?_|fail)
     apply rdV rfl
     ·exact rfl
     ·exact zqa
     all_goals exact rfl
 | false=>
   rw[hw,if_neg (by decide)]at ht
   rw[if_neg (by rw[hw];decide)]at hr
   have hg:=zgd l n es j s hes
   cases hqt:(rdr l es).tag s with
   | some tv=>
     rw[hqt]at hg hr
     simp only at hr
     subst hr
     unfold tagR at hg
     obtain⟨b1,b2,w,b3,b4⟩:=zqQ hes hqt
     have b5:=hes.len
     have b6:=hes.tags w (qas b3)
     rw[vlE,zbI _ _ _ _ _ _ rfl rfl (zd0 (by omega)) (zd0 (by omega)),qaC]
     refine so Tryz.func124 ?_
     repeat' (first|refine wu ?_|exact wkc|intro hc|refine wk2 ?_ ?_|refine wd hn ?_|refine wd h1 ?_|refine wd h2 ?_|refine wd h3 ?_|refine wd h4 ?_|refine wd h5 ?_|refine wd h6 ?_|refine wd h7 ?_|refine wd h8 ?_|refine we q1 ?_ ?_|refine wd ht ?_|refine wd hg ?_|fail)
     apply rdV rfl
     ·exact rfl
     ·exact zqa
     all_goals exact rfl
   | none=>
     rw[hqt]at hg hr
     simp only at hr
     subst hr
     unfold tagR at hg
     rw[vlE,zbI _ _ _ _ _ _ rfl rfl rfl rfl,qaC]
     refine so Tryz.func124 ?_
     repeat' (first|refine wu ?_|exact wkc|intro hc|refine wk2 ?_ ?_|refine wd hn ?_|refine wd h1 ?_|refine wd h2 ?_|refine wd h3 ?_|refine wd h4 ?_|refine wd h5 ?_|refine wd h6 ?_|refine wd h7 ?_|refine wd h8 ?_|refine we q1 ?_ ?_|refine wd ht ?_|refine wd hg ?_|fail)
     apply rdV rfl
     ·exact rfl
     ·exact zqa
     all_goals exact rfl
set_option maxHeartbeats 8000000 in
theorem zlz (l:List Tok) (n:Int) (es:List En) (i t v:Nat) (known:Bool) (hk:TkOk l) (hes:EsOk es):
  RdS l n es 170 [.i t,.i v,.b known] i ((rdr l es).wanted t v known i) (.tup []):=by
 have hl:=hk.len
 have h1:=zbx l n es i [116,114,117,101] hl
 have h2:=zbx l n es i [102,97,108,115,101] hl
 have h3:=zaG l n es i 1 hl
 have hf:=zb8 l n es i i 5 (by decide) hl
 generalize hr:(rdr l es).wanted t v known i=r
 unfold Rd.wanted at hr
 refine Sound.err rfl (fun _=>rfl) ?_
 cases hb1:(rdr l es).isAt i [116,114,117,101] with
 | true=>
   rw[hb1]at h1
   rw[if_pos hb1]at hr
   by_cases c1:t=1 <;> by_cases c2:v=1 <;> cases known <;> simp[c1,c2]at hr
   all_goals
    refine so Tryz.func170 ?_
    repeat' (first|refine wu ?_|exact wkc|intro hc|refine wk2 ?_ ?_|refine wd h1 ?_|refine we hf ?_ ?_|fail)
    first
     | exact rdP hr.symm (by decide)
     | exact rdV (vs:=[]) hr.symm rfl (Le.refl _) rfl rfl rfl
     | exact rdN (vs:=[]) hr.symm rfl (Le.refl _) rfl rfl rfl
 | false=>
   rw[hb1]at h1
   rw[if_neg (by rw[hb1];decide)]at hr
   cases hb2:(rdr l es).isAt i [102,97,108,115,101] with
   | true=>
     rw[hb2]at h2
     rw[if_pos hb2]at hr
     by_cases c1:t=1 <;> by_cases c2:v=1 <;> cases known <;> simp[c1,c2]at hr
     all_goals
      refine so Tryz.func170 ?_
      repeat' (first|refine wu ?_|exact wkc|intro hc|refine wk2 ?_ ?_|refine wd h1 ?_|refine wd h2 ?_|refine we hf ?_ ?_|fail)
      first
       | exact rdP hr.symm (by decide)
       | exact rdV (vs:=[]) hr.symm rfl (Le.refl _) rfl rfl rfl
       | exact rdN (vs:=[]) hr.symm rfl (Le.refl _) rfl rfl rfl
   | false=>
     rw[hb2]at h2
     rw[if_neg (by rw[hb2];decide)]at hr
     cases hb3:(rdr l es).kind i 1 with
     | false=>
       rw[hb3]at h3
       rw[if_pos hb3]at hr
       refine so Tryz.func170 ?_
       repeat' (first|refine wu ?_|exact wkc|intro hc|refine wk2 ?_ ?_|refine wd h1 ?_|refine wd h2 ?_|refine wd h3 ?_|refine we hf ?_ ?_|fail)
       exact rdP hr.symm (by decide)
     | true=>
       obtain⟨hlt,_⟩:=zgO hb3
       rw[hb3]at h3
       rw[if_neg (by rw[hb3];decide)]at hr
       have hg:=zgd l n es i ((rdr l es).txt i) hes
       have hml:(l.map tokT).length=l.length:=qab _
       have hx:=zeO hlt
       rw[zjR hlt]at hr hg
       generalize l[i]=tk at*
       cases hqt:(rdr l es).tag tk.2.1 with
       | none=>
         rw[hqt]at hg hr
         unfold tagR at hg
         simp only at hr
         cases known <;> simp at hr
         all_goals
          refine so Tryz.func170 ?_
          repeat' (first|refine wkt ?_|(apply TO.want;exact rfl)|refine wd h1 ?_|refine wd h2 ?_|refine wd h3 ?_|exact wkc|intro hc|refine wk2 ?_ ?_|fail)
          refine rgS [.ref 0 0,.ref 0 0,.ref 0 0,.ref 0 0,.t (.sl 3 (l.map tokT)),.ref 0 0,.ref 0 0,.ref 0 2,.i i,.cp [T.i tk.1,.s tk.2.1,T.i tk.2.2] 0,.cp [T.i tk.1,.s tk.2.1,T.i tk.2.2] 1,.s tk.2.1,.tup [.i 0,.i 0,.b false],.tup [.i 0,.i 0,.b false],.i 0,.i 0,.b false,.i 0,.i 0,.b false] ?_ ?_
          ·repeat' (first|refine wkt ?_|exact trivial|exact⟨⟨rfl,rfl⟩,trivial⟩|refine qai (fun env=>?_) ?_|refine qai ?_ ?_|refine wd hg ?_|refine wk ?_|exact wkc|intro hc|refine wk2 ?_ ?_|fail)
           done
          ·repeat' (first|refine wu ?_|exact wkc|intro hc|refine wk2 ?_ ?_|refine we hf ?_ ?_|fail)
           exact zwci
       | some uw=>
         rw[hqt]at hg hr
         unfold tagR at hg
         obtain⟨u,w⟩:=uw
         simp only at hr hg
         cases known with
         | true=>
           replace hr:(if u≠t\/w≠v then PR.er i 5 else PR.ok () i)=r:=by simpa using hr
           by_cases c1:u=t <;> by_cases c2:w=v
           ·exact zwd
           all_goals
            rw[if_pos (by omega)]at hr
            refine so Tryz.func170 ?_
            repeat' (first|refine wkt ?_|(apply TO.want;exact rfl)|refine wd h1 ?_|refine wd h2 ?_|refine wd h3 ?_|exact wkc|intro hc|refine wk2 ?_ ?_|fail)
            refine rgS [.ref 0 0,.ref 0 0,.ref 0 0,.ref 0 0,.t (.sl 3 (l.map tokT)),.ref 0 0,.ref 0 0,.ref 0 2,.i i,.cp [T.i tk.1,.s tk.2.1,T.i tk.2.2] 0,.cp [T.i tk.1,.s tk.2.1,T.i tk.2.2] 1,.s tk.2.1,.tup [.i (u:Int),.i (w:Int),.b true],.tup [.i (u:Int),.i (w:Int),.b true],.i (u:Int),.i (w:Int),.b true,.i (u:Int),.i (w:Int),.b true] ?_ ?_
            ·repeat' (first|refine wkt ?_|exact trivial|exact⟨⟨rfl,rfl⟩,trivial⟩|refine qai (fun env=>?_) ?_|refine qai ?_ ?_|refine wd hg ?_|refine wk ?_|exact wkc|intro hc|refine wk2 ?_ ?_|fail)
             done
            ·repeat' (first|refine wu ?_|exact wkc|intro hc|refine wk2 ?_ ?_|refine we hf ?_ ?_|fail)
             exact zwci
         | false=>
           replace hr:(if w≠0 then PR.er i 5 else PR.ok () i)=r:=by simpa using hr
           by_cases c2:w=0
           ·exact zwd
           ·rw[if_pos (by omega)]at hr
            refine so Tryz.func170 ?_
            repeat' (first|refine wkt ?_|(apply TO.want;exact rfl)|refine wd h1 ?_|refine wd h2 ?_|refine wd h3 ?_|exact wkc|intro hc|refine wk2 ?_ ?_|fail)
            refine rgS [.ref 0 0,.ref 0 0,.ref 0 0,.ref 0 0,.t (.sl 3 (l.map tokT)),.ref 0 0,.ref 0 0,.ref 0 2,.i i,.cp [T.i tk.1,.s tk.2.1,T.i tk.2.2] 0,.cp [T.i tk.1,.s tk.2.1,T.i tk.2.2] 1,.s tk.2.1,.tup [.i (u:Int),.i (w:Int),.b true],.tup [.i (u:Int),.i (w:Int),.b true],.i (u:Int),.i (w:Int),.b true,.i (u:Int),.i (w:Int),.b true] ?_ ?_
            ·repeat' (first|refine wkt ?_|exact trivial|exact⟨⟨rfl,rfl⟩,trivial⟩|refine qai (fun env=>?_) ?_|refine qai ?_ ?_|refine wd hg ?_|refine wk ?_|exact wkc|intro hc|refine wk2 ?_ ?_|fail)
             done
            ·repeat' (first|refine wu ?_|exact wkc|intro hc|refine wk2 ?_ ?_|refine we hf ?_ ?_|fail)
             exact zwci
theorem zoD(l:List Tok)(n:Int)(es:List En)(i:Nat)(hi:i≤l.length)(hk:TkOk l)(hes:EsOk es){f g:Nat->PR Ex}
  (he:∀j,i<j->j≤l.length->ExR l n es 22 [] j (f j)/\InR l.length (j+1) (f j))
  (hm:(rdr l es).isAt i [109,101,114,103,101]=true->ExR l n es 159 [] (i+1) ((rdr l es).merge f (i+1))/\InR l.length (i+1) ((rdr l es).merge f (i+1)))
  (hc:∀s j,i<j->j≤l.length->ExR l n es 161 [.s s] j ((rdr l es).call f g s j)/\InR l.length j ((rdr l es).call f g s j)):
  ExR l n es 124 [] i ((rdr l es).prim f g i):=by
 unfold Rd.prim
 cases g0:(rdr l es).neg i with
 | true=>rw[if_pos rfl];exact zsd l n es i hi hk g0
 | false=>
 rw[if_neg (by decide)]
 cases g1:(rdr l es).isAt i [45] with
 | true=>rw[if_pos rfl];exact zoB l n es i hi hk g0 g1
 | false=>
 rw[if_neg (by decide)]
 cases g2:(rdr l es).kind i 2 with
 | true=>rw[if_pos rfl];exact zse l n es i hi hk g0 g1 g2
 | false=>
 rw[if_neg (by decide)]
 cases g3:(rdr l es).kind i 5 with
 | true=>rw[if_pos rfl];exact zsf l n es i hi hk g0 g1 g2 g3
 | false=>
 rw[if_neg (by decide)]
 cases g4:(rdr l es).isAt i [116,114,117,101] with
 | true=>rw[if_pos rfl];exact zqp l n es i hi hk g0 g1 g2 g3 g4
 | false=>
 rw[if_neg (by decide)]
 cases g5:(rdr l es).isAt i [102,97,108,115,101] with
 | true=>rw[if_pos rfl];exact zoy l n es i hi hk g0 g1 g2 g3 g4 g5
 | false=>
 rw[if_neg (by decide)]
 cases g6:(rdr l es).isAt i [40] with
 | true=>rw[if_pos rfl];exact zoC l n es i hi hk g0 g1 g2 g3 g4 g5 g6 he
 | false=>
 rw[if_neg (by decide)]
 cases g7:(rdr l es).isAt i [105,102] with
 | true=>rw[if_pos rfl];exact zuk l n es i hi hk g0 g1 g2 g3 g4 g5 g6 g7 he
 | false=>
 rw[if_neg (by decide)]
 cases g8:(rdr l es).isAt i [109,101,114,103,101] with
 | true=>rw[if_pos rfl];exact zoA l n es i hi hk g0 g1 g2 g3 g4 g5 g6 g7 g8 (hm g8)
 | false=>
 rw[if_neg (by decide)]
 exact zoz l n es i hi hk hes g0 g1 g2 g3 g4 g5 g6 g7 g8 hc
def G.rank:G->Nat
 | .expr=>9
 | .level n=>8-n
 | .unary=>1
 | .prim=>0
def ExG(l:List Tok)(n:Int)(es:List En)(i:Nat)(r:PR Ex):G->Prop
 | .expr=>ExR l n es 22 [] i r
 | .level k=>k≤6->ExR l n es 48 [.i k] i r
 | .unary=>ExR l n es 82 [] i r
 | .prim=>ExR l n es 124 [] i r
def zsF(l:List Tok)(n:Int)(es:List En):Prop:=∀(f:Nat->PR Ex) (i:Nat),i≤l.length->(∀j,i≤j->j≤l.length->ExR l n es 22 [] j (f j)/\InR l.length (j+1) (f j))->
 ExR l n es 159 [] i ((rdr l es).merge f i)
def zuL(l:List Tok)(n:Int)(es:List En):Prop:=∀(f g:Nat->PR Ex) (s:Str) (i:Nat),i≤l.length->(∀j,i≤j->j≤l.length->ExR l n es 22 [] j (f j)/\InR l.length (j+1) (f j))->
 (∀j,i≤j->j≤l.length->ExR l n es 124 [] j (g j)/\InR l.length (j+1) (g j))->
 ExR l n es 161 [.s s] i ((rdr l es).call f g s i)
theorem zsa(l:List Tok)(n:Int)(es:List En)(hk:TkOk l)(hes:EsOk es)(hM:zsF l n es)(hC:zuL l n es):
  ∀(m:Nat) (g:G) (i:Nat),i≤l.length->10*(l.length-i)+g.rank<m->ExG l n es i (pF (rdr l es) m g i) g:=by
 have hin:∀(m:Nat) (g:G) {i:Nat},i≤l.length->InR l.length (i+1) (pF (rdr l es) m g i):=fun m g i h=>by
  have:=zd9 (R:=rdr l es) m g (i:=i) (by rw[zal];exact h)
  rw[zal]at this
  exact this
 intro m
 induction m with
 | zero=>intro g i _ h;omega
 | succ m ih=>
   intro g i hi hm
   cases g with
   | expr=>
     have hm:10*(l.length-i)+9<m+1:=hm
     show ExR _ _ _ _ _ _ _
     unfold pF
     exact zn8 l n es i hk.len hi (fe:=pF (rdr l es) m .expr) ⟨ih (.level 0) i hi (by show 10*(l.length-i)+8<m;omega) (by decide),hin _ _ hi⟩ fun j h1 h2=>⟨ih .expr j h2 (by show 10*(l.length-j)+9<m;omega),hin _ _ h2⟩
   | level k=>
     have hm:10*(l.length-i)+(8-k)<m+1:=hm
     show k≤6->ExR _ _ _ _ _ _ _
     intro h6
     unfold pF
     by_cases h2:k=2
     ·subst h2
      rw[if_pos rfl]
      refine zkL l n es i hk.len hi (fun hb=>?_) ?_
      ·have hlt:=zaE hb
       rw[zal]at hlt
       exact⟨ih (.level 2) (i+1) hlt (by show 10*(l.length-(i+1))+6<m;omega) (by decide),(hin _ _ hlt).le (by omega)⟩
      ·exact⟨ih (.level 3) i hi (by show 10*(l.length-i)+5<m;omega) (by decide),(hin _ _ hi).le (by omega)⟩
     rw[if_neg h2]
     by_cases h7:k=6
     ·subst h7
      rw[if_pos rfl]
      exact zkM l n es i ⟨ih .unary i hi (by show 10*(l.length-i)+1<m;omega),hin _ _ hi⟩
     rw[if_neg h7]
     exact zkN l n es i k hk.len hi hk.short h2 h7 (by omega) (f:=pF (rdr l es) m (.level (k+1))) fun j h3 h4=>⟨ih (.level (k+1)) j h4 (by show 10*(l.length-j)+(8-(k+1))<m;omega) (by omega),hin _ _ h4⟩
   | unary=>
     have hm:10*(l.length-i)+1<m+1:=hm
     show ExR _ _ _ _ _ _ _
     unfold pF
     refine zmH l n es i hk.len hi hes (fun hb=>?_) ⟨ih .prim i hi (by show 10*(l.length-i)+0<m;omega),hin _ _ hi⟩
     have hlt:i<l.length:=by
      rcases hb with hb|hb
      ·have:=zaE hb;rw[zal]at this;exact this
      ·have:=zaE hb;rw[zal]at this;exact this
     exact⟨ih .unary (i+1) hlt (by show 10*(l.length-(i+1))+1<m;omega),(hin _ _ hlt).le (by omega)⟩
   | prim=>
     have hm:10*(l.length-i)+0<m+1:=hm
     show ExR _ _ _ _ _ _ _
     unfold pF
     have hE:∀j,i<j->j≤l.length->ExR l n es 22 [] j (pF (rdr l es) m .expr j)/\InR l.length (j+1) (pF (rdr l es) m .expr j):=fun j h1 h2=>⟨ih .expr j h2 (by show 10*(l.length-j)+9<m;omega),hin _ _ h2⟩
     have hP:∀j,i<j->j≤l.length->ExR l n es 124 [] j (pF (rdr l es) m .prim j)/\InR l.length (j+1) (pF (rdr l es) m .prim j):=fun j h1 h2=>⟨ih .prim j h2 (by show 10*(l.length-j)+0<m;omega),hin _ _ h2⟩
     refine zoD l n es i hi hk hes hE (fun hb=>?_) (fun s j h1 h2=>?_)
     ·have hlt:=zaE hb
      rw[zal]at hlt
      refine⟨hM _ (i+1) hlt fun j h1 h2=>hE j (by omega) h2,?_⟩
      have:=znk (R:=rdr l es) (f:=pF (rdr l es) m .expr) (fun j hj=>zd9 m .expr hj) (i:=i+1) (by rw[zal];exact hlt)
      rw[zal]at this
      exact this.le (by omega)
     ·refine⟨hC _ _ s j h2 (fun k h3 h4=>hE k (by omega) h4) (fun k h3 h4=>hP k (by omega) h4),?_⟩
      have:=zpi (R:=rdr l es) (f:=pF (rdr l es) m .expr) (g:=pF (rdr l es) m .prim) (fun j hj=>zd9 m .expr hj) (fun j hj=>zd9 m .prim hj) s (i:=j) (by rw[zal];exact h2)
      rw[zal]at this
      exact this.le (by omega)
end Go.Proofs.YthmbhfgflijapaaGreatDoor
