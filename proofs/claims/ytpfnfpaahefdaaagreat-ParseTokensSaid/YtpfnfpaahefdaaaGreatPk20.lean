import Derived.Test.YtpfnfpaahefdaaaGreatPk19
set_option linter.all false
namespace Go.Proofs.YtpfnfpaahefdaaaGreat
open Go Go.TL
attribute [local irreducible] TR TO Then zab RetK Sound zac Kf GG za2
set_option maxHeartbeats 4000000 in
theorem zlp (l:List Tok) (n:Int) (es:List En) (i:Nat) (hl:l.length≤1000000) (hi:i≤l.length) {r0:PR Ex} {fe:Nat->PR Ex}
  (h0:ExR l n es 62 [.i 0] i r0/\InR l.length (i+1) r0)
  (he:∀j,i<j->j≤l.length->ExR l n es 34 [] j (fe j)/\InR l.length (j+1) (fe j)):
  ExR l n es 34 [] i (r0.bind fun a j=>
   if(rdr l es).isAt j [45,62]=true then(fe (j+1)).bind fun b k=>.ok (mkE 6 0 0 0 [] [a,b]) k
   else if(rdr l es).isAt j [102,98,121]=true then(fe (j+1)).bind fun b k=>.ok (mkE 7 0 0 0 [] [a,b]) k
   else .ok a j):=by
 obtain⟨h1,hin⟩:=h0
 generalize hr:(r0.bind fun a j=>_)=r
 refine Sound.err rfl (fun _=>rfl) ?_
 cases r0 with
 | er k c=>
   have hc0:=hin.2
   replace h1:=h1.er
   simp only[PR.vl]at h1
   refine so Tryz.func34 ?_
   repeat' (first|refine wu ?_|exact wkc|intro hc|refine wk2 ?_ ?_|refine we h1 ?_ ?_|fail)
   exact rdP hr.symm hc0
 | ok a j=>
   replace h1:=h1.ok
   obtain⟨hj1,hj2⟩:=hin
   simp only[PR.vl]at h1
   simp only[PR.bind]at hr
   rw[zao a]at h1
   unfold exC at h1
   have ht1:=zal l n es j [45,62] hl hj2
   have ht2:=zal l n es j [102,98,121] hl hj2
   cases hw1:(rdr l es).isAt j [45,62] with
   | true=>
     have hlt:=zam hw1
     rw[zaf]at hlt
     rw[hw1,if_pos rfl]at ht1
     rw[if_pos hw1]at hr
     obtain⟨hx,hin⟩:=he (j+1) (by omega) hlt
     cases hq:fe (j+1) with
     | er c2 c=>
       rw[hq]at hx hin hr
       have hc0:=hin.2
       replace hx:=hx.er
       simp only[PR.vl]at hx
       simp only[PR.bind]at hr
       refine so Tryz.func34 ?_
       repeat' (first|refine wkt ?_|refine zqo ?_|refine we h1 ?_ ?_|refine wd ht1 ?_|exact wkc|intro hc|refine wk2 ?_ ?_|fail)
       refine rgX 2 (g:=False) [(.t (.ag [T.n a.kind,T.n a.op,T.n a.t,T.n a.v,T.s a.name,T.sl 6 (a.args.map exT)]),0,1),(.ref 0 0,0,1),(.t (.ag [T.n a.kind,T.n a.op,T.n a.t,T.n a.v,T.s a.name,T.sl 6 (a.args.map exT)]),1,0),(.t (.sl 6 [.ag [T.n a.kind,T.n a.op,T.n a.t,T.n a.v,T.s a.name,T.sl 6 (a.args.map exT)],.ag [T.n a.kind,T.n a.op,T.n a.t,T.n a.v,T.s a.name,T.sl 6 (a.args.map exT)]]),1,1),(.t (.ag [T.i 6,T.i 0,T.i 0,T.i 0,T.s [],T.sl 6 [.ag [T.n a.kind,T.n a.op,T.n a.t,T.n a.v,T.s a.name,T.sl 6 (a.args.map exT)],.ag [T.n a.kind,T.n a.op,T.n a.t,T.n a.v,T.s a.name,T.sl 6 (a.args.map exT)]]]),1,1),(.t (.v undef),1,0)] [[rdB l n es (j+1),exZ],[rdB l n es (j+1),exZ],[rdB l n es (j+1),.cells [.t (T.i 6),.t (T.i 0),.t (T.i 0),.t (T.i 0),.t (T.s []),.t (T.sl 6 [.ag [T.n a.kind,T.n a.op,T.n a.t,T.n a.v,T.s a.name,T.sl 6 (a.args.map exT)],.ag [T.n a.kind,T.n a.op,T.n a.t,T.n a.v,T.s a.name,T.sl 6 (a.args.map exT)]])]]] ?_ (fun h=>h.elim)
       repeat' (first|refine wkt ?_|exact trivial|exact⟨⟨rfl,rfl⟩,trivial⟩|refine qai (fun env=>?_) ?_|refine qai ?_ ?_|refine we hx ?_ ?_|refine wk ?_|exact wkc|intro hc|refine wk2 ?_ ?_|fail)
       exact rdP hr.symm hc0
     | ok b j2=>
       rw[hq]at hx hin hr
       replace hx:=hx.ok
       obtain⟨hj3,hj4⟩:=hin
       simp only[PR.vl]at hx
       simp only[PR.bind]at hr
       rw[zao b]at hx
       unfold exC at hx
       subst hr
       refine so Tryz.func34 ?_
       repeat' (first|refine wkt ?_|refine zqo ?_|refine we h1 ?_ ?_|refine wd ht1 ?_|exact wkc|intro hc|refine wk2 ?_ ?_|fail)
       refine rgX 2 (g:=True) [(.t (.ag [T.n a.kind,T.n a.op,T.n a.t,T.n a.v,T.s a.name,T.sl 6 (a.args.map exT)]),0,1),(.ref 0 0,0,1),(.t (.ag [T.n b.kind,T.n b.op,T.n b.t,T.n b.v,T.s b.name,T.sl 6 (b.args.map exT)]),1,0),(.t (.sl 6 [.ag [T.n a.kind,T.n a.op,T.n a.t,T.n a.v,T.s a.name,T.sl 6 (a.args.map exT)],.ag [T.n b.kind,T.n b.op,T.n b.t,T.n b.v,T.s b.name,T.sl 6 (b.args.map exT)]]),1,1),(.t (.ag [T.i 6,T.i 0,T.i 0,T.i 0,T.s [],T.sl 6 [.ag [T.n a.kind,T.n a.op,T.n a.t,T.n a.v,T.s a.name,T.sl 6 (a.args.map exT)],.ag [T.n b.kind,T.n b.op,T.n b.t,T.n b.v,T.s b.name,T.sl 6 (b.args.map exT)]]]),1,1),(.t (.v undef),1,0)] [[rdB l n es (j+1),exZ],[rdB l n es j2,exZ],[rdB l n es j2,.cells [.t (T.i 6),.t (T.i 0),.t (T.i 0),.t (T.i 0),.t (T.s []),.t (T.sl 6 [.ag [T.n a.kind,T.n a.op,T.n a.t,T.n a.v,T.s a.name,T.sl 6 (a.args.map exT)],.ag [T.n b.kind,T.n b.op,T.n b.t,T.n b.v,T.s b.name,T.sl 6 (b.args.map exT)]])]]] ?_ (fun _=>?_)
       ·repeat' (first|refine wkt ?_|exact trivial|exact⟨⟨rfl,rfl⟩,trivial⟩|refine qai (fun env=>?_) ?_|refine qai ?_ ?_|refine we hx ?_ ?_|refine wk ?_|exact wkc|intro hc|refine wk2 ?_ ?_|fail)
        done
       ·repeat' (first|refine wu ?_|exact wkc|intro hc|refine wk2 ?_ ?_|fail)
        exact zwbu
   | false=>
   rw[hw1,if_neg (by decide)]at ht1
   rw[if_neg (by rw[hw1];decide)]at hr
   cases hw2:(rdr l es).isAt j [102,98,121] with
   | true=>
     have hlt:=zam hw2
     rw[zaf]at hlt
     rw[hw2,if_pos rfl]at ht2
     rw[if_pos hw2]at hr
     obtain⟨hx,hin⟩:=he (j+1) (by omega) hlt
     cases hq:fe (j+1) with
     | er c2 c=>
       rw[hq]at hx hin hr
       have hc0:=hin.2
       replace hx:=hx.er
       simp only[PR.vl]at hx
       simp only[PR.bind]at hr
       refine so Tryz.func34 ?_
       repeat' (first|refine wkt ?_|refine zqo ?_|refine we h1 ?_ ?_|refine wd ht1 ?_|refine wd ht2 ?_|exact wkc|intro hc|refine wk2 ?_ ?_|fail)
       refine rgX 2 (g:=False) [(.t (.ag [T.n a.kind,T.n a.op,T.n a.t,T.n a.v,T.s a.name,T.sl 6 (a.args.map exT)]),0,1),(.ref 0 0,0,1),(.t (.ag [T.n a.kind,T.n a.op,T.n a.t,T.n a.v,T.s a.name,T.sl 6 (a.args.map exT)]),1,0),(.t (.sl 6 [.ag [T.n a.kind,T.n a.op,T.n a.t,T.n a.v,T.s a.name,T.sl 6 (a.args.map exT)],.ag [T.n a.kind,T.n a.op,T.n a.t,T.n a.v,T.s a.name,T.sl 6 (a.args.map exT)]]),1,1),(.t (.ag [T.i 7,T.i 0,T.i 0,T.i 0,T.s [],T.sl 6 [.ag [T.n a.kind,T.n a.op,T.n a.t,T.n a.v,T.s a.name,T.sl 6 (a.args.map exT)],.ag [T.n a.kind,T.n a.op,T.n a.t,T.n a.v,T.s a.name,T.sl 6 (a.args.map exT)]]]),1,1),(.t (.v undef),1,0)] [[rdB l n es (j+1),exZ],[rdB l n es (j+1),exZ],[rdB l n es (j+1),.cells [.t (T.i 7),.t (T.i 0),.t (T.i 0),.t (T.i 0),.t (T.s []),.t (T.sl 6 [.ag [T.n a.kind,T.n a.op,T.n a.t,T.n a.v,T.s a.name,T.sl 6 (a.args.map exT)],.ag [T.n a.kind,T.n a.op,T.n a.t,T.n a.v,T.s a.name,T.sl 6 (a.args.map exT)]])]]] ?_ (fun h=>h.elim)
       repeat' (first|refine wkt ?_|exact trivial|exact⟨⟨rfl,rfl⟩,trivial⟩|refine qai (fun env=>?_) ?_|refine qai ?_ ?_|refine we hx ?_ ?_|refine wk ?_|exact wkc|intro hc|refine wk2 ?_ ?_|fail)
       exact rdP hr.symm hc0
     | ok b j2=>
       rw[hq]at hx hin hr
       replace hx:=hx.ok
       obtain⟨hj3,hj4⟩:=hin
       simp only[PR.vl]at hx
       simp only[PR.bind]at hr
       rw[zao b]at hx
       unfold exC at hx
       subst hr
       refine so Tryz.func34 ?_
       repeat' (first|refine wkt ?_|refine zqo ?_|refine we h1 ?_ ?_|refine wd ht1 ?_|refine wd ht2 ?_|exact wkc|intro hc|refine wk2 ?_ ?_|fail)
       refine rgX 2 (g:=True) [(.t (.ag [T.n a.kind,T.n a.op,T.n a.t,T.n a.v,T.s a.name,T.sl 6 (a.args.map exT)]),0,1),(.ref 0 0,0,1),(.t (.ag [T.n b.kind,T.n b.op,T.n b.t,T.n b.v,T.s b.name,T.sl 6 (b.args.map exT)]),1,0),(.t (.sl 6 [.ag [T.n a.kind,T.n a.op,T.n a.t,T.n a.v,T.s a.name,T.sl 6 (a.args.map exT)],.ag [T.n b.kind,T.n b.op,T.n b.t,T.n b.v,T.s b.name,T.sl 6 (b.args.map exT)]]),1,1),(.t (.ag [T.i 7,T.i 0,T.i 0,T.i 0,T.s [],T.sl 6 [.ag [T.n a.kind,T.n a.op,T.n a.t,T.n a.v,T.s a.name,T.sl 6 (a.args.map exT)],.ag [T.n b.kind,T.n b.op,T.n b.t,T.n b.v,T.s b.name,T.sl 6 (b.args.map exT)]]]),1,1),(.t (.v undef),1,0)] [[rdB l n es (j+1),exZ],[rdB l n es j2,exZ],[rdB l n es j2,.cells [.t (T.i 7),.t (T.i 0),.t (T.i 0),.t (T.i 0),.t (T.s []),.t (T.sl 6 [.ag [T.n a.kind,T.n a.op,T.n a.t,T.n a.v,T.s a.name,T.sl 6 (a.args.map exT)],.ag [T.n b.kind,T.n b.op,T.n b.t,T.n b.v,T.s b.name,T.sl 6 (b.args.map exT)]])]]] ?_ (fun _=>?_)
       ·repeat' (first|refine wkt ?_|exact trivial|exact⟨⟨rfl,rfl⟩,trivial⟩|refine qai (fun env=>?_) ?_|refine qai ?_ ?_|refine we hx ?_ ?_|refine wk ?_|exact wkc|intro hc|refine wk2 ?_ ?_|fail)
        done
       ·repeat' (first|refine wu ?_|exact wkc|intro hc|refine wk2 ?_ ?_|fail)
        exact zwbu
   | false=>
     rw[hw2,if_neg (by decide)]at ht2
     rw[if_neg (by rw[hw2];decide)]at hr
     subst hr
     refine so Tryz.func34 ?_
     repeat' (first|refine wu ?_|exact wkc|intro hc|refine wk2 ?_ ?_|refine we h1 ?_ ?_|refine wd ht1 ?_|refine wd ht2 ?_|fail)
     apply rdV rfl
     ·exact rfl
     ·rw[vlE,zao]
      unfold exC
      exact zqa
     all_goals exact rfl
structure TkOk (l:List Tok):Prop where
 len:l.length≤1000000
 short:∀t∈l,t.2.1.length≤1000000000
 num:∀t∈l,t.1=2->t.2.1.length≤5/\∀c∈t.2.1,48≤c.toNat/\c.toNat≤57
theorem zh4{l:List Tok}{es:List En}{i:Nat}(h:i<l.length):(rdr l es).txt i=l[i].2.1:=by
 exact zwep
theorem zfE{l:List Tok}{es:List En}{i:Nat}{k:Int}(hk:(rdr l es).kind i k=true):∃h:i<l.length,l[i].1=k:=by
 have h:=zcu hk
 rw[zaf]at h
 refine⟨h,?_⟩
 unfold Rd.kind at hk
 simpa only[qar,qab h,qaX,decide_eq_true_eq]using hk
theorem TO.zoe{q:Bool}{n:Nat}{env:Env}{H:Heap}{K:TK}{all:Array Oper}{rest:List Oper}{d:Nat}{ty t:TypeId}{pos:String}{aft:Array Edge}{x:Operand}{b:Int}(hd:Nat.ble (d+1) n=true)(hx:env.val x=some (.i b))(h1:-9223372036854775808≤-b)(h2:-b≤9223372036854775807)
  (k:TO q Tryz.prog n all rest ((d,.i (-b))::env) H K):TO q Tryz.prog n all (⟨some d,.unOp .neg t x,ty,pos,aft,none⟩::rest) env H K:=by
 refine TO.neg hd hx ?_
 rw[zfb (by omega) (by omega),show(0:Int)-b= -b by omega];exact k
theorem zm2{s:Str}(h:s.length≤5/\∀c∈s,48≤c.toNat/\c.toNat≤57):0≤numV s/\numV s≤100000:=by
 have h1:=zhd h.2
 have h2:=pw5 h.1
 omega
set_option maxHeartbeats 4000000 in
theorem zlV (l:List Tok) (n:Int) (es:List En) (i:Nat) (hi:i≤l.length) (hk:TkOk l) (g0:(rdr l es).neg i=false) (g1:(rdr l es).isAt i [45]=true):ExR l n es 94 [] i (.er (i+1) 5):=by
 have hl:=hk.len
 have hn:=zbJ l n es i hl hi
 rw[g0]at hn
 have h1:=zaO l n es i [45] hl
 rw[g1]at h1
 refine Sound.err rfl (fun _=>rfl) ?_
 have hf:=zbi l n es i (i+1) 5 (by decide) hl
 refine so Tryz.func94 ?_
 repeat' (first|refine wu ?_|exact wkc|intro hc|refine wk2 ?_ ?_|refine wd hn ?_|refine wd h1 ?_|refine we hf ?_ ?_|fail)
 exact rdP rfl (by decide)
set_option maxHeartbeats 4000000 in
theorem zm6 (l:List Tok) (n:Int) (es:List En) (i:Nat) (hi:i≤l.length) (hk:TkOk l) (g0:(rdr l es).neg i=false) (g1:(rdr l es).isAt i [45]=false) (g2:(rdr l es).kind i 2=false) (g3:(rdr l es).kind i 5=false) (g4:(rdr l es).isAt i [116,114,117,101]=true):ExR l n es 94 [] i (.ok (mkE 1 0 1 1 [] []) (i+1)):=by
 have hl:=hk.len
 have hn:=zbJ l n es i hl hi
 rw[g0]at hn
 have h1:=zaO l n es i [45] hl
 rw[g1]at h1
 have h2:=zaK l n es i 2 hl
 rw[g2]at h2
 have h3:=zaK l n es i 5 hl
 rw[g3]at h3
 have h4:=zal l n es i [116,114,117,101] hl hi
 rw[g4,if_pos rfl]at h4
 refine Sound.err rfl (fun _=>rfl) ?_
 refine so Tryz.func94 ?_
 repeat' (first|refine wu ?_|exact wkc|intro hc|refine wk2 ?_ ?_|refine wd hn ?_|refine wd h1 ?_|refine wd h2 ?_|refine wd h3 ?_|refine wd h4 ?_|fail)
 exact zwdd
set_option maxHeartbeats 4000000 in
theorem zlS (l:List Tok) (n:Int) (es:List En) (i:Nat) (hi:i≤l.length) (hk:TkOk l) (g0:(rdr l es).neg i=false) (g1:(rdr l es).isAt i [45]=false) (g2:(rdr l es).kind i 2=false) (g3:(rdr l es).kind i 5=false) (g4:(rdr l es).isAt i [116,114,117,101]=false) (g5:(rdr l es).isAt i [102,97,108,115,101]=true):ExR l n es 94 [] i (.ok (mkE 1 0 1 0 [] []) (i+1)):=by
 have hl:=hk.len
 have hn:=zbJ l n es i hl hi
 rw[g0]at hn
 have h1:=zaO l n es i [45] hl
 rw[g1]at h1
 have h2:=zaK l n es i 2 hl
 rw[g2]at h2
 have h3:=zaK l n es i 5 hl
 rw[g3]at h3
 have h4:=zal l n es i [116,114,117,101] hl hi
 rw[g4,if_neg (by decide)]at h4
 have h5:=zal l n es i [102,97,108,115,101] hl hi
 rw[g5,if_pos rfl]at h5
 refine Sound.err rfl (fun _=>rfl) ?_
 refine so Tryz.func94 ?_
 repeat' (first|refine wu ?_|exact wkc|intro hc|refine wk2 ?_ ?_|refine wd hn ?_|refine wd h1 ?_|refine wd h2 ?_|refine wd h3 ?_|refine wd h4 ?_|refine wd h5 ?_|fail)
 exact zwdd
set_option maxHeartbeats 4000000 in
theorem zop (l:List Tok) (n:Int) (es:List En) (i:Nat) (hi:i≤l.length) (hk:TkOk l) (g0:(rdr l es).neg i=false) (g1:(rdr l es).isAt i [45]=false) (g2:(rdr l es).kind i 2=false) (g3:(rdr l es).kind i 5=true):ExR l n es 94 [] i (.ok (mkE 11 0 0 0 ((rdr l es).txt i) []) (i+1)):=by
 have hl:=hk.len
 have hn:=zbJ l n es i hl hi
 rw[g0]at hn
 have h1:=zaO l n es i [45] hl
 rw[g1]at h1
 have h2:=zaK l n es i 2 hl
 rw[g2]at h2
 have h3:=zaK l n es i 5 hl
 rw[g3]at h3
 refine Sound.err rfl (fun _=>rfl) ?_
 obtain⟨hlt,_⟩:=zfE g3
 have hml:(l.map tokT).length=l.length:=qad _
 have hx:=zcK hlt
 have hx':(l.map tokT)[((i:Int)+1-1).toNat]?=some (.ag [T.i l[i].1,.s l[i].2.1,T.i l[i].2.2]):=by rw[show((i:Int)+1-1).toNat=i by omega];exact hx
 rw[zh4 hlt,vlE,zbG _ _ _ _ _ _ rfl rfl rfl rfl,qas]
 generalize l[i]=t at*
 refine so Tryz.func94 ?_
 repeat' (first|refine wkt ?_|refine zqo ?_|refine zqn ?_|(apply TO.want;exact rfl)|refine wd hn ?_|refine wd h1 ?_|refine wd h2 ?_|refine wd h3 ?_|exact wkc|intro hc|refine wk2 ?_ ?_|fail)
 refine rgX 0 (g:=True) [(.ref 0 0,0,1),(.ref 0 0,0,1),(.ref 0 0,0,1),(.t (.sl 3 (l.map tokT)),0,1),(.ref 0 0,0,1),(.ref 0 0,0,1),(.ref 0 2,0,1),(.i ((i:Int)+1),0,1),(.i ((i:Int)+1-1),0,1),(.cp [T.i t.1,.s t.2.1,T.i t.2.2] 0,0,1),(.cp [T.i t.1,.s t.2.1,T.i t.2.2] 1,0,1),(.s t.2.1,0,1),(.t (.ag [T.i 11,T.i 0,T.i 0,T.i 0,T.s t.2.1,.v (.slice none 0 0)]),0,1),(.t (.v undef),1,0)] [[rdB l n es (i+1),exZ],[rdB l n es (i+1),.cells [.t (T.i 11),.t (T.i 0),.t (T.i 0),.t (T.i 0),.t (T.s t.2.1),.t (.v (.slice none 0 0))]]] ?_ (fun _=>?_)
 ·repeat' (first|refine wkt ?_|exact trivial|exact⟨⟨rfl,rfl⟩,trivial⟩|(apply TO.zaI;(iterate 3 exact rfl);omega;omega)|(apply TO.zoe;exact rfl;exact rfl;omega;omega)|refine qai (fun env=>?_) ?_|refine qai ?_ ?_|refine wk ?_|exact wkc|intro hc|refine wk2 ?_ ?_|fail)
  done
 ·repeat' (first|refine wu ?_|exact wkc|intro hc|refine wk2 ?_ ?_|fail)
  apply rdV rfl
  ·exact rfl
  ·exact zqa
  all_goals exact rfl
set_option maxHeartbeats 4000000 in
theorem zon (l:List Tok) (n:Int) (es:List En) (i:Nat) (hi:i≤l.length) (hk:TkOk l) (g0:(rdr l es).neg i=true):ExR l n es 94 [] i (.ok (mkE 1 0 2 (-numV ((rdr l es).txt (i+1))) [] []) (i+2)):=by
 have hl:=hk.len
 have hn:=zbJ l n es i hl hi
 rw[g0]at hn
 refine Sound.err rfl (fun _=>rfl) ?_
 have g0':=g0
 unfold Rd.neg at g0'
 rw[qat]at g0'
 obtain⟨hlt,hk2⟩:=zfE g0'.2
 have hnv:=hk.num _ (qaz hlt) hk2
 have hml:(l.map tokT).length=l.length:=qad _
 have hx:=zcK hlt
 have hx':(l.map tokT)[((i:Int)+2-1).toNat]?=some (.ag [T.i l[i+1].1,.s l[i+1].2.1,T.i l[i+1].2.2]):=by rw[show((i:Int)+2-1).toNat=i+1 by omega];exact hx
 have hb:=zm2 hnv
 rw[zh4 hlt,vlE,zbG _ _ _ _ _ _ rfl rfl rfl (zci (by omega)),qas]
 have hv:=zeI _ hnv.2 hnv.1
 generalize l[i+1]=t at*
 generalize numV t.2.1=v at*
 refine so Tryz.func94 ?_
 repeat' (first|refine wkt ?_|refine zqo ?_|refine zqn ?_|(apply TO.want;exact rfl)|refine wd hn ?_|exact wkc|intro hc|refine wk2 ?_ ?_|fail)
 refine rgX 0 (g:=True) [(.ref 0 0,0,1),(.ref 0 0,0,1),(.ref 0 0,0,1),(.t (.sl 3 (l.map tokT)),0,1),(.ref 0 0,0,1),(.ref 0 0,0,1),(.ref 0 2,0,1),(.i ((i:Int)+2),0,1),(.i ((i:Int)+2-1),0,1),(.cp [T.i t.1,.s t.2.1,T.i t.2.2] 0,0,1),(.cp [T.i t.1,.s t.2.1,T.i t.2.2] 1,0,1),(.s t.2.1,0,1),(.i v,0,1),(.i (-v),0,1),(.t (.ag [T.i 1,T.i 0,T.i 2,T.i (-v),T.v (str []),.v (.slice none 0 0)]),0,1),(.t (.v undef),1,0)] [[rdB l n es (i+2),exZ],[rdB l n es (i+2),.cells [.t (T.i 1),.t (T.i 0),.t (T.i 2),.t (T.i (-v)),.t (T.v (str [])),.t (.v (.slice none 0 0))]]] ?_ (fun _=>?_)
 ·repeat' (first|refine wkt ?_|exact trivial|exact⟨⟨rfl,rfl⟩,trivial⟩|(apply TO.zaI;(iterate 3 exact rfl);omega;omega)|(apply TO.zoe;exact rfl;exact rfl;omega;omega)|refine qai (fun env=>?_) ?_|refine qai ?_ ?_|refine wv hv ?_|refine wk ?_|exact wkc|intro hc|refine wk2 ?_ ?_|fail)
  done
 ·repeat' (first|refine wu ?_|exact wkc|intro hc|refine wk2 ?_ ?_|fail)
  apply rdV rfl
  ·exact rfl
  ·exact zqa
  all_goals exact rfl
set_option maxHeartbeats 4000000 in
theorem zoo (l:List Tok) (n:Int) (es:List En) (i:Nat) (hi:i≤l.length) (hk:TkOk l) (g0:(rdr l es).neg i=false) (g1:(rdr l es).isAt i [45]=false) (g2:(rdr l es).kind i 2=true):ExR l n es 94 [] i (if 32767<numV ((rdr l es).txt i) then .er i 14 else .ok (mkE 1 0 2 (numV ((rdr l es).txt i)) [] []) (i+1)):=by
 have hl:=hk.len
 have hn:=zbJ l n es i hl hi
 rw[g0]at hn
 have h1:=zaO l n es i [45] hl
 rw[g1]at h1
 have h2:=zaK l n es i 2 hl
 rw[g2]at h2
 refine Sound.err rfl (fun _=>rfl) ?_
 obtain⟨hlt,hk2⟩:=zfE g2
 have hnv:=hk.num _ (qaz hlt) hk2
 have hml:(l.map tokT).length=l.length:=qad _
 have hx:=zcK hlt
 have hb:=zm2 hnv
 have hf:=zbi l n es i i 14 (by decide) hl
 rw[zh4 hlt]
 have hv:=zeI _ hnv.2 hnv.1
 generalize l[i]=t at*
 generalize numV t.2.1=v at*
 by_cases hc:32767<v
 ·rw[if_pos hc]
  refine so Tryz.func94 ?_
  repeat' (first|refine wkt ?_|refine zqo ?_|refine zqn ?_|(apply TO.want;exact rfl)|refine wd hn ?_|refine wd h1 ?_|refine wd h2 ?_|exact wkc|intro hc|refine wk2 ?_ ?_|fail)
  refine rgS [.ref 0 0,.ref 0 0,.ref 0 0,.t (.sl 3 (l.map tokT)),.ref 0 0,.ref 0 0,.ref 0 2,.i i,.cp [T.i t.1,.s t.2.1,T.i t.2.2] 0,.cp [T.i t.1,.s t.2.1,T.i t.2.2] 1,.s t.2.1,.i v,.i v] ?_ ?_
  ·repeat' (first|refine wkt ?_|exact trivial|exact⟨⟨rfl,rfl⟩,trivial⟩|(apply TO.zaI;(iterate 3 exact rfl);omega;omega)|(apply TO.zoe;exact rfl;exact rfl;omega;omega)|refine qai (fun env=>?_) ?_|refine qai ?_ ?_|refine wv hv ?_|refine wk ?_|exact wkc|intro hc|refine wk2 ?_ ?_|fail)
   done
  ·repeat' (first|refine wu ?_|exact wkc|intro hc|refine wk2 ?_ ?_|refine we hf ?_ ?_|fail)
   exact rdP rfl (by decide)
 ·rw[if_neg hc,vlE,zbG _ _ _ _ _ _ rfl rfl rfl (zci (by omega)),qas]
  refine so Tryz.func94 ?_
  repeat' (first|refine wkt ?_|refine zqo ?_|refine zqn ?_|(apply TO.want;exact rfl)|refine wd hn ?_|refine wd h1 ?_|refine wd h2 ?_|exact wkc|intro hc|refine wk2 ?_ ?_|fail)
  refine rgS [.ref 0 0,.ref 0 0,.ref 0 0,.t (.sl 3 (l.map tokT)),.ref 0 0,.ref 0 0,.ref 0 2,.i i,.cp [T.i t.1,.s t.2.1,T.i t.2.2] 0,.cp [T.i t.1,.s t.2.1,T.i t.2.2] 1,.s t.2.1,.i v,.i v] ?_ ?_
  ·repeat' (first|refine wkt ?_|exact trivial|exact⟨⟨rfl,rfl⟩,trivial⟩|(apply TO.zaI;(iterate 3 exact rfl);omega;omega)|(apply TO.zoe;exact rfl;exact rfl;omega;omega)|refine qai (fun env=>?_) ?_|refine qai ?_ ?_|refine wv hv ?_|refine wk ?_|exact wkc|intro hc|refine wk2 ?_ ?_|fail)
   done
  ·repeat' (first|refine wu ?_|exact wkc|intro hc|refine wk2 ?_ ?_|refine we hf ?_ ?_|fail)
   apply rdV rfl
   ·exact rfl
   ·exact zqa
   all_goals exact rfl
set_option maxHeartbeats 4000000 in
theorem zlW (l:List Tok) (n:Int) (es:List En) (i:Nat) (hi:i≤l.length) (hk:TkOk l) (g0:(rdr l es).neg i=false) (g1:(rdr l es).isAt i [45]=false) (g2:(rdr l es).kind i 2=false) (g3:(rdr l es).kind i 5=false) (g4:(rdr l es).isAt i [116,114,117,101]=false) (g5:(rdr l es).isAt i [102,97,108,115,101]=false) (g6:(rdr l es).isAt i [40]=true) {fe:Nat->PR Ex} (he:∀j,i<j->j≤l.length->ExR l n es 34 [] j (fe j)/\InR l.length (j+1) (fe j)):ExR l n es 94 [] i ((fe (i+1)).bind fun e j=>((rdr l es).must [[41]] j).bind fun _ j=>.ok e j):=by
 have hl:=hk.len
 have hn:=zbJ l n es i hl hi
 rw[g0]at hn
 have h1:=zaO l n es i [45] hl
 rw[g1]at h1
 have h2:=zaK l n es i 2 hl
 rw[g2]at h2
 have h3:=zaK l n es i 5 hl
 rw[g3]at h3
 have h4:=zal l n es i [116,114,117,101] hl hi
 rw[g4,if_neg (by decide)]at h4
 have h5:=zal l n es i [102,97,108,115,101] hl hi
 rw[g5,if_neg (by decide)]at h5
 have h6:=zal l n es i [40] hl hi
 rw[g6,if_pos rfl]at h6
 have hlt:=zam g6
 rw[zaf]at hlt
 generalize hr:(((fe (i+1)).bind fun e j=>((rdr l es).must [[41]] j).bind fun _ j=>.ok e j):PR Ex)=r
 refine Sound.err rfl (fun _=>rfl) ?_
 obtain⟨q1,hin⟩:=he (i+1) (by omega) hlt
 cases hq1:fe (i+1) with
 | er k c=>
   rw[hq1]at q1 hin hr
   have hc0:=hin.2
   replace q1:=q1.er
   simp only[PR.vl]at q1
   simp only[PR.bind]at hr
   refine so Tryz.func94 ?_
   repeat' (first|refine wu ?_|exact wkc|intro hc|refine wk2 ?_ ?_|refine wd hn ?_|refine wd h1 ?_|refine wd h2 ?_|refine wd h3 ?_|refine wd h4 ?_|refine wd h5 ?_|refine wd h6 ?_|refine we q1 ?_ ?_|fail)
   exact rdP hr.symm hc0
 | ok e j1=>
 rw[hq1]at q1 hin hr
 replace q1:=q1.ok
 obtain⟨_,hj1⟩:=hin
 simp only[PR.bind]at hr
 simp only[PR.vl]at q1
 rw[zao e]at q1
 unfold exC at q1
 have q2:=zb5 l n es j1 [[41]] hl hj1 (by decide)
 have hin:=zaQ (R:=rdr l es) [[41]] (i:=j1) (by rw[zaf];exact hj1)
 rw[zaf]at hin
 cases hq2:(rdr l es).must [[41]] j1 with
 | er k c=>
   rw[hq2]at q2 hin hr
   have hc0:=hin.2
   replace q2:=q2.er
   simp only[PR.bind]at hr
   refine so Tryz.func94 ?_
   repeat' (first|refine wu ?_|exact wkc|intro hc|refine wk2 ?_ ?_|refine wd hn ?_|refine wd h1 ?_|refine wd h2 ?_|refine wd h3 ?_|refine wd h4 ?_|refine wd h5 ?_|refine wd h6 ?_|refine we q1 ?_ ?_|refine we q2 ?_ ?_|fail)
   exact rdP hr.symm hc0
 | ok _ j2=>
 rw[hq2]at q2 hin hr
 replace q2:=q2.ok
 obtain⟨_,hj2⟩:=hin
 simp only[PR.bind]at hr
 subst hr
 refine so Tryz.func94 ?_
 repeat' (first|refine wu ?_|exact wkc|intro hc|refine wk2 ?_ ?_|refine wd hn ?_|refine wd h1 ?_|refine wd h2 ?_|refine wd h3 ?_|refine wd h4 ?_|refine wd h5 ?_|refine wd h6 ?_|refine we q1 ?_ ?_|refine we q2 ?_ ?_|fail)
 apply rdV rfl
 ·exact rfl
 ·rw[vlE,zao]
  unfold exC
  exact zqa
 all_goals exact rfl
set_option maxHeartbeats 4000000 in
theorem zlU (l:List Tok) (n:Int) (es:List En) (i:Nat) (hi:i≤l.length) (hk:TkOk l) (g0:(rdr l es).neg i=false) (g1:(rdr l es).isAt i [45]=false) (g2:(rdr l es).kind i 2=false) (g3:(rdr l es).kind i 5=false) (g4:(rdr l es).isAt i [116,114,117,101]=false) (g5:(rdr l es).isAt i [102,97,108,115,101]=false) (g6:(rdr l es).isAt i [40]=false) (g7:(rdr l es).isAt i [105,102]=false) (g8:(rdr l es).isAt i [109,101,114,103,101]=true) {rm:PR Ex} (hm:ExR l n es 105 [] (i+1) rm/\InR l.length (i+1) rm):ExR l n es 94 [] i rm:=by
 have hl:=hk.len
 have hn:=zbJ l n es i hl hi
 rw[g0]at hn
 have h1:=zaO l n es i [45] hl
 rw[g1]at h1
 have h2:=zaK l n es i 2 hl
 rw[g2]at h2
 have h3:=zaK l n es i 5 hl
 rw[g3]at h3
 have h4:=zal l n es i [116,114,117,101] hl hi
 rw[g4,if_neg (by decide)]at h4
 have h5:=zal l n es i [102,97,108,115,101] hl hi
 rw[g5,if_neg (by decide)]at h5
 have h6:=zal l n es i [40] hl hi
 rw[g6,if_neg (by decide)]at h6
 have h7:=zal l n es i [105,102] hl hi
 rw[g7,if_neg (by decide)]at h7
 have h8:=zal l n es i [109,101,114,103,101] hl hi
 rw[g8,if_pos rfl]at h8
 have hlt:=zam g8
 rw[zaf]at hlt
 generalize hr:(rm:PR Ex)=r
 refine Sound.err rfl (fun _=>rfl) ?_
 subst hr
 obtain⟨hx,hin⟩:=hm
 cases rm with
 | er k c=>
   have hc0:=hin.2
   replace hx:=hx.er
   simp only[PR.vl]at hx
   refine so Tryz.func94 ?_
   repeat' (first|refine wu ?_|exact wkc|intro hc|refine wk2 ?_ ?_|refine wd hn ?_|refine wd h1 ?_|refine wd h2 ?_|refine wd h3 ?_|refine wd h4 ?_|refine wd h5 ?_|refine wd h6 ?_|refine wd h7 ?_|refine wd h8 ?_|refine we hx ?_ ?_|fail)
   exact rdP rfl hc0
 | ok e j=>
   replace hx:=hx.ok
   simp only[PR.vl]at hx⊢
   rw[zao]at hx⊢
   unfold exC at hx⊢
   refine so Tryz.func94 ?_
   repeat' (first|refine wu ?_|exact wkc|intro hc|refine wk2 ?_ ?_|refine wd hn ?_|refine wd h1 ?_|refine wd h2 ?_|refine wd h3 ?_|refine wd h4 ?_|refine wd h5 ?_|refine wd h6 ?_|refine wd h7 ?_|refine wd h8 ?_|refine we hx ?_ ?_|fail)
   apply rdV rfl
   ·exact rfl
   ·exact zqa
   all_goals exact rfl
set_option maxHeartbeats 4000000 in
theorem zpQ (l:List Tok) (n:Int) (es:List En) (i:Nat) (hi:i≤l.length) (hk:TkOk l) (g0:(rdr l es).neg i=false) (g1:(rdr l es).isAt i [45]=false) (g2:(rdr l es).kind i 2=false) (g3:(rdr l es).kind i 5=false) (g4:(rdr l es).isAt i [116,114,117,101]=false) (g5:(rdr l es).isAt i [102,97,108,115,101]=false) (g6:(rdr l es).isAt i [40]=false) (g7:(rdr l es).isAt i [105,102]=true) {fe:Nat->PR Ex} (he:∀j,i<j->j≤l.length->ExR l n es 34 [] j (fe j)/\InR l.length (j+1) (fe j)):ExR l n es 94 [] i ((fe (i+1)).bind fun c j=>((rdr l es).must [[116,104,101,110]] j).bind fun _ j=>(fe j).bind fun a j=>((rdr l es).must [[101,108,115,101]] j).bind fun _ j=>(fe j).bind fun b j=>.ok (mkE 4 0 0 0 [] [c,a,b]) j):=by
 have hl:=hk.len
 have hn:=zbJ l n es i hl hi
 rw[g0]at hn
 have h1:=zaO l n es i [45] hl
 rw[g1]at h1
 have h2:=zaK l n es i 2 hl
 rw[g2]at h2
 have h3:=zaK l n es i 5 hl
 rw[g3]at h3
 have h4:=zal l n es i [116,114,117,101] hl hi
 rw[g4,if_neg (by decide)]at h4
 have h5:=zal l n es i [102,97,108,115,101] hl hi
 rw[g5,if_neg (by decide)]at h5
 have h6:=zal l n es i [40] hl hi
 rw[g6,if_neg (by decide)]at h6
 have h7:=zal l n es i [105,102] hl hi
 rw[g7,if_pos rfl]at h7
 have hlt:=zam g7
 rw[zaf]at hlt
 generalize hr:(((fe (i+1)).bind fun c j=>((rdr l es).must [[116,104,101,110]] j).bind fun _ j=>(fe j).bind fun a j=>((rdr l es).must [[101,108,115,101]] j).bind fun _ j=>(fe j).bind fun b j=>.ok (mkE 4 0 0 0 [] [c,a,b]) j):PR Ex)=r
 refine Sound.err rfl (fun _=>rfl) ?_
 obtain⟨q3,hin⟩:=he (i+1) (by omega) hlt
 cases hq3:fe (i+1) with
 | er k c=>
   rw[hq3]at q3 hin hr
   have hc0:=hin.2
   replace q3:=q3.er
   simp only[PR.vl]at q3
   simp only[PR.bind]at hr
   refine so Tryz.func94 ?_
   repeat' (first|refine wu ?_|exact wkc|intro hc|refine wk2 ?_ ?_|refine wd hn ?_|refine wd h1 ?_|refine wd h2 ?_|refine wd h3 ?_|refine wd h4 ?_|refine wd h5 ?_|refine wd h6 ?_|refine wd h7 ?_|refine we q3 ?_ ?_|fail)
   exact rdP hr.symm hc0
 | ok x j3=>
 rw[hq3]at q3 hin hr
 replace q3:=q3.ok
 obtain⟨_,hj3⟩:=hin
 simp only[PR.bind]at hr
 simp only[PR.vl]at q3
 rw[zao x]at q3
 unfold exC at q3
 have q4:=zb5 l n es j3 [[116,104,101,110]] hl hj3 (by decide)
 have hin:=zaQ (R:=rdr l es) [[116,104,101,110]] (i:=j3) (by rw[zaf];exact hj3)
 rw[zaf]at hin
 cases hq4:(rdr l es).must [[116,104,101,110]] j3 with
 | er k c=>
   rw[hq4]at q4 hin hr
   have hc0:=hin.2
   replace q4:=q4.er
   simp only[PR.bind]at hr
   refine so Tryz.func94 ?_
   repeat' (first|refine wu ?_|exact wkc|intro hc|refine wk2 ?_ ?_|refine wd hn ?_|refine wd h1 ?_|refine wd h2 ?_|refine wd h3 ?_|refine wd h4 ?_|refine wd h5 ?_|refine wd h6 ?_|refine wd h7 ?_|refine we q3 ?_ ?_|refine we q4 ?_ ?_|fail)
   exact rdP hr.symm hc0
 | ok _ j4=>
 rw[hq4]at q4 hin hr
 replace q4:=q4.ok
 obtain⟨_,hj4⟩:=hin
 simp only[PR.bind]at hr
 obtain⟨q5,hin⟩:=he j4 (by omega) hj4
 cases hq5:fe j4 with
 | er k c=>
   rw[hq5]at q5 hin hr
   have hc0:=hin.2
   replace q5:=q5.er
   simp only[PR.vl]at q5
   simp only[PR.bind]at hr
   refine so Tryz.func94 ?_
   repeat' (first|refine wu ?_|exact wkc|intro hc|refine wk2 ?_ ?_|refine wd hn ?_|refine wd h1 ?_|refine wd h2 ?_|refine wd h3 ?_|refine wd h4 ?_|refine wd h5 ?_|refine wd h6 ?_|refine wd h7 ?_|refine we q3 ?_ ?_|refine we q4 ?_ ?_|refine we q5 ?_ ?_|fail)
   exact rdP hr.symm hc0
 | ok y j5=>
 rw[hq5]at q5 hin hr
 replace q5:=q5.ok
 obtain⟨_,hj5⟩:=hin
 simp only[PR.bind]at hr
 simp only[PR.vl]at q5
 rw[zao y]at q5
 unfold exC at q5
 have q6:=zb5 l n es j5 [[101,108,115,101]] hl hj5 (by decide)
 have hin:=zaQ (R:=rdr l es) [[101,108,115,101]] (i:=j5) (by rw[zaf];exact hj5)
 rw[zaf]at hin
 cases hq6:(rdr l es).must [[101,108,115,101]] j5 with
 | er k c=>
   rw[hq6]at q6 hin hr
   have hc0:=hin.2
   replace q6:=q6.er
   simp only[PR.bind]at hr
   refine so Tryz.func94 ?_
   repeat' (first|refine wu ?_|exact wkc|intro hc|refine wk2 ?_ ?_|refine wd hn ?_|refine wd h1 ?_|refine wd h2 ?_|refine wd h3 ?_|refine wd h4 ?_|refine wd h5 ?_|refine wd h6 ?_|refine wd h7 ?_|refine we q3 ?_ ?_|refine we q4 ?_ ?_|refine we q5 ?_ ?_|refine we q6 ?_ ?_|fail)
   exact rdP hr.symm hc0
 | ok _ j6=>
 rw[hq6]at q6 hin hr
 replace q6:=q6.ok
 obtain⟨_,hj6⟩:=hin
 simp only[PR.bind]at hr
 obtain⟨hx,hin⟩:=he j6 (by omega) hj6
 cases hq:fe j6 with
 | er c2 c=>
   rw[hq]at hx hin hr
   have hc0:=hin.2
   replace hx:=hx.er
   simp only[PR.vl]at hx
   simp only[PR.bind]at hr
   refine so Tryz.func94 ?_
   repeat' (first|refine wkt ?_|refine zqo ?_|refine wd hn ?_|refine wd h1 ?_|refine wd h2 ?_|refine wd h3 ?_|refine wd h4 ?_|refine wd h5 ?_|refine wd h6 ?_|refine wd h7 ?_|refine we q3 ?_ ?_|refine we q4 ?_ ?_|refine we q5 ?_ ?_|refine we q6 ?_ ?_|exact wkc|intro hc|refine wk2 ?_ ?_|fail)
   refine rgX 3 (g:=False) [(.t (.ag [T.n x.kind,T.n x.op,T.n x.t,T.n x.v,T.s x.name,T.sl 6 (x.args.map exT)]),0,1),(.t (.ag [T.n y.kind,T.n y.op,T.n y.t,T.n y.v,T.s y.name,T.sl 6 (y.args.map exT)]),0,1),(.ref 0 0,0,1),(.t (.ag [T.n x.kind,T.n x.op,T.n x.t,T.n x.v,T.s x.name,T.sl 6 (x.args.map exT)]),1,0),(.t (.sl 6 [.ag [T.n x.kind,T.n x.op,T.n x.t,T.n x.v,T.s x.name,T.sl 6 (x.args.map exT)],.ag [T.n y.kind,T.n y.op,T.n y.t,T.n y.v,T.s y.name,T.sl 6 (y.args.map exT)],.ag [T.n x.kind,T.n x.op,T.n x.t,T.n x.v,T.s x.name,T.sl 6 (x.args.map exT)]]),1,1),(.t (.ag [T.i 4,T.i 0,T.i 0,T.i 0,T.s [],.sl 6 [.ag [T.n x.kind,T.n x.op,T.n x.t,T.n x.v,T.s x.name,T.sl 6 (x.args.map exT)],.ag [T.n y.kind,T.n y.op,T.n y.t,T.n y.v,T.s y.name,T.sl 6 (y.args.map exT)],.ag [T.n x.kind,T.n x.op,T.n x.t,T.n x.v,T.s x.name,T.sl 6 (x.args.map exT)]]]),1,1),(.t (.v undef),1,0)] [[rdB l n es j6,exZ],[rdB l n es j6,exZ],[rdB l n es j6,.cells [.t (T.i 4),.t (T.i 0),.t (T.i 0),.t (T.i 0),.t (T.s []),.t (.sl 6 [.ag [T.n x.kind,T.n x.op,T.n x.t,T.n x.v,T.s x.name,T.sl 6 (x.args.map exT)],.ag [T.n y.kind,T.n y.op,T.n y.t,T.n y.v,T.s y.name,T.sl 6 (y.args.map exT)],.ag [T.n x.kind,T.n x.op,T.n x.t,T.n x.v,T.s x.name,T.sl 6 (x.args.map exT)]])]]] ?_ (fun h=>h.elim)
   repeat' (first|refine wkt ?_|exact trivial|exact⟨⟨rfl,rfl⟩,trivial⟩|refine qai (fun env=>?_) ?_|refine qai ?_ ?_|refine we hx ?_ ?_|refine wk ?_|exact wkc|intro hc|refine wk2 ?_ ?_|fail)
   exact rdP hr.symm hc0
 | ok b k=>
   rw[hq]at hx hin hr
   replace hx:=hx.ok
   simp only[PR.vl]at hx
   simp only[PR.bind]at hr
   rw[zao b]at hx
   unfold exC at hx
   subst hr
   refine so Tryz.func94 ?_
   repeat' (first|refine wkt ?_|refine zqo ?_|refine wd hn ?_|refine wd h1 ?_|refine wd h2 ?_|refine wd h3 ?_|refine wd h4 ?_|refine wd h5 ?_|refine wd h6 ?_|refine wd h7 ?_|refine we q3 ?_ ?_|refine we q4 ?_ ?_|refine we q5 ?_ ?_|refine we q6 ?_ ?_|exact wkc|intro hc|refine wk2 ?_ ?_|fail)
   refine rgX 3 (g:=True) [(.t (.ag [T.n x.kind,T.n x.op,T.n x.t,T.n x.v,T.s x.name,T.sl 6 (x.args.map exT)]),0,1),(.t (.ag [T.n y.kind,T.n y.op,T.n y.t,T.n y.v,T.s y.name,T.sl 6 (y.args.map exT)]),0,1),(.ref 0 0,0,1),(.t (.ag [T.n b.kind,T.n b.op,T.n b.t,T.n b.v,T.s b.name,T.sl 6 (b.args.map exT)]),1,0),(.t (.sl 6 [.ag [T.n x.kind,T.n x.op,T.n x.t,T.n x.v,T.s x.name,T.sl 6 (x.args.map exT)],.ag [T.n y.kind,T.n y.op,T.n y.t,T.n y.v,T.s y.name,T.sl 6 (y.args.map exT)],.ag [T.n b.kind,T.n b.op,T.n b.t,T.n b.v,T.s b.name,T.sl 6 (b.args.map exT)]]),1,1),(.t (.ag [T.i 4,T.i 0,T.i 0,T.i 0,T.s [],.sl 6 [.ag [T.n x.kind,T.n x.op,T.n x.t,T.n x.v,T.s x.name,T.sl 6 (x.args.map exT)],.ag [T.n y.kind,T.n y.op,T.n y.t,T.n y.v,T.s y.name,T.sl 6 (y.args.map exT)],.ag [T.n b.kind,T.n b.op,T.n b.t,T.n b.v,T.s b.name,T.sl 6 (b.args.map exT)]]]),1,1),(.t (.v undef),1,0)] [[rdB l n es j6,exZ],[rdB l n es k,exZ],[rdB l n es k,.cells [.t (T.i 4),.t (T.i 0),.t (T.i 0),.t (T.i 0),.t (T.s []),.t (.sl 6 [.ag [T.n x.kind,T.n x.op,T.n x.t,T.n x.v,T.s x.name,T.sl 6 (x.args.map exT)],.ag [T.n y.kind,T.n y.op,T.n y.t,T.n y.v,T.s y.name,T.sl 6 (y.args.map exT)],.ag [T.n b.kind,T.n b.op,T.n b.t,T.n b.v,T.s b.name,T.sl 6 (b.args.map exT)]])]]] ?_ (fun _=>?_)
   ·repeat' (first|refine wkt ?_|exact trivial|exact⟨⟨rfl,rfl⟩,trivial⟩|refine qai (fun env=>?_) ?_|refine qai ?_ ?_|refine we hx ?_ ?_|refine wk ?_|exact wkc|intro hc|refine wk2 ?_ ?_|fail)
    done
   ·repeat' (first|refine wu ?_|exact wkc|intro hc|refine wk2 ?_ ?_|fail)
    apply rdV rfl
    ·exact rfl
    ·rw[vlE,zbG _ _ _ _ _ _ rfl rfl rfl rfl,qah,qah,qah,qas,zao x,zao y,zao b]
     unfold exC
     exact zqa
    all_goals exact rfl
end Go.Proofs.YtpfnfpaahefdaaaGreat
