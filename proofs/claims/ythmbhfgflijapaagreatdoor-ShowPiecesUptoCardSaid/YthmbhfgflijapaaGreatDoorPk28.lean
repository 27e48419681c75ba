import Derived.Test.YthmbhfgflijapaaGreatDoorPk27
set_option linter.all false
namespace Go.Proofs.YthmbhfgflijapaaGreatDoor
open Go Go.TL
attribute [local irreducible] TR TO Then zag RetK Sound zab Kf GG zaK
set_option maxHeartbeats 1000000 in
theorem zkM (l:List Tok) (n:Int) (es:List En) (i:Nat) {r:PR Ex} (h:ExR l n es 82 [] i r/\InR l.length (i+1) r):ExR l n es 48 [.i 6] i r:=by
 obtain⟨h3,hin⟩:=h
 refine Sound.err rfl (fun _=>rfl) ?_
 cases r with
 | er k c=>
   have hc0:=hin.2
   replace h3:=h3.er
   simp only[PR.vl]at h3
   refine so Tryz.func48 ?_
   repeat' (first|refine wu ?_|exact wkc|intro hc|refine wk2 ?_ ?_|refine we h3 ?_ ?_|fail)
   exact rdP rfl hc0
 | ok a j=>
   replace h3:=h3.ok
   simp only[PR.vl]at h3⊢
   rw[zae]at h3⊢
   unfold exC at h3⊢
   refine so Tryz.func48 ?_
   repeat' (first|refine wu ?_|exact wkc|intro hc|refine wk2 ?_ ?_|refine we h3 ?_ ?_|fail)
   apply rdV rfl
   ·exact rfl
   ·exact zqa
   all_goals exact rfl
theorem zoQ{R:Rd}:∀ {m:Nat} {a:Ex} {i:Nat},R.isAt i [119,104,101,110]=false->R.whens m a i= .ok a i
 | 0,_,_,_=>rfl
 | m+1,a,i,h=>by rw[Rd.whens,h,if_neg (by decide)]
set_option maxHeartbeats 4000000 in
theorem zmH (l:List Tok) (n:Int) (es:List En) (i:Nat) (hl:l.length≤1000000) (hi:i≤l.length) (he:EsOk es) {ru rp:PR Ex}
  (hu:(rdr l es).isAt i [45]=true\/(rdr l es).isAt i [112,114,101]=true->ExR l n es 82 [] (i+1) ru/\InR l.length (i+1) ru)
  (hp:ExR l n es 124 [] i rp/\InR l.length (i+1) rp):
  ExR l n es 82 [] i (if(rdr l es).neg i=false/\(rdr l es).isAt i [45]=true then ru.bind fun a j=>.ok (mkE 3 2 0 0 [] [a]) j
   else if(rdr l es).neg i=false/\(rdr l es).isAt i [112,114,101]=true then ru.bind fun a j=>.ok (mkE 5 0 0 0 [] [a]) j
   else rp.bind fun e j=>(rdr l es).whens (rdr l es).K.length e j):=by
 have hn:=zbO l n es i hl hi
 have h1:=zam l n es i [45] hl hi
 have h2:=zam l n es i [112,114,101] hl hi
 generalize (rdr l es).neg i=bn at*
 generalize (rdr l es).isAt i [45]=b1 at*
 generalize (rdr l es).isAt i [112,114,101]=b2 at*
 refine Sound.err rfl (fun _=>rfl) ?_
 by_cases c1:bn=false/\b1=true
 ·obtain⟨rfl,rfl⟩:=c1
  rw[if_pos ⟨rfl,rfl⟩]
  rw[if_pos rfl]at h1
  obtain⟨h3,hin⟩:=hu (.inl rfl)
  cases ru with
  | er k c=>
    have hc0:=hin.2
    replace h3:=h3.er
    simp only[PR.vl]at h3
    refine so Tryz.func82 ?_
    repeat' (first|refine wu ?_|exact wkc|intro hc|refine wk2 ?_ ?_|refine wd hn ?_|refine wd h1 ?_|refine we h3 ?_ ?_|fail)
    exact rdP rfl hc0
  | ok a j=>
    replace h3:=h3.ok
    simp only[PR.vl]at h3
    rw[show(PR.bind (PR.ok a j) fun a j=>PR.ok (mkE 3 2 0 0 [] [a]) j)=PR.ok (mkE 3 2 0 0 [] [a]) j from rfl,vlE,zbI _ _ _ _ _ _ rfl rfl rfl rfl,qah,qaC]
    rw[zae a]at h3⊢
    unfold exC at h3⊢
    refine so Tryz.func82 ?_
    repeat' (first|refine wu ?_|exact wkc|intro hc|refine wk2 ?_ ?_|refine wd hn ?_|refine wd h1 ?_|refine we h3 ?_ ?_|fail)
    apply rdV rfl
    ·exact rfl
    ·exact zqa
    all_goals exact rfl
 rw[if_neg c1]
 by_cases c2:bn=false/\b2=true
 ·obtain⟨rfl,rfl⟩:=c2
  rw[if_pos ⟨rfl,rfl⟩]
  cases b1 with
  | true=>exact absurd ⟨rfl,rfl⟩ c1
  | false=>
  rw[if_neg (by decide)]at h1
  rw[if_pos rfl]at h2
  obtain⟨h3,hin⟩:=hu (.inr rfl)
  cases ru with
  | er k c=>
    have hc0:=hin.2
    replace h3:=h3.er
    simp only[PR.vl]at h3
    refine so Tryz.func82 ?_
    repeat' (first|refine wu ?_|exact wkc|intro hc|refine wk2 ?_ ?_|refine wd hn ?_|refine wd h1 ?_|refine wd h2 ?_|refine we h3 ?_ ?_|fail)
    exact rdP rfl hc0
  | ok a j=>
    replace h3:=h3.ok
    simp only[PR.vl]at h3
    rw[show(PR.bind (PR.ok a j) fun a j=>PR.ok (mkE 5 0 0 0 [] [a]) j)=PR.ok (mkE 5 0 0 0 [] [a]) j from rfl,vlE,zbI _ _ _ _ _ _ rfl rfl rfl rfl,qah,qaC]
    rw[zae a]at h3⊢
    unfold exC at h3⊢
    refine so Tryz.func82 ?_
    repeat' (first|refine wu ?_|exact wkc|intro hc|refine wk2 ?_ ?_|refine wd hn ?_|refine wd h1 ?_|refine wd h2 ?_|refine we h3 ?_ ?_|fail)
    apply rdV rfl
    ·exact rfl
    ·exact zqa
    all_goals exact rfl
 rw[if_neg c2]
 clear hu
 obtain⟨h3,hin⟩:=hp
 have hcb:bn=true\/(bn=false/\b1=false/\b2=false):=by
  clear hn h1 h2 h3
  cases bn <;> cases b1 <;> cases b2 <;> simp_all
 generalize hr:(rp.bind fun e j=>(rdr l es).whens (rdr l es).K.length e j)=r
 cases rp with
 | er k c=>
   have hc0:=hin.2
   replace h3:=h3.er
   simp only[PR.vl]at h3
   rcases hcb with rfl|⟨rfl,rfl,rfl⟩
   ·refine so Tryz.func82 ?_
    repeat' (first|refine wu ?_|exact wkc|intro hc|refine wk2 ?_ ?_|refine wd hn ?_|refine we h3 ?_ ?_|fail)
    exact rdP hr.symm hc0
   ·rw[if_neg (by decide)]at h1 h2
    refine so Tryz.func82 ?_
    repeat' (first|refine wu ?_|exact wkc|intro hc|refine wk2 ?_ ?_|refine wd hn ?_|refine wd h1 ?_|refine wd h2 ?_|refine we h3 ?_ ?_|fail)
    exact rdP hr.symm hc0
 | ok e j=>
   replace h3:=h3.ok
   obtain⟨hj1,hj2⟩:=hin
   simp only[PR.bind]at hr
   simp only[PR.vl]at h3
   rw[zae e]at h3
   unfold exC at h3
   rcases hcb with rfl|⟨rfl,rfl,rfl⟩
   ·refine so Tryz.func82 ?_
    repeat' (first|refine wkb ?_|refine wk ?_|exact wkc|intro hc|refine wk2 ?_ ?_|refine wd hn ?_|refine we h3 ?_ ?_|fail)
    exact zwa
   ·rw[if_neg (by decide)]at h1 h2
    refine so Tryz.func82 ?_
    repeat' (first|refine wkb ?_|refine wk ?_|exact wkc|intro hc|refine wk2 ?_ ?_|refine wd hn ?_|refine wd h1 ?_|refine wd h2 ?_|refine we h3 ?_ ?_|fail)
    exact zwa
set_option maxHeartbeats 4000000 in
theorem zn8 (l:List Tok) (n:Int) (es:List En) (i:Nat) (hl:l.length≤1000000) (hi:i≤l.length) {r0:PR Ex} {fe:Nat->PR Ex}
  (h0:ExR l n es 48 [.i 0] i r0/\InR l.length (i+1) r0)
  (he:∀j,i<j->j≤l.length->ExR l n es 22 [] j (fe j)/\InR l.length (j+1) (fe j)):
  ExR l n es 22 [] i (r0.bind fun a j=>
   if(rdr l es).isAt j [45,62]=true then(fe (j+1)).bind fun b k=>.ok (mkE 6 0 0 0 [] [a,b]) k
   else if(rdr l es).isAt j [102,98,121]=true then(fe (j+1)).bind fun b k=>.ok (mkE 7 0 0 0 [] [a,b]) k
   else .ok a j):=by
 obtain⟨h1,hin⟩:=h0
 generalize hr:(r0.bind fun a j=>_)=r
 refine Sound.err rfl (fun _=>rfl) ?_
 cases r0 with
 | er k c=>
   have hc0:=hin.2
   replace h1:=h1.er
   simp only[PR.vl]at h1
   refine so Tryz.func22 ?_
   repeat' (first|refine wu ?_|exact wkc|intro hc|refine wk2 ?_ ?_|refine we h1 ?_ ?_|fail)
   exact rdP hr.symm hc0
 | ok a j=>
   replace h1:=h1.ok
   obtain⟨hj1,hj2⟩:=hin
   simp only[PR.vl]at h1
   simp only[PR.bind]at hr
   rw[zae a]at h1
   unfold exC at h1
   have ht1:=zam l n es j [45,62] hl hj2
   have ht2:=zam l n es j [102,98,121] hl hj2
   cases hw1:(rdr l es).isAt j [45,62] with
   | true=>
     have hlt:=zaE hw1
     rw[zal]at hlt
     rw[hw1,if_pos rfl]at ht1
     rw[if_pos hw1]at hr
     obtain⟨hx,hin⟩:=he (j+1) (by omega) hlt
     cases hq:fe (j+1) with
     | er c2 c=>
       rw[hq]at hx hin hr
       have hc0:=hin.2
       replace hx:=hx.er
       simp only[PR.vl]at hx
       simp only[PR.bind]at hr
       refine so Tryz.func22 ?_
       repeat' (first|refine wkt ?_|refine zqi ?_|refine we h1 ?_ ?_|refine wd ht1 ?_|exact wkc|intro hc|refine wk2 ?_ ?_|fail)
       refine rgX 2 (g:=False) [(.t (.ag [T.n a.kind,T.n a.op,T.n a.t,T.n a.v,T.s a.name,T.sl 6 (a.args.map exT)]),0,1),(.ref 0 0,0,1),(.t (.ag [T.n a.kind,T.n a.op,T.n a.t,T.n a.v,T.s a.name,T.sl 6 (a.args.map exT)]),1,0),(.t (.sl 6 [.ag [T.n a.kind,T.n a.op,T.n a.t,T.n a.v,T.s a.name,T.sl 6 (a.args.map exT)],.ag [T.n a.kind,T.n a.op,T.n a.t,T.n a.v,T.s a.name,T.sl 6 (a.args.map exT)]]),1,1),(.t (.ag [T.i 6,T.i 0,T.i 0,T.i 0,T.s [],T.sl 6 [.ag [T.n a.kind,T.n a.op,T.n a.t,T.n a.v,T.s a.name,T.sl 6 (a.args.map exT)],.ag [T.n a.kind,T.n a.op,T.n a.t,T.n a.v,T.s a.name,T.sl 6 (a.args.map exT)]]]),1,1),(.t (.v undef),1,0)] [[rdB l n es (j+1),exZ],[rdB l n es (j+1),exZ],[rdB l n es (j+1),.cells [.t (T.i 6),.t (T.i 0),.t (T.i 0),.t (T.i 0),.t (T.s []),.t (T.sl 6 [.ag [T.n a.kind,T.n a.op,T.n a.t,T.n a.v,T.s a.name,T.sl 6 (a.args.map exT)],.ag [T.n a.kind,T.n a.op,T.n a.t,T.n a.v,T.s a.name,T.sl 6 (a.args.map exT)]])]]] ?_ (fun h=>h.elim)
       repeat' (first|refine wkt ?_|exact trivial|exact⟨⟨rfl,rfl⟩,trivial⟩|refine qai (fun env=>?_) ?_|refine qai ?_ ?_|refine we hx ?_ ?_|refine wk ?_|exact wkc|intro hc|refine wk2 ?_ ?_|fail)
       exact rdP hr.symm hc0
     | ok b j2=>
       rw[hq]at hx hin hr
       replace hx:=hx.ok
       obtain⟨hj3,hj4⟩:=hin
       simp only[PR.vl]at hx
       simp only[PR.bind]at hr
       rw[zae b]at hx
       unfold exC at hx
       subst hr
       refine so Tryz.func22 ?_
       repeat' (first|refine wkt ?_|refine zqi ?_|refine we h1 ?_ ?_|refine wd ht1 ?_|exact wkc|intro hc|refine wk2 ?_ ?_|fail)
       refine rgX 2 (g:=True) [(.t (.ag [T.n a.kind,T.n a.op,T.n a.t,T.n a.v,T.s a.name,T.sl 6 (a.args.map exT)]),0,1),(.ref 0 0,0,1),(.t (.ag [T.n b.kind,T.n b.op,T.n b.t,T.n b.v,T.s b.name,T.sl 6 (b.args.map exT)]),1,0),(.t (.sl 6 [.ag [T.n a.kind,T.n a.op,T.n a.t,T.n a.v,T.s a.name,T.sl 6 (a.args.map exT)],.ag [T.n b.kind,T.n b.op,T.n b.t,T.n b.v,T.s b.name,T.sl 6 (b.args.map exT)]]),1,1),(.t (.ag [T.i 6,T.i 0,T.i 0,T.i 0,T.s [],T.sl 6 [.ag [T.n a.kind,T.n a.op,T.n a.t,T.n a.v,T.s a.name,T.sl 6 (a.args.map exT)],.ag [T.n b.kind,T.n b.op,T.n b.t,T.n b.v,T.s b.name,T.sl 6 (b.args.map exT)]]]),1,1),(.t (.v undef),1,0)] [[rdB l n es (j+1),exZ],[rdB l n es j2,exZ],[rdB l n es j2,.cells [.t (T.i 6),.t (T.i 0),.t (T.i 0),.t (T.i 0),.t (T.s []),.t (T.sl 6 [.ag [T.n a.kind,T.n a.op,T.n a.t,T.n a.v,T.s a.name,T.sl 6 (a.args.map exT)],.ag [T.n b.kind,T.n b.op,T.n b.t,T.n b.v,T.s b.name,T.sl 6 (b.args.map exT)]])]]] ?_ (fun _=>?_)
       ·repeat' (first|refine wkt ?_|exact trivial|exact⟨⟨rfl,rfl⟩,trivial⟩|refine qai (fun env=>?_) ?_|refine qai ?_ ?_|refine we hx ?_ ?_|refine wk ?_|exact wkc|intro hc|refine wk2 ?_ ?_|fail)
        done
       ·repeat' (first|refine wu ?_|exact wkc|intro hc|refine wk2 ?_ ?_|fail)
        exact zwbu
   | false=>
   rw[hw1,if_neg (by decide)]at ht1
   rw[if_neg (by rw[hw1];decide)]at hr
   cases hw2:(rdr l es).isAt j [102,98,121] with
   | true=>
     have hlt:=zaE hw2
     rw[zal]at hlt
     rw[hw2,if_pos rfl]at ht2
     rw[if_pos hw2]at hr
     obtain⟨hx,hin⟩:=he (j+1) (by omega) hlt
     cases hq:fe (j+1) with
     | er c2 c=>
       rw[hq]at hx hin hr
       have hc0:=hin.2
       replace hx:=hx.er
       simp only[PR.vl]at hx
       simp only[PR.bind]at hr
       refine so Tryz.func22 ?_
       repeat' (first|refine wkt ?_|refine zqi ?_|refine we h1 ?_ ?_|refine wd ht1 ?_|refine wd ht2 ?_|exact wkc|intro hc|refine wk2 ?_ ?_|fail)
       refine rgX 2 (g:=False) [(.t (.ag [T.n a.kind,T.n a.op,T.n a.t,T.n a.v,T.s a.name,T.sl 6 (a.args.map exT)]),0,1),(.ref 0 0,0,1),(.t (.ag [T.n a.kind,T.n a.op,T.n a.t,T.n a.v,T.s a.name,T.sl 6 (a.args.map exT)]),1,0),(.t (.sl 6 [.ag [T.n a.kind,T.n a.op,T.n a.t,T.n a.v,T.s a.name,T.sl 6 (a.args.map exT)],.ag [T.n a.kind,T.n a.op,T.n a.t,T.n a.v,T.s a.name,T.sl 6 (a.args.map exT)]]),1,1),(.t (.ag [T.i 7,T.i 0,T.i 0,T.i 0,T.s [],T.sl 6 [.ag [T.n a.kind,T.n a.op,T.n a.t,T.n a.v,T.s a.name,T.sl 6 (a.args.map exT)],.ag [T.n a.kind,T.n a.op,T.n a.t,T.n a.v,T.s a.name,T.sl 6 (a.args.map exT)]]]),1,1),(.t (.v undef),1,0)] [[rdB l n es (j+1),exZ],[rdB l n es (j+1),exZ],[rdB l n es (j+1),.cells [.t (T.i 7),.t (T.i 0),.t (T.i 0),.t (T.i 0),.t (T.s []),.t (T.sl 6 [.ag [T.n a.kind,T.n a.op,T.n a.t,T.n a.v,T.s a.name,T.sl 6 (a.args.map exT)],.ag [T.n a.kind,T.n a.op,T.n a.t,T.n a.v,T.s a.name,T.sl 6 (a.args.map exT)]])]]] ?_ (fun h=>h.elim)
       repeat' (first|refine wkt ?_|exact trivial|exact⟨⟨rfl,rfl⟩,trivial⟩|refine qai (fun env=>?_) ?_|refine qai ?_ ?_|refine we hx ?_ ?_|refine wk ?_|exact wkc|intro hc|refine wk2 ?_ ?_|fail)
       exact rdP hr.symm hc0
     | ok b j2=>
       rw[hq]at hx hin hr
       replace hx:=hx.ok
       obtain⟨hj3,hj4⟩:=hin
       simp only[PR.vl]at hx
       simp only[PR.bind]at hr
       rw[zae b]at hx
       unfold exC at hx
       subst hr
       refine so Tryz.func22 ?_
       repeat' (first|refine wkt ?_|refine zqi ?_|refine we h1 ?_ ?_|refine wd ht1 ?_|refine wd ht2 ?_|exact wkc|intro hc|refine wk2 ?_ ?_|fail)
       refine rgX 2 (g:=True) [(.t (.ag [T.n a.kind,T.n a.op,T.n a.t,T.n a.v,T.s a.name,T.sl 6 (a.args.map exT)]),0,1),(.ref 0 0,0,1),(.t (.ag [T.n b.kind,T.n b.op,T.n b.t,T.n b.v,T.s b.name,T.sl 6 (b.args.map exT)]),1,0),(.t (.sl 6 [.ag [T.n a.kind,T.n a.op,T.n a.t,T.n a.v,T.s a.name,T.sl 6 (a.args.map exT)],.ag [T.n b.kind,T.n b.op,T.n b.t,T.n b.v,T.s b.name,T.sl 6 (b.args.map exT)]]),1,1),(.t (.ag [T.i 7,T.i 0,T.i 0,T.i 0,T.s [],T.sl 6 [.ag [T.n a.kind,T.n a.op,T.n a.t,T.n a.v,T.s a.name,T.sl 6 (a.args.map exT)],.ag [T.n b.kind,T.n b.op,T.n b.t,T.n b.v,T.s b.name,T.sl 6 (b.args.map exT)]]]),1,1),(.t (.v undef),1,0)] [[rdB l n es (j+1),exZ],[rdB l n es j2,exZ],[rdB l n es j2,.cells [.t (T.i 7),.t (T.i 0),.t (T.i 0),.t (T.i 0),.t (T.s []),.t (T.sl 6 [.ag [T.n a.kind,T.n a.op,T.n a.t,T.n a.v,T.s a.name,T.sl 6 (a.args.map exT)],.ag [T.n b.kind,T.n b.op,T.n b.t,T.n b.v,T.s b.name,T.sl 6 (b.args.map exT)]])]]] ?_ (fun _=>?_)
       ·repeat' (first|refine wkt ?_|exact trivial|exact⟨⟨rfl,rfl⟩,trivial⟩|refine qai (fun env=>?_) ?_|refine qai ?_ ?_|refine we hx ?_ ?_|refine wk ?_|exact wkc|intro hc|refine wk2 ?_ ?_|fail)
        done
       ·repeat' (first|refine wu ?_|exact wkc|intro hc|refine wk2 ?_ ?_|fail)
        exact zwbu
   | false=>
     rw[hw2,if_neg (by decide)]at ht2
     rw[if_neg (by rw[hw2];decide)]at hr
     subst hr
     refine so Tryz.func22 ?_
     repeat' (first|refine wu ?_|exact wkc|intro hc|refine wk2 ?_ ?_|refine we h1 ?_ ?_|refine wd ht1 ?_|refine wd ht2 ?_|fail)
     apply rdV rfl
     ·exact rfl
     ·rw[vlE,zae]
      unfold exC
      exact zqa
     all_goals exact rfl
structure TkOk (l:List Tok):Prop where
 len:l.length≤1000000
 short:∀t∈l,t.2.1.length≤1000000000
 num:∀t∈l,t.1=2->t.2.1.length≤5/\∀c∈t.2.1,48≤c.toNat/\c.toNat≤57
theorem zjR{l:List Tok}{es:List En}{i:Nat}(h:i<l.length):(rdr l es).txt i=l[i].2.1:=by
 exact zwee
theorem zgO{l:List Tok}{es:List En}{i:Nat}{k:Int}(hk:(rdr l es).kind i k=true):∃h:i<l.length,l[i].1=k:=by
 have h:=ze3 hk
 rw[zal]at h
 refine⟨h,?_⟩
 unfold Rd.kind at hk
 simpa only[qar,qac h,qaW,decide_eq_true_eq]using hk
theorem TO.zr3{q:Bool}{n:Nat}{env:Env}{H:Heap}{K:TK}{all:Array Oper}{rest:List Oper}{d:Nat}{ty t:TypeId}{pos:String}{aft:Array Edge}{x:Operand}{b:Int}(hd:Nat.ble (d+1) n=true)(hx:env.val x=some (.i b))(h1:-9223372036854775808≤-b)(h2:-b≤9223372036854775807)
  (k:TO q Tryz.prog n all rest ((d,.i (-b))::env) H K):TO q Tryz.prog n all (⟨some d,.unOp .neg t x,ty,pos,aft,none⟩::rest) env H K:=by
 refine TO.neg hd hx ?_
 rw[zfc (by omega) (by omega),show(0:Int)-b= -b by omega];exact k
theorem zp2{s:Str}(h:s.length≤5/\∀c∈s,48≤c.toNat/\c.toNat≤57):0≤numV s/\numV s≤100000:=by
 have h1:=ziQ h.2
 have h2:=pw5 h.1
 omega
set_option maxHeartbeats 4000000 in
theorem zoB (l:List Tok) (n:Int) (es:List En) (i:Nat) (hi:i≤l.length) (hk:TkOk l) (g0:(rdr l es).neg i=false) (g1:(rdr l es).isAt i [45]=true):ExR l n es 124 [] i (.er (i+1) 5):=by
 have hl:=hk.len
 have hn:=zbO l n es i hl hi
 rw[g0]at hn
 have h1:=zbx l n es i [45] hl
 rw[g1]at h1
 refine Sound.err rfl (fun _=>rfl) ?_
 have hf:=zb8 l n es i (i+1) 5 (by decide) hl
 refine so Tryz.func124 ?_
 repeat' (first|refine wu ?_|exact wkc|intro hc|refine wk2 ?_ ?_|refine wd hn ?_|refine wd h1 ?_|refine we hf ?_ ?_|fail)
 exact rdP rfl (by decide)
set_option maxHeartbeats 4000000 in
theorem zqp (l:List Tok) (n:Int) (es:List En) (i:Nat) (hi:i≤l.length) (hk:TkOk l) (g0:(rdr l es).neg i=false) (g1:(rdr l es).isAt i [45]=false) (g2:(rdr l es).kind i 2=false) (g3:(rdr l es).kind i 5=false) (g4:(rdr l es).isAt i [116,114,117,101]=true):ExR l n es 124 [] i (.ok (mkE 1 0 1 1 [] []) (i+1)):=by
 have hl:=hk.len
 have hn:=zbO l n es i hl hi
 rw[g0]at hn
 have h1:=zbx l n es i [45] hl
 rw[g1]at h1
 have h2:=zaG l n es i 2 hl
 rw[g2]at h2
 have h3:=zaG l n es i 5 hl
 rw[g3]at h3
 have h4:=zam l n es i [116,114,117,101] hl hi
 rw[g4,if_pos rfl]at h4
 refine Sound.err rfl (fun _=>rfl) ?_
 refine so Tryz.func124 ?_
 repeat' (first|refine wu ?_|exact wkc|intro hc|refine wk2 ?_ ?_|refine wd hn ?_|refine wd h1 ?_|refine wd h2 ?_|refine wd h3 ?_|refine wd h4 ?_|fail)
 exact zwdd
set_option maxHeartbeats 4000000 in
theorem zoy (l:List Tok) (n:Int) (es:List En) (i:Nat) (hi:i≤l.length) (hk:TkOk l) (g0:(rdr l es).neg i=false) (g1:(rdr l es).isAt i [45]=false) (g2:(rdr l es).kind i 2=false) (g3:(rdr l es).kind i 5=false) (g4:(rdr l es).isAt i [116,114,117,101]=false) (g5:(rdr l es).isAt i [102,97,108,115,101]=true):ExR l n es 124 [] i (.ok (mkE 1 0 1 0 [] []) (i+1)):=by
 have hl:=hk.len
 have hn:=zbO l n es i hl hi
 rw[g0]at hn
 have h1:=zbx l n es i [45] hl
 rw[g1]at h1
 have h2:=zaG l n es i 2 hl
 rw[g2]at h2
 have h3:=zaG l n es i 5 hl
 rw[g3]at h3
 have h4:=zam l n es i [116,114,117,101] hl hi
 rw[g4,if_neg (by decide)]at h4
 have h5:=zam l n es i [102,97,108,115,101] hl hi
 rw[g5,if_pos rfl]at h5
 refine Sound.err rfl (fun _=>rfl) ?_
 refine so Tryz.func124 ?_
 repeat' (first|refine wu ?_|exact wkc|intro hc|refine wk2 ?_ ?_|refine wd hn ?_|refine wd h1 ?_|refine wd h2 ?_|refine wd h3 ?_|refine wd h4 ?_|refine wd h5 ?_|fail)
 exact zwdd
set_option maxHeartbeats 4000000 in
theorem zsf (l:List Tok) (n:Int) (es:List En) (i:Nat) (hi:i≤l.length) (hk:TkOk l) (g0:(rdr l es).neg i=false) (g1:(rdr l es).isAt i [45]=false) (g2:(rdr l es).kind i 2=false) (g3:(rdr l es).kind i 5=true):ExR l n es 124 [] i (.ok (mkE 11 0 0 0 ((rdr l es).txt i) []) (i+1)):=by
 have hl:=hk.len
 have hn:=zbO l n es i hl hi
 rw[g0]at hn
 have h1:=zbx l n es i [45] hl
 rw[g1]at h1
 have h2:=zaG l n es i 2 hl
 rw[g2]at h2
 have h3:=zaG l n es i 5 hl
 rw[g3]at h3
 refine Sound.err rfl (fun _=>rfl) ?_
 obtain⟨hlt,_⟩:=zgO g3
 have hml:(l.map tokT).length=l.length:=qab _
 have hx:=zeO hlt
 have hx':(l.map tokT)[((i:Int)+1-1).toNat]?=some (.ag [T.i l[i].1,.s l[i].2.1,T.i l[i].2.2]):=by rw[show((i:Int)+1-1).toNat=i by omega];exact hx
 rw[zjR hlt,vlE,zbI _ _ _ _ _ _ rfl rfl rfl rfl,qaC]
 generalize l[i]=t at*
 refine so Tryz.func124 ?_
 repeat' (first|refine wkt ?_|refine zqi ?_|refine zqh ?_|(apply TO.want;exact rfl)|refine wd hn ?_|refine wd h1 ?_|refine wd h2 ?_|refine wd h3 ?_|exact wkc|intro hc|refine wk2 ?_ ?_|fail)
 refine rgX 0 (g:=True) [(.ref 0 0,0,1),(.ref 0 0,0,1),(.ref 0 0,0,1),(.t (.sl 3 (l.map tokT)),0,1),(.ref 0 0,0,1),(.ref 0 0,0,1),(.ref 0 2,0,1),(.i ((i:Int)+1),0,1),(.i ((i:Int)+1-1),0,1),(.cp [T.i t.1,.s t.2.1,T.i t.2.2] 0,0,1),(.cp [T.i t.1,.s t.2.1,T.i t.2.2] 1,0,1),(.s t.2.1,0,1),(.t (.ag [T.i 11,T.i 0,T.i 0,T.i 0,T.s t.2.1,.v (.slice none 0 0)]),0,1),(.t (.v undef),1,0)] [[rdB l n es (i+1),exZ],[rdB l n es (i+1),.cells [.t (T.i 11),.t (T.i 0),.t (T.i 0),.t (T.i 0),.t (T.s t.2.1),.t (.v (.slice none 0 0))]]] ?_ (fun _=>?_)
 ·repeat' (first|refine wkt ?_|exact trivial|exact⟨⟨rfl,rfl⟩,trivial⟩|(apply TO.zaV;(iterate 3 exact rfl);omega;omega)|(apply TO.zr3;exact rfl;exact rfl;omega;omega)|refine qai (fun env=>?_) ?_|refine qai ?_ ?_|refine wk ?_|exact wkc|intro hc|refine wk2 ?_ ?_|fail)
  done
 ·repeat' (first|refine wu ?_|exact wkc|intro hc|refine wk2 ?_ ?_|fail)
  apply rdV rfl
  ·exact rfl
  ·exact zqa
  all_goals exact rfl
set_option maxHeartbeats 4000000 in
theorem zsd (l:List Tok) (n:Int) (es:List En) (i:Nat) (hi:i≤l.length) (hk:TkOk l) (g0:(rdr l es).neg i=true):ExR l n es 124 [] i (.ok (mkE 1 0 2 (-numV ((rdr l es).txt (i+1))) [] []) (i+2)):=by
 have hl:=hk.len
 have hn:=zbO l n es i hl hi
 rw[g0]at hn
 refine Sound.err rfl (fun _=>rfl) ?_
 have g0':=g0
 unfold Rd.neg at g0'
 rw[qau]at g0'
 obtain⟨hlt,hk2⟩:=zgO g0'.2
 have hnv:=hk.num _ (qaf hlt) hk2
 have hml:(l.map tokT).length=l.length:=qab _
 have hx:=zeO hlt
 have hx':(l.map tokT)[((i:Int)+2-1).toNat]?=some (.ag [T.i l[i+1].1,.s l[i+1].2.1,T.i l[i+1].2.2]):=by rw[show((i:Int)+2-1).toNat=i+1 by omega];exact hx
 have hb:=zp2 hnv
 rw[zjR hlt,vlE,zbI _ _ _ _ _ _ rfl rfl rfl (zd0 (by omega)),qaC]
 have hv:=zfC _ hnv.2 hnv.1
 generalize l[i+1]=t at*
 generalize numV t.2.1=v at*
 refine so Tryz.func124 ?_
 repeat' (first|refine wkt ?_|refine zqi ?_|refine zqh ?_|(apply TO.want;exact rfl)|refine wd hn ?_|exact wkc|intro hc|refine wk2 ?_ ?_|fail)
 refine rgX 0 (g:=True) [(.ref 0 0,0,1),(.ref 0 0,0,1),(.ref 0 0,0,1),(.t (.sl 3 (l.map tokT)),0,1),(.ref 0 0,0,1),(.ref 0 0,0,1),(.ref 0 2,0,1),(.i ((i:Int)+2),0,1),(.i ((i:Int)+2-1),0,1),(.cp [T.i t.1,.s t.2.1,T.i t.2.2] 0,0,1),(.cp [T.i t.1,.s t.2.1,T.i t.2.2] 1,0,1),(.s t.2.1,0,1),(.i v,0,1),(.i (-v),0,1),(.t (.ag [T.i 1,T.i 0,T.i 2,T.i (-v),T.v (str []),.v (.slice none 0 0)]),0,1),(.t (.v undef),1,0)] [[rdB l n es (i+2),exZ],[rdB l n es (i+2),.cells [.t (T.i 1),.t (T.i 0),.t (T.i 2),.t (T.i (-v)),.t (T.v (str [])),.t (.v (.slice none 0 0))]]] ?_ (fun _=>?_)
 ·repeat' (first|refine wkt ?_|exact trivial|exact⟨⟨rfl,rfl⟩,trivial⟩|(apply TO.zaV;(iterate 3 exact rfl);omega;omega)|(apply TO.zr3;exact rfl;exact rfl;omega;omega)|refine qai (fun env=>?_) ?_|refine qai ?_ ?_|refine wv hv ?_|refine wk ?_|exact wkc|intro hc|refine wk2 ?_ ?_|fail)
  done
 ·repeat' (first|refine wu ?_|exact wkc|intro hc|refine wk2 ?_ ?_|fail)
  apply rdV rfl
  ·exact rfl
  ·exact zqa
  all_goals exact rfl
set_option maxHeartbeats 4000000 in
theorem zse (l:List Tok) (n:Int) (es:List En) (i:Nat) (hi:i≤l.length) (hk:TkOk l) (g0:(rdr l es).neg i=false) (g1:(rdr l es).isAt i [45]=false) (g2:(rdr l es).kind i 2=true):ExR l n es 124 [] i (if 32767<numV ((rdr l es).txt i) then .er i 14 else .ok (mkE 1 0 2 (numV ((rdr l es).txt i)) [] []) (i+1)):=by
 have hl:=hk.len
 have hn:=zbO l n es i hl hi
 rw[g0]at hn
 have h1:=zbx l n es i [45] hl
 rw[g1]at h1
 have h2:=zaG l n es i 2 hl
 rw[g2]at h2
 refine Sound.err rfl (fun _=>rfl) ?_
 obtain⟨hlt,hk2⟩:=zgO g2
 have hnv:=hk.num _ (qaf hlt) hk2
 have hml:(l.map tokT).length=l.length:=qab _
 have hx:=zeO hlt
 have hb:=zp2 hnv
 have hf:=zb8 l n es i i 14 (by decide) hl
 rw[zjR hlt]
 have hv:=zfC _ hnv.2 hnv.1
 generalize l[i]=t at*
 generalize numV t.2.1=v at*
 by_cases hc:32767<v
 ·rw[if_pos hc]
  refine so Tryz.func124 ?_
  repeat' (first|refine wkt ?_|refine zqi ?_|refine zqh ?_|(apply TO.want;exact rfl)|refine wd hn ?_|refine wd h1 ?_|refine wd h2 ?_|exact wkc|intro hc|refine wk2 ?_ ?_|fail)
  refine rgS [.ref 0 0,.ref 0 0,.ref 0 0,.t (.sl 3 (l.map tokT)),.ref 0 0,.ref 0 0,.ref 0 2,.i i,.cp [T.i t.1,.s t.2.1,T.i t.2.2] 0,.cp [T.i t.1,.s t.2.1,T.i t.2.2] 1,.s t.2.1,.i v,.i v] ?_ ?_
  ·repeat' (first|refine wkt ?_|exact trivial|exact⟨⟨rfl,rfl⟩,trivial⟩|(apply TO.zaV;(iterate 3 exact rfl);omega;omega)|(apply TO.zr3;exact rfl;exact rfl;omega;omega)|refine qai (fun env=>?_) ?_|refine qai ?_ ?_|refine wv hv ?_|refine wk ?_|exact wkc|intro hc|refine wk2 ?_ ?_|fail)
   done
  ·repeat' (first|refine wu ?_|exact wkc|intro hc|refine wk2 ?_ ?_|refine we hf ?_ ?_|fail)
   exact rdP rfl (by decide)
 ·rw[if_neg hc,vlE,zbI _ _ _ _ _ _ rfl rfl rfl (zd0 (by omega)),qaC]
  refine so Tryz.func124 ?_
  repeat' (first|refine wkt ?_|refine zqi ?_|refine zqh ?_|(apply TO.want;exact rfl)|refine wd hn ?_|refine wd h1 ?_|refine wd h2 ?_|exact wkc|intro hc|refine wk2 ?_ ?_|fail)
  refine rgS [.ref 0 0,.ref 0 0,.ref 0 0,.t (.sl 3 (l.map tokT)),.ref 0 0,.ref 0 0,.ref 0 2,.i i,.cp [T.i t.1,.s t.2.1,T.i t.2.2] 0,.cp [T.i t.1,.s t.2.1,T.i t.2.2] 1,.s t.2.1,.i v,.i v] ?_ ?_
  ·repeat' (first|refine wkt ?_|exact trivial|exact⟨⟨rfl,rfl⟩,trivial⟩|(apply TO.zaV;(iterate 3 exact rfl);omega;omega)|(apply TO.zr3;exact rfl;exact rfl;omega;omega)|refine qai (fun env=>?_) ?_|refine qai ?_ ?_|refine wv hv ?_|refine wk ?_|exact wkc|intro hc|refine wk2 ?_ ?_|fail)
   done
  ·repeat' (first|refine wu ?_|exact wkc|intro hc|refine wk2 ?_ ?_|refine we hf ?_ ?_|fail)
   apply rdV rfl
   ·exact rfl
   ·exact zqa
   all_goals exact rfl
end Go.Proofs.YthmbhfgflijapaaGreatDoor
