import Derived.Test.YthmbhfgflijapaaGreatDoorPk17
import Derived.Test.YthmbhfgflijapaaGreatDoorPk29
set_option linter.all false
namespace Go.TL
open Go
theorem TO.zh4{P:Program}{n:Nat}{env:Env}{K:TK}{all:Array Oper}{ops:List Oper}{H:Heap}(sz id j:Nat){cs:List SV}{H':Heap}(hH:H[id]?=some (.cells cs))(hi:cs[j]?=some (.t (.v (.slice none 0 0))))(hH':H.set id (.cells (cs.set j (.sl sz [] H.length)))++[.tail 0]=H')
  (k:TO false P n all ops env H' K):TO false P n all ops env H K:=by
 intro φ m a h1 h2 h3 h4
 obtain⟨s,hm'⟩:=zky h2
 have hid:=(qaa.1 hH).1
 have hjl:=(qaa.1 hi).1
 have hH1:m.H[id]?=some (.cells cs):=by rw[h1];exact hH
 obtain⟨p,hp⟩:∃p,m.β[id]?=some p:=⟨_,qac (by rw[h2.len,h1];exact hid)⟩
 obtain⟨b1,b2,b3⟩:=h2.blk id p _ hp hH1
 have hH2:(m.H++[Blk.tail 0])[id]?=some (.cells cs):=by rw[qat (by rw[h1];exact hid)];exact hH1
 have hp2:(m.β++[(⟨0,0,0⟩:Place)])[id]?=some p:=by rw[qat (qaa.1 hp).1];exact hp
 obtain⟨s2,hm2⟩:=upd (m:=⟨m.A,m.β++[⟨0,0,0⟩],m.H++[.tail 0],m.w⟩) hm' (cs':=cs.set j (.sl sz [] m.H.length)) (w':=m.w) hp2 hH2 rfl rfl rfl rfl (fun _ _=>rfl) (fun _ _=>rfl) (fun _=>rfl) (fun _=>rfl) (fun _ h=>h) (by simpa using b1) (by omega) (fun q c hc=>by
  by_cases hq:q=j
  ·subst hq
   rw[qav hjl]at hc
   cases hc
   obtain⟨y,hy1,hy0,hy2⟩:=b3 q _ hi
   have:=hy2.v_eq
   subst this
   exact⟨_,hy1,rfl,znp h2 sz⟩
  ·rw[qaF (by omega)]at hc
   obtain⟨y,hy1,hy0,hy2⟩:=b3 q c hc
   exact⟨y,hy1,hy0,s.srel h2 hy2⟩)
 refine zaX (fun _ _ _ hp=>hp.step (s.trans s2)) (fun _ _=>Post.zcG) _ _ _ (k φ ⟨m.A,m.β++[⟨0,0,0⟩],(m.H++[Blk.tail 0]).set id (.cells (cs.set j (.sl sz [] m.H.length))),m.w⟩ a ?_ hm2 ((h3.step h2 s).step hm' s2) h4)
 rw[<-hH',<-h1]
 show(m.H++[Blk.tail 0]).set id _=_
 rw[qch _ _ (by rw[h1];exact hid)]
end Go.TL
namespace Go.Proofs.YthmbhfgflijapaaGreatDoor
open Go Go.TL
attribute [local irreducible] TR TO Then zag RetK Sound zab Kf GG zaK
abbrev cB (s:Str)(xs:List T):Blk:=.cells [.t (.i 10),.t (.v (.int .i64 0)),.t (.v (.int .i64 0)),.t (.v (.int .i64 0)),.t (.s s),.sl 6 xs 3]
end Go.Proofs.YthmbhfgflijapaaGreatDoor
namespace Go.Proofs.YthmbhfgflijapaaGreatDoor
open Go Go.TL
attribute [local irreducible] TR TO Then zag RetK Sound zab Kf GG zaK
set_option maxHeartbeats 4000000 in
theorem znY (l:List Tok) (n:Int) (es:List En) (s:Str) (i:Nat) (hl:l.length≤1000000) (hi:i≤l.length) (h1:(rdr l es).isAt i [41]=false) {k:Nat} {c:Int} {fe:PR Ex} (hf:fe= .er k c)
  (he:ExR l n es 22 [] i fe/\InR l.length (i+1) fe):
  ExR l n es 161 [.s s] i (.er k c):=by
 have t1:=zam l n es i [41] hl hi
 rw[h1,if_neg (by decide)]at t1
 obtain⟨hx,hin⟩:=he
 subst hf
 have hc0:=hin.2
 replace hx:=hx.er
 simp only[PR.vl]at hx
 refine Sound.err rfl (fun _=>rfl) ?_
 refine so Tryz.func161 ?_
 repeat' (first|refine wkb ?_|refine wk ?_|exact wkc|intro hc|refine wk2 ?_ ?_|fail)
 refine TO.zh4 6 2 5 rfl rfl rfl ?_
 repeat' (first|refine wkt ?_|refine wd t1 ?_|exact wkc|intro hc|refine wk2 ?_ ?_|fail)
 refine rgX 3 (g:=False) [(.ref 2 5,0,1),(.sl 6 ([]:List T) 3,0,1),(.ref 0 0,0,1),(.t (.ag [T.n noE.kind,T.n noE.op,T.n noE.t,T.n noE.v,T.s noE.name,T.sl 6 (noE.args.map exT)]),1,0),(.t (.sl 6 [.ag [T.n noE.kind,T.n noE.op,T.n noE.t,T.n noE.v,T.s noE.name,T.sl 6 (noE.args.map exT)]]),1,1),(.sl 6 (([]:List T)++[.ag [T.n noE.kind,T.n noE.op,T.n noE.t,T.n noE.v,T.s noE.name,T.sl 6 (noE.args.map exT)]]) 3,1,0),(.ref 2 5,0,2),(.t (.v undef),1,0)] [[rdB l n es i,exZ,cB s ([]:List T),.tail (([]:List T)).length],[rdB l n es i,exZ,cB s ([]:List T),.tail (([]:List T)).length],[rdB l n es i,exZ,cB s ([]:List T),.tail ((([]:List T)).length+1)],[rdB l n es i,exZ,cB s (([]:List T)++[.ag [T.n noE.kind,T.n noE.op,T.n noE.t,T.n noE.v,T.s noE.name,T.sl 6 (noE.args.map exT)]]),.tail ((([]:List T)).length+1)]] ?_ (fun h=>h.elim)
 repeat' (first|refine wkt ?_|exact trivial|exact⟨⟨rfl,rfl⟩,trivial⟩|refine qai (fun env=>?_) ?_|refine qai ?_ ?_|refine we hx ?_ ?_|refine wk ?_|exact wkc|intro hc|refine wk2 ?_ ?_|fail)
 exact rdP rfl hc0
theorem zo2{R:Rd}{f:Nat->PR Ex}:∀ {m:Nat} {xs:List Ex} {i:Nat},R.isAt i [44]=false->R.args f m xs i= .ok xs i
 | 0,_,_,_=>rfl
 | m+1,xs,i,h=>by rw[Rd.args,h,if_neg (by decide)]
set_option maxHeartbeats 8000000 in
theorem zlN (l:List Tok) (n:Int) (es:List En) (hl:l.length≤1000000):zuL l n es:=by
 intro f g s i hi hF hG
 have t1:=zam l n es i [41] hl hi
 generalize hr:(rdr l es).call f g s i=r
 unfold Rd.call at hr
 cases h1:(rdr l es).isAt i [41] with
 | true=>
   have hlt:=zaE h1
   rw[zal]at hlt
   rw[h1,if_pos rfl]at t1
   rw[if_pos h1]at hr
   simp only[PR.bind]at hr
   refine Sound.err rfl (fun _=>rfl) ?_
   refine so Tryz.func161 ?_
   repeat' (first|refine wkb ?_|refine wk ?_|exact wkc|intro hc|refine wk2 ?_ ?_|fail)
   refine TO.zh4 6 2 5 rfl rfl rfl ?_
   have hml:(([]:List Ex).map exT).length≤2000000:=by decide
   have t2:=zam l n es (i+1) [101,118,101,114,121] hl hlt
   cases hv:(rdr l es).isAt (i+1) [101,118,101,114,121] with
   | false=>
     rw[hv,if_neg (by decide)]at t2
     rw[if_neg (by rw[hv];decide)]at hr
     subst hr
     repeat' (first|refine wu ?_|exact wkc|intro hc|refine wk2 ?_ ?_|refine wd t1 ?_|refine wd t2 ?_|fail)
     apply rdV rfl
     ·exact rfl
     ·rw[vlE,zbI _ _ _ _ _ _ rfl rfl rfl rfl]
      exact zqa
     all_goals exact rfl
   | true=>
     have hlt2:=zaE hv
     rw[zal]at hlt2
     rw[hv,if_pos rfl]at t2
     rw[if_pos hv]at hr
     obtain⟨hx,hin⟩:=hG ((i+1)+1) (by omega) hlt2
     cases hqg:g ((i+1)+1) with
     | er k c=>
       rw[hqg]at hx hin hr
       have hc0:=hin.2
       replace hx:=hx.er
       simp only[PR.vl]at hx
       simp only[PR.bind]at hr
       repeat' (first|refine wkt ?_|refine wd t1 ?_|refine wd t2 ?_|exact wkc|intro hc|refine wk2 ?_ ?_|fail)
       refine rgX 3 (g:=False) [(.ref 2 5,0,1),(.sl 6 (([]:List Ex).map exT) 3,0,1),(.ref 0 0,0,1),(.t (.ag [T.n noE.kind,T.n noE.op,T.n noE.t,T.n noE.v,T.s noE.name,T.sl 6 (noE.args.map exT)]),1,0),(.t (.sl 6 [.ag [T.n noE.kind,T.n noE.op,T.n noE.t,T.n noE.v,T.s noE.name,T.sl 6 (noE.args.map exT)]]),1,1),(.sl 6 ((([]:List Ex).map exT)++[.ag [T.n noE.kind,T.n noE.op,T.n noE.t,T.n noE.v,T.s noE.name,T.sl 6 (noE.args.map exT)]]) 3,1,0),(.ref 2 5,0,2),(.t (.v undef),1,0)] [[rdB l n es ((i+1)+1),exZ,cB s (([]:List Ex).map exT),.tail ((([]:List Ex).map exT)).length],[rdB l n es ((i+1)+1),exZ,cB s (([]:List Ex).map exT),.tail ((([]:List Ex).map exT)).length],[rdB l n es ((i+1)+1),exZ,cB s (([]:List Ex).map exT),.tail (((([]:List Ex).map exT)).length+1)],[rdB l n es ((i+1)+1),exZ,cB s ((([]:List Ex).map exT)++[.ag [T.n noE.kind,T.n noE.op,T.n noE.t,T.n noE.v,T.s noE.name,T.sl 6 (noE.args.map exT)]]),.tail (((([]:List Ex).map exT)).length+1)]] ?_ (fun h=>h.elim)
       repeat' (first|refine wkt ?_|exact trivial|exact⟨⟨rfl,rfl⟩,trivial⟩|refine qai (fun env=>?_) ?_|refine qai ?_ ?_|refine we hx ?_ ?_|refine wk ?_|exact wkc|intro hc|refine wk2 ?_ ?_|fail)
       repeat' (first|refine zab.panic ?_|refine wk ?_|fail)
       exact rdP hr.symm hc0
     | ok b k=>
       rw[hqg]at hx hin hr
       replace hx:=hx.ok
       obtain⟨hj3,hj4⟩:=hin
       simp only[PR.vl]at hx
       simp only[PR.bind]at hr
       rw[zae b]at hx
       unfold exC at hx
       subst hr
       repeat' (first|refine wkt ?_|refine wd t1 ?_|refine wd t2 ?_|exact wkc|intro hc|refine wk2 ?_ ?_|fail)
       refine rgX 3 (g:=True) [(.ref 2 5,0,1),(.sl 6 (([]:List Ex).map exT) 3,0,1),(.ref 0 0,0,1),(.t (.ag [T.n b.kind,T.n b.op,T.n b.t,T.n b.v,T.s b.name,T.sl 6 (b.args.map exT)]),1,0),(.t (.sl 6 [.ag [T.n b.kind,T.n b.op,T.n b.t,T.n b.v,T.s b.name,T.sl 6 (b.args.map exT)]]),1,1),(.sl 6 ((([]:List Ex).map exT)++[.ag [T.n b.kind,T.n b.op,T.n b.t,T.n b.v,T.s b.name,T.sl 6 (b.args.map exT)]]) 3,1,0),(.ref 2 5,0,2),(.t (.v undef),1,0)] [[rdB l n es ((i+1)+1),exZ,cB s (([]:List Ex).map exT),.tail ((([]:List Ex).map exT)).length],[rdB l n es k,exZ,cB s (([]:List Ex).map exT),.tail ((([]:List Ex).map exT)).length],[rdB l n es k,exZ,cB s (([]:List Ex).map exT),.tail (((([]:List Ex).map exT)).length+1)],[rdB l n es k,exZ,cB s ((([]:List Ex).map exT)++[.ag [T.n b.kind,T.n b.op,T.n b.t,T.n b.v,T.s b.name,T.sl 6 (b.args.map exT)]]),.tail (((([]:List Ex).map exT)).length+1)]] ?_ (fun _=>?_)
       ·repeat' (first|refine wkt ?_|exact trivial|exact⟨⟨rfl,rfl⟩,trivial⟩|refine qai (fun env=>?_) ?_|refine qai ?_ ?_|refine we hx ?_ ?_|refine wk ?_|exact wkc|intro hc|refine wk2 ?_ ?_|fail)
        done
       ·repeat' (first|refine wu ?_|exact wkc|intro hc|refine wk2 ?_ ?_|fail)
        exact zwbz
 | false=>
 have h1':=h1
 rw[h1,if_neg (by decide)]at t1
 rw[if_neg (by rw[h1];decide)]at hr
 have hfi:=hF i (qae _) hi
 cases hq:f i with
 | er k c=>
   rw[hq]at hfi hr
   simp only[PR.bind]at hr
   subst hr
   exact znY l n es s i hl hi h1' rfl hfi
 | ok a j=>
 obtain⟨hx,hin⟩:=hfi
 rw[hq]at hx hin hr
 replace hx:=hx.ok
 obtain⟨hj3,hj4⟩:=hin
 simp only[PR.vl]at hx
 simp only[PR.bind]at hr
 rw[zae a]at hx
 unfold exC at hx
 refine Sound.err rfl (fun _=>rfl) ?_
 refine so Tryz.func161 ?_
 repeat' (first|refine wkb ?_|refine wk ?_|exact wkc|intro hc|refine wk2 ?_ ?_|fail)
 refine TO.zh4 6 2 5 rfl rfl rfl ?_
 repeat' (first|refine wkt ?_|refine wd t1 ?_|exact wkc|intro hc|refine wk2 ?_ ?_|fail)
 refine rgX 3 (g:=True) [(.ref 2 5,0,1),(.sl 6 ([]:List T) 3,0,1),(.ref 0 0,0,1),(.t (.ag [T.n a.kind,T.n a.op,T.n a.t,T.n a.v,T.s a.name,T.sl 6 (a.args.map exT)]),1,0),(.t (.sl 6 [.ag [T.n a.kind,T.n a.op,T.n a.t,T.n a.v,T.s a.name,T.sl 6 (a.args.map exT)]]),1,1),(.sl 6 (([]:List T)++[.ag [T.n a.kind,T.n a.op,T.n a.t,T.n a.v,T.s a.name,T.sl 6 (a.args.map exT)]]) 3,1,0),(.ref 2 5,0,2),(.t (.v undef),1,0)] [[rdB l n es i,exZ,cB s ([]:List T),.tail (([]:List T)).length],[rdB l n es j,exZ,cB s ([]:List T),.tail (([]:List T)).length],[rdB l n es j,exZ,cB s ([]:List T),.tail ((([]:List T)).length+1)],[rdB l n es j,exZ,cB s (([]:List T)++[.ag [T.n a.kind,T.n a.op,T.n a.t,T.n a.v,T.s a.name,T.sl 6 (a.args.map exT)]]),.tail ((([]:List T)).length+1)]] ?_ (fun _=>?_)
 ·repeat' (first|refine wkt ?_|exact trivial|exact⟨⟨rfl,rfl⟩,trivial⟩|refine qai (fun env=>?_) ?_|refine qai ?_ ?_|refine we hx ?_ ?_|refine wk ?_|exact wkc|intro hc|refine wk2 ?_ ?_|fail)
  done
 repeat' (first|refine wu ?_|exact wkc|intro hc|refine wk2 ?_ ?_|refine wd t1 ?_|fail)
 refine TR.zcS (ι:=Nat×Nat×List Ex) (fun x=>i≤x.2.1/\x.2.1≤l.length/\l.length-x.2.1≤x.1/\x.2.2.length≤x.2.1+1/\((((rdr l es).args f x.1 x.2.2 x.2.1).bind fun l2 j=>((rdr l es).must [[41]] j).bind fun _ j=>.ok l2 j:PR (List Ex)).bind fun l2 j=>if(rdr l es).isAt j [101,118,101,114,121]=true then(g (j+1)).bind fun a j=>.ok (mkE 10 0 0 1 s (l2++[a])) j else .ok (mkE 10 0 0 0 s l2) j)=r) (fun x=>l.length-x.2.1) (fun _=>[(0,.ref 0 0),(5,.ref 2 0),(4,.ref 1 0)]) (fun x=>[rdB l n es x.2.1,exZ,cB s (x.2.2.map exT),.tail (x.2.2.map exT).length]) ((rdr l es).K.length,j,[a])
  ⟨by show i≤j;omega,hj4,by rw[zal];show l.length-j≤l.length;omega,by show 1≤j+1;omega,hr⟩ ⟨rfl,rfl,rfl,trivial⟩ (by show _=[rdB l n es j,exZ,cB s ([a].map exT),.tail ([a].map exT).length];rw[qah,qaC,zae a];rfl) ?_
 clear hr hx hj3 hj4 hq t1 h1 h1'
 clear a j
 rintro⟨m,j,xs⟩ ⟨q1,q2,q3,q4,hr⟩
 replace q1:i≤j:=q1
 replace q2:j≤l.length:=q2
 replace q3:l.length-j≤m:=q3
 replace q4:xs.length≤j+1:=q4
 simp only at hr
 have hml0:(xs.map exT).length=xs.length:=qab _
 have t3:=zam l n es j [44] hl q2
 cases hw:(rdr l es).isAt j [44] with
 | false=>
   rw[hw,if_neg (by decide)]at t3
   rw[zo2 hw]at hr
   simp only[PR.bind]at hr
   have t4:=zb6 l n es j [[41]] hl q2 (by decide)
   have hin:=zbN (R:=rdr l es) [[41]] (i:=j) (by rw[zal];exact q2)
   rw[zal]at hin
   cases hqm:(rdr l es).must [[41]] j with
   | er k c=>
     rw[hqm]at t4 hin hr
     have hc0:=hin.2
     replace t4:=t4.er
     simp only[PR.bind]at hr
     repeat' (first|refine wu ?_|exact wkc|intro hc|refine wk2 ?_ ?_|refine wd t3 ?_|refine we t4 ?_ ?_|fail)
     repeat' (first|refine zab.panic ?_|refine wk ?_|fail)
     exact rdP hr.symm hc0
   | ok _ j5=>
     rw[hqm]at t4 hin hr
     obtain⟨hk1,hk2⟩:=hin
     replace t4:=t4.ok
     simp only[PR.bind]at hr
     have hml:(xs.map exT).length≤2000000:=by omega
     have t2:=zam l n es j5 [101,118,101,114,121] hl hk2
     cases hv:(rdr l es).isAt j5 [101,118,101,114,121] with
     | false=>
       rw[hv,if_neg (by decide)]at t2
       rw[if_neg (by rw[hv];decide)]at hr
       subst hr
       repeat' (first|refine wu ?_|exact wkc|intro hc|refine wk2 ?_ ?_|refine wd t3 ?_|refine we t4 ?_ ?_|refine zab.exit ?_|refine wd t2 ?_|fail)
       apply rdV rfl
       ·exact rfl
       ·rw[vlE,zbI _ _ _ _ _ _ rfl rfl rfl rfl]
        exact zqa
       all_goals exact rfl
     | true=>
       have hlt2:=zaE hv
       rw[zal]at hlt2
       rw[hv,if_pos rfl]at t2
       rw[if_pos hv]at hr
       obtain⟨hx,hin⟩:=hG (j5+1) (by omega) hlt2
       cases hqg:g (j5+1) with
       | er k c=>
         rw[hqg]at hx hin hr
         have hc0:=hin.2
         replace hx:=hx.er
         simp only[PR.vl]at hx
         simp only[PR.bind]at hr
         refine wk ?_
         repeat' (first|refine wkt ?_|refine wd t3 ?_|refine we t4 ?_ ?_|refine zab.exit ?_|refine wd t2 ?_|exact wkc|intro hc|refine wk2 ?_ ?_|fail)
         refine rgX 3 (g:=False) [(.ref 2 5,0,1),(.sl 6 (xs.map exT) 3,0,1),(.ref 0 0,0,1),(.t (.ag [T.n noE.kind,T.n noE.op,T.n noE.t,T.n noE.v,T.s noE.name,T.sl 6 (noE.args.map exT)]),1,0),(.t (.sl 6 [.ag [T.n noE.kind,T.n noE.op,T.n noE.t,T.n noE.v,T.s noE.name,T.sl 6 (noE.args.map exT)]]),1,1),(.sl 6 ((xs.map exT)++[.ag [T.n noE.kind,T.n noE.op,T.n noE.t,T.n noE.v,T.s noE.name,T.sl 6 (noE.args.map exT)]]) 3,1,0),(.ref 2 5,0,2),(.t (.v undef),1,0)] [[rdB l n es (j5+1),exZ,cB s (xs.map exT),.tail ((xs.map exT)).length],[rdB l n es (j5+1),exZ,cB s (xs.map exT),.tail ((xs.map exT)).length],[rdB l n es (j5+1),exZ,cB s (xs.map exT),.tail (((xs.map exT)).length+1)],[rdB l n es (j5+1),exZ,cB s ((xs.map exT)++[.ag [T.n noE.kind,T.n noE.op,T.n noE.t,T.n noE.v,T.s noE.name,T.sl 6 (noE.args.map exT)]]),.tail (((xs.map exT)).length+1)]] ?_ (fun h=>h.elim)
         repeat' (first|refine wkt ?_|exact trivial|exact⟨⟨rfl,rfl⟩,trivial⟩|refine qai (fun env=>?_) ?_|refine qai ?_ ?_|refine we hx ?_ ?_|refine wk ?_|exact wkc|intro hc|refine wk2 ?_ ?_|fail)
         repeat' (first|refine zab.panic ?_|refine wk ?_|fail)
         exact rdP hr.symm hc0
       | ok b k=>
         rw[hqg]at hx hin hr
         replace hx:=hx.ok
         obtain⟨hj3,hj4⟩:=hin
         simp only[PR.vl]at hx
         simp only[PR.bind]at hr
         rw[zae b]at hx
         unfold exC at hx
         subst hr
         refine wk ?_
         repeat' (first|refine wkt ?_|refine wd t3 ?_|refine we t4 ?_ ?_|refine zab.exit ?_|refine wd t2 ?_|exact wkc|intro hc|refine wk2 ?_ ?_|fail)
         refine rgX 3 (g:=True) [(.ref 2 5,0,1),(.sl 6 (xs.map exT) 3,0,1),(.ref 0 0,0,1),(.t (.ag [T.n b.kind,T.n b.op,T.n b.t,T.n b.v,T.s b.name,T.sl 6 (b.args.map exT)]),1,0),(.t (.sl 6 [.ag [T.n b.kind,T.n b.op,T.n b.t,T.n b.v,T.s b.name,T.sl 6 (b.args.map exT)]]),1,1),(.sl 6 ((xs.map exT)++[.ag [T.n b.kind,T.n b.op,T.n b.t,T.n b.v,T.s b.name,T.sl 6 (b.args.map exT)]]) 3,1,0),(.ref 2 5,0,2),(.t (.v undef),1,0)] [[rdB l n es (j5+1),exZ,cB s (xs.map exT),.tail ((xs.map exT)).length],[rdB l n es k,exZ,cB s (xs.map exT),.tail ((xs.map exT)).length],[rdB l n es k,exZ,cB s (xs.map exT),.tail (((xs.map exT)).length+1)],[rdB l n es k,exZ,cB s ((xs.map exT)++[.ag [T.n b.kind,T.n b.op,T.n b.t,T.n b.v,T.s b.name,T.sl 6 (b.args.map exT)]]),.tail (((xs.map exT)).length+1)]] ?_ (fun _=>?_)
         ·repeat' (first|refine wkt ?_|exact trivial|exact⟨⟨rfl,rfl⟩,trivial⟩|refine qai (fun env=>?_) ?_|refine qai ?_ ?_|refine we hx ?_ ?_|refine wk ?_|exact wkc|intro hc|refine wk2 ?_ ?_|fail)
          done
         ·repeat' (first|refine wu ?_|exact wkc|intro hc|refine wk2 ?_ ?_|fail)
          exact zwbz
 | true=>
   have hlt:=zaE hw
   rw[zal]at hlt
   rw[hw,if_pos rfl]at t3
   cases m with
   | zero=>exfalso;omega
   | succ m=>
   rw[Rd.args,if_pos hw]at hr
   obtain⟨hx,hin⟩:=hF (j+1) (by omega) hlt
   cases hq:f (j+1) with
   | er k c=>
     rw[hq]at hx hin hr
     have hc0:=hin.2
     replace hx:=hx.er
     simp only[PR.vl]at hx
     simp only[PR.bind]at hr
     refine wk ?_
     repeat' (first|refine wkt ?_|refine wd t3 ?_|exact wkc|intro hc|refine wk2 ?_ ?_|fail)
     refine rgX 3 (g:=False) [(.ref 2 5,0,1),(.sl 6 (xs.map exT) 3,0,1),(.ref 0 0,0,1),(.t (.ag [T.n noE.kind,T.n noE.op,T.n noE.t,T.n noE.v,T.s noE.name,T.sl 6 (noE.args.map exT)]),1,0),(.t (.sl 6 [.ag [T.n noE.kind,T.n noE.op,T.n noE.t,T.n noE.v,T.s noE.name,T.sl 6 (noE.args.map exT)]]),1,1),(.sl 6 ((xs.map exT)++[.ag [T.n noE.kind,T.n noE.op,T.n noE.t,T.n noE.v,T.s noE.name,T.sl 6 (noE.args.map exT)]]) 3,1,0),(.ref 2 5,0,2),(.t (.v undef),1,0)] [[rdB l n es (j+1),exZ,cB s (xs.map exT),.tail ((xs.map exT)).length],[rdB l n es (j+1),exZ,cB s (xs.map exT),.tail ((xs.map exT)).length],[rdB l n es (j+1),exZ,cB s (xs.map exT),.tail (((xs.map exT)).length+1)],[rdB l n es (j+1),exZ,cB s ((xs.map exT)++[.ag [T.n noE.kind,T.n noE.op,T.n noE.t,T.n noE.v,T.s noE.name,T.sl 6 (noE.args.map exT)]]),.tail (((xs.map exT)).length+1)]] ?_ (fun h=>h.elim)
     repeat' (first|refine wkt ?_|exact trivial|exact⟨⟨rfl,rfl⟩,trivial⟩|refine qai (fun env=>?_) ?_|refine qai ?_ ?_|refine we hx ?_ ?_|refine wk ?_|exact wkc|intro hc|refine wk2 ?_ ?_|fail)
     repeat' (first|refine zab.panic ?_|refine wk ?_|fail)
     exact rdP hr.symm hc0
   | ok b k=>
     rw[hq]at hx hin hr
     replace hx:=hx.ok
     obtain⟨hj3,hj4⟩:=hin
     simp only[PR.vl]at hx
     rw[show(PR.bind (PR.ok b k) fun b j=>(rdr l es).args f m (xs++[b]) j)=(rdr l es).args f m (xs++[b]) k from rfl]at hr
     rw[zae b]at hx
     unfold exC at hx
     refine wk ?_
     repeat' (first|refine wkt ?_|refine wd t3 ?_|exact wkc|intro hc|refine wk2 ?_ ?_|fail)
     refine rgX 3 (g:=True) [(.ref 2 5,0,1),(.sl 6 (xs.map exT) 3,0,1),(.ref 0 0,0,1),(.t (.ag [T.n b.kind,T.n b.op,T.n b.t,T.n b.v,T.s b.name,T.sl 6 (b.args.map exT)]),1,0),(.t (.sl 6 [.ag [T.n b.kind,T.n b.op,T.n b.t,T.n b.v,T.s b.name,T.sl 6 (b.args.map exT)]]),1,1),(.sl 6 ((xs.map exT)++[.ag [T.n b.kind,T.n b.op,T.n b.t,T.n b.v,T.s b.name,T.sl 6 (b.args.map exT)]]) 3,1,0),(.ref 2 5,0,2),(.t (.v undef),1,0)] [[rdB l n es (j+1),exZ,cB s (xs.map exT),.tail ((xs.map exT)).length],[rdB l n es k,exZ,cB s (xs.map exT),.tail ((xs.map exT)).length],[rdB l n es k,exZ,cB s (xs.map exT),.tail (((xs.map exT)).length+1)],[rdB l n es k,exZ,cB s ((xs.map exT)++[.ag [T.n b.kind,T.n b.op,T.n b.t,T.n b.v,T.s b.name,T.sl 6 (b.args.map exT)]]),.tail (((xs.map exT)).length+1)]] ?_ (fun _=>?_)
     ·repeat' (first|refine wkt ?_|exact trivial|exact⟨⟨rfl,rfl⟩,trivial⟩|refine qai (fun env=>?_) ?_|refine qai ?_ ?_|refine we hx ?_ ?_|refine wk ?_|exact wkc|intro hc|refine wk2 ?_ ?_|fail)
      done
     ·repeat' (first|refine wu ?_|exact wkc|intro hc|refine wk2 ?_ ?_|fail)
      refine zab.next (m,k,xs++[b]) ⟨?_,hj4,?_,?_,hr⟩ ?_ ⟨rfl,rfl,rfl,trivial⟩ ?_
      ·show i≤k;omega
      ·show l.length-k≤m;omega
      ·show(xs++[b]).length≤k+1;rw[qad];simp only[qal,qaz];omega
      ·show l.length-k<l.length-j;omega
      ·show _=[rdB l n es k,exZ,cB s ((xs++[b]).map exT),.tail ((xs++[b]).map exT).length]
       rw[qaH,qah,qaC,zae b,qad];rfl
end Go.Proofs.YthmbhfgflijapaaGreatDoor
namespace Go.TL
open Go
section rules
variable {P:Program}{n:Nat}{env:Env}{H:Heap}{K:TK}{all:Array Oper}{rest:List Oper}{tab:Tab}{q:Bool}{d:Nat}{ty:TypeId}{pos:String}{aft:Array Edge}
theorem TO.zt1{ops:List Oper}(bid j0 sz id len:Nat){bs:List SV}{cs:List SV}{es:List T}{H':Heap}(hne:Nat.beq bid id=false)(hB:H[bid]?=some (.cells bs))(hj0:bs[j0]?=some (.ms sz id 0 len))(hH:H[id]?=some (.cells cs))(hcl:es.length*sz≤cs.length)(hcs:∀(j:Nat) c,((es.map T.cells).flatten.map SV.t)[j]?=some c->cs[j]?=some c)(hlen:len=es.length)(hsz:∀e∈es,e.cells.length=sz)
  (hpos:Nat.ble 1 sz=true)(hH':(H.set id .dead).set bid (.cells (bs.set j0 (.t (.sl sz es))))=H')(k:TO false P n all ops env H' K):TO false P n all ops env H K:=by
 intro φ m a h1 h2 h3 h4
 have hp':=qag hpos
 subst hlen
 have hne':bid≠id:=fun h=>by subst h;simp at hne
 have hB1:m.H[bid]?=some (.cells bs):=by rw[h1];exact hB
 obtain⟨pb,hpb⟩:∃pb,m.β[bid]?=some pb:=⟨_,qac (by have:=(qaa.1 hB1).1;have:=h2.len;omega)⟩
 obtain⟨w1,w2,w3⟩:=h2.blk bid pb _ hpb hB1
 obtain⟨x,hx1,hx0,hx2⟩:=w3 j0 _ hj0
 obtain⟨l1,l2⟩:=zcr es hsz
 cases hx2 with
 | ms _ _ _ _ cap p hp hn hc hh=>
   have hH1:m.H[id]?=some (.cells cs):=by rw[h1];exact hH
   obtain⟨b1,b2,b3⟩:=h2.blk id p _ hp hH1
   have hex:∀j,∃y,j<cs.length->m.w.cell? ⟨p.b,p.lo+j,none⟩=some y/\y.oneCell'=true/\∀c,cs[j]?=some c->SRel m c y:=by
    exact zwbf
   let f:Nat->Value:=fun j=>Classical.choose (hex j)
   have hf:=fun j=>qb7 (hex j)
   obtain⟨s,hm'⟩:=ze4 h2 (k1:=.dead) (p':=p) (A':=fun b o=>m.A b o\/(b=p.b/\p.lo≤o/\o<p.lo+cs.length)) (w':=m.w) hp hH1 rfl rfl rfl rfl (qae _) (fun _ _ _ _=>rfl) (fun _ _ _ _ _=>rfl) (fun _ _ _=>rfl) (fun _ _ _ h=>h) (fun _ _ h=>h)
    (fun _ _ h=>.inl h) (fun b o h=>by
      rcases h with h|h
      ·exact .inl h
      ·exact .inr (.inl (by omega))) (fun h=>by cases h) (fun h=>by cases h) (fun o q1 q2=>(b2 o q1 q2).1) ⟨rfl,fun n'=>by simp[tlOf]⟩ (fun _=>trivial)
   have hlt:∀q j,q<es.length->j<sz->q*sz+j<cs.length:=fun q j hq hj=>by
    exact zwdz
   have hr:SRel ⟨fun b o=>m.A b o\/(b=p.b/\p.lo≤o/\o<p.lo+cs.length),m.β.set id p,m.H.set id .dead,m.w⟩ (.t (.sl sz es)) (.slice (some ⟨p.b,p.lo+0,none⟩) es.length cap):=by
    exact zwg
   have hB2:(m.H.set id .dead)[bid]?=some (.cells bs):=by rw[qaF (fun h=>hne' h.symm)];exact hB1
   have hpb2:(m.β.set id p)[bid]?=some pb:=by rw[qaF (fun h=>hne' h.symm)];exact hpb
   have hjl:=(qaa.1 hj0).1
   obtain⟨s2,hm2⟩:=upd hm' (cs':=bs.set j0 (.t (.sl sz es))) (w':=m.w) hpb2 hB2 rfl rfl rfl rfl (fun _ _=>rfl) (fun _ _=>rfl) (fun _=>rfl) (fun _=>rfl) (fun _ h=>h) (by rw[qbV];exact w1) (by omega) (fun j c hc=>by
    by_cases hj:j=j0
    ·subst hj
     rw[qav hjl]at hc
     cases hc
     exact⟨_,hx1,hx0,hr⟩
    ·rw[qaF (fun h=>hj h.symm)]at hc
     obtain⟨y,y1,y2,y3⟩:=w3 j c hc
     exact⟨y,y1,y2,s.srel h2 y3⟩)
   have st:=s.trans s2
   exact TO.zeM (m':=⟨fun b o=>m.A b o\/(b=p.b/\p.lo≤o/\o<p.lo+cs.length),m.β.set id p,(m.H.set id .dead).set bid (.cells (bs.set j0 (.t (.sl sz es)))),m.w⟩) st (k φ ⟨fun b o=>m.A b o\/(b=p.b/\p.lo≤o/\o<p.lo+cs.length),m.β.set id p,(m.H.set id .dead).set bid (.cells (bs.set j0 (.t (.sl sz es)))),m.w⟩ a (by show _=H';rw[<-hH',h1]) hm2 (h3.step h2 st) (h4.step h2 st))
end rules
section rules
variable {P:Program}{n:Nat}{env:Env}{H:Heap}{K:TK}{all:Array Oper}{rest:List Oper}{tab:Tab}{q:Bool}
variable {d:Nat}{ty:TypeId}{pos:String}{aft:Array Edge}
theorem TO.zoj(hT:zaw P tab){t e:TypeId}{i ie:TyI}{sz b c:Nat}{x y:Operand}(hd:Nat.ble (d+1) n=true)(ht:tab.get t=some i)(hk:i.k= .slice e)(he:tab.get e=some ie)(hs:ie.size=sz)(hpos:Nat.ble 1 sz=true)
  (hx:env.val x=some (.i (b:Int)))(hy:env.val y=some (.i (c:Int)))(hbc:b≤c)(h2:c≤10000000000)(hby:Nat.ble ie.bytes 4096=true)
  (k:TO false P n all rest ((d,.ms sz H.length 0 b)::env) (H++[.cells (zaL ie.zero c)]) K):TO false P n all (⟨some d,.makeSlice t x y,ty,pos,aft,none⟩::rest) env H K:=
 TO.eff hd (fun m ac g1 g2 g3=>by
  have hp':=qag hpos
  have hb':=qag hby
  obtain⟨ti,hti,hti1,hti2⟩:=(hT e ie he).info
  obtain⟨z,hz1,hz2,_,_⟩:=(hT e ie he).zero
  have hln:=(hT e ie he).len
  have hzl:z.cells.size=sz:=by
   exact zwfs
  have hcm:c*ie.bytes≤10000000000*4096:=qb2 h2 hb'
  have hw:IntKind.i64.wrap (c:Int)=c:=zfc (by omega) (by omega)
  have hwb:IntKind.i64.wrap (b:Int)=b:=zfc (by omega) (by omega)
  have hbig2:¬((c:Int)<b):=by omega
  have hbig:¬(281474976710656<(ti.bytes:Int)*(c:Int)):=by
   rw[hti2,<-Int.natCast_mul,qco];omega
  have hneg:¬((c:Int)<0):=by omega
  have hnegb:¬((b:Int)<0):=by omega
  obtain⟨arr,harr⟩:∃arr:Array Value,arr=Builtin.zeroCells z.cells c:=⟨_,rfl⟩
  have hrun:(Instr.makeSlice t (.int .i64 (b:Int)) (.int .i64 (c:Int))).run P m.w= .ok (.slice (some ⟨m.w.heap.size,0,none⟩) b c) (m.w.alloc (.cells arr e)):=by
   by_cases h0:c*sz=0
   ·have hc0:c=0:=by rcases Nat.mul_eq_zero.1 h0 with h|h <;> omega
    subst hc0
    have hb0:b=0:=by omega
    subst hb0
    have ha:arr= #[]:=by rw[harr];simp[Builtin.zeroCells]
    rw[ha]
    have hw0:IntKind.i64.wrap (0:Int)=0:=by decide
    simp[Instr.makeSlice,underlying,(hT t i ht).slice hk,(hT e ie he).sizeOf,asInt,asIntOf,hw0,typeInfo,hti,newRow,askRoom,roomBytes]
    refine congrArg (fun a=>m.w.alloc (Obj.cells a e)) ?_
    simp[Array.range]
   ·have hroom:¬140737488355328<c*ti.bytes:=by rw[hti2];omega
    have hc0:¬c=0:=by rintro rfl;simp at h0
    have hs0:¬sz=0:=by omega
    rw[harr]
    simp[Instr.makeSlice,underlying,(hT t i ht).slice hk,(hT e ie he).sizeOf,hs,asInt,asIntOf,hw,hwb,typeInfo,hti,hbig,hbig2,hneg,hnegb,hz1,newRow,askRoom,roomBytes,hroom,h0,hc0,hs0,Builtin.zeroCells,hzl]
  have hsize:arr.size=c*ie.zero.length:=by
   rw[harr,zbF,hzl,hln,hs]
  obtain⟨s,hm'⟩:=ziL g2 (ts:=ie.zero) (z:=z.cells) (e:=e) (arr:=arr) (c:=c) (N:=c) hz2 (by omega) (qae _) hsize (fun j hj=>by
   have hzz:z.cells.size=ie.zero.length:=by omega
   rw[harr,<-hzz]
   rw[<-hzz]at hj
   exact zd2 _ _ _ (by omega) hj)
  refine⟨.slice (some ⟨m.w.heap.size,0,none⟩) b c,⟨m.A,m.β++[⟨m.w.heap.size,0,arr.size⟩],m.H++[.cells (zaL ie.zero c)],m.w.alloc (.cells arr e)⟩,by simp[execOp,(g3.val hx).v_eq,(g3.val hy).v_eq,hrun],s,hm',by rw[<-g1],?_⟩
  rw[<-g1]
  refine .ms sz m.H.length 0 b c ⟨m.w.heap.size,0,arr.size⟩ (by simp[g2.len]) (by intro q;simp[tlOf]) hbc ?_
  show 0+0+c*sz=arr.size
  rw[hsize,hln,hs];omega) k
theorem TO.makeSlice(hT:zaw P tab){t e:TypeId}{i ie:TyI}{sz c:Nat}{x:Operand}(hd:Nat.ble (d+1) n=true)(ht:tab.get t=some i)(hk:i.k= .slice e)(he:tab.get e=some ie)(hs:ie.size=sz)(hpos:Nat.ble 1 sz=true)
  (hx:env.val x=some (.i (c:Int)))(h2:c≤10000000000)(hby:Nat.ble ie.bytes 4096=true)
  (k:TO false P n all rest ((d,.ms sz H.length 0 c)::env) (H++[.cells (zaL ie.zero c)]) K):TO false P n all (⟨some d,.makeSlice t x x,ty,pos,aft,none⟩::rest) env H K:=
 TO.zoj hT hd ht hk he hs hpos hx hx (qae c) h2 hby k
end rules
end Go.TL
namespace Go.TL
open Go
theorem TO.zkK{P:Program}{n:Nat}{env:Env}{K:TK}{all:Array Oper}{ops:List Oper}{H:Heap}(id:Nat){cs cs':List SV}{H':Heap}(hH:H[id]?=some (.cells cs))(hl:cs'.length=cs.length)(h0:0<cs.length)
  (hle:∀(q:Nat) c',cs'[q]?=some c'->∃c,cs[q]?=some c/\Le c c')(hH':H.set id (.cells cs')=H')
  (k:TO false P n all ops env H' K):TO false P n all ops env H K:=by
 intro φ m a h1 h2 h3 h4
 have hid:=(qaa.1 hH).1
 have hH1:m.H[id]?=some (.cells cs):=by rw[h1];exact hH
 obtain⟨p,hp⟩:∃p,m.β[id]?=some p:=⟨_,qac (by rw[h2.len,h1];exact hid)⟩
 obtain⟨b1,b2,b3⟩:=h2.blk id p _ hp hH1
 have hlt:=hl
 obtain⟨s2,hm2⟩:=upd h2 (cs':=cs') (w':=m.w) hp hH1 rfl rfl rfl rfl (fun _ _=>rfl) (fun _ _=>rfl) (fun _=>rfl) (fun _=>rfl) (fun _ h=>h) (by omega) (by omega) (fun q c hc=>by
  obtain⟨c0,hc0,hle0⟩:=hle q c hc
  obtain⟨y,hy1,hy0,hy2⟩:=b3 q c0 hc0
  exact⟨y,hy1,hy0,hle0 _ _ hy2⟩)
 refine zaX (fun _ _ _ hp=>hp.step s2) (fun _ _=>Post.zcG) _ _ _ (k φ ⟨m.A,m.β,m.H.set id (.cells cs'),m.w⟩ a ?_ hm2 (h3.step h2 s2) (h4.step h2 s2))
 rw[<-hH',<-h1]
theorem zbW{z z':List T}(hz:z'.length=z.length)(h:∀(q:Nat) c',z'[q]?=some c'->∃c,z[q]?=some c/\Le (.t c) (.t c')):∀(n:Nat) (q:Nat) (c':SV),(zaL z' n)[q]?=some c'->∃c,(zaL z n)[q]?=some c/\Le c c'
 | 0,q,c',hq=>by simp[zaL]at hq
 | n+1,q,c',hq=>by
   have e:∀z:List T,zaL z (n+1)=z.map .t++zaL z n:=fun z=>by simp[zaL,qbM]
   rw[e]at hq⊢
   by_cases hlt:q<z.length
   ·rw[qat (by simpa [hz]using hlt),qar]at hq
    rw[qat (by simpa using hlt),qar]
    cases hc:z'[q]? with
    | none=>rw[hc]at hq;cases hq
    | some c1=>
      rw[hc]at hq
      cases hq
      obtain⟨c,h1,h2⟩:=h q c1 hc
      exact⟨.t c,by rw[h1];rfl,h2⟩
   ·rw[qaA (by simpa [hz]using hlt),qab,hz]at hq
    rw[qaA (by simpa using hlt),qab]
    exact zbW hz h n _ _ hq
end Go.TL
namespace Go.Proofs.YthmbhfgflijapaaGreatDoor
open Go Go.TL
attribute [local irreducible] TR TO Then zag RetK Sound zab Kf GG zaK
abbrev zaC (l:List Ex):List SV:=((l.map exT).map T.cells).flatten.map SV.t
theorem zbl(l:List Ex):(zaC l).length=l.length*6:=by
 rw[qab,(zcr (l.map exT) (sz:=6) (fun e he=>by obtain⟨a,_,rfl⟩:=qaP.1 he;rw[zae];rfl)).1,qab]
theorem zbm(e:Ex):∀(l:List Ex) (w:Nat),w<l.length->splice (zaC l) (0+w*6) ((exC e).map .t)=zaC (l.set w e)
 | a::l,0,_=>by
   simp only[zaC,qah,qa3,qaH,List.set_cons_zero,splice,qcp,qaU,qbl,qa9]
   rw[zae a,zae e]
   rfl
 | a::l,w+1,h=>by
   have ih:=zbm e l w (by simpa using h)
   have e1:zaC (a::l)=(exC a).map .t++zaC l:=by simp[zaC,zae,T.cells]
   have e2:zaC ((a::l).set (w+1) e)=(exC a).map .t++zaC (l.set w e):=by simp[zaC,zae,T.cells]
   have e3:((exC a).map SV.t).length=6:=rfl
   rw[e1,e2,<-ih]
   unfold splice
   rw[show 0+(w+1)*6=((exC a).map SV.t).length+(0+w*6) by rw[e3];omega,List.take_length_add_append,qaO,qaO,qaO]
   congr 2
   rw[qa4,List.drop_length_add_append]
theorem zaS(c:Nat):zaC (List.replicate c noE)=zaL (exC noE) c:=by
 simp[zaC,zaL,List.map_replicate,zae,T.cells]
theorem zfO{R:Rd}{t v:Nat}{known:Bool}{i j:Nat}{u:Unit}(h:R.wanted t v known i= .ok u j):j=i:=by
 unfold Rd.wanted at h
 repeat' split at h
 all_goals first
  | (cases h;done)
  | (cases h;rfl)
theorem zgS{R:Rd}{s:Str}{i j:Nat}{u:Unit}(h:R.must [s] i= .ok u j):j=i+1:=by
 simp only[Rd.must]at h
 split at h
 ·cases h;rfl
 ·cases h
theorem zqq{l:List Tok}{es:List En}{t:Nat}(h:t=1\/3≤t):zbz es (t:Int)=((rdr l es).size t:Nat):=by
 unfold zbz Rd.size
 rcases h with rfl|h
 ·rfl
 ·rw[if_neg (by omega),if_neg (by omega),if_neg (by omega),if_neg (by omega)]
  show(((za5 es (t:Int)).1.tags.length:Nat):Int)=((match es[t-3]? with|some u=>u.tags.length|none=>0:Nat):Int)
  unfold za5
  by_cases hlt:t-3<es.length
  ·rw[if_pos ⟨by omega,by omega⟩,show((t:Int)-3).toNat=t-3 by omega,qac hlt]
  ·rw[if_neg (by omega),qa7 (by omega)];rfl
theorem zkt{l:List Tok}{es:List En}(he:EsOk es){w i j:Nat}{tv:Nat×Nat}(hw1:w=1->(rdr l es).isAt i [116,114,117,101]=true)(hw2:w≤1)(h:(rdr l es).aTag i= .ok tv j):
  (tv.1=1\/3≤tv.1)/\w<(rdr l es).size tv.1:=by
 obtain⟨_,h2⟩:=zev he h
 rcases h2 with ⟨h2,_⟩|⟨h2,u,h3,h4⟩
 ·refine⟨.inl h2,?_⟩
  rw[h2]
  show w<2
  omega
 ·refine⟨.inr h2,?_⟩
  have hs:(rdr l es).size tv.1=u.tags.length:=by
   unfold Rd.size
   rw[if_neg (by omega),if_neg (by omega)]
   show(match es[tv.1-3]? with|some u=>u.tags.length|none=>0)=_
   rw[h3]
  rw[hs]
  by_cases hw:w=1
  ·unfold Rd.aTag at h
   rw[if_pos (hw1 hw)]at h
   cases h
   omega
  ·omega
theorem size_le{l:List Tok}{es:List En}(he:EsOk es){t:Nat}(h:t=1\/3≤t):(rdr l es).size t≤3000000:=by
 rcases h with rfl|h
 ·show 2≤3000000;decide
 ·unfold Rd.size
  rw[if_neg (by omega),if_neg (by omega)]
  show(match es[t-3]? with|some u=>u.tags.length|none=>0)≤_
  cases hq:es[t-3]? with
  | none=>exact qaJ _
  | some u=>exact he.tags u (qas hq)
end Go.Proofs.YthmbhfgflijapaaGreatDoor
