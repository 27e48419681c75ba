import Derived.Lib.SliceRun
import Derived.Test.YtpfnfpaahefdaaaGreatPk23
set_option linter.all false
namespace Go.Proofs.YtpfnfpaahefdaaaGreat
open Go Go.TL
attribute [local irreducible] TR TO Then zac RetK Sound zaf Kf GG zaY
def G.rank:G->Nat
 | .expr=>9
 | .level n=>8-n
 | .unary=>1
 | .prim=>0
def ExG(l:List Tok)(n:Int)(es:List En)(i:Nat)(r:PR Ex):G->Prop
 | .expr=>ExR l n es 34 [] i r
 | .level k=>k≤6->ExR l n es 62 [.i k] i r
 | .unary=>ExR l n es 80 [] i r
 | .prim=>ExR l n es 94 [] i r
def znJ(l:List Tok)(n:Int)(es:List En):Prop:=∀(f:Nat->PR Ex) (i:Nat),i≤l.length->(∀j,i≤j->j≤l.length->ExR l n es 34 [] j (f j)/\InR l.length (j+1) (f j))->
 ExR l n es 105 [] i ((rdr l es).merge f i)
def zoW(l:List Tok)(n:Int)(es:List En):Prop:=∀(f g:Nat->PR Ex) (s:Str) (i:Nat),i≤l.length->(∀j,i≤j->j≤l.length->ExR l n es 34 [] j (f j)/\InR l.length (j+1) (f j))->
 (∀j,i≤j->j≤l.length->ExR l n es 94 [] j (g j)/\InR l.length (j+1) (g j))->
 ExR l n es 106 [.s s] i ((rdr l es).call f g s i)
theorem znk(l:List Tok)(n:Int)(es:List En)(hk:TkOk l)(hes:EsOk es)(hM:znJ l n es)(hC:zoW l n es):
  ∀(m:Nat) (g:G) (i:Nat),i≤l.length->10*(l.length-i)+g.rank<m->ExG l n es i (pF (rdr l es) m g i) g:=by
 have hin:∀(m:Nat) (g:G) {i:Nat},i≤l.length->InR l.length (i+1) (pF (rdr l es) m g i):=fun m g i h=>by
  have:=zdi (R:=rdr l es) m g (i:=i) (by rw[zae];exact h)
  rw[zae]at this
  exact this
 intro m
 induction m with
 | zero=>intro g i _ h;omega
 | succ m ih=>
   intro g i hi hm
   cases g with
   | expr=>
     have hm:10*(l.length-i)+9<m+1:=hm
     show ExR _ _ _ _ _ _ _
     unfold pF
     exact zkq l n es i hk.len hi (fe:=pF (rdr l es) m .expr) ⟨ih (.level 0) i hi (by show 10*(l.length-i)+8<m;omega) (by decide),hin _ _ hi⟩ fun j h1 h2=>⟨ih .expr j h2 (by show 10*(l.length-j)+9<m;omega),hin _ _ h2⟩
   | level k=>
     have hm:10*(l.length-i)+(8-k)<m+1:=hm
     show k≤6->ExR _ _ _ _ _ _ _
     intro h6
     unfold pF
     by_cases h2:k=2
     ·subst h2
      rw[if_pos rfl]
      refine zhY l n es i hk.len hi (fun hb=>?_) ?_
      ·have hlt:=zaj hb
       rw[zae]at hlt
       exact⟨ih (.level 2) (i+1) hlt (by show 10*(l.length-(i+1))+6<m;omega) (by decide),(hin _ _ hlt).le (by omega)⟩
      ·exact⟨ih (.level 3) i hi (by show 10*(l.length-i)+5<m;omega) (by decide),(hin _ _ hi).le (by omega)⟩
     rw[if_neg h2]
     by_cases h7:k=6
     ·subst h7
      rw[if_pos rfl]
      exact zhZ l n es i ⟨ih .unary i hi (by show 10*(l.length-i)+1<m;omega),hin _ _ hi⟩
     rw[if_neg h7]
     exact zh0 l n es i k hk.len hi hk.short h2 h7 (by omega) (f:=pF (rdr l es) m (.level (k+1))) fun j h3 h4=>⟨ih (.level (k+1)) j h4 (by show 10*(l.length-j)+(8-(k+1))<m;omega) (by omega),hin _ _ h4⟩
   | unary=>
     have hm:10*(l.length-i)+1<m+1:=hm
     show ExR _ _ _ _ _ _ _
     unfold pF
     refine zji l n es i hk.len hi hes (fun hb=>?_) ⟨ih .prim i hi (by show 10*(l.length-i)+0<m;omega),hin _ _ hi⟩
     have hlt:i<l.length:=by
      rcases hb with hb|hb
      ·have:=zaj hb;rw[zae]at this;exact this
      ·have:=zaj hb;rw[zae]at this;exact this
     exact⟨ih .unary (i+1) hlt (by show 10*(l.length-(i+1))+1<m;omega),(hin _ _ hlt).le (by omega)⟩
   | prim=>
     have hm:10*(l.length-i)+0<m+1:=hm
     show ExR _ _ _ _ _ _ _
     unfold pF
     have hE:∀j,i<j->j≤l.length->ExR l n es 34 [] j (pF (rdr l es) m .expr j)/\InR l.length (j+1) (pF (rdr l es) m .expr j):=fun j h1 h2=>⟨ih .expr j h2 (by show 10*(l.length-j)+9<m;omega),hin _ _ h2⟩
     have hP:∀j,i<j->j≤l.length->ExR l n es 94 [] j (pF (rdr l es) m .prim j)/\InR l.length (j+1) (pF (rdr l es) m .prim j):=fun j h1 h2=>⟨ih .prim j h2 (by show 10*(l.length-j)+0<m;omega),hin _ _ h2⟩
     refine zkU l n es i hi hk hes hE (fun hb=>?_) (fun s j h1 h2=>?_)
     ·have hlt:=zaj hb
      rw[zae]at hlt
      refine⟨hM _ (i+1) hlt fun j h1 h2=>hE j (by omega) h2,?_⟩
      have:=zjL (R:=rdr l es) (f:=pF (rdr l es) m .expr) (fun j hj=>zdi m .expr hj) (i:=i+1) (by rw[zae];exact hlt)
      rw[zae]at this
      exact this.le (by omega)
     ·refine⟨hC _ _ s j h2 (fun k h3 h4=>hE k (by omega) h4) (fun k h3 h4=>hP k (by omega) h4),?_⟩
      have:=zln (R:=rdr l es) (f:=pF (rdr l es) m .expr) (g:=pF (rdr l es) m .prim) (fun j hj=>zdi m .expr hj) (fun j hj=>zdi m .prim hj) s (i:=j) (by rw[zae];exact h2)
      rw[zae]at this
      exact this.le (by omega)
end Go.Proofs.YtpfnfpaahefdaaaGreat
namespace Go.TL
open Go
theorem TO.zbB{P:Program}{n:Nat}{env:Env}{K:TK}{all:Array Oper}{ops:List Oper}{H:Heap}(sz id j:Nat){cs:List SV}{H':Heap}(hH:H[id]?=some (.cells cs))(hi:cs[j]?=some (.t (.v (.slice none 0 0))))(hH':H.set id (.cells (cs.set j (.sl sz [] H.length)))++[.tail 0]=H')
  (k:TO false P n all ops env H' K):TO false P n all ops env H K:=by
 intro φ m a h1 h2 h3 h4
 obtain⟨s,hm'⟩:=zfI h2
 have hid:=(qaa.1 hH).1
 have hjl:=(qaa.1 hi).1
 have hH1:m.H[id]?=some (.cells cs):=by rw[h1];exact hH
 obtain⟨p,hp⟩:∃p,m.β[id]?=some p:=⟨_,qab (by rw[h2.len,h1];exact hid)⟩
 obtain⟨b1,b2,b3⟩:=h2.blk id p _ hp hH1
 have hH2:(m.H++[Blk.tail 0])[id]?=some (.cells cs):=by rw[qan (by rw[h1];exact hid)];exact hH1
 have hp2:(m.β++[(⟨0,0,0⟩:Place)])[id]?=some p:=by rw[qan (qaa.1 hp).1];exact hp
 obtain⟨s2,hm2⟩:=upd (m:=⟨m.A,m.β++[⟨0,0,0⟩],m.H++[.tail 0],m.w⟩) hm' (cs':=cs.set j (.sl sz [] m.H.length)) (w':=m.w) hp2 hH2 rfl rfl rfl rfl (fun _ _=>rfl) (fun _ _=>rfl) (fun _=>rfl) (fun _=>rfl) (fun _ h=>h) (by simpa using b1) (by omega) (fun q c hc=>by
  by_cases hq:q=j
  ·exact zwcj
  ·rw[qau (by omega)]at hc
   obtain⟨y,hy1,hy0,hy2⟩:=b3 q c hc
   exact⟨y,hy1,hy0,s.srel h2 hy2⟩)
 refine zaV (fun _ _ _ hp=>hp.step (s.trans s2)) (fun _ _=>Post.zcb) _ _ _ (k φ ⟨m.A,m.β++[⟨0,0,0⟩],(m.H++[Blk.tail 0]).set id (.cells (cs.set j (.sl sz [] m.H.length))),m.w⟩ a ?_ hm2 ((h3.step h2 s).step hm' s2) h4)
 rw[<-hH',<-h1]
 show(m.H++[Blk.tail 0]).set id _=_
 rw[qbQ _ _ (by rw[h1];exact hid)]
end Go.TL
namespace Go.Proofs.YtpfnfpaahefdaaaGreat
open Go Go.TL
attribute [local irreducible] TR TO Then zac RetK Sound zaf Kf GG zaY
abbrev cB (s:Str)(xs:List T):Blk:=.cells [.t (.i 10),.t (.v (.int .i64 0)),.t (.v (.int .i64 0)),.t (.v (.int .i64 0)),.t (.s s),.sl 6 xs 3]
end Go.Proofs.YtpfnfpaahefdaaaGreat
namespace Go.Proofs.YtpfnfpaahefdaaaGreat
open Go Go.TL
attribute [local irreducible] TR TO Then zac RetK Sound zaf Kf GG zaY
set_option maxHeartbeats 4000000 in
theorem zkh (l:List Tok) (n:Int) (es:List En) (s:Str) (i:Nat) (hl:l.length≤1000000) (hi:i≤l.length) (h1:(rdr l es).isAt i [41]=false) {k:Nat} {c:Int} {fe:PR Ex} (hf:fe= .er k c)
  (he:ExR l n es 34 [] i fe/\InR l.length (i+1) fe):
  ExR l n es 106 [.s s] i (.er k c):=by
 have t1:=zai l n es i [41] hl hi
 rw[h1,if_neg (by decide)]at t1
 obtain⟨hx,hin⟩:=he
 subst hf
 have hc0:=hin.2
 replace hx:=hx.er
 simp only[PR.vl]at hx
 refine Sound.err rfl (fun _=>rfl) ?_
 refine so Tryz.func106 ?_
 repeat' (first|refine wkb ?_|refine wk ?_|exact wkc|intro hc|refine wk2 ?_ ?_|fail)
 refine TO.zbB 6 2 5 rfl rfl rfl ?_
 repeat' (first|refine wkt ?_|refine wd t1 ?_|exact wkc|intro hc|refine wk2 ?_ ?_|fail)
 refine rgX 3 (g:=False) [(.ref 2 5,0,1),(.sl 6 ([]:List T) 3,0,1),(.ref 0 0,0,1),(.t (.ag [T.n noE.kind,T.n noE.op,T.n noE.t,T.n noE.v,T.s noE.name,T.sl 6 (noE.args.map exT)]),1,0),(.t (.sl 6 [.ag [T.n noE.kind,T.n noE.op,T.n noE.t,T.n noE.v,T.s noE.name,T.sl 6 (noE.args.map exT)]]),1,1),(.sl 6 (([]:List T)++[.ag [T.n noE.kind,T.n noE.op,T.n noE.t,T.n noE.v,T.s noE.name,T.sl 6 (noE.args.map exT)]]) 3,1,0),(.ref 2 5,0,2),(.t (.v undef),1,0)] [[rdB l n es i,exZ,cB s ([]:List T),.tail (([]:List T)).length],[rdB l n es i,exZ,cB s ([]:List T),.tail (([]:List T)).length],[rdB l n es i,exZ,cB s ([]:List T),.tail ((([]:List T)).length+1)],[rdB l n es i,exZ,cB s (([]:List T)++[.ag [T.n noE.kind,T.n noE.op,T.n noE.t,T.n noE.v,T.s noE.name,T.sl 6 (noE.args.map exT)]]),.tail ((([]:List T)).length+1)]] ?_ (fun h=>h.elim)
 repeat' (first|refine wkt ?_|exact trivial|exact⟨⟨rfl,rfl⟩,trivial⟩|refine qak (fun env=>?_) ?_|refine qak ?_ ?_|refine we hx ?_ ?_|refine wk ?_|exact wkc|intro hc|refine wk2 ?_ ?_|fail)
 exact rdP rfl hc0
theorem zk8{R:Rd}{f:Nat->PR Ex}:∀ {m:Nat} {xs:List Ex} {i:Nat},R.isAt i [44]=false->R.args f m xs i= .ok xs i
 | 0,_,_,_=>rfl
 | m+1,xs,i,h=>by rw[Rd.args,h,if_neg (by decide)]
set_option maxHeartbeats 8000000 in
theorem ziB (l:List Tok) (n:Int) (es:List En) (hl:l.length≤1000000):zoW l n es:=by
 intro f g s i hi hF hG
 have t1:=zai l n es i [41] hl hi
 generalize hr:(rdr l es).call f g s i=r
 unfold Rd.call at hr
 cases h1:(rdr l es).isAt i [41] with
 | true=>
   have hlt:=zaj h1
   rw[zae]at hlt
   rw[h1,if_pos rfl]at t1
   rw[if_pos h1]at hr
   simp only[PR.bind]at hr
   refine Sound.err rfl (fun _=>rfl) ?_
   refine so Tryz.func106 ?_
   repeat' (first|refine wkb ?_|refine wk ?_|exact wkc|intro hc|refine wk2 ?_ ?_|fail)
   refine TO.zbB 6 2 5 rfl rfl rfl ?_
   have hml:(([]:List Ex).map exT).length≤2000000:=by decide
   have t2:=zai l n es (i+1) [101,118,101,114,121] hl hlt
   cases hv:(rdr l es).isAt (i+1) [101,118,101,114,121] with
   | false=>
     rw[hv,if_neg (by decide)]at t2
     rw[if_neg (by rw[hv];decide)]at hr
     subst hr
     repeat' (first|refine wu ?_|exact wkc|intro hc|refine wk2 ?_ ?_|refine wd t1 ?_|refine wd t2 ?_|fail)
     apply rdV rfl
     ·exact rfl
     ·rw[vlE,zbv _ _ _ _ _ _ rfl rfl rfl rfl]
      exact zqa
     all_goals exact rfl
   | true=>
     have hlt2:=zaj hv
     rw[zae]at hlt2
     rw[hv,if_pos rfl]at t2
     rw[if_pos hv]at hr
     obtain⟨hx,hin⟩:=hG ((i+1)+1) (by omega) hlt2
     cases hqg:g ((i+1)+1) with
     | er k c=>
       rw[hqg]at hx hin hr
       have hc0:=hin.2
       replace hx:=hx.er
       simp only[PR.vl]at hx
       simp only[PR.bind]at hr
       repeat' (first|refine wkt ?_|refine wd t1 ?_|refine wd t2 ?_|exact wkc|intro hc|refine wk2 ?_ ?_|fail)
       refine rgX 3 (g:=False) [(.ref 2 5,0,1),(.sl 6 (([]:List Ex).map exT) 3,0,1),(.ref 0 0,0,1),(.t (.ag [T.n noE.kind,T.n noE.op,T.n noE.t,T.n noE.v,T.s noE.name,T.sl 6 (noE.args.map exT)]),1,0),(.t (.sl 6 [.ag [T.n noE.kind,T.n noE.op,T.n noE.t,T.n noE.v,T.s noE.name,T.sl 6 (noE.args.map exT)]]),1,1),(.sl 6 ((([]:List Ex).map exT)++[.ag [T.n noE.kind,T.n noE.op,T.n noE.t,T.n noE.v,T.s noE.name,T.sl 6 (noE.args.map exT)]]) 3,1,0),(.ref 2 5,0,2),(.t (.v undef),1,0)] [[rdB l n es ((i+1)+1),exZ,cB s (([]:List Ex).map exT),.tail ((([]:List Ex).map exT)).length],[rdB l n es ((i+1)+1),exZ,cB s (([]:List Ex).map exT),.tail ((([]:List Ex).map exT)).length],[rdB l n es ((i+1)+1),exZ,cB s (([]:List Ex).map exT),.tail (((([]:List Ex).map exT)).length+1)],[rdB l n es ((i+1)+1),exZ,cB s ((([]:List Ex).map exT)++[.ag [T.n noE.kind,T.n noE.op,T.n noE.t,T.n noE.v,T.s noE.name,T.sl 6 (noE.args.map exT)]]),.tail (((([]:List Ex).map exT)).length+1)]] ?_ (fun h=>h.elim)
       repeat' (first|refine wkt ?_|exact trivial|exact⟨⟨rfl,rfl⟩,trivial⟩|refine qak (fun env=>?_) ?_|refine qak ?_ ?_|refine we hx ?_ ?_|refine wk ?_|exact wkc|intro hc|refine wk2 ?_ ?_|fail)
       repeat' (first|refine zaf.panic ?_|refine wk ?_|fail)
       exact rdP hr.symm hc0
     | ok b k=>
       rw[hqg]at hx hin hr
       replace hx:=hx.ok
       obtain⟨hj3,hj4⟩:=hin
       simp only[PR.vl]at hx
       simp only[PR.bind]at hr
       rw[zal b]at hx
       unfold exC at hx
       subst hr
       repeat' (first|refine wkt ?_|refine wd t1 ?_|refine wd t2 ?_|exact wkc|intro hc|refine wk2 ?_ ?_|fail)
       refine rgX 3 (g:=True) [(.ref 2 5,0,1),(.sl 6 (([]:List Ex).map exT) 3,0,1),(.ref 0 0,0,1),(.t (.ag [T.n b.kind,T.n b.op,T.n b.t,T.n b.v,T.s b.name,T.sl 6 (b.args.map exT)]),1,0),(.t (.sl 6 [.ag [T.n b.kind,T.n b.op,T.n b.t,T.n b.v,T.s b.name,T.sl 6 (b.args.map exT)]]),1,1),(.sl 6 ((([]:List Ex).map exT)++[.ag [T.n b.kind,T.n b.op,T.n b.t,T.n b.v,T.s b.name,T.sl 6 (b.args.map exT)]]) 3,1,0),(.ref 2 5,0,2),(.t (.v undef),1,0)] [[rdB l n es ((i+1)+1),exZ,cB s (([]:List Ex).map exT),.tail ((([]:List Ex).map exT)).length],[rdB l n es k,exZ,cB s (([]:List Ex).map exT),.tail ((([]:List Ex).map exT)).length],[rdB l n es k,exZ,cB s (([]:List Ex).map exT),.tail (((([]:List Ex).map exT)).length+1)],[rdB l n es k,exZ,cB s ((([]:List Ex).map exT)++[.ag [T.n b.kind,T.n b.op,T.n b.t,T.n b.v,T.s b.name,T.sl 6 (b.args.map exT)]]),.tail (((([]:List Ex).map exT)).length+1)]] ?_ (fun _=>?_)
       ·repeat' (first|refine wkt ?_|exact trivial|exact⟨⟨rfl,rfl⟩,trivial⟩|refine qak (fun env=>?_) ?_|refine qak ?_ ?_|refine we hx ?_ ?_|refine wk ?_|exact wkc|intro hc|refine wk2 ?_ ?_|fail)
        done
       ·repeat' (first|refine wu ?_|exact wkc|intro hc|refine wk2 ?_ ?_|fail)
        exact zwbt
 | false=>
 have h1':=h1
 rw[h1,if_neg (by decide)]at t1
 rw[if_neg (by rw[h1];decide)]at hr
 have hfi:=hF i (qae _) hi
 cases hq:f i with
 | er k c=>
   rw[hq]at hfi hr
   simp only[PR.bind]at hr
   subst hr
   exact zkh l n es s i hl hi h1' rfl hfi
 | ok a j=>
 obtain⟨hx,hin⟩:=hfi
 rw[hq]at hx hin hr
 replace hx:=hx.ok
 obtain⟨hj3,hj4⟩:=hin
 simp only[PR.vl]at hx
 simp only[PR.bind]at hr
 rw[zal a]at hx
 unfold exC at hx
 refine Sound.err rfl (fun _=>rfl) ?_
 refine so Tryz.func106 ?_
 repeat' (first|refine wkb ?_|refine wk ?_|exact wkc|intro hc|refine wk2 ?_ ?_|fail)
 refine TO.zbB 6 2 5 rfl rfl rfl ?_
 repeat' (first|refine wkt ?_|refine wd t1 ?_|exact wkc|intro hc|refine wk2 ?_ ?_|fail)
 refine rgX 3 (g:=True) [(.ref 2 5,0,1),(.sl 6 ([]:List T) 3,0,1),(.ref 0 0,0,1),(.t (.ag [T.n a.kind,T.n a.op,T.n a.t,T.n a.v,T.s a.name,T.sl 6 (a.args.map exT)]),1,0),(.t (.sl 6 [.ag [T.n a.kind,T.n a.op,T.n a.t,T.n a.v,T.s a.name,T.sl 6 (a.args.map exT)]]),1,1),(.sl 6 (([]:List T)++[.ag [T.n a.kind,T.n a.op,T.n a.t,T.n a.v,T.s a.name,T.sl 6 (a.args.map exT)]]) 3,1,0),(.ref 2 5,0,2),(.t (.v undef),1,0)] [[rdB l n es i,exZ,cB s ([]:List T),.tail (([]:List T)).length],[rdB l n es j,exZ,cB s ([]:List T),.tail (([]:List T)).length],[rdB l n es j,exZ,cB s ([]:List T),.tail ((([]:List T)).length+1)],[rdB l n es j,exZ,cB s (([]:List T)++[.ag [T.n a.kind,T.n a.op,T.n a.t,T.n a.v,T.s a.name,T.sl 6 (a.args.map exT)]]),.tail ((([]:List T)).length+1)]] ?_ (fun _=>?_)
 ·repeat' (first|refine wkt ?_|exact trivial|exact⟨⟨rfl,rfl⟩,trivial⟩|refine qak (fun env=>?_) ?_|refine qak ?_ ?_|refine we hx ?_ ?_|refine wk ?_|exact wkc|intro hc|refine wk2 ?_ ?_|fail)
  done
 repeat' (first|refine wu ?_|exact wkc|intro hc|refine wk2 ?_ ?_|refine wd t1 ?_|fail)
 refine TR.za3 (ι:=Nat×Nat×List Ex) (fun x=>i≤x.2.1/\x.2.1≤l.length/\l.length-x.2.1≤x.1/\x.2.2.length≤x.2.1+1/\((((rdr l es).args f x.1 x.2.2 x.2.1).bind fun l2 j=>((rdr l es).must [[41]] j).bind fun _ j=>.ok l2 j:PR (List Ex)).bind fun l2 j=>if(rdr l es).isAt j [101,118,101,114,121]=true then(g (j+1)).bind fun a j=>.ok (mkE 10 0 0 1 s (l2++[a])) j else .ok (mkE 10 0 0 0 s l2) j)=r) (fun x=>l.length-x.2.1) (fun _=>[(0,.ref 0 0),(5,.ref 2 0),(4,.ref 1 0)]) (fun x=>[rdB l n es x.2.1,exZ,cB s (x.2.2.map exT),.tail (x.2.2.map exT).length]) ((rdr l es).K.length,j,[a])
  ⟨by show i≤j;omega,hj4,by rw[zae];show l.length-j≤l.length;omega,by show 1≤j+1;omega,hr⟩ ⟨rfl,rfl,rfl,trivial⟩ (by show _=[rdB l n es j,exZ,cB s ([a].map exT),.tail ([a].map exT).length];rw[qag,qas,zal a];rfl) ?_
 clear hr hx hj3 hj4 hq t1 h1 h1'
 clear a j
 rintro⟨m,j,xs⟩ ⟨q1,q2,q3,q4,hr⟩
 replace q1:i≤j:=q1
 replace q2:j≤l.length:=q2
 replace q3:l.length-j≤m:=q3
 replace q4:xs.length≤j+1:=q4
 simp only at hr
 have hml0:(xs.map exT).length=xs.length:=qad _
 have t3:=zai l n es j [44] hl q2
 cases hw:(rdr l es).isAt j [44] with
 | false=>
   rw[hw,if_neg (by decide)]at t3
   rw[zk8 hw]at hr
   simp only[PR.bind]at hr
   have t4:=zbP l n es j [[41]] hl q2 (by decide)
   have hin:=zaG (R:=rdr l es) [[41]] (i:=j) (by rw[zae];exact q2)
   rw[zae]at hin
   cases hqm:(rdr l es).must [[41]] j with
   | er k c=>
     rw[hqm]at t4 hin hr
     have hc0:=hin.2
     replace t4:=t4.er
     simp only[PR.bind]at hr
     repeat' (first|refine wu ?_|exact wkc|intro hc|refine wk2 ?_ ?_|refine wd t3 ?_|refine we t4 ?_ ?_|fail)
     repeat' (first|refine zaf.panic ?_|refine wk ?_|fail)
     exact rdP hr.symm hc0
   | ok _ j5=>
     rw[hqm]at t4 hin hr
     obtain⟨hk1,hk2⟩:=hin
     replace t4:=t4.ok
     simp only[PR.bind]at hr
     have hml:(xs.map exT).length≤2000000:=by omega
     have t2:=zai l n es j5 [101,118,101,114,121] hl hk2
     cases hv:(rdr l es).isAt j5 [101,118,101,114,121] with
     | false=>
       rw[hv,if_neg (by decide)]at t2
       rw[if_neg (by rw[hv];decide)]at hr
       subst hr
       repeat' (first|refine wu ?_|exact wkc|intro hc|refine wk2 ?_ ?_|refine wd t3 ?_|refine we t4 ?_ ?_|refine zaf.exit ?_|refine wd t2 ?_|fail)
       apply rdV rfl
       ·exact rfl
       ·rw[vlE,zbv _ _ _ _ _ _ rfl rfl rfl rfl]
        exact zqa
       all_goals exact rfl
     | true=>
       have hlt2:=zaj hv
       rw[zae]at hlt2
       rw[hv,if_pos rfl]at t2
       rw[if_pos hv]at hr
       obtain⟨hx,hin⟩:=hG (j5+1) (by omega) hlt2
       cases hqg:g (j5+1) with
       | er k c=>
         rw[hqg]at hx hin hr
         have hc0:=hin.2
         replace hx:=hx.er
         simp only[PR.vl]at hx
         simp only[PR.bind]at hr
         refine wk ?_
         repeat' (first|refine wkt ?_|refine wd t3 ?_|refine we t4 ?_ ?_|refine zaf.exit ?_|refine wd t2 ?_|exact wkc|intro hc|refine wk2 ?_ ?_|fail)
         refine rgX 3 (g:=False) [(.ref 2 5,0,1),(.sl 6 (xs.map exT) 3,0,1),(.ref 0 0,0,1),(.t (.ag [T.n noE.kind,T.n noE.op,T.n noE.t,T.n noE.v,T.s noE.name,T.sl 6 (noE.args.map exT)]),1,0),(.t (.sl 6 [.ag [T.n noE.kind,T.n noE.op,T.n noE.t,T.n noE.v,T.s noE.name,T.sl 6 (noE.args.map exT)]]),1,1),(.sl 6 ((xs.map exT)++[.ag [T.n noE.kind,T.n noE.op,T.n noE.t,T.n noE.v,T.s noE.name,T.sl 6 (noE.args.map exT)]]) 3,1,0),(.ref 2 5,0,2),(.t (.v undef),1,0)] [[rdB l n es (j5+1),exZ,cB s (xs.map exT),.tail ((xs.map exT)).length],[rdB l n es (j5+1),exZ,cB s (xs.map exT),.tail ((xs.map exT)).length],[rdB l n es (j5+1),exZ,cB s (xs.map exT),.tail (((xs.map exT)).length+1)],[rdB l n es (j5+1),exZ,cB s ((xs.map exT)++[.ag [T.n noE.kind,T.n noE.op,T.n noE.t,T.n noE.v,T.s noE.name,T.sl 6 (noE.args.map exT)]]),.tail (((xs.map exT)).length+1)]] ?_ (fun h=>h.elim)
         repeat' (first|refine wkt ?_|exact trivial|exact⟨⟨rfl,rfl⟩,trivial⟩|refine qak (fun env=>?_) ?_|refine qak ?_ ?_|refine we hx ?_ ?_|refine wk ?_|exact wkc|intro hc|refine wk2 ?_ ?_|fail)
         repeat' (first|refine zaf.panic ?_|refine wk ?_|fail)
         exact rdP hr.symm hc0
       | ok b k=>
         rw[hqg]at hx hin hr
         replace hx:=hx.ok
         obtain⟨hj3,hj4⟩:=hin
         simp only[PR.vl]at hx
         simp only[PR.bind]at hr
         rw[zal b]at hx
         unfold exC at hx
         subst hr
         refine wk ?_
         repeat' (first|refine wkt ?_|refine wd t3 ?_|refine we t4 ?_ ?_|refine zaf.exit ?_|refine wd t2 ?_|exact wkc|intro hc|refine wk2 ?_ ?_|fail)
         refine rgX 3 (g:=True) [(.ref 2 5,0,1),(.sl 6 (xs.map exT) 3,0,1),(.ref 0 0,0,1),(.t (.ag [T.n b.kind,T.n b.op,T.n b.t,T.n b.v,T.s b.name,T.sl 6 (b.args.map exT)]),1,0),(.t (.sl 6 [.ag [T.n b.kind,T.n b.op,T.n b.t,T.n b.v,T.s b.name,T.sl 6 (b.args.map exT)]]),1,1),(.sl 6 ((xs.map exT)++[.ag [T.n b.kind,T.n b.op,T.n b.t,T.n b.v,T.s b.name,T.sl 6 (b.args.map exT)]]) 3,1,0),(.ref 2 5,0,2),(.t (.v undef),1,0)] [[rdB l n es (j5+1),exZ,cB s (xs.map exT),.tail ((xs.map exT)).length],[rdB l n es k,exZ,cB s (xs.map exT),.tail ((xs.map exT)).length],[rdB l n es k,exZ,cB s (xs.map exT),.tail (((xs.map exT)).length+1)],[rdB l n es k,exZ,cB s ((xs.map exT)++[.ag [T.n b.kind,T.n b.op,T.n b.t,T.n b.v,T.s b.name,T.sl 6 (b.args.map exT)]]),.tail (((xs.map exT)).length+1)]] ?_ (fun _=>?_)
         ·repeat' (first|refine wkt ?_|exact trivial|exact⟨⟨rfl,rfl⟩,trivial⟩|refine qak (fun env=>?_) ?_|refine qak ?_ ?_|refine we hx ?_ ?_|refine wk ?_|exact wkc|intro hc|refine wk2 ?_ ?_|fail)
          done
         ·repeat' (first|refine wu ?_|exact wkc|intro hc|refine wk2 ?_ ?_|fail)
          exact zwbt
 | true=>
   have hlt:=zaj hw
   rw[zae]at hlt
   rw[hw,if_pos rfl]at t3
   cases m with
   | zero=>exfalso;omega
   | succ m=>
   rw[Rd.args,if_pos hw]at hr
   obtain⟨hx,hin⟩:=hF (j+1) (by omega) hlt
   cases hq:f (j+1) with
   | er k c=>
     rw[hq]at hx hin hr
     have hc0:=hin.2
     replace hx:=hx.er
     simp only[PR.vl]at hx
     simp only[PR.bind]at hr
     refine wk ?_
     repeat' (first|refine wkt ?_|refine wd t3 ?_|exact wkc|intro hc|refine wk2 ?_ ?_|fail)
     refine rgX 3 (g:=False) [(.ref 2 5,0,1),(.sl 6 (xs.map exT) 3,0,1),(.ref 0 0,0,1),(.t (.ag [T.n noE.kind,T.n noE.op,T.n noE.t,T.n noE.v,T.s noE.name,T.sl 6 (noE.args.map exT)]),1,0),(.t (.sl 6 [.ag [T.n noE.kind,T.n noE.op,T.n noE.t,T.n noE.v,T.s noE.name,T.sl 6 (noE.args.map exT)]]),1,1),(.sl 6 ((xs.map exT)++[.ag [T.n noE.kind,T.n noE.op,T.n noE.t,T.n noE.v,T.s noE.name,T.sl 6 (noE.args.map exT)]]) 3,1,0),(.ref 2 5,0,2),(.t (.v undef),1,0)] [[rdB l n es (j+1),exZ,cB s (xs.map exT),.tail ((xs.map exT)).length],[rdB l n es (j+1),exZ,cB s (xs.map exT),.tail ((xs.map exT)).length],[rdB l n es (j+1),exZ,cB s (xs.map exT),.tail (((xs.map exT)).length+1)],[rdB l n es (j+1),exZ,cB s ((xs.map exT)++[.ag [T.n noE.kind,T.n noE.op,T.n noE.t,T.n noE.v,T.s noE.name,T.sl 6 (noE.args.map exT)]]),.tail (((xs.map exT)).length+1)]] ?_ (fun h=>h.elim)
     repeat' (first|refine wkt ?_|exact trivial|exact⟨⟨rfl,rfl⟩,trivial⟩|refine qak (fun env=>?_) ?_|refine qak ?_ ?_|refine we hx ?_ ?_|refine wk ?_|exact wkc|intro hc|refine wk2 ?_ ?_|fail)
     repeat' (first|refine zaf.panic ?_|refine wk ?_|fail)
     exact rdP hr.symm hc0
   | ok b k=>
     rw[hq]at hx hin hr
     replace hx:=hx.ok
     obtain⟨hj3,hj4⟩:=hin
     simp only[PR.vl]at hx
     rw[show(PR.bind (PR.ok b k) fun b j=>(rdr l es).args f m (xs++[b]) j)=(rdr l es).args f m (xs++[b]) k from rfl]at hr
     rw[zal b]at hx
     unfold exC at hx
     refine wk ?_
     repeat' (first|refine wkt ?_|refine wd t3 ?_|exact wkc|intro hc|refine wk2 ?_ ?_|fail)
     refine rgX 3 (g:=True) [(.ref 2 5,0,1),(.sl 6 (xs.map exT) 3,0,1),(.ref 0 0,0,1),(.t (.ag [T.n b.kind,T.n b.op,T.n b.t,T.n b.v,T.s b.name,T.sl 6 (b.args.map exT)]),1,0),(.t (.sl 6 [.ag [T.n b.kind,T.n b.op,T.n b.t,T.n b.v,T.s b.name,T.sl 6 (b.args.map exT)]]),1,1),(.sl 6 ((xs.map exT)++[.ag [T.n b.kind,T.n b.op,T.n b.t,T.n b.v,T.s b.name,T.sl 6 (b.args.map exT)]]) 3,1,0),(.ref 2 5,0,2),(.t (.v undef),1,0)] [[rdB l n es (j+1),exZ,cB s (xs.map exT),.tail ((xs.map exT)).length],[rdB l n es k,exZ,cB s (xs.map exT),.tail ((xs.map exT)).length],[rdB l n es k,exZ,cB s (xs.map exT),.tail (((xs.map exT)).length+1)],[rdB l n es k,exZ,cB s ((xs.map exT)++[.ag [T.n b.kind,T.n b.op,T.n b.t,T.n b.v,T.s b.name,T.sl 6 (b.args.map exT)]]),.tail (((xs.map exT)).length+1)]] ?_ (fun _=>?_)
     ·repeat' (first|refine wkt ?_|exact trivial|exact⟨⟨rfl,rfl⟩,trivial⟩|refine qak (fun env=>?_) ?_|refine qak ?_ ?_|refine we hx ?_ ?_|refine wk ?_|exact wkc|intro hc|refine wk2 ?_ ?_|fail)
      done
     ·repeat' (first|refine wu ?_|exact wkc|intro hc|refine wk2 ?_ ?_|fail)
      refine zaf.next (m,k,xs++[b]) ⟨?_,hj4,?_,?_,hr⟩ ?_ ⟨rfl,rfl,rfl,trivial⟩ ?_
      ·show i≤k;omega
      ·show l.length-k≤m;omega
      ·show(xs++[b]).length≤k+1;rw[qal];simp only[qac,qai];omega
      ·show l.length-k<l.length-j;omega
      ·show _=[rdB l n es k,exZ,cB s ((xs++[b]).map exT),.tail ((xs++[b]).map exT).length]
       rw[qav,qag,qas,zal b,qal];rfl
end Go.Proofs.YtpfnfpaahefdaaaGreat
namespace Go.TL
open Go
section rules
variable {P:Program}{n:Nat}{env:Env}{H:Heap}{K:TK}{all:Array Oper}{rest:List Oper}{tab:Tab}{q:Bool}{d:Nat}{ty:TypeId}{pos:String}{aft:Array Edge}
theorem TO.zlE{ops:List Oper}(bid j0 sz id len:Nat){bs:List SV}{cs:List SV}{es:List T}{H':Heap}(hne:Nat.beq bid id=false)(hB:H[bid]?=some (.cells bs))(hj0:bs[j0]?=some (.ms sz id 0 len))(hH:H[id]?=some (.cells cs))(hcl:es.length*sz≤cs.length)(hcs:∀(j:Nat) c,((es.map T.cells).flatten.map SV.t)[j]?=some c->cs[j]?=some c)(hlen:len=es.length)(hsz:∀e∈es,e.cells.length=sz)
  (hpos:Nat.ble 1 sz=true)(hH':(H.set id .dead).set bid (.cells (bs.set j0 (.t (.sl sz es))))=H')(k:TO false P n all ops env H' K):TO false P n all ops env H K:=by
 intro φ m a h1 h2 h3 h4
 have hp':=qaf hpos
 subst hlen
 have hne':bid≠id:=fun h=>by subst h;simp at hne
 have hB1:m.H[bid]?=some (.cells bs):=by rw[h1];exact hB
 obtain⟨pb,hpb⟩:∃pb,m.β[bid]?=some pb:=⟨_,qab (by have:=(qaa.1 hB1).1;have:=h2.len;omega)⟩
 obtain⟨w1,w2,w3⟩:=h2.blk bid pb _ hpb hB1
 obtain⟨x,hx1,hx0,hx2⟩:=w3 j0 _ hj0
 obtain⟨l1,l2⟩:=zcv es hsz
 cases hx2 with
 | ms _ _ _ _ cap p hp hn hc hh=>
   have hH1:m.H[id]?=some (.cells cs):=by rw[h1];exact hH
   obtain⟨b1,b2,b3⟩:=h2.blk id p _ hp hH1
   have hex:∀j,∃y,j<cs.length->m.w.cell? ⟨p.b,p.lo+j,none⟩=some y/\y.oneCell'=true/\∀c,cs[j]?=some c->SRel m c y:=by
    intro j
    by_cases hj:j<cs.length
    ·obtain⟨y,hy1,hy0,hy2⟩:=b3 j cs[j] (qab hj)
     exact⟨y,fun _=>⟨hy1,hy0,fun c hc=>by rw[qab hj]at hc;cases hc;exact hy2⟩⟩
    ·exact⟨undef,fun h=>absurd h hj⟩
   let f:Nat->Value:=fun j=>Classical.choose (hex j)
   have hf:=fun j=>Classical.choose_spec (hex j)
   obtain⟨s,hm'⟩:=zlR h2 (k1:=.dead) (p':=p) (A':=fun b o=>m.A b o\/(b=p.b/\p.lo≤o/\o<p.lo+cs.length)) (w':=m.w) hp hH1 rfl rfl rfl rfl (qae _) (fun _ _ _ _=>rfl) (fun _ _ _ _ _=>rfl) (fun _ _ _=>rfl) (fun _ _ _ h=>h) (fun _ _ h=>h)
    (fun _ _ h=>.inl h) (fun b o h=>by
      rcases h with h|h
      ·exact .inl h
      ·exact .inr (.inl (by omega))) (fun h=>by cases h) (fun h=>by cases h) (fun o q1 q2=>(b2 o q1 q2).1) ⟨rfl,fun n'=>by simp[tlOf]⟩ (fun _=>trivial)
   have hlt:∀q j,q<es.length->j<sz->q*sz+j<cs.length:=fun q j hq hj=>by
    exact zwec
   have hr:SRel ⟨fun b o=>m.A b o\/(b=p.b/\p.lo≤o/\o<p.lo+cs.length),m.β.set id p,m.H.set id .dead,m.w⟩ (.t (.sl sz es)) (.slice (some ⟨p.b,p.lo+0,none⟩) es.length cap):=by
    refine .t _ _ (.sl sz es p.b (p.lo+0) cap f hc (fun j e he=>hsz e (qay he)) (fun q j hq hj=>.inr ⟨rfl,by omega,by have:=hlt q j hq hj;omega⟩) (fun q j hq hj=>(hf _ (hlt q j hq hj)).1) (fun q j hq hj=>(hf _ (hlt q j hq hj)).2.1) (fun q e j c he hc'=>?_))
    have hq:=(qaa.1 he).1
    have hj:=(qaa.1 hc').1
    rw[hsz e (qay he)]at hj
    have hcc:cs[q*sz+j]?=some (.t c):=hcs _ _ (by rw[qar,l2 q j e c he hc'];rfl)
    have:=(hf _ (hlt q j hq hj)).2.2 _ hcc
    cases this with
    | t _ _ h=>exact s.trel h2 h
   have hB2:(m.H.set id .dead)[bid]?=some (.cells bs):=by rw[qau (fun h=>hne' h.symm)];exact hB1
   have hpb2:(m.β.set id p)[bid]?=some pb:=by rw[qau (fun h=>hne' h.symm)];exact hpb
   have hjl:=(qaa.1 hj0).1
   obtain⟨s2,hm2⟩:=upd hm' (cs':=bs.set j0 (.t (.sl sz es))) (w':=m.w) hpb2 hB2 rfl rfl rfl rfl (fun _ _=>rfl) (fun _ _=>rfl) (fun _=>rfl) (fun _=>rfl) (fun _ h=>h) (by rw[qbp];exact w1) (by omega) (fun j c hc=>by
    by_cases hj:j=j0
    ·subst hj
     rw[qao hjl]at hc
     cases hc
     exact⟨_,hx1,hx0,hr⟩
    ·rw[qau (fun h=>hj h.symm)]at hc
     obtain⟨y,y1,y2,y3⟩:=w3 j c hc
     exact⟨y,y1,y2,s.srel h2 y3⟩)
   have st:=s.trans s2
   exact TO.ze5 (m':=⟨fun b o=>m.A b o\/(b=p.b/\p.lo≤o/\o<p.lo+cs.length),m.β.set id p,(m.H.set id .dead).set bid (.cells (bs.set j0 (.t (.sl sz es)))),m.w⟩) st (k φ ⟨fun b o=>m.A b o\/(b=p.b/\p.lo≤o/\o<p.lo+cs.length),m.β.set id p,(m.H.set id .dead).set bid (.cells (bs.set j0 (.t (.sl sz es)))),m.w⟩ a (by show _=H';rw[<-hH',h1]) hm2 (h3.step h2 st) (h4.step h2 st))
end rules
end Go.TL
