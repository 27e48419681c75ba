import Derived.WideLaws
import Derived.Test.YtpfnfpaahefdaaaGreatPk23
set_option linter.all false
namespace Go.TL
open Go
section rules
variable {P:Program}{n:Nat}{env:Env}{H:Heap}{K:TK}{all:Array Oper}{rest:List Oper}{q:Bool}{d:Nat}{ty:TypeId}{pos:String}{aft:Array Edge}
theorem TO.zhb{t t' u:TypeId}{x:Operand}{s:SV}(hd:Nat.ble (d+1) n=true)(hx:env.val x=some (.ifc u s))(ht:P.underlying t=some (.interface (P.methodsAt t)))
  (k:TO q P n all rest ((d,.t (.v (.bool true)))::env) H K):TO q P n all (⟨some d,.binOp .neq t x (.const .nilIface) t',ty,pos,aft,none⟩::rest) env H K:=
 TO.op hd (fun m ac h1 h2 h3=>⟨.bool true,fun w' hw'=>by
  have h:=h3.val hx
  generalize hq:ac.eval x=z at h
  cases h with
  | ifc _ _ y hy=>simp[execOp,eval_const,hq,eqGuard,run_neq_held_nil w' t u y ht],.t _ _ (.v _)⟩) k
theorem TO.zgl{t t':TypeId}{x:Operand}(hd:Nat.ble (d+1) n=true)(hx:env.val x=some (.t (.v .nilIface)))(ht:P.underlying t=some (.interface (P.methodsAt t)))
  (k:TO q P n all rest ((d,.t (.v (.bool false)))::env) H K):TO q P n all (⟨some d,.binOp .neq t x (.const .nilIface) t',ty,pos,aft,none⟩::rest) env H K:=
 TO.op hd (fun m ac h1 h2 h3=>⟨.bool false,fun w' hw'=>by
  simp[execOp,eval_const,(h3.val hx).v_eq,eqGuard,run_neq_nil_nil w' t ht],.t _ _ (.v _)⟩) k
end rules
end Go.TL
namespace Go.Proofs.YtpfnfpaahefdaaaGreat
open Go Go.TL
attribute [local irreducible] TR TO Then zab RetK Sound zac Kf GG za2
theorem zf6(l:List Tok)(n:Int)(es:List En)(hk:TkOk l)(hes:EsOk es)(i:Nat)(hi:i≤l.length):ExR l n es 34 [] i ((rdr l es).expr i)/\InR l.length (i+1) ((rdr l es).expr i):=by
 have h:=zdy (R:=rdr l es) (10*(rdr l es).K.length+10) .expr (i:=i) (by rw[zaf];exact hi)
 rw[zaf]at h
 refine⟨?_,by unfold Rd.expr;rw[zaf];exact h⟩
 unfold Rd.expr
 rw[zaf]
 exact zol l n es hk hes (ziI l n es hk hes) (zjk l n es hk.len) (10*l.length+10) .expr i hi (by show 10*(l.length-i)+9<_;omega)
theorem zfk(l:List Tok)(n:Int)(es:List En)(i:Nat)(hl:l.length≤1000000)(hi:i≤l.length):RdS l n es 18 [] i (if i<l.length then .er i 5 else .ok () i:PR Unit) (.tup []):=by
 have hml:(l.map tokT).length=l.length:=qad _
 have hf:=zbi l n es i i 5 (by decide) hl
 generalize hr:(if i<l.length then .er i 5 else .ok () i:PR Unit)=r
 refine Sound.err rfl (fun _=>rfl) ?_
 by_cases hlt:i<l.length
 ·rw[if_pos hlt]at hr
  refine so Tryz.func18 ?_
  repeat' (first|refine wu ?_|exact wkc|intro hc|refine wk2 ?_ ?_|refine we hf ?_ ?_|fail)
  exact rdP hr.symm (by decide)
 ·rw[if_neg hlt]at hr
  refine so Tryz.func18 ?_
  repeat' (first|refine wu ?_|exact wkc|intro hc|refine wk2 ?_ ?_|refine we hf ?_ ?_|fail)
  exact rdN (vs:=[]) hr.symm rfl (Le.refl _) rfl rfl rfl
theorem zfg(a c:Int):Pure Tryz.prog 16 [.ifc 98 (.t (.ag [T.i a,T.i c]))] (.tup [.i a,.i c]):=by
 refine so Tryz.func16 ?_
 repeat' (first|refine wkt ?_|refine wka ?_|refine wk ?_|exact wkc|intro hc|refine wk2 ?_ ?_|(apply TO.zic zaa;(iterate 4 exact rfl))|refine zqo ?_|fail)
 exact wkr
theorem znP(s:Str)(es:List En)(hs:(scan s).2.2=0)(hb:s.length≤1000000):Sound Tryz.prog 14 [.s s,.t (ensT es)] [] (fun r H'=>r= .ret (.tup [.ref 0 0,.i 0,.i 0])/\H'=[rdB (scan s).1 s.length es 0]):=by
 exact zwd
theorem zkf(s:Str)(es:List En)(hs:(scan s).2.2≠0):Pure Tryz.prog 14 [.s s,.t (ensT es)] (.tup [.t (.v (.pointer none)),.i (scan s).2.1,.i (scan s).2.2]):=by
 have h:=ze5 s
 generalize scan s=x at*
 obtain⟨x1,x2,x3⟩:=x
 simp only at hs h
 refine so Tryz.func14 ?_
 repeat' (first|refine wkt ?_|refine wka ?_|refine wk ?_|exact wkc|intro hc|refine wk2 ?_ ?_|refine wv h ?_|fail)
 all_goals first
  | exact wkr
  | (exfalso;omega)
end Go.Proofs.YtpfnfpaahefdaaaGreat
namespace Go.Proofs.YtpfnfpaahefdaaaGreat
open Go Go.TL
attribute [local irreducible] TR TO Then zab RetK Sound zac Kf GG za2
theorem zeX(l:List Tok)(n:Int)(es:List En)(i:Nat)(hk:TkOk l)(hes:EsOk es)(hi:i≤l.length):ExR l n es 34 [] i ((rdr l es).expr i)/\InR l.length (i+1) ((rdr l es).expr i):=zf6 l n es hk hes i hi
abbrev eqZ:Blk:=.cells [.t (.v (.slice none 0 0)),.t (.v (.int .i64 0)),.t (.v (.int .i64 0)),.t (.v (.int .i64 0)),.t (.v (.int .i64 0)),.t (.v (str [])),.t (.v (.slice none 0 0))]
abbrev eqB (x:SV):Blk:=.cells [x,.t (.v (.int .i64 0)),.t (.v (.int .i64 0)),.t (.v (.int .i64 0)),.t (.v (.int .i64 0)),.t (.v (str [])),.t (.v (.slice none 0 0))]
def Rd.eqR(R:Rd)(f:Nat->PR Ex)(ys:List Str)(i:Nat):PR Equ:=(R.must [[61]] i).bind fun _ j=>(f j).bind fun e j=>(R.must [[59]] j).bind fun _ j=>.ok ⟨ys,e⟩ j
abbrev noQ:Equ:=⟨[],noE⟩
set_option maxHeartbeats 16000000 in
theorem zgQ (l:List Tok) (n:Int) (es:List En) (i:Nat) (hk:TkOk l) (hes:EsOk es) (hi:i≤l.length):RdS l n es 89 [] i ((rdr l es).equation (rdr l es).expr i) (.t (equT (((rdr l es).equation (rdr l es).expr i).vl noQ))):=by
 have hl:=hk.len
 generalize hr:(rdr l es).equation (rdr l es).expr i=r
 replace hr:((rdr l es).left i).bind ((rdr l es).eqR (rdr l es).expr)=r:=hr
 unfold Rd.left at hr
 refine Sound.err rfl (fun _=>rfl) ?_
 refine so Tryz.func89 ?_
 repeat' (first|refine wkb ?_|refine zqn ?_|refine wk ?_|exact wkc|intro hc|refine wk2 ?_ ?_|fail)
 have t0:=zal l n es i [40] hl hi
 cases h0:(rdr l es).isAt i [40] with
 | true=>
   have hlth0:=zam h0
   rw[zaf]at hlth0
   rw[h0,if_pos rfl]at t0
   rw[if_pos h0]at hr
   refine TO.zbM 1 2 0 rfl rfl rfl ?_
   repeat' (first|refine wkt ?_|refine zqn ?_|refine wd t0 ?_|exact wkc|intro hc|refine wk2 ?_ ?_|fail)
   clear t0
   refine TR.zbd (ι:=Nat×Nat×List Str) (fun x=>i≤x.2.1/\x.2.1≤l.length/\l.length-x.2.1<x.1/\x.2.2.length≤x.2.1/\((((rdr l es).names 64 [44] x.1 x.2.2 x.2.1).bind fun l2 j=>((rdr l es).must [[41]] j).bind fun _ j=>.ok l2 j:PR (List Str)).bind ((rdr l es).eqR (rdr l es).expr))=r) (fun x=>l.length-x.2.1) (fun _=>[(0,.ref 0 0),(3,.ref 2 0),(2,.ref 1 0)]) (fun x=>[rdB l n es x.2.1,eqZ,eqB (.sl 1 (x.2.2.map T.s) 3),.tail (x.2.2.map T.s).length]) ((rdr l es).K.length+1,(i+1),[])
    ⟨by show i≤(i+1);omega,hlth0,by rw[zaf];show l.length-(i+1)<l.length+1;omega,by show 0≤(i+1);omega,hr⟩ ⟨rfl,rfl,rfl,trivial⟩ rfl ?_
   clear hr
   rintro⟨m,j,xs⟩ ⟨q1,q2,q3,q4,hr⟩
   replace q1:i≤j:=q1
   replace q2:j≤l.length:=q2
   replace q3:l.length-j<m:=q3
   replace q4:xs.length≤j:=q4
   replace hr:((((rdr l es).names 64 [44] m xs j).bind fun l2 j=>((rdr l es).must [[41]] j).bind fun _ j=>.ok l2 j:PR (List Str)).bind ((rdr l es).eqR (rdr l es).expr))=r:=hr
   have hml:(xs.map T.s).length=xs.length:=qad _
   cases m with
   | zero=>exfalso;omega
   | succ m=>
   rw[Rd.names,Rd.zgS]at hr
   have t1:=zaK l n es j 1 hl
   cases h1:(rdr l es).kind j 1 with
   | true=>
     have hlth1:=zcu h1
     rw[zaf]at hlth1
     rw[h1]at t1
     rw[if_pos h1]at hr
     refine wk ?_
     repeat' (first|refine wkt ?_|refine zqn ?_|refine wd t1 ?_|exact wkc|intro hc|refine wk2 ?_ ?_|fail)
     obtain⟨m3,m3i⟩:=limC l n es j (xs.map T.s).length xs.length 64 hl q2 hml
     cases qm3:limR xs.length 64 j with
     | er ke c=>
       rw[qm3]at m3 m3i hr
       have hc0:=m3i.2
       replace m3:=m3.er
       try simp only[PR.vl]at m3
       simp only[PR.bind]at hr
       repeat' (first|refine wkt ?_|refine zqn ?_|refine we m3 ?_ ?_|exact wkc|intro hc|refine wk2 ?_ ?_|fail)
       repeat' (first|refine zac.panic ?_|refine wk ?_|fail)
       exact rdP hr.symm hc0
     | ok u3 j3=>
     rw[qm3]at m3 m3i hr
     obtain⟨m3a,m3b⟩:=m3i
     replace m3:=m3.ok
     try simp only[PR.vl]at m3
     simp only[PR.bind]at hr
     obtain⟨hlt4,rfl⟩:=zbh qm3
     repeat' (first|refine wkt ?_|refine zqn ?_|refine we m3 ?_ ?_|exact wkc|intro hc|refine wk2 ?_ ?_|fail)
     obtain⟨m4,m4i⟩:=idC l n es j3 hl q2
     cases qm4:(rdr l es).id j3 with
     | er ke c=>
       rw[qm4]at m4 m4i hr
       have hc0:=m4i.2
       replace m4:=m4.er
       try simp only[PR.vl]at m4
       simp only[PR.bind]at hr
       refine rgX 3 (g:=False) [(.ref 2 0,0,1),(.sl 1 (xs.map T.s) 3,0,1),(.ref 0 0,0,1),(.t (T.s []),1,0),(.t (.sl 1 [T.s []]),1,1),(.sl 1 ((xs.map T.s)++[T.s []]) 3,1,0),(.ref 2 0,0,2),(.t (.v undef),1,0)] [[rdB l n es j3,eqZ,eqB (.sl 1 (xs.map T.s) 3),.tail ((xs.map T.s)).length],[rdB l n es j3,eqZ,eqB (.sl 1 (xs.map T.s) 3),.tail ((xs.map T.s)).length],[rdB l n es j3,eqZ,eqB (.sl 1 (xs.map T.s) 3),.tail (((xs.map T.s)).length+1)],[rdB l n es j3,eqZ,eqB (.sl 1 ((xs.map T.s)++[T.s []]) 3),.tail (((xs.map T.s)).length+1)]] ?_ (fun h=>h.elim)
       repeat' (first|refine wkt ?_|exact trivial|exact⟨⟨rfl,rfl⟩,trivial⟩|refine qai (fun env=>?_) ?_|refine qai ?_ ?_|refine we m4 ?_ ?_|refine wk ?_|exact wkc|intro hc|refine wk2 ?_ ?_|fail)
       repeat' (first|refine zac.panic ?_|refine wk ?_|fail)
       exact rdP hr.symm hc0
     | ok o k=>
     rw[qm4]at m4 m4i hr
     obtain⟨m4a,m4b⟩:=m4i
     replace m4:=m4.ok
     try simp only[PR.vl]at m4
     simp only[PR.bind]at hr
     refine rgX 3 (g:=True) [(.ref 2 0,0,1),(.sl 1 (xs.map T.s) 3,0,1),(.ref 0 0,0,1),(.t (T.s o),1,0),(.t (.sl 1 [T.s o]),1,1),(.sl 1 ((xs.map T.s)++[T.s o]) 3,1,0),(.ref 2 0,0,2),(.t (.v undef),1,0)] [[rdB l n es j3,eqZ,eqB (.sl 1 (xs.map T.s) 3),.tail ((xs.map T.s)).length],[rdB l n es k,eqZ,eqB (.sl 1 (xs.map T.s) 3),.tail ((xs.map T.s)).length],[rdB l n es k,eqZ,eqB (.sl 1 (xs.map T.s) 3),.tail (((xs.map T.s)).length+1)],[rdB l n es k,eqZ,eqB (.sl 1 ((xs.map T.s)++[T.s o]) 3),.tail (((xs.map T.s)).length+1)]] ?_ (fun _=>?_)
     ·repeat' (first|refine wkt ?_|exact trivial|exact⟨⟨rfl,rfl⟩,trivial⟩|refine qai (fun env=>?_) ?_|refine qai ?_ ?_|refine we m4 ?_ ?_|refine wk ?_|exact wkc|intro hc|refine wk2 ?_ ?_|fail)
      done
     have t2:=zal l n es k [44] hl m4b
     cases h2:(rdr l es).isAt k [44] with
     | true=>
       have hlth2:=zam h2
       rw[zaf]at hlth2
       rw[h2,if_pos rfl]at t2
       rw[if_pos h2]at hr
       refine wk ?_
       repeat' (first|refine wkt ?_|refine zqn ?_|refine wd t2 ?_|exact wkc|intro hc|refine wk2 ?_ ?_|fail)
       refine zac.next (m,k+1,xs++[o]) ⟨?_,hlth2,?_,?_,hr⟩ ?_ ⟨rfl,rfl,rfl,trivial⟩ ?_
       ·show i≤k+1;omega
       ·show l.length-(k+1)<m;omega
       ·exact zwdt
       ·show l.length-(k+1)<l.length-j3;omega
       ·show _=[rdB l n es (k+1:Nat),eqZ,eqB (.sl 1 ((xs++[o]).map T.s) 3),.tail ((xs++[o]).map T.s).length]
        exact zwfj
     | false=>
     rw[h2,if_neg (by decide)]at t2
     rw[if_neg (by rw[h2];decide)]at hr
     simp only[PR.bind]at hr
     have hmo:(xs.map T.s++[T.s o])=(xs++[o]).map T.s:=by rw[qav];rfl
     have hxo:(xs++[o]).length≤k:=by rw[qal];simp only[qac,qaf];omega
     refine wk ?_
     repeat' (first|refine wkt ?_|refine zqn ?_|refine wd t2 ?_|refine zac.exit ?_|exact wkc|intro hc|refine wk2 ?_ ?_|fail)
     rw[hmo]
     generalize xs++[o]=ys at*
     clear hmo t1 m3 t2
     obtain⟨m6,m6i⟩:=zbr l n es k [[41]] hl m4b (by decide)
     cases qm6:(rdr l es).must [[41]] k with
     | er ke c=>
       rw[qm6]at m6 m6i hr
       have hc0:=m6i.2
       replace m6:=m6.er
       try simp only[PR.vl]at m6
       simp only[PR.bind]at hr
       repeat' (first|refine wkt ?_|refine zqn ?_|refine we m6 ?_ ?_|exact wkc|intro hc|refine wk2 ?_ ?_|fail)
       repeat' (first|refine zac.panic ?_|refine wk ?_|fail)
       exact rdP hr.symm hc0
     | ok u6 j6=>
     rw[qm6]at m6 m6i hr
     obtain⟨m6a,m6b⟩:=m6i
     replace m6:=m6.ok
     try simp only[PR.vl]at m6
     simp only[PR.bind]at hr
     repeat' (first|refine wkt ?_|refine zqn ?_|refine we m6 ?_ ?_|exact wkc|intro hc|refine wk2 ?_ ?_|fail)
     unfold Rd.eqR at hr
     obtain⟨k1,k1i⟩:=zbr l n es j6 [[61]] hl m6b (by decide)
     cases qk1:(rdr l es).must [[61]] j6 with
     | er ke c=>
       rw[qk1]at k1 k1i hr
       have hc0:=k1i.2
       replace k1:=k1.er
       try simp only[PR.vl]at k1
       simp only[PR.bind]at hr
       repeat' (first|refine wkt ?_|refine zqn ?_|refine we k1 ?_ ?_|exact wkc|intro hc|refine wk2 ?_ ?_|fail)
       repeat' (first|refine zac.panic ?_|refine wk ?_|fail)
       exact rdP hr.symm hc0
     | ok u1 j1=>
     rw[qk1]at k1 k1i hr
     obtain⟨k1a,k1b⟩:=k1i
     replace k1:=k1.ok
     try simp only[PR.vl]at k1
     simp only[PR.bind]at hr
     repeat' (first|refine wkt ?_|refine zqn ?_|refine we k1 ?_ ?_|exact wkc|intro hc|refine wk2 ?_ ?_|fail)
     obtain⟨k2,k2i⟩:=zeX l n es j1 hk hes k1b
     cases qk2:(rdr l es).expr j1 with
     | er ke c=>
       rw[qk2]at k2 k2i hr
       have hc0:=k2i.2
       replace k2:=k2.er
       try simp only[PR.vl]at k2
       simp only[PR.bind]at hr
       repeat' (first|refine wkt ?_|refine zqn ?_|refine we k2 ?_ ?_|exact wkc|intro hc|refine wk2 ?_ ?_|fail)
       repeat' (first|refine zac.panic ?_|refine wk ?_|fail)
       exact rdP hr.symm hc0
     | ok e j2=>
     rw[qk2]at k2 k2i hr
     obtain⟨k2a,k2b⟩:=k2i
     replace k2:=k2.ok
     try simp only[PR.vl]at k2
     simp only[PR.bind]at hr
     rw[zao e]at k2
     unfold exC at k2
     repeat' (first|refine wkt ?_|refine zqn ?_|refine we k2 ?_ ?_|exact wkc|intro hc|refine wk2 ?_ ?_|fail)
     obtain⟨k3,k3i⟩:=zbr l n es j2 [[59]] hl k2b (by decide)
     cases qk3:(rdr l es).must [[59]] j2 with
     | er ke c=>
       rw[qk3]at k3 k3i hr
       have hc0:=k3i.2
       replace k3:=k3.er
       try simp only[PR.vl]at k3
       simp only[PR.bind]at hr
       repeat' (first|refine wkt ?_|refine zqn ?_|refine we k3 ?_ ?_|exact wkc|intro hc|refine wk2 ?_ ?_|fail)
       repeat' (first|refine zac.panic ?_|refine wk ?_|fail)
       exact rdP hr.symm hc0
     | ok u3 j3=>
     rw[qk3]at k3 k3i hr
     obtain⟨k3a,k3b⟩:=k3i
     replace k3:=k3.ok
     try simp only[PR.vl]at k3
     simp only[PR.bind]at hr
     subst hr
     repeat' (first|refine wkt ?_|refine zqn ?_|refine we k3 ?_ ?_|exact wkc|intro hc|refine wk2 ?_ ?_|fail)
     apply rdV rfl
     ·exact rfl
     ·rw[vlE]
      show Le _ (.t (.ag (.sl 1 (ys.map T.s)::exC e)))
      unfold exC
      exact zqa
     all_goals exact rfl
   | false=>
   rw[h1]at t1
   have hid:(rdr l es).id j= .er j 5:=by unfold Rd.id;rw[h1];rfl
   have m4:=(idC l n es j hl q2).1
   rw[hid]at m4 hr
   have hc0:(5:Int)≠0:=by decide
   replace m4:=m4.er
   simp only[PR.vl]at m4
   rw[h1,if_neg (by decide)]at hr
   simp only[PR.bind]at hr
   refine wk ?_
   repeat' (first|refine wkt ?_|refine zqn ?_|refine wd t1 ?_|exact wkc|intro hc|refine wk2 ?_ ?_|fail)
   refine rgX 3 (g:=False) [(.ref 2 0,0,1),(.sl 1 (xs.map T.s) 3,0,1),(.ref 0 0,0,1),(.t (T.s []),1,0),(.t (.sl 1 [T.s []]),1,1),(.sl 1 ((xs.map T.s)++[T.s []]) 3,1,0),(.ref 2 0,0,2),(.t (.v undef),1,0)] [[rdB l n es j,eqZ,eqB (.sl 1 (xs.map T.s) 3),.tail ((xs.map T.s)).length],[rdB l n es j,eqZ,eqB (.sl 1 (xs.map T.s) 3),.tail ((xs.map T.s)).length],[rdB l n es j,eqZ,eqB (.sl 1 (xs.map T.s) 3),.tail (((xs.map T.s)).length+1)],[rdB l n es j,eqZ,eqB (.sl 1 ((xs.map T.s)++[T.s []]) 3),.tail (((xs.map T.s)).length+1)]] ?_ (fun h=>h.elim)
   repeat' (first|refine wkt ?_|exact trivial|exact⟨⟨rfl,rfl⟩,trivial⟩|refine qai (fun env=>?_) ?_|refine qai ?_ ?_|refine we m4 ?_ ?_|refine wk ?_|exact wkc|intro hc|refine wk2 ?_ ?_|fail)
   repeat' (first|refine zac.panic ?_|refine wk ?_|fail)
   exact rdP hr.symm hc0
 | false=>
 rw[h0,if_neg (by decide)]at t0
 rw[if_neg (by rw[h0];decide)]at hr
 repeat' (first|refine wkt ?_|refine zqn ?_|refine wd t0 ?_|exact wkc|intro hc|refine wk2 ?_ ?_|fail)
 clear t0
 obtain⟨m5,m5i⟩:=idC l n es i hl hi
 cases qm5:(rdr l es).id i with
 | er ke c=>
   rw[qm5]at m5 m5i hr
   have hc0:=m5i.2
   replace m5:=m5.er
   try simp only[PR.vl]at m5
   simp only[PR.bind]at hr
   repeat' (first|refine wkt ?_|refine zqn ?_|refine we m5 ?_ ?_|exact wkc|intro hc|refine wk2 ?_ ?_|fail)
   repeat' (first|refine zac.panic ?_|refine wk ?_|fail)
   exact rdP hr.symm hc0
 | ok s j5=>
 rw[qm5]at m5 m5i hr
 obtain⟨m5a,m5b⟩:=m5i
 replace m5:=m5.ok
 try simp only[PR.vl]at m5
 simp only[PR.bind]at hr
 repeat' (first|refine wkt ?_|refine zqn ?_|refine we m5 ?_ ?_|exact wkc|intro hc|refine wk2 ?_ ?_|fail)
 obtain⟨ys,hys⟩:∃ys:List Str,ys=[s]:=⟨_,rfl⟩
 rw[<-hys]at hr
 unfold Rd.eqR at hr
 obtain⟨k1,k1i⟩:=zbr l n es j5 [[61]] hl m5b (by decide)
 cases qk1:(rdr l es).must [[61]] j5 with
 | er ke c=>
   rw[qk1]at k1 k1i hr
   have hc0:=k1i.2
   replace k1:=k1.er
   try simp only[PR.vl]at k1
   simp only[PR.bind]at hr
   repeat' (first|refine wkt ?_|refine zqn ?_|refine we k1 ?_ ?_|exact wkc|intro hc|refine wk2 ?_ ?_|fail)
   repeat' (first|refine zac.panic ?_|refine wk ?_|fail)
   exact rdP hr.symm hc0
 | ok u1 j1=>
 rw[qk1]at k1 k1i hr
 obtain⟨k1a,k1b⟩:=k1i
 replace k1:=k1.ok
 try simp only[PR.vl]at k1
 simp only[PR.bind]at hr
 repeat' (first|refine wkt ?_|refine zqn ?_|refine we k1 ?_ ?_|exact wkc|intro hc|refine wk2 ?_ ?_|fail)
 obtain⟨k2,k2i⟩:=zeX l n es j1 hk hes k1b
 cases qk2:(rdr l es).expr j1 with
 | er ke c=>
   rw[qk2]at k2 k2i hr
   have hc0:=k2i.2
   replace k2:=k2.er
   try simp only[PR.vl]at k2
   simp only[PR.bind]at hr
   repeat' (first|refine wkt ?_|refine zqn ?_|refine we k2 ?_ ?_|exact wkc|intro hc|refine wk2 ?_ ?_|fail)
   repeat' (first|refine zac.panic ?_|refine wk ?_|fail)
   exact rdP hr.symm hc0
 | ok e j2=>
 rw[qk2]at k2 k2i hr
 obtain⟨k2a,k2b⟩:=k2i
 replace k2:=k2.ok
 try simp only[PR.vl]at k2
 simp only[PR.bind]at hr
 rw[zao e]at k2
 unfold exC at k2
 repeat' (first|refine wkt ?_|refine zqn ?_|refine we k2 ?_ ?_|exact wkc|intro hc|refine wk2 ?_ ?_|fail)
 obtain⟨k3,k3i⟩:=zbr l n es j2 [[59]] hl k2b (by decide)
 cases qk3:(rdr l es).must [[59]] j2 with
 | er ke c=>
   rw[qk3]at k3 k3i hr
   have hc0:=k3i.2
   replace k3:=k3.er
   try simp only[PR.vl]at k3
   simp only[PR.bind]at hr
   repeat' (first|refine wkt ?_|refine zqn ?_|refine we k3 ?_ ?_|exact wkc|intro hc|refine wk2 ?_ ?_|fail)
   repeat' (first|refine zac.panic ?_|refine wk ?_|fail)
   exact rdP hr.symm hc0
 | ok u3 j3=>
 rw[qk3]at k3 k3i hr
 obtain⟨k3a,k3b⟩:=k3i
 replace k3:=k3.ok
 try simp only[PR.vl]at k3
 simp only[PR.bind]at hr
 subst hr
 repeat' (first|refine wkt ?_|refine zqn ?_|refine we k3 ?_ ?_|exact wkc|intro hc|refine wk2 ?_ ?_|fail)
 apply rdV rfl
 ·exact rfl
 ·rw[vlE]
  subst hys
  show Le _ (.t (.ag (.sl 1 [.s s]::exC e)))
  unfold exC
  exact zqa
 all_goals exact rfl
theorem ziq(l:List Tok)(n:Int)(es:List En)(i:Nat)(hk:TkOk l)(hes:EsOk es)(hi:i≤l.length):RdS l n es 89 [] i ((rdr l es).equation (rdr l es).expr i) (.t (equT (((rdr l es).equation (rdr l es).expr i).vl noQ)))/\InR l.length (i+1) ((rdr l es).equation (rdr l es).expr i):=by
 have h:=zf5 (R:=rdr l es) (f:=(rdr l es).expr) (fun j hj=>by rw[zaf]at hj⊢;exact(zeX l n es j hk hes hj).2) (i:=i) (by rw[zaf];exact hi)
 rw[zaf]at h
 exact⟨zgQ l n es i hk hes hi,h⟩
end Go.Proofs.YtpfnfpaahefdaaaGreat
namespace Go.TL
open Go
theorem zpD{m:M}(hm:HRel m)(id:Nat)(ht:tlOf m.H[id]?=none):Step m ⟨m.A,m.β,m.H.set id .dead,m.w⟩/\HRel ⟨m.A,m.β,m.H.set id .dead,m.w⟩:=by
 have pick:∀(i:Nat) k,(m.H.set id .dead)[i]?=some k->k.live=true->m.H[i]?=some k/\i≠id:=by
  intro i k h hl
  by_cases hi:i=id
  ·subst hi
   have:=(qaa.1 h).1
   rw[qap (by simpa using this)]at h
   cases h;cases hl
  ·rw[qau (by omega)]at h
   exact⟨h,hi⟩
 have own:∀b o,Own ⟨m.A,m.β,m.H.set id .dead,m.w⟩ b o->Own m b o:=by
  rintro b o ⟨i,p,k,h1,h2,h3,h4⟩
  exact⟨i,p,k,h1,(pick i k h2 h3).1,h3,h4⟩
 have s:Step m ⟨m.A,m.β,m.H.set id .dead,m.w⟩:=by
  refine⟨rfl,rfl,rfl,qae _,fun _ _ h=>h,fun _ _ h=>.inl h,fun b o h=>.inl (own b o h),fun _ _ _ _=>rfl,fun _ _ _ _ _=>rfl,fun _ _ _=>rfl,fun _ _ h=>h,fun _ L h=>⟨L,h⟩,fun _ _ _ h=>h,fun i q hq=>⟨q,hq,?_⟩⟩
  show zaY m.H[i]? (m.H.set id .dead)[i]? q q
  by_cases hi:i=id
  ·subst hi
   unfold zaY
   rw[ht]
   refine⟨rfl,fun n'=>?_⟩
   by_cases hl:i<m.H.length
   ·rw[qap hl];simp[tlOf]
   ·rw[qaG (by simpa using hl)];simp[tlOf]
  ·rw[qau (by omega)]
   exact zaY.refl _ _
 refine⟨s,by simp[hm.len],fun i p k h1 h2=>?_,fun i j p q k l hij h1 h2 h3 h4 hk hl=>?_,fun b o h hn=>hm.still b o h (own b o hn),hm.inA,fun i p k h1 h2 hk hq=>?_,s.glob hm⟩
 ·cases hlv:k.live with
  | false=>cases k <;> simp[Blk.live]at hlv;trivial
  | true=>exact(hm.blk i p k h1 (pick i k h2 hlv).1).step hm s (fun o _ _=>⟨rfl,fun _=>rfl⟩) (fun _=>rfl)
 ·exact hm.apart i j p q k l hij h1 (pick i k h2 hk).1 h3 (pick j l h4 hl).1 hk hl
 ·exact hm.inO i p k h1 (pick i k h2 hk).1 hk hq
theorem zpK{m:M}(hm:HRel m){R:Nat}{cs:List SV}{p:Place}(hp:m.β[R]?=some p)(hH:m.H[R]?=some (.cells cs)):
  Step m ⟨m.A,m.β++[p],m.H.set R .dead++[.cells cs],m.w⟩/\HRel ⟨m.A,m.β++[p],m.H.set R .dead++[.cells cs],m.w⟩:=by
 have hR:=(qaa.1 hH).1
 have hlen:=hm.len
 have pick:∀(i:Nat) q c,(m.β++[p])[i]?=some q->(m.H.set R .dead++[Blk.cells cs])[i]?=some c->c.live=true->(i=m.H.length/\q=p/\c= .cells cs)\/(i≠R/\i<m.H.length/\m.β[i]?=some q/\m.H[i]?=some c):=by
  intro i q c h1 h2 hl
  by_cases hi:i<m.H.length
  ·rw[qao (by rw[hlen];exact hi)]at h1
   rw[qao (by simpa using hi)]at h2
   by_cases hir:i=R
   ·subst hir
    rw[qap hR]at h2
    cases h2;cases hl
   ·rw[qau (by omega)]at h2
    exact .inr ⟨hir,hi,h1,h2⟩
  ·rw[qaq (by rw[hlen];omega)]at h1
   rw[qaq (by simp;omega)]at h2
   have:i=m.H.length:=by
    have:=(qaa.1 h2).1
    simp at this;omega
   subst this
   simp[hlen]at h1 h2
   exact .inl ⟨rfl,h1.symm,h2.symm⟩
 have own:∀b o,Own ⟨m.A,m.β++[p],m.H.set R .dead++[.cells cs],m.w⟩ b o->Own m b o:=by
  rintro b o ⟨i,q,c,h1,h2,h3,h4⟩
  rcases pick i q c h1 h2 h3 with ⟨rfl,rfl,rfl⟩|⟨_,_,g1,g2⟩
  ·exact⟨R,q,_,hp,hH,rfl,h4⟩
  ·exact⟨i,q,c,g1,g2,h3,h4⟩
 have s:Step m ⟨m.A,m.β++[p],m.H.set R .dead++[.cells cs],m.w⟩:=by
  refine⟨rfl,rfl,rfl,qae _,fun _ _ h=>h,fun _ _ h=>.inl h,fun b o h=>.inl (own b o h),fun _ _ _ _=>rfl,fun _ _ _ _ _=>rfl,fun _ _ _=>rfl,fun _ _ h=>h,fun _ L h=>⟨L,h⟩,fun _ _ _ h=>h,fun i q hq=>⟨q,?_,?_⟩⟩
  ·show(m.β++[p])[i]?=some q
   exact zwey
  ·have hi:i<m.H.length:=by rw[<-hlen];exact(qaa.1 hq).1
   show zaY m.H[i]? (m.H.set R .dead++[Blk.cells cs])[i]? q q
   rw[qao (by simpa using hi)]
   by_cases hir:i=R
   ·subst hir
    rw[qap hR,hH]
    exact⟨rfl,fun n'=>by simp[tlOf]⟩
   ·rw[qau (by omega)]
    exact zaY.refl _ _
 refine⟨s,by simp[hlen],fun i q c h1 h2=>?_,fun i j q q' c c' hij h1 h2 h3 h4 hc hc'=>?_,fun b o h hn=>hm.still b o h (own b o hn),hm.inA,fun i q c h1 h2 hc hq=>?_,s.glob hm⟩
 ·cases hlv:c.live with
  | false=>cases c <;> simp[Blk.live]at hlv;trivial
  | true=>
    rcases pick i q c h1 h2 hlv with ⟨rfl,rfl,rfl⟩|⟨_,_,g1,g2⟩
    ·exact(hm.blk R q _ hp hH).step hm s (fun o _ _=>⟨rfl,fun _=>rfl⟩) (fun _=>rfl)
    ·exact(hm.blk i q c g1 g2).step hm s (fun o _ _=>⟨rfl,fun _=>rfl⟩) (fun _=>rfl)
 ·rcases pick i q c h1 h2 hc with ⟨rfl,rfl,rfl⟩|⟨a0,a1,a2,a3⟩
  ·rcases pick j q' c' h3 h4 hc' with ⟨rfl,rfl,rfl⟩|⟨b0,b1,b2,b3⟩
   ·exact absurd rfl hij
   ·exact hm.apart R j _ _ _ _ (fun e=>b0 e.symm) hp hH b2 b3 rfl hc'
  ·rcases pick j q' c' h3 h4 hc' with ⟨rfl,rfl,rfl⟩|⟨b0,b1,b2,b3⟩
   ·exact hm.apart i R _ _ _ _ a0 a2 a3 hp hH hc rfl
   ·exact hm.apart i j _ _ _ _ hij a2 a3 b2 b3 hc hc'
 ·rcases pick i q c h1 h2 hc with ⟨rfl,rfl,rfl⟩|⟨a0,a1,a2,a3⟩
  ·exact hm.inO R _ _ hp hH rfl hq
  ·exact hm.inO i q c a2 a3 hc hq
def Elems(P:Program)(m:M)(sz n2:Nat)(y:Value)(vs:List SV):Prop:=
 (∃ad cap,y= .slice ad n2 cap)/\vs.length=n2*sz/\∃g:Nat->Value,(∀w':World,w'.heap=m.w.heap->(Builtin.firstCells sz n2 y).run P w'= .ok ((List.range (n2*sz)).map g).toArray w')/\(∀q,q<n2*sz->(g q).oneCell'=true)/\∀q c,vs[q]?=some c->SRel m c (g q)
theorem Elems.tree{P:Program}{m:M}{sz:Nat}{ys:List T}{y:Value}(hy:TRel m.A m.w (.sl sz ys) y)(hpos:0<sz):Elems P m sz ys.length y ((ys.map T.cells).flatten.map .t):=by
 obtain⟨ad,cap,rfl⟩:=hy.zdo
 obtain⟨g,g0,g1,g2,g3⟩:=zck (P:=P) hy hpos
 obtain⟨l1,l2⟩:=zcH ys (fun e he=>by obtain⟨j,hj⟩:=qa6 he;exact g2 j e hj)
 refine⟨⟨ad,cap,rfl⟩,by rw[qad,l1],g,g0,g1,fun q c hc=>?_⟩
 have hq:=(qaa.1 hc).1
 rw[qad,l1]at hq
 obtain⟨d1,d2,d3⟩:=zf0 hpos hq
 have hyq:ys[q / sz]?=some ys[q / sz]:=qab d1
 have hcl:=g2 _ _ hyq
 have hyc:(ys[q / sz]).cells[q % sz]?=some ((ys[q / sz]).cells[q % sz]'(by omega)):=qab (by omega)
 have h1:=l2 _ _ _ _ hyq hyc
 rw[d3]at h1
 rw[qar,h1]at hc
 cases hc
 have hr:=g3 _ _ _ _ hyq hyc
 rw[d3]at hr
 exact .t _ _ hr
theorem Elems.ms{P:Program}{m:M}(hm:HRel m){sz id off n2:Nat}{cs:List SV}{y:Value}(hy:SRel m (.ms sz id off n2) y)(hH:m.H[id]?=some (.cells cs))(hl:off+n2*sz≤cs.length):Elems P m sz n2 y ((cs.drop off).take (n2*sz)):=by
 cases hy with
 | ms _ _ _ _ cap p hp hn hc hh=>
 obtain⟨b1,b2,b3⟩:=hm.blk id p _ hp hH
 have hex:∀j,∃v,j<n2*sz->m.w.cell? ⟨p.b,p.lo+off+j,none⟩=some v/\v.oneCell'=true/\∀c,cs[off+j]?=some c->SRel m c v:=by
  intro j
  by_cases hj:j<n2*sz
  ·obtain⟨v,y1,y0,y2⟩:=b3 (off+j) cs[off+j] (qab (by omega))
   exact⟨v,fun _=>⟨by rw[<-y1,qaY],y0,fun c2 h2=>by rw[qab (by omega)]at h2;cases h2;exact y2⟩⟩
  ·exact⟨undef,fun h=>absurd h hj⟩
 obtain⟨f,hf⟩:=qbh hex
 refine⟨⟨_,_,rfl⟩,by simp;omega,f,fun w' hw'=>?_,fun q hq=>(hf q hq).2.1,fun q c hc=>?_⟩
 ·simp only[Builtin.firstCells]
  exact run_loadCells w' ⟨p.b,p.lo+off,none⟩ (n2*sz) f fun j hj=>by
   rw[zbE]
   show w'.cell? _=_
   rw[show w'.cell? ⟨p.b,p.lo+off+j,none⟩=m.w.cell? ⟨p.b,p.lo+off+j,none⟩ from by simp[World.cell?,hw']]
   exact(hf j hj).1
 ·have hq:=(qaa.1 hc).1
  have hq':q<n2*sz:=by simp at hq;omega
  rw[qaN,if_pos hq',qaW]at hc
  exact(hf q hq').2.2 c hc
def rowV(sz n id:Nat):SV:=bif Nat.beq n 0 then .t (.v (.slice none 0 0)) else .ms sz id 0 n
def rowB(n:Nat)(cs:List SV):Blk:=bif Nat.beq n 0 then .dead else .cells cs
theorem zcl{sz n id:Nat}(h:0<n):rowV sz n id= .ms sz id 0 n:=by
 unfold rowV
 cases n with
 | zero=>omega
 | succ n=>rfl
theorem zbR{n:Nat}{cs:List SV}(h:0<n):rowB n cs= .cells cs:=by
 unfold rowB
 cases n with
 | zero=>omega
 | succ n=>rfl
theorem znd(n:Nat)(cs:List SV):tlOf (some (rowB n cs))=none:=by
 unfold rowB
 cases n <;> rfl
section rules
variable {P:Program}{n:Nat}{env:Env}{H:Heap}{K:TK}{tab:Tab}
theorem zfQ(hT:zaF P tab){m:M}(hm:HRel m){t t' e:TypeId}{i i' ie:TyI}{sz id len n2:Nat}{cs vs:List SV}{x y:Value}{ty:TypeId}(ht:tab.get t=some i)(hk:i.k= .slice e)(ht':tab.get t'=some i')(hk':i'.k= .slice e)(he:tab.get e=some ie)(hs:ie.size=sz)(hpos:0<sz)
  (hx:SRel m (rowV sz len id) x)(hH:m.H[id]?=some (rowB len cs))(hcs:cs.length=len*sz)(hy:Elems P m sz n2 y vs)(hn2:0<n2)(hb:(len+n2)*ie.bytes≤70368744177664)(hb1:len+n2≤70368744177664)(hby:ie.bytes≤65536):
  ∃z m',(Builtin.append_ #[t,t'] ty #[x,y]).run P m.w= .ok z m'.w/\Step m m'/\HRel m'/\m'.H=m.H.set id .dead++[.cells (cs++vs)]/\SRel m' (.ms sz m.H.length 0 (len+n2)) z:=by
 obtain⟨⟨ad2,cap2,rfl⟩,hvl,g,hg,g1,g2⟩:=hy
 obtain⟨ti,hti,hti1,hti2⟩:=(hT e ie he).info
 obtain⟨z,hz1,hz2,_,_⟩:=(hT e ie he).zero
 have hzz:=(zb3 (A:=m.A) (w:=m.w) _ _ hz2)
 have hzl:z.cells.size=sz:=by
  have:=hzz.1
  have h2:=(hT e ie he).len
  simp at this;omega
 have hz0:∀(j:Nat) (v:Value),z.cells[j]?=some v->v.oneCell'=true:=fun j v h=>hzz.2.1 j v (by simpa using h)
 have hidl:=(qaa.1 hH).1
 have hmul:(len+n2)*sz=len*sz+n2*sz:=qaS _ _ _
 obtain⟨ax,cap,rfl,hcap,f,hf,hfo,hf1,hplace⟩:∃ax cap,x= .slice ax len cap/\len≤cap/\∃f:Nat->Value,(∀q c,cs[q]?=some c->SRel m c (f q))/\(∀w':World,w'.heap=m.w.heap->(Builtin.firstCells sz len (.slice ax len cap)).run P w'= .ok ((List.range (len*sz)).map f).toArray w')/\(∀q,q<len*sz->(f q).oneCell'=true)/\
   (len+n2≤cap->∃p:Place,ax=some ⟨p.b,p.lo+0,none⟩/\m.β[id]?=some p/\m.H[id]?=some (.cells cs)/\p.lo+cap*sz=p.hi):=by
  cases len with
  | zero=>
    have:=hx.v_eq
    subst this
    have hcn:cs=[]:=qay (by rw[hcs];simp)
    subst hcn
    refine⟨none,0,rfl,qae _,fun _=>undef,fun q c h=>by simp at h,fun w' _=>by simp[Builtin.firstCells],fun q hq=>by simp at hq,fun h=>by omega⟩
  | succ len=>
    rw[zbR (by omega)]at hH
    rw[zcl (by omega)]at hx
    obtain⟨⟨ad,cp,hq⟩,_,f,f1,f2,f3⟩:=Elems.ms (P:=P) hm hx hH (by omega)
    have hdt:(cs.drop 0).take ((len+1)*sz)=cs:=by rw[qb7,qaH (by omega)]
    rw[hdt]at f3
    cases hx with
    | ms _ _ _ _ cap p hp hn hc hh=>
    exact⟨_,cap,rfl,hc,f,f3,f1,f2,fun _=>⟨p,rfl,hp,hH,by omega⟩⟩
 have hnt:tlOf m.H[id]?=none:=by rw[hH];exact znd _ _
 let h:Nat->Value:=fun q=>if q<len*sz then f q else g (q-len*sz)
 have hone:∀q,q<(len+n2)*sz->(h q).oneCell'=true:=fun q hq=>by
  by_cases hq1:q<len*sz
  ·simp only[h,if_pos hq1];exact hf1 q hq1
  ·simp only[h,if_neg hq1];exact g1 _ (by omega)
 have hrel:∀(q:Nat) c,(cs++vs)[q]?=some c->SRel m c (h q):=fun q c hc=>by
  by_cases hq:q<len*sz
  ·rw[qao (by omega)]at hc
   simp only[h,if_pos hq]
   exact hf q c hc
  ·rw[qaq (by omega),hcs]at hc
   simp only[h,if_neg hq]
   exact g2 _ c hc
 have hlen:(cs++vs).length=(len+n2)*sz:=by rw[qal,hcs,hvl,hmul]
 by_cases hfit:len+n2≤cap
 ·obtain⟨p,rfl,hp,hHc,hhi⟩:=hplace hfit
  obtain⟨b1,b2,b3⟩:=hm.blk id p _ hp hHc
  have hrun:(Builtin.append_ #[t,t'] ty #[.slice (some ⟨p.b,p.lo+0,none⟩) len cap,.slice ad2 n2 cap2]).run P m.w=
    ((storeCells (Addr.add ⟨p.b,p.lo+0,none⟩ (len*sz)) ((List.range (n2*sz)).map g)).run P m.w).andThen fun _ w'=>.ok (.slice (some ⟨p.b,p.lo+0,none⟩) (len+n2) cap) w':=by
   simp[Builtin.append_,underlying,(hT t i ht).slice hk,(hT t' i' ht').slice hk',(hT e ie he).sizeOf,hs,Builtin.lenOf,hfit,hg m.w rfl]
  have hcm:(len+n2)*sz≤cap*sz:=qaL _ hfit
  have hst:=run_storeCells_cells (P:=P) p.b (p.lo+len*sz) ((List.range (n2*sz)).map g) 0 m.w (fun q hq=>(b2 _ (by omega) (by simp at hq;omega)).1) (fun q hq=>(b2 _ (by omega) (by simp at hq;omega)).2)
   (fun v hv=>by simp at hv;obtain⟨q,hq,rfl⟩:=hv;exact g1 q hq)
  obtain⟨e1,e2,e3,e4,e5,e6⟩:=zbt p.b ((List.range (n2*sz)).map g) (p.lo+len*sz) m.w
  have hout:∀b o,¬(b=p.b/\p.lo+len*sz≤o/\o<p.lo+len*sz+n2*sz)->(m.w.setCells p.b (p.lo+len*sz) ((List.range (n2*sz)).map g)).cell? ⟨b,o,none⟩=m.w.cell? ⟨b,o,none⟩:=by
   exact zwcy
  have hin:∀q,q<n2*sz->(m.w.setCells p.b (p.lo+len*sz) ((List.range (n2*sz)).map g)).cell? ⟨p.b,p.lo+len*sz+q,none⟩=some (g q):=by
   intro q hq
   have:=World.cell?_setCells_in p.b ((List.range (n2*sz)).map g) (p.lo+len*sz) m.w (fun j hj=>(b2 _ (by omega) (by simp at hj;omega)).1) q (by simpa using hq)
   simpa using this
  have hcell:∀q,q<(len+n2)*sz->(m.w.setCells p.b (p.lo+len*sz) ((List.range (n2*sz)).map g)).cell? ⟨p.b,p.lo+q,none⟩=(if q<len*sz then m.w.cell? ⟨p.b,p.lo+q,none⟩ else some (g (q-len*sz))):=fun q hq=>by
   by_cases hq1:q<len*sz
   ·rw[if_pos hq1,hout _ _ (by omega)]
   ·rw[if_neg hq1]
    have:=hin (q-len*sz) (by omega)
    rw[show p.lo+len*sz+(q-len*sz)=p.lo+q by omega]at this
    exact this
  obtain⟨s,hm'⟩:=ze2 hm (k1:=.cells (cs++vs)) (p':=p) (A':=m.A) (w':=m.w.setCells p.b (p.lo+len*sz) ((List.range (n2*sz)).map g)) hp hHc rfl e1 e2 e3 (by rw[e4];exact qae _)
   (fun b o _ hn=>hout b o (by omega)) (fun b o _ _ _=>World.frozen?_setCells _ _ _ _ _)
   (fun b _ hb=>by
     rcases hb with hb|hb
     ·exact e5 b hb
     ·have:n2*sz=0:=by omega
      rw[this];rfl)
   (fun b o _ h=>by
     by_cases hb:b=p.b
     ·subst hb;rw[e6];exact h
     ·rw[hout b o (by omega)];exact h)
   (fun b s hs=>by rw[zb2];exact hs) (fun _ _ h=>h) (fun b o h=>.inl h) (fun _=>.inl ⟨rfl,qae _,qae _⟩) (fun _ b o h1 h2=>absurd h1 h2) (fun o q1 q2=>(b2 o q1 q2).1) ⟨rfl,fun n'=>by simp[tlOf]⟩ (fun s=>by
     refine⟨by omega,fun o q1 q2=>⟨by rw[show M.w _=m.w.setCells p.b (p.lo+len*sz) ((List.range (n2*sz)).map g) from rfl,e6];exact(b2 o q1 q2).1,by rw[show M.w _=m.w.setCells p.b (p.lo+len*sz) ((List.range (n2*sz)).map g) from rfl,World.frozen?_setCells];exact(b2 o q1 q2).2⟩,fun j c hc=>?_⟩
     have hj:=(qaa.1 hc).1
     rw[hlen]at hj
     show ∃y,(m.w.setCells p.b (p.lo+len*sz) ((List.range (n2*sz)).map g)).cell? ⟨p.b,p.lo+j,none⟩=some y/\_
     rw[hcell j hj]
     by_cases hj1:j<len*sz
     ·rw[if_pos hj1]
      rw[qao (by omega)]at hc
      obtain⟨y,y1,y0,y2⟩:=b3 j c hc
      exact⟨y,y1,y0,s.srel hm y2⟩
     ·rw[if_neg hj1]
      rw[qaq (by omega),hcs]at hc
      exact⟨_,rfl,g1 _ (by omega),s.srel hm (g2 _ c hc)⟩)
  have hp2:(m.β.set id p)[id]?=some p:=qap (by rw[hm.len];exact hidl)
  have hH2:(m.H.set id (.cells (cs++vs)))[id]?=some (.cells (cs++vs)):=qap hidl
  obtain⟨s2,hm2⟩:=zpK hm' (R:=id) (p:=p) hp2 hH2
  refine⟨.slice (some ⟨p.b,p.lo+0,none⟩) (len+n2) cap,_,?_,s.trans s2,hm2,?_,?_⟩
  ·rw[hrun,zbE,show p.lo+0+len*sz=p.lo+len*sz by omega,hst];rfl
  ·show(m.H.set id (.cells (cs++vs))).set id .dead++_=_
   rw[qci]
  ·refine .ms sz m.H.length 0 (len+n2) cap p ?_ ?_ hfit (by omega)
   ·show(m.β.set id p++[p])[m.H.length]?=some p
    rw[qaq (by simp[hm.len])];simp[hm.len]
   ·intro n' hn
    have:((m.H.set id (.cells (cs++vs))).set id .dead++[Blk.cells (cs++vs)])[m.H.length]?=some (.cells (cs++vs)):=by
     rw[qaq (by simp)];simp
    rw[show(M.H ⟨m.A,m.β.set id p++[p],(m.H.set id (.cells (cs++vs))).set id .dead++[.cells (cs++vs)],_⟩)[m.H.length]?=_ from this]at hn
    cases hn
 ·have hbound:¬Builtin.nextslicecap (len+n2) cap*ti.bytes > 2 ^ 48:=by
   have h1:=nextslicecap_le (len+n2) cap (by omega)
   have h2:Builtin.nextslicecap (len+n2) cap≤2*(len+n2)+512:=by omega
   exact zwdw
  have hmax:¬((((len+n2:Nat)):Int) > IntKind.i64.max/\(False\/ti.bytes=0)):=by
   exact zwfd
  obtain⟨nc,hnc⟩:∃nc,nc=(Question.appendCap (len+n2) cap e).cut (m.w.tape m.w.drawn (.appendCap (len+n2) cap e)):=⟨_,rfl⟩
  have hnc2:len+n2≤nc:=by rw[hnc];simp[Question.cut]
  obtain⟨zr,hzr⟩:∃zr,zr=Builtin.zeroCells z.cells (nc-(len+n2)):=⟨_,rfl⟩
  have hzrl:zr.size=(nc-(len+n2))*sz:=by rw[hzr];simp[Builtin.zeroCells,hzl]
  obtain⟨ca,hca⟩:∃ca:Array Value,ca=((List.range (len*sz)).map f).toArray++((List.range (n2*sz)).map g).toArray++zr:=⟨_,rfl⟩
  have hrun:(Builtin.append_ #[t,t'] ty #[.slice ax len cap,.slice ad2 n2 cap2]).run P m.w=
    .ok (.slice (some ⟨m.w.heap.size,0,none⟩) (len+n2) nc) (({ m.w with drawn:=m.w.drawn+1 }:World).alloc (.cells ca e)):=by
   have hfor:(Question.appendCap (len+n2) cap e).forced=false:=rfl
   have hadd:(Builtin.append_ #[t,t'] ty #[.slice ax len cap,.slice ad2 n2 cap2]).run P m.w=(((do
     let old <-Builtin.firstCells sz len (.slice ax len cap)
     let new <-Builtin.firstCells sz n2 (.slice ad2 n2 cap2)
     pure (.slice (some (<-newRow e (old++new++zr))) (len+n2) nc)):Sem Value).run P { m.w with drawn:=m.w.drawn+1 }):=by
    simp only[Builtin.append_]
    simp[underlying,(hT t i ht).slice hk,(hT t' i' ht').slice hk',(hT e ie he).sizeOf,hs,Builtin.lenOf,hfit,typeInfo,hti,hbound,hmax,hfor,<-hnc,hz1,<-hzr]
    intro h;exfalso;omega
   rw[hadd]
   simp[hfo m.w.drew rfl,hg m.w.drew rfl,newRow]
   rw[hca,qbl]
  have hcsl:ca.size=nc*sz:=by
   have h1:(len+n2)*sz+(nc-(len+n2))*sz=nc*sz:=by rw[<-qaS];congr 1;omega
   rw[hca];simp[hzrl];omega
  have hcm:(len+n2)*sz≤nc*sz:=qaL _ hnc2
  have hcg:∀q,q<(len+n2)*sz->ca[q]?=some (h q):=fun q hq=>by
   have hq':q<len*sz+n2*sz:=by rw[<-hmul];exact hq
   rw[hca,qaT (by simpa using hq')]
   by_cases hq1:q<len*sz
   ·simp only[h,if_pos hq1]
    rw[qaT (by simpa using hq1)];simp[hq1]
   ·simp only[h,if_neg hq1]
    have hq2:q-len*sz<n2*sz:=by omega
    rw[qa1 (by simpa using qbm hq1)]
    simp[hq2]
  obtain⟨s0,hm0⟩:=zoc hm
  obtain⟨s,hm'⟩:=zcI hm0 (cs++vs) ca e (by rw[hlen,hcsl];exact hcm) (fun q v hv=>by
   by_cases hq:q<(len+n2)*sz
   ·rw[hcg q hq]at hv;cases hv;exact hone q hq
   ·have hq2:=(qaj.1 hv).1
    rw[hcsl]at hq2
    have h1:(len+n2)*sz+(nc-(len+n2))*sz=nc*sz:=by rw[<-qaS];congr 1;omega
    rw[hca,qa1 (by simp;omega),hzr]at hv
    rw[zeW _ _ _ (by omega) (by simp;rw[hzl];omega)]at hv
    exact hz0 _ v hv) (fun q c v hc hv=>by
   have hq:=(qaa.1 hc).1
   rw[hlen]at hq
   rw[hcg q hq]at hv
   cases hv
   exact s0.srel hm (hrel q c hc))
  obtain⟨s2,hm2⟩:=zpD hm' id (by
   show tlOf (m.H++[Blk.cells (cs++vs)])[id]?=none
   rw[qao hidl];exact hnt)
  have hset:(m.H++[Blk.cells (cs++vs)]).set id .dead=m.H.set id .dead++[.cells (cs++vs)]:=qbt _ _ hidl
  refine⟨.slice (some ⟨m.w.heap.size,0,none⟩) (len+n2) nc,_,hrun,(s0.trans s).trans s2,hm2,hset,?_⟩
  have hz9:(⟨m.w.heap.size,0,none⟩:Addr)=⟨m.w.heap.size,0+0,none⟩:=rfl
  rw[hz9]
  refine .ms sz m.H.length 0 (len+n2) nc ⟨m.w.heap.size,0,ca.size⟩ (by simp[hm.len]) ?_ hnc2 (by show 0+0+nc*sz=ca.size;omega)
  intro n' hn
  have:((m.H++[Blk.cells (cs++vs)]).set id .dead)[m.H.length]?=some (.cells (cs++vs)):=by
   rw[hset,qaq (by simp)];simp
  have hn':tlOf (((m.H++[Blk.cells (cs++vs)]).set id .dead)[m.H.length]?)=some n':=hn
  rw[this]at hn'
  cases hn'
end rules
end Go.TL
