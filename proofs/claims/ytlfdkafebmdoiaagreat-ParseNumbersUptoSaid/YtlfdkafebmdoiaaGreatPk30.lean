import Derived.WideLaws
import Derived.Test.YtlfdkafebmdoiaaGreatPk17
import Derived.Test.YtlfdkafebmdoiaaGreatPk23
import Derived.Test.YtlfdkafebmdoiaaGreatPk28
import Derived.Test.YtlfdkafebmdoiaaGreatPk29
set_option linter.unusedSimpArgs false
set_option linter.unusedVariables false
namespace Go.Proofs.YtlfdkafebmdoiaaGreat
open Go Go.TL
attribute [local irreducible] TR TO Then InBlock RetK Sound LoopK Kf GG ThenL
theorem declRC(l:List Tok)(n:Int)(es:List En)(i:Nat)(hk:TkOk l)(hes:EsOk es)(hi:i≤l.length):RdS l n es 90 [] i ((rdr l es).decl i) (.t (declT (((rdr l es).decl i).vl noD)))/\InR l.length (i+1) ((rdr l es).decl i):=by
 have h:=decl_in (R:=rdr l es) (i:=i) (by rw[rdr_len];exact hi)
 rw[rdr_len]at h
 exact⟨decl_sound l n es i hk hes hi,h⟩
theorem declT_eq(d:Decl):declT d= .ag [.s d.name,T.n d.ty,.sl 3 (d.clock.map onT)]:=rfl
set_option maxHeartbeats 16000000 in
theorem decls_sound (l:List Tok) (n:Int) (es:List En) (i:Nat) (hk:TkOk l) (hes:EsOk es) (hi:i≤l.length) (most:Nat) (op:Bool) (hm:most≤1000):RdS l n es 70 [.i most,.b op] i ((rdr l es).decls most op ((rdr l es).K.length+1) [] i) (.t (.sl 3 ((((rdr l es).decls most op ((rdr l es).K.length+1) [] i).vl []).map declT))):=by
 have hl:=hk.len
 have hml0:(l.map tokT).length=l.length:=List.length_map _
 generalize hr:(rdr l es).decls most op ((rdr l es).K.length+1) [] i=r
 refine Sound.err rfl (fun _=>rfl) ?_
 refine so Tryz.func70 ?_
 repeat' (first|refine wkb ?_|fail)
 refine TR.tail 3 7 rfl ?_
 refine TR.loop_ind (ι:=Nat×Nat×List Decl) (fun x=>i≤x.2.1/\x.2.1≤l.length/\l.length-x.2.1<x.1/\x.2.2.length≤x.2.1/\(rdr l es).decls most op x.1 x.2.2 x.2.1=r) (fun x=>l.length-x.2.1) (fun x=>[(0,.ref 0 0),(1,.i most),(2,.b op),(7,.sl 3 (x.2.2.map declT) 1)]) (fun x=>[rdB l n es x.2.1,.tail (x.2.2.map declT).length]) ((rdr l es).K.length+1,i,[])
  ⟨by show i≤i;omega,hi,by rw[rdr_len];show l.length-i<l.length+1;omega,by show 0≤i;omega,hr⟩ ⟨rfl,rfl,rfl,rfl,trivial⟩ rfl ?_
 clear hr
 rintro⟨m,j,xs⟩ ⟨q1,q2,q3,q4,hr⟩
 replace q1:i≤j:=q1
 replace q2:j≤l.length:=q2
 replace q3:l.length-j<m:=q3
 replace q4:xs.length≤j:=q4
 replace hr:(rdr l es).decls most op m xs j=r:=hr
 have hml:(xs.map declT).length=xs.length:=List.length_map _
 cases m with
 | zero=>exfalso;omega
 | succ m=>
 rw[Rd.decls,Rd.limId]at hr
 have t1:=kind_sound l n es j 1 hl
 cases h1:(rdr l es).kind j 1 with
 | true=>
   have hlth1:=kind_lt h1
   rw[rdr_len]at hlth1
   rw[h1]at t1
   rw[if_pos h1]at hr
   refine wk ?_
   repeat' (first|refine wkt ?_|(apply TO.add;exact rfl;exact rfl;exact rfl;omega;omega)|refine wd t1 ?_|exact wkc|intro hc|refine wk2 ?_ ?_|fail)
   obtain⟨m3,m3i⟩:=limC l n es j (xs.map declT).length xs.length most hl q2 hml
   cases qm3:limR xs.length most j with
   | er ke c=>
     rw[qm3]at m3 m3i hr
     have hc0:=m3i.2
     replace m3:=m3.er
     try simp only[PR.vl]at m3
     simp only[PR.bind]at hr
     repeat' (first|refine wkt ?_|(apply TO.add;exact rfl;exact rfl;exact rfl;omega;omega)|refine we m3 ?_ ?_|exact wkc|intro hc|refine wk2 ?_ ?_|fail)
     repeat' (first|refine LoopK.panic ?_|refine wk ?_|fail)
     exact rdP hr.symm hc0
   | ok u3 j3=>
   rw[qm3]at m3 m3i hr
   obtain⟨m3a,m3b⟩:=m3i
   replace m3:=m3.ok
   try simp only[PR.vl]at m3
   simp only[PR.bind]at hr
   obtain⟨hlt4,rfl⟩:=limR_ok qm3
   repeat' (first|refine wkt ?_|(apply TO.add;exact rfl;exact rfl;exact rfl;omega;omega)|refine we m3 ?_ ?_|exact wkc|intro hc|refine wk2 ?_ ?_|fail)
   obtain⟨m4,m4i⟩:=declRC l n es j3 hk hes q2
   cases qm4:(rdr l es).decl j3 with
   | er ke c=>
     rw[qm4]at m4 m4i hr
     have hc0:=m4i.2
     replace m4:=m4.er
     try simp only[PR.vl]at m4
     simp only[PR.bind]at hr
     repeat' (first|refine wkt ?_|(apply TO.add;exact rfl;exact rfl;exact rfl;omega;omega)|refine we m4 ?_ ?_|exact wkc|intro hc|refine wk2 ?_ ?_|fail)
     repeat' (first|refine LoopK.panic ?_|refine wk ?_|fail)
     exact rdP hr.symm hc0
   | ok d k=>
   rw[qm4]at m4 m4i hr
   obtain⟨m4a,m4b⟩:=m4i
   replace m4:=m4.ok
   try simp only[PR.vl]at m4
   simp only[PR.bind]at hr
   rw[declT_eq d]at m4
   have t5:=is_sound l n es k [59] hl
   repeat' (first|refine wkt ?_|(apply TO.add;exact rfl;exact rfl;exact rfl;omega;omega)|(apply TO.appendB tabOk;exact rfl;exact rfl;exact rfl;exact rfl;exact rfl;exact rfl;exact rfl;exact rfl;exact rfl;exact rfl;exact rfl;exact rfl;exact rfl;(first|omega|(simp only[List.length_append,List.length_cons,List.length_nil];omega));exact rfl)|refine we m4 ?_ ?_|exact wkc|intro hc|refine wk2 ?_ ?_|fail)
   cases hb:(rdr l es).isAt k [59] with
   | false=>
     rw[hb]at t5
     refine rgS [.ref 0 0,.b false,.b true,.b true,.t (.v undef),.t (.v undef),.t (.v undef),.t (.v undef),.t (.v undef),.t (.v undef),.t (.v undef),.t (.v undef),.t (.v undef),.t (.v undef),.t (.v undef),.t (.v undef),.t (.v undef),.t (.v undef),.t (.v undef),.t (.v undef),.t (.v undef),.t (.v undef),.t (.v undef),.t (.v undef),.t (.v undef),.t (.v undef),.t (.v undef),.t (.v undef),.t (.v undef),.t (.v undef),.t (.v undef),.t (.v undef),.t (.v undef),.b true] ?_ ?_
     ·repeat' (first|refine wkt ?_|refine wd t5 ?_|exact trivial|exact⟨⟨rfl,rfl⟩,trivial⟩|refine And.intro (fun env=>?_) ?_|refine wk ?_|exact wkc|intro hc|refine wk2 ?_ ?_|fail)
      done
     ·rw[if_pos (.inl hb)]at hr
      subst hr
      repeat' (first|refine wu ?_|exact wkc|intro hc|refine wk2 ?_ ?_|fail)
      apply rdV rfl
      ·exact rfl
      ·rw[vlE,List.map_append,List.map_cons,List.map_nil,declT_eq d]
       (repeat' (first|exact trivial|exact Go.TL.Le.refl _|refine And.intro ?_ ?_|exact Go.TL.Le.any _|exact Go.TL.Le.nil _|exact Go.TL.Le.own _ _ _|refine Go.TL.Le.tree rfl ?_|exact Go.TL.TLe.refl _|exact Go.TL.TLe.nil _|refine Go.TL.TLe.ags ?_|fail))
      all_goals exact rfl
   | true=>
   have hltb:=isAt_lt hb
   rw[rdr_len]at hltb
   rw[hb]at t5
   cases op with
   | false=>
     refine rgS [.ref 0 0,.b true,.b false,.b false,.b false,.b false,.t (.v undef),.t (.v undef),.t (.v undef),.t (.v undef),.t (.v undef),.t (.v undef),.t (.v undef),.t (.v undef),.t (.v undef),.t (.v undef),.t (.v undef),.t (.v undef),.t (.v undef),.t (.v undef),.t (.v undef),.t (.v undef),.t (.v undef),.t (.v undef),.t (.v undef),.t (.v undef),.t (.v undef),.t (.v undef),.t (.v undef),.t (.v undef),.t (.v undef),.t (.v undef),.b false,.b false] ?_ ?_
     ·repeat' (first|refine wkt ?_|refine wd t5 ?_|exact trivial|exact⟨⟨rfl,rfl⟩,trivial⟩|refine And.intro (fun env=>?_) ?_|refine wk ?_|exact wkc|intro hc|refine wk2 ?_ ?_|fail)
      done
     ·rw[if_neg (by rw[hb];simp)]at hr
      repeat' (first|refine wu ?_|exact wkc|intro hc|refine wk2 ?_ ?_|fail)
      refine LoopK.next (m,k+1,xs++[d]) ⟨?_,hltb,?_,?_,hr⟩ ?_ ⟨rfl,rfl,rfl,?_,trivial⟩ ?_
      ·show i≤k+1;omega
      ·show l.length-(k+1)<m;omega
      ·show(xs++[d]).length≤k+1;rw[List.length_append];simp only[List.length_cons,List.length_nil];omega
      ·show l.length-(k+1)<l.length-j3;omega
      ·show _=some (SV.sl 3 ((xs++[d]).map declT) 1);rw[List.map_append,List.map_cons,List.map_nil,declT_eq d];rfl
      ·show _=[rdB l n es (k+1:Nat),.tail ((xs++[d]).map declT).length];rw[List.map_append,List.map_cons,List.map_nil,List.length_append];rfl
   | true=>
   have hkk:(rdr l es).kind (k+1) 1=match l[k+1]? with|some t=>decide (t.1=1)|none=>false:=by
    unfold Rd.kind
    simp only[List.getElem?_map]
    cases l[k+1]? <;> rfl
   by_cases hlt:k+1<l.length
   ·have hx:=at_tok hlt
    have hx':(l.map tokT)[((k:Int)+1).toNat]?=some (.ag [T.i l[k+1].1,.s l[k+1].2.1,T.i l[k+1].2.2]):=by rw[show((k:Int)+1).toNat=k+1 by omega];exact hx
    rw[List.getElem?_eq_getElem hlt]at hkk
    simp only at hkk
    generalize l[k+1]=t at*
    by_cases h2:t.1=1
    ·rw[decide_eq_true h2]at hkk
     refine rgS [.ref 0 0,.b true,.b false,.b false,.b true,.b true,.ref 0 0,.ref 0 0,.ref 0 2,.i k,.i ((k:Int)+1),.ref 0 0,.ref 0 0,.ref 0 0,.t (.sl 3 (l.map tokT)),.i (l.map tokT).length,.b false,.b false,.ref 0 0,.ref 0 0,.ref 0 0,.t (.sl 3 (l.map tokT)),.ref 0 0,.ref 0 0,.ref 0 2,.i k,.i ((k:Int)+1),.cp [T.i t.1,.s t.2.1,T.i t.2.2] 0,.cp [T.i t.1,.s t.2.1,T.i t.2.2] 0,.i t.1,.b false,.b false,.b false,.b false] ?_ ?_
     ·repeat' (first|refine wkt ?_|refine wd t5 ?_|exact trivial|exact⟨⟨rfl,rfl⟩,trivial⟩|refine And.intro (fun env=>?_) ?_|refine wk ?_|exact wkc|intro hc|refine wk2 ?_ ?_|fail)
      done
     ·rw[if_neg (by rw[hb,hkk];simp)]at hr
      repeat' (first|refine wu ?_|exact wkc|intro hc|refine wk2 ?_ ?_|fail)
      refine LoopK.next (m,k+1,xs++[d]) ⟨?_,hltb,?_,?_,hr⟩ ?_ ⟨rfl,rfl,rfl,?_,trivial⟩ ?_
      ·show i≤k+1;omega
      ·show l.length-(k+1)<m;omega
      ·show(xs++[d]).length≤k+1;rw[List.length_append];simp only[List.length_cons,List.length_nil];omega
      ·show l.length-(k+1)<l.length-j3;omega
      ·show _=some (SV.sl 3 ((xs++[d]).map declT) 1);rw[List.map_append,List.map_cons,List.map_nil,declT_eq d];rfl
      ·show _=[rdB l n es (k+1:Nat),.tail ((xs++[d]).map declT).length];rw[List.map_append,List.map_cons,List.map_nil,List.length_append];rfl
    ·rw[decide_eq_false h2]at hkk
     refine rgS [.ref 0 0,.b true,.b false,.b false,.b true,.b true,.ref 0 0,.ref 0 0,.ref 0 2,.i k,.i ((k:Int)+1),.ref 0 0,.ref 0 0,.ref 0 0,.t (.sl 3 (l.map tokT)),.i (l.map tokT).length,.b false,.b false,.ref 0 0,.ref 0 0,.ref 0 0,.t (.sl 3 (l.map tokT)),.ref 0 0,.ref 0 0,.ref 0 2,.i k,.i ((k:Int)+1),.cp [T.i t.1,.s t.2.1,T.i t.2.2] 0,.cp [T.i t.1,.s t.2.1,T.i t.2.2] 0,.i t.1,.b true,.b true,.b true,.b true] ?_ ?_
     ·repeat' (first|refine wkt ?_|refine wd t5 ?_|exact trivial|exact⟨⟨rfl,rfl⟩,trivial⟩|refine And.intro (fun env=>?_) ?_|refine wk ?_|exact wkc|intro hc|refine wk2 ?_ ?_|fail)
      done
     ·rw[if_pos (.inr ⟨rfl,hkk⟩)]at hr
      subst hr
      repeat' (first|refine wu ?_|exact wkc|intro hc|refine wk2 ?_ ?_|fail)
      apply rdV rfl
      ·exact rfl
      ·rw[vlE,List.map_append,List.map_cons,List.map_nil,declT_eq d]
       (repeat' (first|exact trivial|exact Go.TL.Le.refl _|refine And.intro ?_ ?_|exact Go.TL.Le.any _|exact Go.TL.Le.nil _|exact Go.TL.Le.own _ _ _|refine Go.TL.Le.tree rfl ?_|exact Go.TL.TLe.refl _|exact Go.TL.TLe.nil _|refine Go.TL.TLe.ags ?_|fail))
      all_goals exact rfl
   ·rw[List.getElem?_eq_none (by omega)]at hkk
    simp only at hkk
    refine rgS [.ref 0 0,.b true,.b false,.b false,.b true,.b true,.ref 0 0,.ref 0 0,.ref 0 2,.i k,.i ((k:Int)+1),.ref 0 0,.ref 0 0,.ref 0 0,.t (.sl 3 (l.map tokT)),.i (l.map tokT).length,.b true,.b true,.t (.v undef),.t (.v undef),.t (.v undef),.t (.v undef),.t (.v undef),.t (.v undef),.t (.v undef),.t (.v undef),.t (.v undef),.t (.v undef),.t (.v undef),.t (.v undef),.t (.v undef),.b true,.b true,.b true] ?_ ?_
    ·repeat' (first|refine wkt ?_|refine wd t5 ?_|exact trivial|exact⟨⟨rfl,rfl⟩,trivial⟩|refine And.intro (fun env=>?_) ?_|refine wk ?_|exact wkc|intro hc|refine wk2 ?_ ?_|fail)
     done
    ·rw[if_pos (.inr ⟨rfl,hkk⟩)]at hr
     subst hr
     repeat' (first|refine wu ?_|exact wkc|intro hc|refine wk2 ?_ ?_|fail)
     apply rdV rfl
     ·exact rfl
     ·rw[vlE,List.map_append,List.map_cons,List.map_nil,declT_eq d]
      (repeat' (first|exact trivial|exact Go.TL.Le.refl _|refine And.intro ?_ ?_|exact Go.TL.Le.any _|exact Go.TL.Le.nil _|exact Go.TL.Le.own _ _ _|refine Go.TL.Le.tree rfl ?_|exact Go.TL.TLe.refl _|exact Go.TL.TLe.nil _|refine Go.TL.TLe.ags ?_|fail))
     all_goals exact rfl
 | false=>
 rw[h1]at t1
 have hid:(rdr l es).decl j= .er j 5:=by unfold Rd.decl Rd.id;rw[h1];rfl
 have m4:=(declRC l n es j hk hes q2).1
 rw[hid]at m4 hr
 have hc0:(5:Int)≠0:=by decide
 replace m4:=m4.er
 simp only[PR.vl]at m4
 rw[h1,if_neg (by decide)]at hr
 simp only[PR.bind]at hr
 refine wk ?_
 repeat' (first|refine wkt ?_|(apply TO.add;exact rfl;exact rfl;exact rfl;omega;omega)|refine wd t1 ?_|refine we m4 ?_ ?_|exact wkc|intro hc|refine wk2 ?_ ?_|fail)
 repeat' (first|refine LoopK.panic ?_|refine wk ?_|fail)
 exact rdP hr.symm hc0
theorem declsRC(l:List Tok)(n:Int)(es:List En)(i:Nat)(hk:TkOk l)(hes:EsOk es)(hi:i≤l.length)(most:Nat)(op:Bool)(hm:most≤1000):RdS l n es 70 [.i most,.b op] i ((rdr l es).decls most op ((rdr l es).K.length+1) [] i) (.t (.sl 3 ((((rdr l es).decls most op ((rdr l es).K.length+1) [] i).vl []).map declT)))/\InR l.length i ((rdr l es).decls most op ((rdr l es).K.length+1) [] i):=by
 have h:=decls_in (R:=rdr l es) (most:=most) (op:=op) ((rdr l es).K.length+1) [] (i:=i) (by rw[rdr_len];exact hi)
 rw[rdr_len]at h⊢
 exact⟨by have:=decls_sound l n es i hk hes hi most op hm;rw[rdr_len]at this;exact this,h⟩
set_option maxHeartbeats 4000000 in
theorem locals_sound (l:List Tok) (n:Int) (es:List En) (i:Nat) (hk:TkOk l) (hes:EsOk es) (hi:i≤l.length):RdS l n es 71 [] i ((rdr l es).locals i) (.t (.sl 3 ((((rdr l es).locals i).vl []).map declT))):=by
 have hl:=hk.len
 generalize hr:(rdr l es).locals i=r
 unfold Rd.locals at hr
 refine Sound.err rfl (fun _=>rfl) ?_
 refine so Tryz.func71 ?_
 have t1:=take_sound l n es i [118,97,114] hl hi
 cases h1:(rdr l es).isAt i [118,97,114] with
 | true=>
   have hlth1:=isAt_lt h1
   rw[rdr_len]at hlth1
   rw[h1,if_pos rfl]at t1
   rw[if_pos h1]at hr
   repeat' (first|refine wkt ?_|(apply TO.add;exact rfl;exact rfl;exact rfl;omega;omega)|refine wd t1 ?_|exact wkc|intro hc|refine wk2 ?_ ?_|fail)
   obtain⟨m1,m1i⟩:=declsRC l n es (i+1) hk hes hlth1 256 true (by decide)
   cases qm1:(rdr l es).decls 256 true ((rdr l es).K.length+1) [] (i+1) with
   | er ke c=>
     rw[qm1]at m1 m1i hr
     have hc0:=m1i.2
     replace m1:=m1.er
     try simp only[PR.vl]at m1
     simp only[PR.bind]at hr
     repeat' (first|refine wkt ?_|(apply TO.add;exact rfl;exact rfl;exact rfl;omega;omega)|refine we m1 ?_ ?_|exact wkc|intro hc|refine wk2 ?_ ?_|fail)
     repeat' (first|refine LoopK.panic ?_|refine wk ?_|fail)
     exact rdP hr.symm hc0
   | ok d j=>
   rw[qm1]at m1 m1i hr
   obtain⟨m1a,m1b⟩:=m1i
   replace m1:=m1.ok
   try simp only[PR.vl]at m1
   simp only[PR.bind]at hr
   repeat' (first|refine wkt ?_|(apply TO.add;exact rfl;exact rfl;exact rfl;omega;omega)|refine we m1 ?_ ?_|exact wkc|intro hc|refine wk2 ?_ ?_|fail)
   obtain⟨m2,m2i⟩:=mustC l n es j [[59]] hl m1b (by decide)
   cases qm2:(rdr l es).must [[59]] j with
   | er ke c=>
     rw[qm2]at m2 m2i hr
     have hc0:=m2i.2
     replace m2:=m2.er
     try simp only[PR.vl]at m2
     simp only[PR.bind]at hr
     repeat' (first|refine wkt ?_|(apply TO.add;exact rfl;exact rfl;exact rfl;omega;omega)|refine we m2 ?_ ?_|exact wkc|intro hc|refine wk2 ?_ ?_|fail)
     repeat' (first|refine LoopK.panic ?_|refine wk ?_|fail)
     exact rdP hr.symm hc0
   | ok u2 j2=>
   rw[qm2]at m2 m2i hr
   obtain⟨m2a,m2b⟩:=m2i
   replace m2:=m2.ok
   try simp only[PR.vl]at m2
   simp only[PR.bind]at hr
   subst hr
   repeat' (first|refine wkt ?_|(apply TO.add;exact rfl;exact rfl;exact rfl;omega;omega)|refine we m2 ?_ ?_|exact wkc|intro hc|refine wk2 ?_ ?_|fail)
   apply rdV rfl
   ·exact rfl
   ·(repeat' (first|exact trivial|exact Go.TL.Le.refl _|refine And.intro ?_ ?_|exact Go.TL.Le.any _|exact Go.TL.Le.nil _|exact Go.TL.Le.own _ _ _|refine Go.TL.Le.tree rfl ?_|exact Go.TL.TLe.refl _|exact Go.TL.TLe.nil _|refine Go.TL.TLe.ags ?_|fail))
   all_goals exact rfl
 | false=>
 rw[h1,if_neg (by decide)]at t1
 rw[if_neg (by rw[h1];decide)]at hr
 subst hr
 repeat' (first|refine wkt ?_|(apply TO.add;exact rfl;exact rfl;exact rfl;omega;omega)|refine wd t1 ?_|exact wkc|intro hc|refine wk2 ?_ ?_|fail)
 apply rdV rfl
 ·exact rfl
 ·(repeat' (first|exact trivial|exact Go.TL.Le.refl _|refine And.intro ?_ ?_|exact Go.TL.Le.any _|exact Go.TL.Le.nil _|exact Go.TL.Le.own _ _ _|refine Go.TL.Le.tree rfl ?_|exact Go.TL.TLe.refl _|exact Go.TL.TLe.nil _|refine Go.TL.TLe.ags ?_|fail))
 all_goals exact rfl
end Go.Proofs.YtlfdkafebmdoiaaGreat
namespace Go.TL
open Go
section rules
variable {P:Program}{n:Nat}{env:Env}{H:Heap}{K:TK}{all:Array Oper}{rest:List Oper}{q:Bool}{d:Nat}{ty:TypeId}{pos:String}{aft:Array Edge}
theorem TO.ne_nil_ifc{t t' u:TypeId}{x:Operand}{s:SV}(hd:Nat.ble (d+1) n=true)(hx:env.val x=some (.ifc u s))(ht:P.underlying t=some (.interface (P.methodsAt t)))
  (k:TO q P n all rest ((d,.t (.v (.bool true)))::env) H K):TO q P n all (⟨some d,.binOp .neq t x (.const .nilIface) t',ty,pos,aft,none⟩::rest) env H K:=
 TO.op hd (fun m ac h1 h2 h3=>⟨.bool true,fun w' hw'=>by
  have h:=h3.val hx
  generalize hq:ac.eval x=z at h
  cases h with
  | ifc _ _ y hy=>simp[execOp,eval_const,hq,eqGuard,run_neq_held_nil w' t u y ht],.t _ _ (.v _)⟩) k
theorem TO.ne_nil_nifc{t t':TypeId}{x:Operand}(hd:Nat.ble (d+1) n=true)(hx:env.val x=some (.t (.v .nilIface)))(ht:P.underlying t=some (.interface (P.methodsAt t)))
  (k:TO q P n all rest ((d,.t (.v (.bool false)))::env) H K):TO q P n all (⟨some d,.binOp .neq t x (.const .nilIface) t',ty,pos,aft,none⟩::rest) env H K:=
 TO.op hd (fun m ac h1 h2 h3=>⟨.bool false,fun w' hw'=>by
  simp[execOp,eval_const,(h3.val hx).v_eq,eqGuard,run_neq_nil_nil w' t ht],.t _ _ (.v _)⟩) k
end rules
end Go.TL
set_option linter.unusedVariables false
set_option linter.unusedSimpArgs false
namespace Go.Proofs.YtlfdkafebmdoiaaGreat
open Go Go.TL
attribute [local irreducible] TR TO Then InBlock RetK Sound LoopK Kf GG ThenL
theorem exprP_sound(l:List Tok)(n:Int)(es:List En)(hk:TkOk l)(hes:EsOk es)(i:Nat)(hi:i≤l.length):ExR l n es 27 [] i ((rdr l es).expr i)/\InR l.length (i+1) ((rdr l es).expr i):=by
 have h:=pF_in (R:=rdr l es) (10*(rdr l es).K.length+10) .expr (i:=i) (by rw[rdr_len];exact hi)
 rw[rdr_len]at h
 refine⟨?_,by unfold Rd.expr;rw[rdr_len];exact h⟩
 unfold Rd.expr
 rw[rdr_len]
 exact pF_sound l n es hk hes (mergeP_sound l n es hk hes) (callP_sound l n es hk.len) (10*l.length+10) .expr i hi (by show 10*(l.length-i)+9<_;omega)
theorem finish_sound(l:List Tok)(n:Int)(es:List En)(i:Nat)(hl:l.length≤1000000)(hi:i≤l.length):RdS l n es 21 [] i (if i<l.length then .er i 5 else .ok () i:PR Unit) (.tup []):=by
 have hml:(l.map tokT).length=l.length:=List.length_map _
 have hf:=fail_sound l n es i i 5 (by decide) hl
 generalize hr:(if i<l.length then .er i 5 else .ok () i:PR Unit)=r
 refine Sound.err rfl (fun _=>rfl) ?_
 by_cases hlt:i<l.length
 ·rw[if_pos hlt]at hr
  refine so Tryz.func21 ?_
  repeat' (first|refine wu ?_|exact wkc|intro hc|refine wk2 ?_ ?_|refine we hf ?_ ?_|fail)
  exact rdP hr.symm (by decide)
 ·rw[if_neg hlt]at hr
  refine so Tryz.func21 ?_
  repeat' (first|refine wu ?_|exact wkc|intro hc|refine wk2 ?_ ?_|refine we hf ?_ ?_|fail)
  exact rdN (vs:=[]) hr.symm rfl (Le.refl _) rfl rfl rfl
theorem caught_sound(a c:Int):Pure Tryz.prog 19 [.ifc 102 (.t (.ag [T.i a,T.i c]))] (.tup [.i a,.i c]):=by
 refine so Tryz.func19 ?_
 repeat' (first|refine wkt ?_|refine wka ?_|refine wk ?_|exact wkc|intro hc|refine wk2 ?_ ?_|(apply TO.assert_ok tabOk;exact rfl;exact rfl;exact rfl;exact rfl)|(apply TO.alloc tabOk;exact rfl;exact rfl;exact rfl)|fail)
 exact wkr
theorem begin_ok(s:Str)(es:List En)(hs:(scan s).2.2=0)(hb:s.length≤1000000):Sound Tryz.prog 17 [.s s,.t (ensT es)] [] (fun r H'=>r= .ret (.tup [.ref 0 0,.i 0,.i 0])/\H'=[rdB (scan s).1 s.length es 0]):=by
 have h:=scan_sound s
 generalize scan s=x at*
 obtain⟨x1,x2,x3⟩:=x
 simp only at hs h
 subst hs
 refine so Tryz.func17 ?_
 repeat' (first|refine wkb ?_|refine wv h ?_|fail)
 refine wk2 ?_ ?_
 ·intro hc;exact absurd rfl hc
 intro hc
 repeat' (first|(apply TO.box;exact rfl;exact rfl;exact rfl;exact rfl)|(apply Go.TL.TO.go tabOk 0 false;exact rfl;(first|apply Go.TL.GG.to|apply Go.TL.GG.stop|apply Go.TL.GG.tr0|apply Go.TL.GG.tr|apply Go.TL.GG.ex))|(apply Go.TL.TR.go0 tabOk 0 false;exact rfl;(first|apply Go.TL.GG.to|apply Go.TL.GG.stop|apply Go.TL.GG.tr0|apply Go.TL.GG.tr|apply Go.TL.GG.ex))|(apply Go.TL.TR.go tabOk 0 false;exact rfl;(first|apply Go.TL.GG.to|apply Go.TL.GG.stop|apply Go.TL.GG.tr0|apply Go.TL.GG.tr|apply Go.TL.GG.ex))|(apply Go.TL.TO.go0 tabOk 0 false;exact rfl;(first|apply Go.TL.GG.to|apply Go.TL.GG.stop|apply Go.TL.GG.tr0|apply Go.TL.GG.tr|apply Go.TL.GG.ex))|(apply Go.TL.TExit.go tabOk 0 false;exact rfl;(first|apply Go.TL.GG.to|apply Go.TL.GG.stop|apply Go.TL.GG.tr0|apply Go.TL.GG.tr|apply Go.TL.GG.ex))|fail)
 exact RetK.keep 1 rfl (Le.refl _) rfl rfl rfl rfl rfl ⟨rfl,rfl⟩
theorem begin_er(s:Str)(es:List En)(hs:(scan s).2.2≠0):Pure Tryz.prog 17 [.s s,.t (ensT es)] (.tup [.t (.v (.pointer none)),.i (scan s).2.1,.i (scan s).2.2]):=by
 have h:=scan_sound s
 generalize scan s=x at*
 obtain⟨x1,x2,x3⟩:=x
 simp only at hs h
 refine so Tryz.func17 ?_
 repeat' (first|refine wkt ?_|refine wka ?_|refine wk ?_|exact wkc|intro hc|refine wk2 ?_ ?_|refine wv h ?_|fail)
 all_goals first
  | exact wkr
  | (exfalso;omega)
end Go.Proofs.YtlfdkafebmdoiaaGreat
namespace Go.Proofs.YtlfdkafebmdoiaaGreat
open Go Go.TL
attribute [local irreducible] TR TO Then InBlock RetK Sound LoopK Kf GG ThenL
theorem exprC(l:List Tok)(n:Int)(es:List En)(i:Nat)(hk:TkOk l)(hes:EsOk es)(hi:i≤l.length):ExR l n es 27 [] i ((rdr l es).expr i)/\InR l.length (i+1) ((rdr l es).expr i):=exprP_sound l n es hk hes i hi
abbrev eqZ:Blk:=.cells [.t (.v (.slice none 0 0)),.t (.v (.int .i64 0)),.t (.v (.int .i64 0)),.t (.v (.int .i64 0)),.t (.v (.int .i64 0)),.t (.v (str [])),.t (.v (.slice none 0 0))]
abbrev eqB (x:SV):Blk:=.cells [x,.t (.v (.int .i64 0)),.t (.v (.int .i64 0)),.t (.v (.int .i64 0)),.t (.v (.int .i64 0)),.t (.v (str [])),.t (.v (.slice none 0 0))]
def Rd.eqR(R:Rd)(f:Nat->PR Ex)(ys:List Str)(i:Nat):PR Equ:=(R.must [[61]] i).bind fun _ j=>(f j).bind fun e j=>(R.must [[59]] j).bind fun _ j=>.ok ⟨ys,e⟩ j
abbrev noQ:Equ:=⟨[],noE⟩
set_option maxHeartbeats 16000000 in
theorem equation_sound (l:List Tok) (n:Int) (es:List En) (i:Nat) (hk:TkOk l) (hes:EsOk es) (hi:i≤l.length):RdS l n es 92 [] i ((rdr l es).equation (rdr l es).expr i) (.t (equT (((rdr l es).equation (rdr l es).expr i).vl noQ))):=by
 have hl:=hk.len
 generalize hr:(rdr l es).equation (rdr l es).expr i=r
 replace hr:((rdr l es).left i).bind ((rdr l es).eqR (rdr l es).expr)=r:=hr
 unfold Rd.left at hr
 refine Sound.err rfl (fun _=>rfl) ?_
 refine so Tryz.func92 ?_
 repeat' (first|refine wkb ?_|(apply TO.add;exact rfl;exact rfl;exact rfl;omega;omega)|refine wk ?_|exact wkc|intro hc|refine wk2 ?_ ?_|fail)
 have t0:=take_sound l n es i [40] hl hi
 cases h0:(rdr l es).isAt i [40] with
 | true=>
   have hlth0:=isAt_lt h0
   rw[rdr_len]at hlth0
   rw[h0,if_pos rfl]at t0
   rw[if_pos h0]at hr
   refine TO.tail_cell 1 2 0 rfl rfl rfl ?_
   repeat' (first|refine wkt ?_|(apply TO.add;exact rfl;exact rfl;exact rfl;omega;omega)|refine wd t0 ?_|exact wkc|intro hc|refine wk2 ?_ ?_|fail)
   clear t0
   refine TR.loop_ind (ι:=Nat×Nat×List Str) (fun x=>i≤x.2.1/\x.2.1≤l.length/\l.length-x.2.1<x.1/\x.2.2.length≤x.2.1/\((((rdr l es).names 64 [44] x.1 x.2.2 x.2.1).bind fun l2 j=>((rdr l es).must [[41]] j).bind fun _ j=>.ok l2 j:PR (List Str)).bind ((rdr l es).eqR (rdr l es).expr))=r) (fun x=>l.length-x.2.1) (fun _=>[(0,.ref 0 0),(3,.ref 2 0),(2,.ref 1 0)]) (fun x=>[rdB l n es x.2.1,eqZ,eqB (.sl 1 (x.2.2.map T.s) 3),.tail (x.2.2.map T.s).length]) ((rdr l es).K.length+1,(i+1),[])
    ⟨by show i≤(i+1);omega,hlth0,by rw[rdr_len];show l.length-(i+1)<l.length+1;omega,by show 0≤(i+1);omega,hr⟩ ⟨rfl,rfl,rfl,trivial⟩ rfl ?_
   clear hr
   rintro⟨m,j,xs⟩ ⟨q1,q2,q3,q4,hr⟩
   replace q1:i≤j:=q1
   replace q2:j≤l.length:=q2
   replace q3:l.length-j<m:=q3
   replace q4:xs.length≤j:=q4
   replace hr:((((rdr l es).names 64 [44] m xs j).bind fun l2 j=>((rdr l es).must [[41]] j).bind fun _ j=>.ok l2 j:PR (List Str)).bind ((rdr l es).eqR (rdr l es).expr))=r:=hr
   have hml:(xs.map T.s).length=xs.length:=List.length_map _
   cases m with
   | zero=>exfalso;omega
   | succ m=>
   rw[Rd.names,Rd.limId]at hr
   have t1:=kind_sound l n es j 1 hl
   cases h1:(rdr l es).kind j 1 with
   | true=>
     have hlth1:=kind_lt h1
     rw[rdr_len]at hlth1
     rw[h1]at t1
     rw[if_pos h1]at hr
     refine wk ?_
     repeat' (first|refine wkt ?_|(apply TO.add;exact rfl;exact rfl;exact rfl;omega;omega)|refine wd t1 ?_|exact wkc|intro hc|refine wk2 ?_ ?_|fail)
     obtain⟨m3,m3i⟩:=limC l n es j (xs.map T.s).length xs.length 64 hl q2 hml
     cases qm3:limR xs.length 64 j with
     | er ke c=>
       rw[qm3]at m3 m3i hr
       have hc0:=m3i.2
       replace m3:=m3.er
       try simp only[PR.vl]at m3
       simp only[PR.bind]at hr
       repeat' (first|refine wkt ?_|(apply TO.add;exact rfl;exact rfl;exact rfl;omega;omega)|refine we m3 ?_ ?_|exact wkc|intro hc|refine wk2 ?_ ?_|fail)
       repeat' (first|refine LoopK.panic ?_|refine wk ?_|fail)
       exact rdP hr.symm hc0
     | ok u3 j3=>
     rw[qm3]at m3 m3i hr
     obtain⟨m3a,m3b⟩:=m3i
     replace m3:=m3.ok
     try simp only[PR.vl]at m3
     simp only[PR.bind]at hr
     obtain⟨hlt4,rfl⟩:=limR_ok qm3
     repeat' (first|refine wkt ?_|(apply TO.add;exact rfl;exact rfl;exact rfl;omega;omega)|refine we m3 ?_ ?_|exact wkc|intro hc|refine wk2 ?_ ?_|fail)
     obtain⟨m4,m4i⟩:=idC l n es j3 hl q2
     cases qm4:(rdr l es).id j3 with
     | er ke c=>
       rw[qm4]at m4 m4i hr
       have hc0:=m4i.2
       replace m4:=m4.er
       try simp only[PR.vl]at m4
       simp only[PR.bind]at hr
       refine rgX 3 (g:=False) [(.ref 2 0,0,1),(.sl 1 (xs.map T.s) 3,0,1),(.ref 0 0,0,1),(.t (T.s []),1,0),(.t (.sl 1 [T.s []]),1,1),(.sl 1 ((xs.map T.s)++[T.s []]) 3,1,0),(.ref 2 0,0,2),(.t (.v undef),1,0)] [[rdB l n es j3,eqZ,eqB (.sl 1 (xs.map T.s) 3),.tail ((xs.map T.s)).length],[rdB l n es j3,eqZ,eqB (.sl 1 (xs.map T.s) 3),.tail ((xs.map T.s)).length],[rdB l n es j3,eqZ,eqB (.sl 1 (xs.map T.s) 3),.tail (((xs.map T.s)).length+1)],[rdB l n es j3,eqZ,eqB (.sl 1 ((xs.map T.s)++[T.s []]) 3),.tail (((xs.map T.s)).length+1)]] ?_ (fun h=>h.elim)
       repeat' (first|refine wkt ?_|exact trivial|exact⟨⟨rfl,rfl⟩,trivial⟩|refine And.intro (fun env=>?_) ?_|refine And.intro ?_ ?_|refine we m4 ?_ ?_|refine wk ?_|exact wkc|intro hc|refine wk2 ?_ ?_|fail)
       repeat' (first|refine LoopK.panic ?_|refine wk ?_|fail)
       exact rdP hr.symm hc0
     | ok o k=>
     rw[qm4]at m4 m4i hr
     obtain⟨m4a,m4b⟩:=m4i
     replace m4:=m4.ok
     try simp only[PR.vl]at m4
     simp only[PR.bind]at hr
     refine rgX 3 (g:=True) [(.ref 2 0,0,1),(.sl 1 (xs.map T.s) 3,0,1),(.ref 0 0,0,1),(.t (T.s o),1,0),(.t (.sl 1 [T.s o]),1,1),(.sl 1 ((xs.map T.s)++[T.s o]) 3,1,0),(.ref 2 0,0,2),(.t (.v undef),1,0)] [[rdB l n es j3,eqZ,eqB (.sl 1 (xs.map T.s) 3),.tail ((xs.map T.s)).length],[rdB l n es k,eqZ,eqB (.sl 1 (xs.map T.s) 3),.tail ((xs.map T.s)).length],[rdB l n es k,eqZ,eqB (.sl 1 (xs.map T.s) 3),.tail (((xs.map T.s)).length+1)],[rdB l n es k,eqZ,eqB (.sl 1 ((xs.map T.s)++[T.s o]) 3),.tail (((xs.map T.s)).length+1)]] ?_ (fun _=>?_)
     ·repeat' (first|refine wkt ?_|exact trivial|exact⟨⟨rfl,rfl⟩,trivial⟩|refine And.intro (fun env=>?_) ?_|refine And.intro ?_ ?_|refine we m4 ?_ ?_|refine wk ?_|exact wkc|intro hc|refine wk2 ?_ ?_|fail)
      done
     have t2:=take_sound l n es k [44] hl m4b
     cases h2:(rdr l es).isAt k [44] with
     | true=>
       have hlth2:=isAt_lt h2
       rw[rdr_len]at hlth2
       rw[h2,if_pos rfl]at t2
       rw[if_pos h2]at hr
       refine wk ?_
       repeat' (first|refine wkt ?_|(apply TO.add;exact rfl;exact rfl;exact rfl;omega;omega)|refine wd t2 ?_|exact wkc|intro hc|refine wk2 ?_ ?_|fail)
       refine LoopK.next (m,k+1,xs++[o]) ⟨?_,hlth2,?_,?_,hr⟩ ?_ ⟨rfl,rfl,rfl,trivial⟩ ?_
       ·show i≤k+1;omega
       ·show l.length-(k+1)<m;omega
       ·show(xs++[o]).length≤k+1;rw[List.length_append];simp only[List.length_cons,List.length_nil];omega
       ·show l.length-(k+1)<l.length-j3;omega
       ·show _=[rdB l n es (k+1:Nat),eqZ,eqB (.sl 1 ((xs++[o]).map T.s) 3),.tail ((xs++[o]).map T.s).length]
        rw[List.map_append,List.map_cons,List.map_nil,List.length_append];rfl
     | false=>
     rw[h2,if_neg (by decide)]at t2
     rw[if_neg (by rw[h2];decide)]at hr
     simp only[PR.bind]at hr
     have hmo:(xs.map T.s++[T.s o])=(xs++[o]).map T.s:=by rw[List.map_append];rfl
     have hxo:(xs++[o]).length≤k:=by rw[List.length_append];simp only[List.length_cons,List.length_nil];omega
     refine wk ?_
     repeat' (first|refine wkt ?_|(apply TO.add;exact rfl;exact rfl;exact rfl;omega;omega)|refine wd t2 ?_|refine LoopK.exit ?_|exact wkc|intro hc|refine wk2 ?_ ?_|fail)
     rw[hmo]
     generalize xs++[o]=ys at*
     clear hmo t1 m3 t2
     obtain⟨m6,m6i⟩:=mustC l n es k [[41]] hl m4b (by decide)
     cases qm6:(rdr l es).must [[41]] k with
     | er ke c=>
       rw[qm6]at m6 m6i hr
       have hc0:=m6i.2
       replace m6:=m6.er
       try simp only[PR.vl]at m6
       simp only[PR.bind]at hr
       repeat' (first|refine wkt ?_|(apply TO.add;exact rfl;exact rfl;exact rfl;omega;omega)|refine we m6 ?_ ?_|exact wkc|intro hc|refine wk2 ?_ ?_|fail)
       repeat' (first|refine LoopK.panic ?_|refine wk ?_|fail)
       exact rdP hr.symm hc0
     | ok u6 j6=>
     rw[qm6]at m6 m6i hr
     obtain⟨m6a,m6b⟩:=m6i
     replace m6:=m6.ok
     try simp only[PR.vl]at m6
     simp only[PR.bind]at hr
     repeat' (first|refine wkt ?_|(apply TO.add;exact rfl;exact rfl;exact rfl;omega;omega)|refine we m6 ?_ ?_|exact wkc|intro hc|refine wk2 ?_ ?_|fail)
     unfold Rd.eqR at hr
     obtain⟨k1,k1i⟩:=mustC l n es j6 [[61]] hl m6b (by decide)
     cases qk1:(rdr l es).must [[61]] j6 with
     | er ke c=>
       rw[qk1]at k1 k1i hr
       have hc0:=k1i.2
       replace k1:=k1.er
       try simp only[PR.vl]at k1
       simp only[PR.bind]at hr
       repeat' (first|refine wkt ?_|(apply TO.add;exact rfl;exact rfl;exact rfl;omega;omega)|refine we k1 ?_ ?_|exact wkc|intro hc|refine wk2 ?_ ?_|fail)
       repeat' (first|refine LoopK.panic ?_|refine wk ?_|fail)
       exact rdP hr.symm hc0
     | ok u1 j1=>
     rw[qk1]at k1 k1i hr
     obtain⟨k1a,k1b⟩:=k1i
     replace k1:=k1.ok
     try simp only[PR.vl]at k1
     simp only[PR.bind]at hr
     repeat' (first|refine wkt ?_|(apply TO.add;exact rfl;exact rfl;exact rfl;omega;omega)|refine we k1 ?_ ?_|exact wkc|intro hc|refine wk2 ?_ ?_|fail)
     obtain⟨k2,k2i⟩:=exprC l n es j1 hk hes k1b
     cases qk2:(rdr l es).expr j1 with
     | er ke c=>
       rw[qk2]at k2 k2i hr
       have hc0:=k2i.2
       replace k2:=k2.er
       try simp only[PR.vl]at k2
       simp only[PR.bind]at hr
       repeat' (first|refine wkt ?_|(apply TO.add;exact rfl;exact rfl;exact rfl;omega;omega)|refine we k2 ?_ ?_|exact wkc|intro hc|refine wk2 ?_ ?_|fail)
       repeat' (first|refine LoopK.panic ?_|refine wk ?_|fail)
       exact rdP hr.symm hc0
     | ok e j2=>
     rw[qk2]at k2 k2i hr
     obtain⟨k2a,k2b⟩:=k2i
     replace k2:=k2.ok
     try simp only[PR.vl]at k2
     simp only[PR.bind]at hr
     rw[exT_eq e]at k2
     unfold exC at k2
     repeat' (first|refine wkt ?_|(apply TO.add;exact rfl;exact rfl;exact rfl;omega;omega)|refine we k2 ?_ ?_|exact wkc|intro hc|refine wk2 ?_ ?_|fail)
     obtain⟨k3,k3i⟩:=mustC l n es j2 [[59]] hl k2b (by decide)
     cases qk3:(rdr l es).must [[59]] j2 with
     | er ke c=>
       rw[qk3]at k3 k3i hr
       have hc0:=k3i.2
       replace k3:=k3.er
       try simp only[PR.vl]at k3
       simp only[PR.bind]at hr
       repeat' (first|refine wkt ?_|(apply TO.add;exact rfl;exact rfl;exact rfl;omega;omega)|refine we k3 ?_ ?_|exact wkc|intro hc|refine wk2 ?_ ?_|fail)
       repeat' (first|refine LoopK.panic ?_|refine wk ?_|fail)
       exact rdP hr.symm hc0
     | ok u3 j3=>
     rw[qk3]at k3 k3i hr
     obtain⟨k3a,k3b⟩:=k3i
     replace k3:=k3.ok
     try simp only[PR.vl]at k3
     simp only[PR.bind]at hr
     subst hr
     repeat' (first|refine wkt ?_|(apply TO.add;exact rfl;exact rfl;exact rfl;omega;omega)|refine we k3 ?_ ?_|exact wkc|intro hc|refine wk2 ?_ ?_|fail)
     apply rdV rfl
     ·exact rfl
     ·rw[vlE]
      show Le _ (.t (.ag (.sl 1 (ys.map T.s)::exC e)))
      unfold exC
      (repeat' (first|exact trivial|exact Go.TL.Le.refl _|refine And.intro ?_ ?_|exact Go.TL.Le.any _|exact Go.TL.Le.nil _|exact Go.TL.Le.own _ _ _|refine Go.TL.Le.tree rfl ?_|exact Go.TL.TLe.refl _|exact Go.TL.TLe.nil _|refine Go.TL.TLe.ags ?_|fail))
     all_goals exact rfl
   | false=>
   rw[h1]at t1
   have hid:(rdr l es).id j= .er j 5:=by unfold Rd.id;rw[h1];rfl
   have m4:=(idC l n es j hl q2).1
   rw[hid]at m4 hr
   have hc0:(5:Int)≠0:=by decide
   replace m4:=m4.er
   simp only[PR.vl]at m4
   rw[h1,if_neg (by decide)]at hr
   simp only[PR.bind]at hr
   refine wk ?_
   repeat' (first|refine wkt ?_|(apply TO.add;exact rfl;exact rfl;exact rfl;omega;omega)|refine wd t1 ?_|exact wkc|intro hc|refine wk2 ?_ ?_|fail)
   refine rgX 3 (g:=False) [(.ref 2 0,0,1),(.sl 1 (xs.map T.s) 3,0,1),(.ref 0 0,0,1),(.t (T.s []),1,0),(.t (.sl 1 [T.s []]),1,1),(.sl 1 ((xs.map T.s)++[T.s []]) 3,1,0),(.ref 2 0,0,2),(.t (.v undef),1,0)] [[rdB l n es j,eqZ,eqB (.sl 1 (xs.map T.s) 3),.tail ((xs.map T.s)).length],[rdB l n es j,eqZ,eqB (.sl 1 (xs.map T.s) 3),.tail ((xs.map T.s)).length],[rdB l n es j,eqZ,eqB (.sl 1 (xs.map T.s) 3),.tail (((xs.map T.s)).length+1)],[rdB l n es j,eqZ,eqB (.sl 1 ((xs.map T.s)++[T.s []]) 3),.tail (((xs.map T.s)).length+1)]] ?_ (fun h=>h.elim)
   repeat' (first|refine wkt ?_|exact trivial|exact⟨⟨rfl,rfl⟩,trivial⟩|refine And.intro (fun env=>?_) ?_|refine And.intro ?_ ?_|refine we m4 ?_ ?_|refine wk ?_|exact wkc|intro hc|refine wk2 ?_ ?_|fail)
   repeat' (first|refine LoopK.panic ?_|refine wk ?_|fail)
   exact rdP hr.symm hc0
 | false=>
 rw[h0,if_neg (by decide)]at t0
 rw[if_neg (by rw[h0];decide)]at hr
 repeat' (first|refine wkt ?_|(apply TO.add;exact rfl;exact rfl;exact rfl;omega;omega)|refine wd t0 ?_|exact wkc|intro hc|refine wk2 ?_ ?_|fail)
 clear t0
 obtain⟨m5,m5i⟩:=idC l n es i hl hi
 cases qm5:(rdr l es).id i with
 | er ke c=>
   rw[qm5]at m5 m5i hr
   have hc0:=m5i.2
   replace m5:=m5.er
   try simp only[PR.vl]at m5
   simp only[PR.bind]at hr
   repeat' (first|refine wkt ?_|(apply TO.add;exact rfl;exact rfl;exact rfl;omega;omega)|refine we m5 ?_ ?_|exact wkc|intro hc|refine wk2 ?_ ?_|fail)
   repeat' (first|refine LoopK.panic ?_|refine wk ?_|fail)
   exact rdP hr.symm hc0
 | ok s j5=>
 rw[qm5]at m5 m5i hr
 obtain⟨m5a,m5b⟩:=m5i
 replace m5:=m5.ok
 try simp only[PR.vl]at m5
 simp only[PR.bind]at hr
 repeat' (first|refine wkt ?_|(apply TO.add;exact rfl;exact rfl;exact rfl;omega;omega)|refine we m5 ?_ ?_|exact wkc|intro hc|refine wk2 ?_ ?_|fail)
 obtain⟨ys,hys⟩:∃ys:List Str,ys=[s]:=⟨_,rfl⟩
 rw[<-hys]at hr
 unfold Rd.eqR at hr
 obtain⟨k1,k1i⟩:=mustC l n es j5 [[61]] hl m5b (by decide)
 cases qk1:(rdr l es).must [[61]] j5 with
 | er ke c=>
   rw[qk1]at k1 k1i hr
   have hc0:=k1i.2
   replace k1:=k1.er
   try simp only[PR.vl]at k1
   simp only[PR.bind]at hr
   repeat' (first|refine wkt ?_|(apply TO.add;exact rfl;exact rfl;exact rfl;omega;omega)|refine we k1 ?_ ?_|exact wkc|intro hc|refine wk2 ?_ ?_|fail)
   repeat' (first|refine LoopK.panic ?_|refine wk ?_|fail)
   exact rdP hr.symm hc0
 | ok u1 j1=>
 rw[qk1]at k1 k1i hr
 obtain⟨k1a,k1b⟩:=k1i
 replace k1:=k1.ok
 try simp only[PR.vl]at k1
 simp only[PR.bind]at hr
 repeat' (first|refine wkt ?_|(apply TO.add;exact rfl;exact rfl;exact rfl;omega;omega)|refine we k1 ?_ ?_|exact wkc|intro hc|refine wk2 ?_ ?_|fail)
 obtain⟨k2,k2i⟩:=exprC l n es j1 hk hes k1b
 cases qk2:(rdr l es).expr j1 with
 | er ke c=>
   rw[qk2]at k2 k2i hr
   have hc0:=k2i.2
   replace k2:=k2.er
   try simp only[PR.vl]at k2
   simp only[PR.bind]at hr
   repeat' (first|refine wkt ?_|(apply TO.add;exact rfl;exact rfl;exact rfl;omega;omega)|refine we k2 ?_ ?_|exact wkc|intro hc|refine wk2 ?_ ?_|fail)
   repeat' (first|refine LoopK.panic ?_|refine wk ?_|fail)
   exact rdP hr.symm hc0
 | ok e j2=>
 rw[qk2]at k2 k2i hr
 obtain⟨k2a,k2b⟩:=k2i
 replace k2:=k2.ok
 try simp only[PR.vl]at k2
 simp only[PR.bind]at hr
 rw[exT_eq e]at k2
 unfold exC at k2
 repeat' (first|refine wkt ?_|(apply TO.add;exact rfl;exact rfl;exact rfl;omega;omega)|refine we k2 ?_ ?_|exact wkc|intro hc|refine wk2 ?_ ?_|fail)
 obtain⟨k3,k3i⟩:=mustC l n es j2 [[59]] hl k2b (by decide)
 cases qk3:(rdr l es).must [[59]] j2 with
 | er ke c=>
   rw[qk3]at k3 k3i hr
   have hc0:=k3i.2
   replace k3:=k3.er
   try simp only[PR.vl]at k3
   simp only[PR.bind]at hr
   repeat' (first|refine wkt ?_|(apply TO.add;exact rfl;exact rfl;exact rfl;omega;omega)|refine we k3 ?_ ?_|exact wkc|intro hc|refine wk2 ?_ ?_|fail)
   repeat' (first|refine LoopK.panic ?_|refine wk ?_|fail)
   exact rdP hr.symm hc0
 | ok u3 j3=>
 rw[qk3]at k3 k3i hr
 obtain⟨k3a,k3b⟩:=k3i
 replace k3:=k3.ok
 try simp only[PR.vl]at k3
 simp only[PR.bind]at hr
 subst hr
 repeat' (first|refine wkt ?_|(apply TO.add;exact rfl;exact rfl;exact rfl;omega;omega)|refine we k3 ?_ ?_|exact wkc|intro hc|refine wk2 ?_ ?_|fail)
 apply rdV rfl
 ·exact rfl
 ·rw[vlE]
  subst hys
  show Le _ (.t (.ag (.sl 1 [.s s]::exC e)))
  unfold exC
  (repeat' (first|exact trivial|exact Go.TL.Le.refl _|refine And.intro ?_ ?_|exact Go.TL.Le.any _|exact Go.TL.Le.nil _|exact Go.TL.Le.own _ _ _|refine Go.TL.Le.tree rfl ?_|exact Go.TL.TLe.refl _|exact Go.TL.TLe.nil _|refine Go.TL.TLe.ags ?_|fail))
 all_goals exact rfl
theorem equationC(l:List Tok)(n:Int)(es:List En)(i:Nat)(hk:TkOk l)(hes:EsOk es)(hi:i≤l.length):RdS l n es 92 [] i ((rdr l es).equation (rdr l es).expr i) (.t (equT (((rdr l es).equation (rdr l es).expr i).vl noQ)))/\InR l.length (i+1) ((rdr l es).equation (rdr l es).expr i):=by
 have h:=equation_in (R:=rdr l es) (f:=(rdr l es).expr) (fun j hj=>by rw[rdr_len]at hj⊢;exact(exprC l n es j hk hes hj).2) (i:=i) (by rw[rdr_len];exact hi)
 rw[rdr_len]at h
 exact⟨equation_sound l n es i hk hes hi,h⟩
end Go.Proofs.YtlfdkafebmdoiaaGreat
