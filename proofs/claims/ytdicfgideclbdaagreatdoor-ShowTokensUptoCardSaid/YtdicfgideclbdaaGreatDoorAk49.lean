import Derived.Test.YtdicfgideclbdaaGreatDoorAk28
import Derived.Test.YtdicfgideclbdaaGreatDoorAk39
import Derived.Test.YtdicfgideclbdaaGreatDoorAk40
import Derived.Test.YtdicfgideclbdaaGreatDoorAk48
set_option maxHeartbeats 64000000
set_option linter.all false
namespace Go.Proofs.YtdicfgideclbdaaGreatDoor
open Go Go.TL
attribute [local irreducible] TR TO Then zaj RetK Sound zac Kf GG zaQ
variable {p:Prog}
structure Rb (p:Prog) (s:Str):Prop where
 err:(scan s).2.2=0
 tk:(scan s).1.map (fun t=>(t.1,t.2.1))=tkPr p
theorem zBg(h:(zcO p).2=0)(hs:(zeU p).length≤65536):Rb p (zeU p):=by
 have h0:=(ziF (zc4 h).1).2;obtain⟨h1,h2⟩:=zx2 (fun u hu=>(h0 u hu).2.2) (fun n hn=>(zpn h n hn).1) ((zeU p).length+1) (qbF _);have hscan:=zeW hs;refine⟨?_,?_⟩
 ·rw[hscan];show(lexF _ _).2.2=0;rw[h2]
 ·rw[hscan,<-h1];simp only[placed,qa0];rfl
theorem zx6{s:Str}(h:(zcO p).2=0)(hr:Rb p s):∃j,(scan s).2.2=0/\(rdr (scan s).1 []).program 0= .ok p j/\¬j<(scan s).1.length/\j≤(scan s).1.length/\(zaX p).2=0:=by
 have hsh:=(zc4 h).1;obtain⟨⟨t1,t2⟩,t3⟩:=ziF hsh;have hl:(scan s).1.length=(tkPr p).length:=by rw[<-hr.tk,qac]
 have e:=zqR (fun u hu=>(t3 u hu).1) t1 (fun n hn=>(zpn h n hn).2 (tkPr p)) t2;refine⟨(tkPr p).length,hr.err,?_,oA,oA,hsh⟩;have hR:rdr (scan s).1 []=⟨tkPr p,[]⟩:=by unfold rdr;rw[hr.tk]
 rw[hR,e]
theorem zl3{s:Str}(hs:s.length≤65536):(join (scan s).1).length≤1000000000/\(scan s).1.length≤1000000/\∀t∈(scan s).1,zbQ t.1 t.2.1:=by
 obtain⟨i1,i2,i3,i4⟩:=zst (s.length+1) s;rw[zeW hs];generalize lexF (s.length+1) s=q at*;obtain⟨ts,hts⟩:∃ts,ts=(placed s q).1:=⟨_,rfl⟩;rw[<-hts];have hts':ts=q.1.map fun a=>(a.1,a.2.1,((s.length-a.2.2:Nat):Int)):=hts
 have htx:(ts.map fun t=>(zar t).length)=q.1.map fun a=>(zar (a.1,a.2.1,0)).length:=by
  rw[hts',qa0];rfl
 have hl:ts.length=q.1.length:=by rw[hts'];simp
 have hj:=zo6 ts;rw[htx]at hj;refine⟨oA,oA,fun t ht=>?_⟩;rw[hts']at ht;obtain⟨a,ha,rfl⟩:=qaL.1 ht;exact(i1 a ha).1
theorem zx5{s:Str}(hr:Rb p s)(hs:s.length≤65536)(hj:(join (scan s).1).length≤65536):Rb p (join (scan s).1):=by
 have hok:=(zl3 hs).2.2;have ht:=hr.tk;generalize (scan s).1=ts at*;obtain⟨g1,g2⟩:=zkC ts hok ((join ts).length+1) (qbF _);refine⟨?_,?_⟩
 ·rw[zeW hj];show(lexF ((join ts).length+1) (join ts)).2.2=0;rw[g1]
 ·rw[zeW hj,<-ht,<-g2];simp only[placed,qa0];rfl
def zms(p:Prog):Bool:=decide ((zcO p).2=0) && decide ((zgJ p).2=0) && decide ((zgJ p).1.length≤65536)
theorem zmt (p:Prog) (hw:(T.ag (zbr p)).w≤2200000):Pure Tryz.prog 7 [.t (.ag (zbr p))] (.tup [.s (zgJ p).1,.b (zms p)]):=by
 have s1:=zmv p (qax hw oB);have s2:=zdM p (qax hw oB) (zvu hw);unfold zms;generalize zgJ p=z at*;obtain⟨tx,c⟩:=z;generalize zcO p=y at*;obtain⟨⟨a1,a2⟩,y⟩:=y;dsimp only at s1 s2⊢;unfold zbr at*;by_cases h1:y=0
 ·by_cases h2:c=0
  ·subst h1 h2;rw[decide_eq_true (rfl:(0:Int)=0),qcq,qcq];by_cases h3:tx.length≤65536
   ·rw[decide_eq_true h3];exact zwbf
   ·rw[decide_eq_false h3];exact zwbf
  ·subst h1;rw[decide_eq_false h2,Bool.and_false,qcA];exact zwbf
 ·rw[decide_eq_false h1,qcA,qcA];exact zwbf
theorem zs1(h:zms p=true):(zcO p).2=0/\zgJ p=(zeU p,0)/\(zeU p).length≤65536:=by
 unfold zms at h;simp only[qar,decide_eq_true_eq]at h;obtain⟨⟨h1,h2⟩,h3⟩:=h;have h4:zgJ p=(zeU p,0):=by unfold zgJ;rw[oG (zc4 h1).1]
 rw[h4]at h3;exact⟨h1,h4,h3⟩
theorem zje (p:Prog) (hw:(T.ag (zbr p)).w≤2200000):Pure Tryz.prog 3 [.t (.ag (zbr p))] (.b true):=by
 have ha:=zyL;have hh:=zlW p (qax hw oB);have hr:=zmt p hw;have hs:=zdM p (qax hw oB) (zvu hw);have hpt:zsU p= .ag [.sl 2 (p.enums.map enT),.sl 8 (p.nodes.map nodT)]:=rfl;have hpc:zbr p=[.sl 2 (p.enums.map enT),.sl 8 (p.nodes.map nodT)]:=rfl;cases hv:zsf p with
 | true=>
   rw[hv]at hh;rw[hpc]at*;refine so Tryz.func3 ?_;repeat' (first|refine wu ?_|exact wkc|refine wk2 ?_ ?_|refine wv hh ?_|refine wv ha ?_|intro hc)
   exact wkr
 | false=>
 rw[hv]at hh;cases hb:zms p with
 | false=>
   rw[hb]at hr;generalize (zgJ p).1=tx at*;rw[hpc]at*;refine so Tryz.func3 ?_;repeat' (first|refine wu ?_|exact wkc|refine wk2 ?_ ?_|refine wv hh ?_|refine wv hr ?_|refine wv ha ?_|intro hc)
   all_goals exact wkr
 | true=>
   obtain⟨h1,h2,h3⟩:=zs1 hb;rw[h2]at hr hs;rw[hb]at hr;dsimp only at hr hs;have hb0:=zBg h1 h3;have hsc:=zjW (zeU p);obtain⟨j1,j2,j3⟩:=zl3 h3;have hjo:=zqA (scan (zeU p)).1 j2 j1;have hrj:=zx5 hb0 h3;have hse:=hb0.err;generalize zeU p=tx at*;generalize scan tx=y at*;obtain⟨y1,y2,y3⟩:=y;dsimp only at*;subst hse;unfold zzZ at hsc;by_cases hj:(join y1).length≤65536
   ·have hP:=znV (join y1) (qax hj oB) (qax hw oB) (zx6 h1 (hrj hj));rw[hpt]at hP;generalize join y1=tj at*;rw[hpc]at*;refine so Tryz.func3 ?_;repeat' (first|refine wu ?_|exact wkc|refine wk2 ?_ ?_|refine wv hh ?_|refine wv hr ?_|refine wv hsc ?_|refine wv hjo ?_|refine wv hP ?_|refine wv hs ?_|refine wv ha ?_|intro hc)
    all_goals first
     | exact wkr
     | (exfalso;omega)
   ·generalize join y1=tj at*;rw[hpc]at*;refine so Tryz.func3 ?_;repeat' (first|refine wu ?_|exact wkc|refine wk2 ?_ ?_|refine wv hh ?_|refine wv hr ?_|refine wv hsc ?_|refine wv hjo ?_|refine wv ha ?_|intro hc)
    all_goals first
     | exact wkr
     | (exfalso;omega)
end Go.Proofs.YtdicfgideclbdaaGreatDoor
