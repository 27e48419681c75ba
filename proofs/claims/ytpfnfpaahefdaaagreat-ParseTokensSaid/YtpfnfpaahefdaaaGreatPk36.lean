import Derived.Test.YtpfnfpaahefdaaaGreatPk35
set_option linter.all false
namespace Go.Proofs.YtpfnfpaahefdaaaGreat
open Go Go.TL
attribute [local irreducible] TR TO Then zab RetK Sound zac Kf GG za2
theorem zgh(s:Str)(hs:s.length≤4000)(h0:(scan s).2.2=0):(join (scan s).1).length≤8000/\(scan (join (scan s).1)).2.2=0/\(scan (join (scan s).1)).1.map (fun t=>(t.1,t.2.1))=(scan s).1.map (fun t=>(t.1,t.2.1)):=by
 obtain⟨i1,i2,i3,i4⟩:=zjG (s.length+1) s
 rw[zdV (s:=s) (by omega)]at h0⊢
 generalize lexF (s.length+1) s=q at*
 obtain⟨ts,hts⟩:∃ts,ts=(placed s q).1:=⟨_,rfl⟩
 rw[<-hts]
 have hts':ts=q.1.map fun a=>(a.1,a.2.1,((s.length-a.2.2:Nat):Int)):=hts
 have htx:(ts.map fun t=>(zaJ t).length)=q.1.map fun a=>(zaJ (a.1,a.2.1,0)).length:=by
  rw[hts',qbQ]
  rfl
 have hl:ts.length=q.1.length:=by rw[hts'];simp
 have hok:∀t∈ts,zk7 t.1 t.2.1:=fun t ht=>by
  rw[hts']at ht
  obtain⟨a,ha,rfl⟩:=qa2.1 ht
  exact(i1 a ha).1
 have hj:=zky ts
 rw[htx]at hj
 have hj8:(join ts).length≤8000:=by omega
 obtain⟨g1,g2⟩:=zhJ ts hok ((join ts).length+1) (qbF _)
 refine⟨hj8,?_,?_⟩
 ·rw[zdV (by omega)]
  show(lexF ((join ts).length+1) (join ts)).2.2=0
  rw[g1]
 ·rw[zdV (by omega)]
  simp only[placed,qbQ]
  rw[<-g2]
  rfl
theorem ziS{l l':List Tok}(h:l.map (fun t=>(t.1,t.2.1))=l'.map (fun t=>(t.1,t.2.1)))(es:List En):rdr l es=rdr l' es:=by
 unfold rdr;rw[h]
theorem zl1(s:Str)(hs:s.length≤4000)(h0:(scan s).2.2=0):(zct (join (scan s).1)).1=(zct s).1/\(zct (join (scan s).1)).2.2=(zct s).2.2:=by
 obtain⟨h1,h2,h3⟩:=zgh s hs h0
 have hr:=ziS h3 []
 have hl:(scan (join (scan s).1)).1.length=(scan s).1.length:=by have:=congrArg List.length h3;rwa [qad,qad]at this
 unfold zct
 rw[if_neg (by rw[h2];decide),if_neg (by rw[h0];decide),hr,hl]
 cases (rdr (scan s).1 []).program 0 with
 | er k c=>exact⟨rfl,rfl⟩
 | ok p j=>
   simp only
   split
   ·exact⟨rfl,rfl⟩
   ·split <;> exact⟨rfl,rfl⟩
theorem pgJ(s:Str)(hs:s.length≤4000)(h0:(scan s).2.2=0):Pure Tryz.prog 7 [.s (join (scan s).1)] (.tup [.t (zeN (zct (join (scan s).1)).1),.i (zct (join (scan s).1)).2.1,.i (zct (join (scan s).1)).2.2]):=by
 obtain⟨h1,h2,h3⟩:=zgh s hs h0
 refine zgq _ (by omega) fun p j h=>?_
 rw[ziS h3 []]at h
 exact zkJ hs h
theorem zpP(s:Str)(hs:s.length≤4000):zfc (zct s).1 90000000:=by
 have h0:zfc noP 90000000:=⟨by decide,(fun u hu=>by cases hu),by decide,(fun n hn=>by cases hn)⟩
 unfold zct
 split
 ·exact h0
 ·cases hq:(rdr (scan s).1 []).program 0 with
  | er k c=>exact h0
  | ok p j=>
    simp only
    split
    ·exact h0
    ·split
     ·exact ziQ hs hq
     ·exact h0
set_option maxHeartbeats 8000000 in
theorem zhY (hS:∀p:Prog,zfc p 90000000->Pure Tryz.prog 11 [.t (zeN p),.t (zeN p)] (.b true)) (s:Str):Pure Tryz.prog 4 [.s s] (.b true):=by
 have ha:=zqu
 have h1:=ziY s
 by_cases hl:s.length≤4000
 ·rw[decide_eq_true hl]at h1
  have h2:=ze5 s
  by_cases h0:(scan s).2.2=0
  ·have h3:=pgA s hl
   have h4:=pgJ s hl h0
   obtain⟨g1,g2⟩:=zl1 s hl h0
   have h5:=zlB (scan s).1 (zgw s).len (by have:=(zgh s hl h0).1;omega)
   have h6:=hS _ (zpP s hl)
   rw[g1,g2]at h4
   generalize (zct (join (scan s).1)).2.1=i2 at h4
   generalize join (scan s).1=s2 at*
   clear g1 g2
   generalize zct s=z at*
   obtain⟨p,i,e⟩:=z
   generalize scan s=x at*
   obtain⟨l,a,c⟩:=x
   simp only at h0 h2 h3 h4 h5 h6
   subst h0
   rw[zhN]at h3 h4 h6
   refine so Tryz.func4 ?_
   repeat' (first|refine wkt ?_|refine wv h1 ?_|refine wv h2 ?_|refine wv h3 ?_|refine wv h5 ?_|refine wv h4 ?_|refine wv h6 ?_|refine wv ha ?_|refine wk ?_|exact wkc|(intro hc;exact absurd rfl hc)|intro hc|refine wk2 ?_ ?_|fail)
   exact wkr
  ·generalize scan s=x at*
   obtain⟨l,a,c⟩:=x
   simp only at h0 h2
   refine so Tryz.func4 ?_
   repeat' (first|refine wkt ?_|refine wv h1 ?_|refine wv h2 ?_|refine wv ha ?_|refine wk ?_|exact wkc|intro hc|refine wk2 ?_ ?_|fail)
   exact wkr
 ·rw[decide_eq_false hl]at h1
  refine so Tryz.func4 ?_
  repeat' (first|refine wkt ?_|refine wv h1 ?_|refine wv ha ?_|refine wk ?_|exact wkc|intro hc|refine wk2 ?_ ?_|fail)
  exact wkr
theorem zi5(s:Str):Pure Tryz.prog 4 [.s s] (.b true):=zhY znf s
end Go.Proofs.YtpfnfpaahefdaaaGreat
