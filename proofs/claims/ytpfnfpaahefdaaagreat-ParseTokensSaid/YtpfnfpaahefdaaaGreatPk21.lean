import Derived.Test.YtpfnfpaahefdaaaGreatPk20
set_option linter.all false
namespace Go.Proofs.YtpfnfpaahefdaaaGreat
open Go Go.TL
attribute [local irreducible] TR TO Then zab RetK Sound zac Kf GG za2
set_option maxHeartbeats 4000000 in
theorem zlT (l:List Tok) (n:Int) (es:List En) (i:Nat) (hi:i≤l.length) (hk:TkOk l) (hes:EsOk es) (g0:(rdr l es).neg i=false) (g1:(rdr l es).isAt i [45]=false) (g2:(rdr l es).kind i 2=false) (g3:(rdr l es).kind i 5=false) (g4:(rdr l es).isAt i [116,114,117,101]=false) (g5:(rdr l es).isAt i [102,97,108,115,101]=false) (g6:(rdr l es).isAt i [40]=false) (g7:(rdr l es).isAt i [105,102]=false) (g8:(rdr l es).isAt i [109,101,114,103,101]=false) {fc:Str->Nat->PR Ex}
  (hc:∀s j,i<j->j≤l.length->ExR l n es 106 [.s s] j (fc s j)/\InR l.length j (fc s j)):
  ExR l n es 94 [] i (((rdr l es).id i).bind fun s j=>if(rdr l es).isAt j [40]=true then fc s (j+1) else match (rdr l es).tag s with
  | some tv=>.ok (mkE 1 0 tv.1 tv.2 [] []) j
  | none=>.ok (mkE 2 0 0 0 s []) j):=by
 have hl:=hk.len
 have hn:=zbJ l n es i hl hi
 rw[g0]at hn
 have h1:=zaO l n es i [45] hl
 rw[g1]at h1
 have h2:=zaK l n es i 2 hl
 rw[g2]at h2
 have h3:=zaK l n es i 5 hl
 rw[g3]at h3
 have h4:=zal l n es i [116,114,117,101] hl hi
 rw[g4,if_neg (by decide)]at h4
 have h5:=zal l n es i [102,97,108,115,101] hl hi
 rw[g5,if_neg (by decide)]at h5
 have h6:=zal l n es i [40] hl hi
 rw[g6,if_neg (by decide)]at h6
 have h7:=zal l n es i [105,102] hl hi
 rw[g7,if_neg (by decide)]at h7
 have h8:=zal l n es i [109,101,114,103,101] hl hi
 rw[g8,if_neg (by decide)]at h8
 have q1:=zdT l n es i hl hi
 have hin:=zea (R:=rdr l es) (i:=i) (by rw[zaf];exact hi)
 rw[zaf]at hin
 generalize hr:(((rdr l es).id i).bind fun s j=>_)=r
 refine Sound.err rfl (fun _=>rfl) ?_
 cases hq1:(rdr l es).id i with
 | er k c=>
   rw[hq1]at q1 hin hr
   have hc0:=hin.2
   replace q1:=q1.er
   simp only[PR.vl]at q1
   simp only[PR.bind]at hr
   refine so Tryz.func94 ?_
   repeat' (first|refine wu ?_|exact wkc|intro hc|refine wk2 ?_ ?_|refine wd hn ?_|refine wd h1 ?_|refine wd h2 ?_|refine wd h3 ?_|refine wd h4 ?_|refine wd h5 ?_|refine wd h6 ?_|refine wd h7 ?_|refine wd h8 ?_|refine we q1 ?_ ?_|fail)
   exact rdP hr.symm hc0
 | ok s j=>
 rw[hq1]at q1 hin hr
 replace q1:=q1.ok
 obtain⟨hj1,hj2⟩:=hin
 simp only[PR.vl]at q1
 simp only[PR.bind]at hr
 have ht:=zal l n es j [40] hl hj2
 cases hw:(rdr l es).isAt j [40] with
 | true=>
   have hlt:=zam hw
   rw[zaf]at hlt
   rw[hw,if_pos rfl]at ht
   rw[if_pos hw]at hr
   obtain⟨hx,hin⟩:=hc s (j+1) (by omega) hlt
   rw[hr]at hx hin
   clear hr
   cases r with
   | er k c=>
     have hc0:=hin.2
     replace hx:=hx.er
     simp only[PR.vl]at hx
     refine so Tryz.func94 ?_
     repeat' (first|refine wu ?_|exact wkc|intro hc|refine wk2 ?_ ?_|refine wd hn ?_|refine wd h1 ?_|refine wd h2 ?_|refine wd h3 ?_|refine wd h4 ?_|refine wd h5 ?_|refine wd h6 ?_|refine wd h7 ?_|refine wd h8 ?_|refine we q1 ?_ ?_|refine wd ht ?_|refine we hx ?_ ?_|fail)
     exact rdP rfl hc0
   | ok e k=>
     replace hx:=hx.ok
     simp only[PR.vl]at hx⊢
     rw[zao]at hx⊢
     unfold exC at hx⊢
     refine so Tryz.func94 ?_
     repeat' (first|refine wu ?_|exact wkc|intro hc|refine wk2 ?_ ?_|refine wd hn ?_|refine wd h1 ?_|refine wd h2 ?_|refine wd h3 ?_|refine wd h4 ?_|refine wd h5 ?_|refine wd h6 ?_|refine wd h7 ?_|refine wd h8 ?_|refine we q1 ?_ ?_|refine wd ht ?_|refine we hx ?_ ?_|fail)
     apply rdV rfl
     ·exact rfl
     ·exact zqa
     all_goals exact rfl
 | false=>
   rw[hw,if_neg (by decide)]at ht
   rw[if_neg (by rw[hw];decide)]at hr
   have hg:=ze7 l n es j s hes
   cases hqt:(rdr l es).tag s with
   | some tv=>
     rw[hqt]at hg hr
     simp only at hr
     subst hr
     unfold tagR at hg
     obtain⟨b1,b2,w,b3,b4⟩:=zns hes hqt
     have b5:=hes.len
     have b6:=hes.tags w (qaB b3)
     rw[vlE,zbG _ _ _ _ _ _ rfl rfl (zci (by omega)) (zci (by omega)),qas]
     refine so Tryz.func94 ?_
     repeat' (first|refine wu ?_|exact wkc|intro hc|refine wk2 ?_ ?_|refine wd hn ?_|refine wd h1 ?_|refine wd h2 ?_|refine wd h3 ?_|refine wd h4 ?_|refine wd h5 ?_|refine wd h6 ?_|refine wd h7 ?_|refine wd h8 ?_|refine we q1 ?_ ?_|refine wd ht ?_|refine wd hg ?_|fail)
     apply rdV rfl
     ·exact rfl
     ·exact zqa
     all_goals exact rfl
   | none=>
     rw[hqt]at hg hr
     simp only at hr
     subst hr
     unfold tagR at hg
     rw[vlE,zbG _ _ _ _ _ _ rfl rfl rfl rfl,qas]
     refine so Tryz.func94 ?_
     repeat' (first|refine wu ?_|exact wkc|intro hc|refine wk2 ?_ ?_|refine wd hn ?_|refine wd h1 ?_|refine wd h2 ?_|refine wd h3 ?_|refine wd h4 ?_|refine wd h5 ?_|refine wd h6 ?_|refine wd h7 ?_|refine wd h8 ?_|refine we q1 ?_ ?_|refine wd ht ?_|refine wd hg ?_|fail)
     apply rdV rfl
     ·exact rfl
     ·exact zqa
     all_goals exact rfl
set_option maxHeartbeats 8000000 in
theorem zjb (l:List Tok) (n:Int) (es:List En) (i t v:Nat) (known:Bool) (hk:TkOk l) (hes:EsOk es):
  RdS l n es 116 [.i t,.i v,.b known] i ((rdr l es).wanted t v known i) (.tup []):=by
 have hl:=hk.len
 have h1:=zaO l n es i [116,114,117,101] hl
 have h2:=zaO l n es i [102,97,108,115,101] hl
 have h3:=zaK l n es i 1 hl
 have hf:=zbi l n es i i 5 (by decide) hl
 generalize hr:(rdr l es).wanted t v known i=r
 unfold Rd.wanted at hr
 refine Sound.err rfl (fun _=>rfl) ?_
 cases hb1:(rdr l es).isAt i [116,114,117,101] with
 | true=>
   rw[hb1]at h1
   rw[if_pos hb1]at hr
   by_cases c1:t=1 <;> by_cases c2:v=1 <;> cases known <;> simp[c1,c2]at hr
   all_goals
    refine so Tryz.func116 ?_
    repeat' (first|refine wu ?_|exact wkc|intro hc|refine wk2 ?_ ?_|refine wd h1 ?_|refine we hf ?_ ?_|fail)
    first
     | exact rdP hr.symm (by decide)
     | exact rdV (vs:=[]) hr.symm rfl (Le.refl _) rfl rfl rfl
     | exact rdN (vs:=[]) hr.symm rfl (Le.refl _) rfl rfl rfl
 | false=>
   rw[hb1]at h1
   rw[if_neg (by rw[hb1];decide)]at hr
   cases hb2:(rdr l es).isAt i [102,97,108,115,101] with
   | true=>
     rw[hb2]at h2
     rw[if_pos hb2]at hr
     by_cases c1:t=1 <;> by_cases c2:v=1 <;> cases known <;> simp[c1,c2]at hr
     all_goals
      refine so Tryz.func116 ?_
      repeat' (first|refine wu ?_|exact wkc|intro hc|refine wk2 ?_ ?_|refine wd h1 ?_|refine wd h2 ?_|refine we hf ?_ ?_|fail)
      first
       | exact rdP hr.symm (by decide)
       | exact rdV (vs:=[]) hr.symm rfl (Le.refl _) rfl rfl rfl
       | exact rdN (vs:=[]) hr.symm rfl (Le.refl _) rfl rfl rfl
   | false=>
     rw[hb2]at h2
     rw[if_neg (by rw[hb2];decide)]at hr
     cases hb3:(rdr l es).kind i 1 with
     | false=>
       rw[hb3]at h3
       rw[if_pos hb3]at hr
       refine so Tryz.func116 ?_
       repeat' (first|refine wu ?_|exact wkc|intro hc|refine wk2 ?_ ?_|refine wd h1 ?_|refine wd h2 ?_|refine wd h3 ?_|refine we hf ?_ ?_|fail)
       exact rdP hr.symm (by decide)
     | true=>
       obtain⟨hlt,_⟩:=zfE hb3
       rw[hb3]at h3
       rw[if_neg (by rw[hb3];decide)]at hr
       have hg:=ze7 l n es i ((rdr l es).txt i) hes
       have hml:(l.map tokT).length=l.length:=qad _
       have hx:=zcK hlt
       rw[zh4 hlt]at hr hg
       generalize l[i]=tk at*
       cases hqt:(rdr l es).tag tk.2.1 with
       | none=>
         rw[hqt]at hg hr
         unfold tagR at hg
         simp only at hr
         cases known <;> simp at hr
         all_goals
          refine so Tryz.func116 ?_
          repeat' (first|refine wkt ?_|(apply TO.want;exact rfl)|refine wd h1 ?_|refine wd h2 ?_|refine wd h3 ?_|exact wkc|intro hc|refine wk2 ?_ ?_|fail)
          refine rgS [.ref 0 0,.ref 0 0,.ref 0 0,.ref 0 0,.t (.sl 3 (l.map tokT)),.ref 0 0,.ref 0 0,.ref 0 2,.i i,.cp [T.i tk.1,.s tk.2.1,T.i tk.2.2] 0,.cp [T.i tk.1,.s tk.2.1,T.i tk.2.2] 1,.s tk.2.1,.tup [.i 0,.i 0,.b false],.tup [.i 0,.i 0,.b false],.i 0,.i 0,.b false,.i 0,.i 0,.b false] ?_ ?_
          ·repeat' (first|refine wkt ?_|exact trivial|exact⟨⟨rfl,rfl⟩,trivial⟩|refine qai (fun env=>?_) ?_|refine qai ?_ ?_|refine wd hg ?_|refine wk ?_|exact wkc|intro hc|refine wk2 ?_ ?_|fail)
           done
          ·repeat' (first|refine wu ?_|exact wkc|intro hc|refine wk2 ?_ ?_|refine we hf ?_ ?_|fail)
           exact zwck
       | some uw=>
         rw[hqt]at hg hr
         unfold tagR at hg
         obtain⟨u,w⟩:=uw
         simp only at hr hg
         cases known with
         | true=>
           replace hr:(if u≠t\/w≠v then PR.er i 5 else PR.ok () i)=r:=by simpa using hr
           by_cases c1:u=t <;> by_cases c2:w=v
           ·exact zwc
           all_goals
            rw[if_pos (by omega)]at hr
            refine so Tryz.func116 ?_
            repeat' (first|refine wkt ?_|(apply TO.want;exact rfl)|refine wd h1 ?_|refine wd h2 ?_|refine wd h3 ?_|exact wkc|intro hc|refine wk2 ?_ ?_|fail)
            refine rgS [.ref 0 0,.ref 0 0,.ref 0 0,.ref 0 0,.t (.sl 3 (l.map tokT)),.ref 0 0,.ref 0 0,.ref 0 2,.i i,.cp [T.i tk.1,.s tk.2.1,T.i tk.2.2] 0,.cp [T.i tk.1,.s tk.2.1,T.i tk.2.2] 1,.s tk.2.1,.tup [.i (u:Int),.i (w:Int),.b true],.tup [.i (u:Int),.i (w:Int),.b true],.i (u:Int),.i (w:Int),.b true,.i (u:Int),.i (w:Int),.b true] ?_ ?_
            ·repeat' (first|refine wkt ?_|exact trivial|exact⟨⟨rfl,rfl⟩,trivial⟩|refine qai (fun env=>?_) ?_|refine qai ?_ ?_|refine wd hg ?_|refine wk ?_|exact wkc|intro hc|refine wk2 ?_ ?_|fail)
             done
            ·repeat' (first|refine wu ?_|exact wkc|intro hc|refine wk2 ?_ ?_|refine we hf ?_ ?_|fail)
             exact zwck
         | false=>
           replace hr:(if w≠0 then PR.er i 5 else PR.ok () i)=r:=by simpa using hr
           by_cases c2:w=0
           ·exact zwc
           ·rw[if_pos (by omega)]at hr
            refine so Tryz.func116 ?_
            repeat' (first|refine wkt ?_|(apply TO.want;exact rfl)|refine wd h1 ?_|refine wd h2 ?_|refine wd h3 ?_|exact wkc|intro hc|refine wk2 ?_ ?_|fail)
            refine rgS [.ref 0 0,.ref 0 0,.ref 0 0,.ref 0 0,.t (.sl 3 (l.map tokT)),.ref 0 0,.ref 0 0,.ref 0 2,.i i,.cp [T.i tk.1,.s tk.2.1,T.i tk.2.2] 0,.cp [T.i tk.1,.s tk.2.1,T.i tk.2.2] 1,.s tk.2.1,.tup [.i (u:Int),.i (w:Int),.b true],.tup [.i (u:Int),.i (w:Int),.b true],.i (u:Int),.i (w:Int),.b true,.i (u:Int),.i (w:Int),.b true] ?_ ?_
            ·repeat' (first|refine wkt ?_|exact trivial|exact⟨⟨rfl,rfl⟩,trivial⟩|refine qai (fun env=>?_) ?_|refine qai ?_ ?_|refine wd hg ?_|refine wk ?_|exact wkc|intro hc|refine wk2 ?_ ?_|fail)
             done
            ·repeat' (first|refine wu ?_|exact wkc|intro hc|refine wk2 ?_ ?_|refine we hf ?_ ?_|fail)
             exact zwck
theorem zlX(l:List Tok)(n:Int)(es:List En)(i:Nat)(hi:i≤l.length)(hk:TkOk l)(hes:EsOk es){f g:Nat->PR Ex}
  (he:∀j,i<j->j≤l.length->ExR l n es 34 [] j (f j)/\InR l.length (j+1) (f j))
  (hm:(rdr l es).isAt i [109,101,114,103,101]=true->ExR l n es 105 [] (i+1) ((rdr l es).merge f (i+1))/\InR l.length (i+1) ((rdr l es).merge f (i+1)))
  (hc:∀s j,i<j->j≤l.length->ExR l n es 106 [.s s] j ((rdr l es).call f g s j)/\InR l.length j ((rdr l es).call f g s j)):
  ExR l n es 94 [] i ((rdr l es).prim f g i):=by
 unfold Rd.prim
 cases g0:(rdr l es).neg i with
 | true=>rw[if_pos rfl];exact zon l n es i hi hk g0
 | false=>
 rw[if_neg (by decide)]
 cases g1:(rdr l es).isAt i [45] with
 | true=>rw[if_pos rfl];exact zlV l n es i hi hk g0 g1
 | false=>
 rw[if_neg (by decide)]
 cases g2:(rdr l es).kind i 2 with
 | true=>rw[if_pos rfl];exact zoo l n es i hi hk g0 g1 g2
 | false=>
 rw[if_neg (by decide)]
 cases g3:(rdr l es).kind i 5 with
 | true=>rw[if_pos rfl];exact zop l n es i hi hk g0 g1 g2 g3
 | false=>
 rw[if_neg (by decide)]
 cases g4:(rdr l es).isAt i [116,114,117,101] with
 | true=>rw[if_pos rfl];exact zm6 l n es i hi hk g0 g1 g2 g3 g4
 | false=>
 rw[if_neg (by decide)]
 cases g5:(rdr l es).isAt i [102,97,108,115,101] with
 | true=>rw[if_pos rfl];exact zlS l n es i hi hk g0 g1 g2 g3 g4 g5
 | false=>
 rw[if_neg (by decide)]
 cases g6:(rdr l es).isAt i [40] with
 | true=>rw[if_pos rfl];exact zlW l n es i hi hk g0 g1 g2 g3 g4 g5 g6 he
 | false=>
 rw[if_neg (by decide)]
 cases g7:(rdr l es).isAt i [105,102] with
 | true=>rw[if_pos rfl];exact zpQ l n es i hi hk g0 g1 g2 g3 g4 g5 g6 g7 he
 | false=>
 rw[if_neg (by decide)]
 cases g8:(rdr l es).isAt i [109,101,114,103,101] with
 | true=>rw[if_pos rfl];exact zlU l n es i hi hk g0 g1 g2 g3 g4 g5 g6 g7 g8 (hm g8)
 | false=>
 rw[if_neg (by decide)]
 exact zlT l n es i hi hk hes g0 g1 g2 g3 g4 g5 g6 g7 g8 hc
def G.rank:G->Nat
 | .expr=>9
 | .level n=>8-n
 | .unary=>1
 | .prim=>0
def ExG(l:List Tok)(n:Int)(es:List En)(i:Nat)(r:PR Ex):G->Prop
 | .expr=>ExR l n es 34 [] i r
 | .level k=>k≤6->ExR l n es 62 [.i k] i r
 | .unary=>ExR l n es 80 [] i r
 | .prim=>ExR l n es 94 [] i r
def zoN(l:List Tok)(n:Int)(es:List En):Prop:=∀(f:Nat->PR Ex) (i:Nat),i≤l.length->(∀j,i≤j->j≤l.length->ExR l n es 34 [] j (f j)/\InR l.length (j+1) (f j))->
 ExR l n es 105 [] i ((rdr l es).merge f i)
def zp4(l:List Tok)(n:Int)(es:List En):Prop:=∀(f g:Nat->PR Ex) (s:Str) (i:Nat),i≤l.length->(∀j,i≤j->j≤l.length->ExR l n es 34 [] j (f j)/\InR l.length (j+1) (f j))->
 (∀j,i≤j->j≤l.length->ExR l n es 94 [] j (g j)/\InR l.length (j+1) (g j))->
 ExR l n es 106 [.s s] i ((rdr l es).call f g s i)
theorem zol(l:List Tok)(n:Int)(es:List En)(hk:TkOk l)(hes:EsOk es)(hM:zoN l n es)(hC:zp4 l n es):
  ∀(m:Nat) (g:G) (i:Nat),i≤l.length->10*(l.length-i)+g.rank<m->ExG l n es i (pF (rdr l es) m g i) g:=by
 have hin:∀(m:Nat) (g:G) {i:Nat},i≤l.length->InR l.length (i+1) (pF (rdr l es) m g i):=fun m g i h=>by
  have:=zdy (R:=rdr l es) m g (i:=i) (by rw[zaf];exact h)
  rw[zaf]at this
  exact this
 intro m
 induction m with
 | zero=>intro g i _ h;omega
 | succ m ih=>
   intro g i hi hm
   cases g with
   | expr=>
     have hm:10*(l.length-i)+9<m+1:=hm
     show ExR _ _ _ _ _ _ _
     unfold pF
     exact zlp l n es i hk.len hi (fe:=pF (rdr l es) m .expr) ⟨ih (.level 0) i hi (by show 10*(l.length-i)+8<m;omega) (by decide),hin _ _ hi⟩ fun j h1 h2=>⟨ih .expr j h2 (by show 10*(l.length-j)+9<m;omega),hin _ _ h2⟩
   | level k=>
     have hm:10*(l.length-i)+(8-k)<m+1:=hm
     show k≤6->ExR _ _ _ _ _ _ _
     intro h6
     unfold pF
     by_cases h2:k=2
     ·subst h2
      rw[if_pos rfl]
      refine ziD l n es i hk.len hi (fun hb=>?_) ?_
      ·have hlt:=zam hb
       rw[zaf]at hlt
       exact⟨ih (.level 2) (i+1) hlt (by show 10*(l.length-(i+1))+6<m;omega) (by decide),(hin _ _ hlt).le (by omega)⟩
      ·exact⟨ih (.level 3) i hi (by show 10*(l.length-i)+5<m;omega) (by decide),(hin _ _ hi).le (by omega)⟩
     rw[if_neg h2]
     by_cases h7:k=6
     ·subst h7
      rw[if_pos rfl]
      exact ziE l n es i ⟨ih .unary i hi (by show 10*(l.length-i)+1<m;omega),hin _ _ hi⟩
     rw[if_neg h7]
     exact ziF l n es i k hk.len hi hk.short h2 h7 (by omega) (f:=pF (rdr l es) m (.level (k+1))) fun j h3 h4=>⟨ih (.level (k+1)) j h4 (by show 10*(l.length-j)+(8-(k+1))<m;omega) (by omega),hin _ _ h4⟩
   | unary=>
     have hm:10*(l.length-i)+1<m+1:=hm
     show ExR _ _ _ _ _ _ _
     unfold pF
     refine zj6 l n es i hk.len hi hes (fun hb=>?_) ⟨ih .prim i hi (by show 10*(l.length-i)+0<m;omega),hin _ _ hi⟩
     have hlt:i<l.length:=by
      rcases hb with hb|hb
      ·have:=zam hb;rw[zaf]at this;exact this
      ·have:=zam hb;rw[zaf]at this;exact this
     exact⟨ih .unary (i+1) hlt (by show 10*(l.length-(i+1))+1<m;omega),(hin _ _ hlt).le (by omega)⟩
   | prim=>
     have hm:10*(l.length-i)+0<m+1:=hm
     show ExR _ _ _ _ _ _ _
     unfold pF
     have hE:∀j,i<j->j≤l.length->ExR l n es 34 [] j (pF (rdr l es) m .expr j)/\InR l.length (j+1) (pF (rdr l es) m .expr j):=fun j h1 h2=>⟨ih .expr j h2 (by show 10*(l.length-j)+9<m;omega),hin _ _ h2⟩
     have hP:∀j,i<j->j≤l.length->ExR l n es 94 [] j (pF (rdr l es) m .prim j)/\InR l.length (j+1) (pF (rdr l es) m .prim j):=fun j h1 h2=>⟨ih .prim j h2 (by show 10*(l.length-j)+0<m;omega),hin _ _ h2⟩
     refine zlX l n es i hi hk hes hE (fun hb=>?_) (fun s j h1 h2=>?_)
     ·have hlt:=zam hb
      rw[zaf]at hlt
      refine⟨hM _ (i+1) hlt fun j h1 h2=>hE j (by omega) h2,?_⟩
      have:=zkD (R:=rdr l es) (f:=pF (rdr l es) m .expr) (fun j hj=>zdy m .expr hj) (i:=i+1) (by rw[zaf];exact hlt)
      rw[zaf]at this
      exact this.le (by omega)
     ·refine⟨hC _ _ s j h2 (fun k h3 h4=>hE k (by omega) h4) (fun k h3 h4=>hP k (by omega) h4),?_⟩
      have:=zmp (R:=rdr l es) (f:=pF (rdr l es) m .expr) (g:=pF (rdr l es) m .prim) (fun j hj=>zdy m .expr hj) (fun j hj=>zdy m .prim hj) s (i:=j) (by rw[zaf];exact h2)
      rw[zaf]at this
      exact this.le (by omega)
end Go.Proofs.YtpfnfpaahefdaaaGreat
namespace Go.TL
open Go
theorem TO.zbM{P:Program}{n:Nat}{env:Env}{K:TK}{all:Array Oper}{ops:List Oper}{H:Heap}(sz id j:Nat){cs:List SV}{H':Heap}(hH:H[id]?=some (.cells cs))(hi:cs[j]?=some (.t (.v (.slice none 0 0))))(hH':H.set id (.cells (cs.set j (.sl sz [] H.length)))++[.tail 0]=H')
  (k:TO false P n all ops env H' K):TO false P n all ops env H K:=by
 intro φ m a h1 h2 h3 h4
 obtain⟨s,hm'⟩:=zgc h2
 have hid:=(qaa.1 hH).1
 have hjl:=(qaa.1 hi).1
 have hH1:m.H[id]?=some (.cells cs):=by rw[h1];exact hH
 obtain⟨p,hp⟩:∃p,m.β[id]?=some p:=⟨_,qab (by rw[h2.len,h1];exact hid)⟩
 obtain⟨b1,b2,b3⟩:=h2.blk id p _ hp hH1
 have hH2:(m.H++[Blk.tail 0])[id]?=some (.cells cs):=by rw[qao (by rw[h1];exact hid)];exact hH1
 have hp2:(m.β++[(⟨0,0,0⟩:Place)])[id]?=some p:=by rw[qao (qaa.1 hp).1];exact hp
 obtain⟨s2,hm2⟩:=upd (m:=⟨m.A,m.β++[⟨0,0,0⟩],m.H++[.tail 0],m.w⟩) hm' (cs':=cs.set j (.sl sz [] m.H.length)) (w':=m.w) hp2 hH2 rfl rfl rfl rfl (fun _ _=>rfl) (fun _ _=>rfl) (fun _=>rfl) (fun _=>rfl) (fun _ h=>h) (by simpa using b1) (by omega) (fun q c hc=>by
  by_cases hq:q=j
  ·exact zwcn
  ·rw[qau (by omega)]at hc
   obtain⟨y,hy1,hy0,hy2⟩:=b3 q c hc
   exact⟨y,hy1,hy0,s.srel h2 hy2⟩)
 refine za3 (fun _ _ _ hp=>hp.step (s.trans s2)) (fun _ _=>Post.zcr) _ _ _ (k φ ⟨m.A,m.β++[⟨0,0,0⟩],(m.H++[Blk.tail 0]).set id (.cells (cs.set j (.sl sz [] m.H.length))),m.w⟩ a ?_ hm2 ((h3.step h2 s).step hm' s2) h4)
 rw[<-hH',<-h1]
 show(m.H++[Blk.tail 0]).set id _=_
 rw[qbt _ _ (by rw[h1];exact hid)]
end Go.TL
namespace Go.Proofs.YtpfnfpaahefdaaaGreat
open Go Go.TL
attribute [local irreducible] TR TO Then zab RetK Sound zac Kf GG za2
abbrev cB (s:Str)(xs:List T):Blk:=.cells [.t (.i 10),.t (.v (.int .i64 0)),.t (.v (.int .i64 0)),.t (.v (.int .i64 0)),.t (.s s),.sl 6 xs 3]
end Go.Proofs.YtpfnfpaahefdaaaGreat
namespace Go.Proofs.YtpfnfpaahefdaaaGreat
open Go Go.TL
attribute [local irreducible] TR TO Then zab RetK Sound zac Kf GG za2
set_option maxHeartbeats 4000000 in
theorem zlg (l:List Tok) (n:Int) (es:List En) (s:Str) (i:Nat) (hl:l.length≤1000000) (hi:i≤l.length) (h1:(rdr l es).isAt i [41]=false) {k:Nat} {c:Int} {fe:PR Ex} (hf:fe= .er k c)
  (he:ExR l n es 34 [] i fe/\InR l.length (i+1) fe):
  ExR l n es 106 [.s s] i (.er k c):=by
 have t1:=zal l n es i [41] hl hi
 rw[h1,if_neg (by decide)]at t1
 obtain⟨hx,hin⟩:=he
 subst hf
 have hc0:=hin.2
 replace hx:=hx.er
 simp only[PR.vl]at hx
 refine Sound.err rfl (fun _=>rfl) ?_
 refine so Tryz.func106 ?_
 repeat' (first|refine wkb ?_|refine wk ?_|exact wkc|intro hc|refine wk2 ?_ ?_|fail)
 refine TO.zbM 6 2 5 rfl rfl rfl ?_
 repeat' (first|refine wkt ?_|refine wd t1 ?_|exact wkc|intro hc|refine wk2 ?_ ?_|fail)
 refine rgX 3 (g:=False) [(.ref 2 5,0,1),(.sl 6 ([]:List T) 3,0,1),(.ref 0 0,0,1),(.t (.ag [T.n noE.kind,T.n noE.op,T.n noE.t,T.n noE.v,T.s noE.name,T.sl 6 (noE.args.map exT)]),1,0),(.t (.sl 6 [.ag [T.n noE.kind,T.n noE.op,T.n noE.t,T.n noE.v,T.s noE.name,T.sl 6 (noE.args.map exT)]]),1,1),(.sl 6 (([]:List T)++[.ag [T.n noE.kind,T.n noE.op,T.n noE.t,T.n noE.v,T.s noE.name,T.sl 6 (noE.args.map exT)]]) 3,1,0),(.ref 2 5,0,2),(.t (.v undef),1,0)] [[rdB l n es i,exZ,cB s ([]:List T),.tail (([]:List T)).length],[rdB l n es i,exZ,cB s ([]:List T),.tail (([]:List T)).length],[rdB l n es i,exZ,cB s ([]:List T),.tail ((([]:List T)).length+1)],[rdB l n es i,exZ,cB s (([]:List T)++[.ag [T.n noE.kind,T.n noE.op,T.n noE.t,T.n noE.v,T.s noE.name,T.sl 6 (noE.args.map exT)]]),.tail ((([]:List T)).length+1)]] ?_ (fun h=>h.elim)
 repeat' (first|refine wkt ?_|exact trivial|exact⟨⟨rfl,rfl⟩,trivial⟩|refine qai (fun env=>?_) ?_|refine qai ?_ ?_|refine we hx ?_ ?_|refine wk ?_|exact wkc|intro hc|refine wk2 ?_ ?_|fail)
 exact rdP rfl hc0
theorem zmb{R:Rd}{f:Nat->PR Ex}:∀ {m:Nat} {xs:List Ex} {i:Nat},R.isAt i [44]=false->R.args f m xs i= .ok xs i
 | 0,_,_,_=>rfl
 | m+1,xs,i,h=>by rw[Rd.args,h,if_neg (by decide)]
set_option maxHeartbeats 8000000 in
theorem zjk (l:List Tok) (n:Int) (es:List En) (hl:l.length≤1000000):zp4 l n es:=by
 intro f g s i hi hF hG
 have t1:=zal l n es i [41] hl hi
 generalize hr:(rdr l es).call f g s i=r
 unfold Rd.call at hr
 cases h1:(rdr l es).isAt i [41] with
 | true=>
   have hlt:=zam h1
   rw[zaf]at hlt
   rw[h1,if_pos rfl]at t1
   rw[if_pos h1]at hr
   simp only[PR.bind]at hr
   refine Sound.err rfl (fun _=>rfl) ?_
   refine so Tryz.func106 ?_
   repeat' (first|refine wkb ?_|refine wk ?_|exact wkc|intro hc|refine wk2 ?_ ?_|fail)
   refine TO.zbM 6 2 5 rfl rfl rfl ?_
   have hml:(([]:List Ex).map exT).length≤2000000:=by decide
   have t2:=zal l n es (i+1) [101,118,101,114,121] hl hlt
   cases hv:(rdr l es).isAt (i+1) [101,118,101,114,121] with
   | false=>
     rw[hv,if_neg (by decide)]at t2
     rw[if_neg (by rw[hv];decide)]at hr
     subst hr
     repeat' (first|refine wu ?_|exact wkc|intro hc|refine wk2 ?_ ?_|refine wd t1 ?_|refine wd t2 ?_|fail)
     apply rdV rfl
     ·exact rfl
     ·rw[vlE,zbG _ _ _ _ _ _ rfl rfl rfl rfl]
      exact zqa
     all_goals exact rfl
   | true=>
     have hlt2:=zam hv
     rw[zaf]at hlt2
     rw[hv,if_pos rfl]at t2
     rw[if_pos hv]at hr
     obtain⟨hx,hin⟩:=hG ((i+1)+1) (by omega) hlt2
     cases hqg:g ((i+1)+1) with
     | er k c=>
       rw[hqg]at hx hin hr
       have hc0:=hin.2
       replace hx:=hx.er
       simp only[PR.vl]at hx
       simp only[PR.bind]at hr
       repeat' (first|refine wkt ?_|refine wd t1 ?_|refine wd t2 ?_|exact wkc|intro hc|refine wk2 ?_ ?_|fail)
       refine rgX 3 (g:=False) [(.ref 2 5,0,1),(.sl 6 (([]:List Ex).map exT) 3,0,1),(.ref 0 0,0,1),(.t (.ag [T.n noE.kind,T.n noE.op,T.n noE.t,T.n noE.v,T.s noE.name,T.sl 6 (noE.args.map exT)]),1,0),(.t (.sl 6 [.ag [T.n noE.kind,T.n noE.op,T.n noE.t,T.n noE.v,T.s noE.name,T.sl 6 (noE.args.map exT)]]),1,1),(.sl 6 ((([]:List Ex).map exT)++[.ag [T.n noE.kind,T.n noE.op,T.n noE.t,T.n noE.v,T.s noE.name,T.sl 6 (noE.args.map exT)]]) 3,1,0),(.ref 2 5,0,2),(.t (.v undef),1,0)] [[rdB l n es ((i+1)+1),exZ,cB s (([]:List Ex).map exT),.tail ((([]:List Ex).map exT)).length],[rdB l n es ((i+1)+1),exZ,cB s (([]:List Ex).map exT),.tail ((([]:List Ex).map exT)).length],[rdB l n es ((i+1)+1),exZ,cB s (([]:List Ex).map exT),.tail (((([]:List Ex).map exT)).length+1)],[rdB l n es ((i+1)+1),exZ,cB s ((([]:List Ex).map exT)++[.ag [T.n noE.kind,T.n noE.op,T.n noE.t,T.n noE.v,T.s noE.name,T.sl 6 (noE.args.map exT)]]),.tail (((([]:List Ex).map exT)).length+1)]] ?_ (fun h=>h.elim)
       repeat' (first|refine wkt ?_|exact trivial|exact⟨⟨rfl,rfl⟩,trivial⟩|refine qai (fun env=>?_) ?_|refine qai ?_ ?_|refine we hx ?_ ?_|refine wk ?_|exact wkc|intro hc|refine wk2 ?_ ?_|fail)
       repeat' (first|refine zac.panic ?_|refine wk ?_|fail)
       exact rdP hr.symm hc0
     | ok b k=>
       rw[hqg]at hx hin hr
       replace hx:=hx.ok
       obtain⟨hj3,hj4⟩:=hin
       simp only[PR.vl]at hx
       simp only[PR.bind]at hr
       rw[zao b]at hx
       unfold exC at hx
       subst hr
       repeat' (first|refine wkt ?_|refine wd t1 ?_|refine wd t2 ?_|exact wkc|intro hc|refine wk2 ?_ ?_|fail)
       refine rgX 3 (g:=True) [(.ref 2 5,0,1),(.sl 6 (([]:List Ex).map exT) 3,0,1),(.ref 0 0,0,1),(.t (.ag [T.n b.kind,T.n b.op,T.n b.t,T.n b.v,T.s b.name,T.sl 6 (b.args.map exT)]),1,0),(.t (.sl 6 [.ag [T.n b.kind,T.n b.op,T.n b.t,T.n b.v,T.s b.name,T.sl 6 (b.args.map exT)]]),1,1),(.sl 6 ((([]:List Ex).map exT)++[.ag [T.n b.kind,T.n b.op,T.n b.t,T.n b.v,T.s b.name,T.sl 6 (b.args.map exT)]]) 3,1,0),(.ref 2 5,0,2),(.t (.v undef),1,0)] [[rdB l n es ((i+1)+1),exZ,cB s (([]:List Ex).map exT),.tail ((([]:List Ex).map exT)).length],[rdB l n es k,exZ,cB s (([]:List Ex).map exT),.tail ((([]:List Ex).map exT)).length],[rdB l n es k,exZ,cB s (([]:List Ex).map exT),.tail (((([]:List Ex).map exT)).length+1)],[rdB l n es k,exZ,cB s ((([]:List Ex).map exT)++[.ag [T.n b.kind,T.n b.op,T.n b.t,T.n b.v,T.s b.name,T.sl 6 (b.args.map exT)]]),.tail (((([]:List Ex).map exT)).length+1)]] ?_ (fun _=>?_)
       ·repeat' (first|refine wkt ?_|exact trivial|exact⟨⟨rfl,rfl⟩,trivial⟩|refine qai (fun env=>?_) ?_|refine qai ?_ ?_|refine we hx ?_ ?_|refine wk ?_|exact wkc|intro hc|refine wk2 ?_ ?_|fail)
        done
       ·repeat' (first|refine wu ?_|exact wkc|intro hc|refine wk2 ?_ ?_|fail)
        exact zwbx
 | false=>
 have h1':=h1
 rw[h1,if_neg (by decide)]at t1
 rw[if_neg (by rw[h1];decide)]at hr
 have hfi:=hF i (qae _) hi
 cases hq:f i with
 | er k c=>
   rw[hq]at hfi hr
   simp only[PR.bind]at hr
   subst hr
   exact zlg l n es s i hl hi h1' rfl hfi
 | ok a j=>
 obtain⟨hx,hin⟩:=hfi
 rw[hq]at hx hin hr
 replace hx:=hx.ok
 obtain⟨hj3,hj4⟩:=hin
 simp only[PR.vl]at hx
 simp only[PR.bind]at hr
 rw[zao a]at hx
 unfold exC at hx
 refine Sound.err rfl (fun _=>rfl) ?_
 refine so Tryz.func106 ?_
 repeat' (first|refine wkb ?_|refine wk ?_|exact wkc|intro hc|refine wk2 ?_ ?_|fail)
 refine TO.zbM 6 2 5 rfl rfl rfl ?_
 repeat' (first|refine wkt ?_|refine wd t1 ?_|exact wkc|intro hc|refine wk2 ?_ ?_|fail)
 refine rgX 3 (g:=True) [(.ref 2 5,0,1),(.sl 6 ([]:List T) 3,0,1),(.ref 0 0,0,1),(.t (.ag [T.n a.kind,T.n a.op,T.n a.t,T.n a.v,T.s a.name,T.sl 6 (a.args.map exT)]),1,0),(.t (.sl 6 [.ag [T.n a.kind,T.n a.op,T.n a.t,T.n a.v,T.s a.name,T.sl 6 (a.args.map exT)]]),1,1),(.sl 6 (([]:List T)++[.ag [T.n a.kind,T.n a.op,T.n a.t,T.n a.v,T.s a.name,T.sl 6 (a.args.map exT)]]) 3,1,0),(.ref 2 5,0,2),(.t (.v undef),1,0)] [[rdB l n es i,exZ,cB s ([]:List T),.tail (([]:List T)).length],[rdB l n es j,exZ,cB s ([]:List T),.tail (([]:List T)).length],[rdB l n es j,exZ,cB s ([]:List T),.tail ((([]:List T)).length+1)],[rdB l n es j,exZ,cB s (([]:List T)++[.ag [T.n a.kind,T.n a.op,T.n a.t,T.n a.v,T.s a.name,T.sl 6 (a.args.map exT)]]),.tail ((([]:List T)).length+1)]] ?_ (fun _=>?_)
 ·repeat' (first|refine wkt ?_|exact trivial|exact⟨⟨rfl,rfl⟩,trivial⟩|refine qai (fun env=>?_) ?_|refine qai ?_ ?_|refine we hx ?_ ?_|refine wk ?_|exact wkc|intro hc|refine wk2 ?_ ?_|fail)
  done
 repeat' (first|refine wu ?_|exact wkc|intro hc|refine wk2 ?_ ?_|refine wd t1 ?_|fail)
 refine TR.zbd (ι:=Nat×Nat×List Ex) (fun x=>i≤x.2.1/\x.2.1≤l.length/\l.length-x.2.1≤x.1/\x.2.2.length≤x.2.1+1/\((((rdr l es).args f x.1 x.2.2 x.2.1).bind fun l2 j=>((rdr l es).must [[41]] j).bind fun _ j=>.ok l2 j:PR (List Ex)).bind fun l2 j=>if(rdr l es).isAt j [101,118,101,114,121]=true then(g (j+1)).bind fun a j=>.ok (mkE 10 0 0 1 s (l2++[a])) j else .ok (mkE 10 0 0 0 s l2) j)=r) (fun x=>l.length-x.2.1) (fun _=>[(0,.ref 0 0),(5,.ref 2 0),(4,.ref 1 0)]) (fun x=>[rdB l n es x.2.1,exZ,cB s (x.2.2.map exT),.tail (x.2.2.map exT).length]) ((rdr l es).K.length,j,[a])
  ⟨by show i≤j;omega,hj4,by rw[zaf];show l.length-j≤l.length;omega,by show 1≤j+1;omega,hr⟩ ⟨rfl,rfl,rfl,trivial⟩ (by show _=[rdB l n es j,exZ,cB s ([a].map exT),.tail ([a].map exT).length];rw[qah,qas,zao a];rfl) ?_
 clear hr hx hj3 hj4 hq t1 h1 h1'
 clear a j
 rintro⟨m,j,xs⟩ ⟨q1,q2,q3,q4,hr⟩
 replace q1:i≤j:=q1
 replace q2:j≤l.length:=q2
 replace q3:l.length-j≤m:=q3
 replace q4:xs.length≤j+1:=q4
 simp only at hr
 have hml0:(xs.map exT).length=xs.length:=qad _
 have t3:=zal l n es j [44] hl q2
 cases hw:(rdr l es).isAt j [44] with
 | false=>
   rw[hw,if_neg (by decide)]at t3
   rw[zmb hw]at hr
   simp only[PR.bind]at hr
   have t4:=zb5 l n es j [[41]] hl q2 (by decide)
   have hin:=zaQ (R:=rdr l es) [[41]] (i:=j) (by rw[zaf];exact q2)
   rw[zaf]at hin
   cases hqm:(rdr l es).must [[41]] j with
   | er k c=>
     rw[hqm]at t4 hin hr
     have hc0:=hin.2
     replace t4:=t4.er
     simp only[PR.bind]at hr
     repeat' (first|refine wu ?_|exact wkc|intro hc|refine wk2 ?_ ?_|refine wd t3 ?_|refine we t4 ?_ ?_|fail)
     repeat' (first|refine zac.panic ?_|refine wk ?_|fail)
     exact rdP hr.symm hc0
   | ok _ j5=>
     rw[hqm]at t4 hin hr
     obtain⟨hk1,hk2⟩:=hin
     replace t4:=t4.ok
     simp only[PR.bind]at hr
     have hml:(xs.map exT).length≤2000000:=by omega
     have t2:=zal l n es j5 [101,118,101,114,121] hl hk2
     cases hv:(rdr l es).isAt j5 [101,118,101,114,121] with
     | false=>
       rw[hv,if_neg (by decide)]at t2
       rw[if_neg (by rw[hv];decide)]at hr
       subst hr
       repeat' (first|refine wu ?_|exact wkc|intro hc|refine wk2 ?_ ?_|refine wd t3 ?_|refine we t4 ?_ ?_|refine zac.exit ?_|refine wd t2 ?_|fail)
       apply rdV rfl
       ·exact rfl
       ·rw[vlE,zbG _ _ _ _ _ _ rfl rfl rfl rfl]
        exact zqa
       all_goals exact rfl
     | true=>
       have hlt2:=zam hv
       rw[zaf]at hlt2
       rw[hv,if_pos rfl]at t2
       rw[if_pos hv]at hr
       obtain⟨hx,hin⟩:=hG (j5+1) (by omega) hlt2
       cases hqg:g (j5+1) with
       | er k c=>
         rw[hqg]at hx hin hr
         have hc0:=hin.2
         replace hx:=hx.er
         simp only[PR.vl]at hx
         simp only[PR.bind]at hr
         refine wk ?_
         repeat' (first|refine wkt ?_|refine wd t3 ?_|refine we t4 ?_ ?_|refine zac.exit ?_|refine wd t2 ?_|exact wkc|intro hc|refine wk2 ?_ ?_|fail)
         refine rgX 3 (g:=False) [(.ref 2 5,0,1),(.sl 6 (xs.map exT) 3,0,1),(.ref 0 0,0,1),(.t (.ag [T.n noE.kind,T.n noE.op,T.n noE.t,T.n noE.v,T.s noE.name,T.sl 6 (noE.args.map exT)]),1,0),(.t (.sl 6 [.ag [T.n noE.kind,T.n noE.op,T.n noE.t,T.n noE.v,T.s noE.name,T.sl 6 (noE.args.map exT)]]),1,1),(.sl 6 ((xs.map exT)++[.ag [T.n noE.kind,T.n noE.op,T.n noE.t,T.n noE.v,T.s noE.name,T.sl 6 (noE.args.map exT)]]) 3,1,0),(.ref 2 5,0,2),(.t (.v undef),1,0)] [[rdB l n es (j5+1),exZ,cB s (xs.map exT),.tail ((xs.map exT)).length],[rdB l n es (j5+1),exZ,cB s (xs.map exT),.tail ((xs.map exT)).length],[rdB l n es (j5+1),exZ,cB s (xs.map exT),.tail (((xs.map exT)).length+1)],[rdB l n es (j5+1),exZ,cB s ((xs.map exT)++[.ag [T.n noE.kind,T.n noE.op,T.n noE.t,T.n noE.v,T.s noE.name,T.sl 6 (noE.args.map exT)]]),.tail (((xs.map exT)).length+1)]] ?_ (fun h=>h.elim)
         repeat' (first|refine wkt ?_|exact trivial|exact⟨⟨rfl,rfl⟩,trivial⟩|refine qai (fun env=>?_) ?_|refine qai ?_ ?_|refine we hx ?_ ?_|refine wk ?_|exact wkc|intro hc|refine wk2 ?_ ?_|fail)
         repeat' (first|refine zac.panic ?_|refine wk ?_|fail)
         exact rdP hr.symm hc0
       | ok b k=>
         rw[hqg]at hx hin hr
         replace hx:=hx.ok
         obtain⟨hj3,hj4⟩:=hin
         simp only[PR.vl]at hx
         simp only[PR.bind]at hr
         rw[zao b]at hx
         unfold exC at hx
         subst hr
         refine wk ?_
         repeat' (first|refine wkt ?_|refine wd t3 ?_|refine we t4 ?_ ?_|refine zac.exit ?_|refine wd t2 ?_|exact wkc|intro hc|refine wk2 ?_ ?_|fail)
         refine rgX 3 (g:=True) [(.ref 2 5,0,1),(.sl 6 (xs.map exT) 3,0,1),(.ref 0 0,0,1),(.t (.ag [T.n b.kind,T.n b.op,T.n b.t,T.n b.v,T.s b.name,T.sl 6 (b.args.map exT)]),1,0),(.t (.sl 6 [.ag [T.n b.kind,T.n b.op,T.n b.t,T.n b.v,T.s b.name,T.sl 6 (b.args.map exT)]]),1,1),(.sl 6 ((xs.map exT)++[.ag [T.n b.kind,T.n b.op,T.n b.t,T.n b.v,T.s b.name,T.sl 6 (b.args.map exT)]]) 3,1,0),(.ref 2 5,0,2),(.t (.v undef),1,0)] [[rdB l n es (j5+1),exZ,cB s (xs.map exT),.tail ((xs.map exT)).length],[rdB l n es k,exZ,cB s (xs.map exT),.tail ((xs.map exT)).length],[rdB l n es k,exZ,cB s (xs.map exT),.tail (((xs.map exT)).length+1)],[rdB l n es k,exZ,cB s ((xs.map exT)++[.ag [T.n b.kind,T.n b.op,T.n b.t,T.n b.v,T.s b.name,T.sl 6 (b.args.map exT)]]),.tail (((xs.map exT)).length+1)]] ?_ (fun _=>?_)
         ·repeat' (first|refine wkt ?_|exact trivial|exact⟨⟨rfl,rfl⟩,trivial⟩|refine qai (fun env=>?_) ?_|refine qai ?_ ?_|refine we hx ?_ ?_|refine wk ?_|exact wkc|intro hc|refine wk2 ?_ ?_|fail)
          done
         ·repeat' (first|refine wu ?_|exact wkc|intro hc|refine wk2 ?_ ?_|fail)
          exact zwbx
 | true=>
   have hlt:=zam hw
   rw[zaf]at hlt
   rw[hw,if_pos rfl]at t3
   cases m with
   | zero=>exfalso;omega
   | succ m=>
   rw[Rd.args,if_pos hw]at hr
   obtain⟨hx,hin⟩:=hF (j+1) (by omega) hlt
   cases hq:f (j+1) with
   | er k c=>
     rw[hq]at hx hin hr
     have hc0:=hin.2
     replace hx:=hx.er
     simp only[PR.vl]at hx
     simp only[PR.bind]at hr
     refine wk ?_
     repeat' (first|refine wkt ?_|refine wd t3 ?_|exact wkc|intro hc|refine wk2 ?_ ?_|fail)
     refine rgX 3 (g:=False) [(.ref 2 5,0,1),(.sl 6 (xs.map exT) 3,0,1),(.ref 0 0,0,1),(.t (.ag [T.n noE.kind,T.n noE.op,T.n noE.t,T.n noE.v,T.s noE.name,T.sl 6 (noE.args.map exT)]),1,0),(.t (.sl 6 [.ag [T.n noE.kind,T.n noE.op,T.n noE.t,T.n noE.v,T.s noE.name,T.sl 6 (noE.args.map exT)]]),1,1),(.sl 6 ((xs.map exT)++[.ag [T.n noE.kind,T.n noE.op,T.n noE.t,T.n noE.v,T.s noE.name,T.sl 6 (noE.args.map exT)]]) 3,1,0),(.ref 2 5,0,2),(.t (.v undef),1,0)] [[rdB l n es (j+1),exZ,cB s (xs.map exT),.tail ((xs.map exT)).length],[rdB l n es (j+1),exZ,cB s (xs.map exT),.tail ((xs.map exT)).length],[rdB l n es (j+1),exZ,cB s (xs.map exT),.tail (((xs.map exT)).length+1)],[rdB l n es (j+1),exZ,cB s ((xs.map exT)++[.ag [T.n noE.kind,T.n noE.op,T.n noE.t,T.n noE.v,T.s noE.name,T.sl 6 (noE.args.map exT)]]),.tail (((xs.map exT)).length+1)]] ?_ (fun h=>h.elim)
     repeat' (first|refine wkt ?_|exact trivial|exact⟨⟨rfl,rfl⟩,trivial⟩|refine qai (fun env=>?_) ?_|refine qai ?_ ?_|refine we hx ?_ ?_|refine wk ?_|exact wkc|intro hc|refine wk2 ?_ ?_|fail)
     repeat' (first|refine zac.panic ?_|refine wk ?_|fail)
     exact rdP hr.symm hc0
   | ok b k=>
     rw[hq]at hx hin hr
     replace hx:=hx.ok
     obtain⟨hj3,hj4⟩:=hin
     simp only[PR.vl]at hx
     rw[show(PR.bind (PR.ok b k) fun b j=>(rdr l es).args f m (xs++[b]) j)=(rdr l es).args f m (xs++[b]) k from rfl]at hr
     rw[zao b]at hx
     unfold exC at hx
     refine wk ?_
     repeat' (first|refine wkt ?_|refine wd t3 ?_|exact wkc|intro hc|refine wk2 ?_ ?_|fail)
     refine rgX 3 (g:=True) [(.ref 2 5,0,1),(.sl 6 (xs.map exT) 3,0,1),(.ref 0 0,0,1),(.t (.ag [T.n b.kind,T.n b.op,T.n b.t,T.n b.v,T.s b.name,T.sl 6 (b.args.map exT)]),1,0),(.t (.sl 6 [.ag [T.n b.kind,T.n b.op,T.n b.t,T.n b.v,T.s b.name,T.sl 6 (b.args.map exT)]]),1,1),(.sl 6 ((xs.map exT)++[.ag [T.n b.kind,T.n b.op,T.n b.t,T.n b.v,T.s b.name,T.sl 6 (b.args.map exT)]]) 3,1,0),(.ref 2 5,0,2),(.t (.v undef),1,0)] [[rdB l n es (j+1),exZ,cB s (xs.map exT),.tail ((xs.map exT)).length],[rdB l n es k,exZ,cB s (xs.map exT),.tail ((xs.map exT)).length],[rdB l n es k,exZ,cB s (xs.map exT),.tail (((xs.map exT)).length+1)],[rdB l n es k,exZ,cB s ((xs.map exT)++[.ag [T.n b.kind,T.n b.op,T.n b.t,T.n b.v,T.s b.name,T.sl 6 (b.args.map exT)]]),.tail (((xs.map exT)).length+1)]] ?_ (fun _=>?_)
     ·repeat' (first|refine wkt ?_|exact trivial|exact⟨⟨rfl,rfl⟩,trivial⟩|refine qai (fun env=>?_) ?_|refine qai ?_ ?_|refine we hx ?_ ?_|refine wk ?_|exact wkc|intro hc|refine wk2 ?_ ?_|fail)
      done
     ·repeat' (first|refine wu ?_|exact wkc|intro hc|refine wk2 ?_ ?_|fail)
      refine zac.next (m,k,xs++[b]) ⟨?_,hj4,?_,?_,hr⟩ ?_ ⟨rfl,rfl,rfl,trivial⟩ ?_
      ·show i≤k;omega
      ·show l.length-k≤m;omega
      ·show(xs++[b]).length≤k+1;rw[qal];simp only[qac,qaf];omega
      ·show l.length-k<l.length-j;omega
      ·show _=[rdB l n es k,exZ,cB s ((xs++[b]).map exT),.tail ((xs++[b]).map exT).length]
       rw[qav,qah,qas,zao b,qal];rfl
end Go.Proofs.YtpfnfpaahefdaaaGreat
