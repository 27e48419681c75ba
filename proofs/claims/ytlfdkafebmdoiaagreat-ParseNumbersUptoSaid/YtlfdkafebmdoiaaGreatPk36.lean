import Derived.Test.YtlfdkafebmdoiaaGreatPk35
set_option linter.unusedSimpArgs false
set_option linter.unusedVariables false
namespace Go.Proofs.YtlfdkafebmdoiaaGreat
open Go Go.TL
attribute [local irreducible] TR TO Then InBlock RetK Sound LoopK Kf GG ThenL
abbrev numE (x:Int):Ex:=mkE 1 0 2 x [] []
theorem numE_ok{x:Int}(h:-32768≤x/\x≤32767):exprX [] (numE x)=0:=by
 have hv:(toI x).1=x:=toI_val (by omega)
 unfold numE mkE exprX checkX
 rw[flat_nil,wx0,dx0,if_neg (show ¬(400<1\/(32:Int)<1) by omega)]
 simp only[firstE,oneX,insX,Ex.kind,Ex.op,Ex.t,Ex.v,Ex.name,Ex.args,hv,List.length_nil]
 have e1:oneI (toI 1).1 (toI 0).1 (toI 2).1 x [] ((0:Nat):Int)=0:=by
  have:oneI (toI 1).1 (toI 0).1 (toI 2).1 x [] ((0:Nat):Int)=oneI 1 0 2 x [] 0:=rfl
  rw[this]
  simp[oneI,ofF,inW]
  omega
 have e2:insI [] (toI 1).1 (toI 2).1 x ((0:Nat):Int)=0:=by
  have:insI [] (toI 1).1 (toI 2).1 x ((0:Nat):Int)=insI [] 1 2 x 0:=rfl
  rw[this]
  simp[insI,hasT,inW,sizeOfT]
  omega
 rw[e1,e2]
 simp
section
variable {v:Nat}(hv:v≤65535)
theorem lexF_num(n:Nat)(hv:v≤65535):(v≤32768->lexF (n+2) (decF 4 v)=([(2,decF 4 v,(decF 4 v).length)],0,0))/\(32768<v->lexF (n+1) (decF 4 v)=([],(decF 4 v).length,14)):=by
 obtain⟨h1,h2,h3⟩:=scan_num hv
 have hl:=decF_len 4 v
 have hne:decF 4 v≠ []:=fun e=>by rw[e]at hl;simp at hl
 refine⟨fun h=>?_,fun h=>?_⟩
 ·have ht:=h1 h
  rw[lexF_step,h3,if_neg hne,ht,if_neg (fun h=>h rfl),List.drop_length,lexF_step,if_pos skipped_nil,if_pos rfl]
 ·have ht:=h2 h
  rw[lexF_step,h3,if_neg hne,if_pos (by rw[ht];decide),ht]
theorem minus_tok(r:Str):tokenAt (45::32::r)=((4,[45],0),1)/\skipped (45::32::r)=45::32::r:=by
 have h45:hasPre (45::32::r) [45,45]=false:=by rw[hasPre2];decide
 refine⟨?_,skipped_token (by decide) h45⟩
 have hb:best (45::32::r) symsL=[45]:=by
  rw[best_find]
  have h1:∀x,hasPre (45::32::r) [x]=(45 == x):=fun x=>hasPre1 45 x _
  have h2:∀x y,hasPre (45::32::r) [x,y]=(45 == x && 32 == y):=fun x y=>hasPre2 45 32 x y r
  unfold symsR
  simp only[List.find?,h1,h2]
  decide
 unfold tokenAt
 simp only
 rw[hb]
 rfl
theorem lexF_minus(n:Nat)(hv:v≤65535):(v≤32768->lexF (n+3) (45::32::decF 4 v)=([(4,[45],(decF 4 v).length+2),(2,decF 4 v,(decF 4 v).length)],0,0))/\(32768<v->lexF (n+2) (45::32::decF 4 v)=([],(decF 4 v).length,14)):=by
 obtain⟨m1,m2⟩:=minus_tok (decF 4 v)
 obtain⟨l1,l2⟩:=lexF_num n hv
 have hb:∀k,lexF k (32::decF 4 v)=lexF k (decF 4 v):=fun k=>lexF_blank (by decide) k
 refine⟨fun h=>?_,fun h=>?_⟩
 ·rw[lexF_step,m2,if_neg (by simp),m1,if_neg (fun h=>h rfl),show List.drop 1 (45::32::decF 4 v)=32::decF 4 v from rfl,hb,l1 h,if_pos rfl]
  rfl
 ·rw[lexF_step,m2,if_neg (by simp),m1,if_neg (fun h=>h rfl),show List.drop 1 (45::32::decF 4 v)=32::decF 4 v from rfl,hb,l2 h,if_neg (show ¬((14:Int)=0) by decide)]
theorem scan_d(hv:v≤65535):(v≤32768->scan (decF 4 v)=([(2,decF 4 v,0)],0,0))/\(32768<v->scan (decF 4 v)=([],0,14)):=by
 have hl:=decF_len 4 v
 obtain⟨k,hk⟩:∃k,(decF 4 v).length=k+1:=⟨(decF 4 v).length-1,by omega⟩
 obtain⟨l1,l2⟩:=lexF_num k hv
 obtain⟨_,l3⟩:=lexF_num (k+1) hv
 refine⟨fun h=>?_,fun h=>?_⟩
 ·rw[scan_lexF (by omega),hk,l1 h,placed]
  simp
 ·rw[scan_lexF (by omega),hk,l3 h,placed]
  simp
theorem scan_md(hv:v≤65535):(v≤32768->scan (45::32::decF 4 v)=([(4,[45],0),(2,decF 4 v,2)],0,0))/\(32768<v->(scan (45::32::decF 4 v)).2.2=14):=by
 have hl:=decF_len 4 v
 have hc:(45::32::decF 4 v).length=(decF 4 v).length+2:=rfl
 obtain⟨l1,_⟩:=lexF_minus (decF 4 v).length hv
 obtain⟨_,l2⟩:=lexF_minus ((decF 4 v).length+1) hv
 refine⟨fun h=>?_,fun h=>?_⟩
 ·rw[scan_lexF (by omega),hc,l1 h,placed]
  simp[hc]
 ·rw[scan_lexF (by omega),hc,l2 h,placed]
theorem num_plain(hv:v≤65535):(32768<v->exprP [] (decF 4 v)=(noE,0,14))/\(v=32768->exprP [] (decF 4 v)=(noE,0,14))/\(v≤32767->exprP [] (decF 4 v)=(numE v,0,0)):=by
 obtain⟨s1,s2⟩:=scan_d hv
 have hn:=decF_num 4 v (by omega)
 have key:v≤32768->(rdr [((2:Int),decF 4 v,(0:Int))] []).expr 0=if 32767<numV (decF 4 v) then .er 0 14 else .ok (numE (numV (decF 4 v))) 1:=fun h=>by
  refine up (m:=10) ?_ rfl (fun⟨_,h⟩=>by cases h) (fun⟨_,h⟩=>by cases h) (fun e j he=>?_)
  ·unfold pF Rd.prim
   have n0:(rdr [((2:Int),decF 4 v,(0:Int))] []).neg 0=false:=rfl
   have a0:(rdr [((2:Int),decF 4 v,(0:Int))] []).isAt 0 [45]=false:=rfl
   have k0:(rdr [((2:Int),decF 4 v,(0:Int))] []).kind 0 2=true:=rfl
   rw[n0,if_neg (by decide),a0,if_neg (by decide),k0,if_pos rfl]
   rfl
  ·rcases ite_ok he with ⟨_,he⟩|⟨_,he⟩
   ·cases he
   ·cases he;exact Nat.le_refl _
 refine⟨fun h=>?_,fun h=>?_,fun h=>?_⟩
 ·unfold exprP
  rw[s2 h,if_pos (show(14:Int)≠0 by decide)]
 ·unfold exprP
  rw[s1 (by omega),if_neg (fun h=>h rfl),key (by omega),hn,if_pos (by omega)]
  rfl
 ·unfold exprP
  rw[s1 (by omega),if_neg (fun h=>h rfl),key (by omega),hn,if_neg (by omega)]
  simp only
  rw[if_neg (by simp),if_pos (numE_ok (by omega))]
theorem num_minus(hv:v≤65535):(32768<v->(exprP [] (45::32::decF 4 v)).2.2=14)/\(v≤32768->exprP [] (45::32::decF 4 v)=(numE (-v),0,0)):=by
 obtain⟨s1,s2⟩:=scan_md hv
 have hn:=decF_num 4 v (by omega)
 refine⟨fun h=>?_,fun h=>?_⟩
 ·unfold exprP
  rw[if_pos (by rw[s2 h];decide)]
  exact s2 h
 ·have key:(rdr [((4:Int),[45],(0:Int)),(2,decF 4 v,2)] []).expr 0= .ok (numE (-numV (decF 4 v))) 2:=by
   have hneg:(rdr [((4:Int),[45],(0:Int)),(2,decF 4 v,2)] []).neg 0=true:=rfl
   refine up (m:=20) ?_ rfl (fun⟨h,_⟩=>by rw[hneg]at h;cases h) (fun⟨h,_⟩=>by rw[hneg]at h;cases h) (fun e j he=>?_)
   ·unfold pF Rd.prim
    rw[if_pos hneg]
    rfl
   ·cases he;exact Nat.le_refl _
  unfold exprP
  rw[s1 h,if_neg (fun h=>h rfl),key,hn]
  simp only
  rw[if_neg (by simp),if_pos (numE_ok (by omega))]
end
set_option maxHeartbeats 8000000 in
theorem brackets_sound (es:List En) (hes:EsOk es) (s:Str) (hs:s.length≤9223372036854775807):Pure Tryz.prog 4 [.t (ensT es),.s s] (.b true):=by
 have ha:=awakeP
 have h1:=shortP_sound s
 by_cases hl:s.length≤4000
 ·rw[decide_eq_true hl]at h1
  have h2:=exprPk es hes s (by omega)
  have h3:=exprPk es hes (40::(s++[10,41])) (by simp;omega)
  have hb:=brackets_law es s hl
  have hE:(exprP es s).2.2=0->wEx (exprP es s).1≤1000000000:=fun h=>by
   unfold exprP at h⊢
   split
   ·rw[show wEx noE=1 from by rw[wEx_eq];rfl];decide
   ·rename_i h0
    rw[if_neg h0]at h
    cases hq:(rdr (scan s).1 es).expr 0 with
    | er k c=>simp only;rw[show wEx noE=1 from by rw[wEx_eq];rfl];decide
    | ok e j=>
      have h5:wEx e≤1000000000:=by
       unfold Rd.expr at hq
       have g1:=pF_w _ _ hq
       have g2:=pF_in (R:=rdr (scan s).1 es) (10*(rdr (scan s).1 es).K.length+10) .expr (i:=0) (Nat.zero_le _)
       rw[hq,rdr_len]at g2
       have g3:=g2.2
       have g4:=(scan_tk s).len
       omega
      simp only
      split
      ·simp only;rw[show wEx noE=1 from by rw[wEx_eq];rfl];decide
      ·split
       ·exact h5
       ·simp only;rw[show wEx noE=1 from by rw[wEx_eq];rfl];decide
  by_cases h0:(exprP es s).2.2=0
  ·rw[hb h0]at h3
   have hw:=hE h0
   have hsm:=sameE_sound _ (exprP es s).1 (Nat.le_refl _) hw
   clear hb hE
   generalize (exprP es s).1=e at*
   generalize (exprP es s).2.1=a at*
   generalize (exprP es s).2.2=c at*
   subst h0
   rw[exT_eq]at h2 h3 hsm
   unfold exC at h2 h3 hsm
   refine so Tryz.func4 ?_
   repeat' (first|refine wkt ?_|refine wv ha ?_|refine wv h1 ?_|refine wv h2 ?_|refine wv h3 ?_|refine wv hsm ?_|(apply TO.cat;exact rfl;exact rfl;exact rfl;(simp only[List.length_append,List.length_cons,List.length_nil];omega))|exact wkc|intro hc|refine wk2 ?_ ?_|(apply Go.TL.TO.want;exact rfl)|fail)
   exact wkr
  ·clear hb hE h3
   generalize (exprP es s).1=e at*
   generalize (exprP es s).2.1=a at*
   generalize (exprP es s).2.2=c at*
   rw[exT_eq]at h2
   unfold exC at h2
   refine so Tryz.func4 ?_
   repeat' (first|refine wkt ?_|refine wv ha ?_|refine wv h1 ?_|refine wv h2 ?_|(intro hc;exact absurd hc h0)|exact wkc|intro hc|refine wk2 ?_ ?_|(apply Go.TL.TO.want;exact rfl)|fail)
   exact wkr
 ·rw[decide_eq_false hl]at h1
  refine so Tryz.func4 ?_
  repeat' (first|refine wkt ?_|refine wv ha ?_|refine wv h1 ?_|exact wkc|intro hc|refine wk2 ?_ ?_|fail)
  exact wkr
theorem exT_numE{x:Int}(h:-65536≤x/\x≤65536):exT (numE x)= .ag [T.i 1,T.i 0,T.i 2,T.i x,.s [],.sl 6 []]:=by
 unfold numE
 rw[exT_mkE _ _ _ _ _ _ rfl rfl rfl (toI_val (by omega)),List.map_nil]
set_option maxHeartbeats 8000000 in
theorem numbers_at (c v:Nat) (hc0:c≤65535) (b:Bool) (hv:v=if b=true then 32768 else c):Pure Tryz.prog 5 [.t (.v (.int .u16 (c:Int))),.b b] (.b true):=by
 have hv5:v≤65535:=by subst hv;split <;> omega
 have ha:=awakeP
 have ht:=text_sound 4 v (by omega) (by omega)
 have hd:=decF_len 4 v
 have h1:=exprPk [] es0 (decF 4 v) (by omega)
 have h2:=exprPk [] es0 (45::32::decF 4 v) (by simp only[List.length_cons];omega)
 obtain⟨p1,p2,p3⟩:=num_plain hv5
 obtain⟨m1,m2⟩:=num_minus hv5
 have hcat:([45,32]:Str)++decF 4 v=45::32::decF 4 v:=rfl
 generalize decF 4 v=dd at*
 rcases Nat.lt_trichotomy v 32768 with hlt|heq|hgt
 ·rw[p3 (by omega),exT_numE (by omega)]at h1
  rw[m2 (by omega),exT_numE (by omega)]at h2
  clear p1 p2 p3 m1 m2
  cases b with
  | true=>exfalso;simp only[if_true]at hv;omega
  | false=>
    simp only[Bool.false_eq_true,if_false]at hv
    subst hv
    refine so Tryz.func5 ?_
    repeat' (first|refine wkt ?_|refine wv ha ?_|refine wv ht ?_|refine wv h1 ?_|refine wv h2 ?_|(apply TO.convert_as;exact rfl;kernel_rfl;kernel_rfl;exact rfl;exact wrap_in (by omega) (by omega))|(apply TO.cat;exact rfl;exact rfl;exact rfl;(simp only[List.length_cons,List.length_nil];omega))|(apply TO.neg64;exact rfl;exact rfl;omega;omega)|exact wkc|(intro hc;exact absurd rfl hc)|intro hc|refine wk2 ?_ ?_|(apply Go.TL.TO.want;exact rfl)|fail)
    exact wkr
 ·rw[p2 heq,noET]at h1
  rw[m2 (by omega),exT_numE (by omega)]at h2
  clear p1 p2 p3 m1 m2
  cases b
  all_goals
   simp only[if_true,Bool.false_eq_true,if_false]at hv
   subst hv
   refine so Tryz.func5 ?_
   repeat' (first|refine wkt ?_|refine wv ha ?_|refine wv ht ?_|refine wv h1 ?_|refine wv h2 ?_|(apply TO.convert_as;exact rfl;kernel_rfl;kernel_rfl;exact rfl;exact wrap_in (by omega) (by omega))|(apply TO.cat;exact rfl;exact rfl;exact rfl;(simp only[List.length_cons,List.length_nil];omega))|(apply TO.neg64;exact rfl;exact rfl;omega;omega)|exact wkc|(intro hc;exact absurd rfl hc)|intro hc|refine wk2 ?_ ?_|(apply Go.TL.TO.want;exact rfl)|fail)
   exact wkr
 ·have hz:=m1 (by omega)
  rw[p1 (by omega),noET]at h1
  clear p1 p2 p3 m1 m2
  generalize (exprP [] (45::32::dd)).1=e at*
  generalize (exprP [] (45::32::dd)).2.1=x2 at*
  rw[hz,exT_eq]at h2
  unfold exC at h2
  cases b with
  | true=>exfalso;simp only[if_true]at hv;omega
  | false=>
    simp only[Bool.false_eq_true,if_false]at hv
    subst hv
    refine so Tryz.func5 ?_
    repeat' (first|refine wkt ?_|refine wv ha ?_|refine wv ht ?_|refine wv h1 ?_|refine wv h2 ?_|(apply TO.convert_as;exact rfl;kernel_rfl;kernel_rfl;exact rfl;exact wrap_in (by omega) (by omega))|(apply TO.cat;exact rfl;exact rfl;exact rfl;(simp only[List.length_cons,List.length_nil];omega))|(apply TO.neg64;exact rfl;exact rfl;omega;omega)|exact wkc|(intro hc;exact absurd rfl hc)|intro hc|refine wk2 ?_ ?_|(apply Go.TL.TO.want;exact rfl)|fail)
    exact wkr
end Go.Proofs.YtlfdkafebmdoiaaGreat
