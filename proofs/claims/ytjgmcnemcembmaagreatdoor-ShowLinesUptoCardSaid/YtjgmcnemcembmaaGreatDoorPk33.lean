import Derived.Test.YtjgmcnemcembmaaGreatDoorPk14
import Derived.Test.YtjgmcnemcembmaaGreatDoorPk15
import Derived.Test.YtjgmcnemcembmaaGreatDoorPk19
import Derived.Test.YtjgmcnemcembmaaGreatDoorPk21
import Derived.Test.YtjgmcnemcembmaaGreatDoorPk25
import Derived.Test.YtjgmcnemcembmaaGreatDoorPk28
import Derived.Test.YtjgmcnemcembmaaGreatDoorPk32
set_option linter.unusedSimpArgs false
set_option linter.unusedVariables false
namespace Go.Proofs.YtjgmcnemcembmaaGreatDoor
open Go Go.TL
attribute [local irreducible] TR TO Then InBlock RetK Sound LoopK Kf GG ThenL
theorem orE0{a b:Int}(h:orE a b=0):a=0/\b=0:=by
 unfold orE at h;split at h
 ·exact⟨by assumption,h⟩
 ·rename_i ha;exact absurd h ha
theorem ite0{p:Prop}[Decidable p]{c:Int}(hc:c≠0)(h:(if p then 0 else c)=0):p:=by
 by_cases hp:p
 ·exact hp
 ·rw[if_neg hp]at h;exact absurd h hc
theorem identE0{s:Str}(h:identE s=0):ident s=true:=ite0 (by decide) h
theorem ident_len{s:Str}(h:ident s=true):s.length≤40/\s≠ []/\∀c∈s,innerB c=true:=by
 unfold ident at h
 split at h
 ·cases h
 ·simp only[Bool.and_eq_true,decide_eq_true_eq,List.all_eq_true]at h
  exact⟨h.1.1.1,by simp,h.2⟩
structure OkU (u:En):Prop where
 name:ident u.name=true
 few:u.tags.length≤16
 some:u.tags≠ []
 tags:∀t∈u.tags,ident t=true
structure OkD (es:List En) (d:Decl):Prop where
 name:ident d.name=true
 few:d.clock.length≤4
 ck:∀o∈d.clock,ident o.name=true
structure OkQ (es:List En) (q:Equ):Prop where
 few:q.left.length≤64
 left:∀n∈q.left,ident n=true
 right:exprX es q.right=0
structure OkT (es:List En) (n:Nat) (t:Tran):Prop where
 tgt:0≤t.to.1/\t.to.1<n
 cond:exprX es t.cond=0
structure OkS (es:List En) (n:Nat) (P:Auto->Prop) (s:Sta):Prop where
 name:ident s.name=true
 few:s.locals.length≤256/\s.eqs.length≤256/\s.autos.length≤8/\s.unl.length≤4/\s.unt.length≤4
 locals:∀d∈s.locals,OkD es d
 eqs:∀q∈s.eqs,OkQ es q
 autos:∀a∈s.autos,P a
 unl:∀q∈s.unl,OkT es n q
 unt:∀q∈s.unt,OkT es n q
def OkA(es:List En):Nat->Auto->Prop
 | 0,_=>False
 | m+1,a=>a.states.length≤8/\∀s∈a.states,OkS es a.states.length (OkA es m) s
structure OkN (es:List En) (n:Nod):Prop where
 name:ident n.name=true
 few:n.ins.length≤64/\n.outs.length≤64/\n.locals.length≤256/\n.eqs.length≤256/\n.autos.length≤8/\n.assume.length≤8/\n.ensure.length≤8
 ins:∀d∈n.ins,OkD es d
 outs:∀d∈n.outs,OkD es d
 locals:∀d∈n.locals,OkD es d
 eqs:∀q∈n.eqs,OkQ es q
 autos:∀a∈n.autos,OkA es 3 a
 assume:∀e∈n.assume,exprX es e=0
 ensure:∀e∈n.ensure,exprX es e=0
structure OkP (p:Prog):Prop where
 few:p.enums.length≤24/\p.nodes.length≤96
 enums:∀u∈p.enums,OkU u
 nodes:∀n∈p.nodes,OkN p.enums n
theorem okD_of{es:List En}{port:Bool}{d:Decl}(h:declE es port d=0):OkD es d:=by
 unfold declE at h
 obtain⟨h1,h⟩:=orE0 h
 obtain⟨_,h⟩:=orE0 h
 obtain⟨_,h⟩:=orE0 h
 obtain⟨h2,h⟩:=orE0 h
 exact⟨identE0 h1,ite0 (by decide) h2,fun o ho=>identE0 (orE0 (firstE_zero h o ho)).1⟩
theorem okQ_of{es:List En}{q:Equ}(h:equE es q=0):OkQ es q:=by
 unfold equE at h
 obtain⟨_,h⟩:=orE0 h
 obtain⟨h1,h⟩:=orE0 h
 obtain⟨h2,h⟩:=orE0 h
 exact⟨ite0 (by decide) h1,fun n hn=>identE0 (firstE_zero h2 n hn),(orE0 h).1⟩
theorem okT_of{es:List En}{n:Nat}{b:Bool}{t:Tran}(h:tranE es n b t=0):OkT es n t:=by
 unfold tranE at h
 obtain⟨h1,h⟩:=orE0 h
 exact⟨ite0 (by decide) h1,(orE0 h).1⟩
theorem okA_of{es:List En}:∀(m:Nat) (a:Auto),autoE es m a=0->OkA es m a
 | 0,a,h=>by cases h
 | m+1,a,h=>by
   unfold autoE at h
   obtain⟨_,h⟩:=orE0 h
   obtain⟨h1,h⟩:=orE0 h
   refine⟨ite0 (by decide) h1,fun s hs=>?_⟩
   have h2:=firstE_zero h s hs
   unfold stE at h2
   obtain⟨g1,h2⟩:=orE0 h2
   obtain⟨g2,h2⟩:=orE0 h2
   obtain⟨g3,h2⟩:=orE0 h2
   obtain⟨g4,h2⟩:=orE0 h2
   obtain⟨g5,h2⟩:=orE0 h2
   obtain⟨g6,g7⟩:=orE0 h2
   exact⟨identE0 g1,ite0 (by decide) g2,fun d hd=>okD_of (firstE_zero g3 d hd),fun q hq=>okQ_of (firstE_zero g4 q hq),fun b hb=>okA_of m b (firstE_zero g5 b hb),fun q hq=>okT_of (firstE_zero g6 q hq),fun q hq=>okT_of (firstE_zero g7 q hq)⟩
theorem okN_of{es:List En}{n:Nod}(h:(nodeX es n).2=0):OkN es n:=by
 unfold nodeX at h
 have h1:headE es n=0:=Classical.byContradiction fun hh=>by rw[if_pos hh]at h;exact hh h
 rw[if_neg (by simp[h1])]at h
 have h2:firstE (equE es) n.eqs=0:=Classical.byContradiction fun hh=>by rw[if_pos hh,firstI_snd]at h;exact hh h
 rw[if_neg (by simp[h2])]at h
 simp only at h
 unfold tailE at h
 obtain⟨g1,h⟩:=orE0 h
 obtain⟨g2,g3⟩:=orE0 h
 unfold headE at h1
 obtain⟨f1,h1⟩:=orE0 h1
 obtain⟨f2,h1⟩:=orE0 h1
 obtain⟨_,h1⟩:=orE0 h1
 obtain⟨f3,h1⟩:=orE0 h1
 obtain⟨f4,f5⟩:=orE0 h1
 exact⟨identE0 f1,ite0 (by decide) f2,fun d hd=>okD_of (firstE_zero f3 d hd),fun d hd=>okD_of (firstE_zero f4 d hd),fun d hd=>okD_of (firstE_zero f5 d hd),fun q hq=>okQ_of (firstE_zero h2 q hq),fun a ha=>okA_of 3 a (firstE_zero g1 a ha),fun e he=>firstE_zero g2 e he,fun e he=>firstE_zero g3 e he⟩
theorem okP_of{p:Prog}(h:(shapeX p).2=0):OkP p:=by
 unfold shapeX at h
 have h1:limE p=0:=Classical.byContradiction fun hh=>by rw[if_pos hh]at h;exact hh h
 rw[if_neg (by simp[h1])]at h
 have h2:firstE enumE p.enums=0:=Classical.byContradiction fun hh=>by rw[if_pos hh]at h;exact hh h
 rw[if_neg (by simp[h2])]at h
 have h3:firstE (fun n=>(nodeX p.enums n).2) p.nodes=0:=Classical.byContradiction fun hh=>by rw[if_neg hh]at h;exact hh h
 refine⟨ite0 (by decide) h1,fun u hu=>?_,fun n hn=>okN_of (firstE_zero h3 n hn)⟩
 have h4:=firstE_zero h2 u hu
 unfold enumE at h4
 obtain⟨e1,h4⟩:=orE0 h4
 obtain⟨e2,h4⟩:=orE0 h4
 obtain⟨e3,h4⟩:=orE0 h4
 exact⟨identE0 e1,ite0 (by decide) e3,(fun hc=>by rw[hc]at e2;simp at e2),fun t ht=>identE0 (firstE_zero h4 t ht)⟩
theorem exprX_one{es:List En}{e:Ex}(h:exprX es e=0):wEx e≤400/\∀x∈flat e,oneX x=0:=by
 unfold exprX at h
 split at h
 ·rename_i hc
  unfold checkX at hc
  split at hc
  ·cases hc
  ·rename_i hd
   exact⟨by omega,firstE_zero hc⟩
 ·rename_i hc;exact absurd h hc
theorem one_name{x:Ex}(h:oneX x=0):x.name=[]\/ident x.name=true\/(wordP x.name).2=0:=by
 unfold oneX oneI at h
 split at h
 ·cases h
 split at h
 ·cases h
 split at h
 ·split at h
  ·exact .inr (.inl (by assumption))
  ·cases h
 split at h
 ·rename_i hw;exact .inr (.inr hw.2)
 split at h
 ·cases h
 ·rename_i hn
  exact .inl (Classical.byContradiction fun hh=>hn (.inl hh))
theorem one_len{x:Ex}(h:oneX x=0):x.name.length≤66:=by
 rcases one_name h with h|h|h
 ·rw[h];exact Nat.zero_le _
 ·exact Nat.le_trans (ident_len h).1 (by decide)
 ·unfold wordP at h
  split at h
  ·cases h
  ·omega
theorem expr_ok{es:List En}{e:Ex}(h:exprX es e=0):ShOk e/\wEx e≤400:=shOk_of h fun x hx=>Nat.le_trans (one_len ((exprX_one h).2 x hx)) (by decide)
theorem shD_of{es:List En}{d:Decl}(h:OkD es d):ShD d:=⟨Nat.le_trans (ident_len h.name).1 (by decide),Nat.le_trans h.few (by decide),fun o ho=>Nat.le_trans (ident_len (h.ck o ho)).1 (by decide)⟩
theorem shQ_of{es:List En}{q:Equ}(h:OkQ es q):ShQ q:=⟨(expr_ok h.right).1,(expr_ok h.right).2,Nat.le_trans h.few (by decide),fun o ho=>Nat.le_trans (ident_len (h.left o ho)).1 (by decide)⟩
theorem shTr_of{es:List En}{n:Nat}{t:Tran}(h:OkT es n t):ShTr n t:=⟨(expr_ok h.cond).1,(expr_ok h.cond).2,h.tgt⟩
theorem shAu_of{es:List En}:∀(m:Nat) (a:Auto),OkA es m a->ShAu m a
 | 0,_,h=>h
 | m+1,a,h=>⟨Nat.le_trans h.1 (by decide),fun s hs=>by
   obtain⟨f1,f2,f3,f4,f5,f6,f7⟩:=h.2 s hs
   exact⟨Nat.le_trans (ident_len f1).1 (by decide),fun d hd=>shD_of (f3 d hd),by omega,fun d hd=>shQ_of (f4 d hd),by omega,fun d hd=>shAu_of m d (f5 d hd),by omega,fun d hd=>shTr_of (f6 d hd),by omega,fun d hd=>shTr_of (f7 d hd),by omega⟩⟩
theorem shNo_of{es:List En}{n:Nod}(h:OkN es n):ShNo n:=by
 obtain⟨f1,f2,f3,f4,f5,f6,f7,f8,f9⟩:=h
 exact⟨Nat.le_trans (ident_len f1).1 (by decide),fun d hd=>shD_of (f3 d hd),by omega,fun d hd=>shD_of (f4 d hd),by omega,fun d hd=>shD_of (f5 d hd),by omega,fun d hd=>shQ_of (f6 d hd),by omega,fun d hd=>shAu_of 3 d (f7 d hd),by omega,fun d hd=>expr_ok (f8 d hd),by omega,fun d hd=>expr_ok (f9 d hd),by omega⟩
structure OkE (es:List En):Prop where
 few:es.length≤24
 all:∀u∈es,OkU u
theorem OkE.sh{es:List En}(h:OkE es):ShE es:=⟨Nat.le_trans h.few (by decide),fun u hu=>Nat.le_trans (h.all u hu).few (by decide),fun u hu t ht=>Nat.le_trans (ident_len ((h.all u hu).tags t ht)).1 (by decide)⟩
theorem enum_name{es:List En}(h:OkE es)(t:Int):(enumOf es t).1.name=[]\/ident (enumOf es t).1.name=true:=by
 unfold enumOf
 split
 ·rename_i hc
  cases hq:es[(t-3).toNat]? with
  | none=>exact .inl (by simp_all)
  | some u=>exact .inr (by simpa [hq]using (h.all u (List.mem_of_getElem? hq)).name)
 ·exact .inl rfl
theorem name_okE{es:List En}(h:OkE es)(t:Int):(nameT es t).1.length≤40:=by
 unfold nameT
 split
 ·decide
 split
 ·decide
 ·rcases enum_name h t with hh|hh
  ·rw[hh];exact Nat.zero_le _
  ·exact(ident_len hh).1
theorem val_len{es:List En}(h:OkE es)(t v:I64):(valS es t.1 v.1).length≤66+30:=by
 unfold valS textT
 split
 ·exact Nat.zero_le _
 split
 ·exact Nat.zero_le _
 split
 ·split
  ·exact Nat.le_of_ble_eq_true rfl
  ·exact Nat.le_of_ble_eq_true rfl
 split
 ·have:=itoa_len v
  dsimp only
  omega
 ·dsimp only
  rename_i h1 h2 h3 h4
  cases hx:(enumOf es t.1).1.tags[v.1.toNat]? with
  | none=>exact Nat.zero_le _
  | some g=>
    have hg:=List.mem_of_getElem? hx
    obtain⟨g1,g2,g3,g4⟩:=enumOf_in (by simpa using h1) h3 h4
    rw[g4]at hg
    have:=(ident_len ((h.all _ (List.getElem_mem g3)).tags g hg)).1
    simp only[Option.getD_some]
    omega
theorem flatS_w{α:Type}{g:α->Str}{f:α->T}{sz c:Nat}:∀ {l:List α},(∀x∈l,(g x).length≤c*(f x).w)->(flatS g l).length≤c*((l.map f).map T.w).sum
 | [],_=>Nat.zero_le _
 | x::l,h=>by
   have h1:=h x (List.mem_cons_self ..)
   have h2:=flatS_w (sz:=sz) (f:=f) (g:=g) (c:=c) (l:=l) fun y hy=>h y (List.mem_cons_of_mem _ hy)
   have:flatS g (x::l)=g x++flatS g l:=by simp[flatS]
   rw[this,List.length_append,List.map_cons,List.map_cons,List.sum_cons,Nat.mul_add]
   omega
theorem join_w{α:Type}{g:α->Str}{f:α->T}{c:Nat}(sep:Str){l:List α}(h:∀x∈l,(g x).length+sep.length≤c*(f x).w):(Go.Lib.join (l.map g) sep).length≤c*((l.map f).map T.w).sum:=by
 refine Nat.le_trans (join_sum sep _) ?_
 induction l with
 | nil=>exact Nat.zero_le _
 | cons x l ih=>
   have h1:=h x (List.mem_cons_self ..)
   have h2:=ih fun y hy=>h y (List.mem_cons_of_mem _ hy)
   simp only[List.map_cons,List.sum_cons,Nat.mul_add]at h2⊢
   omega
theorem lineS_len(level:Nat)(s:Str):(lineS level s).length=2*level+s.length+1:=by
 have:=Go.Lib.repeatL_length [32,32] level
 simp only[lineS,List.length_append,List.length_cons,List.length_nil]at this⊢
 omega
theorem shF_w{es:List En}(h:OkE es){e:Ex}(he:exprX es e=0):(shF es 400 e).length+106≤364*(exT e).w:=by
 have h1:=shF_lenN (N:=66) (val_len h) 400 e (expr_ok he).1 fun x hx=>one_len ((exprX_one he).2 x hx)
 have h2:=wEx_le e
 have:wEx e*(4*66+100)=364*wEx e:=by omega
 omega
theorem declS_w{es:List En}(h:OkE es){d:Decl}(hd:OkD es d):(declS es d).length+2≤400*(declT d).w:=by
 have h1:=(ident_len hd.name).1
 have h2:=name_okE h d.ty.1
 have h3:=w_pos (T.n d.ty)
 have h4:(clockS es d.clock).length≤400*((d.clock.map onT).map T.w).sum:=join_w [32] fun o ho=>by
  have a1:=(ident_len (hd.ck o ho)).1
  have a2:=val_len h o.t o.tag
  have a3:=w_pos (onT o)
  simp only[smpS,List.length_append,List.length_cons,List.length_nil]
  omega
 rw[show declT d= .ag [.s d.name,T.n d.ty,.sl 3 (d.clock.map onT)] from rfl,w_ag]
 simp only[List.map_cons,List.map_nil,List.sum_cons,List.sum_nil,w_sl]
 unfold declS
 split
 ·simp only[List.length_append,List.length_cons,List.length_nil];omega
 ·simp only[List.length_append,List.length_cons,List.length_nil];omega
theorem declsS_w{es:List En}(h:OkE es){l:List Decl}(hd:∀d∈l,OkD es d):(declsS es l).length≤400*((l.map declT).map T.w).sum:=join_w [59,32] fun d hh=>declS_w h (hd d hh)
theorem localsS_w{es:List En}(h:OkE es){level:Nat}(hv:level≤7){l:List Decl}(hd:∀d∈l,OkD es d):(localsS es level l).length≤400*(T.sl 3 (l.map declT)).w:=by
 have h1:=declsS_w h hd
 rw[w_sl]
 unfold localsS
 split
 ·rw[lineS_len]
  simp only[List.length_append,List.length_cons,List.length_nil];omega
 ·exact Nat.zero_le _
theorem equS_w{es:List En}(h:OkE es){level:Nat}(hv:level≤7){q:Equ}(hq:OkQ es q):(equS es level q).length≤400*(equT q).w:=by
 have h1:=shF_w h hq.right
 have h2:(Go.Lib.join q.left [44,32]).length≤400*((q.left.map T.s).map T.w).sum:=by
  have:=join_w (g:=fun s=>s) (f:=T.s) (c:=400) [44,32] (l:=q.left) fun x hx=>by
   have:=(ident_len (hq.left x hx)).1
   have:=w_pos (T.s x)
   simp only[List.length_cons,List.length_nil]
   omega
  simpa using this
 rw[exT_eq,w_ag]at h1
 rw[show equT q= .ag (.sl 1 (q.left.map T.s)::exC q.right) from rfl,w_ag,List.map_cons,List.sum_cons,w_sl]
 unfold equS lhsS
 rw[lineS_len]
 split
 ·simp only[List.length_append,List.length_cons,List.length_nil];omega
 ·simp only[List.length_append,List.length_cons,List.length_nil];omega
theorem tranS_w{es:List En}(h:OkE es){level:Nat}(hv:level≤7){word:Str}(hw:word.length≤6){sts:List Sta}(hs:∀s∈sts,ident s.name=true){q:Tran}(hq:OkT es sts.length q):(tranS es level word sts q).length≤400*(tranT q).w:=by
 have h1:=shF_w h hq.cond
 have h2:(kwS q.resume).length≤10:=by unfold kwS;split <;> decide
 have h3:(((sts[q.to.1.toNat]?).map Sta.name).getD []).length≤40:=by
  cases hx:sts[q.to.1.toNat]? with
  | none=>exact Nat.zero_le _
  | some s=>exact(ident_len (hs s (List.mem_of_getElem? hx))).1
 rw[exT_eq,w_ag]at h1
 simp only[exC,List.map_cons,List.map_nil,List.sum_cons,List.sum_nil]at h1
 have h4:=w_pos (T.b q.resume)
 rw[show tranT q= .ag [T.n q.cond.kind,T.n q.cond.op,T.n q.cond.t,T.n q.cond.v,.s q.cond.name,.sl 6 (q.cond.args.map exT),T.n q.to,.b q.resume] from rfl,w_ag]
 simp only[List.map_cons,List.map_nil,List.sum_cons,List.sum_nil]
 unfold tranS
 rw[lineS_len]
 simp only[List.length_append,List.length_cons,List.length_nil]
 omega
theorem claimS_w{es:List En}(h:OkE es){word:Str}(hw:word.length≤6){e:Ex}(he:exprX es e=0):(claimS es word e).length≤400*(exT e).w:=by
 have h1:=shF_w h he
 unfold claimS
 rw[lineS_len]
 simp only[List.length_append,List.length_cons,List.length_nil]
 omega
theorem autoS_w{es:List En}(h:OkE es):∀(m level:Nat) (a:Auto),level+2*m≤7->OkA es m a->(autoS es m level a).length≤400*(autoT a).w
 | 0,_,_,_,ha=>ha.elim
 | m+1,level,a,hv,ha=>by
   have hst:=ha.2
   have h1:(flatS (staS es (autoS es m) level a.states) a.states).length≤400*((a.states.map staT).map T.w).sum:=flatS_w (sz:=6) fun s hs=>by
    obtain⟨f1,f2,f3,f4,f5,f6,f7⟩:=hst s hs
    have hnm:∀s∈a.states,ident s.name=true:=fun s hs=>(hst s hs).name
    have a1:=(ident_len f1).1
    have a2:=localsS_w h (level:=level+2) (by omega) f3
    have a3:(flatS (equS es (level+2)) s.eqs).length≤400*((s.eqs.map equT).map T.w).sum:=flatS_w (sz:=7) fun q hq=>equS_w h (by omega) (f4 q hq)
    have a4:(flatS (autoS es m (level+2)) s.autos).length≤400*((s.autos.map autoT).map T.w).sum:=flatS_w (sz:=1) fun q hq=>autoS_w h m (level+2) q (by omega) (f5 q hq)
    have a5:(flatS (tranS es (level+2) [117,110,108,101,115,115] a.states) s.unl).length≤400*((s.unl.map tranT).map T.w).sum:=flatS_w (sz:=8) fun q hq=>tranS_w h (by omega) (by decide) hnm (f6 q hq)
    have a6:(flatS (tranS es (level+2) [117,110,116,105,108] a.states) s.unt).length≤400*((s.unt.map tranT).map T.w).sum:=flatS_w (sz:=8) fun q hq=>tranS_w h (by omega) (by decide) hnm (f7 q hq)
    have a7:=w_pos (T.s s.name)
    rw[staT_eq,w_ag]
    simp only[List.map_cons,List.map_nil,List.sum_cons,List.sum_nil,w_sl]at a2⊢
    simp only[staS,List.length_append,lineS_len,List.length_cons,List.length_nil]
    omega
   rw[autoT_eq,w_ag]
   simp only[List.map_cons,List.map_nil,List.sum_cons,List.sum_nil,w_sl]
   simp only[autoS,List.length_append,lineS_len,List.length_cons,List.length_nil]
   omega
theorem nodeS_w{es:List En}(h:OkE es){n:Nod}(hn:OkN es n):(nodeS es n).length≤400*(nodT n).w:=by
 obtain⟨f1,f2,f3,f4,f5,f6,f7,f8,f9⟩:=hn
 have a1:=(ident_len f1).1
 have a2:=declsS_w h f3
 have a3:=declsS_w h f4
 have a4:=localsS_w h (level:=1) (by decide) f5
 have a5:(flatS (equS es 1) n.eqs).length≤400*((n.eqs.map equT).map T.w).sum:=flatS_w (sz:=7) fun q hq=>equS_w h (by decide) (f6 q hq)
 have a6:(flatS (autoS es 3 1) n.autos).length≤400*((n.autos.map autoT).map T.w).sum:=flatS_w (sz:=1) fun q hq=>autoS_w h 3 1 q (by decide) (f7 q hq)
 have a7:(flatS (claimS es [97,115,115,117,109,101]) n.assume).length≤400*((n.assume.map exT).map T.w).sum:=flatS_w (sz:=6) fun q hq=>claimS_w h (by decide) (f8 q hq)
 have a8:(flatS (claimS es [101,110,115,117,114,101]) n.ensure).length≤400*((n.ensure.map exT).map T.w).sum:=flatS_w (sz:=6) fun q hq=>claimS_w h (by decide) (f9 q hq)
 have a9:=w_pos (T.s n.name)
 rw[show nodT n= .ag [.s n.name,.sl 3 (n.ins.map declT),.sl 3 (n.outs.map declT),.sl 3 (n.locals.map declT),.sl 7 (n.eqs.map equT),.sl 1 (n.autos.map autoT),.sl 6 (n.assume.map exT),.sl 6 (n.ensure.map exT)] from rfl,w_ag]
 simp only[List.map_cons,List.map_nil,List.sum_cons,List.sum_nil,w_sl]at a4⊢
 simp only[nodeS,headS,List.length_append,lineS_len,List.length_cons,List.length_nil]
 omega
theorem enumS_w{u:En}(hu:OkU u):(enumS u).length≤400*(enT u).w:=by
 have a1:=(ident_len hu.name).1
 have a2:(Go.Lib.join u.tags [32,124,32]).length≤400*((u.tags.map T.s).map T.w).sum:=by
  have:=join_w (g:=fun s=>s) (f:=T.s) (c:=400) [32,124,32] (l:=u.tags) fun x hx=>by
   have:=(ident_len (hu.tags x hx)).1
   have:=w_pos (T.s x)
   simp only[List.length_cons,List.length_nil]
   omega
  simpa using this
 rw[show enT u= .ag [.s u.name,.sl 1 (u.tags.map T.s)] from rfl,w_ag]
 simp only[List.map_cons,List.map_nil,List.sum_cons,List.sum_nil,w_sl]
 simp only[enumS,List.length_append,lineS_len,List.length_cons,List.length_nil]
 omega
theorem okE_of{p:Prog}(h:OkP p):OkE p.enums:=⟨h.few.1,h.enums⟩
theorem shPr_of{p:Prog}(h:OkP p)(hw:(T.ag (progC p)).w≤2200000):ShPr p:=by
 have hE:=okE_of h
 refine⟨hE.sh,fun t=>Nat.le_trans (name_okE hE t) (by decide),fun u hu=>?_,Nat.le_trans h.few.1 (by decide),fun n hn=>shNo_of (h.nodes n hn),Nat.le_trans h.few.2 (by decide),?_⟩
 ·have hq:=h.enums u hu
  exact⟨Nat.le_trans (ident_len hq.name).1 (by decide),Nat.le_trans hq.few (by decide),fun t ht=>Nat.le_trans (ident_len (hq.tags t ht)).1 (by decide)⟩
 ·have a1:(flatS enumS p.enums).length≤400*((p.enums.map enT).map T.w).sum:=flatS_w (sz:=2) fun u hu=>enumS_w (h.enums u hu)
  have a2:(flatS (nodeS p.enums) p.nodes).length≤400*((p.nodes.map nodT).map T.w).sum:=flatS_w (sz:=8) fun u hu=>nodeS_w hE (h.nodes u hu)
  rw[w_ag]at hw
  simp only[progC,nodesT,List.map_cons,List.map_nil,List.sum_cons,List.sum_nil,w_sl]at hw
  rw[show progS p=flatS enumS p.enums++flatS (nodeS p.enums) p.nodes from rfl,List.length_append]
  omega
theorem rg{n:Nat}{env0 envF:Env}{H0:Heap}{K:TK}{id':Nat}{l:List Oper}(t:List SV)
  (hp:Prem Tryz.prog n l.toArray (fullE l.toArray t env0) l (t.map fun v=>(v,false)) [H0])(hK:K .normal envF H0)
  (hB:(Nat.beq t.length l.length && mixB l.toArray (t.map fun _=>false))=true:=by dsimp only[List.map,List.length];decide +kernel)(hE:forceL (fullE l.toArray t env0)=some envF:=by exact rfl):
  TR Tryz.prog n (.region id' l.toArray true) env0 H0 K:=by
 simp only[Bool.and_eq_true]at hB
 have e1:(t.map fun v=>(v,false)).map (·.1)=t:=by rw[List.map_map];exact List.map_id t
 have e2:(t.map fun v=>(v,false)).map (·.2)=t.map fun _=>false:=by rw[List.map_map];rfl
 have e3:(t.map fun _=>false).filter id=[]:=by
  rw[List.filter_map];simp
 exact TR.regionM (t.map fun v=>(v,false)) [H0] hmix (by rw[e2];exact hB.2) rfl (by rw[e1];exact hp) (by rw[e2,e3];rfl) (by rw[e1];exact hE) hK
theorem weigh_sound':∀(m:Nat) (e:Ex),wEx e≤m->∀(q:Nat),1≤q->q≤1000000->Pure Tryz.prog 12 [.t (.ag (exC e)),.i q] (.i (min (wEx e) q:Nat)):=by
 intro m
 induction m with
 | zero=>intro e he;have:=wEx_pos e;omega
 | succ m ih0=>
   intro e he q hq1 hq2
   have hw:=wEx_eq e
   have ih:∀x∈e.args,∀(q:Nat),1≤q->q≤1000000->Pure Tryz.prog 12 [.t (.ag (exC x)),.i q] (.i (min (wEx x) q:Nat)):=fun x hx q h1 h2=>ih0 x (by have:=wEx_arg hx;omega) q h1 h2
   clear ih0
   rw[hw]
   generalize hL:e.args=L at ih⊢
   have hml:(L.map exT).length=L.length:=List.length_map _
   unfold exC
   rw[hL]
   refine so Tryz.func12 ?_
   repeat' (first|refine wu ?_|exact wkc|intro hc|refine wk2 ?_ ?_|fail)
   refine TR.loopN L.length (fun k=>k<1+((L.take k).map wEx).sum) (fun k=>[(1,.i q),(2,.cp [T.n e.kind,T.n e.op,T.n e.t,T.n e.v,.s e.name,.sl 6 (L.map exT)] 0),(5,.i (min (1+((L.take k).map wEx).sum) q:Nat)),(6,.i k)]) (fun _=>[]) (by simp) (fun k hlt hk=>?_) (fun hk=>?_) ⟨rfl,rfl,by rw[show min (1+((L.take 0).map wEx).sum) q=1 from by simp;omega];rfl,rfl,trivial⟩
   ·have hx:=at_exT hlt
    have htk:((L.take (k+1)).map wEx).sum=((L.take k).map wEx).sum+wEx L[k]:=by rw[take_at hlt,List.map_append,List.sum_append];simp
    have hle:((L.take k).map wEx).sum≤(L.map wEx).sum:=by
     conv=>rhs;rw[<-List.take_append_drop k L]
     rw[List.map_append,List.sum_append];omega
    have hwp:=wEx_pos L[k]
    have hi:=ih L[k] (List.getElem_mem hlt)
    generalize L[k]=x at hx htk hwp hi
    generalize hS:((L.take k).map wEx).sum=S at*
    generalize hT:(L.map wEx).sum=W at*
    unfold exC at hx hi
    by_cases hc0:1+S<q
    ·have hn:min (1+S) q=1+S:=by omega
     rw[hn]
     have hi2:=hi (q-(1+S)) (by omega) (by omega)
     rw[show((q-(1+S):Nat):Int)=(q:Int)-((1+S:Nat):Int) from by omega]at hi2
     have hr:((1+S:Nat):Int)+((min (wEx x) (q-(1+S)):Nat):Int)=((min (1+(S+wEx x)) q:Nat):Int):=by omega
     generalize min (wEx x) (q-(1+S))=z at hi2 hr
     have hz:z≤1000000:=by omega
     repeat' (first|refine wu ?_|exact wkc|intro hc|refine wk2 ?_ ?_|refine wv hi2 ?_|fail)
     exact LoopK.nextN hlt (by rw[htk];omega) ⟨rfl,rfl,by rw[htk,<-hr];rfl,rfl,trivial⟩
    ·have hn:min (1+S) q=q:=by omega
     rw[hn,show min (1+W) q=q from by omega]
     repeat' (first|refine wu ?_|exact wkc|intro hc|refine wk2 ?_ ?_|fail|fail)
     all_goals first
      | (exfalso;omega)
      | (refine RetK.pure rfl (Le.of_eq ?_) rfl;refine congrArg (fun z=>SV.t (T.v (Value.int IntKind.i64 z))) ?_;omega)
   ·rw[List.take_length]
    repeat' (first|refine wu ?_|exact wkc|intro hc|refine wk2 ?_ ?_|fail)
    all_goals first
     | (exfalso;omega)
     | (refine RetK.pure rfl (Le.of_eq ?_) rfl;refine congrArg (fun z=>SV.t (T.v (Value.int IntKind.i64 z))) ?_;omega)
end Go.Proofs.YtjgmcnemcembmaaGreatDoor
namespace Go.TL
open Go
def FinK(id:Nat)(EF:Env)(GF:Heap)(K:TK):TK
 | .exit i,env,H=>i=id/\env.sub EF/\H=GF
 | e,env,H=>K e env H
theorem TR.fin{P:Program}{n id:Nat}{env EF:Env}{H GF:Heap}{K:TK}{c:Code}(h:TR P n c env H (FinK id EF GF K))(fin:K (.exit id) EF GF):TR P n c env H K:=
 TR.weak (TR.mono h fun te env H hk=>by
  cases te with
  | exit i=>
    obtain⟨rfl,h1,rfl⟩:=hk
    exact⟨EF,fun i v hv=>⟨v,Env.sub_look h1 i v hv,Le.refl v⟩,fin⟩
  | _=>exact WeakK.done hk)
section
variable {P:Program}{n:Nat}{env:Env}{K:TK}{all:Array Oper}{rest:List Oper}{d:Nat}{ty:TypeId}{pos:String}{aft:Array Edge}{H:Heap}{q:Bool}
theorem TO.quoN{t t':TypeId}{x y:Operand}{a b:Nat}(hd:Nat.ble (d+1) n=true)(hx:env.val x=some (.i a))(hy:env.val y=some (.i b))(hb:0<b)(ha:a≤1000000000000)
  (k:TO q P n all rest ((d,.i (a / b:Nat))::env) H K):TO q P n all (⟨some d,.binOp .quo t x y t',ty,pos,aft,none⟩::rest) env H K:=
 TO.bquo hd hx hy (by omega) (by
  have h2:a / b≤a:=Nat.div_le_self a b
  rw[show((a:Int).tdiv b)=((a / b:Nat):Int) from by rw[Int.ofNat_tdiv]]
  generalize a / b=c at*
  rw[wrap_in (by omega) (by omega)];exact k)
end
end Go.TL
set_option linter.unusedVariables false
set_option linter.unusedSimpArgs false
namespace Go.Proofs.YtjgmcnemcembmaaGreatDoor
open Go Go.TL
attribute [local irreducible] TR TO Then InBlock RetK Sound LoopK Kf GG ThenL
theorem name_decl{l:List Decl}{d:Decl}(h:d∈l):d.name.length<(declsT l).w/\(T.sl 3 (d.clock.map onT)).w<(declsT l).w:=by
 have:=w_inM (f:=declT) (sz:=3) h
 rw[show declT d= .ag (declC d) from rfl,w_ag]at this
 simp only[declC,List.map_cons,List.map_nil,List.sum_cons,List.sum_nil,w_s]at this
 have h2:(declsT l).w=(T.sl 3 (l.map declT)).w:=rfl
 omega
def wgs{α:Type}(g:Nat->α->Nat)(q:Nat):List α->Nat->Nat
 | [],n=>n
 | x::l,n=>if n<q then wgs g q l (g n x) else n
theorem wgs_stop{α:Type}{g:Nat->α->Nat}{q n:Nat}(h:¬n<q):∀(l:List α),wgs g q l n=n
 | []=>rfl
 | x::l=>by rw[wgs,if_neg h]
theorem wgs_append{α:Type}(g:Nat->α->Nat)(q:Nat):∀(a b:List α) (n:Nat),wgs g q (a++b) n=wgs g q b (wgs g q a n)
 | [],b,n=>rfl
 | x::a,b,n=>by
   rw[List.cons_append,wgs,wgs]
   by_cases h:n<q
   ·rw[if_pos h,if_pos h,wgs_append g q a b]
   ·rw[if_neg h,if_neg h,wgs_stop h]
theorem wgs_take{α:Type}{g:Nat->α->Nat}{q n:Nat}{l:List α}{k:Nat}(hk:k<l.length)(h:wgs g q (l.take k) n<q):wgs g q (l.take (k+1)) n=g (wgs g q (l.take k) n) l[k]:=by
 rw[List.take_succ_eq_append_getElem hk,wgs_append,wgs,if_pos h,wgs]
theorem wgs_done{α:Type}{g:Nat->α->Nat}{q n:Nat}{l:List α}{k:Nat}(h:¬wgs g q (l.take k) n<q):wgs g q l n=wgs g q (l.take k) n:=by
 conv=>lhs;rw[<-List.take_append_drop k l]
 rw[wgs_append,wgs_stop h]
theorem wgs_le{α:Type}{g:Nat->α->Nat}{q B:Nat}:∀(l:List α) (n:Nat),n≤B->(∀n,n<q->∀x∈l,g n x≤B)->wgs g q l n≤B
 | [],n,h,_=>h
 | x::l,n,h,hg=>by
   rw[wgs]
   split
   ·rename_i hq
    exact wgs_le l _ (hg n hq x (by simp)) fun n hn y hy=>hg n hn y (by simp[hy])
   ·exact h
def wD(q:Nat)(l:List Decl):Nat:=wgs (fun n x=>n+((x.clock.map onT).length+x.name.length / 100)) q l l.length
theorem wD_le{q:Nat}(hq:q≤1500){l:List Decl}(hl:l.length≤100000000)(hx:∀x∈l,(x.clock.map onT).length≤100000000/\x.name.length≤100000000):wD q l≤200000000:=
 wgs_le l _ (by omega) fun n hn x h=>by have:=hx x h;omega
theorem wD_sound(q:Nat)(hq1:1≤q)(hq:q≤1500)(l:List Decl)(hl:l.length≤100000000)(hx:∀x∈l,(x.clock.map onT).length≤100000000/\x.name.length≤100000000):Pure Tryz.prog 44 [.t (declsT l),.i q] (.i (wD q l:Nat)):=by
 have hml:(l.map declT).length=l.length:=List.length_map _
 unfold wD
 refine so Tryz.func44 ?_
 repeat' (first|refine wu ?_|exact wkc|intro hc|refine wk2 ?_ ?_|fail)
 refine TR.fin (id:=0) (EF:=[(5,.i (wgs (fun n x=>n+((x.clock.map onT).length+x.name.length / 100)) q l l.length:Nat))]) (GF:=[]) (TR.loopN l.length (fun _=>True) (fun k=>[(0,.t (declsT l)),(1,.i q),(5,.i (wgs (fun n x=>n+((x.clock.map onT).length+x.name.length / 100)) q (l.take k) l.length:Nat)),(6,.i k)]) (fun _=>[]) trivial (fun k hlt _=>?_) (fun _=>?_) ⟨rfl,rfl,by rw[<-hml];rfl,rfl,trivial⟩) ?_
 ·have hat:=at_decl hlt
  have hxk:=hx _ (List.getElem_mem hlt)
  have hb:wgs (fun n (x:Decl)=>n+((x.clock.map onT).length+x.name.length / 100)) q (l.take k) l.length≤200000000:=wgs_le _ _ (by omega) fun n hn x h=>by have:=hx x (List.mem_of_mem_take h);omega
  by_cases hn:wgs (fun n (x:Decl)=>n+((x.clock.map onT).length+x.name.length / 100)) q (l.take k) l.length<q
  ·have hs:=wgs_take hlt hn
   generalize wgs (fun n (x:Decl)=>n+((x.clock.map onT).length+x.name.length / 100)) q (l.take k) l.length=n at*
   generalize l[k]=x at*
   rw[show n+((x.clock.map onT).length+x.name.length / 100)=n+(x.clock.map onT).length+x.name.length / 100 by omega]at hs
   unfold declC at hat
   repeat' (first|refine wkt ?_|(apply TO.quoN (b:=100);exact rfl;exact rfl;exact rfl;omega;omega)|exact trivial|exact And.intro rfl rfl|refine And.intro (fun H env=>?_) ?_|refine wk ?_|exact wkc|intro hc|refine wk2 ?_ ?_|fail)
   exact LoopK.nextN hlt trivial ⟨rfl,rfl,by(try dsimp only);rw[hs];rfl,rfl,trivial⟩
  ·have hs:=wgs_done hn
   generalize wgs (fun n (x:Decl)=>n+((x.clock.map onT).length+x.name.length / 100)) q (l.take k) l.length=n at*
   rw[hs]
   repeat' (first|refine wu ?_|exact wkc|intro hc|refine wk2 ?_ ?_|fail)
   exact⟨rfl,⟨rfl,trivial⟩,rfl⟩
 ·rw[List.take_length]
  repeat' (first|refine wu ?_|exact wkc|intro hc|refine wk2 ?_ ?_|fail)
  all_goals exact⟨rfl,⟨rfl,trivial⟩,rfl⟩
 ·repeat' (first|refine wu ?_|exact wkc|intro hc|refine wk2 ?_ ?_|fail)
  exact wkr
def wE(q:Nat)(l:List Equ):Nat:=wgs (fun n x=>n+((x.left.map T.s).length+min (wEx x.right) q)) q l l.length
theorem wE_le{q:Nat}(hq:q≤1500){l:List Equ}(hl:l.length≤100000000)(hx:∀x∈l,(x.left.map T.s).length≤100000000):wE q l≤200000000:=
 wgs_le l _ (by omega) fun n hn x h=>by have:=hx x h;omega
theorem wE_sound(q:Nat)(hq1:1≤q)(hq:q≤1500)(l:List Equ)(hl:l.length≤100000000)(hx:∀x∈l,(x.left.map T.s).length≤100000000):Pure Tryz.prog 45 [.t (.sl 7 (l.map equT)),.i q] (.i (wE q l:Nat)):=by
 have hml:(l.map equT).length=l.length:=List.length_map _
 unfold wE
 refine so Tryz.func45 ?_
 repeat' (first|refine wu ?_|exact wkc|intro hc|refine wk2 ?_ ?_|fail)
 refine TR.fin (id:=0) (EF:=[(5,.i (wgs (fun n x=>n+((x.left.map T.s).length+min (wEx x.right) q)) q l l.length:Nat))]) (GF:=[]) (TR.loopN l.length (fun _=>True) (fun k=>[(0,.t (.sl 7 (l.map equT))),(1,.i q),(5,.i (wgs (fun n x=>n+((x.left.map T.s).length+min (wEx x.right) q)) q (l.take k) l.length:Nat)),(6,.i k)]) (fun _=>[]) trivial (fun k hlt _=>?_) (fun _=>?_) ⟨rfl,rfl,by rw[<-hml];rfl,rfl,trivial⟩) ?_
 ·have hat:=at_equ hlt
  have hxk:=hx _ (List.getElem_mem hlt)
  have hb:wgs (fun n (x:Equ)=>n+((x.left.map T.s).length+min (wEx x.right) q)) q (l.take k) l.length≤200000000:=wgs_le _ _ (by omega) fun n hn x h=>by have:=hx x (List.mem_of_mem_take h);omega
  by_cases hn:wgs (fun n (x:Equ)=>n+((x.left.map T.s).length+min (wEx x.right) q)) q (l.take k) l.length<q
  ·have hs:=wgs_take hlt hn
   generalize wgs (fun n (x:Equ)=>n+((x.left.map T.s).length+min (wEx x.right) q)) q (l.take k) l.length=n at*
   generalize l[k]=x at*
   rw[show n+((x.left.map T.s).length+min (wEx x.right) q)=n+(x.left.map T.s).length+min (wEx x.right) q by omega]at hs
   have hw:=weigh_sound' _ x.right (Nat.le_refl _) q hq1 (by omega)
   have hmq:min (wEx x.right) q≤1500:=by omega
   generalize min (wEx x.right) q=wq at*
   unfold exC at hw
   unfold equC at hat
   repeat' (first|refine wkt ?_|refine rg [.i n,.t (.sl 7 (l.map equT)),.i k,.cp [.sl 1 (x.left.map T.s),T.n x.right.kind,T.n x.right.op,T.n x.right.t,T.n x.right.v,.s x.right.name,.sl 6 (x.right.args.map exT)] 0,.cp [.sl 1 (x.left.map T.s),T.n x.right.kind,T.n x.right.op,T.n x.right.t,T.n x.right.v,.s x.right.name,.sl 6 (x.right.args.map exT)] 0,.t (.sl 1 (x.left.map T.s)),.i (x.left.map T.s).length,.i (n+(x.left.map T.s).length:Nat),.t (.sl 7 (l.map equT)),.i k,.cp [.sl 1 (x.left.map T.s),T.n x.right.kind,T.n x.right.op,T.n x.right.t,T.n x.right.v,.s x.right.name,.sl 6 (x.right.args.map exT)] 0,.cp [.sl 1 (x.left.map T.s),T.n x.right.kind,T.n x.right.op,T.n x.right.t,T.n x.right.v,.s x.right.name,.sl 6 (x.right.args.map exT)] 1,.t (.ag [T.n x.right.kind,T.n x.right.op,T.n x.right.t,T.n x.right.v,.s x.right.name,.sl 6 (x.right.args.map exT)]),.i q,.i (wq:Nat),.i (n+(x.left.map T.s).length+wq:Nat),.i (n+(x.left.map T.s).length+wq:Nat)] ?_ ?_|refine wv hw ?_|exact trivial|exact And.intro rfl rfl|refine And.intro (fun H env=>?_) ?_|refine wk ?_|exact wkc|intro hc|refine wk2 ?_ ?_|fail)
   exact LoopK.nextN hlt trivial ⟨rfl,rfl,by(try dsimp only);rw[hs];rfl,rfl,trivial⟩
  ·have hs:=wgs_done hn
   generalize wgs (fun n (x:Equ)=>n+((x.left.map T.s).length+min (wEx x.right) q)) q (l.take k) l.length=n at*
   rw[hs]
   repeat' (first|refine wu ?_|exact wkc|intro hc|refine wk2 ?_ ?_|fail)
   exact⟨rfl,⟨rfl,trivial⟩,rfl⟩
 ·rw[List.take_length]
  repeat' (first|refine wu ?_|exact wkc|intro hc|refine wk2 ?_ ?_|fail)
  all_goals exact⟨rfl,⟨rfl,trivial⟩,rfl⟩
 ·repeat' (first|refine wu ?_|exact wkc|intro hc|refine wk2 ?_ ?_|fail)
  exact wkr
def wX(q:Nat)(l:List Ex):Nat:=wgs (fun n x=>n+(min (wEx x) q)) q l l.length
theorem wX_le{q:Nat}(hq:q≤1500){l:List Ex}(hl:l.length≤100000000)(hx:∀x∈l,wEx x≤1000000000):wX q l≤200000000:=
 wgs_le l _ (by omega) fun n hn x h=>by have:=hx x h;omega
theorem wX_sound(q:Nat)(hq1:1≤q)(hq:q≤1500)(l:List Ex)(hl:l.length≤100000000)(hx:∀x∈l,wEx x≤1000000000):Pure Tryz.prog 46 [.t (.sl 6 (l.map exT)),.i q] (.i (wX q l:Nat)):=by
 have hml:(l.map exT).length=l.length:=List.length_map _
 unfold wX
 refine so Tryz.func46 ?_
 repeat' (first|refine wu ?_|exact wkc|intro hc|refine wk2 ?_ ?_|fail)
 refine TR.fin (id:=0) (EF:=[(5,.i (wgs (fun n x=>n+(min (wEx x) q)) q l l.length:Nat))]) (GF:=[]) (TR.loopN l.length (fun _=>True) (fun k=>[(0,.t (.sl 6 (l.map exT))),(1,.i q),(5,.i (wgs (fun n x=>n+(min (wEx x) q)) q (l.take k) l.length:Nat)),(6,.i k)]) (fun _=>[]) trivial (fun k hlt _=>?_) (fun _=>?_) ⟨rfl,rfl,by rw[<-hml];rfl,rfl,trivial⟩) ?_
 ·have hat:=at_exT hlt
  have hxk:=hx _ (List.getElem_mem hlt)
  have hb:wgs (fun n (x:Ex)=>n+(min (wEx x) q)) q (l.take k) l.length≤200000000:=wgs_le _ _ (by omega) fun n hn x h=>by have:=hx x (List.mem_of_mem_take h);omega
  by_cases hn:wgs (fun n (x:Ex)=>n+(min (wEx x) q)) q (l.take k) l.length<q
  ·have hs:=wgs_take hlt hn
   generalize wgs (fun n (x:Ex)=>n+(min (wEx x) q)) q (l.take k) l.length=n at*
   generalize l[k]=x at*
   have hw:=weigh_sound' _ x (Nat.le_refl _) q hq1 (by omega)
   have hmq:min (wEx x) q≤1500:=by omega
   generalize min (wEx x) q=wq at*
   unfold exC at hw
   unfold exC at hat
   repeat' (first|refine wkt ?_|refine wv hw ?_|exact trivial|exact And.intro rfl rfl|refine And.intro (fun H env=>?_) ?_|refine wk ?_|exact wkc|intro hc|refine wk2 ?_ ?_|fail)
   exact LoopK.nextN hlt trivial ⟨rfl,rfl,by(try dsimp only);rw[hs];rfl,rfl,trivial⟩
  ·have hs:=wgs_done hn
   generalize wgs (fun n (x:Ex)=>n+(min (wEx x) q)) q (l.take k) l.length=n at*
   rw[hs]
   repeat' (first|refine wu ?_|exact wkc|intro hc|refine wk2 ?_ ?_|fail)
   exact⟨rfl,⟨rfl,trivial⟩,rfl⟩
 ·rw[List.take_length]
  repeat' (first|refine wu ?_|exact wkc|intro hc|refine wk2 ?_ ?_|fail)
  all_goals exact⟨rfl,⟨rfl,trivial⟩,rfl⟩
 ·repeat' (first|refine wu ?_|exact wkc|intro hc|refine wk2 ?_ ?_|fail)
  exact wkr
def wT(q:Nat)(l:List Tran):Nat:=wgs (fun n x=>n+(min (wEx x.cond) q)) q l l.length
theorem wT_le{q:Nat}(hq:q≤1500){l:List Tran}(hl:l.length≤100000000)(hx:∀x∈l,wEx x.cond≤1000000000):wT q l≤200000000:=
 wgs_le l _ (by omega) fun n hn x h=>by have:=hx x h;omega
theorem wT_sound(q:Nat)(hq1:1≤q)(hq:q≤1500)(l:List Tran)(hl:l.length≤100000000)(hx:∀x∈l,wEx x.cond≤1000000000):Pure Tryz.prog 82 [.t (.sl 8 (l.map tranT)),.i q] (.i (wT q l:Nat)):=by
 have hml:(l.map tranT).length=l.length:=List.length_map _
 unfold wT
 refine so Tryz.func82 ?_
 repeat' (first|refine wu ?_|exact wkc|intro hc|refine wk2 ?_ ?_|fail)
 refine TR.fin (id:=0) (EF:=[(5,.i (wgs (fun n x=>n+(min (wEx x.cond) q)) q l l.length:Nat))]) (GF:=[]) (TR.loopN l.length (fun _=>True) (fun k=>[(0,.t (.sl 8 (l.map tranT))),(1,.i q),(5,.i (wgs (fun n x=>n+(min (wEx x.cond) q)) q (l.take k) l.length:Nat)),(6,.i k)]) (fun _=>[]) trivial (fun k hlt _=>?_) (fun _=>?_) ⟨rfl,rfl,by rw[<-hml];rfl,rfl,trivial⟩) ?_
 ·have hat:=at_tran hlt
  have hxk:=hx _ (List.getElem_mem hlt)
  have hb:wgs (fun n (x:Tran)=>n+(min (wEx x.cond) q)) q (l.take k) l.length≤200000000:=wgs_le _ _ (by omega) fun n hn x h=>by have:=hx x (List.mem_of_mem_take h);omega
  by_cases hn:wgs (fun n (x:Tran)=>n+(min (wEx x.cond) q)) q (l.take k) l.length<q
  ·have hs:=wgs_take hlt hn
   generalize wgs (fun n (x:Tran)=>n+(min (wEx x.cond) q)) q (l.take k) l.length=n at*
   generalize l[k]=x at*
   have hw:=weigh_sound' _ x.cond (Nat.le_refl _) q hq1 (by omega)
   have hmq:min (wEx x.cond) q≤1500:=by omega
   generalize min (wEx x.cond) q=wq at*
   unfold exC at hw
   unfold tranC at hat
   repeat' (first|refine wkt ?_|refine wv hw ?_|exact trivial|exact And.intro rfl rfl|refine And.intro (fun H env=>?_) ?_|refine wk ?_|exact wkc|intro hc|refine wk2 ?_ ?_|fail)
   exact LoopK.nextN hlt trivial ⟨rfl,rfl,by(try dsimp only);rw[hs];rfl,rfl,trivial⟩
  ·have hs:=wgs_done hn
   generalize wgs (fun n (x:Tran)=>n+(min (wEx x.cond) q)) q (l.take k) l.length=n at*
   rw[hs]
   repeat' (first|refine wu ?_|exact wkc|intro hc|refine wk2 ?_ ?_|fail)
   exact⟨rfl,⟨rfl,trivial⟩,rfl⟩
 ·rw[List.take_length]
  repeat' (first|refine wu ?_|exact wkc|intro hc|refine wk2 ?_ ?_|fail)
  all_goals exact⟨rfl,⟨rfl,trivial⟩,rfl⟩
 ·repeat' (first|refine wu ?_|exact wkc|intro hc|refine wk2 ?_ ?_|fail)
  exact wkr
def stW(F:Nat->List Auto->Nat)(q n:Nat)(s:Sta):Nat:=
 if n+1+wD q s.locals+wE q s.eqs+wT q s.unl+wT q s.unt<q then n+1+wD q s.locals+wE q s.eqs+wT q s.unl+wT q s.unt+F (q-(n+1+wD q s.locals+wE q s.eqs+wT q s.unl+wT q s.unt)) s.autos else n+1+wD q s.locals+wE q s.eqs+wT q s.unl+wT q s.unt
def wgA:Nat->Nat->List Auto->Nat
 | 0,_,_=>0
 | m+1,q,l=>wgs (fun n a=>wgs (stW (wgA m) q) q a.states n) q l l.length
theorem decl_w8{l:List Decl}(h:(declsT l).w≤100000000):l.length≤100000000/\∀x∈l,(x.clock.map onT).length≤100000000/\x.name.length≤100000000:=by
 have h1:=w_lenM declT 3 l
 have h2:(declsT l).w=(T.sl 3 (l.map declT)).w:=rfl
 refine⟨by omega,fun x hx=>?_⟩
 have h3:=name_decl hx
 have h4:=w_lenM onT 3 x.clock
 rw[List.length_map]
 omega
theorem equ_w8{l:List Equ}(h:(T.sl 7 (l.map equT)).w≤100000000):l.length≤100000000/\∀x∈l,(x.left.map T.s).length≤100000000:=by
 have h1:=w_lenM equT 7 l
 refine⟨by omega,fun x hx=>?_⟩
 have h3:=w_inM (f:=equT) (sz:=7) hx
 have h4:=left_equ (q:=x)
 rw[List.length_map]
 omega
theorem ex_w8{l:List Ex}(h:(T.sl 6 (l.map exT)).w≤100000000):l.length≤100000000/\∀x∈l,wEx x≤1000000000:=by
 have h1:=w_lenM exT 6 l
 refine⟨by omega,fun x hx=>?_⟩
 have h3:=w_inM (f:=exT) (sz:=6) hx
 have h4:=wEx_le x
 omega
theorem tran_w8{l:List Tran}(h:(T.sl 8 (l.map tranT)).w≤100000000):l.length≤100000000/\∀x∈l,wEx x.cond≤1000000000:=by
 have h1:=w_lenM tranT 8 l
 refine⟨by omega,fun x hx=>?_⟩
 have h3:=w_inM (f:=tranT) (sz:=8) hx
 have h4:=wEx_tran (t:=x)
 omega
theorem stW_le{F:Nat->List Auto->Nat}{B q n:Nat}(hF:∀(q:Nat),q≤1500->∀l:List Auto,(T.sl 1 (l.map autoT)).w≤100000000->F q l≤B)(hB:1000000000≤B)(hq:q≤1500)(hn:n<q){s:Sta}(hs:(staT s).w≤100000000):stW F q n s≤B+2000:=by
 have w4:=w_sta s
 have d:=decl_w8 (l:=s.locals) (by omega)
 have e:=equ_w8 (l:=s.eqs) (by omega)
 have t1:=tran_w8 (l:=s.unl) (by omega)
 have t2:=tran_w8 (l:=s.unt) (by omega)
 have b1:=wD_le hq d.1 d.2
 have b2:=wE_le hq e.1 e.2
 have b3:=wT_le hq t1.1 t1.2
 have b4:=wT_le hq t2.1 t2.2
 unfold stW
 generalize wD q s.locals=a1 at*
 generalize wE q s.eqs=a2 at*
 generalize wT q s.unl=a3 at*
 generalize wT q s.unt=a4 at*
 split
 ·have:=hF (q-(n+1+a1+a2+a3+a4)) (by omega) s.autos (by omega)
  omega
 ·omega
theorem auW_le{F:Nat->List Auto->Nat}{B q n:Nat}(hF:∀(q:Nat),q≤1500->∀l:List Auto,(T.sl 1 (l.map autoT)).w≤100000000->F q l≤B)(hB:1000000000≤B)(hq:q≤1500)(hn:n≤B){l:List Sta}(hs:∀s∈l,(staT s).w≤100000000):wgs (stW F q) q l n≤B+2000:=
 wgs_le l n (by omega) fun n hn s h=>stW_le hF hB hq hn (hs s h)
theorem wgA_le:∀(m:Nat) (q:Nat),q≤1500->∀l:List Auto,(T.sl 1 (l.map autoT)).w≤100000000->wgA m q l≤1000000000+2000*m
 | 0,q,hq,l,hw=>by simp[wgA]
 | m+1,q,hq,l,hw=>by
   have h1:=w_lenM autoT 1 l
   obtain⟨B,hB⟩:∃B,B=1000000000+2000*(m+1):=⟨_,rfl⟩
   rw[<-hB]
   unfold wgA
   refine wgs_le l _ (by omega) fun n hn a ha=>?_
   have w1:=w_inM (f:=autoT) (sz:=1) ha
   have w2:=w_auto a
   have:=auW_le (n:=n) (wgA_le m) (by omega) hq (by omega) (l:=a.states) fun s hs=>by have:=w_inM (f:=staT) (sz:=6) hs;omega
   omega
set_option maxHeartbeats 4000000 in
theorem wgA_sound:∀(m:Nat) (l:List Auto),m≤100000000->(T.sl 1 (l.map autoT)).w≤m->∀q:Nat,1≤q->q≤1500->Pure Tryz.prog 47 [.t (.sl 1 (l.map autoT)),.i q] (.i (wgA m q l:Nat)):=by
 intro m
 induction m with
 | zero=>intro l _ h;have:=w_lenM autoT 1 l;omega
 | succ m ih0=>
   intro l hm8 hw q hq1 hq
   have hml:(l.map autoT).length=l.length:=List.length_map _
   have hll:=w_lenM autoT 1 l
   have ih:=fun l h=>ih0 l (by omega) h
   clear ih0
   have hF:=wgA_le m
   rw[wgA]
   generalize wgA m=F at*
   have hsw:∀a∈l,∀s∈a.states,(staT s).w≤m:=fun a ha s hs=>by
    have w1:=w_inM (f:=autoT) (sz:=1) ha
    have w2:=w_auto a
    have w3:=w_inM (f:=staT) (sz:=6) hs
    omega
   refine so Tryz.func47 ?_
   repeat' (first|refine wu ?_|exact wkc|intro hc|refine wk2 ?_ ?_|fail)
   refine TR.fin (id:=0) (EF:=[(5,.i (wgs (fun n (a:Auto)=>wgs (stW F q) q a.states n) q l l.length:Nat))]) (GF:=[]) (TR.loopN l.length (fun _=>True) (fun k=>[(0,.t (.sl 1 (l.map autoT))),(1,.i q),(5,.i (wgs (fun n (a:Auto)=>wgs (stW F q) q a.states n) q (l.take k) l.length:Nat)),(6,.i k)]) (fun _=>[]) trivial (fun k hlt _=>?_) (fun _=>?_) ⟨rfl,rfl,by rw[<-hml];rfl,rfl,trivial⟩) ?_
   ·have hat:=at_auto hlt
    have hak:=hsw _ (List.getElem_mem hlt)
    have hb:wgs (fun n (a:Auto)=>wgs (stW F q) q a.states n) q (l.take k) l.length≤1000000000+2000*m+2000:=wgs_le _ _ (by omega) fun n hn a ha=>auW_le hF (by omega) hq (by omega) fun s hs=>by have:=hsw a (List.mem_of_mem_take ha) s hs;omega
    by_cases hn:wgs (fun n (a:Auto)=>wgs (stW F q) q a.states n) q (l.take k) l.length<q
    ·have hs:=wgs_take hlt hn
     generalize wgs (fun n (a:Auto)=>wgs (stW F q) q a.states n) q (l.take k) l.length=n at*
     have hln:l[k].states.length≤1000000000:=by
      have w1:=w_inM (f:=autoT) (sz:=1) (List.getElem_mem hlt)
      have w2:=w_auto l[k]
      have w3:=w_lenM staT 6 l[k].states
      omega
     generalize l[k]=a at*
     have hma:(a.states.map staT).length=a.states.length:=List.length_map _
     unfold autoC at hat
     repeat' (first|refine wu ?_|exact wkc|intro hc|refine wk2 ?_ ?_|fail)
     refine TR.fin (id:=2) (EF:=[(0,.t (.sl 1 (l.map autoT))),(1,.i q),(6,.i k),(5,.i (wgs (stW F q) q a.states n:Nat))]) (GF:=[]) (TR.loopN a.states.length (fun _=>True) (fun j=>[(0,.t (.sl 1 (l.map autoT))),(1,.i q),(6,.i k),(5,.i (wgs (stW F q) q (a.states.take j) n:Nat)),(7,.i j)]) (fun _=>[]) trivial (fun j hlj _=>?_) (fun _=>?_)) ?_
     ·have hat2:=at_sta hlj
      have hsk:=hak _ (List.getElem_mem hlj)
      have hb2:wgs (stW F q) q (a.states.take j) n≤1000000000+2000*m+2000:=auW_le hF (by omega) hq (by omega) fun s hs=>by have:=hak s (List.mem_of_mem_take hs);omega
      by_cases hn2:wgs (stW F q) q (a.states.take j) n<q
      ·have hs2:=wgs_take hlj hn2
       generalize wgs (stW F q) q (a.states.take j) n=n2 at*
       generalize a.states[j]=s at*
       rw[stW.eq_1 F q n2 s]at hs2
       have w4:=w_sta s
       have d:=decl_w8 (l:=s.locals) (by omega)
       have e:=equ_w8 (l:=s.eqs) (by omega)
       have t1:=tran_w8 (l:=s.unl) (by omega)
       have t2:=tran_w8 (l:=s.unt) (by omega)
       have b1:=wD_le hq d.1 d.2
       have b2:=wE_le hq e.1 e.2
       have b3:=wT_le hq t1.1 t1.2
       have b4:=wT_le hq t2.1 t2.2
       have c1:=wD_sound q hq1 hq s.locals d.1 d.2
       have c2:=wE_sound q hq1 hq s.eqs e.1 e.2
       have c3:=wT_sound q hq1 hq s.unl t1.1 t1.2
       have c4:=wT_sound q hq1 hq s.unt t2.1 t2.2
       have hi:=ih s.autos (by omega)
       have hFs:=fun q' hq'=>hF q' hq' s.autos (by omega)
       clear ih hF hak hsw d e t1 t2 w4
       generalize wD q s.locals=a1 at*
       generalize wE q s.eqs=a2 at*
       generalize wT q s.unl=a3 at*
       generalize wT q s.unt=a4 at*
       unfold staC at hat2
       by_cases hn3:n2+1+a1+a2+a3+a4<q
       ·rw[if_pos hn3]at hs2
        have hi:=hi (q-(n2+1+a1+a2+a3+a4)) (by omega) (by omega)
        have hFs:=hFs (q-(n2+1+a1+a2+a3+a4)) (by omega)
        generalize F (q-(n2+1+a1+a2+a3+a4)) s.autos=fz at*
        rw[show((q-(n2+1+a1+a2+a3+a4):Nat):Int)=(q:Int)-((n2+1+a1+a2+a3+a4:Nat):Int) by omega]at hi
        repeat' (first|refine wkt ?_|refine wka ?_|refine rg [.i n2,.i (n2+1:Nat),.cp [.s s.name,declsT s.locals,.sl 7 (s.eqs.map equT),.sl 1 (s.autos.map autoT),.sl 8 (s.unl.map tranT),.sl 8 (s.unt.map tranT)] 1,.t (declsT s.locals),.i q,.i a1,.i (n2+1+a1:Nat),.cp [.s s.name,declsT s.locals,.sl 7 (s.eqs.map equT),.sl 1 (s.autos.map autoT),.sl 8 (s.unl.map tranT),.sl 8 (s.unt.map tranT)] 2,.t (.sl 7 (s.eqs.map equT)),.i q,.i a2,.i (n2+1+a1+a2:Nat),.cp [.s s.name,declsT s.locals,.sl 7 (s.eqs.map equT),.sl 1 (s.autos.map autoT),.sl 8 (s.unl.map tranT),.sl 8 (s.unt.map tranT)] 4,.t (.sl 8 (s.unl.map tranT)),.i q,.i a3,.i (n2+1+a1+a2+a3:Nat),.cp [.s s.name,declsT s.locals,.sl 7 (s.eqs.map equT),.sl 1 (s.autos.map autoT),.sl 8 (s.unl.map tranT),.sl 8 (s.unt.map tranT)] 5,.t (.sl 8 (s.unt.map tranT)),.i q,.i a4,.i (n2+1+a1+a2+a3+a4:Nat),.i (n2+1+a1+a2+a3+a4:Nat)] ?_ ?_|refine wv c1 ?_|refine wv c2 ?_|refine wv c3 ?_|refine wv c4 ?_|refine wv hi ?_|exact trivial|exact And.intro rfl rfl|refine And.intro (fun H env=>?_) ?_|refine wk ?_|exact wkc|intro hc|refine wk2 ?_ ?_|fail)
        exact LoopK.nextN hlj trivial ⟨rfl,rfl,rfl,by(try dsimp only);rw[hs2];rfl,rfl,trivial⟩
       ·rw[if_neg hn3]at hs2
        clear hi hFs
        repeat' (first|refine wkt ?_|refine wka ?_|refine rg [.i n2,.i (n2+1:Nat),.cp [.s s.name,declsT s.locals,.sl 7 (s.eqs.map equT),.sl 1 (s.autos.map autoT),.sl 8 (s.unl.map tranT),.sl 8 (s.unt.map tranT)] 1,.t (declsT s.locals),.i q,.i a1,.i (n2+1+a1:Nat),.cp [.s s.name,declsT s.locals,.sl 7 (s.eqs.map equT),.sl 1 (s.autos.map autoT),.sl 8 (s.unl.map tranT),.sl 8 (s.unt.map tranT)] 2,.t (.sl 7 (s.eqs.map equT)),.i q,.i a2,.i (n2+1+a1+a2:Nat),.cp [.s s.name,declsT s.locals,.sl 7 (s.eqs.map equT),.sl 1 (s.autos.map autoT),.sl 8 (s.unl.map tranT),.sl 8 (s.unt.map tranT)] 4,.t (.sl 8 (s.unl.map tranT)),.i q,.i a3,.i (n2+1+a1+a2+a3:Nat),.cp [.s s.name,declsT s.locals,.sl 7 (s.eqs.map equT),.sl 1 (s.autos.map autoT),.sl 8 (s.unl.map tranT),.sl 8 (s.unt.map tranT)] 5,.t (.sl 8 (s.unt.map tranT)),.i q,.i a4,.i (n2+1+a1+a2+a3+a4:Nat),.i (n2+1+a1+a2+a3+a4:Nat)] ?_ ?_|refine wv c1 ?_|refine wv c2 ?_|refine wv c3 ?_|refine wv c4 ?_|exact trivial|exact And.intro rfl rfl|refine And.intro (fun H env=>?_) ?_|refine wk ?_|exact wkc|intro hc|refine wk2 ?_ ?_|fail)
        exact LoopK.nextN hlj trivial ⟨rfl,rfl,rfl,by(try dsimp only);rw[hs2];rfl,rfl,trivial⟩
      ·have hs2:=wgs_done hn2
       generalize wgs (stW F q) q (a.states.take j) n=n2 at*
       rw[hs2]
       repeat' (first|refine wu ?_|exact wkc|intro hc|refine wk2 ?_ ?_|fail)
       exact⟨rfl,⟨rfl,rfl,rfl,rfl,trivial⟩,rfl⟩
     ·rw[List.take_length]
      repeat' (first|refine wu ?_|exact wkc|intro hc|refine wk2 ?_ ?_|fail)
      all_goals exact⟨rfl,⟨rfl,rfl,rfl,rfl,trivial⟩,rfl⟩
     ·repeat' (first|refine wu ?_|exact wkc|intro hc|refine wk2 ?_ ?_|fail)
      exact LoopK.nextN hlt trivial ⟨rfl,rfl,by(try dsimp only);rw[hs];rfl,rfl,trivial⟩
    ·have hs:=wgs_done hn
     generalize wgs (fun n (a:Auto)=>wgs (stW F q) q a.states n) q (l.take k) l.length=n at*
     rw[hs]
     repeat' (first|refine wu ?_|exact wkc|intro hc|refine wk2 ?_ ?_|fail)
     exact⟨rfl,⟨rfl,trivial⟩,rfl⟩
   ·rw[List.take_length]
    repeat' (first|refine wu ?_|exact wkc|intro hc|refine wk2 ?_ ?_|fail)
    all_goals exact⟨rfl,⟨rfl,trivial⟩,rfl⟩
   ·repeat' (first|refine wu ?_|exact wkc|intro hc|refine wk2 ?_ ?_|fail)
    exact wkr
def ndW(F:Nat->List Auto->Nat)(q w:Nat)(n:Nod):Nat:=if w+wD q n.ins+wD q n.outs+wD q n.locals+wE q n.eqs+wX q n.assume+wX q n.ensure<q then w+wD q n.ins+wD q n.outs+wD q n.locals+wE q n.eqs+wX q n.assume+wX q n.ensure+F (q-(w+wD q n.ins+wD q n.outs+wD q n.locals+wE q n.eqs+wX q n.assume+wX q n.ensure)) n.autos else w+wD q n.ins+wD q n.outs+wD q n.locals+wE q n.eqs+wX q n.assume+wX q n.ensure
def wgP(q:Nat)(p:Prog):Nat:=wgs (ndW (wgA 100000000) q) q p.nodes (wgs (fun w (u:En)=>w+(u.tags.map T.s).length) q p.enums ((p.enums.map enT).length+(p.nodes.map nodT).length))
theorem ndW_le{F:Nat->List Auto->Nat}{B q w:Nat}(hF:∀(q:Nat),q≤1500->∀l:List Auto,(T.sl 1 (l.map autoT)).w≤100000000->F q l≤B)(hB:2000000000≤B)(hq:q≤1500)(hn:w<q){n:Nod}(hs:(nodT n).w≤100000000):ndW F q w n≤B+2000:=by
 have w4:=w_nod n
 have d1:=decl_w8 (l:=n.ins) (by omega)
 have d2:=decl_w8 (l:=n.outs) (by omega)
 have d3:=decl_w8 (l:=n.locals) (by omega)
 have e:=equ_w8 (l:=n.eqs) (by omega)
 have x1:=ex_w8 (l:=n.assume) (by omega)
 have x2:=ex_w8 (l:=n.ensure) (by omega)
 have b1:=wD_le hq d1.1 d1.2
 have b2:=wD_le hq d2.1 d2.2
 have b3:=wD_le hq d3.1 d3.2
 have b4:=wE_le hq e.1 e.2
 have b5:=wX_le hq x1.1 x1.2
 have b6:=wX_le hq x2.1 x2.2
 unfold ndW
 generalize wD q n.ins=a1 at*
 generalize wD q n.outs=a2 at*
 generalize wD q n.locals=a3 at*
 generalize wE q n.eqs=a4 at*
 generalize wX q n.assume=a5 at*
 generalize wX q n.ensure=a6 at*
 split
 ·have:=hF (q-(w+a1+a2+a3+a4+a5+a6)) (by omega) n.autos (by omega)
  omega
 ·omega
set_option maxHeartbeats 4000000 in
theorem wgP_sound (p:Prog) (hw:(T.ag (progC p)).w≤100000000) (q:Nat) (hq1:1≤q) (hq:q≤1500):Pure Tryz.prog 19 [.t (.ag (progC p)),.i q] (.i (wgP q p:Nat)):=by
 have hln:∀u∈p.nodes,(nodT u).w≤100000000:=fun u hu=>by
  have h1:=w_inM (f:=nodT) (sz:=8) hu
  have h2:(nodesT p.nodes).w=(T.sl 8 (p.nodes.map nodT)).w:=rfl
  have h3:=hw
  rw[w_ag]at h3
  simp only[progC,List.map_cons,List.map_nil,List.sum_cons,List.sum_nil]at h3
  omega
 have hpl:p.nodes.length≤100000000:=by
  have h1:=w_lenM nodT 8 p.nodes
  have h2:(nodesT p.nodes).w=(T.sl 8 (p.nodes.map nodT)).w:=rfl
  have h3:=hw
  rw[w_ag]at h3
  simp only[progC,List.map_cons,List.map_nil,List.sum_cons,List.sum_nil]at h3
  omega
 have l1:(T.sl 2 (p.enums.map enT)).w+(nodesT p.nodes).w≤(T.ag (progC p)).w:=by rw[w_ag];simp only[progC,List.map_cons,List.map_nil,List.sum_cons,List.sum_nil];omega
 have le1:=w_lenM enT 2 p.enums
 have hme:(p.enums.map enT).length=p.enums.length:=List.length_map _
 have hml:(p.nodes.map nodT).length=p.nodes.length:=List.length_map _
 have hten:∀u∈p.enums,(u.tags.map T.s).length≤100000000:=fun u hu=>by
  have h1:=w_inM (f:=enT) (sz:=2) hu
  rw[show enT u= .ag [.s u.name,.sl 1 (u.tags.map T.s)] from rfl,w_ag]at h1
  simp only[List.map_cons,List.map_nil,List.sum_cons,List.sum_nil]at h1
  have h2:=w_lenM T.s 1 u.tags
  rw[List.length_map];omega
 obtain⟨B,hB,hF⟩:∃B,B=1000000000+2000*100000000/\∀(q:Nat),q≤1500->∀l:List Auto,(T.sl 1 (l.map autoT)).w≤100000000->wgA 100000000 q l≤B:=⟨_,rfl,wgA_le 100000000⟩
 have hA:=fun l h=>wgA_sound 100000000 l (Nat.le_refl _) h
 unfold wgP
 generalize wgA 100000000=F at*
 unfold progC
 refine so Tryz.func19 ?_
 repeat' (first|refine wu ?_|exact wkc|intro hc|refine wk2 ?_ ?_|fail)
 refine TR.fin (id:=0) (EF:=[(1,.i q),(2,.cp [.sl 2 (p.enums.map enT),nodesT p.nodes] 0),(5,.i (wgs (fun w (u:En)=>w+(u.tags.map T.s).length) q p.enums ((p.enums.map enT).length+(p.nodes.map nodT).length):Nat))]) (GF:=[]) (TR.loopN p.enums.length (fun _=>True) (fun k=>[(1,.i q),(2,.cp [.sl 2 (p.enums.map enT),nodesT p.nodes] 0),(5,.i (wgs (fun w (u:En)=>w+(u.tags.map T.s).length) q (p.enums.take k) ((p.enums.map enT).length+(p.nodes.map nodT).length):Nat)),(6,.i k)]) (fun _=>[]) trivial (fun k hlt _=>?_) (fun _=>?_)) ?_
 ·have hat:=at_map enT hlt
  have htk:=hten _ (List.getElem_mem hlt)
  have hb:wgs (fun w (u:En)=>w+(u.tags.map T.s).length) q (p.enums.take k) ((p.enums.map enT).length+(p.nodes.map nodT).length)≤300000000:=wgs_le _ _ (by omega) fun n hn u hu=>by have:=hten u (List.mem_of_mem_take hu);omega
  by_cases hn:wgs (fun w (u:En)=>w+(u.tags.map T.s).length) q (p.enums.take k) ((p.enums.map enT).length+(p.nodes.map nodT).length)<q
  ·have hs:=wgs_take hlt hn
   generalize wgs (fun w (u:En)=>w+(u.tags.map T.s).length) q (p.enums.take k) ((p.enums.map enT).length+(p.nodes.map nodT).length)=w at*
   generalize p.enums[k]=u at*
   unfold enT at hat
   repeat' (first|refine wu ?_|exact wkc|intro hc|refine wk2 ?_ ?_|fail)
   exact LoopK.nextN hlt trivial ⟨rfl,rfl,by(try dsimp only);rw[hs];rfl,rfl,trivial⟩
  ·have hs:=wgs_done hn
   generalize wgs (fun w (u:En)=>w+(u.tags.map T.s).length) q (p.enums.take k) ((p.enums.map enT).length+(p.nodes.map nodT).length)=w at*
   rw[hs]
   repeat' (first|refine wu ?_|exact wkc|intro hc|refine wk2 ?_ ?_|fail)
   exact⟨rfl,⟨rfl,rfl,rfl,trivial⟩,rfl⟩
 ·rw[List.take_length]
  repeat' (first|refine wu ?_|exact wkc|intro hc|refine wk2 ?_ ?_|fail)
  all_goals exact⟨rfl,⟨rfl,rfl,rfl,trivial⟩,rfl⟩
 have hw0:wgs (fun w (u:En)=>w+(u.tags.map T.s).length) q p.enums ((p.enums.map enT).length+(p.nodes.map nodT).length)≤300000000:=wgs_le _ _ (by omega) fun n hn u hu=>by have:=hten u hu;omega
 generalize wgs (fun w (u:En)=>w+(u.tags.map T.s).length) q p.enums ((p.enums.map enT).length+(p.nodes.map nodT).length)=w0 at*
 repeat' (first|refine wu ?_|exact wkc|intro hc|refine wk2 ?_ ?_|fail)
 refine TR.fin (id:=2) (EF:=[(5,.i (wgs (ndW F q) q p.nodes w0:Nat))]) (GF:=[]) (TR.loopN p.nodes.length (fun _=>True) (fun k=>[(1,.i q),(2,.cp [.sl 2 (p.enums.map enT),nodesT p.nodes] 0),(5,.i (wgs (ndW F q) q (p.nodes.take k) w0:Nat)),(7,.i k)]) (fun _=>[]) trivial (fun k hlt _=>?_) (fun _=>?_)) ?_
 ·have hat:=at_nod hlt
  have hnw:=hln _ (List.getElem_mem hlt)
  have hb:wgs (ndW F q) q (p.nodes.take k) w0≤B+2000:=wgs_le _ _ (by omega) fun n hn u hu=>ndW_le hF (by omega) hq hn (hln u (List.mem_of_mem_take hu))
  by_cases hn:wgs (ndW F q) q (p.nodes.take k) w0<q
  ·have hs:=wgs_take hlt hn
   generalize wgs (ndW F q) q (p.nodes.take k) w0=w at*
   generalize p.nodes[k]=n at*
   rw[ndW.eq_1 F q w n]at hs
   have w4:=w_nod n
   have d1:=decl_w8 (l:=n.ins) (by omega)
   have d2:=decl_w8 (l:=n.outs) (by omega)
   have d3:=decl_w8 (l:=n.locals) (by omega)
   have e:=equ_w8 (l:=n.eqs) (by omega)
   have x1:=ex_w8 (l:=n.assume) (by omega)
   have x2:=ex_w8 (l:=n.ensure) (by omega)
   have b1:=wD_le hq d1.1 d1.2
   have b2:=wD_le hq d2.1 d2.2
   have b3:=wD_le hq d3.1 d3.2
   have b4:=wE_le hq e.1 e.2
   have b5:=wX_le hq x1.1 x1.2
   have b6:=wX_le hq x2.1 x2.2
   have c1:=wD_sound q hq1 hq n.ins d1.1 d1.2
   have c2:=wD_sound q hq1 hq n.outs d2.1 d2.2
   have c3:=wD_sound q hq1 hq n.locals d3.1 d3.2
   have c4:=wE_sound q hq1 hq n.eqs e.1 e.2
   have c5:=wX_sound q hq1 hq n.assume x1.1 x1.2
   have c6:=wX_sound q hq1 hq n.ensure x2.1 x2.2
   have hi:=hA n.autos (by omega)
   have hFs:=fun q' hq'=>hF q' hq' n.autos (by omega)
   clear hA hF hln hten d1 d2 d3 e x1 x2 w4
   generalize wD q n.ins=a1 at*
   generalize wD q n.outs=a2 at*
   generalize wD q n.locals=a3 at*
   generalize wE q n.eqs=a4 at*
   generalize wX q n.assume=a5 at*
   generalize wX q n.ensure=a6 at*
   unfold nodC at hat
   by_cases hn3:w+a1+a2+a3+a4+a5+a6<q
   ·rw[if_pos hn3]at hs
    have hi:=hi (q-(w+a1+a2+a3+a4+a5+a6)) (by omega) (by omega)
    have hFs:=hFs (q-(w+a1+a2+a3+a4+a5+a6)) (by omega)
    generalize F (q-(w+a1+a2+a3+a4+a5+a6)) n.autos=fz at*
    rw[show((q-(w+a1+a2+a3+a4+a5+a6):Nat):Int)=(q:Int)-((w+a1+a2+a3+a4+a5+a6:Nat):Int) by omega]at hi
    repeat' (first|refine wkt ?_|refine wka ?_|refine rg [.i w,.cp [.s n.name,declsT n.ins,declsT n.outs,declsT n.locals,.sl 7 (n.eqs.map equT),.sl 1 (n.autos.map autoT),.sl 6 (n.assume.map exT),.sl 6 (n.ensure.map exT)] 1,.t (declsT n.ins),.i q,.i a1,.i (w+a1:Nat),.cp [.s n.name,declsT n.ins,declsT n.outs,declsT n.locals,.sl 7 (n.eqs.map equT),.sl 1 (n.autos.map autoT),.sl 6 (n.assume.map exT),.sl 6 (n.ensure.map exT)] 2,.t (declsT n.outs),.i q,.i a2,.i (w+a1+a2:Nat),.cp [.s n.name,declsT n.ins,declsT n.outs,declsT n.locals,.sl 7 (n.eqs.map equT),.sl 1 (n.autos.map autoT),.sl 6 (n.assume.map exT),.sl 6 (n.ensure.map exT)] 3,.t (declsT n.locals),.i q,.i a3,.i (w+a1+a2+a3:Nat),.cp [.s n.name,declsT n.ins,declsT n.outs,declsT n.locals,.sl 7 (n.eqs.map equT),.sl 1 (n.autos.map autoT),.sl 6 (n.assume.map exT),.sl 6 (n.ensure.map exT)] 4,.t (.sl 7 (n.eqs.map equT)),.i q,.i a4,.i (w+a1+a2+a3+a4:Nat),.cp [.s n.name,declsT n.ins,declsT n.outs,declsT n.locals,.sl 7 (n.eqs.map equT),.sl 1 (n.autos.map autoT),.sl 6 (n.assume.map exT),.sl 6 (n.ensure.map exT)] 6,.t (.sl 6 (n.assume.map exT)),.i q,.i a5,.i (w+a1+a2+a3+a4+a5:Nat),.cp [.s n.name,declsT n.ins,declsT n.outs,declsT n.locals,.sl 7 (n.eqs.map equT),.sl 1 (n.autos.map autoT),.sl 6 (n.assume.map exT),.sl 6 (n.ensure.map exT)] 7,.t (.sl 6 (n.ensure.map exT)),.i q,.i a6,.i (w+a1+a2+a3+a4+a5+a6:Nat),.i (w+a1+a2+a3+a4+a5+a6:Nat)] ?_ ?_|refine wv c1 ?_|refine wv c2 ?_|refine wv c3 ?_|refine wv c4 ?_|refine wv c5 ?_|refine wv c6 ?_|refine wv hi ?_|exact trivial|exact And.intro rfl rfl|refine And.intro (fun H env=>?_) ?_|refine wk ?_|exact wkc|intro hc|refine wk2 ?_ ?_|fail)
    exact LoopK.nextN hlt trivial ⟨rfl,rfl,by(try dsimp only);rw[hs];rfl,rfl,trivial⟩
   ·rw[if_neg hn3]at hs
    clear hi hFs
    repeat' (first|refine wkt ?_|refine wka ?_|refine rg [.i w,.cp [.s n.name,declsT n.ins,declsT n.outs,declsT n.locals,.sl 7 (n.eqs.map equT),.sl 1 (n.autos.map autoT),.sl 6 (n.assume.map exT),.sl 6 (n.ensure.map exT)] 1,.t (declsT n.ins),.i q,.i a1,.i (w+a1:Nat),.cp [.s n.name,declsT n.ins,declsT n.outs,declsT n.locals,.sl 7 (n.eqs.map equT),.sl 1 (n.autos.map autoT),.sl 6 (n.assume.map exT),.sl 6 (n.ensure.map exT)] 2,.t (declsT n.outs),.i q,.i a2,.i (w+a1+a2:Nat),.cp [.s n.name,declsT n.ins,declsT n.outs,declsT n.locals,.sl 7 (n.eqs.map equT),.sl 1 (n.autos.map autoT),.sl 6 (n.assume.map exT),.sl 6 (n.ensure.map exT)] 3,.t (declsT n.locals),.i q,.i a3,.i (w+a1+a2+a3:Nat),.cp [.s n.name,declsT n.ins,declsT n.outs,declsT n.locals,.sl 7 (n.eqs.map equT),.sl 1 (n.autos.map autoT),.sl 6 (n.assume.map exT),.sl 6 (n.ensure.map exT)] 4,.t (.sl 7 (n.eqs.map equT)),.i q,.i a4,.i (w+a1+a2+a3+a4:Nat),.cp [.s n.name,declsT n.ins,declsT n.outs,declsT n.locals,.sl 7 (n.eqs.map equT),.sl 1 (n.autos.map autoT),.sl 6 (n.assume.map exT),.sl 6 (n.ensure.map exT)] 6,.t (.sl 6 (n.assume.map exT)),.i q,.i a5,.i (w+a1+a2+a3+a4+a5:Nat),.cp [.s n.name,declsT n.ins,declsT n.outs,declsT n.locals,.sl 7 (n.eqs.map equT),.sl 1 (n.autos.map autoT),.sl 6 (n.assume.map exT),.sl 6 (n.ensure.map exT)] 7,.t (.sl 6 (n.ensure.map exT)),.i q,.i a6,.i (w+a1+a2+a3+a4+a5+a6:Nat),.i (w+a1+a2+a3+a4+a5+a6:Nat)] ?_ ?_|refine wv c1 ?_|refine wv c2 ?_|refine wv c3 ?_|refine wv c4 ?_|refine wv c5 ?_|refine wv c6 ?_|exact trivial|exact And.intro rfl rfl|refine And.intro (fun H env=>?_) ?_|refine wk ?_|exact wkc|intro hc|refine wk2 ?_ ?_|fail)
    exact LoopK.nextN hlt trivial ⟨rfl,rfl,by(try dsimp only);rw[hs];rfl,rfl,trivial⟩
  ·have hs:=wgs_done hn
   generalize wgs (ndW F q) q (p.nodes.take k) w0=w at*
   rw[hs]
   repeat' (first|refine wu ?_|exact wkc|intro hc|refine wk2 ?_ ?_|fail)
   exact⟨rfl,⟨rfl,trivial⟩,rfl⟩
 ·rw[List.take_length]
  repeat' (first|refine wu ?_|exact wkc|intro hc|refine wk2 ?_ ?_|fail)
  all_goals exact⟨rfl,⟨rfl,trivial⟩,rfl⟩
 ·repeat' (first|refine wu ?_|exact wkc|intro hc|refine wk2 ?_ ?_|fail)
  exact wkr
end Go.Proofs.YtjgmcnemcembmaaGreatDoor
