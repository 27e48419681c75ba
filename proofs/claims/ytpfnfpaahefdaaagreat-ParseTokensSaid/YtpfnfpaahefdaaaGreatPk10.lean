import Derived.Test.YtpfnfpaahefdaaaGreatPk9
set_option linter.all false
namespace Go.Proofs.YtpfnfpaahefdaaaGreat
open Go Go.TL
attribute [local irreducible] TR TO Then zab RetK Sound zac Kf GG za2
def zio(s:Str):Nat->List En->Option Nat
 | _,[]=>none
 | k,u::l=>if u.name=s then some k else zio s (k+1) l
def Rd.typ(R:Rd)(i:Nat):PR I64:=
 if R.isAt i [98,111,111,108]=true then .ok (toI 1) (i+1) else if R.isAt i [105,110,116]=true then .ok (toI 2) (i+1) else
 (R.id i).bind fun s j=>match zio s 0 R.es with
   | some k=>.ok (toI ((3+k:Nat):Int)) j
   | none=>.er (j-1) 6
def Rd.clk(R:Rd):Nat->List OnC->Nat->PR (List OnC)
 | 0,l,i=>.ok l i
 | m+1,l,i=>if R.isAt i [119,104,101,110]=true then(limR l.length 4 i).bind fun _ _=>(R.sampling (i+1)).bind fun o j=>R.clk m (l++[o]) j else .ok l i
def Rd.decl(R:Rd)(i:Nat):PR Decl:=
 (R.id i).bind fun s i=>(R.must [[58]] i).bind fun _ i=>(R.typ i).bind fun t i=>(R.clk R.K.length [] i).bind fun l i=>.ok ⟨s,t,l⟩ i
def Rd.zgS(R:Rd)(n most i:Nat):PR Unit:=if R.kind i 1=true then limR n most i else .ok () i
def Rd.decls(R:Rd)(most:Nat)(op:Bool):Nat->List Decl->Nat->PR (List Decl)
 | 0,l,i=>.ok l i
 | m+1,l,i=>(R.zgS l.length most i).bind fun _ _=>(R.decl i).bind fun d j=>
   if R.isAt j [59]=false\/op=true/\R.kind (j+1) 1=false then .ok (l++[d]) j else R.decls most op m (l++[d]) (j+1)
def Rd.locals(R:Rd)(i:Nat):PR (List Decl):=
 if R.isAt i [118,97,114]=true then(R.decls 256 true (R.K.length+1) [] (i+1)).bind fun l j=>(R.must [[59]] j).bind fun _ j=>.ok l j else .ok [] i
def Rd.names(R:Rd)(most:Nat)(sep:Str):Nat->List Str->Nat->PR (List Str)
 | 0,l,i=>.ok l i
 | m+1,l,i=>(R.zgS l.length most i).bind fun _ _=>(R.id i).bind fun s j=>if R.isAt j sep=true then R.names most sep m (l++[s]) (j+1) else .ok (l++[s]) j
def Rd.left(R:Rd)(i:Nat):PR (List Str):=
 if R.isAt i [40]=true then(R.names 64 [44] (R.K.length+1) [] (i+1)).bind fun l j=>(R.must [[41]] j).bind fun _ j=>.ok l j else(R.id i).bind fun s j=>.ok [s] j
def Rd.equation(R:Rd)(f:Nat->PR Ex)(i:Nat):PR Equ:=
 (R.left i).bind fun l j=>(R.must [[61]] j).bind fun _ j=>(f j).bind fun e j=>(R.must [[59]] j).bind fun _ j=>.ok ⟨l,e⟩ j
def Rd.body(R:Rd)(f:Nat->PR Ex)(au:Nat->PR Auto)(deep:Bool):Nat->List Equ->List Auto->Nat->PR (List Equ×List Auto)
 | 0,q,a,i=>.ok (q,a) i
 | m+1,q,a,i=>
   if R.isAt i [97,117,116,111,109,97,116,111,110]=true then(if deep=true then .er i 3 else(limR a.length 8 i).bind fun _ _=>(au (i+1)).bind fun x j=>R.body f au deep m q (a++[x]) j)
   else if(R.kind i 1 || R.isAt i [40])=true then(limR q.length 256 i).bind fun _ _=>(R.equation f i).bind fun e j=>R.body f au deep m (q++[e]) a j
   else .ok (q,a) i
def Rd.how(R:Rd)(i:Nat):PR Bool:=
 if R.isAt i [99,111,110,116,105,110,117,101]=true then .ok true (i+1) else(R.must [[116,104,101,110]] i).bind fun _ j=>.ok false j
def Rd.trans(R:Rd)(f:Nat->PR Ex)(word:Str):Nat->List Tran->List (Str×Nat)->Nat->PR (List Tran×List (Str×Nat))
 | 0,l,g,i=>.ok (l,g) i
 | m+1,l,g,i=>if R.isAt i word=true then(limR l.length 4 i).bind fun _ _=>(f (i+1)).bind fun c j=>(R.how j).bind fun b j=>(R.id j).bind fun s j=>(R.must [[59]] j).bind fun _ k=>
    R.trans f word m (l++[⟨c,toI 0,b⟩]) (g++[(s,j-1)]) k
   else .ok (l,g) i
def Rd.state(R:Rd)(f:Nat->PR Ex)(bd:Nat->PR (List Equ×List Auto))(i:Nat):PR (Sta×List (Str×Nat)×List (Str×Nat)):=
 (R.id i).bind fun s i=>(R.locals i).bind fun ds i=>(R.trans f [117,110,108,101,115,115] R.K.length [] [] i).bind fun u i=>(R.must [[100,111]] i).bind fun _ i=>
 (bd i).bind fun b i=>(R.trans f [117,110,116,105,108] R.K.length [] [] i).bind fun v i=>(R.must [[100,111,110,101]] i).bind fun _ i=>.ok (.mk s ds b.1 b.2 u.1 v.1,u.2,v.2) i
def Rd.states(R:Rd)(f:Nat->PR Ex)(bd:Nat->PR (List Equ×List Auto)):Nat->List Sta->List (List (Str×Nat))->Nat->PR (List Sta×List (List (Str×Nat)))
 | 0,l,g,i=>.ok (l,g) i
 | m+1,l,g,i=>if R.isAt i [115,116,97,116,101]=true then(limR l.length 8 i).bind fun _ _=>(R.state f bd (i+1)).bind fun x j=>R.states f bd m (l++[x.1]) (g++[x.2.1,x.2.2]) j else .ok (l,g) i
def fixG(ns:List Str):List (Str×Nat)->PR (List Nat)
 | []=>.ok [] 0
 | (s,k)::l=>match idxOf s 0 ns with
   | none=>.er k 6
   | some j=>(fixG ns l).bind fun js _=>.ok (j::js) 0
def zd9(ns:List Str):List (List (Str×Nat))->PR (List (List Nat))
 | []=>.ok [] 0
 | g::l=>(fixG ns g).bind fun js _=>(zd9 ns l).bind fun jss _=>.ok (js::jss) 0
def ziV(l:List Tran)(js:List Nat):List Tran:=List.zipWith (fun(q:Tran) (j:Nat)=>⟨q.cond,toI (j:Int),q.resume⟩) l js
def zdJ:List Sta->List (List Nat)->List Sta
 | s::l,a::b::js=>.mk s.name s.locals s.eqs s.autos (ziV s.unl a) (ziV s.unt b)::zdJ l js
 | l,_=>l
def Rd.automaton(R:Rd)(f:Nat->PR Ex)(bd:Nat->PR (List Equ×List Auto))(i:Nat):PR Auto:=
 (R.states f bd R.K.length [] [] i).bind fun x i=>(R.must [[101,110,100]] i).bind fun _ i=>(zd9 (x.1.map Sta.name) x.2).bind fun jss _=>.ok (.mk (zdJ x.1 jss)) i
def Rd.zcB(R:Rd)(f:Nat->PR Ex):Nat->Nat->PR (List Equ×List Auto)
 | 0=>R.body f (fun i=>.er i 5) true (R.K.length+1) [] []
 | b+1=>R.body f (R.automaton f (R.zcB f b)) false (R.K.length+1) [] []
def Rd.claims(R:Rd)(f:Nat->PR Ex):Nat->List Ex->List Ex->Nat->PR (List Ex×List Ex)
 | 0,a,e,i=>.ok (a,e) i
 | m+1,a,e,i=>
   if R.isAt i [97,115,115,117,109,101]=true then(limR a.length 8 i).bind fun _ _=>(f (i+1)).bind fun x j=>(R.must [[59]] j).bind fun _ j=>R.claims f m (a++[x]) e j
   else if R.isAt i [101,110,115,117,114,101]=true then(limR e.length 8 i).bind fun _ _=>(f (i+1)).bind fun x j=>(R.must [[59]] j).bind fun _ j=>R.claims f m a (e++[x]) j
   else .ok (a,e) i
def Rd.ins(R:Rd)(i:Nat):PR (List Decl):=if R.isAt i [41]=true then .ok [] i else R.decls 64 false (R.K.length+1) [] i
def Rd.node(R:Rd)(f:Nat->PR Ex)(i:Nat):PR Nod:=
 (R.id i).bind fun s i=>(R.must [[40]] i).bind fun _ i=>(R.ins i).bind fun a i=>(R.must [[41],[114,101,116,117,114,110,115],[40]] i).bind fun _ i=>
 (R.decls 64 false (R.K.length+1) [] i).bind fun b i=>(R.must [[41]] i).bind fun _ i=>(R.locals i).bind fun c i=>(R.claims f R.K.length [] [] i).bind fun ae i=>(R.must [[108,101,116]] i).bind fun _ i=>
 (R.zcB f 3 i).bind fun qa i=>(R.must [[116,101,108]] i).bind fun _ i=>.ok ⟨s,a,b,c,qa.1,qa.2,ae.1,ae.2⟩ i
def Rd.types(R:Rd):Nat->List En->Nat->PR (List En)
 | 0,es,i=>.ok es i
 | m+1,es,i=>if R.isAt i [116,121,112,101]=true then(limR es.length 24 i).bind fun _ _=>(R.id (i+1)).bind fun s i=>(R.must [[61]] i).bind fun _ i=>(R.names 16 [124] (R.K.length+1) [] i).bind fun l i=>(R.must [[59]] i).bind fun _ i=>R.types m (es++[⟨s,l⟩]) i
   else .ok es i
def Rd.nodes(R:Rd):Nat->List Nod->Nat->PR (List Nod)
 | 0,l,i=>.ok l i
 | m+1,l,i=>if R.isAt i [110,111,100,101]=true then(limR l.length 96 i).bind fun _ _=>(R.node R.expr (i+1)).bind fun x j=>R.nodes m (l++[x]) j else .ok l i
def Rd.program(R:Rd)(i:Nat):PR Prog:=
 (R.types R.K.length [] i).bind fun es i=>(Rd.nodes ⟨R.K,es⟩ R.K.length [] i).bind fun l i=>.ok ⟨es,l⟩ i
section
variable {R:Rd}
theorem zq9{i:Nat}(h:i≤R.K.length):InR R.K.length (i+1) (R.typ i):=by
 unfold Rd.typ
 exact zwbm
theorem zoV:∀(m:Nat) (l:List OnC) {i:Nat},i≤R.K.length->InR R.K.length i (R.clk m l i)
 | 0,l,i,h=>⟨qae _,h⟩
 | m+1,l,i,h=>by
   unfold Rd.clk
   exact InR.ite (fun hs=>(zcO h).bind fun _ _ _ _=>(zdB (zam hs)).bind fun o j h1 h2=>(zoV m _ h2).le (by omega)) fun _=>⟨qae _,h⟩
theorem zmw{i:Nat}(h:i≤R.K.length):InR R.K.length (i+1) (R.decl i):=by
 unfold Rd.decl
 exact(zea h).bind fun _ j h1 h2=>(zaQ _ h2).bind fun _ k h3 h4=>(zq9 h4).bind fun _ k h5 h6=>(zoV _ _ h6).bind fun _ k h7 h8=>⟨by omega,h8⟩
theorem zkA{n most i:Nat}(h:i≤R.K.length):InR R.K.length i (R.zgS n most i):=by
 unfold Rd.zgS
 exact InR.ite (fun _=>zcO h) fun _=>⟨qae _,h⟩
theorem zeA{most:Nat}{op:Bool}:∀(m:Nat) (l:List Decl) {i:Nat},i≤R.K.length->InR R.K.length i (R.decls most op m l i)
 | 0,l,i,h=>⟨qae _,h⟩
 | m+1,l,i,h=>by
   unfold Rd.decls
   refine(zkA h).bind fun _ _ _ _=>(zmw h).bind fun d j h1 h2=>InR.ite (fun _=>⟨by omega,h2⟩) fun hs=>?_
   have:R.isAt j [59]=true:=by
    cases hq:R.isAt j [59] with
    | true=>rfl
    | false=>exact absurd (.inl hq) hs
   exact(zeA m _ (zam this)).le (by omega)
theorem zgj{i:Nat}(h:i≤R.K.length):InR R.K.length i (R.locals i):=by
 unfold Rd.locals
 exact InR.ite (fun hs=>(zeA _ _ (zam hs)).bind fun l j h1 h2=>(zaQ _ h2).bind fun _ k h3 h4=>⟨by omega,h4⟩) fun _=>⟨qae _,h⟩
theorem zbs{most:Nat}{sep:Str}:∀(m:Nat) (l:List Str) {i:Nat},i≤R.K.length->InR R.K.length i (R.names most sep m l i)
 | 0,l,i,h=>⟨qae _,h⟩
 | m+1,l,i,h=>by
   unfold Rd.names
   exact(zkA h).bind fun _ _ _ _=>(zea h).bind fun s j h1 h2=>InR.ite (fun hs=>(zbs m _ (zam hs)).le (by omega)) fun _=>⟨by omega,h2⟩
theorem zpF{i:Nat}(h:i≤R.K.length):InR R.K.length (i+1) (R.left i):=by
 unfold Rd.left
 exact InR.ite (fun hs=>(zbs _ _ (zam hs)).bind fun l j h1 h2=>(zaQ _ h2).bind fun _ k h3 h4=>⟨by omega,h4⟩) fun _=>(zea h).bind fun s j h1 h2=>⟨h1,h2⟩
theorem zf5{f:Nat->PR Ex}(hf:∀i,i≤R.K.length->InR R.K.length (i+1) (f i)){i:Nat}(h:i≤R.K.length):InR R.K.length (i+1) (R.equation f i):=by
 unfold Rd.equation
 exact(zpF h).bind fun _ j h1 h2=>(zaQ _ h2).bind fun _ k h3 h4=>(hf _ h4).bind fun _ k h5 h6=>(zaQ _ h6).bind fun _ k h7 h8=>⟨by omega,h8⟩
theorem zhA{f:Nat->PR Ex}(hf:∀i,i≤R.K.length->InR R.K.length (i+1) (f i)){au:Nat->PR Auto}(ha:∀i,i≤R.K.length->InR R.K.length i (au i)){deep:Bool}:∀(m:Nat) (q:List Equ) (a:List Auto) {i:Nat},i≤R.K.length->InR R.K.length i (R.body f au deep m q a i)
 | 0,q,a,i,h=>⟨qae _,h⟩
 | m+1,q,a,i,h=>by
   unfold Rd.body
   refine InR.ite (fun hs=>InR.ite (fun _=>⟨h,by decide⟩) fun _=>(zcO h).bind fun _ _ _ _=>(ha _ (zam hs)).bind fun x j h1 h2=>(zhA hf ha m _ _ h2).le (by omega)) fun _=>
    InR.ite (fun _=>(zcO h).bind fun _ _ _ _=>(zf5 hf h).bind fun x j h1 h2=>(zhA hf ha m _ _ h2).le (by omega)) fun _=>⟨qae _,h⟩
theorem zqK{i:Nat}(h:i≤R.K.length):InR R.K.length (i+1) (R.how i):=by
 unfold Rd.how
 exact InR.ite (fun hs=>⟨qae _,zam hs⟩) fun _=>(zaQ _ h).bind fun _ j h1 h2=>⟨h1,h2⟩
theorem zfM{f:Nat->PR Ex}(hf:∀i,i≤R.K.length->InR R.K.length (i+1) (f i)){w:Str}:∀(m:Nat) (l:List Tran) (g:List (Str×Nat)) {i:Nat},i≤R.K.length->InR R.K.length i (R.trans f w m l g i)
 | 0,l,g,i,h=>⟨qae _,h⟩
 | m+1,l,g,i,h=>by
   unfold Rd.trans
   exact InR.ite (fun hs=>(zcO h).bind fun _ _ _ _=>(hf _ (zam hs)).bind fun c j h1 h2=>(zqK h2).bind fun b j h3 h4=>(zea h4).bind fun s j h5 h6=>(zaQ _ h6).bind fun _ k h7 h8=>(zfM hf m _ _ h8).le (by omega)) fun _=>⟨qae _,h⟩
theorem zoA{f:Nat->PR Ex}(hf:∀i,i≤R.K.length->InR R.K.length (i+1) (f i)){bd:Nat->PR (List Equ×List Auto)}(hb:∀i,i≤R.K.length->InR R.K.length i (bd i)){i:Nat}(h:i≤R.K.length):InR R.K.length (i+1) (R.state f bd i):=by
 unfold Rd.state
 exact(zea h).bind fun _ j h1 h2=>(zgj h2).bind fun _ j h3 h4=>(zfM hf _ _ _ h4).bind fun _ j h5 h6=>(zaQ _ h6).bind fun _ j h7 h8=>(hb _ h8).bind fun _ j h9 h10=>(zfM hf _ _ _ h10).bind fun _ j h11 h12=>(zaQ _ h12).bind fun _ j h13 h14=>⟨by omega,h14⟩
theorem zi2{f:Nat->PR Ex}(hf:∀i,i≤R.K.length->InR R.K.length (i+1) (f i)){bd:Nat->PR (List Equ×List Auto)}(hb:∀i,i≤R.K.length->InR R.K.length i (bd i)):∀(m:Nat) (l:List Sta) (g:List (List (Str×Nat))) {i:Nat},i≤R.K.length->InR R.K.length i (R.states f bd m l g i)
 | 0,l,g,i,h=>⟨qae _,h⟩
 | m+1,l,g,i,h=>by
   unfold Rd.states
   exact InR.ite (fun hs=>(zcO h).bind fun _ _ _ _=>(zoA hf hb (zam hs)).bind fun x j h1 h2=>(zi2 hf hb m _ _ h2).le (by omega)) fun _=>⟨qae _,h⟩
theorem zfV{f:Nat->PR Ex}(hf:∀i,i≤R.K.length->InR R.K.length (i+1) (f i)):∀(m:Nat) (a e:List Ex) {i:Nat},i≤R.K.length->InR R.K.length i (R.claims f m a e i)
 | 0,a,e,i,h=>⟨qae _,h⟩
 | m+1,a,e,i,h=>by
   unfold Rd.claims
   exact InR.ite (fun hs=>(zcO h).bind fun _ _ _ _=>(hf _ (zam hs)).bind fun x j h1 h2=>(zaQ _ h2).bind fun _ j h3 h4=>(zfV hf m _ _ h4).le (by omega)) fun _=>
    InR.ite (fun hs=>(zcO h).bind fun _ _ _ _=>(hf _ (zam hs)).bind fun x j h1 h2=>(zaQ _ h2).bind fun _ j h3 h4=>(zfV hf m _ _ h4).le (by omega)) fun _=>⟨qae _,h⟩
theorem zqL{i:Nat}(h:i≤R.K.length):InR R.K.length i (R.ins i):=by
 unfold Rd.ins
 exact InR.ite (fun _=>⟨qae _,h⟩) fun _=>zeA _ _ h
end
end Go.Proofs.YtpfnfpaahefdaaaGreat
namespace Go.TL
open Go
def zp7(X:Act->World->Prop)(Q:Exit->Act->World->Prop):Exit->Act->World->Prop
 | .normal,a,w=>X a w
 | .panic ch,a,w=>Q (.panic ch) a w
 | _,_,_=>False
def NK(env1:Env)(H1:Heap):TK
 | .normal,env,H=>env=env1/\H=H1
 | _,_,_=>False
def NKP(K:TK)(g:Prop)(env1:Env)(H1:Heap):TK
 | .normal,env,H=>(env=env1/\H=H1)/\g
 | .panic v,env,H=>K (.panic v) env H
 | _,_,_=>False
section rules
variable {P:Program}{all:Array Oper}
theorem znJ{F:Fence}{n:Nat}{o:Oper}{a:Act}{w:World}{X:Act->World->Prop}{Q:Exit->Act->World->Prop}(h:Oper.wpIn F n P o a w X (zp7 X Q)):Oper.wpIn F n P o a w X Q:=by
 unfold Oper.wpIn at h⊢
 refine⟨h.1,?_⟩
 have h2:=h.2
 revert h2
 generalize (o.semAt F.round a.eval).run P w=r
 intro h
 cases r with
 | ok x w'=>
   cases x <;> simp only[Oper.uponIn]at h⊢ <;> first
    | exact h
    | (refine⟨h.1,CallsIn.mono h.2 fun e w2 h2=>?_⟩
       cases e with
       | returned v=>exact h2
       | panicked ch=>exact h2
       | outgrown=>obtain⟨a0,w0,h0⟩:=h2;exact h0.elim)
    | (refine⟨h.1,RoundIn.mono h.2 fun e w2 h2=>?_⟩
       cases e with
       | returned v=>exact h2
       | panicked ch=>exact h2
       | outgrown=>obtain⟨a0,w0,h0⟩:=h2;exact h0.elim)
 | halt x w'=>
   cases x <;> simp only[Oper.uponIn]at h⊢
   exact h
theorem zhV{K:TK}{g:Prop}{n i:Nat}{o:Oper}{env env1:Env}{H H1:Heap}{φ:Fm}{m:M}{a:Act}{X:Act->World->Prop}{Q:Exit->Act->World->Prop}(ho:all[i]?=some o)(ht:TO false P n all [o] env H (NKP K g env1 H1))(h1:m.H=H)(h2:HRel m)(h3:ERel m n env a.tmps)(h4:zcz φ m.w a.defers)
  (next:g->∀m' a',m'.H=H1->Step m m'->HRel m'->ERel m' n env1 a'.tmps->zcz φ m'.w a'.defers->X a' m'.w)
  (hpan:∀m' env' a' v ch,Step m m'->HRel m'->ERel m' n env' a'.tmps->zcz φ m'.w a'.defers->zbg m' (.panic v) (.panic ch)->K (.panic v) env' m'.H->Q (.panic ch) a' m'.w):wpOpIn (Fr φ.r) 0 P all Q i X a m.w:=by
 have h:=ht φ m a h1 h2 h3 h4
 simp only at h
 have h':wpListIn (Fr φ.r) 0 P all (zp7 X Q) [o] a m.w:=by
  refine za3 (fun e a' w' hp=>?_) (fun _ _=>Post.zcr) [o] a m.w h
  obtain⟨m',env',te,rfl,s,hm',he',hd',hx,hk⟩:=hp
  cases te with
  | normal=>
    obtain⟨⟨rfl,hH⟩,hg⟩:=hk
    cases e <;> simp[zbg]at hx
    exact next hg m' a' hH s hm' he' hd'
  | exit j=>exact hk.elim
  | ret=>exact hk.elim
  | panic v=>
    cases e with
    | panic ch=>exact hpan m' env' a' v ch s hm' he' hd' hx hk
    | _=>simp[zbg]at hx
 unfold wpListIn at h'
 unfold wpOpIn
 simp only[ho]
 split
 ·rename_i hw
  rw[if_pos hw]at h'
  exact znJ h'
 ·rename_i hw
  rw[if_neg hw]at h'
  exact⟨h'.1,h'.2⟩
theorem TO.nkp{n:Nat}{K:TK}{g:Prop}{o:Oper}{env env1:Env}{H H1:Heap}(hg:g)(h:TO false P n all [o] env H (NK env1 H1)):TO false P n all [o] env H (NKP K g env1 H1):=
 fun φ m a h1 h2 h3 h4=>za3 (fun _ _ _ hp=>hp.mono fun te _ _ hk=>by cases te <;> first|exact⟨hk,hg⟩|exact hk.elim) (fun _ _=>Post.zcr) [o] a m.w (h φ m a h1 h2 h3 h4)
def zb9(all:Array Oper)(i:Nat):Option Nat:=(all[i]?).bind (·.dst)
def envA(all:Array Oper)(vs:List SV)(p:Nat->Bool):List Nat->Env
 | []=>[]
 | i::r=>match p i,zb9 all i,vs[i]? with
   | true,some d,some v=>(d,v)::envA all vs p r
   | _,_,_=>envA all vs p r
theorem zaR(a b:Env)(s:Nat):Env.look (a++b) s=match Env.look a s with|some v=>some v|none=>Env.look b s:=by
 induction a with
 | nil=>rfl
 | cons x a ih=>
   obtain⟨k,v⟩:=x
   simp only[qbc,Env.look]
   cases Nat.beq k s
   ·exact ih
   ·rfl
theorem zbu{vs:List SV}{p:Nat->Bool}(hu:∀i j d,zb9 all i=some d->zb9 all j=some d->i=j){i d:Nat}{v:SV}(hp:p i=true)(hd:zb9 all i=some d)(hv:vs[i]?=some v):∀(l:List Nat),i∈l->(envA all vs p l).look d=some v
 | j::l,hi=>by
   unfold envA
   by_cases hij:j=i
   ·subst hij
    rw[hp,hd,hv]
    simp only[Env.look,qbg,cond_true]
   ·have hi':i∈l:=by simpa [Ne.symm hij]using hi
    split
    ·rename_i d' v' e1 e2 e3
     have:d'≠d:=fun e=>hij (hu j i d (by rw[<-e];exact e2) hd)
     rw[Env.zaz _ _ this]
     exact zbu hu hp hd hv l hi'
    ·exact zbu hu hp hd hv l hi'
theorem zdh{vs:List SV}{p:Nat->Bool}{d:Nat}:∀(l:List Nat),(∀j∈l,p j=true->zb9 all j≠some d)->(envA all vs p l).look d=none
 | [],_=>rfl
 | j::l,h=>by
   unfold envA
   split
   ·rename_i d' v' e1 e2 e3
    have:d'≠d:=fun e=>h j qaC e1 (by rw[e2,e])
    rw[Env.zaz _ _ this]
    exact zdh l fun j' hj'=>h j' (qaA _ hj')
   ·exact zdh l fun j' hj'=>h j' (qaA _ hj')
theorem zeB{vs:List SV}{p:Nat->Bool}{s:Nat}{v:SV}:∀(l:List Nat),(envA all vs p l).look s=some v->∃j,j∈l/\p j=true/\zb9 all j=some s/\vs[j]?=some v
 | j::l,h=>by
   unfold envA at h
   split at h
   ·rename_i d' v' e1 e2 e3
    by_cases hd:d'=s
    ·subst hd
     rw[Env.zaN]at h
     cases h
     exact⟨j,qaC,e1,e2,e3⟩
    ·rw[Env.zaz _ _ hd]at h
     exact zwfi
   ·exact zwfi
def slotsOf(all:Array Oper)(o:Oper):List Nat:=
 (o.op.operands.toList.filterMap fun x=>match x with| .tmp t=>some t|_=>none)++(match o.guard with|some g=>(zb9 all g.1).toList|none=>[])
def zbc(all:Array Oper)(vs:List SV)(env0:Env):Env:=envA all vs (fun _=>true) (List.range all.size)++env0
def zaS(full:Env):List Nat->Env
 | []=>[]
 | s::r=>match full.look s with
   | some v=>(s,v)::zaS full r
   | none=>zaS full r
theorem zdk(full:Env)(t:Nat)(v:SV):∀(l:List Nat),(zaS full l).look t=some v->t∈l/\full.look t=some v
 | s::r,h=>by
   unfold zaS at h
   split at h
   ·rename_i u hu
    by_cases hs:s=t
    ·subst hs
     rw[Env.zaN]at h
     cases h
     exact⟨qaC,hu⟩
    ·rw[Env.zaz _ _ hs]at h
     exact zwew
   ·exact zwew
theorem zgp{full:Env}{t:Nat}{v:SV}(h:full.look t=some v):∀(l:List Nat),t∈l->(zaS full l).look t=some v
 | s::r,hm=>by
   unfold zaS
   by_cases hs:s=t
   ·subst hs
    rw[h];simp only[]
    rw[Env.zaN]
   ·have hr:t∈r:=by
     rcases qa8.1 hm with h1|h1
     ·exact absurd h1.symm hs
     ·exact h1
    split
    ·rw[Env.zaz _ _ hs];exact zgp h r hr
    ·exact zgp h r hr
def putE(d:Option Nat)(v:SV)(env:Env):Env:=match d with|some d=>(d,v)::env|none=>env
def Prem(P:Program)(n:Nat)(all:Array Oper)(full:Env):List Oper->List (SV×Bool)->List Heap->Prop
 | [],[],_=>True
 | o::l,(v,false)::t,hs=>(∀H env,TO false P n all [o] (zaS full (slotsOf all o)++env) H (NK (putE o.dst v (zaS full (slotsOf all o)++env)) H))/\Prem P n all full l t hs
 | o::l,(v,true)::t,H1::H2::hs=>(∀env,TO false P n all [o] (zaS full (slotsOf all o)++env) H1 (NK (putE o.dst v (zaS full (slotsOf all o)++env)) H2))/\Prem P n all full l t (H2::hs)
 | _,_,_=>False
def effs(t:List (SV×Bool))(k:Nat):Nat:=((t.take k).filter (·.2)).length
theorem Prem.get{n:Nat}{full:Env}:∀ {l:List Oper} {t:List (SV×Bool)} {hs:List Heap},Prem P n all full l t hs->l.length=t.length/\∀(i:Nat) o v b,l[i]?=some o->t[i]?=some (v,b)->
   (b=false->∀H env,TO false P n all [o] (zaS full (slotsOf all o)++env) H (NK (putE o.dst v (zaS full (slotsOf all o)++env)) H))/\
   (b=true->∃H1 H2,hs[effs t i]?=some H1/\hs[effs t i+1]?=some H2/\∀env,TO false P n all [o] (zaS full (slotsOf all o)++env) H1 (NK (putE o.dst v (zaS full (slotsOf all o)++env)) H2))
 | [],[],hs,_=>by simp
 | o::l,(v,false)::t,hs,h=>by
   obtain⟨h1,h2⟩:=h
   obtain⟨g1,g2⟩:=Prem.get h2
   refine⟨by simp[g1],fun i o' v' b' ho hv=>?_⟩
   cases i with
   | zero=>simp at ho hv;obtain⟨rfl,rfl⟩:=hv;subst ho;exact⟨fun _=>h1,fun e=>by cases e⟩
   | succ i=>
     have:=g2 i o' v' b' (by simpa using ho) (by simpa using hv)
     simpa [effs]using this
 | o::l,(v,true)::t,H1::H2::hs,h=>by
   obtain⟨h1,h2⟩:=h
   obtain⟨g1,g2⟩:=Prem.get h2
   refine⟨by simp[g1],fun i o' v' b' ho hv=>?_⟩
   cases i with
   | zero=>simp at ho hv;obtain⟨rfl,rfl⟩:=hv;subst ho;exact⟨fun e=>by(cases e),fun _=>⟨H1,H2,rfl,rfl,h1⟩⟩
   | succ i=>
     have:=g2 i o' v' b' (by simpa using ho) (by simpa using hv)
     have e:effs ((v,true)::t) (i+1)=effs t i+1:=by simp[effs]
     rw[e]
     simpa using this
 | o::l,(v,true)::t,[],h=>by exact h.elim
 | o::l,(v,true)::t,[_],h=>by exact h.elim
 | [],_::_,_,h=>by exact h.elim
 | _::_,[],_,h=>by exact h.elim
def mixW(w:List Nat)(ops:Array Oper)(fl:List Bool):Bool:=
 zmx ops && ((List.range ops.size).all fun i=>
  ((List.range ops.size).all fun j=>Nat.beq i j || (match zb9 ops i,zb9 ops j with|some d,some d'=>!Nat.beq d d'|_,_=>true)) &&
  (match ops[i]? with
    | some o=>(slotsOf ops o).all fun s=>(List.range ops.size).all fun j=>(match zb9 ops j with|some d=>!Nat.beq d s || (match w.contains s with|true=>(cov ops 8 (zaP ops j)).contains i|false=>(cov ops 8 (zaP ops i)).contains j)|none=>true)
    | none=>true) &&
  (!(fl.getD i false) || (List.range i).all fun j=>!(fl.getD j false) || (cov ops 8 (zaP ops i)).contains j))
abbrev mixB (ops:Array Oper)(fl:List Bool):Bool:=mixW [] ops fl
def okC(ops:Array Oper)(fl:List Bool)(i c:Nat):Bool:=(List.range ops.size).all fun j=>!(fl.getD j false) ||
 ((!(cov ops 8 (zaP ops j)).contains i || Nat.ble c ((fl.take j).filter id).length) && (!(cov ops 8 (zaP ops i)).contains j || Nat.blt ((fl.take j).filter id).length c))
def unl(N:Nat)(L:Array Bool):Nat:=((List.range N).filter fun i=>L[i]? == some false).length
theorem filter_lt{p q:Nat->Bool}(h:∀i,q i=true->p i=true):∀(l:List Nat) (x:Nat),x∈l->p x=true->q x=false->(l.filter q).length<(l.filter p).length
 | y::l,x,hx,hp,hq=>by
   have hle:∀l:List Nat,(l.filter q).length≤(l.filter p).length:=by
    intro l
    induction l with
    | nil=>simp
    | cons z l ih=>
      simp only[List.filter_cons]
      cases hz:q z
      ·cases p z <;> simp <;> omega
      ·simp[h z hz];exact ih
   simp only[List.filter_cons]
   rcases qa8.1 hx with rfl|hx
   ·rw[hp,hq];have:=hle l;simp;omega
   ·have:=filter_lt h l x hx hp hq
    cases hz:q y
    ·cases p y <;> simp <;> omega
    ·simp[h y hz];exact this
theorem zhy(w:List Nat){G:Nat->Prop}{n:Nat}{env0:Env}{K:TK}{vs:List SV}{fl:List Bool}{hs:List Heap}{HF:Heap}{φ:Fm}{m0:M}(hw:∀t,w.contains t=true->(env0.look t).isSome=true)(hB:mixW w all fl=true)(hvl:vs.length=all.size)(hfl:fl.length=all.size)
  (hq:∀(i:Nat) o v,all[i]?=some o->vs[i]?=some v->fl.getD i false=false->∀(c:Nat) H,hs[c]?=some H->okC all fl i c=true->∀env,TO false P n all [o] (zaS (zaS env0 w++zbc all vs env0) (slotsOf all o)++env) H (NKP K (G i) (putE o.dst v (zaS (zaS env0 w++zbc all vs env0) (slotsOf all o)++env)) H))
  (he:∀(i:Nat) o v,all[i]?=some o->vs[i]?=some v->fl.getD i false=true->∃H1 H2,hs[((fl.take i).filter id).length]?=some H1/\hs[((fl.take i).filter id).length+1]?=some H2/\∀env,TO false P n all [o] (zaS (zaS env0 w++zbc all vs env0) (slotsOf all o)++env) H1 (NKP K (G i) (putE o.dst v (zaS (zaS env0 w++zbc all vs env0) (slotsOf all o)++env)) H2))
  (hF:hs[(fl.filter id).length]?=some HF)(hK:(∀j,j<all.size->G j)->K .normal (zbc all vs env0) HF):
  ∀(fuel:Nat) (L:Array Bool) (m:M) (a:Act),L.size=all.size->DC all L->unl all.size L≤fuel->
   (∃c,(∀i:Nat,fl.getD i false=true->(((fl.take i).filter id).length<c ↔ L[i]?=some true))/\c≤(fl.filter id).length/\hs[c]?=some m.H/\∀j,L[j]?=some true->G j)->
   Step m0 m->HRel m->ERel m n (envA all vs (fun i=>L.getD i false) (List.range all.size)++env0) a.tmps->zcz φ m.w a.defers->
   wpAnyIn (Fr φ.r) 0 P .any all (Post φ m0 n K) fuel L a m.w:=by
 simp only[mixW,qat]at hB
 obtain⟨hd,hall⟩:=hB
 have hall':∀i,i<all.size->_:=fun i hi=>qaw.1 hall i (by simpa using hi)
 have hdl:∀i d,zb9 all i=some d->i<all.size:=fun i d h=>by
  exact zwdc
 have hu:∀i j d,zb9 all i=some d->zb9 all j=some d->i=j:=by
  exact zwbr
 have hcv:∀(i:Nat) o s j,all[i]?=some o->s∈slotsOf all o->zb9 all j=some s->(w.contains s=true->i∈cov all 8 (zaP all j))/\(w.contains s=false->j∈cov all 8 (zaP all i)):=by
  exact zwu
 have hch:∀i j,i<all.size->fl.getD i false=true->j<i->fl.getD j false=true->j∈cov all 8 (zaP all i):=by
  intro i j hi h1 hj h2
  have:=hall' i hi
  simp only[qat,h1,qbW,qbz]at this
  have:=qaw.1 this.2 j (by simpa using hj)
  rw[h2]at this
  simpa using this
 have hfull:∀L:Array Bool,L.size=all.size->(∀i,i<all.size->L[i]?=some true)->envA all vs (fun i=>L.getD i false) (List.range all.size)++env0=zbc all vs env0:=by
  intro L hL hA
  exact zwm
 have hdone:∀(L:Array Bool) (m:M) (a:Act),L.size=all.size->(∀i,i<all.size->L[i]?=some true)->(∃c,(∀i:Nat,fl.getD i false=true->(((fl.take i).filter id).length<c ↔ L[i]?=some true))/\c≤(fl.filter id).length/\hs[c]?=some m.H/\∀j,L[j]?=some true->G j)->
   Step m0 m->HRel m->ERel m n (envA all vs (fun i=>L.getD i false) (List.range all.size)++env0) a.tmps->zcz φ m.w a.defers->Post φ m0 n K .normal a m.w:=by
  rintro L m a hL hA ⟨c,hc1,hc2,hc3,hG⟩ s h2 h3 h4
  rw[hfull L hL hA]at h3
  have hc:c=(fl.filter id).length:=by
   refine Nat.le_antisymm hc2 (qbm fun hlt=>?_)
   have:∀(fl':List Bool) (c:Nat),c<(fl'.filter id).length->∃i:Nat,fl'.getD i false=true/\((fl'.take i).filter id).length=c:=by
    intro fl'
    induction fl' with
    | nil=>intro c h;simp at h
    | cons b fl' ih=>
      intro c h
      cases b with
      | false=>
        obtain⟨i,g1,g2⟩:=ih c (by simpa using h)
        exact⟨i+1,by simpa using g1,by simpa using g2⟩
      | true=>
        cases c with
        | zero=>exact⟨0,rfl,rfl⟩
        | succ c=>
          obtain⟨i,g1,g2⟩:=ih c (by simpa using h)
          exact⟨i+1,by simpa using g1,by simpa using g2⟩
   obtain⟨i,g1,g2⟩:=this fl c hlt
   have hil:i<all.size:=by
    rw[<-hfl]
    refine qbT fun hle=>?_
    rw[qbq,qaG hle]at g1
    cases g1
   have:=(hc1 i g1).2 (hA i hil)
   omega
  subst hc
  rw[hF]at hc3
  cases hc3
  exact⟨m,zbc all vs env0,.normal,rfl,s,h2,h3,h4,trivial,hK fun j hj=>hG j (hA j hj)⟩
 intro fuel
 induction fuel with
 | zero=>
   intro L m a hL hdc hun hst s h2 h3 h4
   have hA:∀i,i<all.size->L[i]?=some true:=by
    exact zws
   refine⟨?_,hdone L m a hL hA hst s h2 h3 h4⟩
   refine qby.2 fun i hi=>?_
   have h:=((zbw hL).1 hi).1
   rw[hA i (by rw[<-hL];exact(qaj.1 h).1)]at h
   cases h
 | succ fuel ih=>
   intro L m a hL hdc hun hst s h2 h3 h4
   refine⟨fun hr=>?_,fun i hi=>?_⟩
   ·refine hdone L m a hL (fun i hi=>?_) hst s h2 h3 h4
    exact zwbi
   ·obtain⟨g1,g2⟩:=(zbw hL).1 hi
    have hil:i<all.size:=by rw[<-hL];exact(qaj.1 g1).1
    have ho:all[i]?=some all[i]:=qak hil
    have hv:vs[i]?=some (vs[i]'(by omega)):=qab (by omega)
    generalize all[i]=o at ho
    generalize vs[i]'(by omega)=v at hv
    obtain⟨c,hc1,hc2,hc3,hG⟩:=hst
    have hcl:=zcc hdc 8 (zaP all i) g2
    have hlook:∀t u,(zaS (zaS env0 w++zbc all vs env0) (slotsOf all o)++(envA all vs (fun i=>L.getD i false) (List.range all.size)++env0)).look t=some u->
      (envA all vs (fun i=>L.getD i false) (List.range all.size)++env0).look t=some u:=by
     intro t u htu
     rw[zaR]at htu
     cases hpk:(zaS (zaS env0 w++zbc all vs env0) (slotsOf all o)).look t with
     | none=>rw[hpk]at htu;exact htu
     | some u'=>
       rw[hpk]at htu
       cases htu
       obtain⟨k1,k2⟩:=zdk _ _ _ _ hpk
       rw[zaR]at k2
       cases hwl:(zaS env0 w).look t with
       | some u1=>
         rw[hwl]at k2
         cases k2
         obtain⟨w1,w2⟩:=zdk _ _ _ _ hwl
         rw[zaR]
         have:(envA all vs (fun i=>L.getD i false) (List.range all.size)).look t=none:=by
          exact zwbp
         rw[this]
         exact w2
       | none=>
       rw[hwl]at k2
       have hwn:w.contains t=false:=by
        exact zwbg
       dsimp only at k2
       unfold zbc at k2
       rw[zaR]at k2⊢
       cases hq':(envA all vs (fun _=>true) (List.range all.size)).look t with
       | some u''=>
         rw[hq']at k2
         cases k2
         obtain⟨j,j1,_,j2,j3⟩:=zeB _ hq'
         have hj:=hcl j ((hcv i o t j ho k1 j2).2 hwn)
         rw[zbu hu (p:=fun i=>L.getD i false) (gT.2 hj) j2 j3 _ j1]
       | none=>
         rw[hq']at k2
         have:(envA all vs (fun i=>L.getD i false) (List.range all.size)).look t=none:=by
          refine zdh _ fun j hj _ hjd=>?_
          have hjl:j<all.size:=by simpa using hj
          have:=zbu (vs:=vs) hu (p:=fun _=>true) rfl hjd (qab (by omega)) (List.range all.size) hj
          rw[this]at hq'
          cases hq'
         rw[this]
         exact k2
    have h3':ERel m n (zaS (zaS env0 w++zbc all vs env0) (slotsOf all o)++(envA all vs (fun i=>L.getD i false) (List.range all.size)++env0)) a.tmps:=h3.sub hlook
    have hset:∀j:Nat,(L.setIfInBounds i true)[j]?=if i=j then some true else L[j]? :=by
     exact zwev
    have hnext:∀H1:Heap,(∃c',(∀x:Nat,fl.getD x false=true->(((fl.take x).filter id).length<c' ↔ (L.setIfInBounds i true)[x]?=some true))/\c'≤(fl.filter id).length/\hs[c']?=some H1)->
      G i->∀m' a',m'.H=H1->Step m m'->HRel m'->ERel m' n (putE o.dst v (zaS (zaS env0 w++zbc all vs env0) (slotsOf all o)++(envA all vs (fun i=>L.getD i false) (List.range all.size)++env0))) a'.tmps->zcz φ m'.w a'.defers->
      wpAnyIn (Fr φ.r) 0 P .any all (Post φ m0 n K) fuel (L.setIfInBounds i true) a' m'.w:=by
     rintro H1 ⟨c',q1,q2,q3⟩ hgi m' a' hH s' h2' h3'' h4'
     refine ih (L.setIfInBounds i true) m' a' (by simpa using hL) (zmu hL hdc hi) ?_ ⟨c',q1,q2,by rw[hH];exact q3,fun j hj=>by
      rw[hset]at hj
      split at hj
      ·rename_i e;subst e;exact hgi
      ·exact hG j hj⟩ (s.trans s') h2' (h3''.sub fun t u htu=>?_) h4'
     ·exact zwv
     ·rw[zaR]at htu
      cases hq':(envA all vs (fun x=>(L.setIfInBounds i true).getD x false) (List.range all.size)).look t with
      | some u'=>
        rw[hq']at htu
        cases htu
        obtain⟨j,j1,j0,j2,j3⟩:=zeB _ hq'
        have j0':=gT.1 j0
        rw[hset]at j0'
        by_cases hij:i=j
        ·subst hij
         rw[hv]at j3
         exact zwec
        ·rw[if_neg hij]at j0'
         have hne:zb9 all i≠some t:=fun e=>hij (hu i j t e j2)
         have e2:(envA all vs (fun i=>L.getD i false) (List.range all.size)++env0).look t=some u:=by
          rw[zaR,zbu hu (p:=fun i=>L.getD i false) (gT.2 j0') j2 j3 _ j1]
         have e3:(zaS (zaS env0 w++zbc all vs env0) (slotsOf all o)++(envA all vs (fun i=>L.getD i false) (List.range all.size)++env0)).look t=some u:=by
          exact zwbk
         exact zwca
      | none=>
        rw[hq']at htu
        have hno:∀j,j<all.size->L[j]?=some true->zb9 all j≠some t:=by
         intro j hj hjt hjd
         have:=zbu (vs:=vs) hu (p:=fun x=>(L.setIfInBounds i true).getD x false) (i:=j) (gT.2 (by rw[hset];split;rfl;exact hjt)) hjd (qab (by omega)) (List.range all.size) (by simpa using hj)
         rw[this]at hq'
         cases hq'
        have hni:zb9 all i≠some t:=by
         intro hjd
         have:=zbu (vs:=vs) hu (p:=fun x=>(L.setIfInBounds i true).getD x false) (i:=i) (gT.2 (by rw[hset,if_pos rfl])) hjd (qab (by omega)) (List.range all.size) (by simpa using hil)
         rw[this]at hq'
         cases hq'
        have e2:(envA all vs (fun i=>L.getD i false) (List.range all.size)++env0).look t=some u:=by
         exact zwdf
        have e3:(zaS (zaS env0 w++zbc all vs env0) (slotsOf all o)++(envA all vs (fun i=>L.getD i false) (List.range all.size)++env0)).look t=some u:=by
         exact zwbk
        cases hdd:o.dst with
        | none=>exact e3
        | some d=>
          have:d≠t:=fun e=>hni (by unfold zb9;rw[ho];simp[hdd,e])
          rw[putE,Env.zaz _ _ this]
          exact e3
    cases hb:fl.getD i false with
    | false=>
      have hokc:okC all fl i c=true:=by
       unfold okC
       refine qaw.2 fun j hj=>?_
       cases hfj:fl.getD j false with
       | false=>rfl
       | true=>
         rw[qbW,qbz,qat]
         have h5:=hc1 j hfj
         constructor
         ·cases hcc:(cov all 8 (zaP all j)).contains i with
          | false=>rfl
          | true=>
            rw[qbW,qbz]
            refine qcg (qbm fun hlt=>?_)
            have hjt:=h5.1 hlt
            have:=zcc hdc 8 (zaP all j) (hdc j hjt) i (by simpa using hcc)
            rw[g1]at this;cases this
         ·cases hcc:(cov all 8 (zaP all i)).contains j with
          | false=>rfl
          | true=>
            rw[qbW,qbz]
            have:=h5.2 (hcl j (by simpa using hcc))
            exact qcg this
      refine zhV (K:=K) (hpan:=fun m' env' a' v ch s' hm' he' hd' hx hk=>⟨m',env',.panic v,rfl,s.trans s',hm',he',hd',hx,hk⟩) ho (hq i o v ho hv hb c m.H hc3 hokc _) rfl h2 h3' h4 (hnext m.H ⟨c,fun x hx=>?_,hc2,hc3⟩)
      rw[hc1 x hx,hset]
      have:i≠x:=fun e=>by rw[e,hx]at hb;cases hb
      rw[if_neg this]
    | true=>
      obtain⟨H1,H2,k1,k2,k3⟩:=he i o v ho hv hb
      have hci:((fl.take i).filter id).length=c:=by
       have h5:=hc1 i hb
       have hge:c≤((fl.take i).filter id).length:=qbm fun hlt=>by
        rw[h5.1 hlt]at g1;cases g1
       refine Nat.le_antisymm (qbm fun hlt=>?_) hge
       have:∀(fl':List Bool) (c:Nat),c<(fl'.filter id).length->∃j:Nat,j<fl'.length/\fl'.getD j false=true/\((fl'.take j).filter id).length=c:=by
        intro fl'
        induction fl' with
        | nil=>intro c h;simp at h
        | cons b fl' ih=>
          intro c h
          cases b with
          | false=>
            obtain⟨j,g0,g1,g2⟩:=ih c (by simpa using h)
            exact⟨j+1,by simpa using g0,by simpa using g1,by simpa using g2⟩
          | true=>
            cases c with
            | zero=>exact⟨0,by simp,rfl,rfl⟩
            | succ c=>
              obtain⟨j,g0,g1,g2⟩:=ih c (by simpa using h)
              exact⟨j+1,by simpa using g0,by simpa using g1,by simpa using g2⟩
       obtain⟨j,g0,g3,g4⟩:=this (fl.take i) c hlt
       have hji:j<i:=by simp at g0;omega
       rw[qbq,qaN,if_pos hji,<-qbq]at g3
       rw[List.take_take,Nat.min_eq_left (by omega)]at g4
       have h6:=hcl j (hch i j hil hb hji g3)
       have:=(hc1 j g3).2 h6
       omega
      rw[hci]at k1 k2
      rw[hc3]at k1
      cases k1
      refine zhV (K:=K) (hpan:=fun m' env' a' v ch s' hm' he' hd' hx hk=>⟨m',env',.panic v,rfl,s.trans s',hm',he',hd',hx,hk⟩) ho (k3 _) rfl h2 h3' h4 (hnext H2 ⟨c+1,fun x hx=>?_,?_,k2⟩)
      ·rw[hset]
       by_cases hix:i=x
       ·subst hix;rw[if_pos rfl,hci];simp
       ·rw[if_neg hix,<-hc1 x hx]
        have hmono:∀(fl':List Bool) (x y:Nat),x<y->fl'.getD x false=true->((fl'.take x).filter id).length<((fl'.take y).filter id).length:=by
         intro fl'
         induction fl' with
         | nil=>intro x y _ h;cases h
         | cons b fl' ih=>
           intro x y hxy h
           obtain⟨y',rfl⟩:∃y',y=y'+1:=⟨y-1,by omega⟩
           cases x with
           | zero=>simp at h;subst h;simp
           | succ x=>
             have:=ih x y' (by omega) (by simpa using h)
             cases b <;> simp <;> exact this
        have:((fl.take x).filter id).length≠c:=by
         rcases Nat.lt_or_gt_of_ne hix with h|h
         ·have:=hmono fl i x h hb;omega
         ·have:=hmono fl x i h hx;omega
        omega
      ·have:c<(fl.filter id).length:=by
        have hm:∀(fl':List Bool) (x:Nat),fl'.getD x false=true->((fl'.take x).filter id).length<(fl'.filter id).length:=by
         exact zwbf
        have:=hm fl i hb
        omega
       omega
theorem TR.zpV(w:List Nat){n:Nat}{env0 envF:Env}{H0 HF:Heap}{K:TK}{id':Nat}{l:List Oper}(t:List (SV×Bool))(hs:List Heap)(hm:P.follows .mixedOrders=true)(hw:w.all (fun t=>(env0.look t).isSome)=true)(hB:mixW w l.toArray (t.map (·.2))=true)(h0:hs[0]?=some H0)
  (hp:Prem P n l.toArray (zaS env0 w++zbc l.toArray (t.map (·.1)) env0) l t hs)(hF:hs[((t.map (·.2)).filter id).length]?=some HF)(hE:zbF (zbc l.toArray (t.map (·.1)) env0)=some envF)(hK:K .normal envF HF):
  TR P n (.region id' l.toArray true) env0 H0 K:=by
 obtain⟨g1,g2⟩:=hp.get
 intro φ m a h1 h2 h3 h4
 have hef:∀i,((t.map (·.2)).take i |>.filter id).length=effs t i:=by
  intro i
  unfold effs
  rw[<-qca,qcd,qad]
  rfl
 have s0:Step m ⟨m.A,m.β,m.H,{ m.w with drawn:=m.w.drawn+1 }⟩/\HRel ⟨m.A,m.β,m.H,{ m.w with drawn:=m.w.drawn+1 }⟩:=zcN h2 ⟨rfl,rfl,rfl,qae _,fun _ _=>rfl⟩
 refine zbz (wpIn_region_any hm ?_)
 refine zhy w (G:=fun _=>True) (vs:=t.map (·.1)) (fl:=t.map (·.2)) (hs:=hs) (m0:=m) (fun t ht=>qaw.1 hw t (by simpa using ht)) hB (by simp[g1]) (by simp[g1]) ?_ ?_ hF (fun _=>by rw[zbf hE]at hK;exact hK) l.toArray.size (Array.replicate l.toArray.size false)
  ⟨m.A,m.β,m.H,{ m.w with drawn:=m.w.drawn+1 }⟩ a (by simp) ?_ ?_ ?_ s0.1 s0.2 ?_ (h4.step h2 s0.1)
 ·intro i o v ho hv hb c H _ _ env
  obtain⟨⟨v',b⟩,hx,rfl⟩:∃x,t[i]?=some x/\x.1=v:=by simpa using hv
  have hb':b=false:=by
   exact zwfe
  exact((g2 i o v' b (by simpa using ho) hx).1 hb' H env).nkp trivial
 ·intro i o v ho hv hb
  obtain⟨⟨v',b⟩,hx,rfl⟩:∃x,t[i]?=some x/\x.1=v:=by simpa using hv
  have hb':b=true:=by
   exact zwfe
  have:=(g2 i o v' b (by simpa using ho) hx).2 hb'
  rw[hef]
  obtain⟨H1,H2,e1,e2,e3⟩:=this
  exact⟨H1,H2,e1,e2,fun env=>(e3 env).nkp trivial⟩
 ·exact zwfh
 ·exact zwcm
 ·exact zwbz
 ·exact zwg
theorem TR.zpT{n:Nat}{env0 envF:Env}{H0 HF:Heap}{K:TK}{id':Nat}{l:List Oper}(t:List (SV×Bool))(hs:List Heap)(hm:P.follows .mixedOrders=true)(hB:mixB l.toArray (t.map (·.2))=true)(h0:hs[0]?=some H0)
  (hp:Prem P n l.toArray (zbc l.toArray (t.map (·.1)) env0) l t hs)(hF:hs[((t.map (·.2)).filter id).length]?=some HF)(hE:zbF (zbc l.toArray (t.map (·.1)) env0)=some envF)(hK:K .normal envF HF):
  TR P n (.region id' l.toArray true) env0 H0 K:=TR.zpV [] t hs hm rfl hB h0 hp hF hE hK
end rules
end Go.TL
