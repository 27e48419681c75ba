import Derived.Test.YtdicfgideclbdaaGreatDoorAk25
set_option maxHeartbeats 64000000
set_option linter.all false
namespace Go.Proofs.YtdicfgideclbdaaGreatDoor
open Go Go.TL
attribute [local irreducible] TR TO Then zaj RetK Sound zac Kf GG zaQ
variable {f:Nat->PR Ex}
def zfk(s:Str):Nat->List En->Option Nat
 | _,[]=>none
 | k,u::l=>if u.name=s then some k else zfk s (k+1) l
def Rd.typ(R:Rd)(i:Nat):PR I64:=
 if R.isAt i [98,111,111,108]=true then .ok (toI 1) (i+1) else if R.isAt i [105,110,116]=true then .ok (toI 2) (i+1) else
 (R.id i).bind fun s j=>match zfk s 0 R.es with
   | some k=>.ok (toI ((3+k:Nat):Int)) j
   | none=>.er (j-1) 6
def Rd.clk(R:Rd):Nat->List OnC->Nat->PR (List OnC)
 | 0,l,i=>.ok l i
 | m+1,l,i=>if R.isAt i [119,104,101,110]=true then(limR l.length 4 i).bind fun _ _=>(R.sampling (i+1)).bind fun o j=>R.clk m (l++[o]) j else .ok l i
def Rd.decl(R:Rd)(i:Nat):PR Decl:=
 (R.id i).bind fun s i=>(R.must [[58]] i).bind fun _ i=>(R.typ i).bind fun t i=>(R.clk R.K.length [] i).bind fun l i=>.ok ⟨s,t,l⟩ i
def Rd.zkD(R:Rd)(n most i:Nat):PR Unit:=if R.kind i 1=true then limR n most i else .ok () i
def Rd.decls(R:Rd)(most:Nat)(op:Bool):Nat->List Decl->Nat->PR (List Decl)
 | 0,l,i=>.ok l i
 | m+1,l,i=>(R.zkD l.length most i).bind fun _ _=>(R.decl i).bind fun d j=>
   if R.isAt j [59]=false\/op=true/\R.kind (j+1) 1=false then .ok (l++[d]) j else R.decls most op m (l++[d]) (j+1)
def Rd.locals(R:Rd)(i:Nat):PR (List Decl):=
 if R.isAt i [118,97,114]=true then(R.decls 256 true (R.K.length+1) [] (i+1)).bind fun l j=>(R.must [[59]] j).bind fun _ j=>.ok l j else .ok [] i
def Rd.names(R:Rd)(most:Nat)(sep:Str):Nat->List Str->Nat->PR (List Str)
 | 0,l,i=>.ok l i
 | m+1,l,i=>(R.zkD l.length most i).bind fun _ _=>(R.id i).bind fun s j=>if R.isAt j sep=true then R.names most sep m (l++[s]) (j+1) else .ok (l++[s]) j
def Rd.left(R:Rd)(i:Nat):PR (List Str):=
 if R.isAt i [40]=true then(R.names 64 [44] (R.K.length+1) [] (i+1)).bind fun l j=>(R.must [[41]] j).bind fun _ j=>.ok l j else(R.id i).bind fun s j=>.ok [s] j
def Rd.equation(R:Rd)(f:Nat->PR Ex)(i:Nat):PR Equ:=
 (R.left i).bind fun l j=>(R.must [[61]] j).bind fun _ j=>(f j).bind fun e j=>(R.must [[59]] j).bind fun _ j=>.ok ⟨l,e⟩ j
def Rd.body(R:Rd)(f:Nat->PR Ex)(au:Nat->PR Auto)(deep:Bool):Nat->List Equ->List Auto->Nat->PR (List Equ×List Auto)
 | 0,q,a,i=>.ok (q,a) i
 | m+1,q,a,i=>
   if R.isAt i [97,117,116,111,109,97,116,111,110]=true then(if deep=true then .er i 3 else(limR a.length 8 i).bind fun _ _=>(au (i+1)).bind fun x j=>R.body f au deep m q (a++[x]) j)
   else if(R.kind i 1 || R.isAt i [40])=true then(limR q.length 256 i).bind fun _ _=>(R.equation f i).bind fun e j=>R.body f au deep m (q++[e]) a j
   else .ok (q,a) i
def Rd.how(R:Rd)(i:Nat):PR Bool:=
 if R.isAt i [99,111,110,116,105,110,117,101]=true then .ok true (i+1) else(R.must [[116,104,101,110]] i).bind fun _ j=>.ok false j
def Rd.trans(R:Rd)(f:Nat->PR Ex)(word:Str):Nat->List Tran->List (Str×Nat)->Nat->PR (List Tran×List (Str×Nat))
 | 0,l,g,i=>.ok (l,g) i
 | m+1,l,g,i=>if R.isAt i word=true then(limR l.length 4 i).bind fun _ _=>(f (i+1)).bind fun c j=>(R.how j).bind fun b j=>(R.id j).bind fun s j=>(R.must [[59]] j).bind fun _ k=>
    R.trans f word m (l++[⟨c,toI 0,b⟩]) (g++[(s,j-1)]) k
   else .ok (l,g) i
def Rd.state(R:Rd)(f:Nat->PR Ex)(bd:Nat->PR (List Equ×List Auto))(i:Nat):PR (Sta×List (Str×Nat)×List (Str×Nat)):=
 (R.id i).bind fun s i=>(R.locals i).bind fun ds i=>(R.trans f [117,110,108,101,115,115] R.K.length [] [] i).bind fun u i=>(R.must [[100,111]] i).bind fun _ i=>
 (bd i).bind fun b i=>(R.trans f [117,110,116,105,108] R.K.length [] [] i).bind fun v i=>(R.must [[100,111,110,101]] i).bind fun _ i=>.ok (.mk s ds b.1 b.2 u.1 v.1,u.2,v.2) i
def Rd.states(R:Rd)(f:Nat->PR Ex)(bd:Nat->PR (List Equ×List Auto)):Nat->List Sta->List (List (Str×Nat))->Nat->PR (List Sta×List (List (Str×Nat)))
 | 0,l,g,i=>.ok (l,g) i
 | m+1,l,g,i=>if R.isAt i [115,116,97,116,101]=true then(limR l.length 8 i).bind fun _ _=>(R.state f bd (i+1)).bind fun x j=>R.states f bd m (l++[x.1]) (g++[x.2.1,x.2.2]) j else .ok (l,g) i
def fixG(ns:List Str):List (Str×Nat)->PR (List Nat)
 | []=>.ok [] 0
 | (s,k)::l=>match idxOf s 0 ns with
   | none=>.er k 6
   | some j=>(fixG ns l).bind fun js _=>.ok (j::js) 0
def zef(ns:List Str):List (List (Str×Nat))->PR (List (List Nat))
 | []=>.ok [] 0
 | g::l=>(fixG ns g).bind fun js _=>(zef ns l).bind fun jss _=>.ok (js::jss) 0
def zjb(l:List Tran)(js:List Nat):List Tran:=List.zipWith (fun(q:Tran) (j:Nat)=>⟨q.cond,toI (j:Int),q.resume⟩) l js
def zgd:List Sta->List (List Nat)->List Sta
 | s::l,a::b::js=>.mk s.name s.locals s.eqs s.autos (zjb s.unl a) (zjb s.unt b)::zgd l js
 | l,_=>l
def Rd.automaton(R:Rd)(f:Nat->PR Ex)(bd:Nat->PR (List Equ×List Auto))(i:Nat):PR Auto:=
 (R.states f bd R.K.length [] [] i).bind fun x i=>(R.must [[101,110,100]] i).bind fun _ i=>(zef (x.1.map Sta.name) x.2).bind fun jss _=>.ok (.mk (zgd x.1 jss)) i
def Rd.zhe(R:Rd)(f:Nat->PR Ex):Nat->Nat->PR (List Equ×List Auto)
 | 0=>R.body f (fun i=>.er i 5) true (R.K.length+1) [] []
 | b+1=>R.body f (R.automaton f (R.zhe f b)) false (R.K.length+1) [] []
def Rd.claims(R:Rd)(f:Nat->PR Ex):Nat->List Ex->List Ex->Nat->PR (List Ex×List Ex)
 | 0,a,e,i=>.ok (a,e) i
 | m+1,a,e,i=>
   if R.isAt i [97,115,115,117,109,101]=true then(limR a.length 8 i).bind fun _ _=>(f (i+1)).bind fun x j=>(R.must [[59]] j).bind fun _ j=>R.claims f m (a++[x]) e j
   else if R.isAt i [101,110,115,117,114,101]=true then(limR e.length 8 i).bind fun _ _=>(f (i+1)).bind fun x j=>(R.must [[59]] j).bind fun _ j=>R.claims f m a (e++[x]) j
   else .ok (a,e) i
def Rd.ins(R:Rd)(i:Nat):PR (List Decl):=if R.isAt i [41]=true then .ok [] i else R.decls 64 false (R.K.length+1) [] i
def Rd.node(R:Rd)(f:Nat->PR Ex)(i:Nat):PR Nod:=
 (R.id i).bind fun s i=>(R.must [[40]] i).bind fun _ i=>(R.ins i).bind fun a i=>(R.must [[41],[114,101,116,117,114,110,115],[40]] i).bind fun _ i=>
 (R.decls 64 false (R.K.length+1) [] i).bind fun b i=>(R.must [[41]] i).bind fun _ i=>(R.locals i).bind fun c i=>(R.claims f R.K.length [] [] i).bind fun ae i=>(R.must [[108,101,116]] i).bind fun _ i=>
 (R.zhe f 3 i).bind fun qa i=>(R.must [[116,101,108]] i).bind fun _ i=>.ok ⟨s,a,b,c,qa.1,qa.2,ae.1,ae.2⟩ i
def Rd.types(R:Rd):Nat->List En->Nat->PR (List En)
 | 0,es,i=>.ok es i
 | m+1,es,i=>if R.isAt i [116,121,112,101]=true then(limR es.length 24 i).bind fun _ _=>(R.id (i+1)).bind fun s i=>(R.must [[61]] i).bind fun _ i=>(R.names 16 [124] (R.K.length+1) [] i).bind fun l i=>(R.must [[59]] i).bind fun _ i=>R.types m (es++[⟨s,l⟩]) i
   else .ok es i
def Rd.nodes(R:Rd):Nat->List Nod->Nat->PR (List Nod)
 | 0,l,i=>.ok l i
 | m+1,l,i=>if R.isAt i [110,111,100,101]=true then(limR l.length 96 i).bind fun _ _=>(R.node R.expr (i+1)).bind fun x j=>R.nodes m (l++[x]) j else .ok l i
def Rd.program(R:Rd)(i:Nat):PR Prog:=
 (R.types R.K.length [] i).bind fun es i=>(Rd.nodes ⟨R.K,es⟩ R.K.length [] i).bind fun l i=>.ok ⟨es,l⟩ i
section
variable {R:Rd}
theorem zAk{i:Nat}(h:i≤R.K.length):InR R.K.length (i+1) (R.typ i):=by
 unfold Rd.typ;exact zwx
theorem zvE:∀(m:Nat) (l:List OnC) {i:Nat},i≤R.K.length->InR R.K.length i (R.clk m l i)
 | 0,l,i,h=>⟨qag _,h⟩
 | m+1,l,i,h=>by
   unfold Rd.clk;exact InR.ite (fun hs=>(zdK h).bind fun _ _ _ _=>(zfE (zal hs)).bind fun o j h1 h2=>(zvE m _ h2).le oA) fun _=>⟨qag _,h⟩
theorem zrM{i:Nat}(h:i≤R.K.length):InR R.K.length (i+1) (R.decl i):=by
 unfold Rd.decl;exact(zhk h).bind fun _ j h1 h2=>(zaO _ h2).bind fun _ k h3 h4=>(zAk h4).bind fun _ k h5 h6=>(zvE _ _ h6).bind fun _ k h7 h8=>⟨oA,h8⟩
theorem zo9{n most i:Nat}(h:i≤R.K.length):InR R.K.length i (R.zkD n most i):=by
 unfold Rd.zkD;exact InR.ite (fun _=>zdK h) fun _=>⟨qag _,h⟩
theorem zfT{most:Nat}{op:Bool}:∀(m:Nat) (l:List Decl) {i:Nat},i≤R.K.length->InR R.K.length i (R.decls most op m l i)
 | 0,l,i,h=>⟨qag _,h⟩
 | m+1,l,i,h=>by
   unfold Rd.decls;refine(zo9 h).bind fun _ _ _ _=>(zrM h).bind fun d j h1 h2=>InR.ite (fun _=>⟨oA,h2⟩) fun hs=>?_
   have:R.isAt j [59]=true:=by
    cases hq:R.isAt j [59] with
    | true=>rfl
    | false=>exact oI (.inl hq) hs
   exact(zfT m _ (zal this)).le oA
theorem zij{i:Nat}(h:i≤R.K.length):InR R.K.length i (R.locals i):=by
 unfold Rd.locals;exact InR.ite (fun hs=>(zfT _ _ (zal hs)).bind fun l j h1 h2=>(zaO _ h2).bind fun _ k h3 h4=>⟨oA,h4⟩) fun _=>⟨qag _,h⟩
theorem zbG{most:Nat}{sep:Str}:∀(m:Nat) (l:List Str) {i:Nat},i≤R.K.length->InR R.K.length i (R.names most sep m l i)
 | 0,l,i,h=>⟨qag _,h⟩
 | m+1,l,i,h=>by
   unfold Rd.names;exact(zo9 h).bind fun _ _ _ _=>(zhk h).bind fun s j h1 h2=>InR.ite (fun hs=>(zbG m _ (zal hs)).le oA) fun _=>⟨oA,h2⟩
theorem zsq{i:Nat}(h:i≤R.K.length):InR R.K.length (i+1) (R.left i):=by
 unfold Rd.left;exact InR.ite (fun hs=>(zbG _ _ (zal hs)).bind fun l j h1 h2=>(zaO _ h2).bind fun _ k h3 h4=>⟨oA,h4⟩) fun _=>(zhk h).bind fun s j h1 h2=>⟨h1,h2⟩
theorem zh6(hf:∀i,i≤R.K.length->InR R.K.length (i+1) (f i)){i:Nat}(h:i≤R.K.length):InR R.K.length (i+1) (R.equation f i):=by
 unfold Rd.equation;exact(zsq h).bind fun _ j h1 h2=>(zaO _ h2).bind fun _ k h3 h4=>(hf _ h4).bind fun _ k h5 h6=>(zaO _ h6).bind fun _ k h7 h8=>⟨oA,h8⟩
theorem zhT{f:Nat->PR Ex}(hf:∀i,i≤R.K.length->InR R.K.length (i+1) (f i)){au:Nat->PR Auto}(ha:∀i,i≤R.K.length->InR R.K.length i (au i)){deep:Bool}:∀(m:Nat) (q:List Equ) (a:List Auto) {i:Nat},i≤R.K.length->InR R.K.length i (R.body f au deep m q a i)
 | 0,q,a,i,h=>⟨qag _,h⟩
 | m+1,q,a,i,h=>by
   unfold Rd.body
   refine InR.ite (fun hs=>InR.ite (fun _=>⟨h,oB⟩) fun _=>(zdK h).bind fun _ _ _ _=>(ha _ (zal hs)).bind fun x j h1 h2=>(zhT hf ha m _ _ h2).le oA) fun _=>
    InR.ite (fun _=>(zdK h).bind fun _ _ _ _=>(zh6 hf h).bind fun x j h1 h2=>(zhT hf ha m _ _ h2).le oA) fun _=>⟨qag _,h⟩
theorem zzc{i:Nat}(h:i≤R.K.length):InR R.K.length (i+1) (R.how i):=by
 unfold Rd.how;exact InR.ite (fun hs=>⟨qag _,zal hs⟩) fun _=>(zaO _ h).bind fun _ j h1 h2=>⟨h1,h2⟩
theorem zhG{f:Nat->PR Ex}(hf:∀i,i≤R.K.length->InR R.K.length (i+1) (f i)){w:Str}:∀(m:Nat) (l:List Tran) (g:List (Str×Nat)) {i:Nat},i≤R.K.length->InR R.K.length i (R.trans f w m l g i)
 | 0,l,g,i,h=>⟨qag _,h⟩
 | m+1,l,g,i,h=>by
   unfold Rd.trans;exact InR.ite (fun hs=>(zdK h).bind fun _ _ _ _=>(hf _ (zal hs)).bind fun c j h1 h2=>(zzc h2).bind fun b j h3 h4=>(zhk h4).bind fun s j h5 h6=>(zaO _ h6).bind fun _ k h7 h8=>(zhG hf m _ _ h8).le oA) fun _=>⟨qag _,h⟩
theorem zu7(hf:∀i,i≤R.K.length->InR R.K.length (i+1) (f i)){bd:Nat->PR (List Equ×List Auto)}(hb:∀i,i≤R.K.length->InR R.K.length i (bd i)){i:Nat}(h:i≤R.K.length):InR R.K.length (i+1) (R.state f bd i):=by
 unfold Rd.state;exact(zhk h).bind fun _ j h1 h2=>(zij h2).bind fun _ j h3 h4=>(zhG hf _ _ _ h4).bind fun _ j h5 h6=>(zaO _ h6).bind fun _ j h7 h8=>(hb _ h8).bind fun _ j h9 h10=>(zhG hf _ _ _ h10).bind fun _ j h11 h12=>(zaO _ h12).bind fun _ j h13 h14=>⟨oA,h14⟩
theorem zmE{f:Nat->PR Ex}(hf:∀i,i≤R.K.length->InR R.K.length (i+1) (f i)){bd:Nat->PR (List Equ×List Auto)}(hb:∀i,i≤R.K.length->InR R.K.length i (bd i)):∀(m:Nat) (l:List Sta) (g:List (List (Str×Nat))) {i:Nat},i≤R.K.length->InR R.K.length i (R.states f bd m l g i)
 | 0,l,g,i,h=>⟨qag _,h⟩
 | m+1,l,g,i,h=>by
   unfold Rd.states;exact InR.ite (fun hs=>(zdK h).bind fun _ _ _ _=>(zu7 hf hb (zal hs)).bind fun x j h1 h2=>(zmE hf hb m _ _ h2).le oA) fun _=>⟨qag _,h⟩
theorem zh0{f:Nat->PR Ex}(hf:∀i,i≤R.K.length->InR R.K.length (i+1) (f i)):∀(m:Nat) (a e:List Ex) {i:Nat},i≤R.K.length->InR R.K.length i (R.claims f m a e i)
 | 0,a,e,i,h=>⟨qag _,h⟩
 | m+1,a,e,i,h=>by
   unfold Rd.claims
   exact InR.ite (fun hs=>(zdK h).bind fun _ _ _ _=>(hf _ (zal hs)).bind fun x j h1 h2=>(zaO _ h2).bind fun _ j h3 h4=>(zh0 hf m _ _ h4).le oA) fun _=>
    InR.ite (fun hs=>(zdK h).bind fun _ _ _ _=>(hf _ (zal hs)).bind fun x j h1 h2=>(zaO _ h2).bind fun _ j h3 h4=>(zh0 hf m _ _ h4).le oA) fun _=>⟨qag _,h⟩
theorem zvT{i:Nat}(h:i≤R.K.length):InR R.K.length i (R.ins i):=by
 unfold Rd.ins;exact InR.ite (fun _=>⟨qag _,h⟩) fun _=>zfT _ _ h
end
end Go.Proofs.YtdicfgideclbdaaGreatDoor
