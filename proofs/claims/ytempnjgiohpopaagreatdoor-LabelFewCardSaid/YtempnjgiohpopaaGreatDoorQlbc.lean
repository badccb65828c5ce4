/- Texts joined: Lite6 Lite7 LexP DeclP Rep Lite8 Lite9 Lite10. -/
import Derived.Test.YtempnjgiohpopaaGreatDoorQlbb
import Derived.Lib.RuneCount
import Derived.Lib.TrimU
import Derived.RowKit
import Derived.ChangeSame
import Derived.Carry
import Derived.OpenShut
import Derived.Deep.Slices
import Derived.Deep.Fields
import Derived.Lib.LaidTab
import Derived.Laws.OwnMore
set_option linter.all false
section
namespace bn
open Go Go.RowKit
structure Tok{α:Type}(a:α):Type where
def dU(P:Program)(c:eR)(Q:dQ→Fr→World→Prop)(S:Fr)(w:World)(_:Tok (P,c,Q)):Prop:=ei P c Q S w
def iC(P:Program)(bT:List Step)(S:Fr)(w:World)(K:Fr→World→Prop)(_:Tok (P,bT,K)):Prop:=steps P bT S w K
def kA(P:Program)(bT:List Step)(S:Fr)(w:World)(K:Fr→Prop)(_:Tok (P,bT,K)):Prop:=qd P bT S w K
def fb(P:Program)(w0:World)(x:eC)(S:Fr)(w:World)(K:Fr→World→Prop)(_:Tok (P,w0,x,K)):Prop:=mb P w0 x S w K
def vZ(P:Program)(w0:World)(s:Step)(S:Fr)(K:Fr→Prop)(_:Tok (P,w0,s,K)):Prop:=B0 P w0 s S K
def pP(P:Program)(s:Step)(S:Fr)(w:World)(K:Fr→World→Prop)(_:Tok (P,s,K)):Prop:=mB P s S w K
def pH(P:Program)(w0:World)(s:Step)(S:Fr)(w:World)(K:Fr→World→Prop)(_:Tok (P,w0,s,K)):Prop:=y1 P w0 s S w K
def la(P:Program)(i:Ins)(S:Fr)(w:World)(K:Value→World→Prop)(_:Tok (P,i,K)):Prop:=h5 P i S w K
def nH(P:Program)(i:Ins)(S:Fr)(w:World)(K:Value→World→Prop)(_:Tok (P,i,K)):Prop:=rj P i S w K
def uh(P:Program)(i:nG)(S:Fr)(w:World)(K:Value→World→Prop)(_:Tok (P,i,K)):Prop:=KC P i S w K
def ui(P:Program)(x:Value)(l:List Value)(w:World)(K:Value→World→Prop)(_:Tok (P,K)):Prop:=KD P x l w K
def ml(P:Program)(i:Ins)(S:Fr)(w:World)(K:Value→Prop)(_:Tok (P,i,K)):Prop:=kC P i S w K
def ux(P:Program)(i:nG)(S:Fr)(w:World)(K:Value→Prop)(_:Tok (P,i,K)):Prop:=TB P i S w K
def CC(P:Program)(f:FuncId)(l:List Value)(w:World)(K:Value→Prop)(_:Tok (P,f,K)):Prop:=Mg P f l w K
def yT(P:Program)(x:Value)(l:List Value)(w:World)(K:Value→Prop)(_:Tok (P,K)):Prop:=TC P x l w K
def ek(P:Program)(i:sN)(S:Fr)(K:Value→Prop)(_:Tok (P,i,K)):Prop:=mj P i S K
def mm(i:rn)(S:Fr)(w:World)(K:Value→Prop)(_:Tok (i,K)):Prop:=lg i S w K
def hl(P:Program)(i:pr)(S:Fr)(w:World)(K:Value→World→Prop)(_:Tok (P,i,K)):Prop:=k9 P i S w K
def ug(P:Program)(i:nG)(S:Fr)(w:World)(K:Value→World→Prop)(_:Tok (P,i,K)):Prop:=pn P i S w K
def eW(P:Program)(op:BinOp)(t:TypeId)(cz:Operand)(cD:Operand)(x:Value)(y:Value)(K:Value→Prop)(_:Tok (P,op,t,cz,cD,K)):Prop:=lN P op t cz cD x y K
def uG(op:UnOp)(x:Value)(K:Value→Prop)(_:Tok (op,K)):Prop:=wE op x K
def yH(k:IntKind)(x:Value)(K:Value→Prop)(_:Tok (k,K)):Prop:=Cg k x K
def lR(k:IntKind)(n:Int)(K:Value→Prop)(_:Tok (k,K)):Prop:=pC k n K
def iV(v:Value)(A:Prop)(B:Prop)(_:Tok (A,B)):Prop:=kn v A B
def ir(v:Value)(b:Bool)(A:Prop)(B:Prop)(C:Prop)(_:Tok (b,A,B,C)):Prop:=j0 v b A B C
def yJ(off:Nat)(x:Value)(K:Value→Prop)(_:Tok (off,K)):Prop:=Ch off x K
def wq(sz:Nat)(x:Value)(i:Value)(K:Value→Prop)(_:Tok (sz,K)):Prop:=Cm sz x i K
def Cl(len:Nat)(sz:Nat)(x:Value)(i:Value)(K:Value→Prop)(_:Tok (len,sz,K)):Prop:=Fz len sz x i K
def Co(x:Value)(i:Value)(K:Value→Prop)(_:Tok (K)):Prop:=FB x i K
def Cn(len:Nat)(x:Value)(i:Value)(K:Value→Prop)(_:Tok (len,K)):Prop:=FA len x i K
def Cj(off:Nat)(x:Value)(K:Value→Prop)(_:Tok (off,K)):Prop:=Fy off x K
def yK(off:Nat)(n:Nat)(x:Value)(K:Value→Prop)(_:Tok (off,n,K)):Prop:=Ci off n x K
def Cc(S:Fr)(z:List Value)(pl:List (Nat×Nat))(cX:List (Nat×Operand))(K:Value→Prop)(_:Tok (z,pl,cX,K)):Prop:=Ft S z pl cX K
def sS(S:Fr)(sz:Nat)(x:Value)(bk:Option Operand)(ad:Option Operand)(mx:Option Operand)(K:Value→Prop)(_:Tok (sz,bk,ad,mx,K)):Prop:=FL S sz x bk ad mx K
def CF(S:Fr)(x:Value)(bk:Option Operand)(ad:Option Operand)(K:Value→Prop)(_:Tok (bk,ad,K)):Prop:=FK S x bk ad K
def rf(x:Value)(i:Nat)(K:Value→Prop)(_:Tok (i,K)):Prop:=sJ x i K
def yM(x:Value)(K:Value→Prop)(_:Tok (K)):Prop:=Cu x K
def yL(x:Value)(K:Value→Prop)(_:Tok (K)):Prop:=Cs x K
def yF(x:Value)(K:Value→Prop)(_:Tok (K)):Prop:=Cf x K
def yO(x:Value)(y:Value)(K:Value→Prop)(_:Tok (K)):Prop:=Cv x y K
def yP(x:Value)(y:Value)(K:Value→Prop)(_:Tok (K)):Prop:=Cw x y K
def uv(x:Value)(K:Value→Prop)(_:Tok (K)):Prop:=uu x K
def oL(x:Value)(w:World)(K:Value→Prop)(_:Tok (K)):Prop:=Cr x w K
def rk(n:Nat)(x:Value)(w:World)(K:Value→Prop)(_:Tok (n,K)):Prop:=Cq n x w K
def yN(d:TypeDesc)(z:Value)(ok:Bool)(m:Value)(k:Value)(w:World)(K:Value→Prop)(_:Tok (d,z,ok,K)):Prop:=FD d z ok m k w K
def Ct(m:Value)(w:World)(K:Value→Prop)(_:Tok (K)):Prop:=FC m w K
def pz(x:Value)(v:Value)(w:World)(K:World→Prop)(_:Tok (K)):Prop:=uD x v w K
def wD(n:Nat)(x:Value)(v:Value)(w:World)(K:World→Prop)(_:Tok (n,K)):Prop:=wC n x v w K
def wv(e:TypeId)(sz:Nat)(b:Nat)(z:Value)(l:Value)(c:Value)(w:World)(K:Value→World→Prop)(_:Tok (e,sz,b,z,K)):Prop:=FE e sz b z l c w K
def yE(S:Fr)(e:TypeId)(len:Nat)(sz:Nat)(z:List Value)(cX:List (Nat×Operand))(w:World)(K:Value→World→Prop)(_:Tok (e,len,sz,z,cX,K)):Prop:=Cb S e len sz z cX w K
def jZ(P:Program)(t:TypeId)(e:TypeId)(sz:Nat)(b:Nat)(s:Value)(x:Value)(w:World)(K:Value→World→Prop)(_:Tok (P,t,e,sz,b,K)):Prop:=uf P t e sz b s x w K
def wx(d:TypeDesc)(m:Value)(k:Value)(v:Value)(w:World)(K:World→Prop)(_:Tok (d,K)):Prop:=FF d m k v w K
def CA(x:Value)(w:World)(K:Value→World→Prop)(_:Tok (K)):Prop:=FG x w K
def CD(x:Value)(w:World)(K:Value→World→Prop)(_:Tok (K)):Prop:=Mq x w K
def rp(P:Program)(op:Op)(ty:TypeId)(S:Fr)(w:World)(K:Value→World→Prop)(_:Tok (P,op,ty,K)):Prop:=Mp P op ty S w K
def wk(P:Program)(f:FuncId)(l:List Value)(w:World)(K:Value→World→Prop)(_:Tok (P,f,K)):Prop:=Ce P f l w K
def CG(P:Program)(f:FuncId)(l:List Value)(w:World)(K:Value→World→Prop)(Z:List PanicEntry→World→Prop)(_:Tok (P,f,K,Z)):Prop:=uE P f l w K Z
def yS(v:Value)(Z:List PanicEntry→Prop)(_:Tok (Z)):Prop:=rm v Z
def rb(P:Program)(x:Value)(l:List Value)(w:World)(K:Value→World→Prop)(_:Tok (P,K)):Prop:=wj P x l w K
def ur(t:TypeId)(cs:Array Value)(w:World)(K:Value→World→Prop)(_:Tok (t,K)):Prop:=Tw t cs w K
def Cx(w:World)(K:Value→World→Prop)(_:Tok (K)):Prop:=Tv w K
def uq(P:Program)(b:eR)(Q:dQ→Fr→World→Prop)(S:Fr)(w:World)(_:Tok (P,b,Q)):Prop:=LA P b Q S w
def hz(r:List lf)(S:Fr)(w:World)(K:List Value→Prop)(_:Tok (r,K)):Prop:=mS r S w K
def hT(N:Fr→World→Prop)(Q:dQ→Fr→World→Prop)(_:Tok (N,Q)):dQ→Fr→World→Prop:=sC N Q
def nZ(i:Nat)(Q:dQ→Fr→World→Prop)(_:Tok (i,Q)):dQ→Fr→World→Prop:=wX i Q
def rB(r:List lf)(R:Value→World→Prop)(_:Tok (r,R)):dQ→Fr→World→Prop:=zB r R
def te(r:List lf)(R:Value→World→Prop)(Z:List PanicEntry→World→Prop)(_:Tok (r,R,Z)):dQ→Fr→World→Prop:=N2 r R Z
section
variable{P:Program}{Q:dQ→Fr→World→Prop}{N cC:Fr→World→Prop}{gq:Fr→Prop}{ax:Value→Prop}{K:Value→World→Prop}{j1:List Value→Prop}{R:Value→World→Prop}{Z:List PanicEntry→World→Prop}{wG:List PanicEntry→Prop}{S:Fr}{w:World}{A B C:Prop}
set_option linter.unusedVariables false
theorem J8  {t}:dU P .skip Q S w t=Q .normal S w:=propext Iff.rfl
theorem J9  {bT}{t}:dU P (.bL bT) Q S w t=iC P bT S w (fun S w=>Q .normal S w) ⟨⟩:=propext Iff.rfl
theorem Ka  {bT}{t}:dU P (.dz bT) Q S w t=kA P bT S w (fun S => ∀w',Ext w w'→Q .normal S w') ⟨⟩:=propext Iff.rfl
theorem Kb  {x}{t}:dU P (.fs x) Q S w t=(∀ar,Ext w ar→fb P ar x S ar (fun S w=>Q .normal S w) ⟨⟩):=propext Iff.rfl
theorem Kc  {w0}{t}:fb P w0 .done S w cC t=cC S w:=propext Iff.rfl
theorem Kd  {w0}{t}:fb P w0 .nil S w cC t=True:=propext Iff.rfl
theorem Ke  {w0 s r}{t}:fb P w0 (.take s r) S w cC t=vZ P w0 s S (fun S=>fb P w0 r S w cC ⟨⟩) ⟨⟩:=propext Iff.rfl
theorem Kf  {w0 s r}{t}:fb P w0 (.alt s r .nil) S w cC t=pH P w0 s S w (fun S w=>fb P w0 r S w cC ⟨⟩) ⟨⟩:=and_true _
theorem Kg  {w0 s r gU il je}{t}:fb P w0 (.alt s r (.alt gU il je)) S w cC t=(pH P w0 s S w (fun S w=>fb P w0 r S w cC ⟨⟩) ⟨⟩∧fb P w0 (.alt gU il je) S w cC ⟨⟩):=propext Iff.rfl
theorem Kh  {w0 s r gU il je}{t}:fb P w0 (.alt s r (.cg gU il je)) S w cC t=(pH P w0 s S w (fun S w=>fb P w0 r S w cC ⟨⟩) ⟨⟩∧fb P w0 (.cg gU il je) S w cC ⟨⟩):=propext Iff.rfl
theorem Kj  {w0 s r}{t}:fb P w0 (.cg s r .nil) S w cC t=pP P s S w (fun S w=>fb P w0 r S w cC ⟨⟩) ⟨⟩:=and_true _
theorem Kk  {w0 s r gU il je}{t}:fb P w0 (.cg s r (.alt gU il je)) S w cC t=(pP P s S w (fun S w=>fb P w0 r S w cC ⟨⟩) ⟨⟩∧fb P w0 (.alt gU il je) S w cC ⟨⟩):=propext Iff.rfl
theorem Kl  {w0 s r gU il je}{t}:fb P w0 (.cg s r (.cg gU il je)) S w cC t=(pP P s S w (fun S w=>fb P w0 r S w cC ⟨⟩) ⟨⟩∧fb P w0 (.cg gU il je) S w cC ⟨⟩):=propext Iff.rfl
theorem Km  {d i}{t}:pP P ⟨d,none,i⟩ S w cC t=la P i S w (fun v w'=>cC (put S d v) w') ⟨⟩:=propext Iff.rfl
theorem Kn  {d j b i}{t}:pP P ⟨d,some (j,b),i⟩ S w cC t=ir (S j) b (la P i (b8 S j (.bool b)) w (fun v w'=>cC (put (b8 S j (.bool b)) d v) w') ⟨⟩) (cC (put (b8 S j (.bool (!b))) d undef) w) (cC (put S d undef) w) ⟨⟩:=propext Iff.rfl
theorem Ko  {w0 d i}{t}:vZ P w0 ⟨d,none,i⟩ S gq t=ml P i S w0 (fun v=>gq (put S d v)) ⟨⟩:=propext Iff.rfl
theorem Kp  {w0 d j b i}{t}:vZ P w0 ⟨d,some (j,b),i⟩ S gq t=ir (S j) b (ml P i (b8 S j (.bool b)) w0 (fun v=>gq (put (b8 S j (.bool b)) d v)) ⟨⟩) (gq (put (b8 S j (.bool (!b))) d undef)) (gq (put S d undef)) ⟨⟩:=propext Iff.rfl
theorem Kq  {w0 d i}{t}:pH P w0 ⟨d,none,i⟩ S w cC t=la P i S w (fun v w'=>Ext w0 w'∧cC (put S d v) w') ⟨⟩:=propext Iff.rfl
theorem Kr  {w0 d j b i}{t}:pH P w0 ⟨d,some (j,b),i⟩ S w cC t=ir (S j) b (la P i (b8 S j (.bool b)) w (fun v w'=>Ext w0 w'∧cC (put (b8 S j (.bool b)) d v) w') ⟨⟩) (cC (put (b8 S j (.bool (!b))) d undef) w) (cC (put S d undef) w) ⟨⟩:=propext Iff.rfl
theorem bQ  {a b}{t}:dU P (.seq a b) Q S w t=dU P a (hT (fun S w=>dU P b Q S w ⟨⟩) Q ⟨⟩) S w ⟨⟩:=propext Iff.rfl
theorem Ks  {c x y}{t}:dU P (.cond c x y) Q S w t=iV (a7 S c) (dU P x Q S w ⟨⟩) (dU P y Q S w ⟨⟩) ⟨⟩:=propext Iff.rfl
theorem Kt  {id b}{t}:dU P (.aR id b) Q S w t=dU P b (nZ id Q ⟨⟩) S w ⟨⟩:=propext Iff.rfl
theorem Ku  {id}{t}:dU P (.exit id) Q S w t=Q (.exit id) S w:=propext Iff.rfl
theorem Kv  {t}:dU P .ret Q S w t=Q .ret S w:=propext Iff.rfl
theorem Kw  {bT d f l}{t}:dU P (.eK bT d f l) Q S w t=iC P bT S w (fun S w=>CG P f (l.map (a7 S)) w (fun v w'=>Q .normal (put S d v) w') (fun c w'=>Q (.fB c) S w') ⟨⟩) ⟨⟩:=propext Iff.rfl
theorem Kx  {bT x}{t}:dU P (.pa bT x) Q S w t=iC P bT S w (fun S w=>yS (a7 S x) (fun c=>Q (.fB c) S w) ⟨⟩) ⟨⟩:=propext Iff.rfl
theorem Ky  {i:TypeId}{v:Value}{t}:yS (.iface i v) wG t=wG [{ v:=.iface i v,recovered:=false }]:=bn.abY i v wG
theorem Kz  {c}{t}:hT N Q t (.fB c) S w=Q (.fB c) S w:=propext Iff.rfl
theorem KA{i}{c}{t}:nZ i Q t (.fB c) S w=Q (.fB c) S w:=propext Iff.rfl
theorem KB{r}{t}:te r R Z t .normal S w=hz r S w (fun vs=>R (fQ vs) w) ⟨⟩:=propext Iff.rfl
theorem KF{r}{t}:te r R Z t .ret S w=hz r S w (fun vs=>R (fQ vs) w) ⟨⟩:=propext Iff.rfl
theorem KG{r}{c}{t}:te r R Z t (.fB c) S w=Z c w:=propext Iff.rfl
theorem KH  {b}{t}:dU P (.loop b) Q S w t=uq P b Q S w ⟨⟩:=propext Iff.rfl
theorem KI  {t}:hT N Q t .normal S w=N S w:=propext Iff.rfl
theorem KJ  {i}{t}:hT N Q t (.exit i) S w=Q (.exit i) S w:=propext Iff.rfl
theorem KK  {t}:hT N Q t .ret S w=Q .ret S w:=propext Iff.rfl
theorem KL{i}{t}:nZ i Q t .normal S w=Q .normal S w:=propext Iff.rfl
theorem KM{i}{t}:nZ i Q t .ret S w=Q .ret S w:=propext Iff.rfl
theorem KN{i}{j}{t}:nZ i Q t (.exit j) S w=if j=i then Q .normal S w else Q (.exit j) S w:=propext Iff.rfl
theorem KO{r}{t}:rB r R t .normal S w=hz r S w (fun vs=>R (fQ vs) w) ⟨⟩:=propext Iff.rfl
theorem uk{r}{t}:rB r R t .ret S w=hz r S w (fun vs=>R (fQ vs) w) ⟨⟩:=propext Iff.rfl
theorem KR  {t}:iC P [] S w cC t=cC S w:=propext Iff.rfl
theorem cQ  {d i r}{t}:iC P (⟨d,none,i⟩ :: r) S w cC t=nH P i S w (fun v w'=>iC P r (put S d v) w' cC ⟨⟩) ⟨⟩:=propext Iff.rfl
theorem eG  {d j b i r}{t}:iC P (⟨d,some (j,b),i⟩ :: r) S w cC t=ir (S j) b (nH P i (b8 S j (.bool b)) w (fun v w'=>iC P r (put (b8 S j (.bool b)) d v) w' cC ⟨⟩) ⟨⟩) (iC P r (put (b8 S j (.bool (!b))) d undef) w cC ⟨⟩) (iC P r (put S d undef) w cC ⟨⟩) ⟨⟩:=propext Iff.rfl
theorem ej  {t}:kA P [] S w gq t=gq S:=propext Iff.rfl
theorem jE  {d i r}{t}:kA P (⟨d,none,i⟩ :: r) S w gq t=ml P i S w (fun v=>kA P r (put S d v) w gq ⟨⟩) ⟨⟩:=propext Iff.rfl
theorem iq  {d j b i r}{t}:kA P (⟨d,some (j,b),i⟩ :: r) S w gq t=ir (S j) b (ml P i (b8 S j (.bool b)) w (fun v=>kA P r (put (b8 S j (.bool b)) d v) w gq ⟨⟩) ⟨⟩) (kA P r (put (b8 S j (.bool (!b))) d undef) w gq ⟨⟩) (kA P r (put S d undef) w gq ⟨⟩) ⟨⟩:=propext Iff.rfl
theorem iF  {i}{t}:la P (.p i) S w K t=ek P i S (fun v=>K v w) ⟨⟩:=propext Iff.rfl
theorem h4  {i}{t}:la P (.r i) S w K t=mm i S w (fun v=>K v w) ⟨⟩:=propext Iff.rfl
theorem k8  {i}{t}:la P (.e i) S w K t=hl P i S w K ⟨⟩:=propext Iff.rfl
theorem KV  {i}{t}:la P (.c i) S w K t=ug P i S w K ⟨⟩:=propext Iff.rfl
theorem KW  {i}{t}:nH P (.p i) S w K t=ek P i S (fun v=>K v w) ⟨⟩:=propext Iff.rfl
theorem KX  {i}{t}:nH P (.r i) S w K t=mm i S w (fun v=>K v w) ⟨⟩:=propext Iff.rfl
theorem KY  {i}{t}:nH P (.e i) S w K t=hl P i S w K ⟨⟩:=propext Iff.rfl
theorem KZ  {i}{t}:nH P (.c i) S w K t=uh P i S w K ⟨⟩:=propext Iff.rfl
theorem K0  {i}{t}:ml P (.p i) S w ax t=ek P i S ax ⟨⟩:=propext Iff.rfl
theorem K1  {i}{t}:ml P (.r i) S w ax t=mm i S w ax ⟨⟩:=propext Iff.rfl
theorem K2  {i}{t}:ml P (.c i) S w ax t=ux P i S w ax ⟨⟩:=propext Iff.rfl
theorem K3  {f l}{t}:ux P (.fn f l) S w ax t=CC P f (l.map (a7 S)) w ax ⟨⟩:=propext Iff.rfl
theorem K4  {x l}{t}:ux P (.val x l) S w ax t=yT P (a7 S x) (l.map (a7 S)) w ax ⟨⟩:=propext Iff.rfl
theorem K5  {t}:ir (.bool true) true A B C t=A:=bn.WT A B C
theorem H1  {t}:ir (.bool true) false A B C t=B:=bn.WS A B C
theorem K6  {t}:ir (.bool false) true A B C t=B:=bn.WR A B C
theorem K7  {t}:ir (.bool false) false A B C t=A:=bn.WQ A B C
theorem K8  (u:Bool){t}:ir undef u A B C t=C:=bn.WU u A B C
theorem K9  (u:Bool){t}:ir (.bool u) true A B C t=iV (.bool u) A B ⟨⟩:=(bn.Ow u true A B C).trans (by rfl)
theorem La  (u:Bool){t}:ir (.bool u) false A B C t=iV (.bool u) B A ⟨⟩:=(bn.Ow u false A B C).trans (by rfl)
theorem Lb  {t}:iV (.bool true) A B t=A:=UP A B
theorem Lc  {t}:iV (.bool false) A B t=B:=UN A B
theorem Ld  (u:Bool){t}:iV (.bool (!u)) A B t=iV (.bool u) B A ⟨⟩:=UO u A B
theorem Le  {x}{t}:ek P (.ox x) S ax t=ax (a7 S x):=propext Iff.rfl
theorem Lf  {c x y}{t}:ek P (.pick c x y) S ax t=iV (a7 S c) (ax (a7 S x)) (ax (a7 S y)) ⟨⟩:=propext Iff.rfl
theorem Lg  {op ty x y}{t}:ek P (.bin op ty x y) S ax t=eW P op ty x y (a7 S x) (a7 S y) ax ⟨⟩:=propext Iff.rfl
theorem Lh  {op x}{t}:ek P (.un op x) S ax t=uG op (a7 S x) ax ⟨⟩:=propext Iff.rfl
theorem Li  {k x}{t}:ek P (.qv k x) S ax t=yH k (a7 S x) ax ⟨⟩:=propext Iff.rfl
theorem Lj  {n x}{t}:ek P (.jq n x) S ax t=yJ n (a7 S x) ax ⟨⟩:=propext Iff.rfl
theorem Lk  {n x y}{t}:ek P (.gQ n x y) S ax t=wq n (a7 S x) (a7 S y) ax ⟨⟩:=propext Iff.rfl
theorem Ll  {m n x y}{t}:ek P (.xH m n x y) S ax t=Cl m n (a7 S x) (a7 S y) ax ⟨⟩:=propext Iff.rfl
theorem Lm  {x y}{t}:ek P (.ke x y) S ax t=Co (a7 S x) (a7 S y) ax ⟨⟩:=propext Iff.rfl
theorem Ln  {n x y}{t}:ek P (.tJ n x y) S ax t=Cn n (a7 S x) (a7 S y) ax ⟨⟩:=propext Iff.rfl
theorem Lo  {n x}{t}:ek P (.kI n x) S ax t=Cj n (a7 S x) ax ⟨⟩:=propext Iff.rfl
theorem Lp  {n m x}{t}:ek P (.zI n m x) S ax t=yK n m (a7 S x) ax ⟨⟩:=propext Iff.rfl
theorem Lq  {z pl cX}{t}:ek P (.cJ z pl cX) S ax t=Cc S z pl cX ax ⟨⟩:=propext Iff.rfl
theorem Lr  {f a b}{t}:ek P (.jw f a b) S ax t=ax (.func (.func f) (a.map (a7 S)).toArray (b.map (a7 S)).toArray):=propext Iff.rfl
theorem Ls  {n x bk ad mx}{t}:ek P (.gV n x bk ad mx) S ax t=sS S n (a7 S x) bk ad mx ax ⟨⟩:=propext Iff.rfl
theorem Lt  {x bk ad}{t}:ek P (.ub x bk ad) S ax t=CF S (a7 S x) bk ad ax ⟨⟩:=propext Iff.rfl
theorem Lu  {x n}{t}:ek P (.ext x n) S ax t=rf (a7 S x) n ax ⟨⟩:=propext Iff.rfl
theorem Lv  {x}{t}:ek P (.lF x) S ax t=yM (a7 S x) ax ⟨⟩:=propext Iff.rfl
theorem Lw  {x}{t}:ek P (.xP x) S ax t=yL (a7 S x) ax ⟨⟩:=propext Iff.rfl
theorem Lx  {x}{t}:ek P (.ze x) S ax t=yF (a7 S x) ax ⟨⟩:=propext Iff.rfl
theorem LB  {v}{t}:ek P (.AI v) S ax t=ax v:=propext Iff.rfl
theorem LC  {x y}{t}:ek P (.qW x y) S ax t=yO (a7 S x) (a7 S y) ax ⟨⟩:=propext Iff.rfl
theorem M2  {x y}{t}:ek P (.sg x y) S ax t=yP (a7 S x) (a7 S y) ax ⟨⟩:=propext Iff.rfl
theorem LD  {n x}{t}:ek P (.x1 n x) S ax t=ax (.iface n (a7 S x)):=propext Iff.rfl
theorem LF  {x}{t}:ek P (.x4 x) S ax t=uv (a7 S x) ax ⟨⟩:=propext Iff.rfl
theorem LG  {x}{t}:mm (.ld x) S w ax t=oL (a7 S x) w ax ⟨⟩:=propext Iff.rfl
theorem LH  {n x}{t}:mm (.jd n x) S w ax t=rk n (a7 S x) w ax ⟨⟩:=propext Iff.rfl
theorem LI  {d z ok m k}{t}:mm (.l7 d z ok m k) S w ax t=yN d z ok (a7 S m) (a7 S k) w ax ⟨⟩:=propext Iff.rfl
theorem LJ  {x}{t}:mm (.vz x) S w ax t=Ct (a7 S x) w ax ⟨⟩:=propext Iff.rfl
theorem LK  {n x}{t}:hl P (.box n x) S w K t=ur n (a7 S x).cells w K ⟨⟩:=propext Iff.rfl
theorem LL  {n z}{t}:hl P (.new n z) S w K t=ur n z.cells w K ⟨⟩:=propext Iff.rfl
theorem LM  {x v}{t}:hl P (.st x v) S w K t=pz (a7 S x) (a7 S v) w (K undef) ⟨⟩:=propext Iff.rfl
theorem LN  {n x v}{t}:hl P (.ph n x v) S w K t=wD n (a7 S x) (a7 S v) w (K undef) ⟨⟩:=propext Iff.rfl
theorem LO  {t}:hl P .sh S w K t=Cx w K ⟨⟩:=propext Iff.rfl
theorem LP  {e n b z l c}{t}:hl P (.o7 e n b z l c) S w K t=wv e n b z (a7 S l) (a7 S c) w K ⟨⟩:=propext Iff.rfl
theorem LQ  {e l n z cX}{t}:hl P (.cU e l n z cX) S w K t=yE S e l n z cX w K ⟨⟩:=propext Iff.rfl
theorem LR  {ty e n b s x}{t}:hl P (.app ty e n b s x) S w K t=jZ P ty e n b (a7 S s) (a7 S x) w K ⟨⟩:=propext Iff.rfl
theorem LS  {d m k v}{t}:hl P (.iA d m k v) S w K t=wx d (a7 S m) (a7 S k) (a7 S v) w (K undef) ⟨⟩:=propext Iff.rfl
theorem LU  {x}{t}:hl P (.tX x) S w K t=CD (a7 S x) w K ⟨⟩:=propext Iff.rfl
theorem LV  {x}{t}:hl P (.tS x) S w K t=CA (a7 S x) w K ⟨⟩:=propext Iff.rfl
theorem LW  {op ty}{t}:hl P (.raw op ty) S w K t=rp P op ty S w K ⟨⟩:=propext Iff.rfl
theorem LX  {f l}{t}:ug P (.fn f l) S w K t=wk P f (l.map (a7 S)) w K ⟨⟩:=propext Iff.rfl
theorem LY  {x l}{t}:ug P (.val x l) S w K t=rb P (a7 S x) (l.map (a7 S)) w K ⟨⟩:=propext Iff.rfl
theorem LZ  {f l}{t}:uh P (.fn f l) S w K t=wk P f (l.map (a7 S)) w K ⟨⟩:=propext Iff.rfl
theorem L0  {x l}{t}:uh P (.val x l) S w K t=ui P (a7 S x) (l.map (a7 S)) w K ⟨⟩:=propext Iff.rfl
theorem L1  {ty cz cD}(k:IntKind)(a b:Int){t}:eW P .lss ty cz cD (.int k a) (.int k b) ax t=ax (.bool (decide (a<b))):=Ur k a b
theorem L2  {ty cz cD}(k:IntKind)(a b:Int){t}:eW P .leq ty cz cD (.int k a) (.int k b) ax t=ax (.bool (decide (a≤b))):=Uq k a b
theorem L3  {ty cz cD}(k:IntKind)(a b:Int){t}:eW P .gtr ty cz cD (.int k a) (.int k b) ax t=ax (.bool (decide (b<a))):=Up k a b
theorem L4  {ty cz cD}(k:IntKind)(a b:Int){t}:eW P .geq ty cz cD (.int k a) (.int k b) ax t=ax (.bool (decide (b≤a))):=Uo k a b
theorem L5  {ty cz cD}(k:IntKind)(a b:Int){t}:eW P .eql ty cz cD (.int k a) (.int k b) ax t=ax (.bool (decide (a=b))):=Un k a b
theorem L6  {ty cz cD}(k:IntKind)(a b:Int){t}:eW P .neq ty cz cD (.int k a) (.int k b) ax t=ax (.bool (!decide (a=b))):=(Ut k a b).trans (by simp)
theorem L7  {ty cz cD}(k:IntKind)(a b:Int){t}:eW P .add ty cz cD (.int k a) (.int k b) ax t=lR k (a+b) ax ⟨⟩:=Um k a b
theorem L8  {ty cz cD}(k:IntKind)(a b:Int){t}:eW P .sub ty cz cD (.int k a) (.int k b) ax t=lR k (a - b) ax ⟨⟩:=Uy k a b
theorem L9  {ty cz cD}(k:IntKind)(a b:Int){t}:eW P .mul ty cz cD (.int k a) (.int k b) ax t=lR k (a*b) ax ⟨⟩:=Us k a b
theorem Ma  {ty cz cD}(a b:ByteArray){t}:eW P .eql ty cz cD (.string a) (.string b) ax t=ax (.bool (decide (a=b))):=Uw a b
theorem Mb  {ty cz cD}(a b:ByteArray){t}:eW P .neq ty cz cD (.string a) (.string b) ax t=ax (.bool (!decide (a=b))):=(Ux a b).trans (by simp)
theorem Mc  (b:Bool){t}:uG .not (.bool b) ax t=ax (.bool (!b)):=propext Iff.rfl
theorem Md  (k:IntKind)(n:Int){t}:uG .neg (.int k n) ax t=lR k (0 - n) ax ⟨⟩:=propext Iff.rfl
theorem Me  (k q:IntKind)(n:Int){t}:yH k (.int q n) ax t=lR k n ax ⟨⟩:=Vo k q n ax
theorem Mf  (n:Nat)(a:Addr){t}:yJ n (.pointer (some a)) ax t=ax (.pointer (some (a.add n))):=WA n a ax
theorem Mh  (v:Value)(vs:List Value){t}:rf (.tuple (v :: vs).toArray) 0 ax t=ax v:=Wk v vs ax
theorem yV  (v u:Value)(vs:List Value){t}:rf (.tuple (v :: u :: vs).toArray) 1 ax t=ax u:=Wl v u vs ax
theorem yW  (v u x:Value)(vs:List Value){t}:rf (.tuple (v :: u :: x :: vs).toArray) 2 ax t=ax x:=Wm v u x vs ax
theorem Mi  (s:ByteArray){t}:yM (.string s) ax t=ax (.int .i64 s.size):=aaD s ax
theorem Mj  (a:Option Addr)(n c:Nat){t}:yL (.slice a n c) ax t=ax (.int .i64 n):=aaB a n c ax
theorem Mk  (a:Option Addr)(n c:Nat){t}:yF (.slice a n c) ax t=ax (.int .i64 c):=UH a n c ax
theorem Ml  (k q:IntKind)(a b:Int){t}:yO (.int k a) (.int q b) ax t=ax (.int k (max a b)):=aaT k q a b ax
theorem Mm  (k q:IntKind)(a b:Int){t}:yP (.int k a) (.int q b) ax t=ax (.int k (min a b)):=aaX k q a b ax
theorem Mn  (m n:Nat)(cs:Array Value){t}:yK m n (.agg cs) ax t=ax (.agg (cs.extract m (m+n))):=WK m n cs ax
theorem Mo  (a:Addr){t}:uv (.pointer (some a)) ax t=ax (.pointer (some a)):=propext Iff.rfl
theorem Ms  (f:FuncId)(a b:Array Value){t}:uv (.func (.func f) a b) ax t=ax (.func (.func f) a b):=propext Iff.rfl
theorem Mt  {t}:hz [] S w j1 t=j1 []:=propext Iff.rfl
theorem Mu  {n r}{t}:hz (.tmp n :: r) S w j1 t=hz r S w (fun vs=>j1 (S n :: vs)) ⟨⟩:=propext Iff.rfl
theorem Mv  {n r}{t}:hz (.cell n :: r) S w j1 t=oL (S n) w (fun v=>hz r S w (fun vs=>j1 (v :: vs)) ⟨⟩) ⟨⟩:=propext Iff.rfl
theorem Mw  {m n r}{t}:hz (.iH m n :: r) S w j1 t=rk m (S n) w (fun v=>hz r S w (fun vs=>j1 (v :: vs)) ⟨⟩) ⟨⟩:=propext Iff.rfl
theorem Mx{S:Fr}{d:Nat}{v:Value}:put S (some d) v=b8 S d v:=eq_of_heq (heq_of_eq (hc S d v))
theorem My{S:Fr}{v:Value}:put S none v=S:=eq_of_heq (heq_of_eq (RD S v))
theorem Mz{S:Fr}{d t:Nat}{v:Value}:b8 S d v t=if t=d then v else S t:=eq_of_heq (heq_of_eq (ca S d t v))
theorem MA{S:Fr}{t:Nat}:a7 S (.tmp t)=S t:=eq_of_heq (heq_of_eq (eS S t))
theorem MB{S:Fr}{v:Value}:a7 S (.const v)=v:=eq_of_heq (heq_of_eq (mA S v))
theorem MC{S:Fr}{g:Nat}:a7 S (.global g) = .pointer (some ⟨g,0,none⟩):=eq_of_heq (heq_of_eq (V5 S g))
theorem MD{S:Fr}{f:Nat}:a7 S (.func f) = .func (.func f) #[] #[]:=eq_of_heq (heq_of_eq (rC S f))
theorem ME{k:Nat}:gY [] k=fun _=>undef:=eq_of_heq (heq_of_eq (kJ k))
theorem MF{v:Value}{vs:List Value}{k:Nat}:gY (v :: vs) k=b8 (gY vs (k+1)) k v:=eq_of_heq (heq_of_eq (ie v vs k))
theorem MG  : fQ [] = .tuple #[]:=eq_of_heq (heq_of_eq (aen ..))
theorem MH  (v:Value):fQ [v]=v:=eq_of_heq (heq_of_eq (aeo ..))
theorem MI  (v u:Value):fQ [v,u] = .tuple #[v,u]:=eq_of_heq (heq_of_eq (aep ..))
theorem MJ  (v u x:Value):fQ [v,u,x] = .tuple #[v,u,x]:=eq_of_heq (heq_of_eq (aeq ..))
theorem MK  (a:Option Addr)(n c:Nat):(Value.slice a n c).cells=#[.slice a n c]:=eq_of_heq (heq_of_eq (U2 ..))
theorem ML  (k:IntKind)(n:Int):(Value.int k n).cells=#[.int k n]:=eq_of_heq (heq_of_eq (UX ..))
theorem MM  (b:Bool):(Value.bool b).cells=#[.bool b]:=eq_of_heq (heq_of_eq (UT ..))
theorem MN  (s:ByteArray):(Value.string s).cells=#[.string s]:=eq_of_heq (heq_of_eq (U3 ..))
theorem MO  (a:Option Addr):(Value.pointer a).cells=#[.pointer a]:=eq_of_heq (heq_of_eq (U1 ..))
theorem MP  (a:Option Nat):(Value.map a).cells=#[.map a]:=eq_of_heq (heq_of_eq (UY ..))
theorem MQ  (f:Fn)(a b:Array Value):(Value.func f a b).cells=#[.func f a b]:=eq_of_heq (heq_of_eq (UW ..))
theorem MR  (cs:Array Value):(Value.agg cs).cells=cs:=eq_of_heq (heq_of_eq (US ..))
theorem MS{α β:Type}{f:α→β}{a:α}{l:List α}:(a :: l).map f=f a :: l.map f:=eq_of_heq (heq_of_eq (List.map_cons))
theorem MT{α β:Type}{f:α→β}:([]:List α).map f=[]:=eq_of_heq (heq_of_eq (List.map_nil))
theorem MU  : (!true)=false:=eq_of_heq (heq_of_eq (Bool.not_true))
theorem MV  : (!false)=true:=eq_of_heq (heq_of_eq (Bool.not_false))
theorem MW{h:Decidable True}:decide True=true:=eq_of_heq (heq_of_eq (decide_true h))
theorem jk{h:Decidable False}:decide False=false:=eq_of_heq (heq_of_eq (decide_false h))
theorem fU{α:Type}{a b:α}{h:Decidable True}:(if True then a else b)=a:=eq_of_heq (heq_of_eq (if_true a b))
theorem nf{α:Type}{a b:α}{h:Decidable False}:(if False then a else b)=b:=eq_of_heq (heq_of_eq (if_false a b))
end
theorem bU:((((((((∀{P:Program} {Q:dQ→Fr→World→Prop} {S:Fr} {w:World}  {t},dU P .skip Q S w t=Q .normal S w) ∧
(∀{P:Program} {Q:dQ→Fr→World→Prop} {S:Fr} {w:World}  {bT} {t},dU P (.bL bT) Q S w t=iC P bT S w (fun S w=>Q .normal S w) ⟨⟩)) ∧
((∀{P:Program} {Q:dQ→Fr→World→Prop} {S:Fr} {w:World}  {bT} {t},dU P (.dz bT) Q S w t=kA P bT S w (fun S => ∀w',Ext w w'→Q .normal S w') ⟨⟩) ∧
((∀{P:Program} {Q:dQ→Fr→World→Prop} {S:Fr} {w:World}  {x} {t},dU P (.fs x) Q S w t=(∀ar,Ext w ar→fb P ar x S ar (fun S w=>Q .normal S w) ⟨⟩)) ∧
(∀{P:Program} {cC:Fr→World→Prop} {S:Fr} {w:World}  {w0} {t},fb P w0 .done S w cC t=cC S w)))) ∧
(((∀{P:Program} {cC:Fr→World→Prop} {S:Fr} {w:World}  {w0} {t},fb P w0 .nil S w cC t=True) ∧
(∀{P:Program} {cC:Fr→World→Prop} {S:Fr} {w:World}  {w0 s r} {t},fb P w0 (.take s r) S w cC t=vZ P w0 s S (fun S=>fb P w0 r S w cC ⟨⟩) ⟨⟩)) ∧
((∀{P:Program} {cC:Fr→World→Prop} {S:Fr} {w:World}  {w0 s r} {t},fb P w0 (.alt s r .nil) S w cC t=pH P w0 s S w (fun S w=>fb P w0 r S w cC ⟨⟩) ⟨⟩) ∧
((∀{P:Program} {cC:Fr→World→Prop} {S:Fr} {w:World}  {w0 s r gU il je} {t},fb P w0 (.alt s r (.alt gU il je)) S w cC t=(pH P w0 s S w (fun S w=>fb P w0 r S w cC ⟨⟩) ⟨⟩∧fb P w0 (.alt gU il je) S w cC ⟨⟩)) ∧
(∀{P:Program} {cC:Fr→World→Prop} {S:Fr} {w:World}  {w0 s r gU il je} {t},fb P w0 (.alt s r (.cg gU il je)) S w cC t=(pH P w0 s S w (fun S w=>fb P w0 r S w cC ⟨⟩) ⟨⟩∧fb P w0 (.cg gU il je) S w cC ⟨⟩)))))) ∧
((((∀{P:Program} {cC:Fr→World→Prop} {S:Fr} {w:World}  {w0 s r} {t},fb P w0 (.cg s r .nil) S w cC t=pP P s S w (fun S w=>fb P w0 r S w cC ⟨⟩) ⟨⟩) ∧
(∀{P:Program} {cC:Fr→World→Prop} {S:Fr} {w:World}  {w0 s r gU il je} {t},fb P w0 (.cg s r (.alt gU il je)) S w cC t=(pP P s S w (fun S w=>fb P w0 r S w cC ⟨⟩) ⟨⟩∧fb P w0 (.alt gU il je) S w cC ⟨⟩))) ∧
((∀{P:Program} {cC:Fr→World→Prop} {S:Fr} {w:World}  {w0 s r gU il je} {t},fb P w0 (.cg s r (.cg gU il je)) S w cC t=(pP P s S w (fun S w=>fb P w0 r S w cC ⟨⟩) ⟨⟩∧fb P w0 (.cg gU il je) S w cC ⟨⟩)) ∧
((∀{P:Program} {cC:Fr→World→Prop} {S:Fr} {w:World}  {d i} {t},pP P ⟨d,none,i⟩ S w cC t=la P i S w (fun v w'=>cC (put S d v) w') ⟨⟩) ∧
(∀{P:Program} {cC:Fr→World→Prop} {S:Fr} {w:World}  {d j b i} {t},pP P ⟨d,some (j,b),i⟩ S w cC t=ir (S j) b (la P i (b8 S j (.bool b)) w (fun v w'=>cC (put (b8 S j (.bool b)) d v) w') ⟨⟩) (cC (put (b8 S j (.bool (!b))) d undef) w) (cC (put S d undef) w) ⟨⟩)))) ∧
(((∀{P:Program} {gq:Fr→Prop} {S:Fr}  {w0 d i} {t},vZ P w0 ⟨d,none,i⟩ S gq t=ml P i S w0 (fun v=>gq (put S d v)) ⟨⟩) ∧
((∀{P:Program} {gq:Fr→Prop} {S:Fr}  {w0 d j b i} {t},vZ P w0 ⟨d,some (j,b),i⟩ S gq t=ir (S j) b (ml P i (b8 S j (.bool b)) w0 (fun v=>gq (put (b8 S j (.bool b)) d v)) ⟨⟩) (gq (put (b8 S j (.bool (!b))) d undef)) (gq (put S d undef)) ⟨⟩) ∧
(∀{P:Program} {cC:Fr→World→Prop} {S:Fr} {w:World}  {w0 d i} {t},pH P w0 ⟨d,none,i⟩ S w cC t=la P i S w (fun v w'=>Ext w0 w'∧cC (put S d v) w') ⟨⟩))) ∧
((∀{P:Program} {cC:Fr→World→Prop} {S:Fr} {w:World}  {w0 d j b i} {t},pH P w0 ⟨d,some (j,b),i⟩ S w cC t=ir (S j) b (la P i (b8 S j (.bool b)) w (fun v w'=>Ext w0 w'∧cC (put (b8 S j (.bool b)) d v) w') ⟨⟩) (cC (put (b8 S j (.bool (!b))) d undef) w) (cC (put S d undef) w) ⟨⟩) ∧
((∀{P:Program} {Q:dQ→Fr→World→Prop} {S:Fr} {w:World}  {c x y} {t},dU P (.cond c x y) Q S w t=iV (a7 S c) (dU P x Q S w ⟨⟩) (dU P y Q S w ⟨⟩) ⟨⟩) ∧
(∀{P:Program} {Q:dQ→Fr→World→Prop} {S:Fr} {w:World}  {id b} {t},dU P (.aR id b) Q S w t=dU P b (nZ id Q ⟨⟩) S w ⟨⟩)))))) ∧
(((((∀{P:Program} {Q:dQ→Fr→World→Prop} {S:Fr} {w:World}  {id} {t},dU P (.exit id) Q S w t=Q (.exit id) S w) ∧
(∀{P:Program} {Q:dQ→Fr→World→Prop} {S:Fr} {w:World}  {t},dU P .ret Q S w t=Q .ret S w)) ∧
((∀{P:Program} {Q:dQ→Fr→World→Prop} {S:Fr} {w:World}  {bT d f l} {t},dU P (.eK bT d f l) Q S w t=iC P bT S w (fun S w=>CG P f (l.map (a7 S)) w (fun v w'=>Q .normal (put S d v) w') (fun c w'=>Q (.fB c) S w') ⟨⟩) ⟨⟩) ∧
((∀{P:Program} {Q:dQ→Fr→World→Prop} {S:Fr} {w:World}  {bT x} {t},dU P (.pa bT x) Q S w t=iC P bT S w (fun S w=>yS (a7 S x) (fun c=>Q (.fB c) S w) ⟨⟩) ⟨⟩) ∧
(∀{wG:List PanicEntry→Prop}  {i:TypeId} {v:Value} {t},yS (.iface i v) wG t=wG [{ v:=.iface i v,recovered:=false }])))) ∧
(((∀{Q:dQ→Fr→World→Prop} {N:Fr→World→Prop} {S:Fr} {w:World}  {c} {t},hT N Q t (.fB c) S w=Q (.fB c) S w) ∧
((∀{Q:dQ→Fr→World→Prop} {S:Fr} {w:World} {i} {c} {t},nZ i Q t (.fB c) S w=Q (.fB c) S w) ∧
(∀{Z:List PanicEntry→World→Prop} {R:Value→World→Prop} {S:Fr} {w:World} {r} {t},te r R Z t .normal S w=hz r S w (fun vs=>R (fQ vs) w) ⟨⟩))) ∧
((∀{Z:List PanicEntry→World→Prop} {R:Value→World→Prop} {S:Fr} {w:World} {r} {t},te r R Z t .ret S w=hz r S w (fun vs=>R (fQ vs) w) ⟨⟩) ∧
((∀{Z:List PanicEntry→World→Prop} {R:Value→World→Prop} {S:Fr} {w:World} {r} {c} {t},te r R Z t (.fB c) S w=Z c w) ∧
(∀{P:Program} {Q:dQ→Fr→World→Prop} {S:Fr} {w:World}  {b} {t},dU P (.loop b) Q S w t=uq P b Q S w ⟨⟩))))) ∧
((((∀{Q:dQ→Fr→World→Prop} {N:Fr→World→Prop} {S:Fr} {w:World}  {t},hT N Q t .normal S w=N S w) ∧
(∀{Q:dQ→Fr→World→Prop} {N:Fr→World→Prop} {S:Fr} {w:World}  {i} {t},hT N Q t (.exit i) S w=Q (.exit i) S w)) ∧
((∀{Q:dQ→Fr→World→Prop} {N:Fr→World→Prop} {S:Fr} {w:World}  {t},hT N Q t .ret S w=Q .ret S w) ∧
((∀{Q:dQ→Fr→World→Prop} {S:Fr} {w:World} {i} {t},nZ i Q t .normal S w=Q .normal S w) ∧
(∀{Q:dQ→Fr→World→Prop} {S:Fr} {w:World} {i} {t},nZ i Q t .ret S w=Q .ret S w)))) ∧
(((∀{Q:dQ→Fr→World→Prop} {S:Fr} {w:World} {i} {j} {t},nZ i Q t (.exit j) S w=if j=i then Q .normal S w else Q (.exit j) S w) ∧
((∀{R:Value→World→Prop} {S:Fr} {w:World} {r} {t},rB r R t .normal S w=hz r S w (fun vs=>R (fQ vs) w) ⟨⟩) ∧
(∀{R:Value→World→Prop} {S:Fr} {w:World} {r} {t},rB r R t .ret S w=hz r S w (fun vs=>R (fQ vs) w) ⟨⟩))) ∧
((∀{P:Program} {cC:Fr→World→Prop} {S:Fr} {w:World}  {t},iC P [] S w cC t=cC S w) ∧
((∀{P:Program} {cC:Fr→World→Prop} {S:Fr} {w:World}  {d i r} {t},iC P (⟨d,none,i⟩ :: r) S w cC t=nH P i S w (fun v w'=>iC P r (put S d v) w' cC ⟨⟩) ⟨⟩) ∧
(∀{P:Program} {cC:Fr→World→Prop} {S:Fr} {w:World}  {d j b i r} {t},iC P (⟨d,some (j,b),i⟩ :: r) S w cC t=ir (S j) b (nH P i (b8 S j (.bool b)) w (fun v w'=>iC P r (put (b8 S j (.bool b)) d v) w' cC ⟨⟩) ⟨⟩) (iC P r (put (b8 S j (.bool (!b))) d undef) w cC ⟨⟩) (iC P r (put S d undef) w cC ⟨⟩) ⟨⟩))))))) ∧
((((((∀{P:Program} {gq:Fr→Prop} {S:Fr} {w:World}  {t},kA P [] S w gq t=gq S) ∧
(∀{P:Program} {gq:Fr→Prop} {S:Fr} {w:World}  {d i r} {t},kA P (⟨d,none,i⟩ :: r) S w gq t=ml P i S w (fun v=>kA P r (put S d v) w gq ⟨⟩) ⟨⟩)) ∧
((∀{P:Program} {gq:Fr→Prop} {S:Fr} {w:World}  {d j b i r} {t},kA P (⟨d,some (j,b),i⟩ :: r) S w gq t=ir (S j) b (ml P i (b8 S j (.bool b)) w (fun v=>kA P r (put (b8 S j (.bool b)) d v) w gq ⟨⟩) ⟨⟩) (kA P r (put (b8 S j (.bool (!b))) d undef) w gq ⟨⟩) (kA P r (put S d undef) w gq ⟨⟩) ⟨⟩) ∧
((∀{P:Program} {K:Value→World→Prop} {S:Fr} {w:World}  {i} {t},la P (.p i) S w K t=ek P i S (fun v=>K v w) ⟨⟩) ∧
(∀{P:Program} {K:Value→World→Prop} {S:Fr} {w:World}  {i} {t},la P (.r i) S w K t=mm i S w (fun v=>K v w) ⟨⟩)))) ∧
(((∀{P:Program} {K:Value→World→Prop} {S:Fr} {w:World}  {i} {t},la P (.e i) S w K t=hl P i S w K ⟨⟩) ∧
(∀{P:Program} {K:Value→World→Prop} {S:Fr} {w:World}  {i} {t},la P (.c i) S w K t=ug P i S w K ⟨⟩)) ∧
((∀{P:Program} {K:Value→World→Prop} {S:Fr} {w:World}  {i} {t},nH P (.p i) S w K t=ek P i S (fun v=>K v w) ⟨⟩) ∧
((∀{P:Program} {K:Value→World→Prop} {S:Fr} {w:World}  {i} {t},nH P (.r i) S w K t=mm i S w (fun v=>K v w) ⟨⟩) ∧
(∀{P:Program} {K:Value→World→Prop} {S:Fr} {w:World}  {i} {t},nH P (.e i) S w K t=hl P i S w K ⟨⟩))))) ∧
((((∀{P:Program} {K:Value→World→Prop} {S:Fr} {w:World}  {i} {t},nH P (.c i) S w K t=uh P i S w K ⟨⟩) ∧
(∀{P:Program} {ax:Value→Prop} {S:Fr} {w:World}  {i} {t},ml P (.p i) S w ax t=ek P i S ax ⟨⟩)) ∧
((∀{P:Program} {ax:Value→Prop} {S:Fr} {w:World}  {i} {t},ml P (.r i) S w ax t=mm i S w ax ⟨⟩) ∧
((∀{P:Program} {ax:Value→Prop} {S:Fr} {w:World}  {i} {t},ml P (.c i) S w ax t=ux P i S w ax ⟨⟩) ∧
(∀{P:Program} {ax:Value→Prop} {S:Fr} {w:World}  {f l} {t},ux P (.fn f l) S w ax t=CC P f (l.map (a7 S)) w ax ⟨⟩)))) ∧
(((∀{P:Program} {ax:Value→Prop} {S:Fr} {w:World}  {x l} {t},ux P (.val x l) S w ax t=yT P (a7 S x) (l.map (a7 S)) w ax ⟨⟩) ∧
((∀{A:Prop} {B:Prop} {C:Prop}  {t},ir (.bool true) true A B C t=A) ∧
(∀{A:Prop} {B:Prop} {C:Prop}  {t},ir (.bool true) false A B C t=B))) ∧
((∀{A:Prop} {B:Prop} {C:Prop}  {t},ir (.bool false) true A B C t=B) ∧
((∀{A:Prop} {B:Prop} {C:Prop}  {t},ir (.bool false) false A B C t=A) ∧
(∀{A:Prop} {B:Prop} {C:Prop}  (u:Bool) {t},ir undef u A B C t=C)))))) ∧
(((((∀{A:Prop} {B:Prop} {C:Prop}  (u:Bool) {t},ir (.bool u) true A B C t=iV (.bool u) A B ⟨⟩) ∧
(∀{A:Prop} {B:Prop} {C:Prop}  (u:Bool) {t},ir (.bool u) false A B C t=iV (.bool u) B A ⟨⟩)) ∧
((∀{A:Prop} {B:Prop}  {t},iV (.bool true) A B t=A) ∧
((∀{A:Prop} {B:Prop}  {t},iV (.bool false) A B t=B) ∧
(∀{A:Prop} {B:Prop}  (u:Bool) {t},iV (.bool (!u)) A B t=iV (.bool u) B A ⟨⟩)))) ∧
(((∀{P:Program} {ax:Value→Prop} {S:Fr}  {x} {t},ek P (.ox x) S ax t=ax (a7 S x)) ∧
((∀{P:Program} {ax:Value→Prop} {S:Fr}  {c x y} {t},ek P (.pick c x y) S ax t=iV (a7 S c) (ax (a7 S x)) (ax (a7 S y)) ⟨⟩) ∧
(∀{P:Program} {ax:Value→Prop} {S:Fr}  {op ty x y} {t},ek P (.bin op ty x y) S ax t=eW P op ty x y (a7 S x) (a7 S y) ax ⟨⟩))) ∧
((∀{P:Program} {ax:Value→Prop} {S:Fr}  {op x} {t},ek P (.un op x) S ax t=uG op (a7 S x) ax ⟨⟩) ∧
((∀{P:Program} {ax:Value→Prop} {S:Fr}  {k x} {t},ek P (.qv k x) S ax t=yH k (a7 S x) ax ⟨⟩) ∧
(∀{P:Program} {ax:Value→Prop} {S:Fr}  {n x} {t},ek P (.jq n x) S ax t=yJ n (a7 S x) ax ⟨⟩))))) ∧
((((∀{P:Program} {ax:Value→Prop} {S:Fr}  {n x y} {t},ek P (.gQ n x y) S ax t=wq n (a7 S x) (a7 S y) ax ⟨⟩) ∧
(∀{P:Program} {ax:Value→Prop} {S:Fr}  {m n x y} {t},ek P (.xH m n x y) S ax t=Cl m n (a7 S x) (a7 S y) ax ⟨⟩)) ∧
((∀{P:Program} {ax:Value→Prop} {S:Fr}  {x y} {t},ek P (.ke x y) S ax t=Co (a7 S x) (a7 S y) ax ⟨⟩) ∧
((∀{P:Program} {ax:Value→Prop} {S:Fr}  {n x y} {t},ek P (.tJ n x y) S ax t=Cn n (a7 S x) (a7 S y) ax ⟨⟩) ∧
(∀{P:Program} {ax:Value→Prop} {S:Fr}  {n x} {t},ek P (.kI n x) S ax t=Cj n (a7 S x) ax ⟨⟩)))) ∧
(((∀{P:Program} {ax:Value→Prop} {S:Fr}  {n m x} {t},ek P (.zI n m x) S ax t=yK n m (a7 S x) ax ⟨⟩) ∧
((∀{P:Program} {ax:Value→Prop} {S:Fr}  {z pl cX} {t},ek P (.cJ z pl cX) S ax t=Cc S z pl cX ax ⟨⟩) ∧
(∀{P:Program} {ax:Value→Prop} {S:Fr}  {f a b} {t},ek P (.jw f a b) S ax t=ax (.func (.func f) (a.map (a7 S)).toArray (b.map (a7 S)).toArray)))) ∧
((∀{P:Program} {ax:Value→Prop} {S:Fr}  {n x bk ad mx} {t},ek P (.gV n x bk ad mx) S ax t=sS S n (a7 S x) bk ad mx ax ⟨⟩) ∧
((∀{P:Program} {ax:Value→Prop} {S:Fr}  {x bk ad} {t},ek P (.ub x bk ad) S ax t=CF S (a7 S x) bk ad ax ⟨⟩) ∧
(∀{P:Program} {ax:Value→Prop} {S:Fr}  {x n} {t},ek P (.ext x n) S ax t=rf (a7 S x) n ax ⟨⟩)))))))) ∧
(((((((∀{P:Program} {ax:Value→Prop} {S:Fr}  {x} {t},ek P (.lF x) S ax t=yM (a7 S x) ax ⟨⟩) ∧
(∀{P:Program} {ax:Value→Prop} {S:Fr}  {x} {t},ek P (.xP x) S ax t=yL (a7 S x) ax ⟨⟩)) ∧
((∀{P:Program} {ax:Value→Prop} {S:Fr}  {x} {t},ek P (.ze x) S ax t=yF (a7 S x) ax ⟨⟩) ∧
((∀{P:Program} {ax:Value→Prop} {S:Fr}  {v} {t},ek P (.AI v) S ax t=ax v) ∧
(∀{P:Program} {ax:Value→Prop} {S:Fr}  {x y} {t},ek P (.qW x y) S ax t=yO (a7 S x) (a7 S y) ax ⟨⟩)))) ∧
(((∀{P:Program} {ax:Value→Prop} {S:Fr}  {x y} {t},ek P (.sg x y) S ax t=yP (a7 S x) (a7 S y) ax ⟨⟩) ∧
(∀{P:Program} {ax:Value→Prop} {S:Fr}  {n x} {t},ek P (.x1 n x) S ax t=ax (.iface n (a7 S x)))) ∧
((∀{P:Program} {ax:Value→Prop} {S:Fr}  {x} {t},ek P (.x4 x) S ax t=uv (a7 S x) ax ⟨⟩) ∧
((∀{ax:Value→Prop} {S:Fr} {w:World}  {x} {t},mm (.ld x) S w ax t=oL (a7 S x) w ax ⟨⟩) ∧
(∀{ax:Value→Prop} {S:Fr} {w:World}  {n x} {t},mm (.jd n x) S w ax t=rk n (a7 S x) w ax ⟨⟩))))) ∧
((((∀{ax:Value→Prop} {S:Fr} {w:World}  {d z ok m k} {t},mm (.l7 d z ok m k) S w ax t=yN d z ok (a7 S m) (a7 S k) w ax ⟨⟩) ∧
(∀{ax:Value→Prop} {S:Fr} {w:World}  {x} {t},mm (.vz x) S w ax t=Ct (a7 S x) w ax ⟨⟩)) ∧
((∀{P:Program} {K:Value→World→Prop} {S:Fr} {w:World}  {n x} {t},hl P (.box n x) S w K t=ur n (a7 S x).cells w K ⟨⟩) ∧
((∀{P:Program} {K:Value→World→Prop} {S:Fr} {w:World}  {n z} {t},hl P (.new n z) S w K t=ur n z.cells w K ⟨⟩) ∧
(∀{P:Program} {K:Value→World→Prop} {S:Fr} {w:World}  {x v} {t},hl P (.st x v) S w K t=pz (a7 S x) (a7 S v) w (K undef) ⟨⟩)))) ∧
(((∀{P:Program} {K:Value→World→Prop} {S:Fr} {w:World}  {n x v} {t},hl P (.ph n x v) S w K t=wD n (a7 S x) (a7 S v) w (K undef) ⟨⟩) ∧
((∀{P:Program} {K:Value→World→Prop} {S:Fr} {w:World}  {t},hl P .sh S w K t=Cx w K ⟨⟩) ∧
(∀{P:Program} {K:Value→World→Prop} {S:Fr} {w:World}  {e n b z l c} {t},hl P (.o7 e n b z l c) S w K t=wv e n b z (a7 S l) (a7 S c) w K ⟨⟩))) ∧
((∀{P:Program} {K:Value→World→Prop} {S:Fr} {w:World}  {e l n z cX} {t},hl P (.cU e l n z cX) S w K t=yE S e l n z cX w K ⟨⟩) ∧
((∀{P:Program} {K:Value→World→Prop} {S:Fr} {w:World}  {ty e n b s x} {t},hl P (.app ty e n b s x) S w K t=jZ P ty e n b (a7 S s) (a7 S x) w K ⟨⟩) ∧
(∀{P:Program} {K:Value→World→Prop} {S:Fr} {w:World}  {d m k v} {t},hl P (.iA d m k v) S w K t=wx d (a7 S m) (a7 S k) (a7 S v) w (K undef) ⟨⟩)))))) ∧
(((((∀{P:Program} {K:Value→World→Prop} {S:Fr} {w:World}  {x} {t},hl P (.tX x) S w K t=CD (a7 S x) w K ⟨⟩) ∧
(∀{P:Program} {K:Value→World→Prop} {S:Fr} {w:World}  {x} {t},hl P (.tS x) S w K t=CA (a7 S x) w K ⟨⟩)) ∧
((∀{P:Program} {K:Value→World→Prop} {S:Fr} {w:World}  {op ty} {t},hl P (.raw op ty) S w K t=rp P op ty S w K ⟨⟩) ∧
((∀{P:Program} {K:Value→World→Prop} {S:Fr} {w:World}  {f l} {t},ug P (.fn f l) S w K t=wk P f (l.map (a7 S)) w K ⟨⟩) ∧
(∀{P:Program} {K:Value→World→Prop} {S:Fr} {w:World}  {x l} {t},ug P (.val x l) S w K t=rb P (a7 S x) (l.map (a7 S)) w K ⟨⟩)))) ∧
(((∀{P:Program} {K:Value→World→Prop} {S:Fr} {w:World}  {f l} {t},uh P (.fn f l) S w K t=wk P f (l.map (a7 S)) w K ⟨⟩) ∧
((∀{P:Program} {K:Value→World→Prop} {S:Fr} {w:World}  {x l} {t},uh P (.val x l) S w K t=ui P (a7 S x) (l.map (a7 S)) w K ⟨⟩) ∧
(∀{P:Program} {ax:Value→Prop}  {ty cz cD} (k:IntKind) (a b:Int) {t},eW P .lss ty cz cD (.int k a) (.int k b) ax t=ax (.bool (decide (a<b)))))) ∧
((∀{P:Program} {ax:Value→Prop}  {ty cz cD} (k:IntKind) (a b:Int) {t},eW P .leq ty cz cD (.int k a) (.int k b) ax t=ax (.bool (decide (a≤b)))) ∧
((∀{P:Program} {ax:Value→Prop}  {ty cz cD} (k:IntKind) (a b:Int) {t},eW P .gtr ty cz cD (.int k a) (.int k b) ax t=ax (.bool (decide (b<a)))) ∧
(∀{P:Program} {ax:Value→Prop}  {ty cz cD} (k:IntKind) (a b:Int) {t},eW P .geq ty cz cD (.int k a) (.int k b) ax t=ax (.bool (decide (b≤a)))))))) ∧
((((∀{P:Program} {ax:Value→Prop}  {ty cz cD} (k:IntKind) (a b:Int) {t},eW P .eql ty cz cD (.int k a) (.int k b) ax t=ax (.bool (decide (a=b)))) ∧
(∀{P:Program} {ax:Value→Prop}  {ty cz cD} (k:IntKind) (a b:Int) {t},eW P .neq ty cz cD (.int k a) (.int k b) ax t=ax (.bool (!decide (a=b))))) ∧
((∀{P:Program} {ax:Value→Prop}  {ty cz cD} (k:IntKind) (a b:Int) {t},eW P .add ty cz cD (.int k a) (.int k b) ax t=lR k (a+b) ax ⟨⟩) ∧
((∀{P:Program} {ax:Value→Prop}  {ty cz cD} (k:IntKind) (a b:Int) {t},eW P .sub ty cz cD (.int k a) (.int k b) ax t=lR k (a - b) ax ⟨⟩) ∧
(∀{P:Program} {ax:Value→Prop}  {ty cz cD} (k:IntKind) (a b:Int) {t},eW P .mul ty cz cD (.int k a) (.int k b) ax t=lR k (a*b) ax ⟨⟩)))) ∧
(((∀{P:Program} {ax:Value→Prop}  {ty cz cD} (a b:ByteArray) {t},eW P .eql ty cz cD (.string a) (.string b) ax t=ax (.bool (decide (a=b)))) ∧
((∀{P:Program} {ax:Value→Prop}  {ty cz cD} (a b:ByteArray) {t},eW P .neq ty cz cD (.string a) (.string b) ax t=ax (.bool (!decide (a=b)))) ∧
(∀{ax:Value→Prop}  (b:Bool) {t},uG .not (.bool b) ax t=ax (.bool (!b))))) ∧
((∀{ax:Value→Prop}  (k:IntKind) (n:Int) {t},uG .neg (.int k n) ax t=lR k (0 - n) ax ⟨⟩) ∧
((∀{ax:Value→Prop}  (k q:IntKind) (n:Int) {t},yH k (.int q n) ax t=lR k n ax ⟨⟩) ∧
(∀{ax:Value→Prop}  (n:Nat) (a:Addr) {t},yJ n (.pointer (some a)) ax t=ax (.pointer (some (a.add n)))))))))) ∧
((((((∀{ax:Value→Prop}  (v:Value) (vs:List Value) {t},rf (.tuple (v :: vs).toArray) 0 ax t=ax v) ∧
(∀{ax:Value→Prop}  (v u:Value) (vs:List Value) {t},rf (.tuple (v :: u :: vs).toArray) 1 ax t=ax u)) ∧
((∀{ax:Value→Prop}  (v u x:Value) (vs:List Value) {t},rf (.tuple (v :: u :: x :: vs).toArray) 2 ax t=ax x) ∧
((∀{ax:Value→Prop}  (s:ByteArray) {t},yM (.string s) ax t=ax (.int .i64 s.size)) ∧
(∀{ax:Value→Prop}  (a:Option Addr) (n c:Nat) {t},yL (.slice a n c) ax t=ax (.int .i64 n))))) ∧
(((∀{ax:Value→Prop}  (a:Option Addr) (n c:Nat) {t},yF (.slice a n c) ax t=ax (.int .i64 c)) ∧
((∀{ax:Value→Prop}  (k q:IntKind) (a b:Int) {t},yO (.int k a) (.int q b) ax t=ax (.int k (max a b))) ∧
(∀{ax:Value→Prop}  (k q:IntKind) (a b:Int) {t},yP (.int k a) (.int q b) ax t=ax (.int k (min a b))))) ∧
((∀{ax:Value→Prop}  (m n:Nat) (cs:Array Value) {t},yK m n (.agg cs) ax t=ax (.agg (cs.extract m (m+n)))) ∧
((∀{ax:Value→Prop}  (a:Addr) {t},uv (.pointer (some a)) ax t=ax (.pointer (some a))) ∧
(∀{ax:Value→Prop}  (f:FuncId) (a b:Array Value) {t},uv (.func (.func f) a b) ax t=ax (.func (.func f) a b)))))) ∧
((((∀{j1:List Value→Prop} {S:Fr} {w:World}  {t},hz [] S w j1 t=j1 []) ∧
(∀{j1:List Value→Prop} {S:Fr} {w:World}  {n r} {t},hz (.tmp n :: r) S w j1 t=hz r S w (fun vs=>j1 (S n :: vs)) ⟨⟩)) ∧
((∀{j1:List Value→Prop} {S:Fr} {w:World}  {n r} {t},hz (.cell n :: r) S w j1 t=oL (S n) w (fun v=>hz r S w (fun vs=>j1 (v :: vs)) ⟨⟩) ⟨⟩) ∧
((∀{j1:List Value→Prop} {S:Fr} {w:World}  {m n r} {t},hz (.iH m n :: r) S w j1 t=rk m (S n) w (fun v=>hz r S w (fun vs=>j1 (v :: vs)) ⟨⟩) ⟨⟩) ∧
(∀{S:Fr} {d:Nat} {v:Value},put S (some d) v=b8 S d v)))) ∧
(((∀{S:Fr} {v:Value},put S none v=S) ∧
((∀{S:Fr} {d t:Nat} {v:Value},b8 S d v t=if t=d then v else S t) ∧
(∀{S:Fr} {t:Nat},a7 S (.tmp t)=S t))) ∧
((∀{S:Fr} {v:Value},a7 S (.const v)=v) ∧
((∀{S:Fr} {g:Nat},a7 S (.global g) = .pointer (some ⟨g,0,none⟩)) ∧
(∀{S:Fr} {f:Nat},a7 S (.func f) = .func (.func f) #[] #[])))))) ∧
(((((∀{k:Nat},gY [] k=fun _=>undef) ∧
(∀{v:Value} {vs:List Value} {k:Nat},gY (v :: vs) k=b8 (gY vs (k+1)) k v)) ∧
((fQ [] = .tuple #[]) ∧
((∀(v:Value),fQ [v]=v) ∧
(∀(v u:Value),fQ [v,u] = .tuple #[v,u])))) ∧
(((∀(v u x:Value),fQ [v,u,x] = .tuple #[v,u,x]) ∧
((∀(a:Option Addr) (n c:Nat),(Value.slice a n c).cells=#[.slice a n c]) ∧
(∀(k:IntKind) (n:Int),(Value.int k n).cells=#[.int k n]))) ∧
((∀(b:Bool),(Value.bool b).cells=#[.bool b]) ∧
((∀(s:ByteArray),(Value.string s).cells=#[.string s]) ∧
(∀(a:Option Addr),(Value.pointer a).cells=#[.pointer a]))))) ∧
((((∀(a:Option Nat),(Value.map a).cells=#[.map a]) ∧
(∀(f:Fn) (a b:Array Value),(Value.func f a b).cells=#[.func f a b])) ∧
((∀(cs:Array Value),(Value.agg cs).cells=cs) ∧
((∀{α β:Type} {f:α→β} {a:α} {l:List α},(a :: l).map f=f a :: l.map f) ∧
(∀{α β:Type} {f:α→β},([]:List α).map f=[])))) ∧
((((!true)=false) ∧
(((!false)=true) ∧
(∀{h:Decidable True},decide True=true))) ∧
((∀{h:Decidable False},decide False=false) ∧
((∀{α:Type} {a b:α} {h:Decidable True},(if True then a else b)=a) ∧
(∀{α:Type} {a b:α} {h:Decidable False},(if False then a else b)=b))))))))) :=
 ⟨⟨⟨⟨⟨⟨⟨(by intros;apply J8),(by intros;apply J9)⟩,⟨(by intros;apply Ka),⟨(by intros;apply Kb),(by intros;apply Kc)⟩⟩⟩,⟨⟨(by intros;apply Kd),(by intros;apply Ke)⟩,⟨(by intros;apply Kf),⟨(by intros;apply Kg),(by intros;apply Kh)⟩⟩⟩⟩,⟨⟨⟨(by intros;apply Kj),(by intros;apply Kk)⟩,⟨(by intros;apply Kl),⟨(by intros;apply Km),(by intros;apply Kn)⟩⟩⟩,⟨⟨(by intros;apply Ko),⟨(by intros;apply Kp),(by intros;apply Kq)⟩⟩,⟨(by intros;apply Kr),⟨(by intros;apply Ks),(by intros;apply Kt)⟩⟩⟩⟩⟩,⟨⟨⟨⟨(by intros;apply Ku),(by intros;apply Kv)⟩,⟨(by intros;apply Kw),⟨(by intros;apply Kx),(by intros;apply Ky)⟩⟩⟩,⟨⟨(by intros;apply Kz),⟨(by intros;apply KA),(by intros;apply KB)⟩⟩,⟨(by intros;apply KF),⟨(by intros;apply KG),(by intros;apply KH)⟩⟩⟩⟩,⟨⟨⟨(by intros;apply KI),(by intros;apply KJ)⟩,⟨(by intros;apply KK),⟨(by intros;apply KL),(by intros;apply KM)⟩⟩⟩,⟨⟨(by intros;apply KN),⟨(by intros;apply KO),(by intros;apply uk)⟩⟩,⟨(by intros;apply KR),⟨(by intros;apply cQ),(by intros;apply eG)⟩⟩⟩⟩⟩⟩,⟨⟨⟨⟨⟨(by intros;apply ej),(by intros;apply jE)⟩,⟨(by intros;apply iq),⟨(by intros;apply iF),(by intros;apply h4)⟩⟩⟩,⟨⟨(by intros;apply k8),(by intros;apply KV)⟩,⟨(by intros;apply KW),⟨(by intros;apply KX),(by intros;apply KY)⟩⟩⟩⟩,⟨⟨⟨(by intros;apply KZ),(by intros;apply K0)⟩,⟨(by intros;apply K1),⟨(by intros;apply K2),(by intros;apply K3)⟩⟩⟩,⟨⟨(by intros;apply K4),⟨(by intros;apply K5),(by intros;apply H1)⟩⟩,⟨(by intros;apply K6),⟨(by intros;apply K7),(by intros;apply K8)⟩⟩⟩⟩⟩,⟨⟨⟨⟨(by intros;apply K9),(by intros;apply La)⟩,⟨(by intros;apply Lb),⟨(by intros;apply Lc),(by intros;apply Ld)⟩⟩⟩,⟨⟨(by intros;apply Le),⟨(by intros;apply Lf),(by intros;apply Lg)⟩⟩,⟨(by intros;apply Lh),⟨(by intros;apply Li),(by intros;apply Lj)⟩⟩⟩⟩,⟨⟨⟨(by intros;apply Lk),(by intros;apply Ll)⟩,⟨(by intros;apply Lm),⟨(by intros;apply Ln),(by intros;apply Lo)⟩⟩⟩,⟨⟨(by intros;apply Lp),⟨(by intros;apply Lq),(by intros;apply Lr)⟩⟩,⟨(by intros;apply Ls),⟨(by intros;apply Lt),(by intros;apply Lu)⟩⟩⟩⟩⟩⟩⟩,⟨⟨⟨⟨⟨⟨(by intros;apply Lv),(by intros;apply Lw)⟩,⟨(by intros;apply Lx),⟨(by intros;apply LB),(by intros;apply LC)⟩⟩⟩,⟨⟨(by intros;apply M2),(by intros;apply LD)⟩,⟨(by intros;apply LF),⟨(by intros;apply LG),(by intros;apply LH)⟩⟩⟩⟩,⟨⟨⟨(by intros;apply LI),(by intros;apply LJ)⟩,⟨(by intros;apply LK),⟨(by intros;apply LL),(by intros;apply LM)⟩⟩⟩,⟨⟨(by intros;apply LN),⟨(by intros;apply LO),(by intros;apply LP)⟩⟩,⟨(by intros;apply LQ),⟨(by intros;apply LR),(by intros;apply LS)⟩⟩⟩⟩⟩,⟨⟨⟨⟨(by intros;apply LU),(by intros;apply LV)⟩,⟨(by intros;apply LW),⟨(by intros;apply LX),(by intros;apply LY)⟩⟩⟩,⟨⟨(by intros;apply LZ),⟨(by intros;apply L0),(by intros;apply L1)⟩⟩,⟨(by intros;apply L2),⟨(by intros;apply L3),(by intros;apply L4)⟩⟩⟩⟩,⟨⟨⟨(by intros;apply L5),(by intros;apply L6)⟩,⟨(by intros;apply L7),⟨(by intros;apply L8),(by intros;apply L9)⟩⟩⟩,⟨⟨(by intros;apply Ma),⟨(by intros;apply Mb),(by intros;apply Mc)⟩⟩,⟨(by intros;apply Md),⟨(by intros;apply Me),(by intros;apply Mf)⟩⟩⟩⟩⟩⟩,⟨⟨⟨⟨⟨(by intros;apply Mh),(by intros;apply yV)⟩,⟨(by intros;apply yW),⟨(by intros;apply Mi),(by intros;apply Mj)⟩⟩⟩,⟨⟨(by intros;apply Mk),⟨(by intros;apply Ml),(by intros;apply Mm)⟩⟩,⟨(by intros;apply Mn),⟨(by intros;apply Mo),(by intros;apply Ms)⟩⟩⟩⟩,⟨⟨⟨(by intros;apply Mt),(by intros;apply Mu)⟩,⟨(by intros;apply Mv),⟨(by intros;apply Mw),(by intros;apply Mx)⟩⟩⟩,⟨⟨(by intros;apply My),⟨(by intros;apply Mz),(by intros;apply MA)⟩⟩,⟨(by intros;apply MB),⟨(by intros;apply MC),(by intros;apply MD)⟩⟩⟩⟩⟩,⟨⟨⟨⟨(by intros;apply ME),(by intros;apply MF)⟩,⟨(by intros;apply MG),⟨(by intros;apply MH),(by intros;apply MI)⟩⟩⟩,⟨⟨(by intros;apply MJ),⟨(by intros;apply MK),(by intros;apply ML)⟩⟩,⟨(by intros;apply MM),⟨(by intros;apply MN),(by intros;apply MO)⟩⟩⟩⟩,⟨⟨⟨(by intros;apply MP),(by intros;apply MQ)⟩,⟨(by intros;apply MR),⟨(by intros;apply MS),(by intros;apply MT)⟩⟩⟩,⟨⟨(by intros;apply MU),⟨(by intros;apply MV),(by intros;apply MW)⟩⟩,⟨(by intros;apply jk),⟨(by intros;apply fU),(by intros;apply nf)⟩⟩⟩⟩⟩⟩⟩⟩
section
variable{P:Program}{Q:dQ→Fr→World→Prop}{ax:Value→Prop}{K:Value→World→Prop}{gr:World→Prop}{S:Fr}{w:World}{A B:Prop}
theorem K.cond{p:Prop}[Decidable p]{t}(h1:p→A)(U:¬p→B):iV (.bool (decide p)) A B t:=UM h1 U
theorem K.c3{u:Bool}{t}(h1:u=true→A)(U:u=false→B):iV (.bool u) A B t:=UL h1 U
theorem K.wrap{n:Int}{t}(h : -9223372036854775808≤n∧n≤9223372036854775807)(hk:ax (.int .i64 n)):lR .i64 n ax t:=wrap_i64 h hk
theorem K.Fe{k:IntKind}{n:Int}{t}(h:ax (.int k (k.wrap n))):lR k n ax t:=Te h
theorem K.Tf{k:IntKind}{n:Int}{t}(h:k.wrap n=n)(hk:ax (.int k n)):lR k n ax t:=Te (by rw[h];exact hk)
theorem K.quo{ty:TypeId}{cz cD:Operand}{k:IntKind}{a b:Int}{t}(aA:b≠0)(h:lR k (a.tdiv b) ax ⟨⟩):eW P .quo ty cz cD (.int k a) (.int k b) ax t:=Uu aA h
theorem K.rem{ty:TypeId}{cz cD:Operand}{k:IntKind}{a b:Int}{t}(aA:b≠0)(h:ax (.int k (a.tmod b))):eW P .rem ty cz cD (.int k a) (.int k b) ax t:=Uv aA h
theorem K.bin{op:BinOp}{ty:TypeId}{cz cD:Operand}{x y v:Value}{t}(h:∀w,(do eqGuard op ty cz cD x y;binOp op ty x y:Sem Value).run P w = .ok v w)(hk:ax v):eW P op ty cz cD x y ax t:=⟨v,h,hk⟩
theorem K.gQ{sz:Nat}{a:Addr}{len cap:Nat}{k:IntKind}{n:Int}{t}(h:0≤n∧n<len)(hk:ax (.pointer (some (a.add (n.toNat*sz))))):wq sz (.slice (some a) len cap) (.int k n) ax t:=ZT h hk
theorem K.du{sz:Nat}{a:Addr}{len cap:Nat}{k:IntKind}{n:Int}{t}(i:Nat)(ad:n=i)(h:i<len)(hk:ax (.pointer (some (a.add (i*sz))))):wq sz (.slice (some a) len cap) (.int k n) ax t:=ZS i ad h hk
theorem K.xH{sz:Nat}{a:Addr}{len:Nat}{k:IntKind}{n:Int}{t}(h:0≤n∧n<len)(hk:ax (.pointer (some (a.add (n.toNat*sz))))):Cl len sz (.pointer (some a)) (.int k n) ax t:=ZR h hk
theorem K.ke{s:ByteArray}{k:IntKind}{n:Int}{t}(c:UInt8)(ak:0≤n)(h:s[n.toNat]? = some c)(hk:ax (.int .u8 c.toNat)):Co (.string s) (.int k n) ax t:=Z2 c ak h hk
theorem K.tJ{len:Nat}{cs:Array Value}{k:IntKind}{n:Int}{t}(v:Value)(ak:0≤n∧n<len)(h:cs[n.toNat]? = some v)(hk:ax v):Cn len (.agg cs) (.int k n) ax t:=Z1 v ak h hk
theorem K.kI{off:Nat}{cs:Array Value}{v:Value}{t}(h:cs[off]? = some v)(hk:ax v):Cj off (.agg cs) ax t:=WL h hk
theorem K.cJ{z cs:List Value}{pl:List (Nat×Nat)}{cX:List (Nat×Operand)}{t}(h:ep S pl cX z=some cs)(hk:ax (.agg cs.toArray)):Cc S z pl cX ax t:=UB h hk
theorem K.gV{sz:Nat}{a:Option Addr}{len cap:Nat}{bk ad mx:Option Operand}{t}(l h m:Nat)(h1:e7 S bk 0=some l)(U:e7 S ad len=some h)(ai:e7 S mx cap=some m)
  (aL:l≤h∧h≤m∧m≤cap)(bt:mx.isSome=true→ad.isSome=true)(hk:ax (.slice (if m=l then a else a.map (·.add (l*sz))) (h - l) (m - l))):sS S sz (.slice a len cap) bk ad mx ax t:=adK l h m h1 U ai aL bt hk
theorem K.ub{s:ByteArray}{bk ad:Option Operand}{t}(l h:Nat)(h1:e7 S bk 0=some l)(U:e7 S ad s.size=some h)(aL:l≤h∧h≤s.size)(hk:ax (.string (s.extract l h))):CF S (.string s) bk ad ax t:=adJ l h h1 U aL hk
theorem K.ld{a:Addr}{c:Value}{t}(h:w.cell? a=some c)(hk:ax c):oL (.pointer (some a)) w ax t:=aaw h hk
theorem K.jd{n:Nat}{a:Addr}{cs:List Value}{t}(h:e2 w a cs)(aM:cs.length=n)(hk:ax (.agg cs.toArray)):rk n (.pointer (some a)) w ax t:=aav h aM hk
theorem K.l7{d:TypeDesc}{z:Value}{ok:Bool}{m k:Value}{es:Array MapEntry}{r:Option (Nat×Value)}{t}(h1:pv w m es)(U:Instr.findNow d k es.toList 0=some r)(hk:ax (lG z ok r)):yN d z ok m k w ax t:=aaJ h1 U hk
theorem K.vz{m:Value}{es:Array MapEntry}{t}(h:pv w m es)(hk:ax (.int .i64 es.size)):Ct m w ax t:=aaC h hk
theorem K.st{a:Addr}{v jx:Value}{t}(h:w.cell? a=some jx)(aI:w.frozen? a=false)(aS:v.oneCell'=true)(hk:gr (w.setCell a v)):pz (.pointer (some a)) v w gr t:=SB h aI aS hk
theorem K.ph{n:Nat}{a:Addr}{cs:Array Value}{t}(aM:cs.size=n)(h:∀j,j<n→(∃jx,w.cell? (a.add j)=some jx)∧w.frozen? (a.add j)=false)(h1:∀c∈cs.toList,c.oneCell'=true)(hk:gr (jB w a cs.toList 0)):wD n (.pointer (some a)) (.agg cs) w gr t:=JB aM h h1 hk
theorem K.o7{e:TypeId}{sz bytes:Nat}{z:Value}{k q:IntKind}{n m:Int}{t}(h:0≤n∧n≤m∧m≤9223372036854775807∧bytes*m≤281474976710656)(hk:K (.slice (some ⟨w.heap.size,0,none⟩) n.toNat m.toNat) (w.alloc (.cells (oI z.cells (m.toNat*sz)) e))) :
  wv e sz bytes z (.int k n) (.int q m) w K t:=aaY h hk
theorem K.cU{e:TypeId}{len sz:Nat}{z cs:List Value}{cX:List (Nat×Operand)}{t}(h:ep S ((List.range len).map fun i=>(i*sz,sz)) cX z=some cs)(hk:K (.slice (some ⟨w.heap.size,0,none⟩) len len) (w.alloc (.cells cs.toArray e))):yE S e len sz z cX w K t:=y9 h hk
theorem K.app{ty e:TypeId}{sz b:Nat}{s x:Value}{t}(h:Mr P ty e sz b→∃u b7 w',(Builtin.append_ #[ty,ty] u #[s,x]).run P w = .ok b7 w'∧K b7 w'):jZ P ty e sz b s x w K t:=h
theorem K.iA{d:TypeDesc}{r:Nat}{k v:Value}{es:Array MapEntry}{c:Nat}{q:Option (Nat×Value)}{t}(h1:w.heap[r]? = some (.map es c))(U:Instr.findNow d k es.toList 0=some q)(hk:gr (fk w r (p7 es c k v q))):wx d (.map (some r)) k v w gr t:=aa2 h1 U hk
theorem K.tS{r pos:Nat}{s:ByteArray}{t}(h:w.heap[r]? = some (.stringIter s pos))(h1:pos<s.size→K (.tuple #[.bool true,.int .i64 pos,.int .i32 (Utf8.decode s pos).1]) (fk w r (.stringIter s (pos+(Utf8.decode s pos).2))))
  (U:¬pos<s.size→K (.tuple #[.bool false]) w):CA (.pointer (some ⟨r,0,none⟩)) w K t:=abn h h1 U
theorem K.raw{op:Op}{ty:TypeId}{v:Value}{w':World}{t}(h:(execOp (a7 S) ⟨none,op,ty, "",#[],none⟩).run P w = .ok (.value v) w')(hk:K v w'):rp P op ty S w K t:=⟨v,w',.inl h,hk⟩
theorem K.call{f:FuncId}{args:List Value}{R:Value→World→Prop}{t}(h:bw P f args.toArray w R)(hk:∀v w',R v w'→K v w'):wk P f args w K t:=UG h hk
theorem K.eK{f:FuncId}{args:List Value}{R:Value→World→Prop}{Z pD:List PanicEntry→World→Prop}{t}(h:oN P f args.toArray w R Z)(hk:∀v w',R v w'→K v w')(bK:∀c w',Z c w'→pD c w'):CG P f args w K pD t:=oN.mono h hk bK
theorem K.BV{f:FuncId}{L:lP}(hm:P.follows .mixedOrders=true)(ay:ks P f=some L){args:List Value}{R:Value→World→Prop}{Z:List PanicEntry→World→Prop}(bD:args.length≤L.n)(h:dU P L.code (te L.res R Z ⟨⟩) (gY args 0) w ⟨⟩):oN P f args.toArray w R Z:=VZ hm ay bD h
theorem K.ln{f:FuncId}{first cap:List Value}{args:List Value}{R:Value→World→Prop}{t}(aI:okF P f=true)(h:bw P f (first++args++cap).toArray w R)(hk:∀v w',R v w'→K v w'):ui P (.func (.func f) first.toArray cap.toArray) args w K t:=Or.inl (F8 aI h hk)
theorem K.CR{f:FuncId}{first cap:List Value}{args:List Value}{R:Value→World→Prop}{t}(aI:okF P f=true)(h:bw P f (first++args++cap).toArray w R)(hk:∀v w',R v w'→K v w'):rb P (.func (.func f) first.toArray cap.toArray) args w K t:=F8 aI h hk
theorem K.yield{l:Nat}{args:List Value}{R:Ending→World→Prop}{t}(h:YieldAt Fence.wide 0 P l args.toArray w R)(hk:∀e w',R e w'→∃v,e = .returned v∧K v w'):ui P (.func (.yield l) #[] #[]) args w K t :=
 Or.inr ⟨l,rfl,let ⟨fn,tmps,assign,body,h1,U⟩:=h; ⟨fn,tmps,assign,body,h1,U.mono hk⟩⟩
theorem K.fj{f:FuncId}{args:List Value}{t}(v:Value)(h:∀w',Ext w w'→bw P f args.toArray w' fun u bW=>u=v∧Ext w' bW)(hk:ax v):CC P f args w ax t:=acm v h hk
theorem K.new{n:TypeId}{cs:Array Value}{t}(hk:∀ar b,w.heap.size≤b→Ext w ar→ar.heap[b]? = some (.cells cs n)→K (.pointer (some ⟨b,0,none⟩)) ar):ur n cs w K t :=
 hk _ _ (Nat.le_refl _) ((Ext.refl w).alloc _) (heap_alloc_new w _)
theorem K.Er{t}(hk:∀ar b,w.heap.size≤b→Ext w ar→ar.heap[b]? = some (.map #[] 0)→K (.map (some b)) ar):Cx w K t:=hk _ _ (Nat.le_refl _) ((Ext.refl w).alloc _) (heap_alloc_new w _)
theorem K.tX{s:ByteArray}{t}(hk:∀ar b,w.heap.size≤b→Ext w ar→ar.heap[b]? = some (.stringIter s 0)→K (.pointer (some ⟨b,0,none⟩)) ar):CD (.string s) w K t :=
 ⟨s,rfl,hk _ _ (Nat.le_refl _) ((Ext.refl w).alloc _) (heap_alloc_new w _)⟩
theorem K.j3{e:TypeId}{len sz:Nat}{z cs:List Value}{cX:List (Nat×Operand)}{t}(h:ep S ((List.range len).map fun i=>(i*sz,sz)) cX z=some cs)
  (hk:∀ar b,w.heap.size≤b→Ext w ar→ar.heap[b]? = some (.cells cs.toArray e)→K (.slice (some ⟨b,0,none⟩) len len) ar):yE S e len sz z cX w K t :=
 y9 h (hk _ _ (Nat.le_refl _) ((Ext.refl w).alloc _) (heap_alloc_new w _))
theorem K.st1{b j:Nat}{c:Array Value}{e:TypeId}{v:Value}{t}(aA:w.heap[b]? = some (.cells c e))(aP:j<c.size)(aS:v.oneCell'=true)
  (hk:∀ar,dT b w ar→ar.heap[b]? = some (.cells (c.set j v aP) e)→gr ar):pz (.pointer (some (Addr.add ⟨b,0,none⟩ j))) v w gr t :=
 SB (eZ aA (Array.getElem?_eq_getElem aP)) (by rw[add_eq];simp[World.frozen?,aA]) aS (hk _ (by have h:=dT.setCell w (Addr.add ⟨b,0,none⟩ j) v;rwa[FP] at h) (EJ aA aP v))
theorem K.qf{b:Nat}{c:Array Value}{e:TypeId}{v:Value}{t}(aA:w.heap[b]? = some (.cells c e))(aP:0<c.size)(aS:v.oneCell'=true)
  (hk:∀ar,dT b w ar→ar.heap[b]? = some (.cells (c.set 0 v aP) e)→gr ar):pz (.pointer (some ⟨b,0,none⟩)) v w gr t :=
 K.st1 (j:=0) (t:=⟨⟩) aA aP aS hk
theorem K.jh{b n:Nat}{c cs:Array Value}{e:TypeId}{t}(aA:w.heap[b]? = some (.cells c e))(ay:c.size=n)(aM:cs.size=n)(h1:∀x∈cs.toList,x.oneCell'=true)
  (hk:∀ar,dT b w ar→ar.heap[b]? = some (.cells cs e)→gr ar):wD n (.pointer (some ⟨b,0,none⟩)) (.agg cs) w gr t :=
 JB aM (fun j aP=>⟨⟨_,eZ aA (Array.getElem?_eq_getElem (by omega))⟩,by rw[add_eq];simp[World.frozen?,aA]⟩) h1 (hk _ (dT.jB cs.toList w ⟨b,0,none⟩ 0) (Sk aA (by omega)))
theorem K.loop{b:eR}{t}(ey:Fr→World→Prop)(iE:Fr→World→Nat)(ak:ey S w)
  (ba:∀a6 w',(∀t,b.e8.contains t=false→a6 t=S t)→ey a6 w'→dU P b (hT (fun ff bW=>ey ff bW∧iE ff bW<iE a6 w') Q ⟨⟩) a6 w' ⟨⟩):uq P b Q S w t:=aaM ey iE ak ba
theorem K.start{f:FuncId}{L:lP}(hm:P.follows .mixedOrders=true)(ay:ks P f=some L){args:List Value}{R:Value→World→Prop}(bD:args.length≤L.n)(h:dU P L.code (rB L.res R ⟨⟩) (gY args 0) w ⟨⟩):bw P f args.toArray w R:=enter hm ay bD h
end
attribute [irreducible] dU
attribute [irreducible] iC
attribute [irreducible] kA
attribute [irreducible] fb
attribute [irreducible] vZ
attribute [irreducible] pP
attribute [irreducible] pH
attribute [irreducible] la
attribute [irreducible] nH
attribute [irreducible] uh
attribute [irreducible] ui
attribute [irreducible] ml
attribute [irreducible] ux
attribute [irreducible] CC
attribute [irreducible] yT
attribute [irreducible] ek
attribute [irreducible] mm
attribute [irreducible] hl
attribute [irreducible] ug
attribute [irreducible] eW
attribute [irreducible] uG
attribute [irreducible] yH
attribute [irreducible] lR
attribute [irreducible] iV
attribute [irreducible] ir
attribute [irreducible] yJ
attribute [irreducible] wq
attribute [irreducible] Cl
attribute [irreducible] Co
attribute [irreducible] Cn
attribute [irreducible] Cj
attribute [irreducible] yK
attribute [irreducible] Cc
attribute [irreducible] sS
attribute [irreducible] CF
attribute [irreducible] rf
attribute [irreducible] yM
attribute [irreducible] yL
attribute [irreducible] yF
attribute [irreducible] yO
attribute [irreducible] yP
attribute [irreducible] uv
attribute [irreducible] oL
attribute [irreducible] rk
attribute [irreducible] yN
attribute [irreducible] Ct
attribute [irreducible] pz
attribute [irreducible] wD
attribute [irreducible] wv
attribute [irreducible] yE
attribute [irreducible] jZ
attribute [irreducible] wx
attribute [irreducible] CA
attribute [irreducible] CD
attribute [irreducible] rp
attribute [irreducible] wk
attribute [irreducible] CG
attribute [irreducible] yS
attribute [irreducible] rb
attribute [irreducible] ur
attribute [irreducible] Cx
attribute [irreducible] uq
attribute [irreducible] hz
attribute [irreducible] hT nZ rB te
end bn
end
section
namespace bn
open Go Go.RowKit
structure bE{α:Type}(sz:Nat)(R:World→Addr→α→Prop)(w:World)(v:Value)(xs:List α):Prop where
 ex:∃bf cap,v = .slice bf xs.length cap∧xs.length≤cap∧cap≤maxLen∧(xs≠[]→bf.isSome=true)∧∀a,bf=some a→∀i (h:i<xs.length),R w (a.add (i*sz)) xs[i]
theorem bE.form{α:Type}{sz:Nat}{R:World→Addr→α→Prop}{w:World}{v:Value}{xs:List α}(h:bE sz R w v xs):∃bf cap,v = .slice bf xs.length cap∧xs.length≤9223372036854775807:=by
 obtain⟨bf,cap,h1,U,ai,_⟩:=h.ex;exact⟨bf,cap,h1,by unfold maxLen at ai;omega⟩
theorem bE.addr{α:Type}{sz:Nat}{R:World→Addr→α→Prop}{w:World}{bf:Option Addr}{n c:Nat}{xs:List α}(h:bE sz R w (.slice bf n c) xs)(aM:0<xs.length):∃a,bf=some a:=by
 obtain⟨kf,cap,h1,U,ai,aL,_⟩:=h.ex;injection h1 with h1 _ _
 subst h1;exact Option.isSome_iff_exists.1 (aL (by intro e;subst e;simp at aM))
theorem bE.at{α:Type}{sz:Nat}{R:World→Addr→α→Prop}{w:World}{a:Addr}{n c:Nat}{xs:List α}(h:bE sz R w (.slice (some a) n c) xs)(i:Nat)(ad:i<xs.length):R w (a.add (i*sz)) xs[i]:=by
 obtain⟨kf,cap,h1,U,ai,aL,bt⟩:=h.ex;injection h1 with h1 _ _
 subst h1;exact bt a rfl i ad
theorem bE.ext{α:Type}{sz:Nat}{R:World→Addr→α→Prop}(jr:∀w w' a x,Ext w w'→R w a x→R w' a x){w w':World}{v:Value}{xs:List α}(he:Ext w w')(h:bE sz R w v xs):bE sz R w' v xs:=by
 obtain⟨bf,cap,h1,U,ai,aL,bt⟩:=h.ex;exact⟨bf,cap,h1,U,ai,aL,fun a bD i ad=>jr _ _ _ _ he (bt a bD i ad)⟩
def Flat{α:Type}(enc:α→List Value)(w:World)(a:Addr)(x:α):Prop:=e2 w a (enc x)
theorem Flat.ext{α:Type}{enc:α→List Value}(w w':World)(a:Addr)(x:α)(he:Ext w w')(h:Flat enc w a x):Flat enc w' a x:=e2.ext he h
def ji{qi:Type}(enc:qi→Value)(es:List MapEntry)(m:List (qi×Value)):Prop:=es.map (fun e=>(e.key,e.val))=m.map (fun p=>(enc p.1,p.2))
theorem zG{qi:Type}[DecidableEq qi]{enc:qi→Value}{d:TypeDesc}(aw:∀x y,Instr.sameNow d (enc x) (enc y)=some (decide (x=y)))(x:qi):∀(es:List MapEntry) (m:List (qi×Value)) (i:Nat),ji enc es m →
  ∃r,Instr.findNow d (enc x) es i=some r∧r.map (·.2)=(m.find? (fun p=>decide (x=p.1))).map (·.2)
 | [],m,i,h=>by
  have:m=[]:=by cases m with | nil=>rfl | cons _ _=>simp[ji] at h
  subst this;exact⟨none,rfl,rfl⟩
 | e :: es,m,i,h=>by
  cases m with
  | nil=>simp[ji] at h
  | cons p m =>
   simp only[ji,List.map_cons,List.cons.injEq,Prod.mk.injEq] at h;obtain⟨⟨h1,U⟩,ai⟩:=h;unfold Instr.findNow;rw[h1,aw];by_cases aD:x=p.1
   ·simp only[aD,decide_true];exact⟨_,rfl,by simp[U]⟩
   ·simp only[aD,decide_false];obtain⟨r,aL,bt⟩:=zG aw x es m (i+1) ai;exact⟨r,aL,by rw[bt];simp[aD]⟩
theorem EH(x y:ByteArray):Instr.sameNow .string (.string x) (.string y)=some (decide (x=y)):=by simp[Instr.sameNow,y8]
theorem adp(k q:IntKind)(x y:Int):Instr.sameNow (.int q) (.int k x) (.int k y)=some (decide (x=y)):=by simp[Instr.sameNow];rfl
theorem ji.push{qi:Type}{enc:qi→Value}{es:Array MapEntry}{m:List (qi×Value)}(h:ji enc es.toList m)(x:qi)(v:Value)(c:Nat):ji enc (es.push { key:=enc x,val:=v,born:=c }).toList (m++[(x,v)]):=by
 simp only[ji] at *;simp[h]
theorem GQ{α:Type}{enc:α→List Value}{sz:Nat}(c5:∀x,(enc x).length=sz):∀(xs:List α) (i j:Nat) (h:i<xs.length),j<sz→(xs.flatMap enc)[i*sz+j]? = (enc xs[i])[j]?
 | [],i,j,h,_=>by simp at h
 | x :: xs,0,j,h,aP=>by
  simp only[List.flatMap_cons,Nat.zero_mul,Nat.zero_add,List.getElem_cons_zero];rw[List.getElem?_append_left (by rw[c5];exact aP)]
 | x :: xs,i+1,j,h,aP=>by
  simp only[List.flatMap_cons,List.getElem_cons_succ];rw[List.getElem?_append_right (by rw[c5,Nat.add_mul];omega),c5,show(i+1)*sz+j - sz=i*sz+j from by rw[Nat.add_mul];omega];exact GQ c5 xs i j (by simpa using h) aP
theorem UU{α:Type}{enc:α→List Value}{sz:Nat}(c5:∀x,(enc x).length=sz){w:World}{b:Nat}{e:TypeId}{f:Nat×Nat}{xs:List α}(aA:w.heap[b]? = some (.cells (xs.flatMap enc).toArray e f))(i:Nat)(h:i<xs.length) :
  e2 w (Addr.add ⟨b,0,none⟩ (i*sz)) (enc xs[i]):=fun j v aP=>by
 have HE:j<sz:=by rw[←c5 xs[i]];exact(List.getElem?_eq_some_iff.1 aP).1
 rw[add_add];exact eZ aA (by rw[List.getElem?_toArray,GQ c5 xs i j h HE];exact aP)
theorem bE.aR{α:Type}{enc:α→List Value}{sz:Nat}(c5:∀x,(enc x).length=sz){R:World→Addr→α→Prop}{w:World}{b n:Nat}{e:TypeId}{f:Nat×Nat}{xs:List α}(aA:w.heap[b]? = some (.cells (xs.flatMap enc).toArray e f))
  (aM:n=xs.length)(hm:xs.length≤maxLen)(jr:∀a x,x∈xs→e2 w a (enc x)→R w a x):bE sz R w (.slice (some ⟨b,0,none⟩) n n) xs:=by
 subst aM;refine⟨_,_,rfl,Nat.le_refl _,hm,fun _=>rfl,fun a bD i ad=>?_⟩;injection bD with bD;subst bD
 exact jr _ _ (List.getElem_mem _) (UU c5 aA i ad)
theorem bE.nil{α:Type}{sz:Nat}{R:World→Addr→α→Prop}{w:World}:bE sz R w (.slice none 0 0) ([]:List α):=⟨none,0,rfl,Nat.le_refl _,Nat.zero_le _,fun h=>absurd rfl h,fun a h=>by cases h⟩
end bn
end
section
namespace o
open Go
def letter(n:Int):Bool:=decide (97≤n∧n≤122∨65≤n∧n≤90)
def digit(n:Int):Bool:=decide (48≤n∧n≤57)
def part(n:Int):Bool:=letter n||digit n||decide (n=95)
def pK(s:ByteArray)(i:Nat):Nat:=(s.get! i).toNat
def run(p:Int→Bool)(s:ByteArray):Nat:=(s.data.toList.takeWhile fun b=>p b.toNat).length
theorem SF{α:Type}(p:α→Bool):∀(l:List α) (n:Nat) (h:n<l.length),(∀j (aP:j<n),p (l[j]'(by omega))=true)→p l[n]=false→(l.takeWhile p).length=n
 | [],n,h,_,_=>by simp at h
 | x :: l,0,h,_,U=>by simp at U;simp[U]
 | x :: l,n+1,h,h1,U=>by
  have aD:p x=true:=h1 0 (by omega);rw[List.takeWhile_cons,if_pos aD,List.length_cons,SF p l n (by simpa using h) (fun j aP=>h1 (j+1) (by omega)) (by simpa using U)]
theorem SE{α:Type}(p:α→Bool):∀(l:List α) (_:∀j (aP:j<l.length),p l[j]=true),(l.takeWhile p).length=l.length
 | [],_=>rfl
 | x :: l,h=>by
  have aD:p x=true:=h 0 (by simp);rw[List.takeWhile_cons,if_pos aD,List.length_cons,SE p l (fun j aP=>h (j+1) (by simpa using aP)),List.length_cons]
theorem Sb(p:Int→Bool)(s:ByteArray)(n:Nat)(h:n<s.size)(h1:∀j (aP:j<n),p (s[j]'(by omega)).toNat=true)(U:p s[n].toNat=false):run p s=n :=
 SF (fun b:UInt8=>p b.toNat) s.data.toList n (by simpa using h) (fun j aP=>h1 j aP) U
theorem R3(p:Int→Bool)(s:ByteArray)(h:∀j (aP:j<s.size),p s[j].toNat=true):run p s=s.size:=by
 have:=SE (fun b:UInt8=>p b.toNat) s.data.toList (fun j aP=>h j (by simpa using aP))
 rw[run,this];simp
theorem Vy{p:Int→Bool}(bg:∀r:Int,128≤r→p r=false)(s:ByteArray)(pos:Nat)(h:pos<s.size) :
  p (Utf8.decode s pos).1=p s[pos].toNat∧(p s[pos].toNat=true→(Utf8.decode s pos).2=1):=by
 by_cases bD:s[pos].toNat<128
 ·rw[decode_ascii s pos h bD];exact⟨rfl,fun _=>rfl⟩
 ·have h1:=decode_high s pos h (by omega);rw[bg _ (by omega),bg _ (by omega)];exact⟨rfl,fun h=>by simp at h⟩
theorem aaE(r:Int)(h:128≤r):letter r=false:=by simp[letter];omega
theorem VA(r:Int)(h:128≤r):digit r=false:=by simp[digit];omega
theorem abR(r:Int)(h:128≤r):part r=false:=by simp[part,aaE r h,VA r h];omega
instance agQ:LawfulBEq ByteArray where
 eq_of_beq {a b} h:=by rw[bn.y8] at h;exact of_decide_eq_true h
 rfl {a}:=by rw[bn.y8];exact decide_eq_true rfl
def oy:List ByteArray:=[⟨#[115,101,108,102]⟩,⟨#[110,111,110,101]⟩,⟨#[108,101,110]⟩,⟨#[97,116]⟩]
def isName(s:ByteArray):Bool:=decide (s.size≠0)&&decide (s.size≤16)&&letter (pK s 0)&&decide (run part s=s.size) && !decide (s∈oy)
theorem adj(p:Int→Bool)(s:ByteArray):run p s≤s.size:=by
 have:=(List.takeWhile_sublist (fun b:UInt8=>p b.toNat) (l:=s.data.toList)).length_le
 simpa[run] using this
theorem get_eq(s:ByteArray)(i:Nat)(h:i<s.size):s.get! i=s[i]:=by
 obtain⟨d⟩:=s;show d[i]! = d[i];exact getElem!_pos d i h
theorem get?_eq(s:ByteArray)(i:Nat)(h:i<s.size):s[i]? = some (s.get! i):=by rw[get_eq s i h];exact getElem?_pos s i h
structure Scalar where
 name:ByteArray
 size:Int
structure Var where
 name:ByteArray
 scalar:Int
 over:Int
 bk:Int
 ad:Int
 init:Int
structure dh where
 name:ByteArray
 scalar:Int
 cap:Int
 bk:Int
 ad:Int
 aaN:Bool
def size(k:Int)(s:List Scalar):Int :=
 match s[(k - 1).toNat]? with
 | some x=>if 1≤k∧1≤x.size∧x.size≤4 then x.size else 0
 | none=>0
def narrow(bk ad:Int):Bool:=decide (-1048576≤bk∧bk≤ad∧ad≤1048576∧ad - bk<256)
def there(k:Int)(s:List Scalar):Bool:=decide (k=0∨size k s≠0)
def err(eV:Int)(fa:Nat→ByteArray)(mo:Nat→Int)(i:Nat):Int :=
 if eV≤i then 11 else if isName (fa i)=false then 6 else if ∃j,j<i∧fa j=fa i then 7 else mo i
def first(n:Nat)(e:Nat→Int):Int×Int:=match (List.range n).find? (fun i=>decide (e i≠0)) with | some i=>((i:Int),e i) | none=>(0,0)
theorem hD{n:Nat}{e:Nat→Int}{i:Nat}(ad:i<n)(h1:∀j,j<i→e j=0)(U:e i≠0):first n e=((i:Int),e i):=by
 have:(List.range n).find? (fun i=>decide (e i≠0))=some i:=by
  rw[List.find?_range_eq_some];simp only[decide_eq_true_eq];exact⟨U,by simpa using ad,fun j aP=>by simp[h1 j aP]⟩
 rw[first,this]
theorem lW{n:Nat}{e:Nat→Int}(h:∀j,j<n→e j=0):first n e=(0,0):=by
 have:(List.range n).find? (fun i=>decide (e i≠0))=none:=by
  rw[List.find?_range_eq_none];intro j aP;simp[h j aP]
 rw[first,this]
theorem Oj{n:Nat}{e e':Nat→Int}(h:∀j,j<n→e j=e' j):first n e=first n e':=by
 by_cases aD:∃i,i<n∧e i≠0∧∀j,j<i→e j=0
 ·obtain⟨i,ad,h1,U⟩:=aD;rw[hD ad U h1,hD ad (fun j aP=>by rw[←h j (by omega)];exact U j aP) (by rw[←h i ad];exact h1),h i ad]
 ·have bK:∀j,j<n→e j=0:=by
   intro j
   induction j using Nat.strongRecOn with
   | _ j eo =>
    intro aP;by_cases ak:e j=0
    ·exact ak
    ·exact absurd ⟨j,aP,ak,fun k hk=>eo k hk (by omega)⟩ aD
  rw[lW bK,lW fun j aP=>by rw[←h j aP];exact bK j aP]
def nameAt{α:Type}(f:α→ByteArray)(l:List α)(i:Nat):ByteArray:=(l[i]?.map f).getD ⟨#[]⟩
def q2(l:List Scalar)(i:Nat):Int:=match l[i]? with | some x=>if 1≤x.size∧x.size≤4 then 0 else 10 | none=>0
def scalars(l:List Scalar):Int×Int:=first l.length (err 2 (nameAt (·.name) l) (q2 l))
def bounds(v:Var)(s:List Scalar):Int×Int:=if v.scalar=0 then (v.bk,v.ad) else (0,size v.scalar s)
def cells(v:Var)(s:List Scalar):Int:=if v.over=0 then 1 else size v.over s
def mT(l:List Var)(s:List Scalar)(i:Nat):Int :=
 match l[i]? with
 | some v=>if there v.scalar s=false∨there v.over s=false then 8
  else if (v.scalar=0∧narrow v.bk v.ad=false)∨v.init<(bounds v s).1∨v.init > (bounds v s).2 then 10 else 0
 | none=>0
def vars(l:List Var)(s:List Scalar)(eV:Int):Int×Int:=first l.length (err (max eV 0) (nameAt (·.name) l) (mT l s))
def mw(l:List dh)(s:List Scalar)(i:Nat):Int :=
 match l[i]? with
 | some c=>if there c.scalar s=false then 8
  else if c.cap<1∨c.cap > 4∨(c.scalar=0∧narrow c.bk c.ad=false) then 10 else 0
 | none=>0
def aK(l:List dh)(s:List Scalar):Int×Int:=first l.length (err 4 (nameAt (·.name) l) (mw l s))
end o
end
section
namespace o
open Go Go.RowKit bn
def Scalar.enc(x:Scalar):List Value:=[.string x.name,.int .i64 x.size]
def Var.enc(x:Var):List Value:=[.string x.name,.int .i64 x.scalar,.int .i64 x.over,.int .i64 x.bk,.int .i64 x.ad,.int .i64 x.init]
def dh.enc(x:dh):List Value:=[.string x.name,.int .i64 x.scalar,.int .i64 x.cap,.int .i64 x.bk,.int .i64 x.ad,.bool x.aaN]
def h2(s:ByteArray):Prop:=s.size≤9223372036854775807
instance ag4(s:ByteArray):Decidable (h2 s):=Nat.decLe _ _
structure h8(w:World)(a:Addr)(x:Scalar):Prop where
 cells:e2 w a x.enc
 ok:h2 x.name
structure nO(w:World)(a:Addr)(x:Var):Prop where
 cells:e2 w a x.enc
 ok:h2 x.name
structure nN(w:World)(a:Addr)(x:dh):Prop where
 cells:e2 w a x.enc
 ok:h2 x.name
theorem h8.ext(w w':World)(a:Addr)(x:Scalar)(he:Ext w w')(h:h8 w a x):h8 w' a x:=⟨h.cells.ext he,h.ok⟩
theorem nO.ext(w w':World)(a:Addr)(x:Var)(he:Ext w w')(h:nO w a x):nO w' a x:=⟨h.cells.ext he,h.ok⟩
theorem nN.ext(w w':World)(a:Addr)(x:dh)(he:Ext w w')(h:nN w a x):nN w' a x:=⟨h.cells.ext he,h.ok⟩
abbrev gW(w:World)(v:Value)(l:List Scalar):Prop:=bE 2 h8 w v l
abbrev gL(w:World)(v:Value)(l:List Var):Prop:=bE 6 nO w v l
abbrev mf(w:World)(v:Value)(l:List dh):Prop:=bE 6 nN w v l
theorem gL.aR{w:World}{b n:Nat}{e:TypeId}{f:Nat×Nat}{xs:List Var}(aA:w.heap[b]? = some (.cells (xs.flatMap Var.enc).toArray e f))(aM:n=xs.length)(hm:xs.length≤maxLen)(c4:∀x∈xs,h2 x.name) :
  gL w (.slice (some ⟨b,0,none⟩) n n) xs:=bE.aR (enc:=Var.enc) (fun _=>rfl) aA aM hm fun _ x aD ay=>⟨ay,c4 x aD⟩
end o
end
section
namespace bn
open Go Go.RowKit Go.ChangeShapes Go.WideShapes Go.Deep
section
variable{H:Type}{enc:TypeId×Value→H}{P:Program}
theorem SV{w:World}:∀{dw:List TypeId} {vs:List Value} {ds:List (DataW H)} {cX:List MemPlace},DataW.TrodAll enc P w 0 (fun _=>true) true dw vs ds cX→∀x∈cX,x.block<w.heap.size
 | [],_,_,_,h=>by
  obtain⟨rfl,rfl,rfl⟩:=trodAll_nil h;intro x aD;cases aD
 | _ :: _,_,_,_,h=>by
  obtain⟨v,S5,d,NO,a,b,rfl,rfl,rfl,⟨m,h1⟩,U⟩:=trodAll_cons h;intro x aD;rcases List.mem_append.1 aD with aD | aD
  ·exact DataW.trod_lt m _ _ _ h1 x aD
  ·exact SV U x aD
theorem SU{w:World}{sp:Nat→Bool}{bx:Bool}:∀{dw:List TypeId} {vs:List Value} {ds:List (DataW H)} {cX:List MemPlace},DataW.TrodAll enc P w 0 sp bx dw vs ds cX→ds.length=dw.length
 | [],_,_,_,h=>by
  obtain⟨rfl,rfl,rfl⟩:=trodAll_nil h;rfl
 | _ :: _,_,_,_,h=>by
  obtain⟨v,S5,d,NO,a,b,rfl,rfl,rfl,h1,U⟩:=trodAll_cons h;simp[SU U]
theorem SS(aN:laidOutB P=true){W dV:World}(aA:Below W.heap.size W dV):∀{dw:List TypeId} {vs:List Value} {ds:List (DataW H)} {cX:List MemPlace},(dw.all fun t=>P.readableRec t&&decide (t<P.types.size))=true →
  DataW.TrodAll enc P W 0 (fun _=>true) true dw vs ds cX→(∀x∈cX,x.block<W.heap.size)→DataW.TrodAll enc P dV 0 (fun b=>decide (b<W.heap.size)) true dw vs ds cX
 | [],_,_,_,_,h,_=>by
  obtain⟨rfl,rfl,rfl⟩:=trodAll_nil h;exact trodAll_mk0
 | _ :: _,_,_,_,ba,h,cb=>by
  obtain⟨v,S5,d,NO,a,b,rfl,rfl,rfl,h1,U⟩:=trodAll_cons h;simp only[List.all_cons,Bool.and_eq_true,decide_eq_true_eq] at ba;exact trodAll_cons_mk (Below.trod aN ba.1.1 ba.1.2 h1 aA fun x aD=>cb x (List.mem_append_left _ aD)) (SS aN aA ba.2 U fun x aD=>cb x (List.mem_append_right _ aD))
theorem ag6{s:ChangeSpec}{f:Func}{yp:TypeId}(aN:laidOutB P=true)(ba:(f.params.toList.all fun t=>P.readableRec t&&decide (t<P.types.size))=true)(aS:s.vars=[])
  (Zo:f.resultTypes=#[yp])(aG:P.underlying yp=some .bool)(aw:∀ds:List (DataW H),ds.length=f.params.toList.length→s.fn H ds = { results:=[.lit (.bool true)],args:=ds })
  {W dV:World}{args:Array Value}{ds gs:List (DataW H)}{before:List MemPlace}(hW:DataW.Whole enc P f.params.toList s.vars false W args.toList ds gs before)(Ng:Ext W dV) :
  s.post enc P f false true false false W args (.bool true) dV:=by
 have Xx:=hW;obtain⟨p,q,eT,lr,rfl,agf,vm⟩:=hW;rw[aS] at lr;obtain⟨rfl,rfl⟩:=trodVars_none lr;have cb:=SV eT;have e:=aw ds (SU eT);refine⟨ds,[],_,[],p,[],Xx,?_,?_,?_,Ng.frame _,fun h=>by cases h⟩
 ·rw[List.append_nil,e,Zo];exact trodAll_mk1 (shut_bool aG _)
 ·rw[List.append_nil,e];exact SS aN Ng ba eT cb
 ·rw[List.append_nil,e,aS];rfl
variable{w:World}{base:Nat}{spare:Nat→Bool}{held:Bool}
theorem II{α:Type}(n:Nat)(R:Nat→α→Prop)(h:∀i,i<n→∃x,R i x):∃xs:List α,xs.length=n∧∀i (ad:i<xs.length),R i xs[i]:=by
 induction n with
 | zero=>exact⟨[],rfl,fun i ad=>absurd ad (Nat.not_lt_zero _)⟩
 | succ n eo =>
  obtain⟨xs,aN,aD⟩:=eo fun i ad=>h i (by omega);obtain⟨x,tD⟩:=h n (by omega);refine⟨xs++[x],by simp[aN],fun i ad=>?_⟩;by_cases aM:i<xs.length
  ·rw[List.getElem_append_left aM];exact aD i aM
  ·have:i=n:=by simp at ad;omega
   subst this;rw[List.getElem_append_right (by omega)];simpa[aN] using tD
end
theorem UZ{H:Type}{enc:TypeId×Value→H}{P:Program}{w:World}{base:Nat}{sp:Nat→Bool}{held:Bool}{fuel:Nat}{t e:TypeId}{n:Nat}{cs:List Value}{qh:List ByteArray}{p:List MemPlace}
  (aG:P.underlying t=some (.array n e))(he:P.underlying e=some .string)(jJ:P.cellsOf e=1)(tn:P.cellsOf t=n)
  (h:DataW.trod enc P w base sp held fuel t cs=some (.agg (qh.map fun z=>.lit (.string z.data.toList)),p)):cs=qh.map Value.string:=by
 cases fuel with
 | zero=>simp[DataW.trod] at h
 | succ fuel =>
  simp only[DataW.trod,aG,jJ,tn,Nat.mul_one] at h;split at h
  ·rename_i aN;obtain⟨xs,hm,aD⟩:=Option.map_eq_some_iff.1 h;have r4:xs.map (·.1)=qh.map fun z=>(DataW.lit (.string z.data.toList):DataW H):=by
    have:=congrArg Prod.fst aD
    simpa using this
   have xF:xs.length=n:=by simpa using Lib.mapM_length hm
   have agI:qh.length=n:=by
    have:=congrArg List.length r4
    simp at this;omega
   apply List.ext_getElem?;intro i;by_cases ad:i<n
   ·obtain⟨b,aA,aI⟩:=Lib.mapM_at hm i i (by simp[ad]);obtain⟨z,ay,rfl,_⟩:=DataW.trod_string he aI;have h1:cs[i]? = some (.string z):=by
     have:=congrArg (·[0]?) ay
     simpa[List.getElem?_take,List.getElem?_drop] using this
    have U:(xs.map (·.1))[i]? = some (DataW.lit (.string z.data.toList):DataW H):=by simp[aA]
    rw[r4] at U;simp only[List.getElem?_map,Option.map_eq_some_iff,DataW.lit.injEq,Lit.string.injEq] at U;obtain⟨Ti,AB,e⟩:=U;have aZ:Ti=z:=by
     cases Ti;cases z;simp at e;simp[e]
    simp[h1,AB,aZ]
   ·rw[List.getElem?_eq_none (by omega),List.getElem?_eq_none (by simp;omega)]
  ·cases h
theorem ahm{P:Program}{W:World}{name:String}{qh:List ByteArray}{rest:List (String×DataW Unit)}{g:Nat}{t e:TypeId}{n:Nat}
  (aX:P.globalNamed name=some g)(Zx:(P.globals[g]?).map (·.type)=some t)(aG:P.underlying t=some (.array n e))(he:P.underlying e=some .string)(jJ:P.cellsOf e=1)(tn:P.cellsOf t=n)
  (h:laidMet P ((name,.agg (qh.map fun z=>.lit (.string z.data.toList))) :: rest) W):e2 W ⟨g,0,none⟩ (qh.map Value.string):=by
 obtain⟨cX,⟨afF,im,cs,fuel,p,q,Yo,tB,ZB,bx,_,_⟩,_⟩:=h;obtain rfl:=Option.some.inj (aX.symm.trans Yo);obtain rfl:=Option.some.inj (Zx.symm.trans tB);have e:=UZ aG he jJ tn bx;intro j v aP
 have:=World.var?_cell aX ZB j
 rw[show Addr.add ⟨g,0,none⟩ j=⟨g,j,none⟩ from by cases j<;>simp[Addr.add],this,Array.getElem?_toList.symm,e];exact aP
end bn
end
section
namespace bn
open Go Go.RowKit
theorem Ext.grown{w0 w w':World}{r:Option Nat}(he:Ext w0 w)(aX:w.grownBy w' r)(ba:∀k,r=some k→w0.heap.size≤k):Ext w0 w':=Below.grown he aX he.size ba
theorem abN{w w':World}{base:Nat}{e:TypeId}{sz:Nat}{v:Value}{n:Nat}{xs:List Value}(he:Ext w w')(h:w.ownsRow base e sz v n xs):w'.ownsRow base e sz v n xs:=by
 refine⟨h.1,?_⟩;rcases h.2 with aM | ⟨g,cap,cur,rfl,aA,xq,rest⟩
 ·exact .inl aM
 ·exact .inr ⟨g,cap,cur,rfl,aA,he.obj xq,rest⟩
theorem abO{w:World}{base wN:Nat}{e:TypeId}{sz:Nat}{v:Value}{n:Nat}{xs:List Value}(aA:wN≤base)(h:w.ownsRow base e sz v n xs):w.ownsRow wN e sz v n xs:=by
 refine⟨h.1,?_⟩;rcases h.2 with aM | ⟨g,cap,cur,rfl,Dr,rest⟩
 ·exact .inl aM
 ·exact .inr ⟨g,cap,cur,rfl,Nat.le_trans aA Dr,rest⟩
theorem Ru{w:World}{base:Nat}{e:TypeId}{sz:Nat}{v:Value}{n:Nat}{xs:List Value}(h:w.ownsRow base e sz v n xs):∃bf cap,v = .slice bf n cap∧n≤cap∧cap≤maxLen∧(n≠0→bf.isSome=true)∧∀a,bf=some a→e2 w a xs:=by
 rcases h.2 with ⟨rfl,rfl⟩ | ⟨g,cap,cur,rfl,aA,xq,h1,U,ai,aL⟩
 ·exact⟨none,0,rfl,Nat.le_refl _,Nat.zero_le _,fun h=>absurd rfl h,fun a bD=>by cases bD⟩
 ·exact⟨_,cap,rfl,h1,U,fun _=>rfl,fun a bD=>by injection bD with bD;subst bD;exact fun j u aP=>h.cells (g:=g) rfl j u aP⟩
theorem abP{α:Type}{enc:α→List Value}{w:World}{base:Nat}{e:TypeId}{sz:Nat}{v:Value}{xs:List α}(c5:∀x,(enc x).length=sz)(h:w.ownsRow base e sz v xs.length (xs.flatMap enc)):bE sz (Flat enc) w v xs:=by
 obtain⟨bf,cap,rfl,h1,U,ai,aL⟩:=Ru h;refine⟨bf,cap,rfl,h1,U,fun aM=>ai (by intro e;exact aM (List.eq_nil_of_length_eq_zero e)),fun a bD i ad=>?_⟩;intro j u aP;have HE:j<sz:=by rw[←c5 xs[i]];exact(List.getElem?_eq_some_iff.1 aP).1
 rw[add_add];exact aL a bD _ _ (by rw[GQ c5 xs i j ad HE];exact aP)
theorem K.T4{P:Program}{cI:Value→World→Prop}{w:World}{ty e:TypeId}{sz b:Nat}{s:Value}{a:Addr}{m c:Nat}{t}{base n:Nat}{xs news:List Value}(aw:w.ownsRow base e sz s n xs)(ay:e2 w a news)(aN:news.length=m*sz)
  (h1:∀u∈news,u.oneCell'=true)(ja:n+m≤maxLen)(aA:(n+m)*b≤140737488355328)(ix:base≤w.heap.size)
  (hk:∀b7 w',w'.ownsRow base e sz b7 (n+m) (xs++news)→w.grownBy w' s.ownBlock→cI b7 w'):jZ P ty e sz b s (.slice (some a) m c) w cI t :=
 K.app fun⟨aG,i,z,ad,bK,xz,xl,vt,c5⟩=>by
  obtain⟨b7,w',ba,U,ai,_⟩:=run_append_own (P:=P) w base ty ty e i z sz b aG ad bK xz xl vt c5 s n xs aw a m c news aN ay h1 ja aA ix;exact⟨ty,b7,w',ba,hk b7 w' U ai⟩
theorem add_zero(a:Addr):a.add 0=a:=by simp[Addr.add]
theorem bE.cap{α:Type}{sz:Nat}{R:World→Addr→α→Prop}{w:World}{bf:Option Addr}{n c:Nat}{xs:List α}(h:bE sz R w (.slice bf n c) xs):xs.length≤c:=by
 obtain⟨kf,cap,e,U,ai,aL,bt⟩:=h.ex;injection e with bS aZ bJ
 subst bJ;exact U
theorem bE.take{α:Type}{sz:Nat}{R:World→Addr→α→Prop}{w:World}{bf:Option Addr}{n c:Nat}{xs:List α}(h:bE sz R w (.slice bf n c) xs)(k:Nat)(hk:k≤xs.length) :
  bE sz R w (.slice (if c=0 then bf else bf.map (·.add (0*sz))) (k - 0) (c - 0)) (xs.take k):=by
 obtain⟨kf,cap,e,U,ai,aL,bt⟩:=h.ex;injection e with bS aZ bJ
 subst bS aZ bJ;have e:(if c=0 then bf else bf.map (·.add (0*sz)))=bf:=by
  split
  ·rfl
  ·cases bf with
   | none=>rfl
   | some a=>simp[add_zero]
 rw[e];refine⟨bf,c,by simp[List.length_take,Nat.min_eq_left hk],by simp[List.length_take];omega,ai,fun aM=>aL (by intro e;subst e;simp at aM),fun a bD i ad=>?_⟩;have cr:i<xs.length:=by simp[List.length_take] at ad;omega
 rw[List.getElem_take];exact bt a bD i cr
theorem Ou{α:Type}{enc:α→List Value}{sz:Nat}(c5:∀x,(enc x).length=sz):∀(xs:List α) (p:Nat) (v:Value),(xs.flatMap enc)[p]? = some v→∃i j,∃h:i<xs.length,j<sz∧p=i*sz+j∧(enc xs[i])[j]? = some v
 | [],p,v,h=>by simp at h
 | x :: xs,p,v,h=>by
  rw[List.flatMap_cons] at h;by_cases bg:p<sz
  ·rw[List.getElem?_append_left (by rw[c5];exact bg)] at h;exact⟨0,p,by simp,bg,by simp,h⟩
  ·rw[List.getElem?_append_right (by rw[c5];omega),c5] at h;obtain⟨i,j,ad,aP,e,U⟩:=Ou c5 xs (p - sz) v h;exact⟨i+1,j,by simpa using ad,aP,by rw[Nat.add_mul];omega,by simpa using U⟩
theorem bE.flat{α:Type}{enc:α→List Value}{sz:Nat}{R:World→Addr→α→Prop}{w:World}{a:Addr}{n c:Nat}{xs:List α}(c5:∀x,(enc x).length=sz)(jr:∀a x,R w a x→e2 w a (enc x))
  (h:bE sz R w (.slice (some a) n c) xs):e2 w a (xs.flatMap enc):=by
 intro p v bg;obtain⟨i,j,ad,aP,rfl,U⟩:=Ou c5 xs p v bg
 have:=jr _ _ (h.at i ad) j v U
 rwa[add_add] at this
theorem uY{α:Type}{enc:α→List Value}{sz:Nat}(c5:∀x,(enc x).length=sz):∀(xs:List α),(xs.flatMap enc).length=xs.length*sz
 | []=>by simp
 | x :: xs=>by rw[List.flatMap_cons,List.length_append,uY c5 xs,c5,List.length_cons,Nat.add_mul];omega
theorem K.cut{P:Program}{Q:dQ→Fr→World→Prop}{S:Fr}{w:World}{a b:eR}{t}(N:Fr→World→Prop)(h1:dU P a (hT N Q ⟨⟩) S w ⟨⟩)
  (U:∀a6 w',(∀t,a.e8.contains t=false→a6 t=S t)→N a6 w'→dU P b Q a6 w' ⟨⟩):dU P (.seq a b) Q S w t:=by
 unfold dU hT at *;exact pk a _ _ S w (fun e a6 w' aw h=>match e,h with | .normal,h=>U a6 w' aw h | .exit _,h=>h | .ret,h=>h | .fB _,h=>h) h1
theorem K.IT{P:Program}{im:TypeId}{cz cD:Operand}{ax:Value→Prop}{a b:Bool}{t}(h:P.underlying im=some .bool)(hk:ax (.bool (a != b))):eW P .neq im cz cD (.bool a) (.bool b) ax t :=
 K.bin (v:=.bool (a != b)) (fun w=>by cases a<;>cases b<;>simp[eqGuard_at_bool,binOp,run_equal_bool w im _ _ h]) hk
theorem abM{w:World}{base:Nat}{e:TypeId}{sz b:Nat}(aA:base≤b)(h:w.heap[b]? = some (.cells #[] e)):w.ownsRow base e sz (.slice (some ⟨b,0,none⟩) 0 0) 0 [] :=
 ⟨by simp,.inr ⟨b,0,#[],rfl,aA,h,Nat.le_refl _,Nat.zero_le _,by simp,by simp⟩⟩
end bn
end
section
namespace bn
open Go Go.RowKit
class k7{α:Type}(R:World→Addr→α→Prop)(enc:outParam (α→List Value)):Prop where
 zf:∀w a x,R w a x→e2 w a (enc x)
instance agK{α:Type}(enc:α→List Value):k7 (Flat enc) enc:=⟨fun _ _ _ h=>h⟩
section
variable{P:Program}{Q:dQ→Fr→World→Prop}{ax:Value→Prop}{K:Value→World→Prop}{S:Fr}{w w0:World}
theorem K.dv{b j:Nat}{c:List Value}{ty:TypeId}{f:Nat×Nat}{v:Value}{t}(aA:w0.heap[b]? = some (.cells c.toArray ty f))(he:Ext w0 w)(aP:c[j]? = some v)(hk:ax v):oL (.pointer (some (Addr.add ⟨b,0,none⟩ j))) w ax t :=
 K.ld (eZ (he.obj aA) (by simpa using aP)) hk
theorem K.dp{b:Nat}{c:List Value}{ty:TypeId}{f:Nat×Nat}{v:Value}{t}(aA:w0.heap[b]? = some (.cells c.toArray ty f))(he:Ext w0 w)(aP:c[0]? = some v)(hk:ax v):oL (.pointer (some ⟨b,0,none⟩)) w ax t :=
 K.ld (w5 (he.obj aA) (by simpa using aP)) hk
theorem K.fO{b n:Nat}{c:List Value}{ty:TypeId}{f:Nat×Nat}{t}(aA:w0.heap[b]? = some (.cells c.toArray ty f))(he:Ext w0 w)(aM:c.length=n)(hk:ax (.agg c.toArray)):rk n (.pointer (some ⟨b,0,none⟩)) w ax t :=
 K.jd (gM (he.obj aA)) aM hk
theorem K.dC{α:Type}{sz i j n c:Nat}{R:World→Addr→α→Prop}{enc:α→List Value}[k7 R enc]{a:Addr}{xs:List α}{v:Value}{t}(aN:bE sz R w0 (.slice (some a) n c) xs)(he:Ext w0 w)(ad:i<xs.length)(aP:(enc xs[i])[j]? = some v)
  (hk:ax v):oL (.pointer (some ((a.add (i*sz)).add j))) w ax t:=K.ld (he.cell (k7.zf _ _ _ (aN.at i ad) j v aP)) hk
theorem K.dn{α:Type}{i n c:Nat}{R:World→Addr→α→Prop}{enc:α→List Value}[k7 R enc]{a:Addr}{xs:List α}{v:Value}{t}(aN:bE 1 R w0 (.slice (some a) n c) xs)(he:Ext w0 w)(ad:i<xs.length)(aP:(enc xs[i])[0]? = some v)
  (hk:ax v):oL (.pointer (some (a.add (i*1)))) w ax t:=by
 have h:=k7.zf (R:=R) _ _ _ (aN.at i ad) 0 v aP;rw[add_zero] at h;exact K.ld (he.cell h) hk
theorem K.dB{α:Type}{sz i n c m:Nat}{R:World→Addr→α→Prop}{enc:α→List Value}[k7 R enc]{a:Addr}{xs:List α}{t}(aN:bE sz R w0 (.slice (some a) n c) xs)(he:Ext w0 w)(ad:i<xs.length)(aM:(enc xs[i]).length=m)
  (hk:ax (.agg (enc xs[i]).toArray)):rk m (.pointer (some (a.add (i*sz)))) w ax t:=K.jd ((k7.zf _ _ _ (aN.at i ad)).ext he) aM hk
theorem K.dt{p:Prop}[Decidable p]{A B:Prop}{t}(h:p)(hk:A):iV (.bool (decide p)) A B t:=K.cond (fun _=>hk) fun bB=>absurd h bB
theorem K.dy{p:Prop}[Decidable p]{A B:Prop}{t}(h:¬p)(hk:B):iV (.bool (decide p)) A B t:=K.cond (fun bB=>absurd bB h) fun _=>hk
theorem K.dj{u:Bool}{A B:Prop}{t}(h:u=true)(hk:A):iV (.bool u) A B t:=K.c3 (fun _=>hk) fun bB=>by rw[h] at bB;cases bB
theorem K.dm{u:Bool}{A B:Prop}{t}(h:u=false)(hk:B):iV (.bool u) A B t:=K.c3 (fun bB=>by rw[h] at bB;cases bB) fun _=>hk
theorem K.dA{sz:Nat}{a:Addr}{len cap:Nat}{k:IntKind}{i:Nat}{t}(h:i<len)(hk:ax (.pointer (some (a.add (i*sz))))):wq sz (.slice (some a) len cap) (.int k (i:Int)) ax t:=K.du i rfl h hk
theorem K.qX{d n:Nat}{ty:TypeId}{cs:Array Value}{x:Operand}{r:List Step}{cI:Fr→World→Prop}{vs:List Value}{t1 t}(aD:∀v,a7 (b8 S d v) x = .agg vs.toArray)(aM:vs.length=n)(ay:cs.size=n)(h1:∀u∈vs,u.oneCell'=true)
  (hk:∀ar b,w.heap.size≤b→Ext w ar→ar.heap[b]? = some (.cells vs.toArray ty)→iC P r (b8 S d (.pointer (some ⟨b,0,none⟩))) ar cI ⟨⟩) :
  ur ty cs w (fun v w'=>iC P (⟨none,none,.e (.ph n (.tmp d) x)⟩ :: r) (put S (some d) v) w' cI t1) t:=by
 refine K.new fun ar b aA he cR=>?_;simp -dsimp only[J8,J9,Ka,Kb,Kc,Kd,Ke,Kf,Kg,Kh,Kj,Kk,Kl,Km,Kn,Ko,Kp,Kq,Kr,bQ,Ks,Kt,Ku,Kv,Kw,Kx,Ky,Kz,KA,KB,KF,KG,KH,KI,KJ,KK,KL,KM,KN,KO,uk,KR,cQ,eG,ej,jE,iq,iF,h4,k8,KV,KW,KX,KY,KZ,K0,K1,K2,K3,K4,K5,H1,K6,K7,K8,K9,La,Lb,Lc,Ld,Le,Lf,Lg,Lh,Li,Lj,Lk,Ll,Lm,Ln,Lo,Lp,Lq,Lr,Ls,Lt,Lu,Lv,Lw,Lx,LB,LC,M2,LD,LF,LG,LH,LI,LJ,LK,LL,LM,LN,LO,LP,LQ,LR,LS,LU,LV,LW,LX,LY,LZ,L0,L1,L2,L3,L4,L5,L6,L7,L8,L9,Ma,Mb,Mc,Md,Me,Mf,Mh,yV,yW,Mi,Mj,Mk,Ml,Mm,Mn,Mo,Ms,Mt,Mu,Mv,Mw,Mx,My,Mz,MA,MB,MC,MD,ME,MF,MG,MH,MI,MJ,MK,ML,MM,MN,MO,MP,MQ,MR,MS,MT,MU,MV,MW,jk,fU,nf,Nat.reduceAdd,Nat.reduceEqDiff,reduceIte,reduceCtorEq,bZ,aD];refine K.jh (cs:=vs.toArray) cR ay (by simpa using aM) (by simpa using h1) fun aW hw aO=>?_;exact hk aW b aA (hw.ext he aA) aO
theorem K.xc{b:eR}{t}(i N:Nat)(iG:Nat→Fr→World→Prop)(Hw:S i = .int .i64 0)(ak:iG 0 S w)
  (ba:∀(k:Nat) a6 w',(∀t,b.e8.contains t=false→a6 t=S t)→k≤N→a6 i = .int .i64 k→iG k a6 w' →
   dU P b (hT (fun ff bW=>k<N∧ff i = .int .i64 ((k:Int)+1)∧iG (k+1) ff bW) Q ⟨⟩) a6 w' ⟨⟩):uq P b Q S w t:=by
 refine K.loop (fun S w => ∃k:Nat,k≤N∧S i = .int .i64 k∧iG k S w) (fun S _=>(N - intOf (S i)).toNat) ⟨0,Nat.zero_le _,by simpa using Hw,ak⟩ ?_;rintro a6 w' cn ⟨k,hk,ad,aP⟩;have h:=ba k a6 w' cn hk ad aP;unfold dU hT at *;refine pk b _ _ a6 w' (fun e ff bW _ h=>?_) h
 match e,h with
 | .normal,⟨h1,U,ai⟩=>exact⟨⟨k+1,h1,by simpa using U,ai⟩,by simp[ad,U,intOf];omega⟩
 | .exit _,h=>exact h
 | .ret,h=>exact h
 | .fB _,h=>exact h
theorem K.p8{gr:World→Prop}{d:TypeDesc}{r:Nat}{k v:Value}{es:Array MapEntry}{c:Nat}{t}(h1:w.heap[r]? = some (.map es c))(U:Instr.findNow d k es.toList 0=some none)
  (hk:∀ar,dT r w ar→ar.heap[r]? = some (.map (es.push { key:=k,val:=v,born:=c }) (c+1))→gr ar):wx d (.map (some r)) k v w gr t :=
 K.iA h1 U (hk _ (dT.fk _ _ _) (BO (cL h1)))
theorem K.q5{sz:Nat}{bf:Option Addr}{n cap:Nat}{x:Operand}{k:IntKind}{t}(h:Nat)(aD:a7 S x = .int k (h:Int))(cR:h≤cap)(hk:ax (.slice bf h cap)):sS S sz (.slice bf n cap) none (some x) none ax t:=by
 refine K.gV 0 h cap (by simp[e7]) (by simp[e7,aD]) (by simp[e7]) ⟨Nat.zero_le _,cR,Nat.le_refl _⟩ (by simp) ?_;have e:(if cap=0 then bf else bf.map (·.add (0*sz)))=bf:=by
  split
  ·rfl
  ·cases bf with
   | none=>rfl
   | some a=>simp[add_zero]
 rw[e];exact hk
theorem K.Sn{sz:Nat}{bf:Option Addr}{n cap:Nat}{x:Operand}{k:IntKind}{t}(l:Nat)(aD:a7 S x = .int k (l:Int))(aN:l≤n∧n≤cap)(hk:ax (.slice (if cap=l then bf else bf.map (·.add (l*sz))) (n - l) (cap - l))) :
  sS S sz (.slice bf n cap) (some x) none none ax t :=
 K.gV l n cap (by simp[e7,aD]) (by simp[e7]) (by simp[e7]) ⟨aN.1,aN.2,Nat.le_refl _⟩ (by simp) hk
end
theorem bE.head{α:Type}{sz:Nat}{R:World→Addr→α→Prop}{w:World}{bf:Option Addr}{n c:Nat}{xs:List α}(h:bE sz R w (.slice bf n c) xs)(k:Nat)(hk:k≤xs.length):bE sz R w (.slice bf k c) (xs.take k):=by
 have:=h.take k hk
 have e:(if c=0 then bf else bf.map (·.add (0*sz)))=bf:=by
  split
  ·rfl
  ·cases bf with
   | none=>rfl
   | some a=>simp[add_zero]
 rw[e] at this;exact this
theorem bE.len{α:Type}{sz:Nat}{R:World→Addr→α→Prop}{w:World}{bf:Option Addr}{n c:Nat}{xs:List α}(h:bE sz R w (.slice bf n c) xs):n=xs.length∧n≤c∧c≤maxLen:=by
 obtain⟨kf,cap,e,U,ai,_⟩:=h.ex;injection e with bS aZ bJ
 subst aZ bJ;exact⟨rfl,U,ai⟩
theorem bE.tail{α:Type}{sz:Nat}{R:World→Addr→α→Prop}{w:World}{bf:Option Addr}{n c:Nat}{xs:List α}(h:bE sz R w (.slice bf n c) xs)(l:Nat)(aN:l≤xs.length) :
  bE sz R w (.slice (if c=l then bf else bf.map (·.add (l*sz))) (n - l) (c - l)) (xs.drop l):=by
 obtain⟨bS,aZ,bJ⟩:=h.len;subst bS;obtain⟨kf,cap,e,U,ai,aL,bt⟩:=h.ex;injection e with bS aZ bJ
 subst bS bJ;refine⟨_,_,by rw[List.length_drop],by rw[List.length_drop];omega,by omega,fun aM=>?_,fun a bD i ad=>?_⟩
 ·have:xs≠[]:=by intro e;subst e;simp at aM
  have:=aL this
  split
  ·exact this
  ·cases bf with
   | none=>cases this
   | some a=>rfl
 ·have cr:l+i<xs.length:=by rw[List.length_drop] at ad;omega
  rw[if_neg (by omega)] at bD;cases bf with
  | none=>cases bD
  | some b =>
   simp only[Option.map_some,Option.some.injEq] at bD;subst bD;rw[add_add,←Nat.add_mul,List.getElem_drop];exact bt b rfl _ cr
structure Mod(A:Nat→Prop)(w w':World):Prop where
 os:w'.os=w.os
 tape:w'.tape=w.tape
 output:w'.output=w.output
 size:w.heap.size≤w'.heap.size
 block:∀k,k<w.heap.size→¬A k→w'.heap[k]? = w.heap[k]?
theorem Mod.refl(A:Nat→Prop)(w:World):Mod A w w:=⟨rfl,rfl,rfl,Nat.le_refl _,fun _ _ _=>rfl⟩
theorem Mod.trans{A:Nat→Prop}{a b c:World}(h:Mod A a b)(k:Mod A b c):Mod A a c :=
 ⟨k.os.trans h.os,k.tape.trans h.tape,k.output.trans h.output,Nat.le_trans h.size k.size,fun i ad aM=>(k.block i (Nat.lt_of_lt_of_le ad h.size) aM).trans (h.block i ad aM)⟩
theorem Mod.then{A B:Nat→Prop}{a b c:World}(h:Mod B a b)(k:Mod A b c)(aw:∀i,i<a.heap.size→A i→B i):Mod B a c :=
 ⟨k.os.trans h.os,k.tape.trans h.tape,k.output.trans h.output,Nat.le_trans h.size k.size,fun i ad aM=>(k.block i (Nat.lt_of_lt_of_le ad h.size) fun e=>aM (aw i ad e)).trans (h.block i ad aM)⟩
theorem Ext.mod{A:Nat→Prop}{w w':World}(h:Ext w w'):Mod A w w':=⟨h.os,h.tape,h.output,h.size,fun _ hk _=>h.heap hk⟩
theorem dT.mod{A:Nat→Prop}{b:Nat}{w w':World}(h:dT b w w')(aA:A b):Mod A w w':=⟨h.os,h.tape,h.output,by rw[h.size];exact Nat.le_refl _,fun k _ aM=>h.block k fun e=>aM (e ▸ aA)⟩
theorem Mod.grown{A:Nat→Prop}{w w':World}{row:Option Nat}(h:w.grownBy w' row)(ba:∀k,row=some k→A k):Mod A w w':=⟨h.os,h.tape,h.output,h.size,fun k hk aM=>h.block k hk fun e=>aM (ba k e.symm)⟩
theorem Mod.ext{A:Nat→Prop}{w0 w w':World}(h:Mod A w w')(he:Ext w0 w)(eT:∀k,k<w0.heap.size→¬A k):Ext w0 w' :=
 ⟨h.os.trans he.os,h.tape.trans he.tape,h.output.trans he.output,Nat.le_trans he.size h.size,fun k hk=>(h.block k (Nat.lt_of_lt_of_le hk he.size) (eT k hk)).trans (he.heap hk)⟩
theorem Mod.obj{A:Nat→Prop}{w w':World}{k:Nat}{aj:Obj}(h:Mod A w w')(aM:¬A k)(hk:w.heap[k]? = some aj):w'.heap[k]? = some aj:=(h.block k (cL hk) aM).trans hk
theorem Mod.oG{A B:Nat→Prop}{w w':World}(h:Mod A w w')(aw:∀k,A k→B k):Mod B w w':=⟨h.os,h.tape,h.output,h.size,fun k hk aM=>h.block k hk fun e=>aM (aw k e)⟩
def br{α:Type}(enc:α→List Value)(e:TypeId)(sz base:Nat)(w:World)(v:Value)(xs:List α):Prop:=w.ownsRow base e sz v xs.length (xs.flatMap enc)
section
variable{α:Type}{enc:α→List Value}{e:TypeId}{sz base:Nat}{w w':World}{v:Value}{xs:List α}
theorem br.nil(enc:α→List Value)(e:TypeId)(sz base:Nat)(w:World):br enc e sz base w (.slice none 0 0) []:=World.ownsRow_nil w base e sz
theorem br.ext(he:Ext w w')(h:br enc e sz base w v xs):br enc e sz base w' v xs:=abN he h
theorem br.wr{b:Nat}(hw:dT b w w')(aA:b<base)(h:br enc e sz base w v xs):br enc e sz base w' v xs :=
 World.ownsRow.kept (row:=some b) h ⟨hw.os,hw.tape,hw.output,by rw[hw.size];exact Nat.le_refl _,fun k _ hk=>hw.block k (fun e=>hk (by rw[e]))⟩ (by
  cases aS:v.ownBlock with
  | none=>exact .inl rfl
  | some k=>exact .inr (by have:=(World.ownsRow.lt h k aS).1;intro e;injection e with e;omega))
theorem br.lt(h:br enc e sz base w v xs):∀k,v.ownBlock=some k→base≤k∧k<w.heap.size:=World.ownsRow.lt h
theorem br.form(h:br enc e sz base w v xs):∃bf cap,v = .slice bf xs.length cap∧xs.length≤cap∧cap≤maxLen:=by
 obtain⟨bf,cap,h1,U,ai,_⟩:=Ru h;exact⟨bf,cap,h1,U,ai⟩
theorem br.pf(c5:∀x,(enc x).length=sz)(h:br enc e sz base w v xs):bE sz (Flat enc) w v xs:=abP c5 h
theorem br.head{bf:Option Addr}{n cap:Nat}(c5:∀x,(enc x).length=sz)(h:br enc e sz base w (.slice bf n cap) xs)(k:Nat)(hk:k≤xs.length):br enc e sz base w (.slice bf k cap) (xs.take k):=by
 have nr:∀(xs:List α) (k:Nat),(xs.flatMap enc).take (k*sz)=(xs.take k).flatMap enc:=by
  intro xs
  induction xs with
  | nil=>intro k;simp
  | cons x xs eo =>
   intro k;cases k with
   | zero=>simp
   | succ k =>
    simp only[List.flatMap_cons,List.take_succ_cons];rw[List.take_append,c5,show(k+1)*sz - sz=k*sz from by rw[Nat.add_mul];omega,eo,List.take_of_length_le (by rw[c5,Nat.add_mul];omega)]
 have aN:(xs.take k).length=k:=by simp[List.length_take];omega
 refine⟨by rw[aN,uY c5,aN],?_⟩;rcases h.2 with ⟨h1,U⟩ | ⟨g,mu,cur,h1,U,ai,aL,bt,bM,b6⟩
 ·injection h1 with bS aZ bJ
  subst bS bJ
  have:xs.length=0:=U
  exact .inl ⟨by congr 1;omega,by omega⟩
 ·injection h1 with bS aZ bJ
  subst bS bJ;refine .inr ⟨g,cap,cur,by rw[aN],U,ai,by omega,bt,bM,?_⟩;rw[aN,←nr,←b6,List.take_take,Nat.min_eq_left (Nat.mul_le_mul_right _ hk)]
theorem K.qs{P:Program}{cI:Value→World→Prop}{ty:TypeId}{b:Nat}{s:Value}{a:Addr}{m c:Nat}{ys:List α}{t}(aw:br enc e sz base w s xs)(c5:∀x,(enc x).length=sz)(ay:e2 w a (ys.flatMap enc))(hm:m=ys.length)
  (h1:∀y,∀u∈enc y,u.oneCell'=true)(aA:(xs.length+ys.length)*b≤140737488355328)(ja:xs.length+ys.length≤maxLen)(ix:base≤w.heap.size)
  (hk:∀b7 w',br enc e sz base w' b7 (xs++ys)→w.grownBy w' s.ownBlock→cI b7 w'):jZ P ty e sz b s (.slice (some a) m c) w cI t:=by
 subst hm;refine K.T4 aw ay (uY c5 ys) (fun u hu=>by obtain⟨y,_,cS⟩:=List.mem_flatMap.1 hu;exact h1 y u cS) ja aA ix fun b7 w' r0 aX=>hk b7 w' ?_ aX;unfold br;rw[List.length_append,List.flatMap_append];exact r0
end
end bn
end